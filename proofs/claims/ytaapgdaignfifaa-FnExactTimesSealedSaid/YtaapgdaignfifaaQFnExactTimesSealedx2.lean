import Derived.Test.YtaapgdaignfifaaSqueeze
import Derived.Test.YtaapgdaignfifaaQFnExactTimesSealedx0
import Derived.Test.YtaapgdaignfifaaQFnExactTimesSealedx1
namespace Go.Proofs.Ytaapgdaignfifaa.QFnExactTimesSealed
open Go.RowKit Go.Proofs.YtaapgdaignfifaaW.PrintWords Go.Proofs.YtaapgdaignfifaaW.PrintLast Go.Proofs.YtaapgdaignfifaaW.PrintMore
attribute [local go_sem] max2_int min2_int max_two min_two max_three min_three max_four min_four   -- for this text's walks alone
set_option linter.unusedVariables false
set_option linter.unusedSimpArgs false

/-! ### laws_FnExactTimesSealed: function 13 -/
def laws_FnExactTimesSealed.f (k : Nat) (a0_0 : Int) (a0_1 : Int) (a1_0 : Int) (a1_1 : Int) : Option (Bool) := (laws_toSealed.f a0_0 a0_1).bind fun bt135 => ((laws_toSealed.f a1_0 a1_1).bind fun bt137 => ((spec_TimesSealed.f k bt135.1 bt135.2 bt137.1 bt137.2).bind fun bt139 => ((laws_toSealed.f a0_0 a0_1).bind fun bt143 => ((laws_toSealed.f a1_0 a1_1).bind fun bt145 => ((impl_TimesSealed.f k bt143.1 bt143.2 bt145.1 bt145.2).bind fun bt147 => ((laws_eqSealed.f bt147.1 bt147.2.1 bt139.1 bt139.2.1).bind fun t151 => (if t151 = true then (if (bt147.2.2 != bt139.2.2) = true then (some false) else (some true)) else (some false))))))))
theorem laws_FnExactTimesSealed.mono : ∀ a0 a1 a2 a3 k, LeO (laws_FnExactTimesSealed.f k a0 a1 a2 a3) (laws_FnExactTimesSealed.f (k + 1) a0 a1 a2 a3) := by
  intro a0 a1 a2 a3 k
  unfold laws_FnExactTimesSealed.f
  repeat' first
      | (with_reducible exact impl_TimesSealed.mono _ _ _ _ _)
      | (with_reducible exact spec_TimesSealed.mono _ _ _ _ _)
      | (with_reducible exact LeO.refl _)
      | (with_reducible exact LeO.none _)
      | (with_reducible refine LeO.ite ?_ ?_)
      | (with_reducible refine LeO.bind ?_ (fun _ => ?_))
      | exact impl_TimesSealed.mono _ _ _ _ _
      | exact spec_TimesSealed.mono _ _ _ _ _
      | exact LeO.none _
      | refine LeO.ite ?_ ?_
      | refine LeO.bind ?_ (fun _ => ?_)
def laws_FnExactTimesSealed.T1 : Bool × List (List Nat × List Nat) := (true, [([], []), ([0], [0]), ([], []), ([2, 1], [2]), ([1, 3, 3], [1, 3]), ([4], [4]), ([5], [5]), ([5], [5]), ([], []), ([8, 6, 4, 0, 1, 2, 3, 4, 5, 6, 8], [6, 8]), ([7, 9, 0, 1, 2, 3, 4, 5, 6, 7, 8, 9], [7])])
def laws_FnExactTimesSealed.B1 : List Nat := [0, 1, 0, 7, 15, 31, 63, 63, 0, 383, 1023]
theorem laws_FnExactTimesSealed.tab1 : rtab .any (opsOf Try.f13 1) = laws_FnExactTimesSealed.T1 := by kernel_rfl
theorem laws_FnExactTimesSealed.bits1 : waitsOk laws_FnExactTimesSealed.T1.2 laws_FnExactTimesSealed.B1 = true := by kernel_rfl
def laws_FnExactTimesSealed.T2 : Bool × List (List Nat × List Nat) := (true, [([], []), ([0], [0]), ([], []), ([2, 1], [2]), ([1, 3, 3], [1, 3]), ([4], [4]), ([5], [5]), ([5], [5]), ([], []), ([8, 6, 4, 0, 1, 2, 3, 4, 5, 6, 8], [6, 8]), ([7, 9, 0, 1, 2, 3, 4, 5, 6, 7, 8, 9], [7])])
def laws_FnExactTimesSealed.B2 : List Nat := [0, 1, 0, 7, 15, 31, 63, 63, 0, 383, 1023]
theorem laws_FnExactTimesSealed.tab2 : rtab .any (opsOf Try.f13 2) = laws_FnExactTimesSealed.T2 := by kernel_rfl
theorem laws_FnExactTimesSealed.bits2 : waitsOk laws_FnExactTimesSealed.T2.2 laws_FnExactTimesSealed.B2 = true := by kernel_rfl
set_option maxHeartbeats 8000000 in
set_option maxRecDepth 100000 in
theorem laws_FnExactTimesSealed.calls (k : Nat) (a0_0 : Int) (a0_1 : Int) (a1_0 : Int) (a1_1 : Int) (_r : Bool) (w : World) (h : laws_FnExactTimesSealed.f k a0_0 a0_1 a1_0 a1_1 = some true) :
    Calls Try.prog 13 #[.agg #[.int .i64 a0_0, .int .i64 a0_1], .agg #[.int .i64 a1_0, .int .i64 a1_1]] w fun e w' => e = .returned (.bool true) ∧ Below w.heap.size w w' := by
 have hu29 := Try.underlying29
 have hu31 := Try.underlying31
 have HB := Aside0.mk (Below.refl w.heap.size w)
 have H : ((laws_toSealed.f a0_0 a0_1).bind fun bt135 => ((laws_toSealed.f a1_0 a1_1).bind fun bt137 => ((spec_TimesSealed.f k bt135.1 bt135.2 bt137.1 bt137.2).bind fun bt139 => ((laws_toSealed.f a0_0 a0_1).bind fun bt143 => ((laws_toSealed.f a1_0 a1_1).bind fun bt145 => ((impl_TimesSealed.f k bt143.1 bt143.2 bt145.1 bt145.2).bind fun bt147 => ((laws_eqSealed.f bt147.1 bt147.2.1 bt139.1 bt139.2.1).bind fun t151 => (if t151 = true then (if (bt147.2.2 != bt139.2.2) = true then (some false) else (some true)) else (some false))))))))) = some true := h
 clear h
 replace H := Option.bind_eq_some_iff.mp H
 obtain ⟨⟨t135, t136⟩, A30, H⟩ := H
 replace H : ((laws_toSealed.f a1_0 a1_1).bind fun bt137 => ((spec_TimesSealed.f k t135 t136 bt137.1 bt137.2).bind fun bt139 => ((laws_toSealed.f a0_0 a0_1).bind fun bt143 => ((laws_toSealed.f a1_0 a1_1).bind fun bt145 => ((impl_TimesSealed.f k bt143.1 bt143.2 bt145.1 bt145.2).bind fun bt147 => ((laws_eqSealed.f bt147.1 bt147.2.1 bt139.1 bt139.2.1).bind fun t151 => (if t151 = true then (if (bt147.2.2 != bt139.2.2) = true then (some false) else (some true)) else (some false)))))))) = some true := H
 have A3 := Aside0.mk A30
 clear A30
 replace H := Option.bind_eq_some_iff.mp H
 obtain ⟨⟨t137, t138⟩, A40, H⟩ := H
 replace H : ((spec_TimesSealed.f k t135 t136 t137 t138).bind fun bt139 => ((laws_toSealed.f a0_0 a0_1).bind fun bt143 => ((laws_toSealed.f a1_0 a1_1).bind fun bt145 => ((impl_TimesSealed.f k bt143.1 bt143.2 bt145.1 bt145.2).bind fun bt147 => ((laws_eqSealed.f bt147.1 bt147.2.1 bt139.1 bt139.2.1).bind fun t151 => (if t151 = true then (if (bt147.2.2 != bt139.2.2) = true then (some false) else (some true)) else (some false))))))) = some true := H
 have A4 := Aside0.mk A40
 clear A40
 replace H := Option.bind_eq_some_iff.mp H
 obtain ⟨⟨t139, t140, t141⟩, A50, H⟩ := H
 replace H : ((laws_toSealed.f a0_0 a0_1).bind fun bt143 => ((laws_toSealed.f a1_0 a1_1).bind fun bt145 => ((impl_TimesSealed.f k bt143.1 bt143.2 bt145.1 bt145.2).bind fun bt147 => ((laws_eqSealed.f bt147.1 bt147.2.1 t139 t140).bind fun t151 => (if t151 = true then (if (bt147.2.2 != t141) = true then (some false) else (some true)) else (some false)))))) = some true := H
 have A5 := Aside0.mk A50
 clear A50
 replace H := Option.bind_eq_some_iff.mp H
 obtain ⟨⟨t143, t144⟩, A60, H⟩ := H
 replace H : ((laws_toSealed.f a1_0 a1_1).bind fun bt145 => ((impl_TimesSealed.f k t143 t144 bt145.1 bt145.2).bind fun bt147 => ((laws_eqSealed.f bt147.1 bt147.2.1 t139 t140).bind fun t151 => (if t151 = true then (if (bt147.2.2 != t141) = true then (some false) else (some true)) else (some false))))) = some true := H
 have A6 := Aside0.mk A60
 clear A60
 replace H := Option.bind_eq_some_iff.mp H
 obtain ⟨⟨t145, t146⟩, A70, H⟩ := H
 replace H : ((impl_TimesSealed.f k t143 t144 t145 t146).bind fun bt147 => ((laws_eqSealed.f bt147.1 bt147.2.1 t139 t140).bind fun t151 => (if t151 = true then (if (bt147.2.2 != t141) = true then (some false) else (some true)) else (some false)))) = some true := H
 have A7 := Aside0.mk A70
 clear A70
 replace H := Option.bind_eq_some_iff.mp H
 obtain ⟨⟨t147, t148, t149⟩, A80, H⟩ := H
 replace H : ((laws_eqSealed.f t147 t148 t139 t140).bind fun t151 => (if t151 = true then (if (t149 != t141) = true then (some false) else (some true)) else (some false))) = some true := H
 have A8 := Aside0.mk A80
 clear A80
 replace H := Option.bind_eq_some_iff.mp H
 obtain ⟨t151, A90, H⟩ := H
 replace H : (if t151 = true then (if (t149 != t141) = true then (some false) else (some true)) else (some false)) = some true := H
 have A9 := Aside0.mk A90
 clear A90
 by_cases c10 : t151 = true
 rotate_left
 · replace c10 := Bool.eq_false_iff.mpr c10
   subst c10
   have H1 : (some false) = some true := by rw [if_neg (show ¬ (false = true) by decide)] at H; exact H
   clear H
   have H := H1
   clear H1
   cases H
 subst c10
 have H1 : (if (t149 != t141) = true then (some false) else (some true)) = some true := by rw [if_pos rfl] at H; exact H
 clear H
 have H := H1
 clear H1
 by_cases c11 : (t149 != t141) = true
 · rw [if_pos c11] at H
   have c11b0 : (t149 != t141) = true := c11
   (try (have c11b1 : decide (t149 = t141) = false := by simpa using c11))
   (try (have c11b2 : (t149 == t141) = false := by simpa using c11))
   (try (have c11b3 : ¬ (t149 = t141) := by simpa using c11))
   clear c11
   cases H
 rw [if_neg c11] at H
 have c11b0 : (t149 != t141) = false := by simpa using c11
 (try (have c11b1 : decide (t149 = t141) = true := by simpa using c11))
 (try (have c11b2 : (t149 == t141) = true := by simpa using c11))
 clear c11
 clear H
 go_enter Try.func13, Try.ntmps13
 try go_wp2_with (first | ((with_reducible refine gate_dst (N := 2) rfl ?_); refine box_event ?hg (N := 2) ?hd (cs := #[.int .i64 a0_0, .int .i64 a0_1]) (t := 29) ?hr ?_; (case hd => rfl); (case hg => rfl); (case hr => first | (go_simp; done) | (go_simp; rfl)); intro gb133 hg w39 hbox hb; have n0_ := Aside0.mk (below_step (hq HB) hb); have n1_ := Aside0.mk (hbox); have n2_ := Aside0.mk (ng hg (hq HB)); have n3_ := Aside0.mk (ng hg (hq HB)); clear HB; have HB := n0_; have BK133 := n1_; have GW133 := n2_; have GE133 := n3_; clear n0_ n1_ n2_ n3_; clear hb hbox hg) | ((with_reducible refine gate_dst (N := 3) rfl ?_); refine box_event ?hg (N := 3) ?hd (cs := #[.int .i64 a1_0, .int .i64 a1_1]) (t := 29) ?hr ?_; (case hd => rfl); (case hg => rfl); (case hr => first | (go_simp; done) | (go_simp; rfl)); intro gb134 hg w40 hbox hb; have n0_ := Aside0.mk (bB BK133 hb); have n1_ := Aside0.mk (below_step (hq1 HB GE133) hb); have n2_ := Aside0.mk (hbox); have n3_ := Aside0.mk (ng hg (hq1 HB GE133)); have n4_ := Aside0.mk (ng hg (hq1 HB GE133)); have n5_ := Aside0.mk (nl hg BK133); have n6_ := Aside0.mk (nr hg BK133); clear BK133; clear HB; have BK133 := n0_; have HB := n1_; have BK134 := n2_; have GW134 := n3_; have GE134 := n4_; have NB133_134 := n5_; have NB134_133 := n6_; clear n0_ n1_ n2_ n3_ n4_ n5_ n6_; clear hb hbox hg))
 have n0_ := Aside0.mk (blk_drew BK133.out)
 have n1_ := Aside0.mk (blk_drew BK134.out)
 have n2_ := Aside0.mk (below_drew1 HB.out)
 clear BK133
 clear BK134
 clear HB
 have BK133 := n0_
 have BK134 := n1_
 have HB := n2_
 clear n0_ n1_ n2_
 refine start_ (n := 11) (S := fun w' => w'.cell? ⟨gb133, 0, none⟩ = some (.int .i64 a0_0) ∧ w'.cell? ⟨gb133, 1, none⟩ = some (.int .i64 a0_1) ∧ w'.cell? ⟨gb134, 0, none⟩ = some (.int .i64 a1_0) ∧ w'.cell? ⟨gb134, 1, none⟩ = some (.int .i64 a1_1)) (ds := []) #[false, false, false, false, false, false, false, false, false, false, false] (by kernel_rfl) rfl rfl ⟨(blk_cell BK133.out 0).trans rfl, (blk_cell BK133.out 1).trans rfl, (blk_cell BK134.out 0).trans rfl, (blk_cell BK134.out 1).trans rfl⟩ (fun hHeld => ?_); refine with_tabW laws_FnExactTimesSealed.tab1 laws_FnExactTimesSealed.bits1 (fun HT_ HW_ => ?_)
 generalize w40.drew = w41 at BK133 BK134 HB hHeld ⊢
 refine take_ (i := 0) (N := some 10) (v := ?_) (a' := ?_) #[true, false, false, false, false, false, false, false, false, false, false] rfl rfl (take_ofW HT_.out HW_.out (by kernel_rfl)) (fun _ _ _ h => h) (Or.inl ⟨by rfl, ?_⟩) hHeld ?_ ?_
 rotate_left
 · rintro w' ⟨s0, s1, s2, s3⟩
   go_simp
   with_reducible rfl
 rotate_left
 · simp only [Act.put, List.setIfInBounds_toArray, List.set_cons_zero, List.set_cons_succ, i64_w, i32_w]
   rfl
 refine take_ (i := 2) (N := some 12) (v := ?_) (a' := ?_) #[true, false, true, false, false, false, false, false, false, false, false] rfl rfl (take_ofW HT_.out HW_.out (by kernel_rfl)) (fun _ _ _ h => h) (Or.inl ⟨by rfl, ?_⟩) hHeld ?_ ?_
 rotate_left
 · rintro w' ⟨s0, s1, s2, s3⟩
   go_simp
   with_reducible rfl
 rotate_left
 · simp only [Act.put, List.setIfInBounds_toArray, List.set_cons_zero, List.set_cons_succ, i64_w, i32_w]
   rfl
 refine join_ (σ := Nat) 2 #[true, true, true, true, true, true, true, true, true, false, false] (fun s_ => [(11, .agg #[.int .i64 t135, .int .i64 t136]), (13, .agg #[.int .i64 t137, .int .i64 t138]), (14, .tuple #[.agg #[.int .i64 t139, .int .i64 t140], .bool t141]), (5, .pointer (some ⟨s_, 0, none⟩)), (9, .tuple #[.agg #[.int .i64 t139, .int .i64 t140], .bool t141]), (15, .agg #[.int .i64 t139, .int .i64 t140]), (16, .bool t141)]) (fun s_ w' => (w'.cell? ⟨gb133, 0, none⟩ = some (.int .i64 a0_0) ∧ w'.cell? ⟨gb133, 1, none⟩ = some (.int .i64 a0_1) ∧ w'.cell? ⟨gb134, 0, none⟩ = some (.int .i64 a1_0) ∧ w'.cell? ⟨gb134, 1, none⟩ = some (.int .i64 a1_1)) ∧ (w'.heap[gb133]? = some (.cells #[.int .i64 a0_0, .int .i64 a0_1] 29 (0, 0))) ∧ (w'.heap[gb134]? = some (.cells #[.int .i64 a1_0, .int .i64 a1_1] 29 (0, 0))) ∧ (w'.heap[s_]? = some (.cells #[.int .i64 0, .int .i64 0] 31 (0, 0))) ∧ (w.heap.size ≤ s_) ∧ (w.heap.size ≤ s_) ∧ (gb133 ≠ s_) ∧ (s_ ≠ gb133) ∧ (gb134 ≠ s_) ∧ (s_ ≠ gb134) ∧ (Below w.heap.size w w')) ?_ ?_
 rotate_left
 · intro hCont
   refine two_ (i := 1) (j := 8) (Ni := some 11) (Nj := some 5) #[true, true, true, false, false, false, false, false, false, false, false] #[true, false, true, false, false, false, false, false, true, false, false] rfl rfl rfl rfl (two_of HT_.out (by kernel_rfl)) (by decide) (by decide) (fun K hK => ?_) (fun K hK => ?_)
   · skip
     refine goes_ Try.func26 (by kernel_rfl) rfl #[.agg #[.int .i64 a0_0, .int .i64 a0_1]] (by rfl) rfl rfl (by (try simp only [List.map_toArray, List.map_cons, List.map_nil]); first | done | rfl | (simp only [List.length_drop, List.length_take]; rfl)) ?_
     with_reducible refine (laws_toSealed.calls a0_0 a0_1 t135 t136 _ A3.out).mono ?_
     rintro e w42 ⟨rfl, hb⟩
     refine ⟨_, rfl, ?_⟩
     have n0_ := Aside0.mk (bB BK133 hb)
     have n1_ := Aside0.mk (bB BK134 hb)
     have n2_ := Aside0.mk (below_step (hq2 HB GE133 GE134) hb)
     clear BK133
     clear BK134
     clear HB
     have BK133 := n0_
     have BK134 := n1_
     have HB := n2_
     clear n0_ n1_ n2_
     (try clear hb)
     (try clear hb2)
     (try clear hk)
     (try clear hi)
     refine hK.out _ _ ⟨(blk_cell BK133.out 0).trans rfl, (blk_cell BK133.out 1).trans rfl, (blk_cell BK134.out 0).trans rfl, (blk_cell BK134.out 1).trans rfl⟩ (fun hHeld => ?_)
     clear hK K
     refine norm_ (a' := ?_) ?_ ?_
     rotate_left
     · show Act.put _ (some 11) _ = _
       simp only [Act.put, List.setIfInBounds_toArray, List.set_cons_zero, List.set_cons_succ, i64_w, i32_w]
       rfl
     refine two_ (i := 3) (j := 8) (Ni := some 13) (Nj := some 5) #[true, true, true, true, false, false, false, false, false, false, false] #[true, true, true, false, false, false, false, false, true, false, false] rfl rfl rfl rfl (two_of HT_.out (by kernel_rfl)) (by decide) (by decide) (fun K hK => ?_) (fun K hK => ?_)
     · skip
       refine goes_ Try.func26 (by kernel_rfl) rfl #[.agg #[.int .i64 a1_0, .int .i64 a1_1]] (by rfl) rfl rfl (by (try simp only [List.map_toArray, List.map_cons, List.map_nil]); first | done | rfl | (simp only [List.length_drop, List.length_take]; rfl)) ?_
       with_reducible refine (laws_toSealed.calls a1_0 a1_1 t137 t138 _ A4.out).mono ?_
       rintro e w43 ⟨rfl, hb⟩
       refine ⟨_, rfl, ?_⟩
       have n0_ := Aside0.mk (bB BK133 hb)
       have n1_ := Aside0.mk (bB BK134 hb)
       have n2_ := Aside0.mk (below_step (hq2 HB GE133 GE134) hb)
       clear BK133
       clear BK134
       clear HB
       have BK133 := n0_
       have BK134 := n1_
       have HB := n2_
       clear n0_ n1_ n2_
       (try clear hb)
       (try clear hb2)
       (try clear hk)
       (try clear hi)
       refine hK.out _ _ ⟨(blk_cell BK133.out 0).trans rfl, (blk_cell BK133.out 1).trans rfl, (blk_cell BK134.out 0).trans rfl, (blk_cell BK134.out 1).trans rfl⟩ (fun hHeld => ?_)
       clear hK K
       refine norm_ (a' := ?_) ?_ ?_
       rotate_left
       · show Act.put _ (some 13) _ = _
         simp only [Act.put, List.setIfInBounds_toArray, List.set_cons_zero, List.set_cons_succ, i64_w, i32_w]
         rfl
       refine two_ (i := 4) (j := 8) (Ni := some 14) (Nj := some 5) #[true, true, true, true, true, false, false, false, false, false, false] #[true, true, true, true, false, false, false, false, true, false, false] rfl rfl rfl rfl (two_of HT_.out (by kernel_rfl)) (by decide) (by decide) (fun K hK => ?_) (fun K hK => ?_)
       · skip
         refine goes_ Try.func35 (by kernel_rfl) rfl #[.agg #[.int .i64 t135, .int .i64 t136], .agg #[.int .i64 t137, .int .i64 t138]] (by rfl) rfl rfl (by (try simp only [List.map_toArray, List.map_cons, List.map_nil]); first | done | rfl | (simp only [List.length_drop, List.length_take]; rfl)) ?_
         with_reducible refine (spec_TimesSealed.calls k t135 t136 t137 t138 t139 t140 t141 _ A5.out).mono ?_
         rintro e w44 ⟨rfl, hb⟩
         refine ⟨_, rfl, ?_⟩
         have n0_ := Aside0.mk (bB BK133 hb)
         have n1_ := Aside0.mk (bB BK134 hb)
         have n2_ := Aside0.mk (below_step (hq2 HB GE133 GE134) hb)
         clear BK133
         clear BK134
         clear HB
         have BK133 := n0_
         have BK134 := n1_
         have HB := n2_
         clear n0_ n1_ n2_
         (try clear hb)
         (try clear hb2)
         (try clear hk)
         (try clear hi)
         refine hK.out _ _ ⟨(blk_cell BK133.out 0).trans rfl, (blk_cell BK133.out 1).trans rfl, (blk_cell BK134.out 0).trans rfl, (blk_cell BK134.out 1).trans rfl⟩ (fun hHeld => ?_)
         clear hK K
         refine norm_ (a' := ?_) ?_ ?_
         rotate_left
         · show Act.put _ (some 14) _ = _
           simp only [Act.put, List.setIfInBounds_toArray, List.set_cons_zero, List.set_cons_succ, i64_w, i32_w]
           rfl
         refine pure_ (i := 5) (N := some 9) (v := ?_) (a' := ?_) #[true, true, true, true, true, true, false, false, false, false, false] rfl rfl (any_of HT_.out (by kernel_rfl)) (fun _ _ _ h => h) (Or.inl ⟨by rfl, ?_⟩) ?_ ?_
         rotate_left
         · intro w'
           first | (go_simp; with_reducible rfl) | (go_simp; unfold Instr.field; go_simp; rfl)
         rotate_left
         · simp only [Act.put, List.setIfInBounds_toArray, List.set_cons_zero, List.set_cons_succ, i64_w, i32_w]
           rfl
         refine pure_ (i := 6) (N := some 15) (v := ?_) (a' := ?_) #[true, true, true, true, true, true, true, false, false, false, false] rfl rfl (any_of HT_.out (by kernel_rfl)) (fun _ _ _ h => h) (Or.inl ⟨by rfl, ?_⟩) ?_ ?_
         rotate_left
         · intro w'
           first | (go_simp; with_reducible rfl) | (go_simp; unfold Instr.field; go_simp; rfl)
         rotate_left
         · simp only [Act.put, List.setIfInBounds_toArray, List.set_cons_zero, List.set_cons_succ, i64_w, i32_w]
           rfl
         refine pure_ (i := 7) (N := some 16) (v := ?_) (a' := ?_) #[true, true, true, true, true, true, true, true, false, false, false] rfl rfl (any_of HT_.out (by kernel_rfl)) (fun _ _ _ h => h) (Or.inl ⟨by rfl, ?_⟩) ?_ ?_
         rotate_left
         · intro w'
           first | (go_simp; with_reducible rfl) | (go_simp; unfold Instr.field; go_simp; rfl)
         rotate_left
         · simp only [Act.put, List.setIfInBounds_toArray, List.set_cons_zero, List.set_cons_succ, i64_w, i32_w]
           rfl
         refine one_ (i := 8) (N := some 5) #[true, true, true, true, true, true, true, true, true, false, false] rfl rfl (one_of HT_.out (by kernel_rfl)) (by decide) (fun K hK => ?_)
         refine box_step ?hg (N := 5) ?hd (cs := #[.int .i64 0, .int .i64 0]) (t := 31) ?hr ?_; (case hd => rfl); (case hg => rfl); (case hr => first | (go_simp; done) | (go_simp; rfl))
         intro gb142 hg w45 hbox hb
         have n0_ := Aside0.mk (bB BK133 hb)
         have n1_ := Aside0.mk (bB BK134 hb)
         have n2_ := Aside0.mk (below_step (hq2 HB GE133 GE134) hb)
         have n3_ := Aside0.mk (hbox)
         have n4_ := Aside0.mk (ng hg (hq2 HB GE133 GE134))
         have n5_ := Aside0.mk (ng hg (hq2 HB GE133 GE134))
         have n6_ := Aside0.mk (nl hg BK133)
         have n7_ := Aside0.mk (nr hg BK133)
         have n8_ := Aside0.mk (nl hg BK134)
         have n9_ := Aside0.mk (nr hg BK134)
         clear BK133
         clear BK134
         clear HB
         have BK133 := n0_
         have BK134 := n1_
         have HB := n2_
         have BK142 := n3_
         have GW142 := n4_
         have GE142 := n5_
         have NB133_142 := n6_
         have NB142_133 := n7_
         have NB134_142 := n8_
         have NB142_134 := n9_
         clear n0_ n1_ n2_ n3_ n4_ n5_ n6_ n7_ n8_ n9_
         clear hb hbox hg
         refine hK.out _ _ ⟨(blk_cell BK133.out 0).trans rfl, (blk_cell BK133.out 1).trans rfl, (blk_cell BK134.out 0).trans rfl, (blk_cell BK134.out 1).trans rfl⟩ (fun hHeld => ?_)
         clear hK K
         refine norm_ (a' := ?_) ?_ ?_
         rotate_left
         · show Act.put _ (some 5) _ = _
           simp only [Act.put, List.setIfInBounds_toArray, List.set_cons_zero, List.set_cons_succ, i64_w, i32_w]
           rfl
         exact norm_ (by simp only [putAll, Act.put, List.setIfInBounds_toArray, List.set_cons_zero, List.set_cons_succ]) (hCont (gb142) _ ⟨hHeld, (bq BK133), (bq BK134), (bq BK142), GW142.out, GE142.out, NB133_142.out, NB142_133.out, NB134_142.out, NB142_134.out, (hq3 HB GE133 GE134 GE142)⟩)
       skip
       refine box_step ?hg (N := 5) ?hd (cs := #[.int .i64 0, .int .i64 0]) (t := 31) ?hr ?_; (case hd => rfl); (case hg => rfl); (case hr => first | (go_simp; done) | (go_simp; rfl))
       intro gb142 hg w44 hbox hb
       have n0_ := Aside0.mk (bB BK133 hb)
       have n1_ := Aside0.mk (bB BK134 hb)
       have n2_ := Aside0.mk (below_step (hq2 HB GE133 GE134) hb)
       have n3_ := Aside0.mk (hbox)
       have n4_ := Aside0.mk (ng hg (hq2 HB GE133 GE134))
       have n5_ := Aside0.mk (ng hg (hq2 HB GE133 GE134))
       have n6_ := Aside0.mk (nl hg BK133)
       have n7_ := Aside0.mk (nr hg BK133)
       have n8_ := Aside0.mk (nl hg BK134)
       have n9_ := Aside0.mk (nr hg BK134)
       clear BK133
       clear BK134
       clear HB
       have BK133 := n0_
       have BK134 := n1_
       have HB := n2_
       have BK142 := n3_
       have GW142 := n4_
       have GE142 := n5_
       have NB133_142 := n6_
       have NB142_133 := n7_
       have NB134_142 := n8_
       have NB142_134 := n9_
       clear n0_ n1_ n2_ n3_ n4_ n5_ n6_ n7_ n8_ n9_
       clear hb hbox hg
       refine hK.out _ _ ⟨(blk_cell BK133.out 0).trans rfl, (blk_cell BK133.out 1).trans rfl, (blk_cell BK134.out 0).trans rfl, (blk_cell BK134.out 1).trans rfl⟩ (fun hHeld => ?_)
       clear hK K
       refine norm_ (a' := ?_) ?_ ?_
       rotate_left
       · show Act.put _ (some 5) _ = _
         simp only [Act.put, List.setIfInBounds_toArray, List.set_cons_zero, List.set_cons_succ, i64_w, i32_w]
         rfl
       refine one_ (i := 4) (N := some 14) #[true, true, true, true, true, false, false, false, true, false, false] rfl rfl (one_of HT_.out (by kernel_rfl)) (by decide) (fun K hK => ?_)
       refine goes_ Try.func35 (by kernel_rfl) rfl #[.agg #[.int .i64 t135, .int .i64 t136], .agg #[.int .i64 t137, .int .i64 t138]] (by rfl) rfl rfl (by (try simp only [List.map_toArray, List.map_cons, List.map_nil]); first | done | rfl | (simp only [List.length_drop, List.length_take]; rfl)) ?_
       with_reducible refine (spec_TimesSealed.calls k t135 t136 t137 t138 t139 t140 t141 _ A5.out).mono ?_
       rintro e w45 ⟨rfl, hb⟩
       refine ⟨_, rfl, ?_⟩
       have n0_ := Aside0.mk (bB BK133 hb)
       have n1_ := Aside0.mk (bB BK134 hb)
       have n2_ := Aside0.mk (bB BK142 hb)
       have n3_ := Aside0.mk (below_step (hq3 HB GE133 GE134 GE142) hb)
       clear BK133
       clear BK134
       clear BK142
       clear HB
       have BK133 := n0_
       have BK134 := n1_
       have BK142 := n2_
       have HB := n3_
       clear n0_ n1_ n2_ n3_
       (try clear hb)
       (try clear hb2)
       (try clear hk)
       (try clear hi)
       refine hK.out _ _ ⟨(blk_cell BK133.out 0).trans rfl, (blk_cell BK133.out 1).trans rfl, (blk_cell BK134.out 0).trans rfl, (blk_cell BK134.out 1).trans rfl⟩ (fun hHeld => ?_)
       clear hK K
       refine norm_ (a' := ?_) ?_ ?_
       rotate_left
       · show Act.put _ (some 14) _ = _
         simp only [Act.put, List.setIfInBounds_toArray, List.set_cons_zero, List.set_cons_succ, i64_w, i32_w]
         rfl
       refine pure_ (i := 5) (N := some 9) (v := ?_) (a' := ?_) #[true, true, true, true, true, true, false, false, true, false, false] rfl rfl (any_of HT_.out (by kernel_rfl)) (fun _ _ _ h => h) (Or.inl ⟨by rfl, ?_⟩) ?_ ?_
       rotate_left
       · intro w'
         first | (go_simp; with_reducible rfl) | (go_simp; unfold Instr.field; go_simp; rfl)
       rotate_left
       · simp only [Act.put, List.setIfInBounds_toArray, List.set_cons_zero, List.set_cons_succ, i64_w, i32_w]
         rfl
       refine pure_ (i := 6) (N := some 15) (v := ?_) (a' := ?_) #[true, true, true, true, true, true, true, false, true, false, false] rfl rfl (any_of HT_.out (by kernel_rfl)) (fun _ _ _ h => h) (Or.inl ⟨by rfl, ?_⟩) ?_ ?_
       rotate_left
       · intro w'
         first | (go_simp; with_reducible rfl) | (go_simp; unfold Instr.field; go_simp; rfl)
       rotate_left
       · simp only [Act.put, List.setIfInBounds_toArray, List.set_cons_zero, List.set_cons_succ, i64_w, i32_w]
         rfl
       refine pure_ (i := 7) (N := some 16) (v := ?_) (a' := ?_) #[true, true, true, true, true, true, true, true, true, false, false] rfl rfl (any_of HT_.out (by kernel_rfl)) (fun _ _ _ h => h) (Or.inl ⟨by rfl, ?_⟩) ?_ ?_
       rotate_left
       · intro w'
         first | (go_simp; with_reducible rfl) | (go_simp; unfold Instr.field; go_simp; rfl)
       rotate_left
       · simp only [Act.put, List.setIfInBounds_toArray, List.set_cons_zero, List.set_cons_succ, i64_w, i32_w]
         rfl
       exact norm_ (by simp only [putAll, Act.put, List.setIfInBounds_toArray, List.set_cons_zero, List.set_cons_succ]) (hCont (gb142) _ ⟨hHeld, (bq BK133), (bq BK134), (bq BK142), GW142.out, GE142.out, NB133_142.out, NB142_133.out, NB134_142.out, NB142_134.out, (hq3 HB GE133 GE134 GE142)⟩)
     skip
     refine box_step ?hg (N := 5) ?hd (cs := #[.int .i64 0, .int .i64 0]) (t := 31) ?hr ?_; (case hd => rfl); (case hg => rfl); (case hr => first | (go_simp; done) | (go_simp; rfl))
     intro gb142 hg w43 hbox hb
     have n0_ := Aside0.mk (bB BK133 hb)
     have n1_ := Aside0.mk (bB BK134 hb)
     have n2_ := Aside0.mk (below_step (hq2 HB GE133 GE134) hb)
     have n3_ := Aside0.mk (hbox)
     have n4_ := Aside0.mk (ng hg (hq2 HB GE133 GE134))
     have n5_ := Aside0.mk (ng hg (hq2 HB GE133 GE134))
     have n6_ := Aside0.mk (nl hg BK133)
     have n7_ := Aside0.mk (nr hg BK133)
     have n8_ := Aside0.mk (nl hg BK134)
     have n9_ := Aside0.mk (nr hg BK134)
     clear BK133
     clear BK134
     clear HB
     have BK133 := n0_
     have BK134 := n1_
     have HB := n2_
     have BK142 := n3_
     have GW142 := n4_
     have GE142 := n5_
     have NB133_142 := n6_
     have NB142_133 := n7_
     have NB134_142 := n8_
     have NB142_134 := n9_
     clear n0_ n1_ n2_ n3_ n4_ n5_ n6_ n7_ n8_ n9_
     clear hb hbox hg
     refine hK.out _ _ ⟨(blk_cell BK133.out 0).trans rfl, (blk_cell BK133.out 1).trans rfl, (blk_cell BK134.out 0).trans rfl, (blk_cell BK134.out 1).trans rfl⟩ (fun hHeld => ?_)
     clear hK K
     refine norm_ (a' := ?_) ?_ ?_
     rotate_left
     · show Act.put _ (some 5) _ = _
       simp only [Act.put, List.setIfInBounds_toArray, List.set_cons_zero, List.set_cons_succ, i64_w, i32_w]
       rfl
     refine one_ (i := 3) (N := some 13) #[true, true, true, true, false, false, false, false, true, false, false] rfl rfl (one_of HT_.out (by kernel_rfl)) (by decide) (fun K hK => ?_)
     refine goes_ Try.func26 (by kernel_rfl) rfl #[.agg #[.int .i64 a1_0, .int .i64 a1_1]] (by rfl) rfl rfl (by (try simp only [List.map_toArray, List.map_cons, List.map_nil]); first | done | rfl | (simp only [List.length_drop, List.length_take]; rfl)) ?_
     with_reducible refine (laws_toSealed.calls a1_0 a1_1 t137 t138 _ A4.out).mono ?_
     rintro e w44 ⟨rfl, hb⟩
     refine ⟨_, rfl, ?_⟩
     have n0_ := Aside0.mk (bB BK133 hb)
     have n1_ := Aside0.mk (bB BK134 hb)
     have n2_ := Aside0.mk (bB BK142 hb)
     have n3_ := Aside0.mk (below_step (hq3 HB GE133 GE134 GE142) hb)
     clear BK133
     clear BK134
     clear BK142
     clear HB
     have BK133 := n0_
     have BK134 := n1_
     have BK142 := n2_
     have HB := n3_
     clear n0_ n1_ n2_ n3_
     (try clear hb)
     (try clear hb2)
     (try clear hk)
     (try clear hi)
     refine hK.out _ _ ⟨(blk_cell BK133.out 0).trans rfl, (blk_cell BK133.out 1).trans rfl, (blk_cell BK134.out 0).trans rfl, (blk_cell BK134.out 1).trans rfl⟩ (fun hHeld => ?_)
     clear hK K
     refine norm_ (a' := ?_) ?_ ?_
     rotate_left
     · show Act.put _ (some 13) _ = _
       simp only [Act.put, List.setIfInBounds_toArray, List.set_cons_zero, List.set_cons_succ, i64_w, i32_w]
       rfl
     refine one_ (i := 4) (N := some 14) #[true, true, true, true, true, false, false, false, true, false, false] rfl rfl (one_of HT_.out (by kernel_rfl)) (by decide) (fun K hK => ?_)
     refine goes_ Try.func35 (by kernel_rfl) rfl #[.agg #[.int .i64 t135, .int .i64 t136], .agg #[.int .i64 t137, .int .i64 t138]] (by rfl) rfl rfl (by (try simp only [List.map_toArray, List.map_cons, List.map_nil]); first | done | rfl | (simp only [List.length_drop, List.length_take]; rfl)) ?_
     with_reducible refine (spec_TimesSealed.calls k t135 t136 t137 t138 t139 t140 t141 _ A5.out).mono ?_
     rintro e w45 ⟨rfl, hb⟩
     refine ⟨_, rfl, ?_⟩
     have n0_ := Aside0.mk (bB BK133 hb)
     have n1_ := Aside0.mk (bB BK134 hb)
     have n2_ := Aside0.mk (bB BK142 hb)
     have n3_ := Aside0.mk (below_step (hq3 HB GE133 GE134 GE142) hb)
     clear BK133
     clear BK134
     clear BK142
     clear HB
     have BK133 := n0_
     have BK134 := n1_
     have BK142 := n2_
     have HB := n3_
     clear n0_ n1_ n2_ n3_
     (try clear hb)
     (try clear hb2)
     (try clear hk)
     (try clear hi)
     refine hK.out _ _ ⟨(blk_cell BK133.out 0).trans rfl, (blk_cell BK133.out 1).trans rfl, (blk_cell BK134.out 0).trans rfl, (blk_cell BK134.out 1).trans rfl⟩ (fun hHeld => ?_)
     clear hK K
     refine norm_ (a' := ?_) ?_ ?_
     rotate_left
     · show Act.put _ (some 14) _ = _
       simp only [Act.put, List.setIfInBounds_toArray, List.set_cons_zero, List.set_cons_succ, i64_w, i32_w]
       rfl
     refine pure_ (i := 5) (N := some 9) (v := ?_) (a' := ?_) #[true, true, true, true, true, true, false, false, true, false, false] rfl rfl (any_of HT_.out (by kernel_rfl)) (fun _ _ _ h => h) (Or.inl ⟨by rfl, ?_⟩) ?_ ?_
     rotate_left
     · intro w'
       first | (go_simp; with_reducible rfl) | (go_simp; unfold Instr.field; go_simp; rfl)
     rotate_left
     · simp only [Act.put, List.setIfInBounds_toArray, List.set_cons_zero, List.set_cons_succ, i64_w, i32_w]
       rfl
     refine pure_ (i := 6) (N := some 15) (v := ?_) (a' := ?_) #[true, true, true, true, true, true, true, false, true, false, false] rfl rfl (any_of HT_.out (by kernel_rfl)) (fun _ _ _ h => h) (Or.inl ⟨by rfl, ?_⟩) ?_ ?_
     rotate_left
     · intro w'
       first | (go_simp; with_reducible rfl) | (go_simp; unfold Instr.field; go_simp; rfl)
     rotate_left
     · simp only [Act.put, List.setIfInBounds_toArray, List.set_cons_zero, List.set_cons_succ, i64_w, i32_w]
       rfl
     refine pure_ (i := 7) (N := some 16) (v := ?_) (a' := ?_) #[true, true, true, true, true, true, true, true, true, false, false] rfl rfl (any_of HT_.out (by kernel_rfl)) (fun _ _ _ h => h) (Or.inl ⟨by rfl, ?_⟩) ?_ ?_
     rotate_left
     · intro w'
       first | (go_simp; with_reducible rfl) | (go_simp; unfold Instr.field; go_simp; rfl)
     rotate_left
     · simp only [Act.put, List.setIfInBounds_toArray, List.set_cons_zero, List.set_cons_succ, i64_w, i32_w]
       rfl
     exact norm_ (by simp only [putAll, Act.put, List.setIfInBounds_toArray, List.set_cons_zero, List.set_cons_succ]) (hCont (gb142) _ ⟨hHeld, (bq BK133), (bq BK134), (bq BK142), GW142.out, GE142.out, NB133_142.out, NB142_133.out, NB134_142.out, NB142_134.out, (hq3 HB GE133 GE134 GE142)⟩)
   skip
   refine box_step ?hg (N := 5) ?hd (cs := #[.int .i64 0, .int .i64 0]) (t := 31) ?hr ?_; (case hd => rfl); (case hg => rfl); (case hr => first | (go_simp; done) | (go_simp; rfl))
   intro gb142 hg w42 hbox hb
   have n0_ := Aside0.mk (bB BK133 hb)
   have n1_ := Aside0.mk (bB BK134 hb)
   have n2_ := Aside0.mk (below_step (hq2 HB GE133 GE134) hb)
   have n3_ := Aside0.mk (hbox)
   have n4_ := Aside0.mk (ng hg (hq2 HB GE133 GE134))
   have n5_ := Aside0.mk (ng hg (hq2 HB GE133 GE134))
   have n6_ := Aside0.mk (nl hg BK133)
   have n7_ := Aside0.mk (nr hg BK133)
   have n8_ := Aside0.mk (nl hg BK134)
   have n9_ := Aside0.mk (nr hg BK134)
   clear BK133
   clear BK134
   clear HB
   have BK133 := n0_
   have BK134 := n1_
   have HB := n2_
   have BK142 := n3_
   have GW142 := n4_
   have GE142 := n5_
   have NB133_142 := n6_
   have NB142_133 := n7_
   have NB134_142 := n8_
   have NB142_134 := n9_
   clear n0_ n1_ n2_ n3_ n4_ n5_ n6_ n7_ n8_ n9_
   clear hb hbox hg
   refine hK.out _ _ ⟨(blk_cell BK133.out 0).trans rfl, (blk_cell BK133.out 1).trans rfl, (blk_cell BK134.out 0).trans rfl, (blk_cell BK134.out 1).trans rfl⟩ (fun hHeld => ?_)
   clear hK K
   refine norm_ (a' := ?_) ?_ ?_
   rotate_left
   · show Act.put _ (some 5) _ = _
     simp only [Act.put, List.setIfInBounds_toArray, List.set_cons_zero, List.set_cons_succ, i64_w, i32_w]
     rfl
   refine one_ (i := 1) (N := some 11) #[true, true, true, false, false, false, false, false, true, false, false] rfl rfl (one_of HT_.out (by kernel_rfl)) (by decide) (fun K hK => ?_)
   refine goes_ Try.func26 (by kernel_rfl) rfl #[.agg #[.int .i64 a0_0, .int .i64 a0_1]] (by rfl) rfl rfl (by (try simp only [List.map_toArray, List.map_cons, List.map_nil]); first | done | rfl | (simp only [List.length_drop, List.length_take]; rfl)) ?_
   with_reducible refine (laws_toSealed.calls a0_0 a0_1 t135 t136 _ A3.out).mono ?_
   rintro e w43 ⟨rfl, hb⟩
   refine ⟨_, rfl, ?_⟩
   have n0_ := Aside0.mk (bB BK133 hb)
   have n1_ := Aside0.mk (bB BK134 hb)
   have n2_ := Aside0.mk (bB BK142 hb)
   have n3_ := Aside0.mk (below_step (hq3 HB GE133 GE134 GE142) hb)
   clear BK133
   clear BK134
   clear BK142
   clear HB
   have BK133 := n0_
   have BK134 := n1_
   have BK142 := n2_
   have HB := n3_
   clear n0_ n1_ n2_ n3_
   (try clear hb)
   (try clear hb2)
   (try clear hk)
   (try clear hi)
   refine hK.out _ _ ⟨(blk_cell BK133.out 0).trans rfl, (blk_cell BK133.out 1).trans rfl, (blk_cell BK134.out 0).trans rfl, (blk_cell BK134.out 1).trans rfl⟩ (fun hHeld => ?_)
   clear hK K
   refine norm_ (a' := ?_) ?_ ?_
   rotate_left
   · show Act.put _ (some 11) _ = _
     simp only [Act.put, List.setIfInBounds_toArray, List.set_cons_zero, List.set_cons_succ, i64_w, i32_w]
     rfl
   refine one_ (i := 3) (N := some 13) #[true, true, true, true, false, false, false, false, true, false, false] rfl rfl (one_of HT_.out (by kernel_rfl)) (by decide) (fun K hK => ?_)
   refine goes_ Try.func26 (by kernel_rfl) rfl #[.agg #[.int .i64 a1_0, .int .i64 a1_1]] (by rfl) rfl rfl (by (try simp only [List.map_toArray, List.map_cons, List.map_nil]); first | done | rfl | (simp only [List.length_drop, List.length_take]; rfl)) ?_
   with_reducible refine (laws_toSealed.calls a1_0 a1_1 t137 t138 _ A4.out).mono ?_
   rintro e w44 ⟨rfl, hb⟩
   refine ⟨_, rfl, ?_⟩
   have n0_ := Aside0.mk (bB BK133 hb)
   have n1_ := Aside0.mk (bB BK134 hb)
   have n2_ := Aside0.mk (bB BK142 hb)
   have n3_ := Aside0.mk (below_step (hq3 HB GE133 GE134 GE142) hb)
   clear BK133
   clear BK134
   clear BK142
   clear HB
   have BK133 := n0_
   have BK134 := n1_
   have BK142 := n2_
   have HB := n3_
   clear n0_ n1_ n2_ n3_
   (try clear hb)
   (try clear hb2)
   (try clear hk)
   (try clear hi)
   refine hK.out _ _ ⟨(blk_cell BK133.out 0).trans rfl, (blk_cell BK133.out 1).trans rfl, (blk_cell BK134.out 0).trans rfl, (blk_cell BK134.out 1).trans rfl⟩ (fun hHeld => ?_)
   clear hK K
   refine norm_ (a' := ?_) ?_ ?_
   rotate_left
   · show Act.put _ (some 13) _ = _
     simp only [Act.put, List.setIfInBounds_toArray, List.set_cons_zero, List.set_cons_succ, i64_w, i32_w]
     rfl
   refine one_ (i := 4) (N := some 14) #[true, true, true, true, true, false, false, false, true, false, false] rfl rfl (one_of HT_.out (by kernel_rfl)) (by decide) (fun K hK => ?_)
   refine goes_ Try.func35 (by kernel_rfl) rfl #[.agg #[.int .i64 t135, .int .i64 t136], .agg #[.int .i64 t137, .int .i64 t138]] (by rfl) rfl rfl (by (try simp only [List.map_toArray, List.map_cons, List.map_nil]); first | done | rfl | (simp only [List.length_drop, List.length_take]; rfl)) ?_
   with_reducible refine (spec_TimesSealed.calls k t135 t136 t137 t138 t139 t140 t141 _ A5.out).mono ?_
   rintro e w45 ⟨rfl, hb⟩
   refine ⟨_, rfl, ?_⟩
   have n0_ := Aside0.mk (bB BK133 hb)
   have n1_ := Aside0.mk (bB BK134 hb)
   have n2_ := Aside0.mk (bB BK142 hb)
   have n3_ := Aside0.mk (below_step (hq3 HB GE133 GE134 GE142) hb)
   clear BK133
   clear BK134
   clear BK142
   clear HB
   have BK133 := n0_
   have BK134 := n1_
   have BK142 := n2_
   have HB := n3_
   clear n0_ n1_ n2_ n3_
   (try clear hb)
   (try clear hb2)
   (try clear hk)
   (try clear hi)
   refine hK.out _ _ ⟨(blk_cell BK133.out 0).trans rfl, (blk_cell BK133.out 1).trans rfl, (blk_cell BK134.out 0).trans rfl, (blk_cell BK134.out 1).trans rfl⟩ (fun hHeld => ?_)
   clear hK K
   refine norm_ (a' := ?_) ?_ ?_
   rotate_left
   · show Act.put _ (some 14) _ = _
     simp only [Act.put, List.setIfInBounds_toArray, List.set_cons_zero, List.set_cons_succ, i64_w, i32_w]
     rfl
   refine pure_ (i := 5) (N := some 9) (v := ?_) (a' := ?_) #[true, true, true, true, true, true, false, false, true, false, false] rfl rfl (any_of HT_.out (by kernel_rfl)) (fun _ _ _ h => h) (Or.inl ⟨by rfl, ?_⟩) ?_ ?_
   rotate_left
   · intro w'
     first | (go_simp; with_reducible rfl) | (go_simp; unfold Instr.field; go_simp; rfl)
   rotate_left
   · simp only [Act.put, List.setIfInBounds_toArray, List.set_cons_zero, List.set_cons_succ, i64_w, i32_w]
     rfl
   refine pure_ (i := 6) (N := some 15) (v := ?_) (a' := ?_) #[true, true, true, true, true, true, true, false, true, false, false] rfl rfl (any_of HT_.out (by kernel_rfl)) (fun _ _ _ h => h) (Or.inl ⟨by rfl, ?_⟩) ?_ ?_
   rotate_left
   · intro w'
     first | (go_simp; with_reducible rfl) | (go_simp; unfold Instr.field; go_simp; rfl)
   rotate_left
   · simp only [Act.put, List.setIfInBounds_toArray, List.set_cons_zero, List.set_cons_succ, i64_w, i32_w]
     rfl
   refine pure_ (i := 7) (N := some 16) (v := ?_) (a' := ?_) #[true, true, true, true, true, true, true, true, true, false, false] rfl rfl (any_of HT_.out (by kernel_rfl)) (fun _ _ _ h => h) (Or.inl ⟨by rfl, ?_⟩) ?_ ?_
   rotate_left
   · intro w'
     first | (go_simp; with_reducible rfl) | (go_simp; unfold Instr.field; go_simp; rfl)
   rotate_left
   · simp only [Act.put, List.setIfInBounds_toArray, List.set_cons_zero, List.set_cons_succ, i64_w, i32_w]
     rfl
   exact norm_ (by simp only [putAll, Act.put, List.setIfInBounds_toArray, List.set_cons_zero, List.set_cons_succ]) (hCont (gb142) _ ⟨hHeld, (bq BK133), (bq BK134), (bq BK142), GW142.out, GE142.out, NB133_142.out, NB142_133.out, NB134_142.out, NB142_134.out, (hq3 HB GE133 GE134 GE142)⟩)
 rintro gb142 w46 ⟨hS_, h0_, h1_, h2_, h3_, h4_, h5_, h6_, h7_, h8_, h9_⟩
 have n0_ : Aside0 (w46.heap[gb133]? = some (.cells #[.int .i64 a0_0, .int .i64 a0_1] 29 (0, 0))) := ⟨h0_⟩
 have n1_ : Aside0 (w46.heap[gb134]? = some (.cells #[.int .i64 a1_0, .int .i64 a1_1] 29 (0, 0))) := ⟨h1_⟩
 have n2_ : Aside0 (w46.heap[gb142]? = some (.cells #[.int .i64 0, .int .i64 0] 31 (0, 0))) := ⟨h2_⟩
 have n3_ : Aside0 (w.heap.size ≤ gb142) := ⟨h3_⟩
 have n4_ : Aside0 (w.heap.size ≤ gb142) := ⟨h4_⟩
 have n5_ : Aside0 (gb133 ≠ gb142) := ⟨h5_⟩
 have n6_ : Aside0 (gb142 ≠ gb133) := ⟨h6_⟩
 have n7_ : Aside0 (gb134 ≠ gb142) := ⟨h7_⟩
 have n8_ : Aside0 (gb142 ≠ gb134) := ⟨h8_⟩
 have n9_ : Aside0 (Below w.heap.size w w46) := ⟨h9_⟩
 clear BK133
 clear BK134
 clear HB
 clear h0_ h1_ h2_ h3_ h4_ h5_ h6_ h7_ h8_ h9_
 have BK133 := n0_
 have BK134 := n1_
 have BK142 := n2_
 have GW142 := n3_
 have GE142 := n4_
 have NB133_142 := n5_
 have NB142_133 := n6_
 have NB134_142 := n7_
 have NB142_134 := n8_
 have HB := n9_
 clear n0_ n1_ n2_ n3_ n4_ n5_ n6_ n7_ n8_ n9_
 have hHeld : w46.cell? ⟨gb133, 0, none⟩ = some (.int .i64 a0_0) ∧ w46.cell? ⟨gb133, 1, none⟩ = some (.int .i64 a0_1) ∧ w46.cell? ⟨gb134, 0, none⟩ = some (.int .i64 a1_0) ∧ w46.cell? ⟨gb134, 1, none⟩ = some (.int .i64 a1_1) := hS_
 refine norm_ (a' := ?_) ?_ ?_
 rotate_left
 · simp only [putAll, Act.put, List.setIfInBounds_toArray, List.set_cons_zero, List.set_cons_succ]
   rfl
 refine one_ (i := 9) (N := none) #[true, true, true, true, true, true, true, true, true, true, false] rfl rfl (one_of HT_.out (by kernel_rfl)) (by decide) (fun K hK => ?_)
 have hs47 : w46.cell? ⟨gb142, 0, none⟩ = some (.int .i64 0) := (blk_cell BK142.out 0).trans rfl
 have hfs47 := blk_frozen BK142.out 0
 have hns47_0 := NB133_142.out
 have hns47_1 := NB134_142.out
 have hms47_0 := NB142_133.out
 have hms47_1 := NB142_134.out
 have hs48 : w46.cell? ⟨gb142, 1, none⟩ = some (.int .i64 0) := (blk_cell BK142.out 1).trans rfl
 have hfs48 := blk_frozen BK142.out 1
 have hns48_0 := NB133_142.out
 have hns48_1 := NB134_142.out
 have hms48_0 := NB142_133.out
 have hms48_1 := NB142_134.out
 refine skip_ (w1 := ?_) (by rfl) rfl ?_ ?_
 rotate_left
 · go_simp
   rfl
 refine hK.out _ _ ⟨((cell_far (p := ⟨gb142, _, none⟩) NB133_142.out _).trans (((cell_far (p := ⟨gb142, _, none⟩) NB133_142.out _).trans (hHeld.1)))), ((cell_far (p := ⟨gb142, _, none⟩) NB133_142.out _).trans (((cell_far (p := ⟨gb142, _, none⟩) NB133_142.out _).trans (hHeld.2.1)))), ((cell_far (p := ⟨gb142, _, none⟩) NB134_142.out _).trans (((cell_far (p := ⟨gb142, _, none⟩) NB134_142.out _).trans (hHeld.2.2.1)))), ((cell_far (p := ⟨gb142, _, none⟩) NB134_142.out _).trans (((cell_far (p := ⟨gb142, _, none⟩) NB134_142.out _).trans (hHeld.2.2.2))))⟩ (fun hHeld => ?_)
 clear hK K
 refine pure_ (i := 10) (N := some 6) (v := ?_) (a' := ?_) #[true, true, true, true, true, true, true, true, true, true, true] rfl rfl (any_of HT_.out (by kernel_rfl)) (fun _ _ _ h => h) (Or.inl ⟨by rfl, ?_⟩) ?_ ?_
 rotate_left
 · intro w'
   first | (go_simp; with_reducible rfl) | (go_simp; unfold Instr.field; go_simp; rfl)
 rotate_left
 · simp only [Act.put, List.setIfInBounds_toArray, List.set_cons_zero, List.set_cons_succ, i64_w, i32_w]
   rfl
 refine done_ (done_of HT_.out (by kernel_rfl)) ?_
 try go_wp2
 have n0_ : Aside0 (((w46.setCell ⟨gb142, 0, none⟩ (.int .i64 t139)).setCell ⟨gb142, 1, none⟩ (.int .i64 t140)).heap[gb133]? = some (.cells #[.int .i64 a0_0, .int .i64 a0_1] 29 (0, 0))) := ⟨by (with_reducible repeat (first | refine blk_drewN ?_ _ | refine blk_drew ?_ | refine blk_alloc ?_ _)); refine blk_far ?_ NB133_142.out _; (with_reducible repeat (first | refine blk_drewN ?_ _ | refine blk_drew ?_ | refine blk_alloc ?_ _)); refine blk_far ?_ NB133_142.out _; (with_reducible repeat (first | refine blk_drewN ?_ _ | refine blk_drew ?_ | refine blk_alloc ?_ _)); exact BK133.out⟩
 have n1_ : Aside0 (((w46.setCell ⟨gb142, 0, none⟩ (.int .i64 t139)).setCell ⟨gb142, 1, none⟩ (.int .i64 t140)).heap[gb134]? = some (.cells #[.int .i64 a1_0, .int .i64 a1_1] 29 (0, 0))) := ⟨by (with_reducible repeat (first | refine blk_drewN ?_ _ | refine blk_drew ?_ | refine blk_alloc ?_ _)); refine blk_far ?_ NB134_142.out _; (with_reducible repeat (first | refine blk_drewN ?_ _ | refine blk_drew ?_ | refine blk_alloc ?_ _)); refine blk_far ?_ NB134_142.out _; (with_reducible repeat (first | refine blk_drewN ?_ _ | refine blk_drew ?_ | refine blk_alloc ?_ _)); exact BK134.out⟩
 have n2_ : Aside0 (((w46.setCell ⟨gb142, 0, none⟩ (.int .i64 t139)).setCell ⟨gb142, 1, none⟩ (.int .i64 t140)).heap[gb142]? = some (.cells #[.int .i64 t139, .int .i64 t140] 31 (0, 0))) := ⟨by (with_reducible repeat (first | refine blk_drewN ?_ _ | refine blk_drew ?_ | refine blk_alloc ?_ _)); refine blk_put (cs := #[.int .i64 t139, .int .i64 0]) ?_ 1 _ rfl; (with_reducible repeat (first | refine blk_drewN ?_ _ | refine blk_drew ?_ | refine blk_alloc ?_ _)); refine blk_put (cs := #[.int .i64 0, .int .i64 0]) ?_ 0 _ rfl; (with_reducible repeat (first | refine blk_drewN ?_ _ | refine blk_drew ?_ | refine blk_alloc ?_ _)); exact BK142.out⟩
 have n3_ : Aside0 (Below w.heap.size w ((w46.setCell ⟨gb142, 0, none⟩ (.int .i64 t139)).setCell ⟨gb142, 1, none⟩ (.int .i64 t140))) := ⟨hq3 HB GE133 GE134 GE142⟩
 (try clear BK133)
 (try clear BK134)
 (try clear BK142)
 (try clear HB)
 generalize ((w46.setCell ⟨gb142, 0, none⟩ (.int .i64 t139)).setCell ⟨gb142, 1, none⟩ (.int .i64 t140)) = w49 at n0_ n1_ n2_ n3_ ⊢
 have BK133 := n0_
 have BK134 := n1_
 have BK142 := n2_
 have HB := n3_
 clear n0_ n1_ n2_ n3_
 have n0_ := Aside0.mk (blk_drew BK133.out)
 have n1_ := Aside0.mk (blk_drew BK134.out)
 have n2_ := Aside0.mk (blk_drew BK142.out)
 have n3_ := Aside0.mk (below_drew1 HB.out)
 clear BK133
 clear BK134
 clear BK142
 clear HB
 have BK133 := n0_
 have BK134 := n1_
 have BK142 := n2_
 have HB := n3_
 clear n0_ n1_ n2_ n3_
 refine start_ (n := 11) (S := fun w' => w'.cell? ⟨gb133, 0, none⟩ = some (.int .i64 a0_0) ∧ w'.cell? ⟨gb133, 1, none⟩ = some (.int .i64 a0_1) ∧ w'.cell? ⟨gb134, 0, none⟩ = some (.int .i64 a1_0) ∧ w'.cell? ⟨gb134, 1, none⟩ = some (.int .i64 a1_1)) (ds := []) #[false, false, false, false, false, false, false, false, false, false, false] (by kernel_rfl) rfl rfl ⟨(blk_cell BK133.out 0).trans rfl, (blk_cell BK133.out 1).trans rfl, (blk_cell BK134.out 0).trans rfl, (blk_cell BK134.out 1).trans rfl⟩ (fun hHeld => ?_); refine with_tabW laws_FnExactTimesSealed.tab2 laws_FnExactTimesSealed.bits2 (fun HT_ HW_ => ?_)
 generalize w49.drew = w50 at BK133 BK134 BK142 HB hHeld ⊢
 refine take_ (i := 0) (N := some 18) (v := ?_) (a' := ?_) #[true, false, false, false, false, false, false, false, false, false, false] rfl rfl (take_ofW HT_.out HW_.out (by kernel_rfl)) (fun _ _ _ h => h) (Or.inl ⟨by rfl, ?_⟩) hHeld ?_ ?_
 rotate_left
 · rintro w' ⟨s0, s1, s2, s3⟩
   go_simp
   with_reducible rfl
 rotate_left
 · simp only [Act.put, List.setIfInBounds_toArray, List.set_cons_zero, List.set_cons_succ, i64_w, i32_w]
   rfl
 refine take_ (i := 2) (N := some 20) (v := ?_) (a' := ?_) #[true, false, true, false, false, false, false, false, false, false, false] rfl rfl (take_ofW HT_.out HW_.out (by kernel_rfl)) (fun _ _ _ h => h) (Or.inl ⟨by rfl, ?_⟩) hHeld ?_ ?_
 rotate_left
 · rintro w' ⟨s0, s1, s2, s3⟩
   go_simp
   with_reducible rfl
 rotate_left
 · simp only [Act.put, List.setIfInBounds_toArray, List.set_cons_zero, List.set_cons_succ, i64_w, i32_w]
   rfl
 refine join_ (σ := Nat) 2 #[true, true, true, true, true, true, true, true, true, false, false] (fun s_ => [(19, .agg #[.int .i64 t143, .int .i64 t144]), (21, .agg #[.int .i64 t145, .int .i64 t146]), (22, .tuple #[.agg #[.int .i64 t147, .int .i64 t148], .bool t149]), (7, .pointer (some ⟨s_, 0, none⟩)), (17, .tuple #[.agg #[.int .i64 t147, .int .i64 t148], .bool t149]), (23, .agg #[.int .i64 t147, .int .i64 t148]), (24, .bool t149)]) (fun s_ w' => (w'.cell? ⟨gb133, 0, none⟩ = some (.int .i64 a0_0) ∧ w'.cell? ⟨gb133, 1, none⟩ = some (.int .i64 a0_1) ∧ w'.cell? ⟨gb134, 0, none⟩ = some (.int .i64 a1_0) ∧ w'.cell? ⟨gb134, 1, none⟩ = some (.int .i64 a1_1)) ∧ (w'.heap[gb133]? = some (.cells #[.int .i64 a0_0, .int .i64 a0_1] 29 (0, 0))) ∧ (w'.heap[gb134]? = some (.cells #[.int .i64 a1_0, .int .i64 a1_1] 29 (0, 0))) ∧ (w'.heap[gb142]? = some (.cells #[.int .i64 t139, .int .i64 t140] 31 (0, 0))) ∧ (w'.heap[s_]? = some (.cells #[.int .i64 0, .int .i64 0] 31 (0, 0))) ∧ (w.heap.size ≤ s_) ∧ (w.heap.size ≤ s_) ∧ (gb133 ≠ s_) ∧ (s_ ≠ gb133) ∧ (gb134 ≠ s_) ∧ (s_ ≠ gb134) ∧ (gb142 ≠ s_) ∧ (s_ ≠ gb142) ∧ (Below w.heap.size w w')) ?_ ?_
 rotate_left
 · intro hCont
   refine two_ (i := 1) (j := 8) (Ni := some 19) (Nj := some 7) #[true, true, true, false, false, false, false, false, false, false, false] #[true, false, true, false, false, false, false, false, true, false, false] rfl rfl rfl rfl (two_of HT_.out (by kernel_rfl)) (by decide) (by decide) (fun K hK => ?_) (fun K hK => ?_)
   · skip
     refine goes_ Try.func26 (by kernel_rfl) rfl #[.agg #[.int .i64 a0_0, .int .i64 a0_1]] (by rfl) rfl rfl (by (try simp only [List.map_toArray, List.map_cons, List.map_nil]); first | done | rfl | (simp only [List.length_drop, List.length_take]; rfl)) ?_
     with_reducible refine (laws_toSealed.calls a0_0 a0_1 t143 t144 _ A6.out).mono ?_
     rintro e w51 ⟨rfl, hb⟩
     refine ⟨_, rfl, ?_⟩
     have n0_ := Aside0.mk (bB BK133 hb)
     have n1_ := Aside0.mk (bB BK134 hb)
     have n2_ := Aside0.mk (bB BK142 hb)
     have n3_ := Aside0.mk (below_step (hq3 HB GE133 GE134 GE142) hb)
     clear BK133
     clear BK134
     clear BK142
     clear HB
     have BK133 := n0_
     have BK134 := n1_
     have BK142 := n2_
     have HB := n3_
     clear n0_ n1_ n2_ n3_
     (try clear hb)
     (try clear hb2)
     (try clear hk)
     (try clear hi)
     refine hK.out _ _ ⟨(blk_cell BK133.out 0).trans rfl, (blk_cell BK133.out 1).trans rfl, (blk_cell BK134.out 0).trans rfl, (blk_cell BK134.out 1).trans rfl⟩ (fun hHeld => ?_)
     clear hK K
     refine norm_ (a' := ?_) ?_ ?_
     rotate_left
     · show Act.put _ (some 19) _ = _
       simp only [Act.put, List.setIfInBounds_toArray, List.set_cons_zero, List.set_cons_succ, i64_w, i32_w]
       rfl
     refine two_ (i := 3) (j := 8) (Ni := some 21) (Nj := some 7) #[true, true, true, true, false, false, false, false, false, false, false] #[true, true, true, false, false, false, false, false, true, false, false] rfl rfl rfl rfl (two_of HT_.out (by kernel_rfl)) (by decide) (by decide) (fun K hK => ?_) (fun K hK => ?_)
     · skip
       refine goes_ Try.func26 (by kernel_rfl) rfl #[.agg #[.int .i64 a1_0, .int .i64 a1_1]] (by rfl) rfl rfl (by (try simp only [List.map_toArray, List.map_cons, List.map_nil]); first | done | rfl | (simp only [List.length_drop, List.length_take]; rfl)) ?_
       with_reducible refine (laws_toSealed.calls a1_0 a1_1 t145 t146 _ A7.out).mono ?_
       rintro e w52 ⟨rfl, hb⟩
       refine ⟨_, rfl, ?_⟩
       have n0_ := Aside0.mk (bB BK133 hb)
       have n1_ := Aside0.mk (bB BK134 hb)
       have n2_ := Aside0.mk (bB BK142 hb)
       have n3_ := Aside0.mk (below_step (hq3 HB GE133 GE134 GE142) hb)
       clear BK133
       clear BK134
       clear BK142
       clear HB
       have BK133 := n0_
       have BK134 := n1_
       have BK142 := n2_
       have HB := n3_
       clear n0_ n1_ n2_ n3_
       (try clear hb)
       (try clear hb2)
       (try clear hk)
       (try clear hi)
       refine hK.out _ _ ⟨(blk_cell BK133.out 0).trans rfl, (blk_cell BK133.out 1).trans rfl, (blk_cell BK134.out 0).trans rfl, (blk_cell BK134.out 1).trans rfl⟩ (fun hHeld => ?_)
       clear hK K
       refine norm_ (a' := ?_) ?_ ?_
       rotate_left
       · show Act.put _ (some 21) _ = _
         simp only [Act.put, List.setIfInBounds_toArray, List.set_cons_zero, List.set_cons_succ, i64_w, i32_w]
         rfl
       refine two_ (i := 4) (j := 8) (Ni := some 22) (Nj := some 7) #[true, true, true, true, true, false, false, false, false, false, false] #[true, true, true, true, false, false, false, false, true, false, false] rfl rfl rfl rfl (two_of HT_.out (by kernel_rfl)) (by decide) (by decide) (fun K hK => ?_) (fun K hK => ?_)
       · skip
         refine goes_ Try.func36 (by kernel_rfl) rfl #[.agg #[.int .i64 t143, .int .i64 t144], .agg #[.int .i64 t145, .int .i64 t146]] (by rfl) rfl rfl (by (try simp only [List.map_toArray, List.map_cons, List.map_nil]); first | done | rfl | (simp only [List.length_drop, List.length_take]; rfl)) ?_
         with_reducible refine (impl_TimesSealed.calls k t143 t144 t145 t146 t147 t148 t149 _ A8.out).mono ?_
         rintro e w53 ⟨rfl, hb⟩
         refine ⟨_, rfl, ?_⟩
         have n0_ := Aside0.mk (bB BK133 hb)
         have n1_ := Aside0.mk (bB BK134 hb)
         have n2_ := Aside0.mk (bB BK142 hb)
         have n3_ := Aside0.mk (below_step (hq3 HB GE133 GE134 GE142) hb)
         clear BK133
         clear BK134
         clear BK142
         clear HB
         have BK133 := n0_
         have BK134 := n1_
         have BK142 := n2_
         have HB := n3_
         clear n0_ n1_ n2_ n3_
         (try clear hb)
         (try clear hb2)
         (try clear hk)
         (try clear hi)
         refine hK.out _ _ ⟨(blk_cell BK133.out 0).trans rfl, (blk_cell BK133.out 1).trans rfl, (blk_cell BK134.out 0).trans rfl, (blk_cell BK134.out 1).trans rfl⟩ (fun hHeld => ?_)
         clear hK K
         refine norm_ (a' := ?_) ?_ ?_
         rotate_left
         · show Act.put _ (some 22) _ = _
           simp only [Act.put, List.setIfInBounds_toArray, List.set_cons_zero, List.set_cons_succ, i64_w, i32_w]
           rfl
         refine pure_ (i := 5) (N := some 17) (v := ?_) (a' := ?_) #[true, true, true, true, true, true, false, false, false, false, false] rfl rfl (any_of HT_.out (by kernel_rfl)) (fun _ _ _ h => h) (Or.inl ⟨by rfl, ?_⟩) ?_ ?_
         rotate_left
         · intro w'
           first | (go_simp; with_reducible rfl) | (go_simp; unfold Instr.field; go_simp; rfl)
         rotate_left
         · simp only [Act.put, List.setIfInBounds_toArray, List.set_cons_zero, List.set_cons_succ, i64_w, i32_w]
           rfl
         refine pure_ (i := 6) (N := some 23) (v := ?_) (a' := ?_) #[true, true, true, true, true, true, true, false, false, false, false] rfl rfl (any_of HT_.out (by kernel_rfl)) (fun _ _ _ h => h) (Or.inl ⟨by rfl, ?_⟩) ?_ ?_
         rotate_left
         · intro w'
           first | (go_simp; with_reducible rfl) | (go_simp; unfold Instr.field; go_simp; rfl)
         rotate_left
         · simp only [Act.put, List.setIfInBounds_toArray, List.set_cons_zero, List.set_cons_succ, i64_w, i32_w]
           rfl
         refine pure_ (i := 7) (N := some 24) (v := ?_) (a' := ?_) #[true, true, true, true, true, true, true, true, false, false, false] rfl rfl (any_of HT_.out (by kernel_rfl)) (fun _ _ _ h => h) (Or.inl ⟨by rfl, ?_⟩) ?_ ?_
         rotate_left
         · intro w'
           first | (go_simp; with_reducible rfl) | (go_simp; unfold Instr.field; go_simp; rfl)
         rotate_left
         · simp only [Act.put, List.setIfInBounds_toArray, List.set_cons_zero, List.set_cons_succ, i64_w, i32_w]
           rfl
         refine one_ (i := 8) (N := some 7) #[true, true, true, true, true, true, true, true, true, false, false] rfl rfl (one_of HT_.out (by kernel_rfl)) (by decide) (fun K hK => ?_)
         refine box_step ?hg (N := 7) ?hd (cs := #[.int .i64 0, .int .i64 0]) (t := 31) ?hr ?_; (case hd => rfl); (case hg => rfl); (case hr => first | (go_simp; done) | (go_simp; rfl))
         intro gb150 hg w54 hbox hb
         have n0_ := Aside0.mk (bB BK133 hb)
         have n1_ := Aside0.mk (bB BK134 hb)
         have n2_ := Aside0.mk (bB BK142 hb)
         have n3_ := Aside0.mk (below_step (hq3 HB GE133 GE134 GE142) hb)
         have n4_ := Aside0.mk (hbox)
         have n5_ := Aside0.mk (ng hg (hq3 HB GE133 GE134 GE142))
         have n6_ := Aside0.mk (ng hg (hq3 HB GE133 GE134 GE142))
         have n7_ := Aside0.mk (nl hg BK133)
         have n8_ := Aside0.mk (nr hg BK133)
         have n9_ := Aside0.mk (nl hg BK134)
         have n10_ := Aside0.mk (nr hg BK134)
         have n11_ := Aside0.mk (nl hg BK142)
         have n12_ := Aside0.mk (nr hg BK142)
         clear BK133
         clear BK134
         clear BK142
         clear HB
         have BK133 := n0_
         have BK134 := n1_
         have BK142 := n2_
         have HB := n3_
         have BK150 := n4_
         have GW150 := n5_
         have GE150 := n6_
         have NB133_150 := n7_
         have NB150_133 := n8_
         have NB134_150 := n9_
         have NB150_134 := n10_
         have NB142_150 := n11_
         have NB150_142 := n12_
         clear n0_ n1_ n2_ n3_ n4_ n5_ n6_ n7_ n8_ n9_ n10_ n11_ n12_
         clear hb hbox hg
         refine hK.out _ _ ⟨(blk_cell BK133.out 0).trans rfl, (blk_cell BK133.out 1).trans rfl, (blk_cell BK134.out 0).trans rfl, (blk_cell BK134.out 1).trans rfl⟩ (fun hHeld => ?_)
         clear hK K
         refine norm_ (a' := ?_) ?_ ?_
         rotate_left
         · show Act.put _ (some 7) _ = _
           simp only [Act.put, List.setIfInBounds_toArray, List.set_cons_zero, List.set_cons_succ, i64_w, i32_w]
           rfl
         exact norm_ (by simp only [putAll, Act.put, List.setIfInBounds_toArray, List.set_cons_zero, List.set_cons_succ]) (hCont (gb150) _ ⟨hHeld, (bq BK133), (bq BK134), (bq BK142), (bq BK150), GW150.out, GE150.out, NB133_150.out, NB150_133.out, NB134_150.out, NB150_134.out, NB142_150.out, NB150_142.out, (hq4 HB GE133 GE134 GE142 GE150)⟩)
       skip
       refine box_step ?hg (N := 7) ?hd (cs := #[.int .i64 0, .int .i64 0]) (t := 31) ?hr ?_; (case hd => rfl); (case hg => rfl); (case hr => first | (go_simp; done) | (go_simp; rfl))
       intro gb150 hg w53 hbox hb
       have n0_ := Aside0.mk (bB BK133 hb)
       have n1_ := Aside0.mk (bB BK134 hb)
       have n2_ := Aside0.mk (bB BK142 hb)
       have n3_ := Aside0.mk (below_step (hq3 HB GE133 GE134 GE142) hb)
       have n4_ := Aside0.mk (hbox)
       have n5_ := Aside0.mk (ng hg (hq3 HB GE133 GE134 GE142))
       have n6_ := Aside0.mk (ng hg (hq3 HB GE133 GE134 GE142))
       have n7_ := Aside0.mk (nl hg BK133)
       have n8_ := Aside0.mk (nr hg BK133)
       have n9_ := Aside0.mk (nl hg BK134)
       have n10_ := Aside0.mk (nr hg BK134)
       have n11_ := Aside0.mk (nl hg BK142)
       have n12_ := Aside0.mk (nr hg BK142)
       clear BK133
       clear BK134
       clear BK142
       clear HB
       have BK133 := n0_
       have BK134 := n1_
       have BK142 := n2_
       have HB := n3_
       have BK150 := n4_
       have GW150 := n5_
       have GE150 := n6_
       have NB133_150 := n7_
       have NB150_133 := n8_
       have NB134_150 := n9_
       have NB150_134 := n10_
       have NB142_150 := n11_
       have NB150_142 := n12_
       clear n0_ n1_ n2_ n3_ n4_ n5_ n6_ n7_ n8_ n9_ n10_ n11_ n12_
       clear hb hbox hg
       refine hK.out _ _ ⟨(blk_cell BK133.out 0).trans rfl, (blk_cell BK133.out 1).trans rfl, (blk_cell BK134.out 0).trans rfl, (blk_cell BK134.out 1).trans rfl⟩ (fun hHeld => ?_)
       clear hK K
       refine norm_ (a' := ?_) ?_ ?_
       rotate_left
       · show Act.put _ (some 7) _ = _
         simp only [Act.put, List.setIfInBounds_toArray, List.set_cons_zero, List.set_cons_succ, i64_w, i32_w]
         rfl
       refine one_ (i := 4) (N := some 22) #[true, true, true, true, true, false, false, false, true, false, false] rfl rfl (one_of HT_.out (by kernel_rfl)) (by decide) (fun K hK => ?_)
       refine goes_ Try.func36 (by kernel_rfl) rfl #[.agg #[.int .i64 t143, .int .i64 t144], .agg #[.int .i64 t145, .int .i64 t146]] (by rfl) rfl rfl (by (try simp only [List.map_toArray, List.map_cons, List.map_nil]); first | done | rfl | (simp only [List.length_drop, List.length_take]; rfl)) ?_
       with_reducible refine (impl_TimesSealed.calls k t143 t144 t145 t146 t147 t148 t149 _ A8.out).mono ?_
       rintro e w54 ⟨rfl, hb⟩
       refine ⟨_, rfl, ?_⟩
       have n0_ := Aside0.mk (bB BK133 hb)
       have n1_ := Aside0.mk (bB BK134 hb)
       have n2_ := Aside0.mk (bB BK142 hb)
       have n3_ := Aside0.mk (bB BK150 hb)
       have n4_ := Aside0.mk (below_step (hq4 HB GE133 GE134 GE142 GE150) hb)
       clear BK133
       clear BK134
       clear BK142
       clear BK150
       clear HB
       have BK133 := n0_
       have BK134 := n1_
       have BK142 := n2_
       have BK150 := n3_
       have HB := n4_
       clear n0_ n1_ n2_ n3_ n4_
       (try clear hb)
       (try clear hb2)
       (try clear hk)
       (try clear hi)
       refine hK.out _ _ ⟨(blk_cell BK133.out 0).trans rfl, (blk_cell BK133.out 1).trans rfl, (blk_cell BK134.out 0).trans rfl, (blk_cell BK134.out 1).trans rfl⟩ (fun hHeld => ?_)
       clear hK K
       refine norm_ (a' := ?_) ?_ ?_
       rotate_left
       · show Act.put _ (some 22) _ = _
         simp only [Act.put, List.setIfInBounds_toArray, List.set_cons_zero, List.set_cons_succ, i64_w, i32_w]
         rfl
       refine pure_ (i := 5) (N := some 17) (v := ?_) (a' := ?_) #[true, true, true, true, true, true, false, false, true, false, false] rfl rfl (any_of HT_.out (by kernel_rfl)) (fun _ _ _ h => h) (Or.inl ⟨by rfl, ?_⟩) ?_ ?_
       rotate_left
       · intro w'
         first | (go_simp; with_reducible rfl) | (go_simp; unfold Instr.field; go_simp; rfl)
       rotate_left
       · simp only [Act.put, List.setIfInBounds_toArray, List.set_cons_zero, List.set_cons_succ, i64_w, i32_w]
         rfl
       refine pure_ (i := 6) (N := some 23) (v := ?_) (a' := ?_) #[true, true, true, true, true, true, true, false, true, false, false] rfl rfl (any_of HT_.out (by kernel_rfl)) (fun _ _ _ h => h) (Or.inl ⟨by rfl, ?_⟩) ?_ ?_
       rotate_left
       · intro w'
         first | (go_simp; with_reducible rfl) | (go_simp; unfold Instr.field; go_simp; rfl)
       rotate_left
       · simp only [Act.put, List.setIfInBounds_toArray, List.set_cons_zero, List.set_cons_succ, i64_w, i32_w]
         rfl
       refine pure_ (i := 7) (N := some 24) (v := ?_) (a' := ?_) #[true, true, true, true, true, true, true, true, true, false, false] rfl rfl (any_of HT_.out (by kernel_rfl)) (fun _ _ _ h => h) (Or.inl ⟨by rfl, ?_⟩) ?_ ?_
       rotate_left
       · intro w'
         first | (go_simp; with_reducible rfl) | (go_simp; unfold Instr.field; go_simp; rfl)
       rotate_left
       · simp only [Act.put, List.setIfInBounds_toArray, List.set_cons_zero, List.set_cons_succ, i64_w, i32_w]
         rfl
       exact norm_ (by simp only [putAll, Act.put, List.setIfInBounds_toArray, List.set_cons_zero, List.set_cons_succ]) (hCont (gb150) _ ⟨hHeld, (bq BK133), (bq BK134), (bq BK142), (bq BK150), GW150.out, GE150.out, NB133_150.out, NB150_133.out, NB134_150.out, NB150_134.out, NB142_150.out, NB150_142.out, (hq4 HB GE133 GE134 GE142 GE150)⟩)
     skip
     refine box_step ?hg (N := 7) ?hd (cs := #[.int .i64 0, .int .i64 0]) (t := 31) ?hr ?_; (case hd => rfl); (case hg => rfl); (case hr => first | (go_simp; done) | (go_simp; rfl))
     intro gb150 hg w52 hbox hb
     have n0_ := Aside0.mk (bB BK133 hb)
     have n1_ := Aside0.mk (bB BK134 hb)
     have n2_ := Aside0.mk (bB BK142 hb)
     have n3_ := Aside0.mk (below_step (hq3 HB GE133 GE134 GE142) hb)
     have n4_ := Aside0.mk (hbox)
     have n5_ := Aside0.mk (ng hg (hq3 HB GE133 GE134 GE142))
     have n6_ := Aside0.mk (ng hg (hq3 HB GE133 GE134 GE142))
     have n7_ := Aside0.mk (nl hg BK133)
     have n8_ := Aside0.mk (nr hg BK133)
     have n9_ := Aside0.mk (nl hg BK134)
     have n10_ := Aside0.mk (nr hg BK134)
     have n11_ := Aside0.mk (nl hg BK142)
     have n12_ := Aside0.mk (nr hg BK142)
     clear BK133
     clear BK134
     clear BK142
     clear HB
     have BK133 := n0_
     have BK134 := n1_
     have BK142 := n2_
     have HB := n3_
     have BK150 := n4_
     have GW150 := n5_
     have GE150 := n6_
     have NB133_150 := n7_
     have NB150_133 := n8_
     have NB134_150 := n9_
     have NB150_134 := n10_
     have NB142_150 := n11_
     have NB150_142 := n12_
     clear n0_ n1_ n2_ n3_ n4_ n5_ n6_ n7_ n8_ n9_ n10_ n11_ n12_
     clear hb hbox hg
     refine hK.out _ _ ⟨(blk_cell BK133.out 0).trans rfl, (blk_cell BK133.out 1).trans rfl, (blk_cell BK134.out 0).trans rfl, (blk_cell BK134.out 1).trans rfl⟩ (fun hHeld => ?_)
     clear hK K
     refine norm_ (a' := ?_) ?_ ?_
     rotate_left
     · show Act.put _ (some 7) _ = _
       simp only [Act.put, List.setIfInBounds_toArray, List.set_cons_zero, List.set_cons_succ, i64_w, i32_w]
       rfl
     refine one_ (i := 3) (N := some 21) #[true, true, true, true, false, false, false, false, true, false, false] rfl rfl (one_of HT_.out (by kernel_rfl)) (by decide) (fun K hK => ?_)
     refine goes_ Try.func26 (by kernel_rfl) rfl #[.agg #[.int .i64 a1_0, .int .i64 a1_1]] (by rfl) rfl rfl (by (try simp only [List.map_toArray, List.map_cons, List.map_nil]); first | done | rfl | (simp only [List.length_drop, List.length_take]; rfl)) ?_
     with_reducible refine (laws_toSealed.calls a1_0 a1_1 t145 t146 _ A7.out).mono ?_
     rintro e w53 ⟨rfl, hb⟩
     refine ⟨_, rfl, ?_⟩
     have n0_ := Aside0.mk (bB BK133 hb)
     have n1_ := Aside0.mk (bB BK134 hb)
     have n2_ := Aside0.mk (bB BK142 hb)
     have n3_ := Aside0.mk (bB BK150 hb)
     have n4_ := Aside0.mk (below_step (hq4 HB GE133 GE134 GE142 GE150) hb)
     clear BK133
     clear BK134
     clear BK142
     clear BK150
     clear HB
     have BK133 := n0_
     have BK134 := n1_
     have BK142 := n2_
     have BK150 := n3_
     have HB := n4_
     clear n0_ n1_ n2_ n3_ n4_
     (try clear hb)
     (try clear hb2)
     (try clear hk)
     (try clear hi)
     refine hK.out _ _ ⟨(blk_cell BK133.out 0).trans rfl, (blk_cell BK133.out 1).trans rfl, (blk_cell BK134.out 0).trans rfl, (blk_cell BK134.out 1).trans rfl⟩ (fun hHeld => ?_)
     clear hK K
     refine norm_ (a' := ?_) ?_ ?_
     rotate_left
     · show Act.put _ (some 21) _ = _
       simp only [Act.put, List.setIfInBounds_toArray, List.set_cons_zero, List.set_cons_succ, i64_w, i32_w]
       rfl
     refine one_ (i := 4) (N := some 22) #[true, true, true, true, true, false, false, false, true, false, false] rfl rfl (one_of HT_.out (by kernel_rfl)) (by decide) (fun K hK => ?_)
     refine goes_ Try.func36 (by kernel_rfl) rfl #[.agg #[.int .i64 t143, .int .i64 t144], .agg #[.int .i64 t145, .int .i64 t146]] (by rfl) rfl rfl (by (try simp only [List.map_toArray, List.map_cons, List.map_nil]); first | done | rfl | (simp only [List.length_drop, List.length_take]; rfl)) ?_
     with_reducible refine (impl_TimesSealed.calls k t143 t144 t145 t146 t147 t148 t149 _ A8.out).mono ?_
     rintro e w54 ⟨rfl, hb⟩
     refine ⟨_, rfl, ?_⟩
     have n0_ := Aside0.mk (bB BK133 hb)
     have n1_ := Aside0.mk (bB BK134 hb)
     have n2_ := Aside0.mk (bB BK142 hb)
     have n3_ := Aside0.mk (bB BK150 hb)
     have n4_ := Aside0.mk (below_step (hq4 HB GE133 GE134 GE142 GE150) hb)
     clear BK133
     clear BK134
     clear BK142
     clear BK150
     clear HB
     have BK133 := n0_
     have BK134 := n1_
     have BK142 := n2_
     have BK150 := n3_
     have HB := n4_
     clear n0_ n1_ n2_ n3_ n4_
     (try clear hb)
     (try clear hb2)
     (try clear hk)
     (try clear hi)
     refine hK.out _ _ ⟨(blk_cell BK133.out 0).trans rfl, (blk_cell BK133.out 1).trans rfl, (blk_cell BK134.out 0).trans rfl, (blk_cell BK134.out 1).trans rfl⟩ (fun hHeld => ?_)
     clear hK K
     refine norm_ (a' := ?_) ?_ ?_
     rotate_left
     · show Act.put _ (some 22) _ = _
       simp only [Act.put, List.setIfInBounds_toArray, List.set_cons_zero, List.set_cons_succ, i64_w, i32_w]
       rfl
     refine pure_ (i := 5) (N := some 17) (v := ?_) (a' := ?_) #[true, true, true, true, true, true, false, false, true, false, false] rfl rfl (any_of HT_.out (by kernel_rfl)) (fun _ _ _ h => h) (Or.inl ⟨by rfl, ?_⟩) ?_ ?_
     rotate_left
     · intro w'
       first | (go_simp; with_reducible rfl) | (go_simp; unfold Instr.field; go_simp; rfl)
     rotate_left
     · simp only [Act.put, List.setIfInBounds_toArray, List.set_cons_zero, List.set_cons_succ, i64_w, i32_w]
       rfl
     refine pure_ (i := 6) (N := some 23) (v := ?_) (a' := ?_) #[true, true, true, true, true, true, true, false, true, false, false] rfl rfl (any_of HT_.out (by kernel_rfl)) (fun _ _ _ h => h) (Or.inl ⟨by rfl, ?_⟩) ?_ ?_
     rotate_left
     · intro w'
       first | (go_simp; with_reducible rfl) | (go_simp; unfold Instr.field; go_simp; rfl)
     rotate_left
     · simp only [Act.put, List.setIfInBounds_toArray, List.set_cons_zero, List.set_cons_succ, i64_w, i32_w]
       rfl
     refine pure_ (i := 7) (N := some 24) (v := ?_) (a' := ?_) #[true, true, true, true, true, true, true, true, true, false, false] rfl rfl (any_of HT_.out (by kernel_rfl)) (fun _ _ _ h => h) (Or.inl ⟨by rfl, ?_⟩) ?_ ?_
     rotate_left
     · intro w'
       first | (go_simp; with_reducible rfl) | (go_simp; unfold Instr.field; go_simp; rfl)
     rotate_left
     · simp only [Act.put, List.setIfInBounds_toArray, List.set_cons_zero, List.set_cons_succ, i64_w, i32_w]
       rfl
     exact norm_ (by simp only [putAll, Act.put, List.setIfInBounds_toArray, List.set_cons_zero, List.set_cons_succ]) (hCont (gb150) _ ⟨hHeld, (bq BK133), (bq BK134), (bq BK142), (bq BK150), GW150.out, GE150.out, NB133_150.out, NB150_133.out, NB134_150.out, NB150_134.out, NB142_150.out, NB150_142.out, (hq4 HB GE133 GE134 GE142 GE150)⟩)
   skip
   refine box_step ?hg (N := 7) ?hd (cs := #[.int .i64 0, .int .i64 0]) (t := 31) ?hr ?_; (case hd => rfl); (case hg => rfl); (case hr => first | (go_simp; done) | (go_simp; rfl))
   intro gb150 hg w51 hbox hb
   have n0_ := Aside0.mk (bB BK133 hb)
   have n1_ := Aside0.mk (bB BK134 hb)
   have n2_ := Aside0.mk (bB BK142 hb)
   have n3_ := Aside0.mk (below_step (hq3 HB GE133 GE134 GE142) hb)
   have n4_ := Aside0.mk (hbox)
   have n5_ := Aside0.mk (ng hg (hq3 HB GE133 GE134 GE142))
   have n6_ := Aside0.mk (ng hg (hq3 HB GE133 GE134 GE142))
   have n7_ := Aside0.mk (nl hg BK133)
   have n8_ := Aside0.mk (nr hg BK133)
   have n9_ := Aside0.mk (nl hg BK134)
   have n10_ := Aside0.mk (nr hg BK134)
   have n11_ := Aside0.mk (nl hg BK142)
   have n12_ := Aside0.mk (nr hg BK142)
   clear BK133
   clear BK134
   clear BK142
   clear HB
   have BK133 := n0_
   have BK134 := n1_
   have BK142 := n2_
   have HB := n3_
   have BK150 := n4_
   have GW150 := n5_
   have GE150 := n6_
   have NB133_150 := n7_
   have NB150_133 := n8_
   have NB134_150 := n9_
   have NB150_134 := n10_
   have NB142_150 := n11_
   have NB150_142 := n12_
   clear n0_ n1_ n2_ n3_ n4_ n5_ n6_ n7_ n8_ n9_ n10_ n11_ n12_
   clear hb hbox hg
   refine hK.out _ _ ⟨(blk_cell BK133.out 0).trans rfl, (blk_cell BK133.out 1).trans rfl, (blk_cell BK134.out 0).trans rfl, (blk_cell BK134.out 1).trans rfl⟩ (fun hHeld => ?_)
   clear hK K
   refine norm_ (a' := ?_) ?_ ?_
   rotate_left
   · show Act.put _ (some 7) _ = _
     simp only [Act.put, List.setIfInBounds_toArray, List.set_cons_zero, List.set_cons_succ, i64_w, i32_w]
     rfl
   refine one_ (i := 1) (N := some 19) #[true, true, true, false, false, false, false, false, true, false, false] rfl rfl (one_of HT_.out (by kernel_rfl)) (by decide) (fun K hK => ?_)
   refine goes_ Try.func26 (by kernel_rfl) rfl #[.agg #[.int .i64 a0_0, .int .i64 a0_1]] (by rfl) rfl rfl (by (try simp only [List.map_toArray, List.map_cons, List.map_nil]); first | done | rfl | (simp only [List.length_drop, List.length_take]; rfl)) ?_
   with_reducible refine (laws_toSealed.calls a0_0 a0_1 t143 t144 _ A6.out).mono ?_
   rintro e w52 ⟨rfl, hb⟩
   refine ⟨_, rfl, ?_⟩
   have n0_ := Aside0.mk (bB BK133 hb)
   have n1_ := Aside0.mk (bB BK134 hb)
   have n2_ := Aside0.mk (bB BK142 hb)
   have n3_ := Aside0.mk (bB BK150 hb)
   have n4_ := Aside0.mk (below_step (hq4 HB GE133 GE134 GE142 GE150) hb)
   clear BK133
   clear BK134
   clear BK142
   clear BK150
   clear HB
   have BK133 := n0_
   have BK134 := n1_
   have BK142 := n2_
   have BK150 := n3_
   have HB := n4_
   clear n0_ n1_ n2_ n3_ n4_
   (try clear hb)
   (try clear hb2)
   (try clear hk)
   (try clear hi)
   refine hK.out _ _ ⟨(blk_cell BK133.out 0).trans rfl, (blk_cell BK133.out 1).trans rfl, (blk_cell BK134.out 0).trans rfl, (blk_cell BK134.out 1).trans rfl⟩ (fun hHeld => ?_)
   clear hK K
   refine norm_ (a' := ?_) ?_ ?_
   rotate_left
   · show Act.put _ (some 19) _ = _
     simp only [Act.put, List.setIfInBounds_toArray, List.set_cons_zero, List.set_cons_succ, i64_w, i32_w]
     rfl
   refine one_ (i := 3) (N := some 21) #[true, true, true, true, false, false, false, false, true, false, false] rfl rfl (one_of HT_.out (by kernel_rfl)) (by decide) (fun K hK => ?_)
   refine goes_ Try.func26 (by kernel_rfl) rfl #[.agg #[.int .i64 a1_0, .int .i64 a1_1]] (by rfl) rfl rfl (by (try simp only [List.map_toArray, List.map_cons, List.map_nil]); first | done | rfl | (simp only [List.length_drop, List.length_take]; rfl)) ?_
   with_reducible refine (laws_toSealed.calls a1_0 a1_1 t145 t146 _ A7.out).mono ?_
   rintro e w53 ⟨rfl, hb⟩
   refine ⟨_, rfl, ?_⟩
   have n0_ := Aside0.mk (bB BK133 hb)
   have n1_ := Aside0.mk (bB BK134 hb)
   have n2_ := Aside0.mk (bB BK142 hb)
   have n3_ := Aside0.mk (bB BK150 hb)
   have n4_ := Aside0.mk (below_step (hq4 HB GE133 GE134 GE142 GE150) hb)
   clear BK133
   clear BK134
   clear BK142
   clear BK150
   clear HB
   have BK133 := n0_
   have BK134 := n1_
   have BK142 := n2_
   have BK150 := n3_
   have HB := n4_
   clear n0_ n1_ n2_ n3_ n4_
   (try clear hb)
   (try clear hb2)
   (try clear hk)
   (try clear hi)
   refine hK.out _ _ ⟨(blk_cell BK133.out 0).trans rfl, (blk_cell BK133.out 1).trans rfl, (blk_cell BK134.out 0).trans rfl, (blk_cell BK134.out 1).trans rfl⟩ (fun hHeld => ?_)
   clear hK K
   refine norm_ (a' := ?_) ?_ ?_
   rotate_left
   · show Act.put _ (some 21) _ = _
     simp only [Act.put, List.setIfInBounds_toArray, List.set_cons_zero, List.set_cons_succ, i64_w, i32_w]
     rfl
   refine one_ (i := 4) (N := some 22) #[true, true, true, true, true, false, false, false, true, false, false] rfl rfl (one_of HT_.out (by kernel_rfl)) (by decide) (fun K hK => ?_)
   refine goes_ Try.func36 (by kernel_rfl) rfl #[.agg #[.int .i64 t143, .int .i64 t144], .agg #[.int .i64 t145, .int .i64 t146]] (by rfl) rfl rfl (by (try simp only [List.map_toArray, List.map_cons, List.map_nil]); first | done | rfl | (simp only [List.length_drop, List.length_take]; rfl)) ?_
   with_reducible refine (impl_TimesSealed.calls k t143 t144 t145 t146 t147 t148 t149 _ A8.out).mono ?_
   rintro e w54 ⟨rfl, hb⟩
   refine ⟨_, rfl, ?_⟩
   have n0_ := Aside0.mk (bB BK133 hb)
   have n1_ := Aside0.mk (bB BK134 hb)
   have n2_ := Aside0.mk (bB BK142 hb)
   have n3_ := Aside0.mk (bB BK150 hb)
   have n4_ := Aside0.mk (below_step (hq4 HB GE133 GE134 GE142 GE150) hb)
   clear BK133
   clear BK134
   clear BK142
   clear BK150
   clear HB
   have BK133 := n0_
   have BK134 := n1_
   have BK142 := n2_
   have BK150 := n3_
   have HB := n4_
   clear n0_ n1_ n2_ n3_ n4_
   (try clear hb)
   (try clear hb2)
   (try clear hk)
   (try clear hi)
   refine hK.out _ _ ⟨(blk_cell BK133.out 0).trans rfl, (blk_cell BK133.out 1).trans rfl, (blk_cell BK134.out 0).trans rfl, (blk_cell BK134.out 1).trans rfl⟩ (fun hHeld => ?_)
   clear hK K
   refine norm_ (a' := ?_) ?_ ?_
   rotate_left
   · show Act.put _ (some 22) _ = _
     simp only [Act.put, List.setIfInBounds_toArray, List.set_cons_zero, List.set_cons_succ, i64_w, i32_w]
     rfl
   refine pure_ (i := 5) (N := some 17) (v := ?_) (a' := ?_) #[true, true, true, true, true, true, false, false, true, false, false] rfl rfl (any_of HT_.out (by kernel_rfl)) (fun _ _ _ h => h) (Or.inl ⟨by rfl, ?_⟩) ?_ ?_
   rotate_left
   · intro w'
     first | (go_simp; with_reducible rfl) | (go_simp; unfold Instr.field; go_simp; rfl)
   rotate_left
   · simp only [Act.put, List.setIfInBounds_toArray, List.set_cons_zero, List.set_cons_succ, i64_w, i32_w]
     rfl
   refine pure_ (i := 6) (N := some 23) (v := ?_) (a' := ?_) #[true, true, true, true, true, true, true, false, true, false, false] rfl rfl (any_of HT_.out (by kernel_rfl)) (fun _ _ _ h => h) (Or.inl ⟨by rfl, ?_⟩) ?_ ?_
   rotate_left
   · intro w'
     first | (go_simp; with_reducible rfl) | (go_simp; unfold Instr.field; go_simp; rfl)
   rotate_left
   · simp only [Act.put, List.setIfInBounds_toArray, List.set_cons_zero, List.set_cons_succ, i64_w, i32_w]
     rfl
   refine pure_ (i := 7) (N := some 24) (v := ?_) (a' := ?_) #[true, true, true, true, true, true, true, true, true, false, false] rfl rfl (any_of HT_.out (by kernel_rfl)) (fun _ _ _ h => h) (Or.inl ⟨by rfl, ?_⟩) ?_ ?_
   rotate_left
   · intro w'
     first | (go_simp; with_reducible rfl) | (go_simp; unfold Instr.field; go_simp; rfl)
   rotate_left
   · simp only [Act.put, List.setIfInBounds_toArray, List.set_cons_zero, List.set_cons_succ, i64_w, i32_w]
     rfl
   exact norm_ (by simp only [putAll, Act.put, List.setIfInBounds_toArray, List.set_cons_zero, List.set_cons_succ]) (hCont (gb150) _ ⟨hHeld, (bq BK133), (bq BK134), (bq BK142), (bq BK150), GW150.out, GE150.out, NB133_150.out, NB150_133.out, NB134_150.out, NB150_134.out, NB142_150.out, NB150_142.out, (hq4 HB GE133 GE134 GE142 GE150)⟩)
 rintro gb150 w55 ⟨hS_, h0_, h1_, h2_, h3_, h4_, h5_, h6_, h7_, h8_, h9_, h10_, h11_, h12_⟩
 have n0_ : Aside0 (w55.heap[gb133]? = some (.cells #[.int .i64 a0_0, .int .i64 a0_1] 29 (0, 0))) := ⟨h0_⟩
 have n1_ : Aside0 (w55.heap[gb134]? = some (.cells #[.int .i64 a1_0, .int .i64 a1_1] 29 (0, 0))) := ⟨h1_⟩
 have n2_ : Aside0 (w55.heap[gb142]? = some (.cells #[.int .i64 t139, .int .i64 t140] 31 (0, 0))) := ⟨h2_⟩
 have n3_ : Aside0 (w55.heap[gb150]? = some (.cells #[.int .i64 0, .int .i64 0] 31 (0, 0))) := ⟨h3_⟩
 have n4_ : Aside0 (w.heap.size ≤ gb150) := ⟨h4_⟩
 have n5_ : Aside0 (w.heap.size ≤ gb150) := ⟨h5_⟩
 have n6_ : Aside0 (gb133 ≠ gb150) := ⟨h6_⟩
 have n7_ : Aside0 (gb150 ≠ gb133) := ⟨h7_⟩
 have n8_ : Aside0 (gb134 ≠ gb150) := ⟨h8_⟩
 have n9_ : Aside0 (gb150 ≠ gb134) := ⟨h9_⟩
 have n10_ : Aside0 (gb142 ≠ gb150) := ⟨h10_⟩
 have n11_ : Aside0 (gb150 ≠ gb142) := ⟨h11_⟩
 have n12_ : Aside0 (Below w.heap.size w w55) := ⟨h12_⟩
 clear BK133
 clear BK134
 clear BK142
 clear HB
 clear h0_ h1_ h2_ h3_ h4_ h5_ h6_ h7_ h8_ h9_ h10_ h11_ h12_
 have BK133 := n0_
 have BK134 := n1_
 have BK142 := n2_
 have BK150 := n3_
 have GW150 := n4_
 have GE150 := n5_
 have NB133_150 := n6_
 have NB150_133 := n7_
 have NB134_150 := n8_
 have NB150_134 := n9_
 have NB142_150 := n10_
 have NB150_142 := n11_
 have HB := n12_
 clear n0_ n1_ n2_ n3_ n4_ n5_ n6_ n7_ n8_ n9_ n10_ n11_ n12_
 have hHeld : w55.cell? ⟨gb133, 0, none⟩ = some (.int .i64 a0_0) ∧ w55.cell? ⟨gb133, 1, none⟩ = some (.int .i64 a0_1) ∧ w55.cell? ⟨gb134, 0, none⟩ = some (.int .i64 a1_0) ∧ w55.cell? ⟨gb134, 1, none⟩ = some (.int .i64 a1_1) := hS_
 refine norm_ (a' := ?_) ?_ ?_
 rotate_left
 · simp only [putAll, Act.put, List.setIfInBounds_toArray, List.set_cons_zero, List.set_cons_succ]
   rfl
 refine one_ (i := 9) (N := none) #[true, true, true, true, true, true, true, true, true, true, false] rfl rfl (one_of HT_.out (by kernel_rfl)) (by decide) (fun K hK => ?_)
 have hs56 : w55.cell? ⟨gb150, 0, none⟩ = some (.int .i64 0) := (blk_cell BK150.out 0).trans rfl
 have hfs56 := blk_frozen BK150.out 0
 have hns56_0 := NB133_150.out
 have hns56_1 := NB134_150.out
 have hns56_2 := NB142_150.out
 have hms56_0 := NB150_133.out
 have hms56_1 := NB150_134.out
 have hms56_2 := NB150_142.out
 have hs57 : w55.cell? ⟨gb150, 1, none⟩ = some (.int .i64 0) := (blk_cell BK150.out 1).trans rfl
 have hfs57 := blk_frozen BK150.out 1
 have hns57_0 := NB133_150.out
 have hns57_1 := NB134_150.out
 have hns57_2 := NB142_150.out
 have hms57_0 := NB150_133.out
 have hms57_1 := NB150_134.out
 have hms57_2 := NB150_142.out
 refine skip_ (w1 := ?_) (by rfl) rfl ?_ ?_
 rotate_left
 · go_simp
   rfl
 refine hK.out _ _ ⟨((cell_far (p := ⟨gb150, _, none⟩) NB133_150.out _).trans (((cell_far (p := ⟨gb150, _, none⟩) NB133_150.out _).trans (hHeld.1)))), ((cell_far (p := ⟨gb150, _, none⟩) NB133_150.out _).trans (((cell_far (p := ⟨gb150, _, none⟩) NB133_150.out _).trans (hHeld.2.1)))), ((cell_far (p := ⟨gb150, _, none⟩) NB134_150.out _).trans (((cell_far (p := ⟨gb150, _, none⟩) NB134_150.out _).trans (hHeld.2.2.1)))), ((cell_far (p := ⟨gb150, _, none⟩) NB134_150.out _).trans (((cell_far (p := ⟨gb150, _, none⟩) NB134_150.out _).trans (hHeld.2.2.2))))⟩ (fun hHeld => ?_)
 clear hK K
 refine pure_ (i := 10) (N := some 8) (v := ?_) (a' := ?_) #[true, true, true, true, true, true, true, true, true, true, true] rfl rfl (any_of HT_.out (by kernel_rfl)) (fun _ _ _ h => h) (Or.inl ⟨by rfl, ?_⟩) ?_ ?_
 rotate_left
 · intro w'
   first | (go_simp; with_reducible rfl) | (go_simp; unfold Instr.field; go_simp; rfl)
 rotate_left
 · simp only [Act.put, List.setIfInBounds_toArray, List.set_cons_zero, List.set_cons_succ, i64_w, i32_w]
   rfl
 refine done_ (done_of HT_.out (by kernel_rfl)) ?_
 have hnb58 := NB150_133.out
 have hnc58 := NB133_150.out
 have hnb59 := NB150_134.out
 have hnc59 := NB134_150.out
 have hnb60 := NB150_142.out
 have hnc60 := NB142_150.out
 have hcz61_0 : w55.cell? ⟨gb150, 0, none⟩ = some (.int .i64 0) := (blk_cell BK150.out 0).trans rfl
 have hcz61_1 : w55.cell? ⟨gb150, 1, none⟩ = some (.int .i64 0) := (blk_cell BK150.out 1).trans rfl
 have hfz61_0 := blk_frozen BK150.out 0
 have hfz61_1 := blk_frozen BK150.out 1
 have hnb62 := NB142_133.out
 have hnc62 := NB133_142.out
 have hnb63 := NB142_134.out
 have hnc63 := NB134_142.out
 have hcz64_0 : w55.cell? ⟨gb142, 0, none⟩ = some (.int .i64 t139) := (blk_cell BK142.out 0).trans rfl
 have hcz64_1 : w55.cell? ⟨gb142, 1, none⟩ = some (.int .i64 t140) := (blk_cell BK142.out 1).trans rfl
 have hfz64_0 := blk_frozen BK142.out 0
 have hfz64_1 := blk_frozen BK142.out 1
 try go_wp2_with (first | ((with_reducible refine gate_callee (f := 34) rfl ?_); refine goesL_ (some 27) rfl rfl Try.func34 (by kernel_rfl) rfl #[.agg #[.int .i64 t147, .int .i64 t148], .agg #[.int .i64 t139, .int .i64 t140]] rfl (by (try simp only [List.map_toArray, List.map_cons, List.map_nil]); first | done | rfl | (simp only [List.length_drop, List.length_take]; rfl)) ?_; (with_reducible refine (laws_eqSealed.calls t147 t148 t139 t140 true _ A9.out).mono ?_); rintro e w65 ⟨rfl, hb⟩; refine ⟨_, rfl, ?_⟩; have n0_ := Aside0.mk (blk_below (g := gb133) (o := .cells #[.int .i64 a0_0, .int .i64 a0_1] 29 (0, 0)) (by (with_reducible repeat (first | refine blk_drewN ?_ _ | refine blk_drew ?_ | refine blk_alloc ?_ _)); refine blk_far ?_ NB133_150.out _; (with_reducible repeat (first | refine blk_drewN ?_ _ | refine blk_drew ?_ | refine blk_alloc ?_ _)); refine blk_far ?_ NB133_150.out _; (with_reducible repeat (first | refine blk_drewN ?_ _ | refine blk_drew ?_ | refine blk_alloc ?_ _)); exact BK133.out) hb); have n1_ := Aside0.mk (blk_below (g := gb134) (o := .cells #[.int .i64 a1_0, .int .i64 a1_1] 29 (0, 0)) (by (with_reducible repeat (first | refine blk_drewN ?_ _ | refine blk_drew ?_ | refine blk_alloc ?_ _)); refine blk_far ?_ NB134_150.out _; (with_reducible repeat (first | refine blk_drewN ?_ _ | refine blk_drew ?_ | refine blk_alloc ?_ _)); refine blk_far ?_ NB134_150.out _; (with_reducible repeat (first | refine blk_drewN ?_ _ | refine blk_drew ?_ | refine blk_alloc ?_ _)); exact BK134.out) hb); have n2_ := Aside0.mk (blk_below (g := gb142) (o := .cells #[.int .i64 t139, .int .i64 t140] 31 (0, 0)) (by (with_reducible repeat (first | refine blk_drewN ?_ _ | refine blk_drew ?_ | refine blk_alloc ?_ _)); refine blk_far ?_ NB142_150.out _; (with_reducible repeat (first | refine blk_drewN ?_ _ | refine blk_drew ?_ | refine blk_alloc ?_ _)); refine blk_far ?_ NB142_150.out _; (with_reducible repeat (first | refine blk_drewN ?_ _ | refine blk_drew ?_ | refine blk_alloc ?_ _)); exact BK142.out) hb); have n3_ := Aside0.mk (blk_below (g := gb150) (o := .cells #[.int .i64 t147, .int .i64 t148] 31 (0, 0)) (by (with_reducible repeat (first | refine blk_drewN ?_ _ | refine blk_drew ?_ | refine blk_alloc ?_ _)); refine blk_put (cs := #[.int .i64 t147, .int .i64 0]) ?_ 1 _ rfl; (with_reducible repeat (first | refine blk_drewN ?_ _ | refine blk_drew ?_ | refine blk_alloc ?_ _)); refine blk_put (cs := #[.int .i64 0, .int .i64 0]) ?_ 0 _ rfl; (with_reducible repeat (first | refine blk_drewN ?_ _ | refine blk_drew ?_ | refine blk_alloc ?_ _)); exact BK150.out) hb); have n4_ := Aside0.mk (below_step (hq4 HB GE133 GE134 GE142 GE150) hb); clear BK133; clear BK134; clear BK142; clear BK150; clear HB; have BK133 := n0_; have BK134 := n1_; have BK142 := n2_; have BK150 := n3_; have HB := n4_; clear n0_ n1_ n2_ n3_ n4_; (try clear hb); (try clear hb2); (try clear hk); (try clear hi)))
 go_ret
 exact ⟨by first | rfl | (simp [errW_none, errW_some] <;> rfl) | (simp [*, errW_none, errW_some] <;> rfl), hq4 HB GE133 GE134 GE142 GE150⟩
end Go.Proofs.Ytaapgdaignfifaa.QFnExactTimesSealed
