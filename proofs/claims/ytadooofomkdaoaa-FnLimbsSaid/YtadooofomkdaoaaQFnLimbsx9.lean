import Derived.Test.YtadooofomkdaoaaSqueez2
import Derived.Test.YtadooofomkdaoaaQFnLimbsx0
import Derived.Test.YtadooofomkdaoaaQFnLimbsx1
import Derived.Test.YtadooofomkdaoaaQFnLimbsx3
import Derived.Test.YtadooofomkdaoaaQFnLimbsx6
namespace Go.Proofs.Ytadooofomkdaoaa.QFnLimbs
open Go.RowKit Go.Proofs.YtadooofomkdaoaaW.PrintWords Go.Proofs.YtadooofomkdaoaaW.PrintLast Go.Proofs.YtadooofomkdaoaaW.PrintMore
attribute [local go_sem] max2_int min2_int max_two min_two max_three min_three max_four min_four   -- for this text's walks alone
set_option linter.unusedVariables false
set_option linter.unusedSimpArgs false

/-! ### spec_l1Num: function 89 -/
def spec_l1Num.f : Nat → Int → Option (ByteArray)
  | 0, _ => none
  | k + 1, a0 => if a0 < 10 then (some (strOfNums (([(wrap64 (48 + a0)) % 256] : List Int)))) else ((spec_l1Num.f k (wrap64 (Int.tdiv a0 10))).bind fun t483 => ((some (([(wrap64 (48 + (Int.tmod a0 10))) % 256] : List Int) : List Int)).bind fun y484 => (if t483.size + (strOfNums y484).size ≤ 9223372036854775807 then (some (t483 ++ (strOfNums y484))) else (none))))
def spec_l1Num.T3 : Bool × List (List Nat × List Nat) := (true, [([], []), ([0], [0]), ([1], [1]), ([], []), ([3], [3]), ([4], [4]), ([5], [5]), ([6], [6]), ([7], [7]), ([2, 8], [2, 8]), ([9, 2, 0, 1, 2, 3, 4, 5, 6, 7, 8, 9], [9])])
def spec_l1Num.B3 : List Nat := [0, 1, 3, 0, 8, 24, 56, 120, 248, 511, 1023]
theorem spec_l1Num.tab3 : rtab .any (opsOf Try.f89 3) = spec_l1Num.T3 := by kernel_rfl
theorem spec_l1Num.bits3 : waitsOk spec_l1Num.T3.2 spec_l1Num.B3 = true := by kernel_rfl
set_option maxHeartbeats 8000000 in
set_option maxRecDepth 100000 in
theorem spec_l1Num.calls (k : Nat) : ∀ (a0 : Int) (r : ByteArray) (w : World) (h : spec_l1Num.f k a0 = some r),
    Calls Try.prog 89 #[.int .i64 a0] w fun e w' => e = .returned (.string r) ∧ Below w.heap.size w w' := by
 induction k using Nat.strongRecOn with
 | _ k ih =>
 intro a0 r w h
 cases k with
 | zero => exact absurd h (by simp [spec_l1Num.f])
 | succ k =>
 simp only [spec_l1Num.f] at h
 have HB := Aside0.mk (Below.refl w.heap.size w)
 have H : (if a0 < 10 then (some (strOfNums (([(wrap64 (48 + a0)) % 256] : List Int)))) else ((spec_l1Num.f k (wrap64 (Int.tdiv a0 10))).bind fun t483 => ((some (([(wrap64 (48 + (Int.tmod a0 10))) % 256] : List Int) : List Int)).bind fun y484 => (if t483.size + (strOfNums y484).size ≤ 9223372036854775807 then (some (t483 ++ (strOfNums y484))) else (none))))) = some r := h
 clear h
 by_cases c2 : a0 < 10
 · rw [if_pos c2] at H
   have c2b0 : decide (a0 < 10) = true := decide_eq_true c2
   clear c2; obtain ⟨y480, hy480⟩ : ∃ y_ : List Int, y_ = (([(wrap64 (48 + a0)) % 256] : List Int)) := ⟨_, rfl⟩
   replace H : (some (strOfNums y480)) = some r := by first | (rw [hy480]; with_reducible exact H) | (have H2_ := (Option.bind_some _ _).symm.trans H; rw [hy480]; with_reducible exact H2_) | (have H2_ := (Option.bind_some _ _).symm.trans H; with_reducible exact H2_) | with_reducible exact H | (rw [hy480]; exact H) | exact H
   have Ny480 := Aside0.mk hy480; clear hy480; obtain rfl := Option.some.inj H
   go_enter Try.func89, Try.ntmps89
   go_wp2_with (first | ((with_reducible refine gate_dst (N := 8) rfl ?_); refine Kd.R_lit (Kd.int .u8) _ 5 ?hg (N := 8) ?hd (xs := ([(wrap64 (48 + a0)) % 256] : List Int)) (inner := [.int .u8 ((wrap64 (48 + a0)) % 256)]) (ok := fun _ => True) (okp := fun _ => True) ?hr ?hp (fun _ hk => hk) trivial (Below.refl _ _) (Nat.le_refl _) (by simp) ?_; (case hd => rfl); (case hg => rfl); (case hr => first | (go_simp; done) | (go_simp; rfl)); (case hp => exact (Reps.one (show Kd.M (Kd.int .u8) _ _ _ ((wrap64 (48 + a0)) % 256) [.int .u8 ((wrap64 (48 + a0)) % 256)] from rfl) (Reps.none _ _))); intro v481 w3 ho4 hb hg_ hnew_; clear hg_ hnew_; (first | rw [← Ny480.out] at ho4 | (simp only [Int.reduceToNat] at ho4; rw [← Ny480.out] at ho4)); have HO482 := Aside0.mk (Kd.R_lower ho4 (below_size (hq HB))); replace HB := cs (hq HB) hb; clear hb ho4; have hcv5 := own_string (P := Try.prog) Try.underlying22 Try.underlying5 Try.underlying9 (Kd.own_of_R HO482.out)))
   go_ret
   exact ⟨by first | rfl | (simp <;> rfl) | (simp [*] <;> rfl), hq HB⟩
 rw [if_neg c2] at H
 have c2b0 : decide (a0 < 10) = false := decide_eq_false c2
 clear c2; replace H := Option.bind_eq_some_iff.mp H; obtain ⟨t483, A60, H⟩ := H; (try dsimp only at H); have A6 := Aside0.mk A60; clear A60; obtain ⟨y484, hy484⟩ : ∃ y_ : List Int, y_ = (([(wrap64 (48 + (Int.tmod a0 10))) % 256] : List Int)) := ⟨_, rfl⟩
 replace H : (if t483.size + (strOfNums y484).size ≤ 9223372036854775807 then (some (t483 ++ (strOfNums y484))) else (none)) = some r := by first | (rw [hy484]; with_reducible exact H) | (have H2_ := (Option.bind_some _ _).symm.trans H; rw [hy484]; with_reducible exact H2_) | (have H2_ := (Option.bind_some _ _).symm.trans H; with_reducible exact H2_) | with_reducible exact H | (rw [hy484]; exact H) | exact H
 have Ny484 := Aside0.mk hy484; clear hy484
 by_cases c7 : t483.size + (strOfNums y484).size ≤ 9223372036854775807
 rotate_left
 · rw [if_neg c7] at H
   exact absurd H (by simp)

 rw [if_pos c7] at H; have c7b0 := eq_true c7
 have c7b1 : decide (t483.size + (strOfNums y484).size ≤ 9223372036854775807) = true := decide_eq_true c7
 try have c7b2 : (9223372036854775807 < t483.size + (strOfNums y484).size) = False := eq_false (Nat.not_lt.2 c7)
 obtain rfl := Option.some.inj H
 go_enter Try.func89, Try.ntmps89
 try go_wp2
 replace HB := Aside0.mk (below_drew1 HB.out)
 refine start_ (n := 11) (S := fun w' => True) (ds := []) #[false, false, false, false, false, false, false, false, false, false, false] (by kernel_rfl) rfl rfl trivial (fun hHeld => ?_); refine with_tabW spec_l1Num.tab3 spec_l1Num.bits3 (fun HT_ HW_ => ?_)
 generalize w.drew = w8 at HB hHeld ⊢
 refine pure_ (i := 0) (N := some 10) (v := ?_) (a' := ?_) #[true, false, false, false, false, false, false, false, false, false, false] rfl rfl (any_of HT_.out (by kernel_rfl)) (fun _ _ _ h => h) (Or.inl ⟨by rfl, ?_⟩) ?_ ?_
 rotate_left
 · intro w'
   first | (go_simp; with_reducible rfl) | (go_simp; unfold Instr.field; go_simp; rfl)
 rotate_left
 · simp only [Act.put, List.setIfInBounds_toArray, List.set_cons_zero, List.set_cons_succ, i64_w, i32_w]
   rfl
 refine pure_ (i := 1) (N := some 11) (v := ?_) (a' := ?_) #[true, true, false, false, false, false, false, false, false, false, false] rfl rfl (any_of HT_.out (by kernel_rfl)) (fun _ _ _ h => h) (Or.inl ⟨by rfl, ?_⟩) ?_ ?_
 rotate_left
 · intro w'
   first | (go_simp; with_reducible rfl) | (go_simp; unfold Instr.field; go_simp; rfl)
 rotate_left
 · simp only [Act.put, List.setIfInBounds_toArray, List.set_cons_zero, List.set_cons_succ, i64_w, i32_w]
   rfl
 refine pure_ (i := 3) (N := some 13) (v := ?_) (a' := ?_) #[true, true, false, true, false, false, false, false, false, false, false] rfl rfl (any_of HT_.out (by kernel_rfl)) (fun _ _ _ h => h) (Or.inl ⟨by rfl, ?_⟩) ?_ ?_
 rotate_left
 · intro w'
   first | (go_simp; with_reducible rfl) | (go_simp; unfold Instr.field; go_simp; rfl)
 rotate_left
 · simp only [Act.put, List.setIfInBounds_toArray, List.set_cons_zero, List.set_cons_succ, i64_w, i32_w]
   rfl
 refine pure_ (i := 4) (N := some 14) (v := ?_) (a' := ?_) #[true, true, false, true, true, false, false, false, false, false, false] rfl rfl (any_of HT_.out (by kernel_rfl)) (fun _ _ _ h => h) (Or.inl ⟨by rfl, ?_⟩) ?_ ?_
 rotate_left
 · intro w'
   first | (go_simp; with_reducible rfl) | (go_simp; unfold Instr.field; go_simp; rfl)
 rotate_left
 · simp only [Act.put, List.setIfInBounds_toArray, List.set_cons_zero, List.set_cons_succ, i64_w, i32_w]
   rfl
 refine pure_ (i := 5) (N := some 15) (v := ?_) (a' := ?_) #[true, true, false, true, true, true, false, false, false, false, false] rfl rfl (any_of HT_.out (by kernel_rfl)) (fun _ _ _ h => h) (Or.inl ⟨by rfl, ?_⟩) ?_ ?_
 rotate_left
 · intro w'
   first | (go_simp; with_reducible rfl) | (go_simp; unfold Instr.field; go_simp; rfl)
 rotate_left
 · simp only [Act.put, List.setIfInBounds_toArray, List.set_cons_zero, List.set_cons_succ, i64_w, i32_w]
   rfl
 refine pure_ (i := 6) (N := some 16) (v := ?_) (a' := ?_) #[true, true, false, true, true, true, true, false, false, false, false] rfl rfl (any_of HT_.out (by kernel_rfl)) (fun _ _ _ h => h) (Or.inl ⟨by rfl, ?_⟩) ?_ ?_
 rotate_left
 · intro w'
   first | (go_simp; with_reducible rfl) | (go_simp; unfold Instr.field; go_simp; rfl)
 rotate_left
 · simp only [Act.put, List.setIfInBounds_toArray, List.set_cons_zero, List.set_cons_succ, i64_w, i32_w]
   rfl
 refine join_ (σ := Value) 2 #[true, true, true, true, true, true, true, true, true, false, false] (fun s_ => [(12, .string t483), (17, s_), (18, .string (strOfNums y484))]) (fun s_ w' => (Kd.R (Kd.int .u8) 5 w' w.heap.size (fun _ => True) s_ y484) ∧ (Below w.heap.size w w')) ?_ ?_
 rotate_left
 · intro hCont
   refine two_ (i := 2) (j := 7) (Ni := some 12) (Nj := some 17) #[true, true, true, true, true, true, true, false, false, false, false] #[true, true, false, true, true, true, true, true, false, false, false] rfl rfl rfl rfl (two_of HT_.out (by kernel_rfl)) (by decide) (by decide) (fun K hK => ?_) (fun K hK => ?_)
   · skip
     refine goes_ Try.func89 (by kernel_rfl) rfl #[.int .i64 (wrap64 (Int.tdiv a0 10))] (by rfl) rfl rfl (by (try simp only [List.map_toArray, List.map_cons, List.map_nil]); first | done | rfl | (simp only [List.length_drop, List.length_take]; rfl)) ?_
     with_reducible refine (ih k (by omega) (wrap64 (Int.tdiv a0 10)) t483 _ A6.out).mono ?_
     rintro e w9 ⟨rfl, hb⟩
     refine ⟨_, rfl, ?_⟩; replace HB := cs (hq HB) hb; (try clear hb); (try clear hb2); (try clear hk); (try clear hi)
     refine hK.out _ _ trivial (fun hHeld => ?_)
     clear hK K
     refine norm_ (a' := ?_) ?_ ?_
     rotate_left
     · show Act.put _ (some 12) _ = _
       simp only [Act.put, List.setIfInBounds_toArray, List.set_cons_zero, List.set_cons_succ, i64_w, i32_w]
       rfl
     refine one_ (i := 7) (N := some 17) #[true, true, true, true, true, true, true, true, false, false, false] rfl rfl (one_of HT_.out (by kernel_rfl)) (by decide) (fun K hK => ?_)
     refine Kd.R_lit_step (Kd.int .u8) _ 5 ?hg (N := 17) ?hd (xs := ([(wrap64 (48 + (Int.tmod a0 10))) % 256] : List Int)) (inner := [.int .u8 ((wrap64 (48 + (Int.tmod a0 10))) % 256)]) (ok := fun _ => True) (okp := fun _ => True) ?hr ?hp (fun _ hk => hk) trivial (Below.refl _ _) (Nat.le_refl _) (by simp) ?_; (case hd => rfl); (case hg => rfl); (case hr => first | (go_simp; done) | (go_simp; rfl)); (case hp => exact (Reps.one (show Kd.M (Kd.int .u8) _ _ _ ((wrap64 (48 + (Int.tmod a0 10))) % 256) [.int .u8 ((wrap64 (48 + (Int.tmod a0 10))) % 256)] from rfl) (Reps.none _ _)))
     intro v485 w10 ho11 hb hg_ hnew_
     clear hg_ hnew_
     (first | rw [← Ny484.out] at ho11 | (simp only [Int.reduceToNat] at ho11; rw [← Ny484.out] at ho11))
     have HO486 := Aside0.mk (Kd.R_lower ho11 (below_size (hq HB))); replace HB := cs (hq HB) hb; clear hb ho11
     refine hK.out _ _ trivial (fun hHeld => ?_)
     clear hK K
     refine norm_ (a' := ?_) ?_ ?_
     rotate_left
     · show Act.put _ (some 17) _ = _
       simp only [Act.put, List.setIfInBounds_toArray, List.set_cons_zero, List.set_cons_succ, i64_w, i32_w]
       rfl
     refine one_ (i := 8) (N := some 18) #[true, true, true, true, true, true, true, true, true, false, false] rfl rfl (one_of HT_.out (by kernel_rfl)) (by decide) (fun K hK => ?_)
     have hcv12 := own_string (P := Try.prog) Try.underlying22 Try.underlying5 Try.underlying9 (Kd.own_of_R HO486.out)
     refine value_ (w1 := ?_) (v := ?_) (by rfl) rfl ?_ ?_
     rotate_left 2
     · go_simp
       constructor
       · rfl
       rfl
     clear hcv12
     refine hK.out _ _ trivial (fun hHeld => ?_)
     clear hK K
     refine norm_ (a' := ?_) ?_ ?_
     rotate_left
     · show Act.put _ (some 18) _ = _
       simp only [Act.put, List.setIfInBounds_toArray, List.set_cons_zero, List.set_cons_succ, i64_w, i32_w]
       rfl
     exact norm_ (by simp only [putAll, Act.put, List.setIfInBounds_toArray, List.set_cons_zero, List.set_cons_succ]) (hCont (v485) _ ⟨(rq HO486), (hq HB)⟩)
   skip
   refine Kd.R_lit_step (Kd.int .u8) _ 5 ?hg (N := 17) ?hd (xs := ([(wrap64 (48 + (Int.tmod a0 10))) % 256] : List Int)) (inner := [.int .u8 ((wrap64 (48 + (Int.tmod a0 10))) % 256)]) (ok := fun _ => True) (okp := fun _ => True) ?hr ?hp (fun _ hk => hk) trivial (Below.refl _ _) (Nat.le_refl _) (by simp) ?_; (case hd => rfl); (case hg => rfl); (case hr => first | (go_simp; done) | (go_simp; rfl)); (case hp => exact (Reps.one (show Kd.M (Kd.int .u8) _ _ _ ((wrap64 (48 + (Int.tmod a0 10))) % 256) [.int .u8 ((wrap64 (48 + (Int.tmod a0 10))) % 256)] from rfl) (Reps.none _ _)))
   intro v485 w9 ho10 hb hg_ hnew_
   clear hg_ hnew_
   (first | rw [← Ny484.out] at ho10 | (simp only [Int.reduceToNat] at ho10; rw [← Ny484.out] at ho10))
   have HO486 := Aside0.mk (Kd.R_lower ho10 (below_size (hq HB))); replace HB := cs (hq HB) hb; clear hb ho10
   refine hK.out _ _ trivial (fun hHeld => ?_)
   clear hK K
   refine norm_ (a' := ?_) ?_ ?_
   rotate_left
   · show Act.put _ (some 17) _ = _
     simp only [Act.put, List.setIfInBounds_toArray, List.set_cons_zero, List.set_cons_succ, i64_w, i32_w]
     rfl
   refine two_ (i := 2) (j := 8) (Ni := some 12) (Nj := some 18) #[true, true, true, true, true, true, true, true, false, false, false] #[true, true, false, true, true, true, true, true, true, false, false] rfl rfl rfl rfl (two_of HT_.out (by kernel_rfl)) (by decide) (by decide) (fun K hK => ?_) (fun K hK => ?_)
   · skip
     refine goes_ Try.func89 (by kernel_rfl) rfl #[.int .i64 (wrap64 (Int.tdiv a0 10))] (by rfl) rfl rfl (by (try simp only [List.map_toArray, List.map_cons, List.map_nil]); first | done | rfl | (simp only [List.length_drop, List.length_take]; rfl)) ?_
     with_reducible refine (ih k (by omega) (wrap64 (Int.tdiv a0 10)) t483 _ A6.out).mono ?_
     rintro e w11 ⟨rfl, hb⟩
     refine ⟨_, rfl, ?_⟩; replace HO486 := cb HO486 hb; replace HB := cs (hq HB) hb; (try clear hb); (try clear hb2); (try clear hk); (try clear hi)
     refine hK.out _ _ trivial (fun hHeld => ?_)
     clear hK K
     refine norm_ (a' := ?_) ?_ ?_
     rotate_left
     · show Act.put _ (some 12) _ = _
       simp only [Act.put, List.setIfInBounds_toArray, List.set_cons_zero, List.set_cons_succ, i64_w, i32_w]
       rfl
     refine one_ (i := 8) (N := some 18) #[true, true, true, true, true, true, true, true, true, false, false] rfl rfl (one_of HT_.out (by kernel_rfl)) (by decide) (fun K hK => ?_)
     have hcv12 := own_string (P := Try.prog) Try.underlying22 Try.underlying5 Try.underlying9 (Kd.own_of_R HO486.out)
     refine value_ (w1 := ?_) (v := ?_) (by rfl) rfl ?_ ?_
     rotate_left 2
     · go_simp
       constructor
       · rfl
       rfl
     clear hcv12
     refine hK.out _ _ trivial (fun hHeld => ?_)
     clear hK K
     refine norm_ (a' := ?_) ?_ ?_
     rotate_left
     · show Act.put _ (some 18) _ = _
       simp only [Act.put, List.setIfInBounds_toArray, List.set_cons_zero, List.set_cons_succ, i64_w, i32_w]
       rfl
     exact norm_ (by simp only [putAll, Act.put, List.setIfInBounds_toArray, List.set_cons_zero, List.set_cons_succ]) (hCont (v485) _ ⟨(rq HO486), (hq HB)⟩)
   skip
   have hcv11 := own_string (P := Try.prog) Try.underlying22 Try.underlying5 Try.underlying9 (Kd.own_of_R HO486.out)
   refine value_ (w1 := ?_) (v := ?_) (by rfl) rfl ?_ ?_
   rotate_left 2
   · go_simp
     constructor
     · rfl
     rfl
   clear hcv11
   refine hK.out _ _ trivial (fun hHeld => ?_)
   clear hK K
   refine norm_ (a' := ?_) ?_ ?_
   rotate_left
   · show Act.put _ (some 18) _ = _
     simp only [Act.put, List.setIfInBounds_toArray, List.set_cons_zero, List.set_cons_succ, i64_w, i32_w]
     rfl
   refine one_ (i := 2) (N := some 12) #[true, true, true, true, true, true, true, true, true, false, false] rfl rfl (one_of HT_.out (by kernel_rfl)) (by decide) (fun K hK => ?_)
   refine goes_ Try.func89 (by kernel_rfl) rfl #[.int .i64 (wrap64 (Int.tdiv a0 10))] (by rfl) rfl rfl (by (try simp only [List.map_toArray, List.map_cons, List.map_nil]); first | done | rfl | (simp only [List.length_drop, List.length_take]; rfl)) ?_
   with_reducible refine (ih k (by omega) (wrap64 (Int.tdiv a0 10)) t483 _ A6.out).mono ?_
   rintro e w12 ⟨rfl, hb⟩
   refine ⟨_, rfl, ?_⟩; replace HO486 := cb HO486 hb; replace HB := cs (hq HB) hb; (try clear hb); (try clear hb2); (try clear hk); (try clear hi)
   refine hK.out _ _ trivial (fun hHeld => ?_)
   clear hK K
   refine norm_ (a' := ?_) ?_ ?_
   rotate_left
   · show Act.put _ (some 12) _ = _
     simp only [Act.put, List.setIfInBounds_toArray, List.set_cons_zero, List.set_cons_succ, i64_w, i32_w]
     rfl
   exact norm_ (by simp only [putAll, Act.put, List.setIfInBounds_toArray, List.set_cons_zero, List.set_cons_succ]) (hCont (v485) _ ⟨(rq HO486), (hq HB)⟩)
 rintro v485 w13 ⟨h0_, h1_⟩
 have n0_ : Aside0 (Kd.R (Kd.int .u8) 5 w13 w.heap.size (fun _ => True) v485 y484) := ⟨h0_⟩
 have n1_ : Aside0 (Below w.heap.size w w13) := ⟨h1_⟩
 clear HB; clear h0_ h1_; have HO486 := n0_; have HB := n1_; clear n0_ n1_; have hHeld := trivial
 refine norm_ (a' := ?_) ?_ ?_
 rotate_left
 · simp only [putAll, Act.put, List.setIfInBounds_toArray, List.set_cons_zero, List.set_cons_succ]
   rfl
 refine pure_ (i := 9) (N := some 19) (v := ?_) (a' := ?_) #[true, true, true, true, true, true, true, true, true, true, false] rfl rfl (any_of HT_.out (by kernel_rfl)) (fun _ _ _ h => h) (Or.inl ⟨by rfl, ?_⟩) ?_ ?_
 rotate_left
 · intro w'
   first | (go_simp; with_reducible rfl) | (go_simp; unfold Instr.field; go_simp; rfl)
 rotate_left
 · simp only [Act.put, List.setIfInBounds_toArray, List.set_cons_zero, List.set_cons_succ, i64_w, i32_w]
   rfl
 refine pure_ (i := 10) (N := some 2) (v := ?_) (a' := ?_) #[true, true, true, true, true, true, true, true, true, true, true] rfl rfl (any_of HT_.out (by kernel_rfl)) (fun _ _ _ h => h) (Or.inl ⟨by rfl, ?_⟩) ?_ ?_
 rotate_left
 · intro w'
   first | (go_simp; with_reducible rfl) | (go_simp; unfold Instr.field; go_simp; rfl)
 rotate_left
 · simp only [Act.put, List.setIfInBounds_toArray, List.set_cons_zero, List.set_cons_succ, i64_w, i32_w]
   rfl
 refine done_ (done_of HT_.out (by kernel_rfl)) ?_
 try go_wp2
 go_ret
 exact ⟨by first | rfl | (simp <;> rfl) | (simp [*] <;> rfl), hq HB⟩
/-! ### spec_DigitsOf: function 26 -/
def spec_DigitsOf.l0 : Nat → ByteArray → List Int → Option (ByteArray × Bool)
  | 0, _, _ => none
  | k + 1, x4, x5 => if (x5.length : Int) > 0 then ((spec_l1Div.f k x5 (([10] : List Int))).bind fun bt492 => ((spec_l1At.f bt492.2 0).bind fun t498 => ((spec_l1Num.f k t498).bind fun t499 => (if t499.size + x4.size ≤ 9223372036854775807 then (spec_DigitsOf.l0 k (t499 ++ x4) bt492.1) else (none))))) else (if x4.toList = ([] : List UInt8) then (some ((⟨#[48]⟩ : ByteArray), true)) else (some (x4, true)))
def spec_DigitsOf.f (k : Nat) (l0_0 : List Int) : Option (ByteArray × Bool) := (spec_GoodBig.f k l0_0).bind fun t488 => (if t488 = true then (spec_DigitsOf.l0 k (⟨#[]⟩ : ByteArray) l0_0) else (some ((⟨#[]⟩ : ByteArray), false)))
set_option maxHeartbeats 8000000 in
set_option maxRecDepth 100000 in
theorem spec_DigitsOf.calls (k : Nat) (P0_0_ : Nat → Prop) (A0_0 : Option Addr) (c0_0 : Nat) (l0_0 : List Int) (r1 : ByteArray) (r2 : Bool) (w : World) (hs0_0 : Kd.V (Kd.int .i64) 3 w w.heap.size (fun k_ => P0_0_ k_) (.slice A0_0 l0_0.length c0_0) l0_0) (h : spec_DigitsOf.f k l0_0 = some (r1, r2)) :
    Calls Try.prog 26 #[.agg #[.slice A0_0 l0_0.length c0_0]] w fun e w' => e = .returned (.tuple #[.string r1, .bool r2]) ∧ Below w.heap.size w w' := by
 have hu25 := Try.underlying25
 have HO0_0 := Aside0.mk (show Kd.V (Kd.int .i64) 3 w w.heap.size (fun k_ => (P0_0_ k_ ∨ w.heap.size ≤ k_)) (.slice A0_0 l0_0.length c0_0) l0_0 from Kd.V_mono hs0_0 (fun k_ hk => .inl hk))
 have HB := Aside0.mk (Below.refl w.heap.size w)
 have H : ((spec_GoodBig.f k l0_0).bind fun t488 => (if t488 = true then (spec_DigitsOf.l0 k (⟨#[]⟩ : ByteArray) l0_0) else (some ((⟨#[]⟩ : ByteArray), false)))) = some (r1, r2) := h
 clear h; replace H := Option.bind_eq_some_iff.mp H; obtain ⟨t488, A20, H⟩ := H; (try dsimp only at H); have A2 := Aside0.mk A20; clear A20
 by_cases c3 : t488 = true
 rotate_left
 · replace c3 := Bool.eq_false_iff.mpr c3
   subst c3
   have H1 : (some ((⟨#[]⟩ : ByteArray), false)) = some (r1, r2) := by rw [if_neg (show ¬ (false = true) by decide)] at H; exact H
   clear H; have H := H1; clear H1
   simp only [Option.some.injEq, Prod.mk.injEq] at H
   obtain ⟨rfl, rfl⟩ := H
   go_enter Try.func26, Try.ntmps26
   go_wp2_with (first | ((with_reducible refine gate_dst (N := 1) rfl ?_); refine bX #[.slice A0_0 l0_0.length c0_0] 25 ?_; intro gb487 hg w23 hbox hb; replace HO0_0 := Aside0.mk (ve HO0_0 gb487 hg hb); have n1_ := cs (hq HB) hb; have BK487 := Aside0.mk (hbox); have GW487 := cg hg (hq HB); have GE487 := cg hg (hq HB); replace HB := n1_; clear n1_; clear hb hbox hg; have hcz24_0 : w23.cell? ⟨gb487, 0, none⟩ = some (.slice A0_0 l0_0.length c0_0) := (blk_cell BK487.out 0).trans rfl; have hfz24_0 := blk_frozen BK487.out 0) | ((with_reducible refine gate_callee (f := 20) rfl ?_); refine gC (some 9) Try.func20 #[.agg #[.slice A0_0 l0_0.length c0_0]] ?_; (with_reducible refine (spec_GoodBig.calls k _ _ l0_0 false _ ?side1 ?side2 A2.out).mono ?_); (case side1 => exact cq ((Kd.V_reads' HO0_0.out).2.2)); (case side2 => exact (Kd.V_reads' HO0_0.out).2.1); rintro e w25 ⟨rfl, hb⟩; refine ⟨_, rfl, ?_⟩; replace HO0_0 := Aside0.mk (Kd.V_below (vq HO0_0) hb); replace BK487 := cB BK487 hb; replace HB := cs (hq1 HB GE487) hb; (try clear hb); (try clear hb2); (try clear hk); (try clear hi)))
   go_ret2
   exact ⟨by first | rfl | (simp <;> rfl) | (simp [*] <;> rfl), hq1 HB GE487⟩

 subst c3
 have H1 : (spec_DigitsOf.l0 k (⟨#[]⟩ : ByteArray) l0_0) = some (r1, r2) := by rw [if_pos rfl] at H; exact H
 clear H; have H := H1; clear H1
 have H' := Aside0.mk H
 clear H
 go_enter Try.func26, Try.ntmps26
 go_wp2_with (first | ((with_reducible refine gate_dst (N := 1) rfl ?_); refine bX #[.slice A0_0 l0_0.length c0_0] 25 ?_; intro gb487 hg w4 hbox hb; replace HO0_0 := Aside0.mk (ve HO0_0 gb487 hg hb); have n1_ := cs (hq HB) hb; have BK487 := Aside0.mk (hbox); have GW487 := cg hg (hq HB); have GE487 := cg hg (hq HB); replace HB := n1_; clear n1_; clear hb hbox hg; have hcz5_0 : w4.cell? ⟨gb487, 0, none⟩ = some (.slice A0_0 l0_0.length c0_0) := (blk_cell BK487.out 0).trans rfl; have hfz5_0 := blk_frozen BK487.out 0) | ((with_reducible refine gate_callee (f := 20) rfl ?_); refine gC (some 9) Try.func20 #[.agg #[.slice A0_0 l0_0.length c0_0]] ?_; (with_reducible refine (spec_GoodBig.calls k _ _ l0_0 true _ ?side1 ?side2 A2.out).mono ?_); (case side1 => exact cq ((Kd.V_reads' HO0_0.out).2.2)); (case side2 => exact (Kd.V_reads' HO0_0.out).2.1); rintro e w6 ⟨rfl, hb⟩; refine ⟨_, rfl, ?_⟩; replace HO0_0 := Aside0.mk (Kd.V_below (vq HO0_0) hb); replace BK487 := cB BK487 hb; replace HB := cs (hq1 HB GE487) hb; (try clear hb); (try clear hb2); (try clear hk); (try clear hi); have hcz7_0 : w6.cell? ⟨gb487, 0, none⟩ = some (.slice A0_0 l0_0.length c0_0) := (blk_cell BK487.out 0).trans rfl; have hfz7_0 := blk_frozen BK487.out 0))
 go_loopg [4, 5] k (fun kq v4 v5 w' => ∃ (x4_1 : ByteArray) (x5_1 : List Int), v4 = .string x4_1 ∧ Aside0 (spec_DigitsOf.l0 kq x4_1 x5_1 = some (r1, r2)) ∧ Aside0 (kq ≤ k) ∧ Aside0 (Kd.V (Kd.int .i64) 3 w' w.heap.size (fun k_ => (P0_0_ k_ ∨ w.heap.size ≤ k_) ∧ k_ ≠ gb487) v5 x5_1) ∧ Aside0 (Kd.V (Kd.int .i64) 3 w' w.heap.size (fun k_ => (P0_0_ k_ ∨ w.heap.size ≤ k_) ∧ k_ ≠ gb487) (.slice A0_0 l0_0.length c0_0) l0_0) ∧ Aside0 (w'.heap[gb487]? = some (.cells #[(.slice A0_0 l0_0.length c0_0)] 25 (0, 0))) ∧ Aside0 (Below w.heap.size w w'))
 case atStart => exact ⟨((⟨#[]⟩ : ByteArray)), (l0_0), (by first | rfl | (simp; done) | (simp [*]; done)), H', ⟨Nat.le_refl _⟩, ⟨by (with_reducible repeat (first | apply Kd.V_alloc | apply Kd.V_drewN | apply Kd.V_drew)); exact HO0_0.out⟩, ⟨by (with_reducible repeat (first | apply Kd.V_alloc | apply Kd.V_drewN | apply Kd.V_drew)); exact HO0_0.out⟩, ⟨by (with_reducible repeat (first | refine blk_drewN ?_ _ | refine blk_drew ?_ | refine blk_alloc ?_ _)); exact BK487.out⟩, ⟨hq1 HB GE487⟩⟩
 case round =>
   clear H'
   (try clear c2); (try clear p2); (try clear c3); (try clear hcz5_0); (try clear hcz7_0); (try clear hfz5_0); (try clear hfz7_0); obtain ⟨x4_1, x5_1, rfl, HA, HK1, HO_5, HO_488000, BK487, HB⟩ := hrel
   cases gk with
   | zero => exact absurd HA.out (by simp [spec_DigitsOf.l0])
   | succ k1 =>
     have H := HA.out; clear HA
     simp only [spec_DigitsOf.l0] at H
     by_cases c8 : (x5_1.length : Int) > 0
     · rw [if_pos c8] at H
       have c8b0 : decide (0 < (x5_1.length : Int)) = true := decide_eq_true c8
       have c8b1 : decide (0 < x5_1.length) = true := decide_eq_true (by omega)
       clear c8; obtain ⟨y489, hy489⟩ : ∃ y_ : List Int, y_ = (([10] : List Int)) := ⟨_, rfl⟩
       replace H : ((spec_l1Div.f k1 x5_1 y489).bind fun bt492 => ((spec_l1At.f bt492.2 0).bind fun t498 => ((spec_l1Num.f k1 t498).bind fun t499 => (if t499.size + x4_1.size ≤ 9223372036854775807 then (spec_DigitsOf.l0 k1 (t499 ++ x4_1) bt492.1) else (none))))) = some (r1, r2) := by first | (rw [hy489]; with_reducible exact H) | (have H2_ := (Option.bind_some _ _).symm.trans H; rw [hy489]; with_reducible exact H2_) | (have H2_ := (Option.bind_some _ _).symm.trans H; with_reducible exact H2_) | with_reducible exact H | (rw [hy489]; exact H) | exact H
       have Ny489 := Aside0.mk hy489; clear hy489; replace H := Option.bind_eq_some_iff.mp H; obtain ⟨⟨t492, t495⟩, A90, H⟩ := H; (try dsimp only at H); have A9 := Aside0.mk A90; clear A90; replace H := Option.bind_eq_some_iff.mp H; obtain ⟨t498, A100, H⟩ := H; (try dsimp only at H); have A10 := Aside0.mk A100; clear A100; replace H := Option.bind_eq_some_iff.mp H; obtain ⟨t499, A110, H⟩ := H; (try dsimp only at H); have A11 := Aside0.mk A110; clear A110
       by_cases c12 : t499.size + x4_1.size ≤ 9223372036854775807
       · rw [if_pos c12] at H
         have c12b0 := eq_true c12
         have c12b1 : decide (t499.size + x4_1.size ≤ 9223372036854775807) = true := decide_eq_true c12
         try have c12b2 : (9223372036854775807 < t499.size + x4_1.size) = False := eq_false (Nat.not_lt.2 c12)
         have H' := Aside0.mk H
         clear H; obtain ⟨Ao13, co13, eo13⟩ := Kd.V_slice HO_5.out; subst eo13
         go_wp2_with (first | ((with_reducible refine gate_dst (N := 18) rfl ?_); refine Kd.R_lit (Kd.int .i64) _ 3 ?hg (N := 18) ?hd (xs := ([10] : List Int)) (inner := [.int .i64 10]) (ok := fun _ => True) (okp := fun _ => True) ?hr ?hp (fun _ hk => hk) trivial (Below.refl _ _) (Nat.le_refl _) (by simp) ?_; (case hd => rfl); (case hg => rfl); (case hr => first | (go_simp; done) | (go_simp; rfl)); (case hp => exact (Reps.one (show Kd.M (Kd.int .i64) _ _ _ 10 [.int .i64 10] from rfl) (Reps.none _ _))); intro v490 w14 ho15 hb hg_ hnew_; clear hg_ hnew_; (first | rw [← Ny489.out] at ho15 | (simp only [Int.reduceToNat] at ho15; rw [← Ny489.out] at ho15)); replace HO_5 := Aside0.mk (vb HO_5 ho15 hb); replace HO_488000 := Aside0.mk (vb HO_488000 ho15 hb); have HO491 := Aside0.mk (Kd.R_lower (Kd.R_newM (M := fun k_ => (w.heap.size ≤ k_)) ho15 (below_size (hq1 HB GE487)) (fun k_ h_ => h_)) (below_size (hq1 HB GE487))); replace BK487 := cB BK487 hb; replace HB := cs (hq1 HB GE487) hb; clear hb ho15; obtain ⟨Ao16, co16, eo16⟩ := Kd.R_slice HO491.out; subst eo16) | ((with_reducible refine gate_callee (f := 81) rfl ?_); refine gC (some 19) Try.func81 #[.slice Ao13 x5_1.length co13, .slice Ao16 y489.length co16] ?_; (with_reducible refine (spec_l1Div.calls k1 _ _ x5_1 _ _ y489 t492 t495 _ ?side1 ?side2 ?side3 ?side4 A9.out).mono ?_); (case side1 => exact cq ((Kd.V_reads' HO_5.out).2.2)); (case side2 => exact (Kd.V_reads' HO_5.out).2.1); (case side3 => exact cq ((Kd.R_reads' HO491.out).2.2)); (case side4 => exact (Kd.R_reads' HO491.out).2.1); rintro e w17 ⟨v493, v496, rfl, ho0, ho1, hb⟩; refine ⟨_, rfl, ?_⟩; replace HO_5 := Aside0.mk (Kd.V_below (vq HO_5) hb); replace HO_488000 := Aside0.mk (Kd.V_below (vq HO_488000) hb); have n2_ := cb HO491 hb; have HO494 := Aside0.mk (Kd.V_lower (Kd.V_mono (ok' := fun k_ => (P0_0_ k_ ∨ w.heap.size ≤ k_) ∧ some k_ ≠ (.slice Ao16 y489.length co16 : Value).ownBlock ∧ k_ ≠ gb487) ho0 (fun k_ hk_ => ⟨(.inr (Nat.le_trans (below_size (hq1 HB GE487)) hk_)), (Kd.fresh' (ql HO491) k_ hk_), (Kd.freshB (g := gb487) (o := .cells #[.slice A0_0 l0_0.length c0_0] 25 (0, 0)) (bq BK487) k_ hk_)⟩)) (below_size (hq1 HB GE487))); have HO497 := Aside0.mk (Kd.V_lower (Kd.V_mono (ok' := fun k_ => (P0_0_ k_ ∨ w.heap.size ≤ k_) ∧ some k_ ≠ (.slice Ao16 y489.length co16 : Value).ownBlock ∧ k_ ≠ gb487) ho1 (fun k_ hk_ => ⟨(.inr (Nat.le_trans (below_size (hq1 HB GE487)) hk_)), (Kd.fresh' (ql HO491) k_ hk_), (Kd.freshB (g := gb487) (o := .cells #[.slice A0_0 l0_0.length c0_0] 25 (0, 0)) (bq BK487) k_ hk_)⟩)) (below_size (hq1 HB GE487))); replace BK487 := cB BK487 hb; replace HB := cs (hq1 HB GE487) hb; replace HO491 := n2_; clear n2_; (try clear hb); (try clear hb2); (try clear hk); (try clear hi); (try clear ho0); (try clear ho1); obtain ⟨Ao18, co18, eo18⟩ := Kd.V_slice HO497.out; subst eo18) | ((with_reducible refine gate_callee (f := 90) rfl ?_); refine gC (some 23) Try.func90 #[.slice Ao18 t495.length co18, .int .i64 0] ?_; (with_reducible refine (spec_l1At.calls _ _ t495 0 t498 _ ?side1 ?side2 A10.out).mono ?_); (case side1 => exact cq ((Kd.V_reads' HO497.out).2.2)); (case side2 => exact (Kd.V_reads' HO497.out).2.1); rintro e w' ⟨rfl, ⟨nd, rfl⟩⟩; refine ⟨_, rfl, ?_⟩) | ((with_reducible refine gate_callee (f := 89) rfl ?_); refine gC (some 24) Try.func89 #[.int .i64 t498] ?_; (with_reducible refine (spec_l1Num.calls k1 t498 t499 _ A11.out).mono ?_); rintro e w19 ⟨rfl, hb⟩; refine ⟨_, rfl, ?_⟩; replace HO_5 := Aside0.mk (Kd.V_below (vq HO_5) hb); replace HO_488000 := Aside0.mk (Kd.V_below (vq HO_488000) hb); replace HO491 := cb HO491 hb; replace HO494 := Aside0.mk (Kd.V_below (vq HO494) hb); replace HO497 := Aside0.mk (Kd.V_below (vq HO497) hb); replace BK487 := cB BK487 hb; replace HB := cs (hq1 HB GE487) hb; (try clear hb); (try clear hb2); (try clear hk); (try clear hi)))
         go_roundg k1
         case measure => have := HK1.out; omega
         case rel => exact ⟨(t499 ++ x4_1), (t492), (by first | rfl | (simp; done) | (simp [*]; done)), H', ⟨by have := HK1.out; omega⟩, ⟨by (with_reducible repeat (first | apply Kd.V_alloc | apply Kd.V_drewN | apply Kd.V_drew)); exact Kd.V_mono HO494.out (fun _ hk => ⟨hk.1, hk.2.2⟩)⟩, ⟨by (with_reducible repeat (first | apply Kd.V_alloc | apply Kd.V_drewN | apply Kd.V_drew)); exact Kd.V_mono HO_488000.out (fun _ hk => ⟨hk.1.1, hk.1.2⟩)⟩, ⟨by (with_reducible repeat (first | refine blk_drewN ?_ _ | refine blk_drew ?_ | refine blk_alloc ?_ _)); exact BK487.out⟩, ⟨hq1 HB GE487⟩⟩
       · rw [if_neg c12] at H
         exact absurd H (by simp)
     · rw [if_neg c8] at H
       have c8b0 : decide (0 < (x5_1.length : Int)) = false := decide_eq_false c8
       have c8b1 : decide (0 < x5_1.length) = false := decide_eq_false (by omega)
       clear c8
       by_cases c20 : x4_1.toList = ([] : List UInt8)
       · rw [if_pos c20] at H
         have c20b0 : (x4_1.toList == ([] : List UInt8)) = true := beq_iff_eq.mpr c20
         have c20b1 : (x4_1.toList != ([] : List UInt8)) = false := bne_eq_false_iff_eq.mpr c20
         clear c20
         simp only [Option.some.injEq, Prod.mk.injEq] at H
         obtain ⟨rfl, rfl⟩ := H; obtain ⟨Ao21, co21, eo21⟩ := Kd.V_slice HO_5.out; subst eo21
         go_wp2
         go_ret2
         exact ⟨by first | rfl | (simp <;> rfl) | (simp [*] <;> rfl), hq1 HB GE487⟩
       · rw [if_neg c20] at H
         have c20b0 : (x4_1.toList == ([] : List UInt8)) = false := beq_eq_false_iff_ne.mpr c20
         have c20b1 : (x4_1.toList != ([] : List UInt8)) = true := bne_iff_ne.mpr c20
         simp only [Option.some.injEq, Prod.mk.injEq] at H
         obtain ⟨rfl, rfl⟩ := H; obtain ⟨Ao22, co22, eo22⟩ := Kd.V_slice HO_5.out; subst eo22
         go_wp2
         go_ret2
         exact ⟨by first | rfl | (simp <;> rfl) | (simp [*] <;> rfl), hq1 HB GE487⟩
/-! ### spec_l1Cur_spoilt: function 92 -/
mutual
def spec_l1Cur_spoilt.l0 : Nat → ByteArray → ByteArray → Int → List Int → Int → Int → Option (ByteArray × Int × Int)
  | 0, _, _, _, _, _, _ => none
  | k + 1, x1, x2, x7, x1000, x1001, x1002 => if x7 > 0 then (spec_l1Cur_spoilt.j1 k x1 x2 x7 (decide ((x1.size : Int) > 0)) x1000 x1001 x1002) else (spec_l1Cur_spoilt.j1 k x1 x2 x7 false x1000 x1001 x1002)
def spec_l1Cur_spoilt.j1 : Nat → ByteArray → ByteArray → Int → Bool → List Int → Int → Int → Option (ByteArray × Int × Int)
  | 0, _, _, _, _, _, _, _ => none
  | k + 1, x1, x2, x7, x18, x1000, x1001, x1002 => if x18 = true then ((spec_l1Cur_pick.f x1000 x1001 x1002 (x1.size : Int)).bind fun bt503 => ((spec_l1Cur_pick.f x1000 bt503.2.1 bt503.2.2 (x2.size : Int)).bind fun bt506 => (if 0 ≤ bt506.1 then (if bt506.1 < (x2.size : Int) then ((some (([bt x2 bt506.1] : List Int) : List Int)).bind fun y509 => ((spec_l1Cur_pick.f x1000 bt506.2.1 bt506.2.2 3).bind fun bt512 => (if bt512.1 = 0 then (if 0 ≤ bt503.1 then (if bt503.1 ≤ (x1.size : Int) then (if (x1.extract 0 (bt503.1 : Int).toNat).size + (strOfNums y509).size ≤ 9223372036854775807 then (if ((x1.extract 0 (bt503.1 : Int).toNat) ++ (strOfNums y509)).size + (x1.extract (bt503.1 : Int).toNat x1.size).size ≤ 9223372036854775807 then (spec_l1Cur_spoilt.l0 k (((x1.extract 0 (bt503.1 : Int).toNat) ++ (strOfNums y509)) ++ (x1.extract (bt503.1 : Int).toNat x1.size)) x2 (wrap64 (x7 - 1)) x1000 bt512.2.1 bt512.2.2) else (none)) else (none)) else (none)) else (none)) else (if bt512.1 = 1 then (if 0 ≤ bt503.1 then (if bt503.1 ≤ (x1.size : Int) then (if (x1.extract 0 (bt503.1 : Int).toNat).size + (strOfNums y509).size ≤ 9223372036854775807 then (if 0 ≤ (wrap64 (bt503.1 + 1)) then (if (wrap64 (bt503.1 + 1)) ≤ (x1.size : Int) then (if ((x1.extract 0 (bt503.1 : Int).toNat) ++ (strOfNums y509)).size + (x1.extract ((wrap64 (bt503.1 + 1)) : Int).toNat x1.size).size ≤ 9223372036854775807 then (spec_l1Cur_spoilt.l0 k (((x1.extract 0 (bt503.1 : Int).toNat) ++ (strOfNums y509)) ++ (x1.extract ((wrap64 (bt503.1 + 1)) : Int).toNat x1.size)) x2 (wrap64 (x7 - 1)) x1000 bt512.2.1 bt512.2.2) else (none)) else (none)) else (none)) else (none)) else (none)) else (none)) else (if 0 ≤ bt503.1 then (if bt503.1 ≤ (x1.size : Int) then (if 0 ≤ (wrap64 (bt503.1 + 1)) then (if (wrap64 (bt503.1 + 1)) ≤ (x1.size : Int) then (if (x1.extract 0 (bt503.1 : Int).toNat).size + (x1.extract ((wrap64 (bt503.1 + 1)) : Int).toNat x1.size).size ≤ 9223372036854775807 then (spec_l1Cur_spoilt.l0 k ((x1.extract 0 (bt503.1 : Int).toNat) ++ (x1.extract ((wrap64 (bt503.1 + 1)) : Int).toNat x1.size)) x2 (wrap64 (x7 - 1)) x1000 bt512.2.1 bt512.2.2) else (none)) else (none)) else (none)) else (none)) else (none)))))) else (none)) else (none)))) else (some (x1, x1001, x1002))
end
def spec_l1Cur_spoilt.f (k : Nat) (s0_0 : List Int) (s0_1 : Int) (s0_2 : Int) (a1 : ByteArray) (a2 : ByteArray) : Option (ByteArray × Int × Int) := (spec_l1Cur_pick.f s0_0 s0_1 s0_2 3).bind fun bt500 => (spec_l1Cur_spoilt.l0 k a1 a2 bt500.1 s0_0 bt500.2.1 bt500.2.2)
set_option maxHeartbeats 8000000 in
set_option maxRecDepth 100000 in
theorem spec_l1Cur_spoilt.calls (k : Nat) (g : Nat) (s0_0 : List Int) (s0_1 : Int) (s0_2 : Int) (a1 : ByteArray) (a2 : ByteArray) (r1 : ByteArray) (r2 : Int) (r3 : Int) (w0 w : World) (hI : IsS78 w0 w g s0_0 s0_1 s0_2) (hB : Below w0.heap.size w0 w) (h : spec_l1Cur_spoilt.f k s0_0 s0_1 s0_2 a1 a2 = some (r1, r2, r3)) :
    Calls Try.prog 92 #[.pointer (some ⟨g, 0, none⟩), .string a1, .string a2] w fun e w' => e = .returned (.string r1) ∧ IsS78 w0 w' g s0_0 r2 r3 ∧ Below w0.heap.size w0 w' ∧ KeepBut w w' g none := by
 have HI0 := Aside0.mk hI; have HK := Aside0.mk (KeepBut.refl w g none); have HL := Aside0.mk hB.size; clear hI; have HW0 := Aside0.mk hB.size; have HB := Aside0.mk hB; clear hB
 have H : ((spec_l1Cur_pick.f s0_0 s0_1 s0_2 3).bind fun bt500 => (spec_l1Cur_spoilt.l0 k a1 a2 bt500.1 s0_0 bt500.2.1 bt500.2.2)) = some (r1, r2, r3) := h
 clear h; replace H := Option.bind_eq_some_iff.mp H; obtain ⟨⟨t500, t501, t502⟩, A40, H⟩ := H; (try dsimp only at H); have A4 := Aside0.mk A40; clear A40
 have H' := Aside0.mk H
 clear H
 go_enter Try.func92, Try.ntmps92
 go_wp2_with (first | (go_at_call 101; (with_reducible refine (spec_l1Cur_pick.calls g s0_0 s0_1 s0_2 3 t500 t501 t502 w0 _ ?side1 ?side2 A4.out).mono ?_); (case side1 => exact iq78 HI0); (case side2 => repeat (first | (with_reducible first | exact HB.out | apply below_alloc | apply pw_below_drewN | apply below_drew1 | refine below_set ?_ (IsS78.ge HI0.out)) | exact HB.out)); rintro e w5 ⟨rfl, hi, hb, hk⟩; replace HK := Aside0.mk (KeepBut.trans (kq HK) hk (.inl rfl)); replace HB := Aside0.mk (hb); replace HI0 := Aside0.mk (hi); (try clear hb); (try clear hb2); (try clear hk); (try clear hi)))
 repeat (go_quiet (first | (go_at_call 101; (with_reducible refine (spec_l1Cur_pick.calls g s0_0 s0_1 s0_2 3 t500 t501 t502 w0 _ ?side1 ?side2 A4.out).mono ?_); (case side1 => exact iq78 HI0); (case side2 => repeat (first | (with_reducible first | exact HB.out | apply below_alloc | apply pw_below_drewN | apply below_drew1 | refine below_set ?_ (IsS78.ge HI0.out)) | exact HB.out)); rintro e w5 ⟨rfl, hi, hb, hk⟩; replace HK := Aside0.mk (KeepBut.trans (kq HK) hk (.inl rfl)); replace HB := Aside0.mk (hb); replace HI0 := Aside0.mk (hi); (try clear hb); (try clear hb2); (try clear hk); (try clear hi))); try go_wp2_with (first | (go_at_call 101; (with_reducible refine (spec_l1Cur_pick.calls g s0_0 s0_1 s0_2 3 t500 t501 t502 w0 _ ?side1 ?side2 A4.out).mono ?_); (case side1 => exact iq78 HI0); (case side2 => repeat (first | (with_reducible first | exact HB.out | apply below_alloc | apply pw_below_drewN | apply below_drew1 | refine below_set ?_ (IsS78.ge HI0.out)) | exact HB.out)); rintro e w5 ⟨rfl, hi, hb, hk⟩; replace HK := Aside0.mk (KeepBut.trans (kq HK) hk (.inl rfl)); replace HB := Aside0.mk (hb); replace HI0 := Aside0.mk (hi); (try clear hb); (try clear hb2); (try clear hk); (try clear hi))))
 go_loopg [1, 7] k (fun kq v1 v7 w' => ∃ (x1_1 : ByteArray) (x7_1 : Int) (x1001_1 : Int) (x1002_1 : Int), v1 = .string x1_1 ∧ v7 = .int .i64 x7_1 ∧ Aside0 (spec_l1Cur_spoilt.l0 kq x1_1 a2 x7_1 s0_0 x1001_1 x1002_1 = some (r1, r2, r3)) ∧ Aside0 (kq ≤ k) ∧ Aside0 (IsS78 w0 w' g s0_0 x1001_1 x1002_1) ∧ Aside0 (KeepBut w w' g none) ∧ Aside0 (Below w0.heap.size w0 w'))
 case atStart => exact ⟨(a1), (t500), (t501), (t502), (by first | rfl | (simp; done) | (simp [*]; done)), (by first | rfl | (simp; done) | (simp [*]; done)), H', ⟨Nat.le_refl _⟩, ⟨by exact iq78 HI0⟩, ⟨kq HK⟩, ⟨by repeat (first | (with_reducible first | exact HB.out | apply below_alloc | apply pw_below_drewN | apply below_drew1 | refine below_set ?_ (IsS78.ge HI0.out)) | exact HB.out)⟩⟩
 case round =>
   clear H'
   (try clear p2); obtain ⟨x1_1, x7_1, x1001_1, x1002_1, rfl, rfl, HA, HK1, HI0, HK, HB⟩ := hrel
   cases gk with
   | zero => exact absurd HA.out (by simp [spec_l1Cur_spoilt.l0])
   | succ k1 =>
     have H := HA.out; clear HA
     simp only [spec_l1Cur_spoilt.l0] at H
     have HC6 := Aside0.mk H; clear H
     go_upto_region 2 with (fail)
     repeat (go_quiet (fail); go_upto_region 2 with (fail))
     go_cut [18] (fun v18 wc => ∃ (kq : Nat) (x18_5 : Bool), v18 = .bool x18_5 ∧ Aside0 (spec_l1Cur_spoilt.j1 kq x1_1 a2 x7_1 x18_5 s0_0 x1001_1 x1002_1 = some (r1, r2, r3)) ∧ Aside0 (kq ≤ k1) ∧ Aside0 (IsS78 w0 wc g s0_0 x1001_1 x1002_1) ∧ Aside0 (KeepBut w wc g none) ∧ Aside0 (Below w0.heap.size w0 wc))
     case first =>
       have H := HC6.out; clear HC6
       by_cases c7 : x7_1 > 0
       · rw [if_pos c7] at H
         have c7b0 : decide (0 < x7_1) = true := decide_eq_true c7
         clear c7
         (first | rw [c7b0] | (simp only [i64_w, i32_w]; rw [c7b0]) | skip)
         have H' := Aside0.mk H
         clear H
         go_wp2
         repeat (go_quiet (fail); try go_wp2)
         go_meet
         case rel => exact ⟨_, (decide ((x1_1.size : Int) > 0)), (by first | rfl | (simp; done) | (simp [*]; done)), H', ⟨by have := HK1.out; first | omega | exact Nat.le_refl _⟩, ⟨by exact iq78 HI0⟩, ⟨kq HK⟩, ⟨by repeat (first | (with_reducible first | exact HB.out | apply below_alloc | apply pw_below_drewN | apply below_drew1 | refine below_set ?_ (IsS78.ge HI0.out)) | exact HB.out)⟩⟩
       · rw [if_neg c7] at H
         have c7b0 : decide (0 < x7_1) = false := decide_eq_false c7
         clear c7
         (first | rw [c7b0] | (simp only [i64_w, i32_w]; rw [c7b0]) | skip)
         have H' := Aside0.mk H
         clear H
         go_wp2
         repeat (go_quiet (fail); try go_wp2)
         go_meet
         case rel => exact ⟨_, (false), (by first | rfl | (simp; done) | (simp [*]; done)), H', ⟨by have := HK1.out; first | omega | exact Nat.le_refl _⟩, ⟨by exact iq78 HI0⟩, ⟨kq HK⟩, ⟨by repeat (first | (with_reducible first | exact HB.out | apply below_alloc | apply pw_below_drewN | apply below_drew1 | refine below_set ?_ (IsS78.ge HI0.out)) | exact HB.out)⟩⟩
     case rest =>
       clear HC6; (try clear p2); (try clear c7); (try clear c7b0); (try clear p2); obtain ⟨kq, x18_5, rfl, HA, HJ5, HI0, HK, HB⟩ := hcut
       cases kq with
       | zero => exact absurd HA.out (by simp [spec_l1Cur_spoilt.j1])
       | succ kj5 =>
         have H := HA.out; clear HA
         simp only [spec_l1Cur_spoilt.j1] at H
         by_cases c8 : x18_5 = true
         · subst c8
           have H1 : ((spec_l1Cur_pick.f s0_0 x1001_1 x1002_1 (x1_1.size : Int)).bind fun bt503 => ((spec_l1Cur_pick.f s0_0 bt503.2.1 bt503.2.2 (a2.size : Int)).bind fun bt506 => (if 0 ≤ bt506.1 then (if bt506.1 < (a2.size : Int) then ((some (([bt a2 bt506.1] : List Int) : List Int)).bind fun y509 => ((spec_l1Cur_pick.f s0_0 bt506.2.1 bt506.2.2 3).bind fun bt512 => (if bt512.1 = 0 then (if 0 ≤ bt503.1 then (if bt503.1 ≤ (x1_1.size : Int) then (if (x1_1.extract 0 (bt503.1 : Int).toNat).size + (strOfNums y509).size ≤ 9223372036854775807 then (if ((x1_1.extract 0 (bt503.1 : Int).toNat) ++ (strOfNums y509)).size + (x1_1.extract (bt503.1 : Int).toNat x1_1.size).size ≤ 9223372036854775807 then (spec_l1Cur_spoilt.l0 kj5 (((x1_1.extract 0 (bt503.1 : Int).toNat) ++ (strOfNums y509)) ++ (x1_1.extract (bt503.1 : Int).toNat x1_1.size)) a2 (wrap64 (x7_1 - 1)) s0_0 bt512.2.1 bt512.2.2) else (none)) else (none)) else (none)) else (none)) else (if bt512.1 = 1 then (if 0 ≤ bt503.1 then (if bt503.1 ≤ (x1_1.size : Int) then (if (x1_1.extract 0 (bt503.1 : Int).toNat).size + (strOfNums y509).size ≤ 9223372036854775807 then (if 0 ≤ (wrap64 (bt503.1 + 1)) then (if (wrap64 (bt503.1 + 1)) ≤ (x1_1.size : Int) then (if ((x1_1.extract 0 (bt503.1 : Int).toNat) ++ (strOfNums y509)).size + (x1_1.extract ((wrap64 (bt503.1 + 1)) : Int).toNat x1_1.size).size ≤ 9223372036854775807 then (spec_l1Cur_spoilt.l0 kj5 (((x1_1.extract 0 (bt503.1 : Int).toNat) ++ (strOfNums y509)) ++ (x1_1.extract ((wrap64 (bt503.1 + 1)) : Int).toNat x1_1.size)) a2 (wrap64 (x7_1 - 1)) s0_0 bt512.2.1 bt512.2.2) else (none)) else (none)) else (none)) else (none)) else (none)) else (none)) else (if 0 ≤ bt503.1 then (if bt503.1 ≤ (x1_1.size : Int) then (if 0 ≤ (wrap64 (bt503.1 + 1)) then (if (wrap64 (bt503.1 + 1)) ≤ (x1_1.size : Int) then (if (x1_1.extract 0 (bt503.1 : Int).toNat).size + (x1_1.extract ((wrap64 (bt503.1 + 1)) : Int).toNat x1_1.size).size ≤ 9223372036854775807 then (spec_l1Cur_spoilt.l0 kj5 ((x1_1.extract 0 (bt503.1 : Int).toNat) ++ (x1_1.extract ((wrap64 (bt503.1 + 1)) : Int).toNat x1_1.size)) a2 (wrap64 (x7_1 - 1)) s0_0 bt512.2.1 bt512.2.2) else (none)) else (none)) else (none)) else (none)) else (none)))))) else (none)) else (none)))) = some (r1, r2, r3) := by rw [if_pos rfl] at H; exact H
           clear H; have H := H1; clear H1; replace H := Option.bind_eq_some_iff.mp H; obtain ⟨⟨t503, t504, t505⟩, A90, H⟩ := H; (try dsimp only at H); have A9 := Aside0.mk A90; clear A90; replace H := Option.bind_eq_some_iff.mp H; obtain ⟨⟨t506, t507, t508⟩, A100, H⟩ := H; (try dsimp only at H); have A10 := Aside0.mk A100; clear A100
           by_cases c11 : 0 ≤ t506
           · rw [if_pos c11] at H
             have c11b0 : decide (0 ≤ t506) = true := decide_eq_true c11
             clear c11
             by_cases c12 : t506 < (a2.size : Int)
             · rw [if_pos c12] at H
               have c12b0 : decide (t506 < (a2.size : Int)) = true := decide_eq_true c12
               clear c12; obtain ⟨y509, hy509⟩ : ∃ y_ : List Int, y_ = (([bt a2 t506] : List Int)) := ⟨_, rfl⟩
               replace H : ((spec_l1Cur_pick.f s0_0 t507 t508 3).bind fun bt512 => (if bt512.1 = 0 then (if 0 ≤ t503 then (if t503 ≤ (x1_1.size : Int) then (if (x1_1.extract 0 (t503 : Int).toNat).size + (strOfNums y509).size ≤ 9223372036854775807 then (if ((x1_1.extract 0 (t503 : Int).toNat) ++ (strOfNums y509)).size + (x1_1.extract (t503 : Int).toNat x1_1.size).size ≤ 9223372036854775807 then (spec_l1Cur_spoilt.l0 kj5 (((x1_1.extract 0 (t503 : Int).toNat) ++ (strOfNums y509)) ++ (x1_1.extract (t503 : Int).toNat x1_1.size)) a2 (wrap64 (x7_1 - 1)) s0_0 bt512.2.1 bt512.2.2) else (none)) else (none)) else (none)) else (none)) else (if bt512.1 = 1 then (if 0 ≤ t503 then (if t503 ≤ (x1_1.size : Int) then (if (x1_1.extract 0 (t503 : Int).toNat).size + (strOfNums y509).size ≤ 9223372036854775807 then (if 0 ≤ (wrap64 (t503 + 1)) then (if (wrap64 (t503 + 1)) ≤ (x1_1.size : Int) then (if ((x1_1.extract 0 (t503 : Int).toNat) ++ (strOfNums y509)).size + (x1_1.extract ((wrap64 (t503 + 1)) : Int).toNat x1_1.size).size ≤ 9223372036854775807 then (spec_l1Cur_spoilt.l0 kj5 (((x1_1.extract 0 (t503 : Int).toNat) ++ (strOfNums y509)) ++ (x1_1.extract ((wrap64 (t503 + 1)) : Int).toNat x1_1.size)) a2 (wrap64 (x7_1 - 1)) s0_0 bt512.2.1 bt512.2.2) else (none)) else (none)) else (none)) else (none)) else (none)) else (none)) else (if 0 ≤ t503 then (if t503 ≤ (x1_1.size : Int) then (if 0 ≤ (wrap64 (t503 + 1)) then (if (wrap64 (t503 + 1)) ≤ (x1_1.size : Int) then (if (x1_1.extract 0 (t503 : Int).toNat).size + (x1_1.extract ((wrap64 (t503 + 1)) : Int).toNat x1_1.size).size ≤ 9223372036854775807 then (spec_l1Cur_spoilt.l0 kj5 ((x1_1.extract 0 (t503 : Int).toNat) ++ (x1_1.extract ((wrap64 (t503 + 1)) : Int).toNat x1_1.size)) a2 (wrap64 (x7_1 - 1)) s0_0 bt512.2.1 bt512.2.2) else (none)) else (none)) else (none)) else (none)) else (none))))) = some (r1, r2, r3) := by first | (rw [hy509]; with_reducible exact H) | (have H2_ := (Option.bind_some _ _).symm.trans H; rw [hy509]; with_reducible exact H2_) | (have H2_ := (Option.bind_some _ _).symm.trans H; with_reducible exact H2_) | with_reducible exact H | (rw [hy509]; exact H) | exact H
               have Ny509 := Aside0.mk hy509; clear hy509; replace H := Option.bind_eq_some_iff.mp H; obtain ⟨⟨t512, t513, t514⟩, A140, H⟩ := H; (try dsimp only at H); have A14 := Aside0.mk A140; clear A140
               by_cases c15 : t512 = 0
               · rw [if_pos c15] at H
                 have c15b0 : (t512 == 0) = true := beq_iff_eq.mpr c15
                 have c15b1 : (t512 != 0) = false := bne_eq_false_iff_eq.mpr c15
                 clear c15
                 by_cases c16 : 0 ≤ t503
                 · rw [if_pos c16] at H
                   have c16b0 := eq_true c16
                   have c16b1 : decide (0 ≤ t503) = true := decide_eq_true c16
                   clear c16
                   by_cases c17 : t503 ≤ (x1_1.size : Int)
                   · rw [if_pos c17] at H
                     have c17b0 := eq_true c17
                     have c17b1 : decide (t503 ≤ (x1_1.size : Int)) = true := decide_eq_true c17
                     clear c17
                     by_cases c18 : (x1_1.extract 0 (t503 : Int).toNat).size + (strOfNums y509).size ≤ 9223372036854775807
                     · rw [if_pos c18] at H
                       have c18b0 := eq_true c18
                       have c18b1 : decide ((x1_1.extract 0 (t503 : Int).toNat).size + (strOfNums y509).size ≤ 9223372036854775807) = true := decide_eq_true c18
                       try have c18b2 : (9223372036854775807 < (x1_1.extract 0 (t503 : Int).toNat).size + (strOfNums y509).size) = False := eq_false (Nat.not_lt.2 c18)
                       have c19b0 := eq_true (of_decide_eq_true (by first | (with_reducible assumption) | assumption) : 0 ≤ t503); have c20b0 := eq_true (of_decide_eq_true (by first | (with_reducible assumption) | assumption) : t503 ≤ (x1_1.size : Int))
                       by_cases c21 : ((x1_1.extract 0 (t503 : Int).toNat) ++ (strOfNums y509)).size + (x1_1.extract (t503 : Int).toNat x1_1.size).size ≤ 9223372036854775807
                       · rw [if_pos c21] at H
                         have c21b0 := eq_true c21
                         have c21b1 : decide (((x1_1.extract 0 (t503 : Int).toNat) ++ (strOfNums y509)).size + (x1_1.extract (t503 : Int).toNat x1_1.size).size ≤ 9223372036854775807) = true := decide_eq_true c21
                         try have c21b2 : (9223372036854775807 < ((x1_1.extract 0 (t503 : Int).toNat) ++ (strOfNums y509)).size + (x1_1.extract (t503 : Int).toNat x1_1.size).size) = False := eq_false (Nat.not_lt.2 c21)
                         have H' := Aside0.mk H
                         clear H
                         go_wp2_with (first | (go_at_call 101; (with_reducible refine (spec_l1Cur_pick.calls g s0_0 x1001_1 x1002_1 (x1_1.size : Int) t503 t504 t505 w0 _ ?side1 ?side2 A9.out).mono ?_); (case side1 => exact iq78 HI0); (case side2 => repeat (first | (with_reducible first | exact HB.out | apply below_alloc | apply pw_below_drewN | apply below_drew1 | refine below_set ?_ (IsS78.ge HI0.out)) | exact HB.out)); rintro e w22 ⟨rfl, hi, hb, hk⟩; replace HK := Aside0.mk (KeepBut.trans (kq HK) hk (.inl rfl)); replace HB := Aside0.mk (hb); replace HI0 := Aside0.mk (hi); (try clear hb); (try clear hb2); (try clear hk); (try clear hi)) | (go_at_call 101; (with_reducible refine (spec_l1Cur_pick.calls g s0_0 t504 t505 (a2.size : Int) t506 t507 t508 w0 _ ?side1 ?side2 A10.out).mono ?_); (case side1 => exact iq78 HI0); (case side2 => repeat (first | (with_reducible first | exact HB.out | apply below_alloc | apply pw_below_drewN | apply below_drew1 | refine below_set ?_ (IsS78.ge HI0.out)) | exact HB.out)); rintro e w23 ⟨rfl, hi, hb, hk⟩; replace HK := Aside0.mk (KeepBut.trans (kq HK) hk (.inl rfl)); replace HB := Aside0.mk (hb); replace HI0 := Aside0.mk (hi); (try clear hb); (try clear hb2); (try clear hk); (try clear hi); have p13 : 0 ≤ (t506 : Int) := of_decide_eq_true (by first | (with_reducible assumption) | assumption); have q13 : t506 < (a2.size : Int) := of_decide_eq_true (by first | (with_reducible assumption) | assumption); have hx13 := bt_at a2 t506; replace p13 := eq_true p13; replace q13 := eq_true q13) | ((with_reducible refine gate_dst (N := 31) rfl ?_); (try (refine gate_guard (by rfl) ?_; dsimp only)); refine Kd.R_lit (Kd.int .u8) _ 5 ?hg (N := 31) ?hd (xs := ([bt a2 t506] : List Int)) (inner := [.int .u8 (bt a2 t506)]) (ok := fun _ => True) (okp := fun _ => True) ?hr ?hp (fun _ hk => hk) trivial (Below.refl _ _) (Nat.le_refl _) (by simp) ?_; (case hd => rfl); (case hg => rfl); (case hr => first | (go_simp; done) | (go_simp; rfl)); (case hp => exact (Reps.one (show Kd.M (Kd.int .u8) _ _ _ (bt a2 t506) [.int .u8 (bt a2 t506)] from rfl) (Reps.none _ _))); intro v510 w24 ho25 hb hg_ hnew_; clear hg_ hnew_; (first | rw [← Ny509.out] at ho25 | (simp only [Int.reduceToNat] at ho25; rw [← Ny509.out] at ho25)); have HO511 := Aside0.mk (Kd.R_lower ho25 (keep_size (w := w) (g := g) (row := none) (kq HK))); have n1_ := Aside0.mk (IsS78.below (by exact iq78 HI0) hb); replace HK := Aside0.mk (KeepBut.trans (kq HK) (KeepBut.of_below hb g none) (.inl rfl)); replace HB := Aside0.mk (below_step (by repeat (first | (with_reducible first | exact HB.out | apply below_alloc | apply pw_below_drewN | apply below_drew1 | refine below_set ?_ (IsS78.ge HI0.out)) | exact HB.out)) hb); replace HI0 := n1_; clear n1_; clear hb ho25; have hcv26 := own_string (P := Try.prog) Try.underlying22 Try.underlying5 Try.underlying9 (Kd.own_of_R HO511.out)) | (go_at_call 101; (with_reducible refine (spec_l1Cur_pick.calls g s0_0 t507 t508 3 t512 t513 t514 w0 _ ?side1 ?side2 A14.out).mono ?_); (case side1 => exact iq78 HI0); (case side2 => repeat (first | (with_reducible first | exact HB.out | apply below_alloc | apply pw_below_drewN | apply below_drew1 | refine below_set ?_ (IsS78.ge HI0.out)) | exact HB.out)); rintro e w27 ⟨rfl, hi, hb, hk⟩; replace HO511 := Aside0.mk (Kd.R_mono (Kd.R_keep (IsS78.apart (show IsS78 w0 _ g s0_0 t507 t508 from by exact iq78 HI0) (rq HO511) (by decide)) hk (fun _ h => h.2)) (fun _ h => h.1)); replace HK := Aside0.mk (KeepBut.trans (kq HK) hk (.inl rfl)); replace HB := Aside0.mk (hb); replace HI0 := Aside0.mk (hi); (try clear hb); (try clear hb2); (try clear hk); (try clear hi)))
                         repeat (go_quiet (first | (go_at_call 101; (with_reducible refine (spec_l1Cur_pick.calls g s0_0 x1001_1 x1002_1 (x1_1.size : Int) t503 t504 t505 w0 _ ?side1 ?side2 A9.out).mono ?_); (case side1 => exact iq78 HI0); (case side2 => repeat (first | (with_reducible first | exact HB.out | apply below_alloc | apply pw_below_drewN | apply below_drew1 | refine below_set ?_ (IsS78.ge HI0.out)) | exact HB.out)); rintro e w22 ⟨rfl, hi, hb, hk⟩; replace HK := Aside0.mk (KeepBut.trans (kq HK) hk (.inl rfl)); replace HB := Aside0.mk (hb); replace HI0 := Aside0.mk (hi); (try clear hb); (try clear hb2); (try clear hk); (try clear hi)) | (go_at_call 101; (with_reducible refine (spec_l1Cur_pick.calls g s0_0 t504 t505 (a2.size : Int) t506 t507 t508 w0 _ ?side1 ?side2 A10.out).mono ?_); (case side1 => exact iq78 HI0); (case side2 => repeat (first | (with_reducible first | exact HB.out | apply below_alloc | apply pw_below_drewN | apply below_drew1 | refine below_set ?_ (IsS78.ge HI0.out)) | exact HB.out)); rintro e w23 ⟨rfl, hi, hb, hk⟩; replace HK := Aside0.mk (KeepBut.trans (kq HK) hk (.inl rfl)); replace HB := Aside0.mk (hb); replace HI0 := Aside0.mk (hi); (try clear hb); (try clear hb2); (try clear hk); (try clear hi); have p13 : 0 ≤ (t506 : Int) := of_decide_eq_true (by first | (with_reducible assumption) | assumption); have q13 : t506 < (a2.size : Int) := of_decide_eq_true (by first | (with_reducible assumption) | assumption); have hx13 := bt_at a2 t506; replace p13 := eq_true p13; replace q13 := eq_true q13) | ((with_reducible refine gate_dst (N := 31) rfl ?_); (try (refine gate_guard (by rfl) ?_; dsimp only)); refine Kd.R_lit (Kd.int .u8) _ 5 ?hg (N := 31) ?hd (xs := ([bt a2 t506] : List Int)) (inner := [.int .u8 (bt a2 t506)]) (ok := fun _ => True) (okp := fun _ => True) ?hr ?hp (fun _ hk => hk) trivial (Below.refl _ _) (Nat.le_refl _) (by simp) ?_; (case hd => rfl); (case hg => rfl); (case hr => first | (go_simp; done) | (go_simp; rfl)); (case hp => exact (Reps.one (show Kd.M (Kd.int .u8) _ _ _ (bt a2 t506) [.int .u8 (bt a2 t506)] from rfl) (Reps.none _ _))); intro v510 w24 ho25 hb hg_ hnew_; clear hg_ hnew_; (first | rw [← Ny509.out] at ho25 | (simp only [Int.reduceToNat] at ho25; rw [← Ny509.out] at ho25)); have HO511 := Aside0.mk (Kd.R_lower ho25 (keep_size (w := w) (g := g) (row := none) (kq HK))); have n1_ := Aside0.mk (IsS78.below (by exact iq78 HI0) hb); replace HK := Aside0.mk (KeepBut.trans (kq HK) (KeepBut.of_below hb g none) (.inl rfl)); replace HB := Aside0.mk (below_step (by repeat (first | (with_reducible first | exact HB.out | apply below_alloc | apply pw_below_drewN | apply below_drew1 | refine below_set ?_ (IsS78.ge HI0.out)) | exact HB.out)) hb); replace HI0 := n1_; clear n1_; clear hb ho25; have hcv26 := own_string (P := Try.prog) Try.underlying22 Try.underlying5 Try.underlying9 (Kd.own_of_R HO511.out)) | (go_at_call 101; (with_reducible refine (spec_l1Cur_pick.calls g s0_0 t507 t508 3 t512 t513 t514 w0 _ ?side1 ?side2 A14.out).mono ?_); (case side1 => exact iq78 HI0); (case side2 => repeat (first | (with_reducible first | exact HB.out | apply below_alloc | apply pw_below_drewN | apply below_drew1 | refine below_set ?_ (IsS78.ge HI0.out)) | exact HB.out)); rintro e w27 ⟨rfl, hi, hb, hk⟩; replace HO511 := Aside0.mk (Kd.R_mono (Kd.R_keep (IsS78.apart (show IsS78 w0 _ g s0_0 t507 t508 from by exact iq78 HI0) (rq HO511) (by decide)) hk (fun _ h => h.2)) (fun _ h => h.1)); replace HK := Aside0.mk (KeepBut.trans (kq HK) hk (.inl rfl)); replace HB := Aside0.mk (hb); replace HI0 := Aside0.mk (hi); (try clear hb); (try clear hb2); (try clear hk); (try clear hi))); try go_wp2_with (first | (go_at_call 101; (with_reducible refine (spec_l1Cur_pick.calls g s0_0 x1001_1 x1002_1 (x1_1.size : Int) t503 t504 t505 w0 _ ?side1 ?side2 A9.out).mono ?_); (case side1 => exact iq78 HI0); (case side2 => repeat (first | (with_reducible first | exact HB.out | apply below_alloc | apply pw_below_drewN | apply below_drew1 | refine below_set ?_ (IsS78.ge HI0.out)) | exact HB.out)); rintro e w22 ⟨rfl, hi, hb, hk⟩; replace HK := Aside0.mk (KeepBut.trans (kq HK) hk (.inl rfl)); replace HB := Aside0.mk (hb); replace HI0 := Aside0.mk (hi); (try clear hb); (try clear hb2); (try clear hk); (try clear hi)) | (go_at_call 101; (with_reducible refine (spec_l1Cur_pick.calls g s0_0 t504 t505 (a2.size : Int) t506 t507 t508 w0 _ ?side1 ?side2 A10.out).mono ?_); (case side1 => exact iq78 HI0); (case side2 => repeat (first | (with_reducible first | exact HB.out | apply below_alloc | apply pw_below_drewN | apply below_drew1 | refine below_set ?_ (IsS78.ge HI0.out)) | exact HB.out)); rintro e w23 ⟨rfl, hi, hb, hk⟩; replace HK := Aside0.mk (KeepBut.trans (kq HK) hk (.inl rfl)); replace HB := Aside0.mk (hb); replace HI0 := Aside0.mk (hi); (try clear hb); (try clear hb2); (try clear hk); (try clear hi); have p13 : 0 ≤ (t506 : Int) := of_decide_eq_true (by first | (with_reducible assumption) | assumption); have q13 : t506 < (a2.size : Int) := of_decide_eq_true (by first | (with_reducible assumption) | assumption); have hx13 := bt_at a2 t506; replace p13 := eq_true p13; replace q13 := eq_true q13) | ((with_reducible refine gate_dst (N := 31) rfl ?_); (try (refine gate_guard (by rfl) ?_; dsimp only)); refine Kd.R_lit (Kd.int .u8) _ 5 ?hg (N := 31) ?hd (xs := ([bt a2 t506] : List Int)) (inner := [.int .u8 (bt a2 t506)]) (ok := fun _ => True) (okp := fun _ => True) ?hr ?hp (fun _ hk => hk) trivial (Below.refl _ _) (Nat.le_refl _) (by simp) ?_; (case hd => rfl); (case hg => rfl); (case hr => first | (go_simp; done) | (go_simp; rfl)); (case hp => exact (Reps.one (show Kd.M (Kd.int .u8) _ _ _ (bt a2 t506) [.int .u8 (bt a2 t506)] from rfl) (Reps.none _ _))); intro v510 w24 ho25 hb hg_ hnew_; clear hg_ hnew_; (first | rw [← Ny509.out] at ho25 | (simp only [Int.reduceToNat] at ho25; rw [← Ny509.out] at ho25)); have HO511 := Aside0.mk (Kd.R_lower ho25 (keep_size (w := w) (g := g) (row := none) (kq HK))); have n1_ := Aside0.mk (IsS78.below (by exact iq78 HI0) hb); replace HK := Aside0.mk (KeepBut.trans (kq HK) (KeepBut.of_below hb g none) (.inl rfl)); replace HB := Aside0.mk (below_step (by repeat (first | (with_reducible first | exact HB.out | apply below_alloc | apply pw_below_drewN | apply below_drew1 | refine below_set ?_ (IsS78.ge HI0.out)) | exact HB.out)) hb); replace HI0 := n1_; clear n1_; clear hb ho25; have hcv26 := own_string (P := Try.prog) Try.underlying22 Try.underlying5 Try.underlying9 (Kd.own_of_R HO511.out)) | (go_at_call 101; (with_reducible refine (spec_l1Cur_pick.calls g s0_0 t507 t508 3 t512 t513 t514 w0 _ ?side1 ?side2 A14.out).mono ?_); (case side1 => exact iq78 HI0); (case side2 => repeat (first | (with_reducible first | exact HB.out | apply below_alloc | apply pw_below_drewN | apply below_drew1 | refine below_set ?_ (IsS78.ge HI0.out)) | exact HB.out)); rintro e w27 ⟨rfl, hi, hb, hk⟩; replace HO511 := Aside0.mk (Kd.R_mono (Kd.R_keep (IsS78.apart (show IsS78 w0 _ g s0_0 t507 t508 from by exact iq78 HI0) (rq HO511) (by decide)) hk (fun _ h => h.2)) (fun _ h => h.1)); replace HK := Aside0.mk (KeepBut.trans (kq HK) hk (.inl rfl)); replace HB := Aside0.mk (hb); replace HI0 := Aside0.mk (hi); (try clear hb); (try clear hb2); (try clear hk); (try clear hi))))
                         go_roundg kj5
                         case measure => have := HK1.out; have := HJ5.out; omega
                         case rel => exact ⟨(((x1_1.extract 0 (t503 : Int).toNat) ++ (strOfNums y509)) ++ (x1_1.extract (t503 : Int).toNat x1_1.size)), (wrap64 (x7_1 - 1)), (t513), (t514), (by first | rfl | (simp; done) | (simp [*]; done)), (by first | rfl | (simp; done) | (simp [*]; done)), H', ⟨by have := HK1.out; have := HJ5.out; omega⟩, ⟨by exact iq78 HI0⟩, ⟨kq HK⟩, ⟨by repeat (first | (with_reducible first | exact HB.out | apply below_alloc | apply pw_below_drewN | apply below_drew1 | refine below_set ?_ (IsS78.ge HI0.out)) | exact HB.out)⟩⟩
                       · rw [if_neg c21] at H
                         exact absurd H (by simp)
                     · rw [if_neg c18] at H
                       exact absurd H (by simp)
                   · rw [if_neg c17] at H
                     exact absurd H (by simp)
                 · rw [if_neg c16] at H
                   exact absurd H (by simp)
               · rw [if_neg c15] at H
                 have c15b0 : (t512 == 0) = false := beq_eq_false_iff_ne.mpr c15
                 have c15b1 : (t512 != 0) = true := bne_iff_ne.mpr c15
                 by_cases c28 : t512 = 1
                 · rw [if_pos c28] at H
                   have c28b0 : (t512 == 1) = true := beq_iff_eq.mpr c28
                   have c28b1 : (t512 != 1) = false := bne_eq_false_iff_eq.mpr c28
                   clear c28
                   by_cases c29 : 0 ≤ t503
                   · rw [if_pos c29] at H
                     have c29b0 := eq_true c29
                     have c29b1 : decide (0 ≤ t503) = true := decide_eq_true c29
                     clear c29
                     by_cases c30 : t503 ≤ (x1_1.size : Int)
                     · rw [if_pos c30] at H
                       have c30b0 := eq_true c30
                       have c30b1 : decide (t503 ≤ (x1_1.size : Int)) = true := decide_eq_true c30
                       clear c30
                       by_cases c31 : (x1_1.extract 0 (t503 : Int).toNat).size + (strOfNums y509).size ≤ 9223372036854775807
                       · rw [if_pos c31] at H
                         have c31b0 := eq_true c31
                         have c31b1 : decide ((x1_1.extract 0 (t503 : Int).toNat).size + (strOfNums y509).size ≤ 9223372036854775807) = true := decide_eq_true c31
                         try have c31b2 : (9223372036854775807 < (x1_1.extract 0 (t503 : Int).toNat).size + (strOfNums y509).size) = False := eq_false (Nat.not_lt.2 c31)
                         obtain ⟨ji32, hji32⟩ : ∃ j_ : Int, (wrap64 (t503 + 1)) = j_ := ⟨_, rfl⟩
                         replace H : (if 0 ≤ (ji32) then (if (ji32) ≤ (x1_1.size : Int) then (if ((x1_1.extract 0 (t503 : Int).toNat) ++ (strOfNums y509)).size + (x1_1.extract ((ji32) : Int).toNat x1_1.size).size ≤ 9223372036854775807 then (spec_l1Cur_spoilt.l0 kj5 (((x1_1.extract 0 (t503 : Int).toNat) ++ (strOfNums y509)) ++ (x1_1.extract ((ji32) : Int).toNat x1_1.size)) a2 (wrap64 (x7_1 - 1)) s0_0 t513 t514) else (none)) else (none)) else (none)) = some (r1, r2, r3) := by first | (rw [hji32] at H; exact H) | (simp only [hji32] at H ⊢; exact H)
                         (try rw [hji32] at A9)
                         (try rw [hji32] at A10)
                         (try rw [hji32] at A14)
                         have hji32w : (IntKind.i64.wrap (t503 + 1)) = ji32 := (i64_w _).trans hji32
                         by_cases c33 : 0 ≤ (ji32)
                         · rw [if_pos c33] at H
                           have c33b0 := eq_true c33
                           have c33b1 : decide (0 ≤ (ji32)) = true := decide_eq_true c33
                           clear c33
                           by_cases c34 : (ji32) ≤ (x1_1.size : Int)
                           · rw [if_pos c34] at H
                             have c34b0 := eq_true c34
                             have c34b1 : decide ((ji32) ≤ (x1_1.size : Int)) = true := decide_eq_true c34
                             clear c34
                             by_cases c35 : ((x1_1.extract 0 (t503 : Int).toNat) ++ (strOfNums y509)).size + (x1_1.extract ((ji32) : Int).toNat x1_1.size).size ≤ 9223372036854775807
                             · rw [if_pos c35] at H
                               have c35b0 := eq_true c35
                               have c35b1 : decide (((x1_1.extract 0 (t503 : Int).toNat) ++ (strOfNums y509)).size + (x1_1.extract ((ji32) : Int).toNat x1_1.size).size ≤ 9223372036854775807) = true := decide_eq_true c35
                               try have c35b2 : (9223372036854775807 < ((x1_1.extract 0 (t503 : Int).toNat) ++ (strOfNums y509)).size + (x1_1.extract ((ji32) : Int).toNat x1_1.size).size) = False := eq_false (Nat.not_lt.2 c35)
                               have H' := Aside0.mk H
                               clear H
                               go_wp2_with (first | (go_at_call 101; (with_reducible refine (spec_l1Cur_pick.calls g s0_0 x1001_1 x1002_1 (x1_1.size : Int) t503 t504 t505 w0 _ ?side1 ?side2 A9.out).mono ?_); (case side1 => exact iq78 HI0); (case side2 => repeat (first | (with_reducible first | exact HB.out | apply below_alloc | apply pw_below_drewN | apply below_drew1 | refine below_set ?_ (IsS78.ge HI0.out)) | exact HB.out)); rintro e w36 ⟨rfl, hi, hb, hk⟩; replace HK := Aside0.mk (KeepBut.trans (kq HK) hk (.inl rfl)); replace HB := Aside0.mk (hb); replace HI0 := Aside0.mk (hi); (try clear hb); (try clear hb2); (try clear hk); (try clear hi)) | (go_at_call 101; (with_reducible refine (spec_l1Cur_pick.calls g s0_0 t504 t505 (a2.size : Int) t506 t507 t508 w0 _ ?side1 ?side2 A10.out).mono ?_); (case side1 => exact iq78 HI0); (case side2 => repeat (first | (with_reducible first | exact HB.out | apply below_alloc | apply pw_below_drewN | apply below_drew1 | refine below_set ?_ (IsS78.ge HI0.out)) | exact HB.out)); rintro e w37 ⟨rfl, hi, hb, hk⟩; replace HK := Aside0.mk (KeepBut.trans (kq HK) hk (.inl rfl)); replace HB := Aside0.mk (hb); replace HI0 := Aside0.mk (hi); (try clear hb); (try clear hb2); (try clear hk); (try clear hi); have p13 : 0 ≤ (t506 : Int) := of_decide_eq_true (by first | (with_reducible assumption) | assumption); have q13 : t506 < (a2.size : Int) := of_decide_eq_true (by first | (with_reducible assumption) | assumption); have hx13 := bt_at a2 t506; replace p13 := eq_true p13; replace q13 := eq_true q13) | ((with_reducible refine gate_dst (N := 31) rfl ?_); (try (refine gate_guard (by rfl) ?_; dsimp only)); refine Kd.R_lit (Kd.int .u8) _ 5 ?hg (N := 31) ?hd (xs := ([bt a2 t506] : List Int)) (inner := [.int .u8 (bt a2 t506)]) (ok := fun _ => True) (okp := fun _ => True) ?hr ?hp (fun _ hk => hk) trivial (Below.refl _ _) (Nat.le_refl _) (by simp) ?_; (case hd => rfl); (case hg => rfl); (case hr => first | (go_simp; done) | (go_simp; rfl)); (case hp => exact (Reps.one (show Kd.M (Kd.int .u8) _ _ _ (bt a2 t506) [.int .u8 (bt a2 t506)] from rfl) (Reps.none _ _))); intro v510 w38 ho39 hb hg_ hnew_; clear hg_ hnew_; (first | rw [← Ny509.out] at ho39 | (simp only [Int.reduceToNat] at ho39; rw [← Ny509.out] at ho39)); have HO511 := Aside0.mk (Kd.R_lower ho39 (keep_size (w := w) (g := g) (row := none) (kq HK))); have n1_ := Aside0.mk (IsS78.below (by exact iq78 HI0) hb); replace HK := Aside0.mk (KeepBut.trans (kq HK) (KeepBut.of_below hb g none) (.inl rfl)); replace HB := Aside0.mk (below_step (by repeat (first | (with_reducible first | exact HB.out | apply below_alloc | apply pw_below_drewN | apply below_drew1 | refine below_set ?_ (IsS78.ge HI0.out)) | exact HB.out)) hb); replace HI0 := n1_; clear n1_; clear hb ho39; have hcv40 := own_string (P := Try.prog) Try.underlying22 Try.underlying5 Try.underlying9 (Kd.own_of_R HO511.out)) | (go_at_call 101; (with_reducible refine (spec_l1Cur_pick.calls g s0_0 t507 t508 3 t512 t513 t514 w0 _ ?side1 ?side2 A14.out).mono ?_); (case side1 => exact iq78 HI0); (case side2 => repeat (first | (with_reducible first | exact HB.out | apply below_alloc | apply pw_below_drewN | apply below_drew1 | refine below_set ?_ (IsS78.ge HI0.out)) | exact HB.out)); rintro e w41 ⟨rfl, hi, hb, hk⟩; replace HO511 := Aside0.mk (Kd.R_mono (Kd.R_keep (IsS78.apart (show IsS78 w0 _ g s0_0 t507 t508 from by exact iq78 HI0) (rq HO511) (by decide)) hk (fun _ h => h.2)) (fun _ h => h.1)); replace HK := Aside0.mk (KeepBut.trans (kq HK) hk (.inl rfl)); replace HB := Aside0.mk (hb); replace HI0 := Aside0.mk (hi); (try clear hb); (try clear hb2); (try clear hk); (try clear hi)))
                               repeat (go_quiet (first | (go_at_call 101; (with_reducible refine (spec_l1Cur_pick.calls g s0_0 x1001_1 x1002_1 (x1_1.size : Int) t503 t504 t505 w0 _ ?side1 ?side2 A9.out).mono ?_); (case side1 => exact iq78 HI0); (case side2 => repeat (first | (with_reducible first | exact HB.out | apply below_alloc | apply pw_below_drewN | apply below_drew1 | refine below_set ?_ (IsS78.ge HI0.out)) | exact HB.out)); rintro e w36 ⟨rfl, hi, hb, hk⟩; replace HK := Aside0.mk (KeepBut.trans (kq HK) hk (.inl rfl)); replace HB := Aside0.mk (hb); replace HI0 := Aside0.mk (hi); (try clear hb); (try clear hb2); (try clear hk); (try clear hi)) | (go_at_call 101; (with_reducible refine (spec_l1Cur_pick.calls g s0_0 t504 t505 (a2.size : Int) t506 t507 t508 w0 _ ?side1 ?side2 A10.out).mono ?_); (case side1 => exact iq78 HI0); (case side2 => repeat (first | (with_reducible first | exact HB.out | apply below_alloc | apply pw_below_drewN | apply below_drew1 | refine below_set ?_ (IsS78.ge HI0.out)) | exact HB.out)); rintro e w37 ⟨rfl, hi, hb, hk⟩; replace HK := Aside0.mk (KeepBut.trans (kq HK) hk (.inl rfl)); replace HB := Aside0.mk (hb); replace HI0 := Aside0.mk (hi); (try clear hb); (try clear hb2); (try clear hk); (try clear hi); have p13 : 0 ≤ (t506 : Int) := of_decide_eq_true (by first | (with_reducible assumption) | assumption); have q13 : t506 < (a2.size : Int) := of_decide_eq_true (by first | (with_reducible assumption) | assumption); have hx13 := bt_at a2 t506; replace p13 := eq_true p13; replace q13 := eq_true q13) | ((with_reducible refine gate_dst (N := 31) rfl ?_); (try (refine gate_guard (by rfl) ?_; dsimp only)); refine Kd.R_lit (Kd.int .u8) _ 5 ?hg (N := 31) ?hd (xs := ([bt a2 t506] : List Int)) (inner := [.int .u8 (bt a2 t506)]) (ok := fun _ => True) (okp := fun _ => True) ?hr ?hp (fun _ hk => hk) trivial (Below.refl _ _) (Nat.le_refl _) (by simp) ?_; (case hd => rfl); (case hg => rfl); (case hr => first | (go_simp; done) | (go_simp; rfl)); (case hp => exact (Reps.one (show Kd.M (Kd.int .u8) _ _ _ (bt a2 t506) [.int .u8 (bt a2 t506)] from rfl) (Reps.none _ _))); intro v510 w38 ho39 hb hg_ hnew_; clear hg_ hnew_; (first | rw [← Ny509.out] at ho39 | (simp only [Int.reduceToNat] at ho39; rw [← Ny509.out] at ho39)); have HO511 := Aside0.mk (Kd.R_lower ho39 (keep_size (w := w) (g := g) (row := none) (kq HK))); have n1_ := Aside0.mk (IsS78.below (by exact iq78 HI0) hb); replace HK := Aside0.mk (KeepBut.trans (kq HK) (KeepBut.of_below hb g none) (.inl rfl)); replace HB := Aside0.mk (below_step (by repeat (first | (with_reducible first | exact HB.out | apply below_alloc | apply pw_below_drewN | apply below_drew1 | refine below_set ?_ (IsS78.ge HI0.out)) | exact HB.out)) hb); replace HI0 := n1_; clear n1_; clear hb ho39; have hcv40 := own_string (P := Try.prog) Try.underlying22 Try.underlying5 Try.underlying9 (Kd.own_of_R HO511.out)) | (go_at_call 101; (with_reducible refine (spec_l1Cur_pick.calls g s0_0 t507 t508 3 t512 t513 t514 w0 _ ?side1 ?side2 A14.out).mono ?_); (case side1 => exact iq78 HI0); (case side2 => repeat (first | (with_reducible first | exact HB.out | apply below_alloc | apply pw_below_drewN | apply below_drew1 | refine below_set ?_ (IsS78.ge HI0.out)) | exact HB.out)); rintro e w41 ⟨rfl, hi, hb, hk⟩; replace HO511 := Aside0.mk (Kd.R_mono (Kd.R_keep (IsS78.apart (show IsS78 w0 _ g s0_0 t507 t508 from by exact iq78 HI0) (rq HO511) (by decide)) hk (fun _ h => h.2)) (fun _ h => h.1)); replace HK := Aside0.mk (KeepBut.trans (kq HK) hk (.inl rfl)); replace HB := Aside0.mk (hb); replace HI0 := Aside0.mk (hi); (try clear hb); (try clear hb2); (try clear hk); (try clear hi))); try go_wp2_with (first | (go_at_call 101; (with_reducible refine (spec_l1Cur_pick.calls g s0_0 x1001_1 x1002_1 (x1_1.size : Int) t503 t504 t505 w0 _ ?side1 ?side2 A9.out).mono ?_); (case side1 => exact iq78 HI0); (case side2 => repeat (first | (with_reducible first | exact HB.out | apply below_alloc | apply pw_below_drewN | apply below_drew1 | refine below_set ?_ (IsS78.ge HI0.out)) | exact HB.out)); rintro e w36 ⟨rfl, hi, hb, hk⟩; replace HK := Aside0.mk (KeepBut.trans (kq HK) hk (.inl rfl)); replace HB := Aside0.mk (hb); replace HI0 := Aside0.mk (hi); (try clear hb); (try clear hb2); (try clear hk); (try clear hi)) | (go_at_call 101; (with_reducible refine (spec_l1Cur_pick.calls g s0_0 t504 t505 (a2.size : Int) t506 t507 t508 w0 _ ?side1 ?side2 A10.out).mono ?_); (case side1 => exact iq78 HI0); (case side2 => repeat (first | (with_reducible first | exact HB.out | apply below_alloc | apply pw_below_drewN | apply below_drew1 | refine below_set ?_ (IsS78.ge HI0.out)) | exact HB.out)); rintro e w37 ⟨rfl, hi, hb, hk⟩; replace HK := Aside0.mk (KeepBut.trans (kq HK) hk (.inl rfl)); replace HB := Aside0.mk (hb); replace HI0 := Aside0.mk (hi); (try clear hb); (try clear hb2); (try clear hk); (try clear hi); have p13 : 0 ≤ (t506 : Int) := of_decide_eq_true (by first | (with_reducible assumption) | assumption); have q13 : t506 < (a2.size : Int) := of_decide_eq_true (by first | (with_reducible assumption) | assumption); have hx13 := bt_at a2 t506; replace p13 := eq_true p13; replace q13 := eq_true q13) | ((with_reducible refine gate_dst (N := 31) rfl ?_); (try (refine gate_guard (by rfl) ?_; dsimp only)); refine Kd.R_lit (Kd.int .u8) _ 5 ?hg (N := 31) ?hd (xs := ([bt a2 t506] : List Int)) (inner := [.int .u8 (bt a2 t506)]) (ok := fun _ => True) (okp := fun _ => True) ?hr ?hp (fun _ hk => hk) trivial (Below.refl _ _) (Nat.le_refl _) (by simp) ?_; (case hd => rfl); (case hg => rfl); (case hr => first | (go_simp; done) | (go_simp; rfl)); (case hp => exact (Reps.one (show Kd.M (Kd.int .u8) _ _ _ (bt a2 t506) [.int .u8 (bt a2 t506)] from rfl) (Reps.none _ _))); intro v510 w38 ho39 hb hg_ hnew_; clear hg_ hnew_; (first | rw [← Ny509.out] at ho39 | (simp only [Int.reduceToNat] at ho39; rw [← Ny509.out] at ho39)); have HO511 := Aside0.mk (Kd.R_lower ho39 (keep_size (w := w) (g := g) (row := none) (kq HK))); have n1_ := Aside0.mk (IsS78.below (by exact iq78 HI0) hb); replace HK := Aside0.mk (KeepBut.trans (kq HK) (KeepBut.of_below hb g none) (.inl rfl)); replace HB := Aside0.mk (below_step (by repeat (first | (with_reducible first | exact HB.out | apply below_alloc | apply pw_below_drewN | apply below_drew1 | refine below_set ?_ (IsS78.ge HI0.out)) | exact HB.out)) hb); replace HI0 := n1_; clear n1_; clear hb ho39; have hcv40 := own_string (P := Try.prog) Try.underlying22 Try.underlying5 Try.underlying9 (Kd.own_of_R HO511.out)) | (go_at_call 101; (with_reducible refine (spec_l1Cur_pick.calls g s0_0 t507 t508 3 t512 t513 t514 w0 _ ?side1 ?side2 A14.out).mono ?_); (case side1 => exact iq78 HI0); (case side2 => repeat (first | (with_reducible first | exact HB.out | apply below_alloc | apply pw_below_drewN | apply below_drew1 | refine below_set ?_ (IsS78.ge HI0.out)) | exact HB.out)); rintro e w41 ⟨rfl, hi, hb, hk⟩; replace HO511 := Aside0.mk (Kd.R_mono (Kd.R_keep (IsS78.apart (show IsS78 w0 _ g s0_0 t507 t508 from by exact iq78 HI0) (rq HO511) (by decide)) hk (fun _ h => h.2)) (fun _ h => h.1)); replace HK := Aside0.mk (KeepBut.trans (kq HK) hk (.inl rfl)); replace HB := Aside0.mk (hb); replace HI0 := Aside0.mk (hi); (try clear hb); (try clear hb2); (try clear hk); (try clear hi))))
                               go_roundg kj5
                               case measure => have := HK1.out; have := HJ5.out; omega
                               case rel => exact ⟨(((x1_1.extract 0 (t503 : Int).toNat) ++ (strOfNums y509)) ++ (x1_1.extract ((ji32) : Int).toNat x1_1.size)), (wrap64 (x7_1 - 1)), (t513), (t514), (by first | rfl | (simp; done) | (simp only [← hji32] <;> (first | rfl | simp)) | (simp [*]; done)), (by first | rfl | (simp; done) | (simp [*]; done)), H', ⟨by have := HK1.out; have := HJ5.out; omega⟩, ⟨by exact iq78 HI0⟩, ⟨kq HK⟩, ⟨by repeat (first | (with_reducible first | exact HB.out | apply below_alloc | apply pw_below_drewN | apply below_drew1 | refine below_set ?_ (IsS78.ge HI0.out)) | exact HB.out)⟩⟩
                             · rw [if_neg c35] at H
                               exact absurd H (by simp)
                           · rw [if_neg c34] at H
                             exact absurd H (by simp)
                         · rw [if_neg c33] at H
                           exact absurd H (by simp)
                       · rw [if_neg c31] at H
                         exact absurd H (by simp)
                     · rw [if_neg c30] at H
                       exact absurd H (by simp)
                   · rw [if_neg c29] at H
                     exact absurd H (by simp)
                 · rw [if_neg c28] at H
                   have c28b0 : (t512 == 1) = false := beq_eq_false_iff_ne.mpr c28
                   have c28b1 : (t512 != 1) = true := bne_iff_ne.mpr c28
                   by_cases c42 : 0 ≤ t503
                   · rw [if_pos c42] at H
                     have c42b0 := eq_true c42
                     have c42b1 : decide (0 ≤ t503) = true := decide_eq_true c42
                     clear c42
                     by_cases c43 : t503 ≤ (x1_1.size : Int)
                     · rw [if_pos c43] at H
                       have c43b0 := eq_true c43
                       have c43b1 : decide (t503 ≤ (x1_1.size : Int)) = true := decide_eq_true c43
                       clear c43; obtain ⟨ji44, hji44⟩ : ∃ j_ : Int, (wrap64 (t503 + 1)) = j_ := ⟨_, rfl⟩
                       replace H : (if 0 ≤ (ji44) then (if (ji44) ≤ (x1_1.size : Int) then (if (x1_1.extract 0 (t503 : Int).toNat).size + (x1_1.extract ((ji44) : Int).toNat x1_1.size).size ≤ 9223372036854775807 then (spec_l1Cur_spoilt.l0 kj5 ((x1_1.extract 0 (t503 : Int).toNat) ++ (x1_1.extract ((ji44) : Int).toNat x1_1.size)) a2 (wrap64 (x7_1 - 1)) s0_0 t513 t514) else (none)) else (none)) else (none)) = some (r1, r2, r3) := by first | (rw [hji44] at H; exact H) | (simp only [hji44] at H ⊢; exact H)
                       (try rw [hji44] at A9)
                       (try rw [hji44] at A10)
                       (try rw [hji44] at A14)
                       have hji44w : (IntKind.i64.wrap (t503 + 1)) = ji44 := (i64_w _).trans hji44
                       by_cases c45 : 0 ≤ (ji44)
                       · rw [if_pos c45] at H
                         have c45b0 := eq_true c45
                         have c45b1 : decide (0 ≤ (ji44)) = true := decide_eq_true c45
                         clear c45
                         by_cases c46 : (ji44) ≤ (x1_1.size : Int)
                         · rw [if_pos c46] at H
                           have c46b0 := eq_true c46
                           have c46b1 : decide ((ji44) ≤ (x1_1.size : Int)) = true := decide_eq_true c46
                           clear c46
                           by_cases c47 : (x1_1.extract 0 (t503 : Int).toNat).size + (x1_1.extract ((ji44) : Int).toNat x1_1.size).size ≤ 9223372036854775807
                           · rw [if_pos c47] at H
                             have c47b0 := eq_true c47
                             have c47b1 : decide ((x1_1.extract 0 (t503 : Int).toNat).size + (x1_1.extract ((ji44) : Int).toNat x1_1.size).size ≤ 9223372036854775807) = true := decide_eq_true c47
                             try have c47b2 : (9223372036854775807 < (x1_1.extract 0 (t503 : Int).toNat).size + (x1_1.extract ((ji44) : Int).toNat x1_1.size).size) = False := eq_false (Nat.not_lt.2 c47)
                             have H' := Aside0.mk H
                             clear H
                             go_wp2_with (first | (go_at_call 101; (with_reducible refine (spec_l1Cur_pick.calls g s0_0 x1001_1 x1002_1 (x1_1.size : Int) t503 t504 t505 w0 _ ?side1 ?side2 A9.out).mono ?_); (case side1 => exact iq78 HI0); (case side2 => repeat (first | (with_reducible first | exact HB.out | apply below_alloc | apply pw_below_drewN | apply below_drew1 | refine below_set ?_ (IsS78.ge HI0.out)) | exact HB.out)); rintro e w48 ⟨rfl, hi, hb, hk⟩; replace HK := Aside0.mk (KeepBut.trans (kq HK) hk (.inl rfl)); replace HB := Aside0.mk (hb); replace HI0 := Aside0.mk (hi); (try clear hb); (try clear hb2); (try clear hk); (try clear hi)) | (go_at_call 101; (with_reducible refine (spec_l1Cur_pick.calls g s0_0 t504 t505 (a2.size : Int) t506 t507 t508 w0 _ ?side1 ?side2 A10.out).mono ?_); (case side1 => exact iq78 HI0); (case side2 => repeat (first | (with_reducible first | exact HB.out | apply below_alloc | apply pw_below_drewN | apply below_drew1 | refine below_set ?_ (IsS78.ge HI0.out)) | exact HB.out)); rintro e w49 ⟨rfl, hi, hb, hk⟩; replace HK := Aside0.mk (KeepBut.trans (kq HK) hk (.inl rfl)); replace HB := Aside0.mk (hb); replace HI0 := Aside0.mk (hi); (try clear hb); (try clear hb2); (try clear hk); (try clear hi); have p13 : 0 ≤ (t506 : Int) := of_decide_eq_true (by first | (with_reducible assumption) | assumption); have q13 : t506 < (a2.size : Int) := of_decide_eq_true (by first | (with_reducible assumption) | assumption); have hx13 := bt_at a2 t506; replace p13 := eq_true p13; replace q13 := eq_true q13) | ((with_reducible refine gate_dst (N := 31) rfl ?_); (try (refine gate_guard (by rfl) ?_; dsimp only)); refine Kd.R_lit (Kd.int .u8) _ 5 ?hg (N := 31) ?hd (xs := ([bt a2 t506] : List Int)) (inner := [.int .u8 (bt a2 t506)]) (ok := fun _ => True) (okp := fun _ => True) ?hr ?hp (fun _ hk => hk) trivial (Below.refl _ _) (Nat.le_refl _) (by simp) ?_; (case hd => rfl); (case hg => rfl); (case hr => first | (go_simp; done) | (go_simp; rfl)); (case hp => exact (Reps.one (show Kd.M (Kd.int .u8) _ _ _ (bt a2 t506) [.int .u8 (bt a2 t506)] from rfl) (Reps.none _ _))); intro v510 w50 ho51 hb hg_ hnew_; clear hg_ hnew_; (first | rw [← Ny509.out] at ho51 | (simp only [Int.reduceToNat] at ho51; rw [← Ny509.out] at ho51)); have HO511 := Aside0.mk (Kd.R_lower ho51 (keep_size (w := w) (g := g) (row := none) (kq HK))); have n1_ := Aside0.mk (IsS78.below (by exact iq78 HI0) hb); replace HK := Aside0.mk (KeepBut.trans (kq HK) (KeepBut.of_below hb g none) (.inl rfl)); replace HB := Aside0.mk (below_step (by repeat (first | (with_reducible first | exact HB.out | apply below_alloc | apply pw_below_drewN | apply below_drew1 | refine below_set ?_ (IsS78.ge HI0.out)) | exact HB.out)) hb); replace HI0 := n1_; clear n1_; clear hb ho51; have hcv52 := own_string (P := Try.prog) Try.underlying22 Try.underlying5 Try.underlying9 (Kd.own_of_R HO511.out)) | (go_at_call 101; (with_reducible refine (spec_l1Cur_pick.calls g s0_0 t507 t508 3 t512 t513 t514 w0 _ ?side1 ?side2 A14.out).mono ?_); (case side1 => exact iq78 HI0); (case side2 => repeat (first | (with_reducible first | exact HB.out | apply below_alloc | apply pw_below_drewN | apply below_drew1 | refine below_set ?_ (IsS78.ge HI0.out)) | exact HB.out)); rintro e w53 ⟨rfl, hi, hb, hk⟩; replace HO511 := Aside0.mk (Kd.R_mono (Kd.R_keep (IsS78.apart (show IsS78 w0 _ g s0_0 t507 t508 from by exact iq78 HI0) (rq HO511) (by decide)) hk (fun _ h => h.2)) (fun _ h => h.1)); replace HK := Aside0.mk (KeepBut.trans (kq HK) hk (.inl rfl)); replace HB := Aside0.mk (hb); replace HI0 := Aside0.mk (hi); (try clear hb); (try clear hb2); (try clear hk); (try clear hi)))
                             repeat (go_quiet (first | (go_at_call 101; (with_reducible refine (spec_l1Cur_pick.calls g s0_0 x1001_1 x1002_1 (x1_1.size : Int) t503 t504 t505 w0 _ ?side1 ?side2 A9.out).mono ?_); (case side1 => exact iq78 HI0); (case side2 => repeat (first | (with_reducible first | exact HB.out | apply below_alloc | apply pw_below_drewN | apply below_drew1 | refine below_set ?_ (IsS78.ge HI0.out)) | exact HB.out)); rintro e w48 ⟨rfl, hi, hb, hk⟩; replace HK := Aside0.mk (KeepBut.trans (kq HK) hk (.inl rfl)); replace HB := Aside0.mk (hb); replace HI0 := Aside0.mk (hi); (try clear hb); (try clear hb2); (try clear hk); (try clear hi)) | (go_at_call 101; (with_reducible refine (spec_l1Cur_pick.calls g s0_0 t504 t505 (a2.size : Int) t506 t507 t508 w0 _ ?side1 ?side2 A10.out).mono ?_); (case side1 => exact iq78 HI0); (case side2 => repeat (first | (with_reducible first | exact HB.out | apply below_alloc | apply pw_below_drewN | apply below_drew1 | refine below_set ?_ (IsS78.ge HI0.out)) | exact HB.out)); rintro e w49 ⟨rfl, hi, hb, hk⟩; replace HK := Aside0.mk (KeepBut.trans (kq HK) hk (.inl rfl)); replace HB := Aside0.mk (hb); replace HI0 := Aside0.mk (hi); (try clear hb); (try clear hb2); (try clear hk); (try clear hi); have p13 : 0 ≤ (t506 : Int) := of_decide_eq_true (by first | (with_reducible assumption) | assumption); have q13 : t506 < (a2.size : Int) := of_decide_eq_true (by first | (with_reducible assumption) | assumption); have hx13 := bt_at a2 t506; replace p13 := eq_true p13; replace q13 := eq_true q13) | ((with_reducible refine gate_dst (N := 31) rfl ?_); (try (refine gate_guard (by rfl) ?_; dsimp only)); refine Kd.R_lit (Kd.int .u8) _ 5 ?hg (N := 31) ?hd (xs := ([bt a2 t506] : List Int)) (inner := [.int .u8 (bt a2 t506)]) (ok := fun _ => True) (okp := fun _ => True) ?hr ?hp (fun _ hk => hk) trivial (Below.refl _ _) (Nat.le_refl _) (by simp) ?_; (case hd => rfl); (case hg => rfl); (case hr => first | (go_simp; done) | (go_simp; rfl)); (case hp => exact (Reps.one (show Kd.M (Kd.int .u8) _ _ _ (bt a2 t506) [.int .u8 (bt a2 t506)] from rfl) (Reps.none _ _))); intro v510 w50 ho51 hb hg_ hnew_; clear hg_ hnew_; (first | rw [← Ny509.out] at ho51 | (simp only [Int.reduceToNat] at ho51; rw [← Ny509.out] at ho51)); have HO511 := Aside0.mk (Kd.R_lower ho51 (keep_size (w := w) (g := g) (row := none) (kq HK))); have n1_ := Aside0.mk (IsS78.below (by exact iq78 HI0) hb); replace HK := Aside0.mk (KeepBut.trans (kq HK) (KeepBut.of_below hb g none) (.inl rfl)); replace HB := Aside0.mk (below_step (by repeat (first | (with_reducible first | exact HB.out | apply below_alloc | apply pw_below_drewN | apply below_drew1 | refine below_set ?_ (IsS78.ge HI0.out)) | exact HB.out)) hb); replace HI0 := n1_; clear n1_; clear hb ho51; have hcv52 := own_string (P := Try.prog) Try.underlying22 Try.underlying5 Try.underlying9 (Kd.own_of_R HO511.out)) | (go_at_call 101; (with_reducible refine (spec_l1Cur_pick.calls g s0_0 t507 t508 3 t512 t513 t514 w0 _ ?side1 ?side2 A14.out).mono ?_); (case side1 => exact iq78 HI0); (case side2 => repeat (first | (with_reducible first | exact HB.out | apply below_alloc | apply pw_below_drewN | apply below_drew1 | refine below_set ?_ (IsS78.ge HI0.out)) | exact HB.out)); rintro e w53 ⟨rfl, hi, hb, hk⟩; replace HO511 := Aside0.mk (Kd.R_mono (Kd.R_keep (IsS78.apart (show IsS78 w0 _ g s0_0 t507 t508 from by exact iq78 HI0) (rq HO511) (by decide)) hk (fun _ h => h.2)) (fun _ h => h.1)); replace HK := Aside0.mk (KeepBut.trans (kq HK) hk (.inl rfl)); replace HB := Aside0.mk (hb); replace HI0 := Aside0.mk (hi); (try clear hb); (try clear hb2); (try clear hk); (try clear hi))); try go_wp2_with (first | (go_at_call 101; (with_reducible refine (spec_l1Cur_pick.calls g s0_0 x1001_1 x1002_1 (x1_1.size : Int) t503 t504 t505 w0 _ ?side1 ?side2 A9.out).mono ?_); (case side1 => exact iq78 HI0); (case side2 => repeat (first | (with_reducible first | exact HB.out | apply below_alloc | apply pw_below_drewN | apply below_drew1 | refine below_set ?_ (IsS78.ge HI0.out)) | exact HB.out)); rintro e w48 ⟨rfl, hi, hb, hk⟩; replace HK := Aside0.mk (KeepBut.trans (kq HK) hk (.inl rfl)); replace HB := Aside0.mk (hb); replace HI0 := Aside0.mk (hi); (try clear hb); (try clear hb2); (try clear hk); (try clear hi)) | (go_at_call 101; (with_reducible refine (spec_l1Cur_pick.calls g s0_0 t504 t505 (a2.size : Int) t506 t507 t508 w0 _ ?side1 ?side2 A10.out).mono ?_); (case side1 => exact iq78 HI0); (case side2 => repeat (first | (with_reducible first | exact HB.out | apply below_alloc | apply pw_below_drewN | apply below_drew1 | refine below_set ?_ (IsS78.ge HI0.out)) | exact HB.out)); rintro e w49 ⟨rfl, hi, hb, hk⟩; replace HK := Aside0.mk (KeepBut.trans (kq HK) hk (.inl rfl)); replace HB := Aside0.mk (hb); replace HI0 := Aside0.mk (hi); (try clear hb); (try clear hb2); (try clear hk); (try clear hi); have p13 : 0 ≤ (t506 : Int) := of_decide_eq_true (by first | (with_reducible assumption) | assumption); have q13 : t506 < (a2.size : Int) := of_decide_eq_true (by first | (with_reducible assumption) | assumption); have hx13 := bt_at a2 t506; replace p13 := eq_true p13; replace q13 := eq_true q13) | ((with_reducible refine gate_dst (N := 31) rfl ?_); (try (refine gate_guard (by rfl) ?_; dsimp only)); refine Kd.R_lit (Kd.int .u8) _ 5 ?hg (N := 31) ?hd (xs := ([bt a2 t506] : List Int)) (inner := [.int .u8 (bt a2 t506)]) (ok := fun _ => True) (okp := fun _ => True) ?hr ?hp (fun _ hk => hk) trivial (Below.refl _ _) (Nat.le_refl _) (by simp) ?_; (case hd => rfl); (case hg => rfl); (case hr => first | (go_simp; done) | (go_simp; rfl)); (case hp => exact (Reps.one (show Kd.M (Kd.int .u8) _ _ _ (bt a2 t506) [.int .u8 (bt a2 t506)] from rfl) (Reps.none _ _))); intro v510 w50 ho51 hb hg_ hnew_; clear hg_ hnew_; (first | rw [← Ny509.out] at ho51 | (simp only [Int.reduceToNat] at ho51; rw [← Ny509.out] at ho51)); have HO511 := Aside0.mk (Kd.R_lower ho51 (keep_size (w := w) (g := g) (row := none) (kq HK))); have n1_ := Aside0.mk (IsS78.below (by exact iq78 HI0) hb); replace HK := Aside0.mk (KeepBut.trans (kq HK) (KeepBut.of_below hb g none) (.inl rfl)); replace HB := Aside0.mk (below_step (by repeat (first | (with_reducible first | exact HB.out | apply below_alloc | apply pw_below_drewN | apply below_drew1 | refine below_set ?_ (IsS78.ge HI0.out)) | exact HB.out)) hb); replace HI0 := n1_; clear n1_; clear hb ho51; have hcv52 := own_string (P := Try.prog) Try.underlying22 Try.underlying5 Try.underlying9 (Kd.own_of_R HO511.out)) | (go_at_call 101; (with_reducible refine (spec_l1Cur_pick.calls g s0_0 t507 t508 3 t512 t513 t514 w0 _ ?side1 ?side2 A14.out).mono ?_); (case side1 => exact iq78 HI0); (case side2 => repeat (first | (with_reducible first | exact HB.out | apply below_alloc | apply pw_below_drewN | apply below_drew1 | refine below_set ?_ (IsS78.ge HI0.out)) | exact HB.out)); rintro e w53 ⟨rfl, hi, hb, hk⟩; replace HO511 := Aside0.mk (Kd.R_mono (Kd.R_keep (IsS78.apart (show IsS78 w0 _ g s0_0 t507 t508 from by exact iq78 HI0) (rq HO511) (by decide)) hk (fun _ h => h.2)) (fun _ h => h.1)); replace HK := Aside0.mk (KeepBut.trans (kq HK) hk (.inl rfl)); replace HB := Aside0.mk (hb); replace HI0 := Aside0.mk (hi); (try clear hb); (try clear hb2); (try clear hk); (try clear hi))))
                             go_roundg kj5
                             case measure => have := HK1.out; have := HJ5.out; omega
                             case rel => exact ⟨((x1_1.extract 0 (t503 : Int).toNat) ++ (x1_1.extract ((ji44) : Int).toNat x1_1.size)), (wrap64 (x7_1 - 1)), (t513), (t514), (by first | rfl | (simp; done) | (simp only [← hji44] <;> (first | rfl | simp)) | (simp [*]; done)), (by first | rfl | (simp; done) | (simp [*]; done)), H', ⟨by have := HK1.out; have := HJ5.out; omega⟩, ⟨by exact iq78 HI0⟩, ⟨kq HK⟩, ⟨by repeat (first | (with_reducible first | exact HB.out | apply below_alloc | apply pw_below_drewN | apply below_drew1 | refine below_set ?_ (IsS78.ge HI0.out)) | exact HB.out)⟩⟩
                           · rw [if_neg c47] at H
                             exact absurd H (by simp)
                         · rw [if_neg c46] at H
                           exact absurd H (by simp)
                       · rw [if_neg c45] at H
                         exact absurd H (by simp)
                     · rw [if_neg c43] at H
                       exact absurd H (by simp)
                   · rw [if_neg c42] at H
                     exact absurd H (by simp)
             · rw [if_neg c12] at H
               exact absurd H (by simp)
           · rw [if_neg c11] at H
             exact absurd H (by simp)
         · replace c8 := Bool.eq_false_iff.mpr c8
           subst c8
           have H1 : (some (x1_1, x1001_1, x1002_1)) = some (r1, r2, r3) := by rw [if_neg (show ¬ (false = true) by decide)] at H; exact H
           clear H; have H := H1; clear H1
           simp only [Option.some.injEq, Prod.mk.injEq] at H
           obtain ⟨rfl, rfl, rfl⟩ := H
           go_wp2
           repeat (go_quiet (fail); try go_wp2)
           go_ret
           exact ⟨by first | rfl | (simp <;> rfl) | (simp [*] <;> rfl), by exact iq78 HI0, by repeat (first | (with_reducible first | exact HB.out | apply below_alloc | apply pw_below_drewN | apply below_drew1 | refine below_set ?_ (IsS78.ge HI0.out)) | exact HB.out), kq HK⟩

end Go.Proofs.Ytadooofomkdaoaa.QFnLimbs
