import Derived.Test.YtcehboknhdmmfaaSqueeze
import Derived.Test.YtcehboknhdmmfaaQFnExactLessBigx0
import Derived.Test.YtcehboknhdmmfaaQFnExactLessBigx1
import Derived.Test.YtcehboknhdmmfaaQFnExactLessBigx3
import Derived.Test.YtcehboknhdmmfaaQFnExactLessBigx4
namespace Go.Proofs.Ytcehboknhdmmfaa.QFnExactLessBig
open Go.RowKit Go.Proofs.YtcehboknhdmmfaaW.PrintWords Go.Proofs.YtcehboknhdmmfaaW.PrintLast Go.Proofs.YtcehboknhdmmfaaW.PrintMore
attribute [local go_sem] max2_int min2_int max_two min_two max_three min_three max_four min_four   -- for this text's walks alone
set_option linter.unusedVariables false
set_option linter.unusedSimpArgs false

/-! ### laws_FnExactLessBig: function 6 -/
mutual
def laws_FnExactLessBig.j0 : Nat → Bool → Bool → Bool → List Int → List Int → List Int → List Int → List Int → List Int → Option (Bool)
  | 0, _, _, _, _, _, _, _, _, _ => none
  | k + 1, x7, x11, x53, x236000, x237000, x250000, x254000, x258000, x263000 => if x53 = true then (some false) else ((laws_toBig.f k x236000).bind fun t264 => ((laws_eqBig.f k x254000 t264).bind fun t267 => (if t267 = true then ((laws_toBig.f k x237000).bind fun t268 => ((laws_eqBig.f k x258000 t268).bind fun t271 => (if t271 = true then ((laws_markBig.f k x254000 1).bind fun bt272 => ((laws_markBig.f k x258000 bt272.1).bind fun bt274 => (if bt274.1 < 0 then (laws_FnExactLessBig.j1 k x7 true x236000 x237000 x250000 x263000) else ((laws_eqBig.f k x263000 x250000).bind fun t276 => (if t276 = true then (laws_FnExactLessBig.j1 k x7 (x11 != x7) x236000 x237000 x250000 x263000) else (laws_FnExactLessBig.j1 k x7 true x236000 x237000 x250000 x263000)))))) else (some false)))) else (some false))))
def laws_FnExactLessBig.j1 : Nat → Bool → Bool → List Int → List Int → List Int → List Int → Option (Bool)
  | 0, _, _, _, _, _, _ => none
  | k + 1, x7, x82, x236000, x237000, x250000, x263000 => if x82 = true then (some false) else ((laws_markBig.f k x263000 1).bind fun bt277 => ((laws_heldBig.f k bt277.2 1).bind fun t279 => (if t279 < 0 then (some false) else (if t279 = bt277.1 then ((laws_toBig.f k x236000).bind fun t280 => ((laws_toBig.f k x237000).bind fun t283 => ((impl_LessBig.f k t280 t283).bind fun bt286 => ((laws_eqBig.f k bt286.1 x250000).bind fun t291 => (if t291 = true then (laws_FnExactLessBig.j2 k bt277.1 (bt286.2 != x7) bt277.2) else (laws_FnExactLessBig.j2 k bt277.1 true bt277.2)))))) else (some false)))))
def laws_FnExactLessBig.j2 : Nat → Int → Bool → List Int → Option (Bool)
  | 0, _, _, _ => none
  | k + 1, x13, x110, x263000 => if x110 = true then (some false) else ((laws_heldBig.f k x263000 1).bind fun t292 => (if t292 < 0 then (some false) else (if t292 = x13 then (some true) else (some false))))
end
def laws_FnExactLessBig.f (k : Nat) (l0_0 : List Int) (l1_0 : List Int) : Option (Bool) := (laws_szBig.f l0_0 1048576).bind fun t237 => (if t237 < 0 then (some true) else ((laws_szBig.f l1_0 t237).bind fun t238 => (if t238 < 0 then (some true) else ((laws_toBig.f k l0_0).bind fun t239 => ((laws_toBig.f k l1_0).bind fun t242 => ((spec_LessBig.f k t239 t242).bind fun bt245 => ((laws_toBig.f k l0_0).bind fun t250 => ((laws_toBig.f k l1_0).bind fun t254 => ((impl_LessBig.f k t250 t254).bind fun bt258 => ((laws_eqBig.f k bt258.1 bt245.1).bind fun t263 => (if t263 = true then (laws_FnExactLessBig.j0 k bt245.2 bt258.2 (bt258.2 != bt245.2) l0_0 l1_0 bt245.1 t250 t254 bt258.1) else (laws_FnExactLessBig.j0 k bt245.2 bt258.2 true l0_0 l1_0 bt245.1 t250 t254 bt258.1))))))))))))
theorem laws_FnExactLessBig.mono_l : ∀ k, (∀ y0 y1 y2 y3 y4 y5 y6 y7 y8, LeO (laws_FnExactLessBig.j0 k y0 y1 y2 y3 y4 y5 y6 y7 y8) (laws_FnExactLessBig.j0 (k + 1) y0 y1 y2 y3 y4 y5 y6 y7 y8)) ∧ (∀ y0 y1 y2 y3 y4 y5, LeO (laws_FnExactLessBig.j1 k y0 y1 y2 y3 y4 y5) (laws_FnExactLessBig.j1 (k + 1) y0 y1 y2 y3 y4 y5)) ∧ (∀ y0 y1 y2, LeO (laws_FnExactLessBig.j2 k y0 y1 y2) (laws_FnExactLessBig.j2 (k + 1) y0 y1 y2))
  | 0 => ⟨fun _ _ _ _ _ _ _ _ _ r h => by simp [laws_FnExactLessBig.j0] at h, fun _ _ _ _ _ _ r h => by simp [laws_FnExactLessBig.j1] at h, fun _ _ _ r h => by simp [laws_FnExactLessBig.j2] at h⟩
  | k + 1 => by
    obtain ⟨ih0, ih1, ih2⟩ := laws_FnExactLessBig.mono_l k
    refine ⟨?_, ?_, ?_⟩
    · intro y0 y1 y2 y3 y4 y5 y6 y7 y8
      unfold laws_FnExactLessBig.j0
      repeat' first
      | (with_reducible exact ih0 _ _ _ _ _ _ _ _ _)
      | (with_reducible exact ih1 _ _ _ _ _ _)
      | (with_reducible exact ih2 _ _ _)
      | (with_reducible exact impl_LessBig.mono _ _ _)
      | (with_reducible exact laws_eqBig.mono _ _ _)
      | (with_reducible exact laws_heldBig.mono _ _ _)
      | (with_reducible exact laws_markBig.mono _ _ _)
      | (with_reducible exact laws_toBig.mono _ _)
      | (with_reducible exact spec_LessBig.mono _ _ _)
      | (with_reducible exact LeO.refl _)
      | (with_reducible exact LeO.none _)
      | (with_reducible refine LeO.ite ?_ ?_)
      | (with_reducible refine LeO.bind ?_ (fun _ => ?_))
      | exact ih0 _ _ _ _ _ _ _ _ _
      | exact ih1 _ _ _ _ _ _
      | exact ih2 _ _ _
      | exact impl_LessBig.mono _ _ _
      | exact laws_eqBig.mono _ _ _
      | exact laws_heldBig.mono _ _ _
      | exact laws_markBig.mono _ _ _
      | exact laws_toBig.mono _ _
      | exact spec_LessBig.mono _ _ _
      | exact LeO.none _
      | refine LeO.ite ?_ ?_
      | refine LeO.bind ?_ (fun _ => ?_)
    · intro y0 y1 y2 y3 y4 y5
      unfold laws_FnExactLessBig.j1
      repeat' first
      | (with_reducible exact ih0 _ _ _ _ _ _ _ _ _)
      | (with_reducible exact ih1 _ _ _ _ _ _)
      | (with_reducible exact ih2 _ _ _)
      | (with_reducible exact impl_LessBig.mono _ _ _)
      | (with_reducible exact laws_eqBig.mono _ _ _)
      | (with_reducible exact laws_heldBig.mono _ _ _)
      | (with_reducible exact laws_markBig.mono _ _ _)
      | (with_reducible exact laws_toBig.mono _ _)
      | (with_reducible exact spec_LessBig.mono _ _ _)
      | (with_reducible exact LeO.refl _)
      | (with_reducible exact LeO.none _)
      | (with_reducible refine LeO.ite ?_ ?_)
      | (with_reducible refine LeO.bind ?_ (fun _ => ?_))
      | exact ih0 _ _ _ _ _ _ _ _ _
      | exact ih1 _ _ _ _ _ _
      | exact ih2 _ _ _
      | exact impl_LessBig.mono _ _ _
      | exact laws_eqBig.mono _ _ _
      | exact laws_heldBig.mono _ _ _
      | exact laws_markBig.mono _ _ _
      | exact laws_toBig.mono _ _
      | exact spec_LessBig.mono _ _ _
      | exact LeO.none _
      | refine LeO.ite ?_ ?_
      | refine LeO.bind ?_ (fun _ => ?_)
    · intro y0 y1 y2
      unfold laws_FnExactLessBig.j2
      repeat' first
      | (with_reducible exact ih0 _ _ _ _ _ _ _ _ _)
      | (with_reducible exact ih1 _ _ _ _ _ _)
      | (with_reducible exact ih2 _ _ _)
      | (with_reducible exact impl_LessBig.mono _ _ _)
      | (with_reducible exact laws_eqBig.mono _ _ _)
      | (with_reducible exact laws_heldBig.mono _ _ _)
      | (with_reducible exact laws_markBig.mono _ _ _)
      | (with_reducible exact laws_toBig.mono _ _)
      | (with_reducible exact spec_LessBig.mono _ _ _)
      | (with_reducible exact LeO.refl _)
      | (with_reducible exact LeO.none _)
      | (with_reducible refine LeO.ite ?_ ?_)
      | (with_reducible refine LeO.bind ?_ (fun _ => ?_))
      | exact ih0 _ _ _ _ _ _ _ _ _
      | exact ih1 _ _ _ _ _ _
      | exact ih2 _ _ _
      | exact impl_LessBig.mono _ _ _
      | exact laws_eqBig.mono _ _ _
      | exact laws_heldBig.mono _ _ _
      | exact laws_markBig.mono _ _ _
      | exact laws_toBig.mono _ _
      | exact spec_LessBig.mono _ _ _
      | exact LeO.none _
      | refine LeO.ite ?_ ?_
      | refine LeO.bind ?_ (fun _ => ?_)
theorem laws_FnExactLessBig.mono : ∀ a0 a1 k, LeO (laws_FnExactLessBig.f k a0 a1) (laws_FnExactLessBig.f (k + 1) a0 a1) := by
  intro a0 a1 k
  obtain ⟨ih0, ih1, ih2⟩ := laws_FnExactLessBig.mono_l k
  unfold laws_FnExactLessBig.f
  repeat' first
      | (with_reducible exact ih0 _ _ _ _ _ _ _ _ _)
      | (with_reducible exact ih1 _ _ _ _ _ _)
      | (with_reducible exact ih2 _ _ _)
      | (with_reducible exact impl_LessBig.mono _ _ _)
      | (with_reducible exact laws_eqBig.mono _ _ _)
      | (with_reducible exact laws_heldBig.mono _ _ _)
      | (with_reducible exact laws_markBig.mono _ _ _)
      | (with_reducible exact laws_toBig.mono _ _)
      | (with_reducible exact spec_LessBig.mono _ _ _)
      | (with_reducible exact LeO.refl _)
      | (with_reducible exact LeO.none _)
      | (with_reducible refine LeO.ite ?_ ?_)
      | (with_reducible refine LeO.bind ?_ (fun _ => ?_))
      | exact ih0 _ _ _ _ _ _ _ _ _
      | exact ih1 _ _ _ _ _ _
      | exact ih2 _ _ _
      | exact impl_LessBig.mono _ _ _
      | exact laws_eqBig.mono _ _ _
      | exact laws_heldBig.mono _ _ _
      | exact laws_markBig.mono _ _ _
      | exact laws_toBig.mono _ _
      | exact spec_LessBig.mono _ _ _
      | exact LeO.none _
      | refine LeO.ite ?_ ?_
      | refine LeO.bind ?_ (fun _ => ?_)
def laws_FnExactLessBig.T8 : Bool × List (List Nat × List Nat) := (true, [([], []), ([0], [0]), ([], []), ([2, 1], [2]), ([1, 3, 3], [1, 3]), ([4], [4]), ([5], [5]), ([5], [5]), ([], []), ([8, 6, 4, 0, 1, 2, 3, 4, 5, 6, 8], [6, 8]), ([7, 9, 0, 1, 2, 3, 4, 5, 6, 7, 8, 9], [7])])
def laws_FnExactLessBig.B8 : List Nat := [0, 1, 0, 7, 15, 31, 63, 63, 0, 383, 1023]
theorem laws_FnExactLessBig.tab8 : rtab .any (opsOf Try.f6 8) = laws_FnExactLessBig.T8 := by kernel_rfl
theorem laws_FnExactLessBig.bits8 : waitsOk laws_FnExactLessBig.T8.2 laws_FnExactLessBig.B8 = true := by kernel_rfl
def laws_FnExactLessBig.T31 : Bool × List (List Nat × List Nat) := (true, [([], []), ([0], [0]), ([], []), ([2, 1], [2]), ([1, 3, 3], [1, 3]), ([4], [4]), ([5], [5]), ([5], [5]), ([], []), ([8, 6, 4, 0, 1, 2, 3, 4, 5, 6, 8], [6, 8]), ([7, 9, 0, 1, 2, 3, 4, 5, 6, 7, 8, 9], [7])])
def laws_FnExactLessBig.B31 : List Nat := [0, 1, 0, 7, 15, 31, 63, 63, 0, 383, 1023]
theorem laws_FnExactLessBig.tab31 : rtab .any (opsOf Try.f6 31) = laws_FnExactLessBig.T31 := by kernel_rfl
theorem laws_FnExactLessBig.bits31 : waitsOk laws_FnExactLessBig.T31.2 laws_FnExactLessBig.B31 = true := by kernel_rfl
set_option maxHeartbeats 8000000 in
set_option maxRecDepth 100000 in
theorem laws_FnExactLessBig.calls (k : Nat) (A0_0 : Option Addr) (c0_0 : Nat) (l0_0 : List Int) (A1_0 : Option Addr) (c1_0 : Nat) (l1_0 : List Int) (_r : Bool) (w : World) (hr0_0 : Kd.C (Kd.int .i64) w A0_0 l0_0.length l0_0) (hc0_0 : l0_0.length ≤ c0_0) (hr1_0 : Kd.C (Kd.int .i64) w A1_0 l1_0.length l1_0) (hc1_0 : l1_0.length ≤ c1_0) (h : laws_FnExactLessBig.f k l0_0 l1_0 = some true) :
    Calls Try.prog 6 #[.agg #[.slice A0_0 l0_0.length c0_0], .agg #[.slice A1_0 l1_0.length c1_0]] w fun e w' => e = .returned (.bool true) ∧ Below w.heap.size w w' := by
 have hu24 := Try.underlying24
 have hu27 := Try.underlying27
 have HR0_0 := Aside0.mk hr0_0
 have HC0_0 := Aside0.mk hc0_0
 clear hr0_0 hc0_0
 have HR1_0 := Aside0.mk hr1_0
 have HC1_0 := Aside0.mk hc1_0
 clear hr1_0 hc1_0
 have HB := Aside0.mk (Below.refl w.heap.size w)
 have H : ((laws_szBig.f l0_0 1048576).bind fun t237 => (if t237 < 0 then (some true) else ((laws_szBig.f l1_0 t237).bind fun t238 => (if t238 < 0 then (some true) else ((laws_toBig.f k l0_0).bind fun t239 => ((laws_toBig.f k l1_0).bind fun t242 => ((spec_LessBig.f k t239 t242).bind fun bt245 => ((laws_toBig.f k l0_0).bind fun t250 => ((laws_toBig.f k l1_0).bind fun t254 => ((impl_LessBig.f k t250 t254).bind fun bt258 => ((laws_eqBig.f k bt258.1 bt245.1).bind fun t263 => (if t263 = true then (laws_FnExactLessBig.j0 k bt245.2 bt258.2 (bt258.2 != bt245.2) l0_0 l1_0 bt245.1 t250 t254 bt258.1) else (laws_FnExactLessBig.j0 k bt245.2 bt258.2 true l0_0 l1_0 bt245.1 t250 t254 bt258.1))))))))))))) = some true := h
 clear h
 replace H := Option.bind_eq_some_iff.mp H
 obtain ⟨t237, A30, H⟩ := H
 replace H : (if t237 < 0 then (some true) else ((laws_szBig.f l1_0 t237).bind fun t238 => (if t238 < 0 then (some true) else ((laws_toBig.f k l0_0).bind fun t239 => ((laws_toBig.f k l1_0).bind fun t242 => ((spec_LessBig.f k t239 t242).bind fun bt245 => ((laws_toBig.f k l0_0).bind fun t250 => ((laws_toBig.f k l1_0).bind fun t254 => ((impl_LessBig.f k t250 t254).bind fun bt258 => ((laws_eqBig.f k bt258.1 bt245.1).bind fun t263 => (if t263 = true then (laws_FnExactLessBig.j0 k bt245.2 bt258.2 (bt258.2 != bt245.2) l0_0 l1_0 bt245.1 t250 t254 bt258.1) else (laws_FnExactLessBig.j0 k bt245.2 bt258.2 true l0_0 l1_0 bt245.1 t250 t254 bt258.1)))))))))))) = some true := H
 have A3 := Aside0.mk A30
 clear A30
 by_cases c4 : t237 < 0
 · rw [if_pos c4] at H
   have c4b0 : decide (t237 < 0) = true := decide_eq_true c4
   clear c4
   clear H
   go_enter Try.func6, Try.ntmps6
   go_wp2_with (first | ((with_reducible refine gate_dst (N := 2) rfl ?_); refine box_event ?hg (N := 2) ?hd (cs := #[.slice A0_0 l0_0.length c0_0]) (t := 24) ?hr ?_; (case hd => rfl); (case hg => rfl); (case hr => first | (go_simp; done) | (go_simp; rfl)); intro gb235 hg w5 hbox hb; have n0_ := Aside0.mk (below_step (hq HB) hb); have n1_ := Aside0.mk (hbox); have n2_ := Aside0.mk (ng hg (hq HB)); have n3_ := Aside0.mk (ng hg (hq HB)); clear HB; have HB := n0_; have BK235 := n1_; have GW235 := n2_; have GE235 := n3_; clear n0_ n1_ n2_ n3_; clear hb hbox hg) | ((with_reducible refine gate_dst (N := 3) rfl ?_); refine box_event ?hg (N := 3) ?hd (cs := #[.slice A1_0 l1_0.length c1_0]) (t := 24) ?hr ?_; (case hd => rfl); (case hg => rfl); (case hr => first | (go_simp; done) | (go_simp; rfl)); intro gb236 hg w6 hbox hb; have n0_ := Aside0.mk (bB BK235 hb); have n1_ := Aside0.mk (below_step (hq1 HB GE235) hb); have n2_ := Aside0.mk (hbox); have n3_ := Aside0.mk (ng hg (hq1 HB GE235)); have n4_ := Aside0.mk (ng hg (hq1 HB GE235)); have n5_ := Aside0.mk (nl hg BK235); have n6_ := Aside0.mk (nr hg BK235); clear BK235; clear HB; have BK235 := n0_; have HB := n1_; have BK236 := n2_; have GW236 := n3_; have GE236 := n4_; have NB235_236 := n5_; have NB236_235 := n6_; clear n0_ n1_ n2_ n3_ n4_ n5_ n6_; clear hb hbox hg; have hnb7 := NB235_236.out; have hnc7 := NB236_235.out; have hcz8_0 : w6.cell? ⟨gb235, 0, none⟩ = some (.slice A0_0 l0_0.length c0_0) := (blk_cell BK235.out 0).trans rfl; have hfz8_0 := blk_frozen BK235.out 0) | ((with_reducible refine gate_callee (f := 15) rfl ?_); refine goesL_ (some 19) rfl rfl Try.func15 (by kernel_rfl) rfl #[.agg #[.slice A0_0 l0_0.length c0_0], .int .i64 1048576] rfl (by (try simp only [List.map_toArray, List.map_cons, List.map_nil]); first | done | rfl | (simp only [List.length_drop, List.length_take]; rfl)) ?_; (with_reducible refine (laws_szBig.calls _ _ l0_0 1048576 t237 _ ?side1 ?side2 A3.out).mono ?_); (case side1 => repeat (first | exact (Kd.C_below HR0_0.out HB.out) | (with_reducible refine Kd.C_alloc ?_ _) | (with_reducible refine Kd.C_drewN ?_ _) | (with_reducible refine Kd.C_drew ?_))); (case side2 => exact HC0_0.out); rintro e w9 ⟨rfl, hb⟩; refine ⟨_, rfl, ?_⟩; have n0_ := Aside0.mk (bB BK235 hb); have n1_ := Aside0.mk (bB BK236 hb); have n2_ := Aside0.mk (below_step (hq2 HB GE235 GE236) hb); clear BK235; clear BK236; clear HB; have BK235 := n0_; have BK236 := n1_; have HB := n2_; clear n0_ n1_ n2_; (try clear hb); (try clear hb2); (try clear hk); (try clear hi)))
   go_ret
   exact ⟨by first | rfl | (simp [errW_none, errW_some] <;> rfl) | (simp [*, errW_none, errW_some] <;> rfl), hq2 HB GE235 GE236⟩
 rw [if_neg c4] at H
 have c4b0 : decide (t237 < 0) = false := decide_eq_false c4
 clear c4
 replace H := Option.bind_eq_some_iff.mp H
 obtain ⟨t238, A100, H⟩ := H
 replace H : (if t238 < 0 then (some true) else ((laws_toBig.f k l0_0).bind fun t239 => ((laws_toBig.f k l1_0).bind fun t242 => ((spec_LessBig.f k t239 t242).bind fun bt245 => ((laws_toBig.f k l0_0).bind fun t250 => ((laws_toBig.f k l1_0).bind fun t254 => ((impl_LessBig.f k t250 t254).bind fun bt258 => ((laws_eqBig.f k bt258.1 bt245.1).bind fun t263 => (if t263 = true then (laws_FnExactLessBig.j0 k bt245.2 bt258.2 (bt258.2 != bt245.2) l0_0 l1_0 bt245.1 t250 t254 bt258.1) else (laws_FnExactLessBig.j0 k bt245.2 bt258.2 true l0_0 l1_0 bt245.1 t250 t254 bt258.1)))))))))) = some true := H
 have A10 := Aside0.mk A100
 clear A100
 by_cases c11 : t238 < 0
 · rw [if_pos c11] at H
   have c11b0 : decide (t238 < 0) = true := decide_eq_true c11
   clear c11
   clear H
   go_enter Try.func6, Try.ntmps6
   go_wp2_with (first | ((with_reducible refine gate_dst (N := 2) rfl ?_); refine box_event ?hg (N := 2) ?hd (cs := #[.slice A0_0 l0_0.length c0_0]) (t := 24) ?hr ?_; (case hd => rfl); (case hg => rfl); (case hr => first | (go_simp; done) | (go_simp; rfl)); intro gb235 hg w12 hbox hb; have n0_ := Aside0.mk (below_step (hq HB) hb); have n1_ := Aside0.mk (hbox); have n2_ := Aside0.mk (ng hg (hq HB)); have n3_ := Aside0.mk (ng hg (hq HB)); clear HB; have HB := n0_; have BK235 := n1_; have GW235 := n2_; have GE235 := n3_; clear n0_ n1_ n2_ n3_; clear hb hbox hg) | ((with_reducible refine gate_dst (N := 3) rfl ?_); refine box_event ?hg (N := 3) ?hd (cs := #[.slice A1_0 l1_0.length c1_0]) (t := 24) ?hr ?_; (case hd => rfl); (case hg => rfl); (case hr => first | (go_simp; done) | (go_simp; rfl)); intro gb236 hg w13 hbox hb; have n0_ := Aside0.mk (bB BK235 hb); have n1_ := Aside0.mk (below_step (hq1 HB GE235) hb); have n2_ := Aside0.mk (hbox); have n3_ := Aside0.mk (ng hg (hq1 HB GE235)); have n4_ := Aside0.mk (ng hg (hq1 HB GE235)); have n5_ := Aside0.mk (nl hg BK235); have n6_ := Aside0.mk (nr hg BK235); clear BK235; clear HB; have BK235 := n0_; have HB := n1_; have BK236 := n2_; have GW236 := n3_; have GE236 := n4_; have NB235_236 := n5_; have NB236_235 := n6_; clear n0_ n1_ n2_ n3_ n4_ n5_ n6_; clear hb hbox hg; have hnb14 := NB235_236.out; have hnc14 := NB236_235.out; have hcz15_0 : w13.cell? ⟨gb235, 0, none⟩ = some (.slice A0_0 l0_0.length c0_0) := (blk_cell BK235.out 0).trans rfl; have hfz15_0 := blk_frozen BK235.out 0) | ((with_reducible refine gate_callee (f := 15) rfl ?_); refine goesL_ (some 19) rfl rfl Try.func15 (by kernel_rfl) rfl #[.agg #[.slice A0_0 l0_0.length c0_0], .int .i64 1048576] rfl (by (try simp only [List.map_toArray, List.map_cons, List.map_nil]); first | done | rfl | (simp only [List.length_drop, List.length_take]; rfl)) ?_; (with_reducible refine (laws_szBig.calls _ _ l0_0 1048576 t237 _ ?side1 ?side2 A3.out).mono ?_); (case side1 => repeat (first | exact (Kd.C_below HR0_0.out HB.out) | (with_reducible refine Kd.C_alloc ?_ _) | (with_reducible refine Kd.C_drewN ?_ _) | (with_reducible refine Kd.C_drew ?_))); (case side2 => exact HC0_0.out); rintro e w16 ⟨rfl, hb⟩; refine ⟨_, rfl, ?_⟩; have n0_ := Aside0.mk (bB BK235 hb); have n1_ := Aside0.mk (bB BK236 hb); have n2_ := Aside0.mk (below_step (hq2 HB GE235 GE236) hb); clear BK235; clear BK236; clear HB; have BK235 := n0_; have BK236 := n1_; have HB := n2_; clear n0_ n1_ n2_; (try clear hb); (try clear hb2); (try clear hk); (try clear hi); have hcz17_0 : w16.cell? ⟨gb236, 0, none⟩ = some (.slice A1_0 l1_0.length c1_0) := (blk_cell BK236.out 0).trans rfl; have hfz17_0 := blk_frozen BK236.out 0) | ((with_reducible refine gate_callee (f := 15) rfl ?_); refine goesL_ (some 24) rfl rfl Try.func15 (by kernel_rfl) rfl #[.agg #[.slice A1_0 l1_0.length c1_0], .int .i64 t237] rfl (by (try simp only [List.map_toArray, List.map_cons, List.map_nil]); first | done | rfl | (simp only [List.length_drop, List.length_take]; rfl)) ?_; (with_reducible refine (laws_szBig.calls _ _ l1_0 t237 t238 _ ?side1 ?side2 A10.out).mono ?_); (case side1 => repeat (first | exact (Kd.C_below HR1_0.out HB.out) | (with_reducible refine Kd.C_alloc ?_ _) | (with_reducible refine Kd.C_drewN ?_ _) | (with_reducible refine Kd.C_drew ?_))); (case side2 => exact HC1_0.out); rintro e w18 ⟨rfl, hb⟩; refine ⟨_, rfl, ?_⟩; have n0_ := Aside0.mk (bB BK235 hb); have n1_ := Aside0.mk (bB BK236 hb); have n2_ := Aside0.mk (below_step (hq2 HB GE235 GE236) hb); clear BK235; clear BK236; clear HB; have BK235 := n0_; have BK236 := n1_; have HB := n2_; clear n0_ n1_ n2_; (try clear hb); (try clear hb2); (try clear hk); (try clear hi)))
   go_ret
   exact ⟨by first | rfl | (simp [errW_none, errW_some] <;> rfl) | (simp [*, errW_none, errW_some] <;> rfl), hq2 HB GE235 GE236⟩
 rw [if_neg c11] at H
 have c11b0 : decide (t238 < 0) = false := decide_eq_false c11
 clear c11
 replace H := Option.bind_eq_some_iff.mp H
 obtain ⟨t239, A190, H⟩ := H
 replace H : ((laws_toBig.f k l1_0).bind fun t242 => ((spec_LessBig.f k t239 t242).bind fun bt245 => ((laws_toBig.f k l0_0).bind fun t250 => ((laws_toBig.f k l1_0).bind fun t254 => ((impl_LessBig.f k t250 t254).bind fun bt258 => ((laws_eqBig.f k bt258.1 bt245.1).bind fun t263 => (if t263 = true then (laws_FnExactLessBig.j0 k bt245.2 bt258.2 (bt258.2 != bt245.2) l0_0 l1_0 bt245.1 t250 t254 bt258.1) else (laws_FnExactLessBig.j0 k bt245.2 bt258.2 true l0_0 l1_0 bt245.1 t250 t254 bt258.1)))))))) = some true := H
 have A19 := Aside0.mk A190
 clear A190
 replace H := Option.bind_eq_some_iff.mp H
 obtain ⟨t242, A200, H⟩ := H
 replace H : ((spec_LessBig.f k t239 t242).bind fun bt245 => ((laws_toBig.f k l0_0).bind fun t250 => ((laws_toBig.f k l1_0).bind fun t254 => ((impl_LessBig.f k t250 t254).bind fun bt258 => ((laws_eqBig.f k bt258.1 bt245.1).bind fun t263 => (if t263 = true then (laws_FnExactLessBig.j0 k bt245.2 bt258.2 (bt258.2 != bt245.2) l0_0 l1_0 bt245.1 t250 t254 bt258.1) else (laws_FnExactLessBig.j0 k bt245.2 bt258.2 true l0_0 l1_0 bt245.1 t250 t254 bt258.1))))))) = some true := H
 have A20 := Aside0.mk A200
 clear A200
 replace H := Option.bind_eq_some_iff.mp H
 obtain ⟨⟨t245, t248⟩, A210, H⟩ := H
 replace H : ((laws_toBig.f k l0_0).bind fun t250 => ((laws_toBig.f k l1_0).bind fun t254 => ((impl_LessBig.f k t250 t254).bind fun bt258 => ((laws_eqBig.f k bt258.1 t245).bind fun t263 => (if t263 = true then (laws_FnExactLessBig.j0 k t248 bt258.2 (bt258.2 != t248) l0_0 l1_0 t245 t250 t254 bt258.1) else (laws_FnExactLessBig.j0 k t248 bt258.2 true l0_0 l1_0 t245 t250 t254 bt258.1)))))) = some true := H
 have A21 := Aside0.mk A210
 clear A210
 replace H := Option.bind_eq_some_iff.mp H
 obtain ⟨t250, A220, H⟩ := H
 replace H : ((laws_toBig.f k l1_0).bind fun t254 => ((impl_LessBig.f k t250 t254).bind fun bt258 => ((laws_eqBig.f k bt258.1 t245).bind fun t263 => (if t263 = true then (laws_FnExactLessBig.j0 k t248 bt258.2 (bt258.2 != t248) l0_0 l1_0 t245 t250 t254 bt258.1) else (laws_FnExactLessBig.j0 k t248 bt258.2 true l0_0 l1_0 t245 t250 t254 bt258.1))))) = some true := H
 have A22 := Aside0.mk A220
 clear A220
 replace H := Option.bind_eq_some_iff.mp H
 obtain ⟨t254, A230, H⟩ := H
 replace H : ((impl_LessBig.f k t250 t254).bind fun bt258 => ((laws_eqBig.f k bt258.1 t245).bind fun t263 => (if t263 = true then (laws_FnExactLessBig.j0 k t248 bt258.2 (bt258.2 != t248) l0_0 l1_0 t245 t250 t254 bt258.1) else (laws_FnExactLessBig.j0 k t248 bt258.2 true l0_0 l1_0 t245 t250 t254 bt258.1)))) = some true := H
 have A23 := Aside0.mk A230
 clear A230
 replace H := Option.bind_eq_some_iff.mp H
 obtain ⟨⟨t258, t261⟩, A240, H⟩ := H
 replace H : ((laws_eqBig.f k t258 t245).bind fun t263 => (if t263 = true then (laws_FnExactLessBig.j0 k t248 t261 (t261 != t248) l0_0 l1_0 t245 t250 t254 t258) else (laws_FnExactLessBig.j0 k t248 t261 true l0_0 l1_0 t245 t250 t254 t258))) = some true := H
 have A24 := Aside0.mk A240
 clear A240
 have HC25 := Aside0.mk H
 clear H
 go_enter Try.func6, Try.ntmps6
 try go_wp2_with (first | ((with_reducible refine gate_dst (N := 2) rfl ?_); refine box_event ?hg (N := 2) ?hd (cs := #[.slice A0_0 l0_0.length c0_0]) (t := 24) ?hr ?_; (case hd => rfl); (case hg => rfl); (case hr => first | (go_simp; done) | (go_simp; rfl)); intro gb235 hg w26 hbox hb; have n0_ := Aside0.mk (below_step (hq HB) hb); have n1_ := Aside0.mk (hbox); have n2_ := Aside0.mk (ng hg (hq HB)); have n3_ := Aside0.mk (ng hg (hq HB)); clear HB; have HB := n0_; have BK235 := n1_; have GW235 := n2_; have GE235 := n3_; clear n0_ n1_ n2_ n3_; clear hb hbox hg) | ((with_reducible refine gate_dst (N := 3) rfl ?_); refine box_event ?hg (N := 3) ?hd (cs := #[.slice A1_0 l1_0.length c1_0]) (t := 24) ?hr ?_; (case hd => rfl); (case hg => rfl); (case hr => first | (go_simp; done) | (go_simp; rfl)); intro gb236 hg w27 hbox hb; have n0_ := Aside0.mk (bB BK235 hb); have n1_ := Aside0.mk (below_step (hq1 HB GE235) hb); have n2_ := Aside0.mk (hbox); have n3_ := Aside0.mk (ng hg (hq1 HB GE235)); have n4_ := Aside0.mk (ng hg (hq1 HB GE235)); have n5_ := Aside0.mk (nl hg BK235); have n6_ := Aside0.mk (nr hg BK235); clear BK235; clear HB; have BK235 := n0_; have HB := n1_; have BK236 := n2_; have GW236 := n3_; have GE236 := n4_; have NB235_236 := n5_; have NB236_235 := n6_; clear n0_ n1_ n2_ n3_ n4_ n5_ n6_; clear hb hbox hg; have hnb28 := NB235_236.out; have hnc28 := NB236_235.out; have hcz29_0 : w27.cell? ⟨gb235, 0, none⟩ = some (.slice A0_0 l0_0.length c0_0) := (blk_cell BK235.out 0).trans rfl; have hfz29_0 := blk_frozen BK235.out 0) | ((with_reducible refine gate_callee (f := 15) rfl ?_); refine goesL_ (some 19) rfl rfl Try.func15 (by kernel_rfl) rfl #[.agg #[.slice A0_0 l0_0.length c0_0], .int .i64 1048576] rfl (by (try simp only [List.map_toArray, List.map_cons, List.map_nil]); first | done | rfl | (simp only [List.length_drop, List.length_take]; rfl)) ?_; (with_reducible refine (laws_szBig.calls _ _ l0_0 1048576 t237 _ ?side1 ?side2 A3.out).mono ?_); (case side1 => repeat (first | exact (Kd.C_below HR0_0.out HB.out) | (with_reducible refine Kd.C_alloc ?_ _) | (with_reducible refine Kd.C_drewN ?_ _) | (with_reducible refine Kd.C_drew ?_))); (case side2 => exact HC0_0.out); rintro e w30 ⟨rfl, hb⟩; refine ⟨_, rfl, ?_⟩; have n0_ := Aside0.mk (bB BK235 hb); have n1_ := Aside0.mk (bB BK236 hb); have n2_ := Aside0.mk (below_step (hq2 HB GE235 GE236) hb); clear BK235; clear BK236; clear HB; have BK235 := n0_; have BK236 := n1_; have HB := n2_; clear n0_ n1_ n2_; (try clear hb); (try clear hb2); (try clear hk); (try clear hi); have hcz31_0 : w30.cell? ⟨gb236, 0, none⟩ = some (.slice A1_0 l1_0.length c1_0) := (blk_cell BK236.out 0).trans rfl; have hfz31_0 := blk_frozen BK236.out 0) | ((with_reducible refine gate_callee (f := 15) rfl ?_); refine goesL_ (some 24) rfl rfl Try.func15 (by kernel_rfl) rfl #[.agg #[.slice A1_0 l1_0.length c1_0], .int .i64 t237] rfl (by (try simp only [List.map_toArray, List.map_cons, List.map_nil]); first | done | rfl | (simp only [List.length_drop, List.length_take]; rfl)) ?_; (with_reducible refine (laws_szBig.calls _ _ l1_0 t237 t238 _ ?side1 ?side2 A10.out).mono ?_); (case side1 => repeat (first | exact (Kd.C_below HR1_0.out HB.out) | (with_reducible refine Kd.C_alloc ?_ _) | (with_reducible refine Kd.C_drewN ?_ _) | (with_reducible refine Kd.C_drew ?_))); (case side2 => exact HC1_0.out); rintro e w32 ⟨rfl, hb⟩; refine ⟨_, rfl, ?_⟩; have n0_ := Aside0.mk (bB BK235 hb); have n1_ := Aside0.mk (bB BK236 hb); have n2_ := Aside0.mk (below_step (hq2 HB GE235 GE236) hb); clear BK235; clear BK236; clear HB; have BK235 := n0_; have BK236 := n1_; have HB := n2_; clear n0_ n1_ n2_; (try clear hb); (try clear hb2); (try clear hk); (try clear hi)))
 have n0_ := Aside0.mk (blk_drew BK235.out)
 have n1_ := Aside0.mk (blk_drew BK236.out)
 have n2_ := Aside0.mk (below_drew1 HB.out)
 clear BK235
 clear BK236
 clear HB
 have BK235 := n0_
 have BK236 := n1_
 have HB := n2_
 clear n0_ n1_ n2_
 refine start_ (n := 11) (S := fun w' => w'.cell? ⟨gb235, 0, none⟩ = some (.slice A0_0 l0_0.length c0_0) ∧ w'.cell? ⟨gb236, 0, none⟩ = some (.slice A1_0 l1_0.length c1_0)) (ds := []) #[false, false, false, false, false, false, false, false, false, false, false] (by kernel_rfl) rfl rfl ⟨(blk_cell BK235.out 0).trans rfl, (blk_cell BK236.out 0).trans rfl⟩ (fun hHeld => ?_); refine with_tabW laws_FnExactLessBig.tab8 laws_FnExactLessBig.bits8 (fun HT_ HW_ => ?_)
 generalize w32.drew = w33 at BK235 BK236 HB hHeld ⊢
 refine take_ (i := 0) (N := some 28) (v := ?_) (a' := ?_) #[true, false, false, false, false, false, false, false, false, false, false] rfl rfl (take_ofW HT_.out HW_.out (by kernel_rfl)) (fun _ _ _ h => h) (Or.inl ⟨by rfl, ?_⟩) hHeld ?_ ?_
 rotate_left
 · rintro w' ⟨s0, s1⟩
   go_simp
   with_reducible rfl
 rotate_left
 · simp only [Act.put, List.setIfInBounds_toArray, List.set_cons_zero, List.set_cons_succ, i64_w, i32_w]
   rfl
 refine take_ (i := 2) (N := some 30) (v := ?_) (a' := ?_) #[true, false, true, false, false, false, false, false, false, false, false] rfl rfl (take_ofW HT_.out HW_.out (by kernel_rfl)) (fun _ _ _ h => h) (Or.inl ⟨by rfl, ?_⟩) hHeld ?_ ?_
 rotate_left
 · rintro w' ⟨s0, s1⟩
   go_simp
   with_reducible rfl
 rotate_left
 · simp only [Act.put, List.setIfInBounds_toArray, List.set_cons_zero, List.set_cons_succ, i64_w, i32_w]
   rfl
 refine join_ (σ := Value × Value × Value × Nat) 2 #[true, true, true, true, true, true, true, true, true, false, false] (fun s_ => [(29, .agg #[s_.1]), (31, .agg #[s_.2.1]), (32, .tuple #[.agg #[s_.2.2.1], .bool t248]), (6, .pointer (some ⟨s_.2.2.2, 0, none⟩)), (27, .tuple #[.agg #[s_.2.2.1], .bool t248]), (33, .agg #[s_.2.2.1]), (34, .bool t248)]) (fun s_ w' => (w'.cell? ⟨gb235, 0, none⟩ = some (.slice A0_0 l0_0.length c0_0) ∧ w'.cell? ⟨gb236, 0, none⟩ = some (.slice A1_0 l1_0.length c1_0)) ∧ (Kd.R (Kd.int .i64) 3 w' w.heap.size (fun k_ => some k_ ≠ (s_.2.1 : Value).ownBlock ∧ some k_ ≠ (s_.2.2.1 : Value).ownBlock) s_.1 t239) ∧ (Kd.R (Kd.int .i64) 3 w' w.heap.size (fun k_ => some k_ ≠ (s_.1 : Value).ownBlock ∧ some k_ ≠ (s_.2.2.1 : Value).ownBlock) s_.2.1 t242) ∧ (Kd.R (Kd.int .i64) 3 w' w.heap.size (fun k_ => some k_ ≠ (s_.1 : Value).ownBlock ∧ some k_ ≠ (s_.2.1 : Value).ownBlock) s_.2.2.1 t245) ∧ (w'.heap[gb235]? = some (.cells #[.slice A0_0 l0_0.length c0_0] 24 (0, 0))) ∧ (w'.heap[gb236]? = some (.cells #[.slice A1_0 l1_0.length c1_0] 24 (0, 0))) ∧ (w'.heap[s_.2.2.2]? = some (.cells #[.slice none 0 0] 27 (0, 0))) ∧ (w.heap.size ≤ s_.2.2.2) ∧ (w.heap.size ≤ s_.2.2.2) ∧ (gb235 ≠ s_.2.2.2) ∧ (s_.2.2.2 ≠ gb235) ∧ (gb236 ≠ s_.2.2.2) ∧ (s_.2.2.2 ≠ gb236) ∧ (Below w.heap.size w w')) ?_ ?_
 rotate_left
 · intro hCont
   refine two_ (i := 1) (j := 8) (Ni := some 29) (Nj := some 6) #[true, true, true, false, false, false, false, false, false, false, false] #[true, false, true, false, false, false, false, false, true, false, false] rfl rfl rfl rfl (two_of HT_.out (by kernel_rfl)) (by decide) (by decide) (fun K hK => ?_) (fun K hK => ?_)
   · skip
     refine goes_ Try.func17 (by kernel_rfl) rfl #[.agg #[.slice A0_0 l0_0.length c0_0]] (by rfl) rfl rfl (by (try simp only [List.map_toArray, List.map_cons, List.map_nil]); first | done | rfl | (simp only [List.length_drop, List.length_take]; rfl)) ?_
     with_reducible refine (laws_toBig.calls k _ _ l0_0 t239 _ ?side1 ?side2 A19.out).mono ?_
     (case side1 => repeat (first | exact (Kd.C_below HR0_0.out HB.out) | (with_reducible refine Kd.C_alloc ?_ _) | (with_reducible refine Kd.C_drewN ?_ _) | (with_reducible refine Kd.C_drew ?_)))
     (case side2 => exact HC0_0.out)
     rintro e w34 ⟨v240, rfl, ho0, hb⟩
     refine ⟨_, rfl, ?_⟩
     have n0_ := Aside0.mk (Kd.R_lower ho0 (below_size (hq2 HB GE235 GE236)))
     have n1_ := Aside0.mk (bB BK235 hb)
     have n2_ := Aside0.mk (bB BK236 hb)
     have n3_ := Aside0.mk (below_step (hq2 HB GE235 GE236) hb)
     clear BK235
     clear BK236
     clear HB
     have HO241 := n0_
     have BK235 := n1_
     have BK236 := n2_
     have HB := n3_
     clear n0_ n1_ n2_ n3_
     (try clear hb)
     (try clear hb2)
     (try clear hk)
     (try clear hi)
     (try clear ho0)
     refine hK.out _ _ ⟨(blk_cell BK235.out 0).trans rfl, (blk_cell BK236.out 0).trans rfl⟩ (fun hHeld => ?_)
     clear hK K
     refine norm_ (a' := ?_) ?_ ?_
     rotate_left
     · show Act.put _ (some 29) _ = _
       simp only [Act.put, List.setIfInBounds_toArray, List.set_cons_zero, List.set_cons_succ, i64_w, i32_w]
       rfl
     refine two_ (i := 3) (j := 8) (Ni := some 31) (Nj := some 6) #[true, true, true, true, false, false, false, false, false, false, false] #[true, true, true, false, false, false, false, false, true, false, false] rfl rfl rfl rfl (two_of HT_.out (by kernel_rfl)) (by decide) (by decide) (fun K hK => ?_) (fun K hK => ?_)
     · skip
       refine goes_ Try.func17 (by kernel_rfl) rfl #[.agg #[.slice A1_0 l1_0.length c1_0]] (by rfl) rfl rfl (by (try simp only [List.map_toArray, List.map_cons, List.map_nil]); first | done | rfl | (simp only [List.length_drop, List.length_take]; rfl)) ?_
       with_reducible refine (laws_toBig.calls k _ _ l1_0 t242 _ ?side1 ?side2 A20.out).mono ?_
       (case side1 => repeat (first | exact (Kd.C_below HR1_0.out HB.out) | (with_reducible refine Kd.C_alloc ?_ _) | (with_reducible refine Kd.C_drewN ?_ _) | (with_reducible refine Kd.C_drew ?_)))
       (case side2 => exact HC1_0.out)
       rintro e w35 ⟨v243, rfl, ho0, hb⟩
       refine ⟨_, rfl, ?_⟩
       have n0_ := Aside0.mk (qe HO241 ho0 hb)
       have n1_ := Aside0.mk (Kd.R_lower (Kd.R_new' ho0 (ql HO241)) (below_size (hq2 HB GE235 GE236)))
       have n2_ := Aside0.mk (bB BK235 hb)
       have n3_ := Aside0.mk (bB BK236 hb)
       have n4_ := Aside0.mk (below_step (hq2 HB GE235 GE236) hb)
       clear HO241
       clear BK235
       clear BK236
       clear HB
       have HO241 := n0_
       have HO244 := n1_
       have BK235 := n2_
       have BK236 := n3_
       have HB := n4_
       clear n0_ n1_ n2_ n3_ n4_
       (try clear hb)
       (try clear hb2)
       (try clear hk)
       (try clear hi)
       (try clear ho0)
       obtain ⟨Ao36, co36, eo36⟩ := Kd.R_slice HO241.out
       (first | subst eo36 | (injection eo36 with f1_ f2_ f3_; have f4_ := f1_.symm; have f5_ := f3_.symm; clear f1_ f2_ f3_; subst f4_; subst f5_))
       obtain ⟨Ao37, co37, eo37⟩ := Kd.R_slice HO244.out
       (first | subst eo37 | (injection eo37 with f1_ f2_ f3_; have f4_ := f1_.symm; have f5_ := f3_.symm; clear f1_ f2_ f3_; subst f4_; subst f5_))
       refine hK.out _ _ ⟨(blk_cell BK235.out 0).trans rfl, (blk_cell BK236.out 0).trans rfl⟩ (fun hHeld => ?_)
       clear hK K
       refine norm_ (a' := ?_) ?_ ?_
       rotate_left
       · show Act.put _ (some 31) _ = _
         simp only [Act.put, List.setIfInBounds_toArray, List.set_cons_zero, List.set_cons_succ, i64_w, i32_w]
         rfl
       refine two_ (i := 4) (j := 8) (Ni := some 32) (Nj := some 6) #[true, true, true, true, true, false, false, false, false, false, false] #[true, true, true, true, false, false, false, false, true, false, false] rfl rfl rfl rfl (two_of HT_.out (by kernel_rfl)) (by decide) (by decide) (fun K hK => ?_) (fun K hK => ?_)
       · skip
         refine goes_ Try.func26 (by kernel_rfl) rfl #[.agg #[.slice Ao36 t239.length co36], .agg #[.slice Ao37 t242.length co37]] (by rfl) rfl rfl (by (try simp only [List.map_toArray, List.map_cons, List.map_nil]); first | done | rfl | (simp only [List.length_drop, List.length_take]; rfl)) ?_
         with_reducible refine (spec_LessBig.calls k _ _ t239 _ _ t242 t245 t248 _ ?side1 ?side2 ?side3 ?side4 A21.out).mono ?_
         (case side1 => repeat (first | exact (Kd.R_reads' HO241.out).2.2 | (with_reducible refine Kd.C_alloc ?_ _) | (with_reducible refine Kd.C_drewN ?_ _) | (with_reducible refine Kd.C_drew ?_)))
         (case side2 => exact (Kd.R_reads' HO241.out).2.1)
         (case side3 => repeat (first | exact (Kd.R_reads' HO244.out).2.2 | (with_reducible refine Kd.C_alloc ?_ _) | (with_reducible refine Kd.C_drewN ?_ _) | (with_reducible refine Kd.C_drew ?_)))
         (case side4 => exact (Kd.R_reads' HO244.out).2.1)
         rintro e w38 ⟨v246, rfl, ho0, hb⟩
         refine ⟨_, rfl, ?_⟩
         have n0_ := Aside0.mk (qe HO241 ho0 hb)
         have n1_ := Aside0.mk (qe HO244 ho0 hb)
         have n2_ := Aside0.mk (Kd.R_lower (Kd.R_new' (Kd.R_new' ho0 (ql HO241)) (ql HO244)) (below_size (hq2 HB GE235 GE236)))
         have n3_ := Aside0.mk (bB BK235 hb)
         have n4_ := Aside0.mk (bB BK236 hb)
         have n5_ := Aside0.mk (below_step (hq2 HB GE235 GE236) hb)
         clear HO241
         clear HO244
         clear BK235
         clear BK236
         clear HB
         have HO241 := n0_
         have HO244 := n1_
         have HO247 := n2_
         have BK235 := n3_
         have BK236 := n4_
         have HB := n5_
         clear n0_ n1_ n2_ n3_ n4_ n5_
         (try clear hb)
         (try clear hb2)
         (try clear hk)
         (try clear hi)
         (try clear ho0)
         refine hK.out _ _ ⟨(blk_cell BK235.out 0).trans rfl, (blk_cell BK236.out 0).trans rfl⟩ (fun hHeld => ?_)
         clear hK K
         refine norm_ (a' := ?_) ?_ ?_
         rotate_left
         · show Act.put _ (some 32) _ = _
           simp only [Act.put, List.setIfInBounds_toArray, List.set_cons_zero, List.set_cons_succ, i64_w, i32_w]
           rfl
         refine pure_ (i := 5) (N := some 27) (v := ?_) (a' := ?_) #[true, true, true, true, true, true, false, false, false, false, false] rfl rfl (any_of HT_.out (by kernel_rfl)) (fun _ _ _ h => h) (Or.inl ⟨by rfl, ?_⟩) ?_ ?_
         rotate_left
         · intro w'
           first | (go_simp; with_reducible rfl) | (go_simp; unfold Instr.field; go_simp; rfl)
         rotate_left
         · simp only [Act.put, List.setIfInBounds_toArray, List.set_cons_zero, List.set_cons_succ, i64_w, i32_w]
           rfl
         refine pure_ (i := 6) (N := some 33) (v := ?_) (a' := ?_) #[true, true, true, true, true, true, true, false, false, false, false] rfl rfl (any_of HT_.out (by kernel_rfl)) (fun _ _ _ h => h) (Or.inl ⟨by rfl, ?_⟩) ?_ ?_
         rotate_left
         · intro w'
           first | (go_simp; with_reducible rfl) | (go_simp; unfold Instr.field; go_simp; rfl)
         rotate_left
         · simp only [Act.put, List.setIfInBounds_toArray, List.set_cons_zero, List.set_cons_succ, i64_w, i32_w]
           rfl
         refine pure_ (i := 7) (N := some 34) (v := ?_) (a' := ?_) #[true, true, true, true, true, true, true, true, false, false, false] rfl rfl (any_of HT_.out (by kernel_rfl)) (fun _ _ _ h => h) (Or.inl ⟨by rfl, ?_⟩) ?_ ?_
         rotate_left
         · intro w'
           first | (go_simp; with_reducible rfl) | (go_simp; unfold Instr.field; go_simp; rfl)
         rotate_left
         · simp only [Act.put, List.setIfInBounds_toArray, List.set_cons_zero, List.set_cons_succ, i64_w, i32_w]
           rfl
         refine one_ (i := 8) (N := some 6) #[true, true, true, true, true, true, true, true, true, false, false] rfl rfl (one_of HT_.out (by kernel_rfl)) (by decide) (fun K hK => ?_)
         refine box_step ?hg (N := 6) ?hd (cs := #[.slice none 0 0]) (t := 27) ?hr ?_; (case hd => rfl); (case hg => rfl); (case hr => first | (go_simp; done) | (go_simp; rfl))
         intro gb249 hg w39 hbox hb
         have n0_ := Aside0.mk (qb HO241 hb)
         have n1_ := Aside0.mk (qb HO244 hb)
         have n2_ := Aside0.mk (qb HO247 hb)
         have n3_ := Aside0.mk (bB BK235 hb)
         have n4_ := Aside0.mk (bB BK236 hb)
         have n5_ := Aside0.mk (below_step (hq2 HB GE235 GE236) hb)
         have n6_ := Aside0.mk (hbox)
         have n7_ := Aside0.mk (ng hg (hq2 HB GE235 GE236))
         have n8_ := Aside0.mk (ng hg (hq2 HB GE235 GE236))
         have n9_ := Aside0.mk (nl hg BK235)
         have n10_ := Aside0.mk (nr hg BK235)
         have n11_ := Aside0.mk (nl hg BK236)
         have n12_ := Aside0.mk (nr hg BK236)
         clear HO241
         clear HO244
         clear HO247
         clear BK235
         clear BK236
         clear HB
         have HO241 := n0_
         have HO244 := n1_
         have HO247 := n2_
         have BK235 := n3_
         have BK236 := n4_
         have HB := n5_
         have BK249 := n6_
         have GW249 := n7_
         have GE249 := n8_
         have NB235_249 := n9_
         have NB249_235 := n10_
         have NB236_249 := n11_
         have NB249_236 := n12_
         clear n0_ n1_ n2_ n3_ n4_ n5_ n6_ n7_ n8_ n9_ n10_ n11_ n12_
         clear hb hbox hg
         refine hK.out _ _ ⟨(blk_cell BK235.out 0).trans rfl, (blk_cell BK236.out 0).trans rfl⟩ (fun hHeld => ?_)
         clear hK K
         refine norm_ (a' := ?_) ?_ ?_
         rotate_left
         · show Act.put _ (some 6) _ = _
           simp only [Act.put, List.setIfInBounds_toArray, List.set_cons_zero, List.set_cons_succ, i64_w, i32_w]
           rfl
         exact norm_ (by simp only [putAll, Act.put, List.setIfInBounds_toArray, List.set_cons_zero, List.set_cons_succ]) (hCont (.slice Ao36 t239.length co36, .slice Ao37 t242.length co37, v246, gb249) _ ⟨hHeld, (by (with_reducible repeat (first | apply Kd.R_alloc | apply Kd.R_drewN | apply Kd.R_drew)); exact Kd.R_mono HO241.out (fun _ hk => ⟨hk.1.2, hk.2⟩)), (by (with_reducible repeat (first | apply Kd.R_alloc | apply Kd.R_drewN | apply Kd.R_drew)); exact Kd.R_mono HO244.out (fun _ hk => ⟨hk.1.2, hk.2⟩)), (by (with_reducible repeat (first | apply Kd.R_alloc | apply Kd.R_drewN | apply Kd.R_drew)); exact Kd.R_mono HO247.out (fun _ hk => ⟨hk.1.2, hk.2⟩)), (bq BK235), (bq BK236), (bq BK249), GW249.out, GE249.out, NB235_249.out, NB249_235.out, NB236_249.out, NB249_236.out, (hq3 HB GE235 GE236 GE249)⟩)
       skip
       refine box_step ?hg (N := 6) ?hd (cs := #[.slice none 0 0]) (t := 27) ?hr ?_; (case hd => rfl); (case hg => rfl); (case hr => first | (go_simp; done) | (go_simp; rfl))
       intro gb249 hg w36 hbox hb
       have n0_ := Aside0.mk (qb HO241 hb)
       have n1_ := Aside0.mk (qb HO244 hb)
       have n2_ := Aside0.mk (bB BK235 hb)
       have n3_ := Aside0.mk (bB BK236 hb)
       have n4_ := Aside0.mk (below_step (hq2 HB GE235 GE236) hb)
       have n5_ := Aside0.mk (hbox)
       have n6_ := Aside0.mk (ng hg (hq2 HB GE235 GE236))
       have n7_ := Aside0.mk (ng hg (hq2 HB GE235 GE236))
       have n8_ := Aside0.mk (nl hg BK235)
       have n9_ := Aside0.mk (nr hg BK235)
       have n10_ := Aside0.mk (nl hg BK236)
       have n11_ := Aside0.mk (nr hg BK236)
       clear HO241
       clear HO244
       clear BK235
       clear BK236
       clear HB
       have HO241 := n0_
       have HO244 := n1_
       have BK235 := n2_
       have BK236 := n3_
       have HB := n4_
       have BK249 := n5_
       have GW249 := n6_
       have GE249 := n7_
       have NB235_249 := n8_
       have NB249_235 := n9_
       have NB236_249 := n10_
       have NB249_236 := n11_
       clear n0_ n1_ n2_ n3_ n4_ n5_ n6_ n7_ n8_ n9_ n10_ n11_
       clear hb hbox hg
       obtain ⟨Ao37, co37, eo37⟩ := Kd.R_slice HO241.out
       (first | subst eo37 | (injection eo37 with f1_ f2_ f3_; have f4_ := f1_.symm; have f5_ := f3_.symm; clear f1_ f2_ f3_; subst f4_; subst f5_))
       obtain ⟨Ao38, co38, eo38⟩ := Kd.R_slice HO244.out
       (first | subst eo38 | (injection eo38 with f1_ f2_ f3_; have f4_ := f1_.symm; have f5_ := f3_.symm; clear f1_ f2_ f3_; subst f4_; subst f5_))
       refine hK.out _ _ ⟨(blk_cell BK235.out 0).trans rfl, (blk_cell BK236.out 0).trans rfl⟩ (fun hHeld => ?_)
       clear hK K
       refine norm_ (a' := ?_) ?_ ?_
       rotate_left
       · show Act.put _ (some 6) _ = _
         simp only [Act.put, List.setIfInBounds_toArray, List.set_cons_zero, List.set_cons_succ, i64_w, i32_w]
         rfl
       refine one_ (i := 4) (N := some 32) #[true, true, true, true, true, false, false, false, true, false, false] rfl rfl (one_of HT_.out (by kernel_rfl)) (by decide) (fun K hK => ?_)
       refine goes_ Try.func26 (by kernel_rfl) rfl #[.agg #[.slice Ao37 t239.length co37], .agg #[.slice Ao38 t242.length co38]] (by rfl) rfl rfl (by (try simp only [List.map_toArray, List.map_cons, List.map_nil]); first | done | rfl | (simp only [List.length_drop, List.length_take]; rfl)) ?_
       with_reducible refine (spec_LessBig.calls k _ _ t239 _ _ t242 t245 t248 _ ?side1 ?side2 ?side3 ?side4 A21.out).mono ?_
       (case side1 => repeat (first | exact (Kd.R_reads' HO241.out).2.2 | (with_reducible refine Kd.C_alloc ?_ _) | (with_reducible refine Kd.C_drewN ?_ _) | (with_reducible refine Kd.C_drew ?_)))
       (case side2 => exact (Kd.R_reads' HO241.out).2.1)
       (case side3 => repeat (first | exact (Kd.R_reads' HO244.out).2.2 | (with_reducible refine Kd.C_alloc ?_ _) | (with_reducible refine Kd.C_drewN ?_ _) | (with_reducible refine Kd.C_drew ?_)))
       (case side4 => exact (Kd.R_reads' HO244.out).2.1)
       rintro e w39 ⟨v246, rfl, ho0, hb⟩
       refine ⟨_, rfl, ?_⟩
       have n0_ := Aside0.mk (qe HO241 ho0 hb)
       have n1_ := Aside0.mk (qe HO244 ho0 hb)
       have n2_ := Aside0.mk (Kd.R_lower (Kd.R_new' (Kd.R_new' ho0 (ql HO241)) (ql HO244)) (below_size (hq3 HB GE235 GE236 GE249)))
       have n3_ := Aside0.mk (bB BK235 hb)
       have n4_ := Aside0.mk (bB BK236 hb)
       have n5_ := Aside0.mk (bB BK249 hb)
       have n6_ := Aside0.mk (below_step (hq3 HB GE235 GE236 GE249) hb)
       clear HO241
       clear HO244
       clear BK235
       clear BK236
       clear BK249
       clear HB
       have HO241 := n0_
       have HO244 := n1_
       have HO247 := n2_
       have BK235 := n3_
       have BK236 := n4_
       have BK249 := n5_
       have HB := n6_
       clear n0_ n1_ n2_ n3_ n4_ n5_ n6_
       (try clear hb)
       (try clear hb2)
       (try clear hk)
       (try clear hi)
       (try clear ho0)
       refine hK.out _ _ ⟨(blk_cell BK235.out 0).trans rfl, (blk_cell BK236.out 0).trans rfl⟩ (fun hHeld => ?_)
       clear hK K
       refine norm_ (a' := ?_) ?_ ?_
       rotate_left
       · show Act.put _ (some 32) _ = _
         simp only [Act.put, List.setIfInBounds_toArray, List.set_cons_zero, List.set_cons_succ, i64_w, i32_w]
         rfl
       refine pure_ (i := 5) (N := some 27) (v := ?_) (a' := ?_) #[true, true, true, true, true, true, false, false, true, false, false] rfl rfl (any_of HT_.out (by kernel_rfl)) (fun _ _ _ h => h) (Or.inl ⟨by rfl, ?_⟩) ?_ ?_
       rotate_left
       · intro w'
         first | (go_simp; with_reducible rfl) | (go_simp; unfold Instr.field; go_simp; rfl)
       rotate_left
       · simp only [Act.put, List.setIfInBounds_toArray, List.set_cons_zero, List.set_cons_succ, i64_w, i32_w]
         rfl
       refine pure_ (i := 6) (N := some 33) (v := ?_) (a' := ?_) #[true, true, true, true, true, true, true, false, true, false, false] rfl rfl (any_of HT_.out (by kernel_rfl)) (fun _ _ _ h => h) (Or.inl ⟨by rfl, ?_⟩) ?_ ?_
       rotate_left
       · intro w'
         first | (go_simp; with_reducible rfl) | (go_simp; unfold Instr.field; go_simp; rfl)
       rotate_left
       · simp only [Act.put, List.setIfInBounds_toArray, List.set_cons_zero, List.set_cons_succ, i64_w, i32_w]
         rfl
       refine pure_ (i := 7) (N := some 34) (v := ?_) (a' := ?_) #[true, true, true, true, true, true, true, true, true, false, false] rfl rfl (any_of HT_.out (by kernel_rfl)) (fun _ _ _ h => h) (Or.inl ⟨by rfl, ?_⟩) ?_ ?_
       rotate_left
       · intro w'
         first | (go_simp; with_reducible rfl) | (go_simp; unfold Instr.field; go_simp; rfl)
       rotate_left
       · simp only [Act.put, List.setIfInBounds_toArray, List.set_cons_zero, List.set_cons_succ, i64_w, i32_w]
         rfl
       exact norm_ (by simp only [putAll, Act.put, List.setIfInBounds_toArray, List.set_cons_zero, List.set_cons_succ]) (hCont (.slice Ao37 t239.length co37, .slice Ao38 t242.length co38, v246, gb249) _ ⟨hHeld, (by (with_reducible repeat (first | apply Kd.R_alloc | apply Kd.R_drewN | apply Kd.R_drew)); exact Kd.R_mono HO241.out (fun _ hk => ⟨hk.1.2, hk.2⟩)), (by (with_reducible repeat (first | apply Kd.R_alloc | apply Kd.R_drewN | apply Kd.R_drew)); exact Kd.R_mono HO244.out (fun _ hk => ⟨hk.1.2, hk.2⟩)), (by (with_reducible repeat (first | apply Kd.R_alloc | apply Kd.R_drewN | apply Kd.R_drew)); exact Kd.R_mono HO247.out (fun _ hk => ⟨hk.1.2, hk.2⟩)), (bq BK235), (bq BK236), (bq BK249), GW249.out, GE249.out, NB235_249.out, NB249_235.out, NB236_249.out, NB249_236.out, (hq3 HB GE235 GE236 GE249)⟩)
     skip
     refine box_step ?hg (N := 6) ?hd (cs := #[.slice none 0 0]) (t := 27) ?hr ?_; (case hd => rfl); (case hg => rfl); (case hr => first | (go_simp; done) | (go_simp; rfl))
     intro gb249 hg w35 hbox hb
     have n0_ := Aside0.mk (qb HO241 hb)
     have n1_ := Aside0.mk (bB BK235 hb)
     have n2_ := Aside0.mk (bB BK236 hb)
     have n3_ := Aside0.mk (below_step (hq2 HB GE235 GE236) hb)
     have n4_ := Aside0.mk (hbox)
     have n5_ := Aside0.mk (ng hg (hq2 HB GE235 GE236))
     have n6_ := Aside0.mk (ng hg (hq2 HB GE235 GE236))
     have n7_ := Aside0.mk (nl hg BK235)
     have n8_ := Aside0.mk (nr hg BK235)
     have n9_ := Aside0.mk (nl hg BK236)
     have n10_ := Aside0.mk (nr hg BK236)
     clear HO241
     clear BK235
     clear BK236
     clear HB
     have HO241 := n0_
     have BK235 := n1_
     have BK236 := n2_
     have HB := n3_
     have BK249 := n4_
     have GW249 := n5_
     have GE249 := n6_
     have NB235_249 := n7_
     have NB249_235 := n8_
     have NB236_249 := n9_
     have NB249_236 := n10_
     clear n0_ n1_ n2_ n3_ n4_ n5_ n6_ n7_ n8_ n9_ n10_
     clear hb hbox hg
     refine hK.out _ _ ⟨(blk_cell BK235.out 0).trans rfl, (blk_cell BK236.out 0).trans rfl⟩ (fun hHeld => ?_)
     clear hK K
     refine norm_ (a' := ?_) ?_ ?_
     rotate_left
     · show Act.put _ (some 6) _ = _
       simp only [Act.put, List.setIfInBounds_toArray, List.set_cons_zero, List.set_cons_succ, i64_w, i32_w]
       rfl
     refine one_ (i := 3) (N := some 31) #[true, true, true, true, false, false, false, false, true, false, false] rfl rfl (one_of HT_.out (by kernel_rfl)) (by decide) (fun K hK => ?_)
     refine goes_ Try.func17 (by kernel_rfl) rfl #[.agg #[.slice A1_0 l1_0.length c1_0]] (by rfl) rfl rfl (by (try simp only [List.map_toArray, List.map_cons, List.map_nil]); first | done | rfl | (simp only [List.length_drop, List.length_take]; rfl)) ?_
     with_reducible refine (laws_toBig.calls k _ _ l1_0 t242 _ ?side1 ?side2 A20.out).mono ?_
     (case side1 => repeat (first | exact (Kd.C_below HR1_0.out HB.out) | (with_reducible refine Kd.C_alloc ?_ _) | (with_reducible refine Kd.C_drewN ?_ _) | (with_reducible refine Kd.C_drew ?_)))
     (case side2 => exact HC1_0.out)
     rintro e w36 ⟨v243, rfl, ho0, hb⟩
     refine ⟨_, rfl, ?_⟩
     have n0_ := Aside0.mk (qe HO241 ho0 hb)
     have n1_ := Aside0.mk (Kd.R_lower (Kd.R_new' ho0 (ql HO241)) (below_size (hq3 HB GE235 GE236 GE249)))
     have n2_ := Aside0.mk (bB BK235 hb)
     have n3_ := Aside0.mk (bB BK236 hb)
     have n4_ := Aside0.mk (bB BK249 hb)
     have n5_ := Aside0.mk (below_step (hq3 HB GE235 GE236 GE249) hb)
     clear HO241
     clear BK235
     clear BK236
     clear BK249
     clear HB
     have HO241 := n0_
     have HO244 := n1_
     have BK235 := n2_
     have BK236 := n3_
     have BK249 := n4_
     have HB := n5_
     clear n0_ n1_ n2_ n3_ n4_ n5_
     (try clear hb)
     (try clear hb2)
     (try clear hk)
     (try clear hi)
     (try clear ho0)
     obtain ⟨Ao37, co37, eo37⟩ := Kd.R_slice HO241.out
     (first | subst eo37 | (injection eo37 with f1_ f2_ f3_; have f4_ := f1_.symm; have f5_ := f3_.symm; clear f1_ f2_ f3_; subst f4_; subst f5_))
     obtain ⟨Ao38, co38, eo38⟩ := Kd.R_slice HO244.out
     (first | subst eo38 | (injection eo38 with f1_ f2_ f3_; have f4_ := f1_.symm; have f5_ := f3_.symm; clear f1_ f2_ f3_; subst f4_; subst f5_))
     refine hK.out _ _ ⟨(blk_cell BK235.out 0).trans rfl, (blk_cell BK236.out 0).trans rfl⟩ (fun hHeld => ?_)
     clear hK K
     refine norm_ (a' := ?_) ?_ ?_
     rotate_left
     · show Act.put _ (some 31) _ = _
       simp only [Act.put, List.setIfInBounds_toArray, List.set_cons_zero, List.set_cons_succ, i64_w, i32_w]
       rfl
     refine one_ (i := 4) (N := some 32) #[true, true, true, true, true, false, false, false, true, false, false] rfl rfl (one_of HT_.out (by kernel_rfl)) (by decide) (fun K hK => ?_)
     refine goes_ Try.func26 (by kernel_rfl) rfl #[.agg #[.slice Ao37 t239.length co37], .agg #[.slice Ao38 t242.length co38]] (by rfl) rfl rfl (by (try simp only [List.map_toArray, List.map_cons, List.map_nil]); first | done | rfl | (simp only [List.length_drop, List.length_take]; rfl)) ?_
     with_reducible refine (spec_LessBig.calls k _ _ t239 _ _ t242 t245 t248 _ ?side1 ?side2 ?side3 ?side4 A21.out).mono ?_
     (case side1 => repeat (first | exact (Kd.R_reads' HO241.out).2.2 | (with_reducible refine Kd.C_alloc ?_ _) | (with_reducible refine Kd.C_drewN ?_ _) | (with_reducible refine Kd.C_drew ?_)))
     (case side2 => exact (Kd.R_reads' HO241.out).2.1)
     (case side3 => repeat (first | exact (Kd.R_reads' HO244.out).2.2 | (with_reducible refine Kd.C_alloc ?_ _) | (with_reducible refine Kd.C_drewN ?_ _) | (with_reducible refine Kd.C_drew ?_)))
     (case side4 => exact (Kd.R_reads' HO244.out).2.1)
     rintro e w39 ⟨v246, rfl, ho0, hb⟩
     refine ⟨_, rfl, ?_⟩
     have n0_ := Aside0.mk (qe HO241 ho0 hb)
     have n1_ := Aside0.mk (qe HO244 ho0 hb)
     have n2_ := Aside0.mk (Kd.R_lower (Kd.R_new' (Kd.R_new' ho0 (ql HO241)) (ql HO244)) (below_size (hq3 HB GE235 GE236 GE249)))
     have n3_ := Aside0.mk (bB BK235 hb)
     have n4_ := Aside0.mk (bB BK236 hb)
     have n5_ := Aside0.mk (bB BK249 hb)
     have n6_ := Aside0.mk (below_step (hq3 HB GE235 GE236 GE249) hb)
     clear HO241
     clear HO244
     clear BK235
     clear BK236
     clear BK249
     clear HB
     have HO241 := n0_
     have HO244 := n1_
     have HO247 := n2_
     have BK235 := n3_
     have BK236 := n4_
     have BK249 := n5_
     have HB := n6_
     clear n0_ n1_ n2_ n3_ n4_ n5_ n6_
     (try clear hb)
     (try clear hb2)
     (try clear hk)
     (try clear hi)
     (try clear ho0)
     refine hK.out _ _ ⟨(blk_cell BK235.out 0).trans rfl, (blk_cell BK236.out 0).trans rfl⟩ (fun hHeld => ?_)
     clear hK K
     refine norm_ (a' := ?_) ?_ ?_
     rotate_left
     · show Act.put _ (some 32) _ = _
       simp only [Act.put, List.setIfInBounds_toArray, List.set_cons_zero, List.set_cons_succ, i64_w, i32_w]
       rfl
     refine pure_ (i := 5) (N := some 27) (v := ?_) (a' := ?_) #[true, true, true, true, true, true, false, false, true, false, false] rfl rfl (any_of HT_.out (by kernel_rfl)) (fun _ _ _ h => h) (Or.inl ⟨by rfl, ?_⟩) ?_ ?_
     rotate_left
     · intro w'
       first | (go_simp; with_reducible rfl) | (go_simp; unfold Instr.field; go_simp; rfl)
     rotate_left
     · simp only [Act.put, List.setIfInBounds_toArray, List.set_cons_zero, List.set_cons_succ, i64_w, i32_w]
       rfl
     refine pure_ (i := 6) (N := some 33) (v := ?_) (a' := ?_) #[true, true, true, true, true, true, true, false, true, false, false] rfl rfl (any_of HT_.out (by kernel_rfl)) (fun _ _ _ h => h) (Or.inl ⟨by rfl, ?_⟩) ?_ ?_
     rotate_left
     · intro w'
       first | (go_simp; with_reducible rfl) | (go_simp; unfold Instr.field; go_simp; rfl)
     rotate_left
     · simp only [Act.put, List.setIfInBounds_toArray, List.set_cons_zero, List.set_cons_succ, i64_w, i32_w]
       rfl
     refine pure_ (i := 7) (N := some 34) (v := ?_) (a' := ?_) #[true, true, true, true, true, true, true, true, true, false, false] rfl rfl (any_of HT_.out (by kernel_rfl)) (fun _ _ _ h => h) (Or.inl ⟨by rfl, ?_⟩) ?_ ?_
     rotate_left
     · intro w'
       first | (go_simp; with_reducible rfl) | (go_simp; unfold Instr.field; go_simp; rfl)
     rotate_left
     · simp only [Act.put, List.setIfInBounds_toArray, List.set_cons_zero, List.set_cons_succ, i64_w, i32_w]
       rfl
     exact norm_ (by simp only [putAll, Act.put, List.setIfInBounds_toArray, List.set_cons_zero, List.set_cons_succ]) (hCont (.slice Ao37 t239.length co37, .slice Ao38 t242.length co38, v246, gb249) _ ⟨hHeld, (by (with_reducible repeat (first | apply Kd.R_alloc | apply Kd.R_drewN | apply Kd.R_drew)); exact Kd.R_mono HO241.out (fun _ hk => ⟨hk.1.2, hk.2⟩)), (by (with_reducible repeat (first | apply Kd.R_alloc | apply Kd.R_drewN | apply Kd.R_drew)); exact Kd.R_mono HO244.out (fun _ hk => ⟨hk.1.2, hk.2⟩)), (by (with_reducible repeat (first | apply Kd.R_alloc | apply Kd.R_drewN | apply Kd.R_drew)); exact Kd.R_mono HO247.out (fun _ hk => ⟨hk.1.2, hk.2⟩)), (bq BK235), (bq BK236), (bq BK249), GW249.out, GE249.out, NB235_249.out, NB249_235.out, NB236_249.out, NB249_236.out, (hq3 HB GE235 GE236 GE249)⟩)
   skip
   refine box_step ?hg (N := 6) ?hd (cs := #[.slice none 0 0]) (t := 27) ?hr ?_; (case hd => rfl); (case hg => rfl); (case hr => first | (go_simp; done) | (go_simp; rfl))
   intro gb249 hg w34 hbox hb
   have n0_ := Aside0.mk (bB BK235 hb)
   have n1_ := Aside0.mk (bB BK236 hb)
   have n2_ := Aside0.mk (below_step (hq2 HB GE235 GE236) hb)
   have n3_ := Aside0.mk (hbox)
   have n4_ := Aside0.mk (ng hg (hq2 HB GE235 GE236))
   have n5_ := Aside0.mk (ng hg (hq2 HB GE235 GE236))
   have n6_ := Aside0.mk (nl hg BK235)
   have n7_ := Aside0.mk (nr hg BK235)
   have n8_ := Aside0.mk (nl hg BK236)
   have n9_ := Aside0.mk (nr hg BK236)
   clear BK235
   clear BK236
   clear HB
   have BK235 := n0_
   have BK236 := n1_
   have HB := n2_
   have BK249 := n3_
   have GW249 := n4_
   have GE249 := n5_
   have NB235_249 := n6_
   have NB249_235 := n7_
   have NB236_249 := n8_
   have NB249_236 := n9_
   clear n0_ n1_ n2_ n3_ n4_ n5_ n6_ n7_ n8_ n9_
   clear hb hbox hg
   refine hK.out _ _ ⟨(blk_cell BK235.out 0).trans rfl, (blk_cell BK236.out 0).trans rfl⟩ (fun hHeld => ?_)
   clear hK K
   refine norm_ (a' := ?_) ?_ ?_
   rotate_left
   · show Act.put _ (some 6) _ = _
     simp only [Act.put, List.setIfInBounds_toArray, List.set_cons_zero, List.set_cons_succ, i64_w, i32_w]
     rfl
   refine one_ (i := 1) (N := some 29) #[true, true, true, false, false, false, false, false, true, false, false] rfl rfl (one_of HT_.out (by kernel_rfl)) (by decide) (fun K hK => ?_)
   refine goes_ Try.func17 (by kernel_rfl) rfl #[.agg #[.slice A0_0 l0_0.length c0_0]] (by rfl) rfl rfl (by (try simp only [List.map_toArray, List.map_cons, List.map_nil]); first | done | rfl | (simp only [List.length_drop, List.length_take]; rfl)) ?_
   with_reducible refine (laws_toBig.calls k _ _ l0_0 t239 _ ?side1 ?side2 A19.out).mono ?_
   (case side1 => repeat (first | exact (Kd.C_below HR0_0.out HB.out) | (with_reducible refine Kd.C_alloc ?_ _) | (with_reducible refine Kd.C_drewN ?_ _) | (with_reducible refine Kd.C_drew ?_)))
   (case side2 => exact HC0_0.out)
   rintro e w35 ⟨v240, rfl, ho0, hb⟩
   refine ⟨_, rfl, ?_⟩
   have n0_ := Aside0.mk (Kd.R_lower ho0 (below_size (hq3 HB GE235 GE236 GE249)))
   have n1_ := Aside0.mk (bB BK235 hb)
   have n2_ := Aside0.mk (bB BK236 hb)
   have n3_ := Aside0.mk (bB BK249 hb)
   have n4_ := Aside0.mk (below_step (hq3 HB GE235 GE236 GE249) hb)
   clear BK235
   clear BK236
   clear BK249
   clear HB
   have HO241 := n0_
   have BK235 := n1_
   have BK236 := n2_
   have BK249 := n3_
   have HB := n4_
   clear n0_ n1_ n2_ n3_ n4_
   (try clear hb)
   (try clear hb2)
   (try clear hk)
   (try clear hi)
   (try clear ho0)
   refine hK.out _ _ ⟨(blk_cell BK235.out 0).trans rfl, (blk_cell BK236.out 0).trans rfl⟩ (fun hHeld => ?_)
   clear hK K
   refine norm_ (a' := ?_) ?_ ?_
   rotate_left
   · show Act.put _ (some 29) _ = _
     simp only [Act.put, List.setIfInBounds_toArray, List.set_cons_zero, List.set_cons_succ, i64_w, i32_w]
     rfl
   refine one_ (i := 3) (N := some 31) #[true, true, true, true, false, false, false, false, true, false, false] rfl rfl (one_of HT_.out (by kernel_rfl)) (by decide) (fun K hK => ?_)
   refine goes_ Try.func17 (by kernel_rfl) rfl #[.agg #[.slice A1_0 l1_0.length c1_0]] (by rfl) rfl rfl (by (try simp only [List.map_toArray, List.map_cons, List.map_nil]); first | done | rfl | (simp only [List.length_drop, List.length_take]; rfl)) ?_
   with_reducible refine (laws_toBig.calls k _ _ l1_0 t242 _ ?side1 ?side2 A20.out).mono ?_
   (case side1 => repeat (first | exact (Kd.C_below HR1_0.out HB.out) | (with_reducible refine Kd.C_alloc ?_ _) | (with_reducible refine Kd.C_drewN ?_ _) | (with_reducible refine Kd.C_drew ?_)))
   (case side2 => exact HC1_0.out)
   rintro e w36 ⟨v243, rfl, ho0, hb⟩
   refine ⟨_, rfl, ?_⟩
   have n0_ := Aside0.mk (qe HO241 ho0 hb)
   have n1_ := Aside0.mk (Kd.R_lower (Kd.R_new' ho0 (ql HO241)) (below_size (hq3 HB GE235 GE236 GE249)))
   have n2_ := Aside0.mk (bB BK235 hb)
   have n3_ := Aside0.mk (bB BK236 hb)
   have n4_ := Aside0.mk (bB BK249 hb)
   have n5_ := Aside0.mk (below_step (hq3 HB GE235 GE236 GE249) hb)
   clear HO241
   clear BK235
   clear BK236
   clear BK249
   clear HB
   have HO241 := n0_
   have HO244 := n1_
   have BK235 := n2_
   have BK236 := n3_
   have BK249 := n4_
   have HB := n5_
   clear n0_ n1_ n2_ n3_ n4_ n5_
   (try clear hb)
   (try clear hb2)
   (try clear hk)
   (try clear hi)
   (try clear ho0)
   obtain ⟨Ao37, co37, eo37⟩ := Kd.R_slice HO241.out
   (first | subst eo37 | (injection eo37 with f1_ f2_ f3_; have f4_ := f1_.symm; have f5_ := f3_.symm; clear f1_ f2_ f3_; subst f4_; subst f5_))
   obtain ⟨Ao38, co38, eo38⟩ := Kd.R_slice HO244.out
   (first | subst eo38 | (injection eo38 with f1_ f2_ f3_; have f4_ := f1_.symm; have f5_ := f3_.symm; clear f1_ f2_ f3_; subst f4_; subst f5_))
   refine hK.out _ _ ⟨(blk_cell BK235.out 0).trans rfl, (blk_cell BK236.out 0).trans rfl⟩ (fun hHeld => ?_)
   clear hK K
   refine norm_ (a' := ?_) ?_ ?_
   rotate_left
   · show Act.put _ (some 31) _ = _
     simp only [Act.put, List.setIfInBounds_toArray, List.set_cons_zero, List.set_cons_succ, i64_w, i32_w]
     rfl
   refine one_ (i := 4) (N := some 32) #[true, true, true, true, true, false, false, false, true, false, false] rfl rfl (one_of HT_.out (by kernel_rfl)) (by decide) (fun K hK => ?_)
   refine goes_ Try.func26 (by kernel_rfl) rfl #[.agg #[.slice Ao37 t239.length co37], .agg #[.slice Ao38 t242.length co38]] (by rfl) rfl rfl (by (try simp only [List.map_toArray, List.map_cons, List.map_nil]); first | done | rfl | (simp only [List.length_drop, List.length_take]; rfl)) ?_
   with_reducible refine (spec_LessBig.calls k _ _ t239 _ _ t242 t245 t248 _ ?side1 ?side2 ?side3 ?side4 A21.out).mono ?_
   (case side1 => repeat (first | exact (Kd.R_reads' HO241.out).2.2 | (with_reducible refine Kd.C_alloc ?_ _) | (with_reducible refine Kd.C_drewN ?_ _) | (with_reducible refine Kd.C_drew ?_)))
   (case side2 => exact (Kd.R_reads' HO241.out).2.1)
   (case side3 => repeat (first | exact (Kd.R_reads' HO244.out).2.2 | (with_reducible refine Kd.C_alloc ?_ _) | (with_reducible refine Kd.C_drewN ?_ _) | (with_reducible refine Kd.C_drew ?_)))
   (case side4 => exact (Kd.R_reads' HO244.out).2.1)
   rintro e w39 ⟨v246, rfl, ho0, hb⟩
   refine ⟨_, rfl, ?_⟩
   have n0_ := Aside0.mk (qe HO241 ho0 hb)
   have n1_ := Aside0.mk (qe HO244 ho0 hb)
   have n2_ := Aside0.mk (Kd.R_lower (Kd.R_new' (Kd.R_new' ho0 (ql HO241)) (ql HO244)) (below_size (hq3 HB GE235 GE236 GE249)))
   have n3_ := Aside0.mk (bB BK235 hb)
   have n4_ := Aside0.mk (bB BK236 hb)
   have n5_ := Aside0.mk (bB BK249 hb)
   have n6_ := Aside0.mk (below_step (hq3 HB GE235 GE236 GE249) hb)
   clear HO241
   clear HO244
   clear BK235
   clear BK236
   clear BK249
   clear HB
   have HO241 := n0_
   have HO244 := n1_
   have HO247 := n2_
   have BK235 := n3_
   have BK236 := n4_
   have BK249 := n5_
   have HB := n6_
   clear n0_ n1_ n2_ n3_ n4_ n5_ n6_
   (try clear hb)
   (try clear hb2)
   (try clear hk)
   (try clear hi)
   (try clear ho0)
   refine hK.out _ _ ⟨(blk_cell BK235.out 0).trans rfl, (blk_cell BK236.out 0).trans rfl⟩ (fun hHeld => ?_)
   clear hK K
   refine norm_ (a' := ?_) ?_ ?_
   rotate_left
   · show Act.put _ (some 32) _ = _
     simp only [Act.put, List.setIfInBounds_toArray, List.set_cons_zero, List.set_cons_succ, i64_w, i32_w]
     rfl
   refine pure_ (i := 5) (N := some 27) (v := ?_) (a' := ?_) #[true, true, true, true, true, true, false, false, true, false, false] rfl rfl (any_of HT_.out (by kernel_rfl)) (fun _ _ _ h => h) (Or.inl ⟨by rfl, ?_⟩) ?_ ?_
   rotate_left
   · intro w'
     first | (go_simp; with_reducible rfl) | (go_simp; unfold Instr.field; go_simp; rfl)
   rotate_left
   · simp only [Act.put, List.setIfInBounds_toArray, List.set_cons_zero, List.set_cons_succ, i64_w, i32_w]
     rfl
   refine pure_ (i := 6) (N := some 33) (v := ?_) (a' := ?_) #[true, true, true, true, true, true, true, false, true, false, false] rfl rfl (any_of HT_.out (by kernel_rfl)) (fun _ _ _ h => h) (Or.inl ⟨by rfl, ?_⟩) ?_ ?_
   rotate_left
   · intro w'
     first | (go_simp; with_reducible rfl) | (go_simp; unfold Instr.field; go_simp; rfl)
   rotate_left
   · simp only [Act.put, List.setIfInBounds_toArray, List.set_cons_zero, List.set_cons_succ, i64_w, i32_w]
     rfl
   refine pure_ (i := 7) (N := some 34) (v := ?_) (a' := ?_) #[true, true, true, true, true, true, true, true, true, false, false] rfl rfl (any_of HT_.out (by kernel_rfl)) (fun _ _ _ h => h) (Or.inl ⟨by rfl, ?_⟩) ?_ ?_
   rotate_left
   · intro w'
     first | (go_simp; with_reducible rfl) | (go_simp; unfold Instr.field; go_simp; rfl)
   rotate_left
   · simp only [Act.put, List.setIfInBounds_toArray, List.set_cons_zero, List.set_cons_succ, i64_w, i32_w]
     rfl
   exact norm_ (by simp only [putAll, Act.put, List.setIfInBounds_toArray, List.set_cons_zero, List.set_cons_succ]) (hCont (.slice Ao37 t239.length co37, .slice Ao38 t242.length co38, v246, gb249) _ ⟨hHeld, (by (with_reducible repeat (first | apply Kd.R_alloc | apply Kd.R_drewN | apply Kd.R_drew)); exact Kd.R_mono HO241.out (fun _ hk => ⟨hk.1.2, hk.2⟩)), (by (with_reducible repeat (first | apply Kd.R_alloc | apply Kd.R_drewN | apply Kd.R_drew)); exact Kd.R_mono HO244.out (fun _ hk => ⟨hk.1.2, hk.2⟩)), (by (with_reducible repeat (first | apply Kd.R_alloc | apply Kd.R_drewN | apply Kd.R_drew)); exact Kd.R_mono HO247.out (fun _ hk => ⟨hk.1.2, hk.2⟩)), (bq BK235), (bq BK236), (bq BK249), GW249.out, GE249.out, NB235_249.out, NB249_235.out, NB236_249.out, NB249_236.out, (hq3 HB GE235 GE236 GE249)⟩)
 rintro ⟨v240, v243, v246, gb249⟩ w40 ⟨hS_, h0_, h1_, h2_, h3_, h4_, h5_, h6_, h7_, h8_, h9_, h10_, h11_, h12_⟩
 have n0_ : Aside0 (Kd.R (Kd.int .i64) 3 w40 w.heap.size (fun k_ => some k_ ≠ (v243 : Value).ownBlock ∧ some k_ ≠ (v246 : Value).ownBlock) v240 t239) := ⟨h0_⟩
 have n1_ : Aside0 (Kd.R (Kd.int .i64) 3 w40 w.heap.size (fun k_ => some k_ ≠ (v240 : Value).ownBlock ∧ some k_ ≠ (v246 : Value).ownBlock) v243 t242) := ⟨h1_⟩
 have n2_ : Aside0 (Kd.R (Kd.int .i64) 3 w40 w.heap.size (fun k_ => some k_ ≠ (v240 : Value).ownBlock ∧ some k_ ≠ (v243 : Value).ownBlock) v246 t245) := ⟨h2_⟩
 have n3_ : Aside0 (w40.heap[gb235]? = some (.cells #[.slice A0_0 l0_0.length c0_0] 24 (0, 0))) := ⟨h3_⟩
 have n4_ : Aside0 (w40.heap[gb236]? = some (.cells #[.slice A1_0 l1_0.length c1_0] 24 (0, 0))) := ⟨h4_⟩
 have n5_ : Aside0 (w40.heap[gb249]? = some (.cells #[.slice none 0 0] 27 (0, 0))) := ⟨h5_⟩
 have n6_ : Aside0 (w.heap.size ≤ gb249) := ⟨h6_⟩
 have n7_ : Aside0 (w.heap.size ≤ gb249) := ⟨h7_⟩
 have n8_ : Aside0 (gb235 ≠ gb249) := ⟨h8_⟩
 have n9_ : Aside0 (gb249 ≠ gb235) := ⟨h9_⟩
 have n10_ : Aside0 (gb236 ≠ gb249) := ⟨h10_⟩
 have n11_ : Aside0 (gb249 ≠ gb236) := ⟨h11_⟩
 have n12_ : Aside0 (Below w.heap.size w w40) := ⟨h12_⟩
 clear BK235
 clear BK236
 clear HB
 clear h0_ h1_ h2_ h3_ h4_ h5_ h6_ h7_ h8_ h9_ h10_ h11_ h12_
 have HO241 := n0_
 have HO244 := n1_
 have HO247 := n2_
 have BK235 := n3_
 have BK236 := n4_
 have BK249 := n5_
 have GW249 := n6_
 have GE249 := n7_
 have NB235_249 := n8_
 have NB249_235 := n9_
 have NB236_249 := n10_
 have NB249_236 := n11_
 have HB := n12_
 clear n0_ n1_ n2_ n3_ n4_ n5_ n6_ n7_ n8_ n9_ n10_ n11_ n12_
 have hHeld : w40.cell? ⟨gb235, 0, none⟩ = some (.slice A0_0 l0_0.length c0_0) ∧ w40.cell? ⟨gb236, 0, none⟩ = some (.slice A1_0 l1_0.length c1_0) := hS_
 obtain ⟨Ao41, co41, eo41⟩ := Kd.R_slice HO247.out
 (first | subst eo41 | (injection eo41 with f1_ f2_ f3_; have f4_ := f1_.symm; have f5_ := f3_.symm; clear f1_ f2_ f3_; subst f4_; subst f5_))
 refine norm_ (a' := ?_) ?_ ?_
 rotate_left
 · simp only [putAll, Act.put, List.setIfInBounds_toArray, List.set_cons_zero, List.set_cons_succ]
   rfl
 refine one_ (i := 9) (N := none) #[true, true, true, true, true, true, true, true, true, true, false] rfl rfl (one_of HT_.out (by kernel_rfl)) (by decide) (fun K hK => ?_)
 have hs42 : w40.cell? ⟨gb249, 0, none⟩ = some (.slice none 0 0) := (blk_cell BK249.out 0).trans rfl
 have hfs42 := blk_frozen BK249.out 0
 have hns42_0 := NB235_249.out
 have hns42_1 := NB236_249.out
 have hms42_0 := NB249_235.out
 have hms42_1 := NB249_236.out
 refine skip_ (w1 := ?_) (by rfl) rfl ?_ ?_
 rotate_left
 · go_simp
   rfl
 refine hK.out _ _ ⟨((cell_far (p := ⟨gb249, _, none⟩) NB235_249.out _).trans (hHeld.1)), ((cell_far (p := ⟨gb249, _, none⟩) NB236_249.out _).trans (hHeld.2))⟩ (fun hHeld => ?_)
 clear hK K
 refine pure_ (i := 10) (N := some 7) (v := ?_) (a' := ?_) #[true, true, true, true, true, true, true, true, true, true, true] rfl rfl (any_of HT_.out (by kernel_rfl)) (fun _ _ _ h => h) (Or.inl ⟨by rfl, ?_⟩) ?_ ?_
 rotate_left
 · intro w'
   first | (go_simp; with_reducible rfl) | (go_simp; unfold Instr.field; go_simp; rfl)
 rotate_left
 · simp only [Act.put, List.setIfInBounds_toArray, List.set_cons_zero, List.set_cons_succ, i64_w, i32_w]
   rfl
 refine done_ (done_of HT_.out (by kernel_rfl)) ?_
 have hnb43 := NB235_249.out
 have hnc43 := NB249_235.out
 have hcz44_0 : w40.cell? ⟨gb235, 0, none⟩ = some (.slice A0_0 l0_0.length c0_0) := (blk_cell BK235.out 0).trans rfl
 have hfz44_0 := blk_frozen BK235.out 0
 go_upto_region 12 with (first | ((with_reducible refine gate_callee (f := 17) rfl ?_); refine goesL_ (some 36) rfl rfl Try.func17 (by kernel_rfl) rfl #[.agg #[.slice A0_0 l0_0.length c0_0]] rfl (by (try simp only [List.map_toArray, List.map_cons, List.map_nil]); first | done | rfl | (simp only [List.length_drop, List.length_take]; rfl)) ?_; (with_reducible refine (laws_toBig.calls k _ _ l0_0 t250 _ ?side1 ?side2 A22.out).mono ?_); (case side1 => exact Kd.C_below HR0_0.out (hq3 HB GE235 GE236 GE249)); (case side2 => exact HC0_0.out); rintro e w45 ⟨v251, rfl, ho0, hb⟩; refine ⟨_, rfl, ?_⟩; have n0_ := Aside0.mk (Kd.R_elder' (by (with_reducible repeat (first | apply Kd.R_alloc | apply Kd.R_drewN | apply Kd.R_drew)); exact (Kd.R_mono (Kd.R_far (p := ⟨gb249, 0, none⟩) (Kd.R_types HO241.out BK249.out (by decide)) (fun _ hk => hk.2) (.slice Ao41 t245.length co41)) (fun _ h_ => h_.1))) (Kd.R_base ho0) hb); have n1_ := Aside0.mk (Kd.R_elder' (by (with_reducible repeat (first | apply Kd.R_alloc | apply Kd.R_drewN | apply Kd.R_drew)); exact (Kd.R_mono (Kd.R_far (p := ⟨gb249, 0, none⟩) (Kd.R_types HO244.out BK249.out (by decide)) (fun _ hk => hk.2) (.slice Ao41 t245.length co41)) (fun _ h_ => h_.1))) (Kd.R_base ho0) hb); have n2_ := Aside0.mk (Kd.R_elder' (by (with_reducible repeat (first | apply Kd.R_alloc | apply Kd.R_drewN | apply Kd.R_drew)); exact (Kd.R_mono (Kd.R_far (p := ⟨gb249, 0, none⟩) (Kd.R_types HO247.out BK249.out (by decide)) (fun _ hk => hk.2) (.slice Ao41 t245.length co41)) (fun _ h_ => h_.1))) (Kd.R_base ho0) hb); have n3_ := Aside0.mk (Kd.R_lower (Kd.R_new' (Kd.R_new' (Kd.R_new' ho0 (Kd.R_lt (by (with_reducible repeat (first | apply Kd.R_alloc | apply Kd.R_drewN | apply Kd.R_drew)); exact (Kd.R_mono (Kd.R_far (p := ⟨gb249, 0, none⟩) (Kd.R_types HO241.out BK249.out (by decide)) (fun _ hk => hk.2) (.slice Ao41 t245.length co41)) (fun _ h_ => h_.1))))) (Kd.R_lt (by (with_reducible repeat (first | apply Kd.R_alloc | apply Kd.R_drewN | apply Kd.R_drew)); exact (Kd.R_mono (Kd.R_far (p := ⟨gb249, 0, none⟩) (Kd.R_types HO244.out BK249.out (by decide)) (fun _ hk => hk.2) (.slice Ao41 t245.length co41)) (fun _ h_ => h_.1))))) (Kd.R_lt (by (with_reducible repeat (first | apply Kd.R_alloc | apply Kd.R_drewN | apply Kd.R_drew)); exact (Kd.R_mono (Kd.R_far (p := ⟨gb249, 0, none⟩) (Kd.R_types HO247.out BK249.out (by decide)) (fun _ hk => hk.2) (.slice Ao41 t245.length co41)) (fun _ h_ => h_.1))))) (below_size (hq3 HB GE235 GE236 GE249))); have n4_ := Aside0.mk (blk_below (g := gb235) (o := .cells #[.slice A0_0 l0_0.length c0_0] 24 (0, 0)) (bf NB235_249 BK235) hb); have n5_ := Aside0.mk (blk_below (g := gb236) (o := .cells #[.slice A1_0 l1_0.length c1_0] 24 (0, 0)) (bf NB236_249 BK236) hb); have n6_ := Aside0.mk (blk_below (g := gb249) (o := .cells #[.slice Ao41 t245.length co41] 27 (0, 0)) (by (with_reducible repeat (first | refine blk_drewN ?_ _ | refine blk_drew ?_ | refine blk_alloc ?_ _)); refine blk_put (cs := #[.slice none 0 0]) ?_ 0 _ rfl; (with_reducible repeat (first | refine blk_drewN ?_ _ | refine blk_drew ?_ | refine blk_alloc ?_ _)); exact BK249.out) hb); have n7_ := Aside0.mk (below_step (hq3 HB GE235 GE236 GE249) hb); clear HO241; clear HO244; clear HO247; clear BK235; clear BK236; clear BK249; clear HB; have HO241 := n0_; have HO244 := n1_; have HO247 := n2_; have HO252 := n3_; have BK235 := n4_; have BK236 := n5_; have BK249 := n6_; have HB := n7_; clear n0_ n1_ n2_ n3_ n4_ n5_ n6_ n7_; (try clear hb); (try clear hb2); (try clear hk); (try clear hi); (try clear ho0)) | ((with_reducible refine gate_dst (N := 8) rfl ?_); refine box_event ?hg (N := 8) ?hd (cs := #[.slice none 0 0]) (t := 27) ?hr ?_; (case hd => rfl); (case hg => rfl); (case hr => first | (go_simp; done) | (go_simp; rfl)); intro gb253 hg w46 hbox hb; have n0_ := Aside0.mk (qb HO241 hb); have n1_ := Aside0.mk (qb HO244 hb); have n2_ := Aside0.mk (qb HO247 hb); have n3_ := Aside0.mk (qb HO252 hb); have n4_ := Aside0.mk (bB BK235 hb); have n5_ := Aside0.mk (bB BK236 hb); have n6_ := Aside0.mk (bB BK249 hb); have n7_ := Aside0.mk (below_step (hq3 HB GE235 GE236 GE249) hb); have n8_ := Aside0.mk (hbox); have n9_ := Aside0.mk (ng hg (hq3 HB GE235 GE236 GE249)); have n10_ := Aside0.mk (ng hg (hq3 HB GE235 GE236 GE249)); have n11_ := Aside0.mk (nl hg BK235); have n12_ := Aside0.mk (nr hg BK235); have n13_ := Aside0.mk (nl hg BK236); have n14_ := Aside0.mk (nr hg BK236); have n15_ := Aside0.mk (nl hg BK249); have n16_ := Aside0.mk (nr hg BK249); clear HO241; clear HO244; clear HO247; clear HO252; clear BK235; clear BK236; clear BK249; clear HB; have HO241 := n0_; have HO244 := n1_; have HO247 := n2_; have HO252 := n3_; have BK235 := n4_; have BK236 := n5_; have BK249 := n6_; have HB := n7_; have BK253 := n8_; have GW253 := n9_; have GE253 := n10_; have NB235_253 := n11_; have NB253_235 := n12_; have NB236_253 := n13_; have NB253_236 := n14_; have NB249_253 := n15_; have NB253_249 := n16_; clear n0_ n1_ n2_ n3_ n4_ n5_ n6_ n7_ n8_ n9_ n10_ n11_ n12_ n13_ n14_ n15_ n16_; clear hb hbox hg; obtain ⟨Ao47, co47, eo47⟩ := Kd.R_slice HO252.out; subst eo47; have hnb48 := NB253_235.out; have hnc48 := NB235_253.out; have hnb49 := NB253_236.out; have hnc49 := NB236_253.out; have hnb50 := NB253_249.out; have hnc50 := NB249_253.out; have hcz51_0 : w46.cell? ⟨gb253, 0, none⟩ = some (.slice none 0 0) := (blk_cell BK253.out 0).trans rfl; have hfz51_0 := blk_frozen BK253.out 0; have hnb52 := NB236_249.out; have hnc52 := NB249_236.out; have hcz53_0 : w46.cell? ⟨gb236, 0, none⟩ = some (.slice A1_0 l1_0.length c1_0) := (blk_cell BK236.out 0).trans rfl; have hfz53_0 := blk_frozen BK236.out 0) | ((with_reducible refine gate_callee (f := 17) rfl ?_); refine goesL_ (some 38) rfl rfl Try.func17 (by kernel_rfl) rfl #[.agg #[.slice A1_0 l1_0.length c1_0]] rfl (by (try simp only [List.map_toArray, List.map_cons, List.map_nil]); first | done | rfl | (simp only [List.length_drop, List.length_take]; rfl)) ?_; (with_reducible refine (laws_toBig.calls k _ _ l1_0 t254 _ ?side1 ?side2 A23.out).mono ?_); (case side1 => exact Kd.C_below HR1_0.out (hq4 HB GE235 GE236 GE249 GE253)); (case side2 => exact HC1_0.out); rintro e w54 ⟨v255, rfl, ho0, hb⟩; refine ⟨_, rfl, ?_⟩; have n0_ := Aside0.mk (Kd.R_elder' (by (with_reducible repeat (first | apply Kd.R_alloc | apply Kd.R_drewN | apply Kd.R_drew)); exact (Kd.R_mono (Kd.R_far (p := ⟨gb253, 0, none⟩) (Kd.R_types HO241.out BK253.out (by decide)) (fun _ hk => hk.2) (.slice Ao47 t250.length co47)) (fun _ h_ => h_.1))) (Kd.R_base ho0) hb); have n1_ := Aside0.mk (Kd.R_elder' (by (with_reducible repeat (first | apply Kd.R_alloc | apply Kd.R_drewN | apply Kd.R_drew)); exact (Kd.R_mono (Kd.R_far (p := ⟨gb253, 0, none⟩) (Kd.R_types HO244.out BK253.out (by decide)) (fun _ hk => hk.2) (.slice Ao47 t250.length co47)) (fun _ h_ => h_.1))) (Kd.R_base ho0) hb); have n2_ := Aside0.mk (Kd.R_elder' (by (with_reducible repeat (first | apply Kd.R_alloc | apply Kd.R_drewN | apply Kd.R_drew)); exact (Kd.R_mono (Kd.R_far (p := ⟨gb253, 0, none⟩) (Kd.R_types HO247.out BK253.out (by decide)) (fun _ hk => hk.2) (.slice Ao47 t250.length co47)) (fun _ h_ => h_.1))) (Kd.R_base ho0) hb); have n3_ := Aside0.mk (Kd.R_elder' (by (with_reducible repeat (first | apply Kd.R_alloc | apply Kd.R_drewN | apply Kd.R_drew)); exact (Kd.R_mono (Kd.R_far (p := ⟨gb253, 0, none⟩) (Kd.R_types HO252.out BK253.out (by decide)) (fun _ hk => hk.2) (.slice Ao47 t250.length co47)) (fun _ h_ => h_.1))) (Kd.R_base ho0) hb); have n4_ := Aside0.mk (Kd.R_lower (Kd.R_new' (Kd.R_new' (Kd.R_new' (Kd.R_new' ho0 (Kd.R_lt (by (with_reducible repeat (first | apply Kd.R_alloc | apply Kd.R_drewN | apply Kd.R_drew)); exact (Kd.R_mono (Kd.R_far (p := ⟨gb253, 0, none⟩) (Kd.R_types HO241.out BK253.out (by decide)) (fun _ hk => hk.2) (.slice Ao47 t250.length co47)) (fun _ h_ => h_.1))))) (Kd.R_lt (by (with_reducible repeat (first | apply Kd.R_alloc | apply Kd.R_drewN | apply Kd.R_drew)); exact (Kd.R_mono (Kd.R_far (p := ⟨gb253, 0, none⟩) (Kd.R_types HO244.out BK253.out (by decide)) (fun _ hk => hk.2) (.slice Ao47 t250.length co47)) (fun _ h_ => h_.1))))) (Kd.R_lt (by (with_reducible repeat (first | apply Kd.R_alloc | apply Kd.R_drewN | apply Kd.R_drew)); exact (Kd.R_mono (Kd.R_far (p := ⟨gb253, 0, none⟩) (Kd.R_types HO247.out BK253.out (by decide)) (fun _ hk => hk.2) (.slice Ao47 t250.length co47)) (fun _ h_ => h_.1))))) (Kd.R_lt (by (with_reducible repeat (first | apply Kd.R_alloc | apply Kd.R_drewN | apply Kd.R_drew)); exact (Kd.R_mono (Kd.R_far (p := ⟨gb253, 0, none⟩) (Kd.R_types HO252.out BK253.out (by decide)) (fun _ hk => hk.2) (.slice Ao47 t250.length co47)) (fun _ h_ => h_.1))))) (below_size (hq4 HB GE235 GE236 GE249 GE253))); have n5_ := Aside0.mk (blk_below (g := gb235) (o := .cells #[.slice A0_0 l0_0.length c0_0] 24 (0, 0)) (bf NB235_253 BK235) hb); have n6_ := Aside0.mk (blk_below (g := gb236) (o := .cells #[.slice A1_0 l1_0.length c1_0] 24 (0, 0)) (bf NB236_253 BK236) hb); have n7_ := Aside0.mk (blk_below (g := gb249) (o := .cells #[.slice Ao41 t245.length co41] 27 (0, 0)) (bf NB249_253 BK249) hb); have n8_ := Aside0.mk (blk_below (g := gb253) (o := .cells #[.slice Ao47 t250.length co47] 27 (0, 0)) (by (with_reducible repeat (first | refine blk_drewN ?_ _ | refine blk_drew ?_ | refine blk_alloc ?_ _)); refine blk_put (cs := #[.slice none 0 0]) ?_ 0 _ rfl; (with_reducible repeat (first | refine blk_drewN ?_ _ | refine blk_drew ?_ | refine blk_alloc ?_ _)); exact BK253.out) hb); have n9_ := Aside0.mk (below_step (hq4 HB GE235 GE236 GE249 GE253) hb); clear HO241; clear HO244; clear HO247; clear HO252; clear BK235; clear BK236; clear BK249; clear BK253; clear HB; have HO241 := n0_; have HO244 := n1_; have HO247 := n2_; have HO252 := n3_; have HO256 := n4_; have BK235 := n5_; have BK236 := n6_; have BK249 := n7_; have BK253 := n8_; have HB := n9_; clear n0_ n1_ n2_ n3_ n4_ n5_ n6_ n7_ n8_ n9_; (try clear hb); (try clear hb2); (try clear hk); (try clear hi); (try clear ho0)) | ((with_reducible refine gate_dst (N := 9) rfl ?_); refine box_event ?hg (N := 9) ?hd (cs := #[.slice none 0 0]) (t := 27) ?hr ?_; (case hd => rfl); (case hg => rfl); (case hr => first | (go_simp; done) | (go_simp; rfl)); intro gb257 hg w55 hbox hb; have n0_ := Aside0.mk (qb HO241 hb); have n1_ := Aside0.mk (qb HO244 hb); have n2_ := Aside0.mk (qb HO247 hb); have n3_ := Aside0.mk (qb HO252 hb); have n4_ := Aside0.mk (qb HO256 hb); have n5_ := Aside0.mk (bB BK235 hb); have n6_ := Aside0.mk (bB BK236 hb); have n7_ := Aside0.mk (bB BK249 hb); have n8_ := Aside0.mk (bB BK253 hb); have n9_ := Aside0.mk (below_step (hq4 HB GE235 GE236 GE249 GE253) hb); have n10_ := Aside0.mk (hbox); have n11_ := Aside0.mk (ng hg (hq4 HB GE235 GE236 GE249 GE253)); have n12_ := Aside0.mk (ng hg (hq4 HB GE235 GE236 GE249 GE253)); have n13_ := Aside0.mk (nl hg BK235); have n14_ := Aside0.mk (nr hg BK235); have n15_ := Aside0.mk (nl hg BK236); have n16_ := Aside0.mk (nr hg BK236); have n17_ := Aside0.mk (nl hg BK249); have n18_ := Aside0.mk (nr hg BK249); have n19_ := Aside0.mk (nl hg BK253); have n20_ := Aside0.mk (nr hg BK253); clear HO241; clear HO244; clear HO247; clear HO252; clear HO256; clear BK235; clear BK236; clear BK249; clear BK253; clear HB; have HO241 := n0_; have HO244 := n1_; have HO247 := n2_; have HO252 := n3_; have HO256 := n4_; have BK235 := n5_; have BK236 := n6_; have BK249 := n7_; have BK253 := n8_; have HB := n9_; have BK257 := n10_; have GW257 := n11_; have GE257 := n12_; have NB235_257 := n13_; have NB257_235 := n14_; have NB236_257 := n15_; have NB257_236 := n16_; have NB249_257 := n17_; have NB257_249 := n18_; have NB253_257 := n19_; have NB257_253 := n20_; clear n0_ n1_ n2_ n3_ n4_ n5_ n6_ n7_ n8_ n9_ n10_ n11_ n12_ n13_ n14_ n15_ n16_ n17_ n18_ n19_ n20_; clear hb hbox hg; obtain ⟨Ao56, co56, eo56⟩ := Kd.R_slice HO256.out; subst eo56; have hnb57 := NB257_235.out; have hnc57 := NB235_257.out; have hnb58 := NB257_236.out; have hnc58 := NB236_257.out; have hnb59 := NB257_249.out; have hnc59 := NB249_257.out; have hnb60 := NB257_253.out; have hnc60 := NB253_257.out; have hcz61_0 : w55.cell? ⟨gb257, 0, none⟩ = some (.slice none 0 0) := (blk_cell BK257.out 0).trans rfl; have hfz61_0 := blk_frozen BK257.out 0) | ((with_reducible refine gate_store (t := 27) (p := 9) rfl ?_); refine store_event (t := 27) (p := 9) (v := ?vo_w62) (w1 := (w55.setCell ⟨gb257, 0, none⟩ (.slice Ao56 t254.length co56))) ?hg ?ho ?hn ?hr ?_; (case ho => rfl); (case hg => rfl); (case hn => rfl); (case hr => first | (go_simp; done) | (go_simp; rfl)); intro w62 hw; have n0_ : Aside0 (Kd.R (Kd.int .i64) 3 w62 w.heap.size (fun k_ => some k_ ≠ (v243 : Value).ownBlock ∧ some k_ ≠ (.slice Ao41 t245.length co41 : Value).ownBlock ∧ some k_ ≠ (.slice Ao47 t250.length co47 : Value).ownBlock ∧ some k_ ≠ (.slice Ao56 t254.length co56 : Value).ownBlock) v240 t239) := ⟨(by rw [hw]; exact (by (with_reducible repeat (first | apply Kd.R_alloc | apply Kd.R_drewN | apply Kd.R_drew)); exact Kd.R_mono (Kd.R_far (p := ⟨gb257, 0, none⟩) (Kd.R_types HO241.out BK257.out (by decide)) (fun _ hk => hk.2) (.slice Ao56 t254.length co56)) (fun _ hk => ⟨hk.1.1.1.1, ⟨hk.1.1.1.2, ⟨hk.1.1.2, hk.1.2⟩⟩⟩)))⟩; have n1_ : Aside0 (Kd.R (Kd.int .i64) 3 w62 w.heap.size (fun k_ => some k_ ≠ (v240 : Value).ownBlock ∧ some k_ ≠ (.slice Ao41 t245.length co41 : Value).ownBlock ∧ some k_ ≠ (.slice Ao47 t250.length co47 : Value).ownBlock ∧ some k_ ≠ (.slice Ao56 t254.length co56 : Value).ownBlock) v243 t242) := ⟨(by rw [hw]; exact (by (with_reducible repeat (first | apply Kd.R_alloc | apply Kd.R_drewN | apply Kd.R_drew)); exact Kd.R_mono (Kd.R_far (p := ⟨gb257, 0, none⟩) (Kd.R_types HO244.out BK257.out (by decide)) (fun _ hk => hk.2) (.slice Ao56 t254.length co56)) (fun _ hk => ⟨hk.1.1.1.1, ⟨hk.1.1.1.2, ⟨hk.1.1.2, hk.1.2⟩⟩⟩)))⟩; have n2_ : Aside0 (Kd.R (Kd.int .i64) 3 w62 w.heap.size (fun k_ => some k_ ≠ (v240 : Value).ownBlock ∧ some k_ ≠ (v243 : Value).ownBlock ∧ some k_ ≠ (.slice Ao47 t250.length co47 : Value).ownBlock ∧ some k_ ≠ (.slice Ao56 t254.length co56 : Value).ownBlock) (.slice Ao41 t245.length co41) t245) := ⟨(by rw [hw]; exact (by (with_reducible repeat (first | apply Kd.R_alloc | apply Kd.R_drewN | apply Kd.R_drew)); exact Kd.R_mono (Kd.R_far (p := ⟨gb257, 0, none⟩) (Kd.R_types HO247.out BK257.out (by decide)) (fun _ hk => hk.2) (.slice Ao56 t254.length co56)) (fun _ hk => ⟨hk.1.1.1.1, ⟨hk.1.1.1.2, ⟨hk.1.1.2, hk.1.2⟩⟩⟩)))⟩; have n3_ : Aside0 (Kd.R (Kd.int .i64) 3 w62 w.heap.size (fun k_ => some k_ ≠ (v240 : Value).ownBlock ∧ some k_ ≠ (v243 : Value).ownBlock ∧ some k_ ≠ (.slice Ao41 t245.length co41 : Value).ownBlock ∧ some k_ ≠ (.slice Ao56 t254.length co56 : Value).ownBlock) (.slice Ao47 t250.length co47) t250) := ⟨(by rw [hw]; exact (by (with_reducible repeat (first | apply Kd.R_alloc | apply Kd.R_drewN | apply Kd.R_drew)); exact Kd.R_mono (Kd.R_far (p := ⟨gb257, 0, none⟩) (Kd.R_types HO252.out BK257.out (by decide)) (fun _ hk => hk.2) (.slice Ao56 t254.length co56)) (fun _ hk => ⟨hk.1.1.1.1.2, ⟨hk.1.1.1.2, ⟨hk.1.1.2, hk.1.2⟩⟩⟩)))⟩; have n4_ : Aside0 (Kd.R (Kd.int .i64) 3 w62 w.heap.size (fun k_ => some k_ ≠ (v240 : Value).ownBlock ∧ some k_ ≠ (v243 : Value).ownBlock ∧ some k_ ≠ (.slice Ao41 t245.length co41 : Value).ownBlock ∧ some k_ ≠ (.slice Ao47 t250.length co47 : Value).ownBlock) (.slice Ao56 t254.length co56) t254) := ⟨(by rw [hw]; exact (by (with_reducible repeat (first | apply Kd.R_alloc | apply Kd.R_drewN | apply Kd.R_drew)); exact Kd.R_mono (Kd.R_far (p := ⟨gb257, 0, none⟩) (Kd.R_types HO256.out BK257.out (by decide)) (fun _ hk => hk.2) (.slice Ao56 t254.length co56)) (fun _ hk => ⟨hk.1.1.1.1.2, ⟨hk.1.1.1.2, ⟨hk.1.1.2, hk.1.2⟩⟩⟩)))⟩; have n5_ : Aside0 (w62.heap[gb235]? = some (.cells #[.slice A0_0 l0_0.length c0_0] 24 (0, 0))) := ⟨(by rw [hw]; exact (bf NB235_257 BK235))⟩; have n6_ : Aside0 (w62.heap[gb236]? = some (.cells #[.slice A1_0 l1_0.length c1_0] 24 (0, 0))) := ⟨(by rw [hw]; exact (bf NB236_257 BK236))⟩; have n7_ : Aside0 (w62.heap[gb249]? = some (.cells #[.slice Ao41 t245.length co41] 27 (0, 0))) := ⟨(by rw [hw]; exact (bf NB249_257 BK249))⟩; have n8_ : Aside0 (w62.heap[gb253]? = some (.cells #[.slice Ao47 t250.length co47] 27 (0, 0))) := ⟨(by rw [hw]; exact (bf NB253_257 BK253))⟩; have n9_ : Aside0 (w62.heap[gb257]? = some (.cells #[.slice Ao56 t254.length co56] 27 (0, 0))) := ⟨(by rw [hw]; exact (by (with_reducible repeat (first | refine blk_drewN ?_ _ | refine blk_drew ?_ | refine blk_alloc ?_ _)); refine blk_put (cs := #[.slice none 0 0]) ?_ 0 _ rfl; (with_reducible repeat (first | refine blk_drewN ?_ _ | refine blk_drew ?_ | refine blk_alloc ?_ _)); exact BK257.out))⟩; have n10_ : Aside0 (Below w.heap.size w w62) := ⟨(by rw [hw]; exact (hq5 HB GE235 GE236 GE249 GE253 GE257))⟩; clear hw; clear HO241; clear HO244; clear HO247; clear HO252; clear HO256; clear BK235; clear BK236; clear BK249; clear BK253; clear BK257; clear HB; have HO241 := n0_; have HO244 := n1_; have HO247 := n2_; have HO252 := n3_; have HO256 := n4_; have BK235 := n5_; have BK236 := n6_; have BK249 := n7_; have BK253 := n8_; have BK257 := n9_; have HB := n10_; clear n0_ n1_ n2_ n3_ n4_ n5_ n6_ n7_ n8_ n9_ n10_; have hcz63_0 : w62.cell? ⟨gb253, 0, none⟩ = some (.slice Ao47 t250.length co47) := (blk_cell BK253.out 0).trans rfl; have hfz63_0 := blk_frozen BK253.out 0; have hcz64_0 : w62.cell? ⟨gb257, 0, none⟩ = some (.slice Ao56 t254.length co56) := (blk_cell BK257.out 0).trans rfl; have hfz64_0 := blk_frozen BK257.out 0) | ((with_reducible refine gate_callee (f := 27) rfl ?_); refine goesL_ (some 42) rfl rfl Try.func27 (by kernel_rfl) rfl #[.agg #[.slice Ao47 t250.length co47], .agg #[.slice Ao56 t254.length co56]] rfl (by (try simp only [List.map_toArray, List.map_cons, List.map_nil]); first | done | rfl | (simp only [List.length_drop, List.length_take]; rfl)) ?_; (with_reducible refine (impl_LessBig.calls k (fun k_ => some k_ = (.slice Ao47 t250.length co47 : Value).ownBlock) _ _ t250 (fun k_ => some k_ = (.slice Ao56 t254.length co56 : Value).ownBlock) _ _ t254 t258 t261 _ ?side1 ?side2 A24.out).mono ?_); (case side1 => exact Kd.R_V (Kd.R_tight rfl (Kd.R_types (Kd.R_types (Kd.R_types (Kd.R_types (Kd.R_types (HO252.out) BK235.out (by decide)) BK236.out (by decide)) BK249.out (by decide)) BK253.out (by decide)) BK257.out (by decide)))); (case side2 => exact Kd.R_V (Kd.R_tight rfl (Kd.R_types (Kd.R_types (Kd.R_types (Kd.R_types (Kd.R_types (HO256.out) BK235.out (by decide)) BK236.out (by decide)) BK249.out (by decide)) BK253.out (by decide)) BK257.out (by decide)))); rintro e w65 ⟨v259, rfl, ho0, hb⟩; refine ⟨_, rfl, ?_⟩; have n0_ := Aside0.mk (qe HO241 ho0 hb); have n1_ := Aside0.mk (qe HO244 ho0 hb); have n2_ := Aside0.mk (qe HO247 ho0 hb); have n3_ := Aside0.mk (qe HO252 ho0 hb); have n4_ := Aside0.mk (qe HO256 ho0 hb); have n5_ := Aside0.mk (Kd.R_lower (Kd.R_new' (Kd.R_new' (Kd.R_new' (Kd.R_new' (Kd.R_new' (Kd.R_mono (ok' := fun k_ => True) ho0 (fun _ hk_ => trivial)) (ql HO241)) (ql HO244)) (ql HO247)) (ql HO252)) (ql HO256)) (below_size (hq5 HB GE235 GE236 GE249 GE253 GE257))); have n6_ := Aside0.mk (bB BK235 hb); have n7_ := Aside0.mk (bB BK236 hb); have n8_ := Aside0.mk (bB BK249 hb); have n9_ := Aside0.mk (bB BK253 hb); have n10_ := Aside0.mk (bB BK257 hb); have n11_ := Aside0.mk (below_step (hq5 HB GE235 GE236 GE249 GE253 GE257) hb); clear HO241; clear HO244; clear HO247; clear HO252; clear HO256; clear BK235; clear BK236; clear BK249; clear BK253; clear BK257; clear HB; have HO241 := n0_; have HO244 := n1_; have HO247 := n2_; have HO252 := n3_; have HO256 := n4_; have HO260 := n5_; have BK235 := n6_; have BK236 := n7_; have BK249 := n8_; have BK253 := n9_; have BK257 := n10_; have HB := n11_; clear n0_ n1_ n2_ n3_ n4_ n5_ n6_ n7_ n8_ n9_ n10_ n11_; (try clear hb); (try clear hb2); (try clear hk); (try clear hi); (try clear ho0)) | ((with_reducible refine gate_dst (N := 10) rfl ?_); refine box_event ?hg (N := 10) ?hd (cs := #[.slice none 0 0]) (t := 27) ?hr ?_; (case hd => rfl); (case hg => rfl); (case hr => first | (go_simp; done) | (go_simp; rfl)); intro gb262 hg w66 hbox hb; have n0_ := Aside0.mk (qb HO241 hb); have n1_ := Aside0.mk (qb HO244 hb); have n2_ := Aside0.mk (qb HO247 hb); have n3_ := Aside0.mk (qb HO252 hb); have n4_ := Aside0.mk (qb HO256 hb); have n5_ := Aside0.mk (qb HO260 hb); have n6_ := Aside0.mk (bB BK235 hb); have n7_ := Aside0.mk (bB BK236 hb); have n8_ := Aside0.mk (bB BK249 hb); have n9_ := Aside0.mk (bB BK253 hb); have n10_ := Aside0.mk (bB BK257 hb); have n11_ := Aside0.mk (below_step (hq5 HB GE235 GE236 GE249 GE253 GE257) hb); have n12_ := Aside0.mk (hbox); have n13_ := Aside0.mk (ng hg (hq5 HB GE235 GE236 GE249 GE253 GE257)); have n14_ := Aside0.mk (ng hg (hq5 HB GE235 GE236 GE249 GE253 GE257)); have n15_ := Aside0.mk (nl hg BK235); have n16_ := Aside0.mk (nr hg BK235); have n17_ := Aside0.mk (nl hg BK236); have n18_ := Aside0.mk (nr hg BK236); have n19_ := Aside0.mk (nl hg BK249); have n20_ := Aside0.mk (nr hg BK249); have n21_ := Aside0.mk (nl hg BK253); have n22_ := Aside0.mk (nr hg BK253); have n23_ := Aside0.mk (nl hg BK257); have n24_ := Aside0.mk (nr hg BK257); clear HO241; clear HO244; clear HO247; clear HO252; clear HO256; clear HO260; clear BK235; clear BK236; clear BK249; clear BK253; clear BK257; clear HB; have HO241 := n0_; have HO244 := n1_; have HO247 := n2_; have HO252 := n3_; have HO256 := n4_; have HO260 := n5_; have BK235 := n6_; have BK236 := n7_; have BK249 := n8_; have BK253 := n9_; have BK257 := n10_; have HB := n11_; have BK262 := n12_; have GW262 := n13_; have GE262 := n14_; have NB235_262 := n15_; have NB262_235 := n16_; have NB236_262 := n17_; have NB262_236 := n18_; have NB249_262 := n19_; have NB262_249 := n20_; have NB253_262 := n21_; have NB262_253 := n22_; have NB257_262 := n23_; have NB262_257 := n24_; clear n0_ n1_ n2_ n3_ n4_ n5_ n6_ n7_ n8_ n9_ n10_ n11_ n12_ n13_ n14_ n15_ n16_ n17_ n18_ n19_ n20_ n21_ n22_ n23_ n24_; clear hb hbox hg; obtain ⟨Ao67, co67, eo67⟩ := Kd.R_slice HO260.out; subst eo67; have hnb68 := NB262_235.out; have hnc68 := NB235_262.out; have hnb69 := NB262_236.out; have hnc69 := NB236_262.out; have hnb70 := NB262_249.out; have hnc70 := NB249_262.out; have hnb71 := NB262_253.out; have hnc71 := NB253_262.out; have hnb72 := NB262_257.out; have hnc72 := NB257_262.out; have hcz73_0 : w66.cell? ⟨gb262, 0, none⟩ = some (.slice none 0 0) := (blk_cell BK262.out 0).trans rfl; have hfz73_0 := blk_frozen BK262.out 0))
 (try simp only [Act.put, List.setIfInBounds_toArray, List.set_cons_zero, List.set_cons_succ])
 go_cut [53] (fun v53 wc => ∃ (kq : Nat) (x53_24 : Bool), v53 = .bool x53_24 ∧ Aside0 (laws_FnExactLessBig.j0 kq t248 t261 x53_24 l0_0 l1_0 t245 t250 t254 t258 = some true) ∧ Aside0 (kq ≤ k) ∧ Aside0 (Kd.R (Kd.int .i64) 3 wc w.heap.size (fun k_ => some k_ ≠ ((.slice Ao47 t250.length co47) : Value).ownBlock ∧ some k_ ≠ ((.slice Ao56 t254.length co56) : Value).ownBlock ∧ some k_ ≠ ((.slice Ao67 t258.length co67) : Value).ownBlock) (.slice Ao41 t245.length co41) t245) ∧ Aside0 (Kd.R (Kd.int .i64) 3 wc w.heap.size (fun k_ => some k_ ≠ ((.slice Ao41 t245.length co41) : Value).ownBlock ∧ some k_ ≠ ((.slice Ao56 t254.length co56) : Value).ownBlock ∧ some k_ ≠ ((.slice Ao67 t258.length co67) : Value).ownBlock) (.slice Ao47 t250.length co47) t250) ∧ Aside0 (Kd.R (Kd.int .i64) 3 wc w.heap.size (fun k_ => some k_ ≠ ((.slice Ao41 t245.length co41) : Value).ownBlock ∧ some k_ ≠ ((.slice Ao47 t250.length co47) : Value).ownBlock ∧ some k_ ≠ ((.slice Ao67 t258.length co67) : Value).ownBlock) (.slice Ao56 t254.length co56) t254) ∧ Aside0 (Kd.R (Kd.int .i64) 3 wc w.heap.size (fun k_ => some k_ ≠ ((.slice Ao41 t245.length co41) : Value).ownBlock ∧ some k_ ≠ ((.slice Ao47 t250.length co47) : Value).ownBlock ∧ some k_ ≠ ((.slice Ao56 t254.length co56) : Value).ownBlock) (.slice Ao67 t258.length co67) t258) ∧ Aside0 (wc.heap[gb235]? = some (.cells #[(.slice A0_0 l0_0.length c0_0)] 24 (0, 0))) ∧ Aside0 (wc.heap[gb236]? = some (.cells #[(.slice A1_0 l1_0.length c1_0)] 24 (0, 0))) ∧ Aside0 (wc.heap[gb249]? = some (.cells #[(.slice Ao41 t245.length co41)] 27 (0, 0))) ∧ Aside0 (wc.heap[gb253]? = some (.cells #[(.slice Ao47 t250.length co47)] 27 (0, 0))) ∧ Aside0 (wc.heap[gb257]? = some (.cells #[(.slice Ao56 t254.length co56)] 27 (0, 0))) ∧ Aside0 (wc.heap[gb262]? = some (.cells #[(.slice Ao67 t258.length co67)] 27 (0, 0))) ∧ Aside0 (Below w.heap.size w wc))
 case first =>
   have H := HC25.out
   clear HC25
   replace H := Option.bind_eq_some_iff.mp H
   obtain ⟨t263, A740, H⟩ := H
   replace H : (if t263 = true then (laws_FnExactLessBig.j0 k t248 t261 (t261 != t248) l0_0 l1_0 t245 t250 t254 t258) else (laws_FnExactLessBig.j0 k t248 t261 true l0_0 l1_0 t245 t250 t254 t258)) = some true := H
   have A74 := Aside0.mk A740
   clear A740
   by_cases c75 : t263 = true
   · subst c75
     have H1 : (laws_FnExactLessBig.j0 k t248 t261 (t261 != t248) l0_0 l1_0 t245 t250 t254 t258) = some true := by rw [if_pos rfl] at H; exact H
     clear H
     have H := H1
     clear H1
     have H' := Aside0.mk H
     clear H
     have hnb76 := NB262_235.out
     have hnc76 := NB235_262.out
     have hnb77 := NB262_236.out
     have hnc77 := NB236_262.out
     have hnb78 := NB262_249.out
     have hnc78 := NB249_262.out
     have hnb79 := NB262_253.out
     have hnc79 := NB253_262.out
     have hnb80 := NB262_257.out
     have hnc80 := NB257_262.out
     have hcz81_0 : w66.cell? ⟨gb262, 0, none⟩ = some (.slice none 0 0) := (blk_cell BK262.out 0).trans rfl
     have hfz81_0 := blk_frozen BK262.out 0
     have hnb82 := NB249_235.out
     have hnc82 := NB235_249.out
     have hnb83 := NB249_236.out
     have hnc83 := NB236_249.out
     have hnb84 := NB249_253.out
     have hnc84 := NB253_249.out
     have hnb85 := NB249_257.out
     have hnc85 := NB257_249.out
     have hcz86_0 : w66.cell? ⟨gb249, 0, none⟩ = some (.slice Ao41 t245.length co41) := (blk_cell BK249.out 0).trans rfl
     have hfz86_0 := blk_frozen BK249.out 0
     go_wp2_with (first | ((with_reducible refine gate_callee (f := 19) rfl ?_); refine goesL_ (some 47) rfl rfl Try.func19 (by kernel_rfl) rfl #[.agg #[.slice Ao67 t258.length co67], .agg #[.slice Ao41 t245.length co41]] rfl (by (try simp only [List.map_toArray, List.map_cons, List.map_nil]); first | done | rfl | (simp only [List.length_drop, List.length_take]; rfl)) ?_; (with_reducible refine (laws_eqBig.calls k _ _ t258 _ _ t245 true _ ?side1 ?side2 ?side3 ?side4 A74.out).mono ?_); (case side1 => refine (Kd.R_reads' (e := 3) (base := w.heap.size) (ok := fun k_ => (((((True ∧ some k_ ≠ (v240 : Value).ownBlock) ∧ some k_ ≠ (v243 : Value).ownBlock) ∧ some k_ ≠ (.slice Ao41 t245.length co41 : Value).ownBlock) ∧ some k_ ≠ (.slice Ao47 t250.length co47 : Value).ownBlock) ∧ some k_ ≠ (.slice Ao56 t254.length co56 : Value).ownBlock)) (n := t258.length) (c := co67) ?_).2.2; exact (by (with_reducible repeat (first | apply Kd.R_alloc | apply Kd.R_drewN | apply Kd.R_drew)); exact (Kd.R_mono (Kd.R_far (p := ⟨gb262, 0, none⟩) (Kd.R_types HO260.out BK262.out (by decide)) (fun _ hk => hk.2) (.slice Ao67 t258.length co67)) (fun _ h_ => h_.1)))); (case side2 => exact (Kd.R_reads' HO260.out).2.1); (case side3 => refine (Kd.R_reads' (e := 3) (base := w.heap.size) (ok := fun k_ => ((some k_ ≠ (v240 : Value).ownBlock ∧ (some k_ ≠ (v243 : Value).ownBlock ∧ (some k_ ≠ (.slice Ao47 t250.length co47 : Value).ownBlock ∧ some k_ ≠ (.slice Ao56 t254.length co56 : Value).ownBlock))) ∧ some k_ ≠ (.slice Ao67 t258.length co67 : Value).ownBlock)) (n := t245.length) (c := co41) ?_).2.2; exact (by (with_reducible repeat (first | apply Kd.R_alloc | apply Kd.R_drewN | apply Kd.R_drew)); exact (Kd.R_mono (Kd.R_far (p := ⟨gb262, 0, none⟩) (Kd.R_types HO247.out BK262.out (by decide)) (fun _ hk => hk.2) (.slice Ao67 t258.length co67)) (fun _ h_ => h_.1)))); (case side4 => exact (Kd.R_reads' HO247.out).2.1); rintro e w87 ⟨rfl, hb⟩; refine ⟨_, rfl, ?_⟩; have n0_ := Aside0.mk (Kd.R_below (by (with_reducible repeat (first | apply Kd.R_alloc | apply Kd.R_drewN | apply Kd.R_drew)); exact (Kd.R_mono (Kd.R_far (p := ⟨gb262, 0, none⟩) (Kd.R_types HO241.out BK262.out (by decide)) (fun _ hk => hk.2) (.slice Ao67 t258.length co67)) (fun _ h_ => h_.1))) hb); have n1_ := Aside0.mk (Kd.R_below (by (with_reducible repeat (first | apply Kd.R_alloc | apply Kd.R_drewN | apply Kd.R_drew)); exact (Kd.R_mono (Kd.R_far (p := ⟨gb262, 0, none⟩) (Kd.R_types HO244.out BK262.out (by decide)) (fun _ hk => hk.2) (.slice Ao67 t258.length co67)) (fun _ h_ => h_.1))) hb); have n2_ := Aside0.mk (Kd.R_below (by (with_reducible repeat (first | apply Kd.R_alloc | apply Kd.R_drewN | apply Kd.R_drew)); exact (Kd.R_mono (Kd.R_far (p := ⟨gb262, 0, none⟩) (Kd.R_types HO247.out BK262.out (by decide)) (fun _ hk => hk.2) (.slice Ao67 t258.length co67)) (fun _ h_ => h_.1))) hb); have n3_ := Aside0.mk (Kd.R_below (by (with_reducible repeat (first | apply Kd.R_alloc | apply Kd.R_drewN | apply Kd.R_drew)); exact (Kd.R_mono (Kd.R_far (p := ⟨gb262, 0, none⟩) (Kd.R_types HO252.out BK262.out (by decide)) (fun _ hk => hk.2) (.slice Ao67 t258.length co67)) (fun _ h_ => h_.1))) hb); have n4_ := Aside0.mk (Kd.R_below (by (with_reducible repeat (first | apply Kd.R_alloc | apply Kd.R_drewN | apply Kd.R_drew)); exact (Kd.R_mono (Kd.R_far (p := ⟨gb262, 0, none⟩) (Kd.R_types HO256.out BK262.out (by decide)) (fun _ hk => hk.2) (.slice Ao67 t258.length co67)) (fun _ h_ => h_.1))) hb); have n5_ := Aside0.mk (Kd.R_below (by (with_reducible repeat (first | apply Kd.R_alloc | apply Kd.R_drewN | apply Kd.R_drew)); exact (Kd.R_mono (Kd.R_far (p := ⟨gb262, 0, none⟩) (Kd.R_types HO260.out BK262.out (by decide)) (fun _ hk => hk.2) (.slice Ao67 t258.length co67)) (fun _ h_ => h_.1))) hb); have n6_ := Aside0.mk (blk_below (g := gb235) (o := .cells #[.slice A0_0 l0_0.length c0_0] 24 (0, 0)) (bf NB235_262 BK235) hb); have n7_ := Aside0.mk (blk_below (g := gb236) (o := .cells #[.slice A1_0 l1_0.length c1_0] 24 (0, 0)) (bf NB236_262 BK236) hb); have n8_ := Aside0.mk (blk_below (g := gb249) (o := .cells #[.slice Ao41 t245.length co41] 27 (0, 0)) (bf NB249_262 BK249) hb); have n9_ := Aside0.mk (blk_below (g := gb253) (o := .cells #[.slice Ao47 t250.length co47] 27 (0, 0)) (bf NB253_262 BK253) hb); have n10_ := Aside0.mk (blk_below (g := gb257) (o := .cells #[.slice Ao56 t254.length co56] 27 (0, 0)) (bf NB257_262 BK257) hb); have n11_ := Aside0.mk (blk_below (g := gb262) (o := .cells #[.slice Ao67 t258.length co67] 27 (0, 0)) (by (with_reducible repeat (first | refine blk_drewN ?_ _ | refine blk_drew ?_ | refine blk_alloc ?_ _)); refine blk_put (cs := #[.slice none 0 0]) ?_ 0 _ rfl; (with_reducible repeat (first | refine blk_drewN ?_ _ | refine blk_drew ?_ | refine blk_alloc ?_ _)); exact BK262.out) hb); have n12_ := Aside0.mk (below_step (hq6 HB GE235 GE236 GE249 GE253 GE257 GE262) hb); clear HO241; clear HO244; clear HO247; clear HO252; clear HO256; clear HO260; clear BK235; clear BK236; clear BK249; clear BK253; clear BK257; clear BK262; clear HB; have HO241 := n0_; have HO244 := n1_; have HO247 := n2_; have HO252 := n3_; have HO256 := n4_; have HO260 := n5_; have BK235 := n6_; have BK236 := n7_; have BK249 := n8_; have BK253 := n9_; have BK257 := n10_; have BK262 := n11_; have HB := n12_; clear n0_ n1_ n2_ n3_ n4_ n5_ n6_ n7_ n8_ n9_ n10_ n11_ n12_; (try clear hb); (try clear hb2); (try clear hk); (try clear hi)))
     go_meet
     case rel => exact ⟨_, ((t261 != t248)), (by first | rfl | (simp; done) | (simp [*]; done)), H', ⟨by first | omega | exact Nat.le_refl _⟩, ⟨by (with_reducible repeat (first | apply Kd.R_alloc | apply Kd.R_drewN | apply Kd.R_drew)); exact Kd.R_mono HO247.out (fun _ hk => ⟨hk.1.2.2.1, ⟨hk.1.2.2.2, hk.2⟩⟩)⟩, ⟨by (with_reducible repeat (first | apply Kd.R_alloc | apply Kd.R_drewN | apply Kd.R_drew)); exact Kd.R_mono HO252.out (fun _ hk => ⟨hk.1.2.2.1, ⟨hk.1.2.2.2, hk.2⟩⟩)⟩, ⟨by (with_reducible repeat (first | apply Kd.R_alloc | apply Kd.R_drewN | apply Kd.R_drew)); exact Kd.R_mono HO256.out (fun _ hk => ⟨hk.1.2.2.1, ⟨hk.1.2.2.2, hk.2⟩⟩)⟩, ⟨by (with_reducible repeat (first | apply Kd.R_alloc | apply Kd.R_drewN | apply Kd.R_drew)); exact Kd.R_mono HO260.out (fun _ hk => ⟨hk.1.1.2, ⟨hk.1.2, hk.2⟩⟩)⟩, ⟨by (with_reducible repeat (first | refine blk_drewN ?_ _ | refine blk_drew ?_ | refine blk_alloc ?_ _)); exact BK235.out⟩, ⟨by (with_reducible repeat (first | refine blk_drewN ?_ _ | refine blk_drew ?_ | refine blk_alloc ?_ _)); exact BK236.out⟩, ⟨by (with_reducible repeat (first | refine blk_drewN ?_ _ | refine blk_drew ?_ | refine blk_alloc ?_ _)); exact BK249.out⟩, ⟨by (with_reducible repeat (first | refine blk_drewN ?_ _ | refine blk_drew ?_ | refine blk_alloc ?_ _)); exact BK253.out⟩, ⟨by (with_reducible repeat (first | refine blk_drewN ?_ _ | refine blk_drew ?_ | refine blk_alloc ?_ _)); exact BK257.out⟩, ⟨by (with_reducible repeat (first | refine blk_drewN ?_ _ | refine blk_drew ?_ | refine blk_alloc ?_ _)); exact BK262.out⟩, ⟨hq6 HB GE235 GE236 GE249 GE253 GE257 GE262⟩⟩
   replace c75 := Bool.eq_false_iff.mpr c75
   subst c75
   have H1 : (laws_FnExactLessBig.j0 k t248 t261 true l0_0 l1_0 t245 t250 t254 t258) = some true := by rw [if_neg (show ¬ (false = true) by decide)] at H; exact H
   clear H
   have H := H1
   clear H1
   have H' := Aside0.mk H
   clear H
   have hnb88 := NB262_235.out
   have hnc88 := NB235_262.out
   have hnb89 := NB262_236.out
   have hnc89 := NB236_262.out
   have hnb90 := NB262_249.out
   have hnc90 := NB249_262.out
   have hnb91 := NB262_253.out
   have hnc91 := NB253_262.out
   have hnb92 := NB262_257.out
   have hnc92 := NB257_262.out
   have hcz93_0 : w66.cell? ⟨gb262, 0, none⟩ = some (.slice none 0 0) := (blk_cell BK262.out 0).trans rfl
   have hfz93_0 := blk_frozen BK262.out 0
   have hnb94 := NB249_235.out
   have hnc94 := NB235_249.out
   have hnb95 := NB249_236.out
   have hnc95 := NB236_249.out
   have hnb96 := NB249_253.out
   have hnc96 := NB253_249.out
   have hnb97 := NB249_257.out
   have hnc97 := NB257_249.out
   have hcz98_0 : w66.cell? ⟨gb249, 0, none⟩ = some (.slice Ao41 t245.length co41) := (blk_cell BK249.out 0).trans rfl
   have hfz98_0 := blk_frozen BK249.out 0
   go_wp2_with (first | ((with_reducible refine gate_callee (f := 19) rfl ?_); refine goesL_ (some 47) rfl rfl Try.func19 (by kernel_rfl) rfl #[.agg #[.slice Ao67 t258.length co67], .agg #[.slice Ao41 t245.length co41]] rfl (by (try simp only [List.map_toArray, List.map_cons, List.map_nil]); first | done | rfl | (simp only [List.length_drop, List.length_take]; rfl)) ?_; (with_reducible refine (laws_eqBig.calls k _ _ t258 _ _ t245 false _ ?side1 ?side2 ?side3 ?side4 A74.out).mono ?_); (case side1 => refine (Kd.R_reads' (e := 3) (base := w.heap.size) (ok := fun k_ => (((((True ∧ some k_ ≠ (v240 : Value).ownBlock) ∧ some k_ ≠ (v243 : Value).ownBlock) ∧ some k_ ≠ (.slice Ao41 t245.length co41 : Value).ownBlock) ∧ some k_ ≠ (.slice Ao47 t250.length co47 : Value).ownBlock) ∧ some k_ ≠ (.slice Ao56 t254.length co56 : Value).ownBlock)) (n := t258.length) (c := co67) ?_).2.2; exact (by (with_reducible repeat (first | apply Kd.R_alloc | apply Kd.R_drewN | apply Kd.R_drew)); exact (Kd.R_mono (Kd.R_far (p := ⟨gb262, 0, none⟩) (Kd.R_types HO260.out BK262.out (by decide)) (fun _ hk => hk.2) (.slice Ao67 t258.length co67)) (fun _ h_ => h_.1)))); (case side2 => exact (Kd.R_reads' HO260.out).2.1); (case side3 => refine (Kd.R_reads' (e := 3) (base := w.heap.size) (ok := fun k_ => ((some k_ ≠ (v240 : Value).ownBlock ∧ (some k_ ≠ (v243 : Value).ownBlock ∧ (some k_ ≠ (.slice Ao47 t250.length co47 : Value).ownBlock ∧ some k_ ≠ (.slice Ao56 t254.length co56 : Value).ownBlock))) ∧ some k_ ≠ (.slice Ao67 t258.length co67 : Value).ownBlock)) (n := t245.length) (c := co41) ?_).2.2; exact (by (with_reducible repeat (first | apply Kd.R_alloc | apply Kd.R_drewN | apply Kd.R_drew)); exact (Kd.R_mono (Kd.R_far (p := ⟨gb262, 0, none⟩) (Kd.R_types HO247.out BK262.out (by decide)) (fun _ hk => hk.2) (.slice Ao67 t258.length co67)) (fun _ h_ => h_.1)))); (case side4 => exact (Kd.R_reads' HO247.out).2.1); rintro e w99 ⟨rfl, hb⟩; refine ⟨_, rfl, ?_⟩; have n0_ := Aside0.mk (Kd.R_below (by (with_reducible repeat (first | apply Kd.R_alloc | apply Kd.R_drewN | apply Kd.R_drew)); exact (Kd.R_mono (Kd.R_far (p := ⟨gb262, 0, none⟩) (Kd.R_types HO241.out BK262.out (by decide)) (fun _ hk => hk.2) (.slice Ao67 t258.length co67)) (fun _ h_ => h_.1))) hb); have n1_ := Aside0.mk (Kd.R_below (by (with_reducible repeat (first | apply Kd.R_alloc | apply Kd.R_drewN | apply Kd.R_drew)); exact (Kd.R_mono (Kd.R_far (p := ⟨gb262, 0, none⟩) (Kd.R_types HO244.out BK262.out (by decide)) (fun _ hk => hk.2) (.slice Ao67 t258.length co67)) (fun _ h_ => h_.1))) hb); have n2_ := Aside0.mk (Kd.R_below (by (with_reducible repeat (first | apply Kd.R_alloc | apply Kd.R_drewN | apply Kd.R_drew)); exact (Kd.R_mono (Kd.R_far (p := ⟨gb262, 0, none⟩) (Kd.R_types HO247.out BK262.out (by decide)) (fun _ hk => hk.2) (.slice Ao67 t258.length co67)) (fun _ h_ => h_.1))) hb); have n3_ := Aside0.mk (Kd.R_below (by (with_reducible repeat (first | apply Kd.R_alloc | apply Kd.R_drewN | apply Kd.R_drew)); exact (Kd.R_mono (Kd.R_far (p := ⟨gb262, 0, none⟩) (Kd.R_types HO252.out BK262.out (by decide)) (fun _ hk => hk.2) (.slice Ao67 t258.length co67)) (fun _ h_ => h_.1))) hb); have n4_ := Aside0.mk (Kd.R_below (by (with_reducible repeat (first | apply Kd.R_alloc | apply Kd.R_drewN | apply Kd.R_drew)); exact (Kd.R_mono (Kd.R_far (p := ⟨gb262, 0, none⟩) (Kd.R_types HO256.out BK262.out (by decide)) (fun _ hk => hk.2) (.slice Ao67 t258.length co67)) (fun _ h_ => h_.1))) hb); have n5_ := Aside0.mk (Kd.R_below (by (with_reducible repeat (first | apply Kd.R_alloc | apply Kd.R_drewN | apply Kd.R_drew)); exact (Kd.R_mono (Kd.R_far (p := ⟨gb262, 0, none⟩) (Kd.R_types HO260.out BK262.out (by decide)) (fun _ hk => hk.2) (.slice Ao67 t258.length co67)) (fun _ h_ => h_.1))) hb); have n6_ := Aside0.mk (blk_below (g := gb235) (o := .cells #[.slice A0_0 l0_0.length c0_0] 24 (0, 0)) (bf NB235_262 BK235) hb); have n7_ := Aside0.mk (blk_below (g := gb236) (o := .cells #[.slice A1_0 l1_0.length c1_0] 24 (0, 0)) (bf NB236_262 BK236) hb); have n8_ := Aside0.mk (blk_below (g := gb249) (o := .cells #[.slice Ao41 t245.length co41] 27 (0, 0)) (bf NB249_262 BK249) hb); have n9_ := Aside0.mk (blk_below (g := gb253) (o := .cells #[.slice Ao47 t250.length co47] 27 (0, 0)) (bf NB253_262 BK253) hb); have n10_ := Aside0.mk (blk_below (g := gb257) (o := .cells #[.slice Ao56 t254.length co56] 27 (0, 0)) (bf NB257_262 BK257) hb); have n11_ := Aside0.mk (blk_below (g := gb262) (o := .cells #[.slice Ao67 t258.length co67] 27 (0, 0)) (by (with_reducible repeat (first | refine blk_drewN ?_ _ | refine blk_drew ?_ | refine blk_alloc ?_ _)); refine blk_put (cs := #[.slice none 0 0]) ?_ 0 _ rfl; (with_reducible repeat (first | refine blk_drewN ?_ _ | refine blk_drew ?_ | refine blk_alloc ?_ _)); exact BK262.out) hb); have n12_ := Aside0.mk (below_step (hq6 HB GE235 GE236 GE249 GE253 GE257 GE262) hb); clear HO241; clear HO244; clear HO247; clear HO252; clear HO256; clear HO260; clear BK235; clear BK236; clear BK249; clear BK253; clear BK257; clear BK262; clear HB; have HO241 := n0_; have HO244 := n1_; have HO247 := n2_; have HO252 := n3_; have HO256 := n4_; have HO260 := n5_; have BK235 := n6_; have BK236 := n7_; have BK249 := n8_; have BK253 := n9_; have BK257 := n10_; have BK262 := n11_; have HB := n12_; clear n0_ n1_ n2_ n3_ n4_ n5_ n6_ n7_ n8_ n9_ n10_ n11_ n12_; (try clear hb); (try clear hb2); (try clear hk); (try clear hi)))
   go_meet
   case rel => exact ⟨_, (true), (by first | rfl | (simp; done) | (simp [*]; done)), H', ⟨by first | omega | exact Nat.le_refl _⟩, ⟨by (with_reducible repeat (first | apply Kd.R_alloc | apply Kd.R_drewN | apply Kd.R_drew)); exact Kd.R_mono HO247.out (fun _ hk => ⟨hk.1.2.2.1, ⟨hk.1.2.2.2, hk.2⟩⟩)⟩, ⟨by (with_reducible repeat (first | apply Kd.R_alloc | apply Kd.R_drewN | apply Kd.R_drew)); exact Kd.R_mono HO252.out (fun _ hk => ⟨hk.1.2.2.1, ⟨hk.1.2.2.2, hk.2⟩⟩)⟩, ⟨by (with_reducible repeat (first | apply Kd.R_alloc | apply Kd.R_drewN | apply Kd.R_drew)); exact Kd.R_mono HO256.out (fun _ hk => ⟨hk.1.2.2.1, ⟨hk.1.2.2.2, hk.2⟩⟩)⟩, ⟨by (with_reducible repeat (first | apply Kd.R_alloc | apply Kd.R_drewN | apply Kd.R_drew)); exact Kd.R_mono HO260.out (fun _ hk => ⟨hk.1.1.2, ⟨hk.1.2, hk.2⟩⟩)⟩, ⟨by (with_reducible repeat (first | refine blk_drewN ?_ _ | refine blk_drew ?_ | refine blk_alloc ?_ _)); exact BK235.out⟩, ⟨by (with_reducible repeat (first | refine blk_drewN ?_ _ | refine blk_drew ?_ | refine blk_alloc ?_ _)); exact BK236.out⟩, ⟨by (with_reducible repeat (first | refine blk_drewN ?_ _ | refine blk_drew ?_ | refine blk_alloc ?_ _)); exact BK249.out⟩, ⟨by (with_reducible repeat (first | refine blk_drewN ?_ _ | refine blk_drew ?_ | refine blk_alloc ?_ _)); exact BK253.out⟩, ⟨by (with_reducible repeat (first | refine blk_drewN ?_ _ | refine blk_drew ?_ | refine blk_alloc ?_ _)); exact BK257.out⟩, ⟨by (with_reducible repeat (first | refine blk_drewN ?_ _ | refine blk_drew ?_ | refine blk_alloc ?_ _)); exact BK262.out⟩, ⟨hq6 HB GE235 GE236 GE249 GE253 GE257 GE262⟩⟩
 clear HC25
 try clear c1
 try clear c2
 try clear p2
 try clear c4
 try clear c5
 try clear c6
 try clear c7
 try clear c8
 try clear c9
 try clear c17
 try clear c19
 try clear c26
 try clear c27
 try clear c43
 try clear c48
 try clear c49
 try clear c50
 try clear c52
 try clear c57
 try clear c58
 try clear c59
 try clear c60
 try clear c68
 try clear c69
 try clear c70
 try clear c71
 try clear c72
 try clear c75
 try clear c76
 try clear c77
 try clear c78
 try clear c79
 try clear c80
 try clear c82
 try clear c83
 try clear c84
 try clear c85
 try clear c88
 try clear c89
 try clear c90
 try clear c91
 try clear c92
 try clear c94
 try clear c95
 try clear c96
 try clear c97
 try clear hcz44_0
 try clear hcz51_0
 try clear hcz53_0
 try clear hcz61_0
 try clear hcz63_0
 try clear hcz64_0
 try clear hcz73_0
 try clear hcz81_0
 try clear hcz86_0
 try clear hcz93_0
 try clear hcz98_0
 try clear hfz44_0
 try clear hfz51_0
 try clear hfz53_0
 try clear hfz61_0
 try clear hfz63_0
 try clear hfz64_0
 try clear hfz73_0
 try clear hfz81_0
 try clear hfz86_0
 try clear hfz93_0
 try clear hfz98_0
 obtain ⟨kq, x53_24, rfl, HA, HJ24, HO_250000, HO_254000, HO_258000, HO_263000, BK235, BK236, BK249, BK253, BK257, BK262, HB⟩ := hcut
 obtain _ | kj24 := kq
 · exact absurd HA.out (by simp [laws_FnExactLessBig.j0])
 have H := HA.out
 clear HA
 simp only [laws_FnExactLessBig.j0] at H
 by_cases c100 : x53_24 = true
 · subst c100
   have H1 : (some false) = some true := by rw [if_pos rfl] at H; exact H
   clear H
   have H := H1
   clear H1
   cases H
 replace c100 := Bool.eq_false_iff.mpr c100
 subst c100
 have H1 : ((laws_toBig.f kj24 l0_0).bind fun t264 => ((laws_eqBig.f kj24 t250 t264).bind fun t267 => (if t267 = true then ((laws_toBig.f kj24 l1_0).bind fun t268 => ((laws_eqBig.f kj24 t254 t268).bind fun t271 => (if t271 = true then ((laws_markBig.f kj24 t250 1).bind fun bt272 => ((laws_markBig.f kj24 t254 bt272.1).bind fun bt274 => (if bt274.1 < 0 then (laws_FnExactLessBig.j1 kj24 t248 true l0_0 l1_0 t245 t258) else ((laws_eqBig.f kj24 t258 t245).bind fun t276 => (if t276 = true then (laws_FnExactLessBig.j1 kj24 t248 (t261 != t248) l0_0 l1_0 t245 t258) else (laws_FnExactLessBig.j1 kj24 t248 true l0_0 l1_0 t245 t258)))))) else (some false)))) else (some false)))) = some true := by rw [if_neg (show ¬ (false = true) by decide)] at H; exact H
 clear H
 have H := H1
 clear H1
 replace H := Option.bind_eq_some_iff.mp H
 obtain ⟨t264, A1010, H⟩ := H
 replace H : ((laws_eqBig.f kj24 t250 t264).bind fun t267 => (if t267 = true then ((laws_toBig.f kj24 l1_0).bind fun t268 => ((laws_eqBig.f kj24 t254 t268).bind fun t271 => (if t271 = true then ((laws_markBig.f kj24 t250 1).bind fun bt272 => ((laws_markBig.f kj24 t254 bt272.1).bind fun bt274 => (if bt274.1 < 0 then (laws_FnExactLessBig.j1 kj24 t248 true l0_0 l1_0 t245 t258) else ((laws_eqBig.f kj24 t258 t245).bind fun t276 => (if t276 = true then (laws_FnExactLessBig.j1 kj24 t248 (t261 != t248) l0_0 l1_0 t245 t258) else (laws_FnExactLessBig.j1 kj24 t248 true l0_0 l1_0 t245 t258)))))) else (some false)))) else (some false))) = some true := H
 have A101 := Aside0.mk A1010
 clear A1010
 replace H := Option.bind_eq_some_iff.mp H
 obtain ⟨t267, A1020, H⟩ := H
 replace H : (if t267 = true then ((laws_toBig.f kj24 l1_0).bind fun t268 => ((laws_eqBig.f kj24 t254 t268).bind fun t271 => (if t271 = true then ((laws_markBig.f kj24 t250 1).bind fun bt272 => ((laws_markBig.f kj24 t254 bt272.1).bind fun bt274 => (if bt274.1 < 0 then (laws_FnExactLessBig.j1 kj24 t248 true l0_0 l1_0 t245 t258) else ((laws_eqBig.f kj24 t258 t245).bind fun t276 => (if t276 = true then (laws_FnExactLessBig.j1 kj24 t248 (t261 != t248) l0_0 l1_0 t245 t258) else (laws_FnExactLessBig.j1 kj24 t248 true l0_0 l1_0 t245 t258)))))) else (some false)))) else (some false)) = some true := H
 have A102 := Aside0.mk A1020
 clear A1020
 by_cases c103 : t267 = true
 rotate_left
 · replace c103 := Bool.eq_false_iff.mpr c103
   subst c103
   have H1 : (some false) = some true := by rw [if_neg (show ¬ (false = true) by decide)] at H; exact H
   clear H
   have H := H1
   clear H1
   cases H
 subst c103
 have H1 : ((laws_toBig.f kj24 l1_0).bind fun t268 => ((laws_eqBig.f kj24 t254 t268).bind fun t271 => (if t271 = true then ((laws_markBig.f kj24 t250 1).bind fun bt272 => ((laws_markBig.f kj24 t254 bt272.1).bind fun bt274 => (if bt274.1 < 0 then (laws_FnExactLessBig.j1 kj24 t248 true l0_0 l1_0 t245 t258) else ((laws_eqBig.f kj24 t258 t245).bind fun t276 => (if t276 = true then (laws_FnExactLessBig.j1 kj24 t248 (t261 != t248) l0_0 l1_0 t245 t258) else (laws_FnExactLessBig.j1 kj24 t248 true l0_0 l1_0 t245 t258)))))) else (some false)))) = some true := by rw [if_pos rfl] at H; exact H
 clear H
 have H := H1
 clear H1
 replace H := Option.bind_eq_some_iff.mp H
 obtain ⟨t268, A1040, H⟩ := H
 replace H : ((laws_eqBig.f kj24 t254 t268).bind fun t271 => (if t271 = true then ((laws_markBig.f kj24 t250 1).bind fun bt272 => ((laws_markBig.f kj24 t254 bt272.1).bind fun bt274 => (if bt274.1 < 0 then (laws_FnExactLessBig.j1 kj24 t248 true l0_0 l1_0 t245 t258) else ((laws_eqBig.f kj24 t258 t245).bind fun t276 => (if t276 = true then (laws_FnExactLessBig.j1 kj24 t248 (t261 != t248) l0_0 l1_0 t245 t258) else (laws_FnExactLessBig.j1 kj24 t248 true l0_0 l1_0 t245 t258)))))) else (some false))) = some true := H
 have A104 := Aside0.mk A1040
 clear A1040
 replace H := Option.bind_eq_some_iff.mp H
 obtain ⟨t271, A1050, H⟩ := H
 replace H : (if t271 = true then ((laws_markBig.f kj24 t250 1).bind fun bt272 => ((laws_markBig.f kj24 t254 bt272.1).bind fun bt274 => (if bt274.1 < 0 then (laws_FnExactLessBig.j1 kj24 t248 true l0_0 l1_0 t245 t258) else ((laws_eqBig.f kj24 t258 t245).bind fun t276 => (if t276 = true then (laws_FnExactLessBig.j1 kj24 t248 (t261 != t248) l0_0 l1_0 t245 t258) else (laws_FnExactLessBig.j1 kj24 t248 true l0_0 l1_0 t245 t258)))))) else (some false)) = some true := H
 have A105 := Aside0.mk A1050
 clear A1050
 by_cases c106 : t271 = true
 rotate_left
 · replace c106 := Bool.eq_false_iff.mpr c106
   subst c106
   have H1 : (some false) = some true := by rw [if_neg (show ¬ (false = true) by decide)] at H; exact H
   clear H
   have H := H1
   clear H1
   cases H
 subst c106
 have H1 : ((laws_markBig.f kj24 t250 1).bind fun bt272 => ((laws_markBig.f kj24 t254 bt272.1).bind fun bt274 => (if bt274.1 < 0 then (laws_FnExactLessBig.j1 kj24 t248 true l0_0 l1_0 t245 t258) else ((laws_eqBig.f kj24 t258 t245).bind fun t276 => (if t276 = true then (laws_FnExactLessBig.j1 kj24 t248 (t261 != t248) l0_0 l1_0 t245 t258) else (laws_FnExactLessBig.j1 kj24 t248 true l0_0 l1_0 t245 t258)))))) = some true := by rw [if_pos rfl] at H; exact H
 clear H
 have H := H1
 clear H1
 replace H := Option.bind_eq_some_iff.mp H
 obtain ⟨⟨t272, t273⟩, A1070, H⟩ := H
 replace H : ((laws_markBig.f kj24 t254 t272).bind fun bt274 => (if bt274.1 < 0 then (laws_FnExactLessBig.j1 kj24 t248 true l0_0 l1_0 t245 t258) else ((laws_eqBig.f kj24 t258 t245).bind fun t276 => (if t276 = true then (laws_FnExactLessBig.j1 kj24 t248 (t261 != t248) l0_0 l1_0 t245 t258) else (laws_FnExactLessBig.j1 kj24 t248 true l0_0 l1_0 t245 t258))))) = some true := H
 have A107 := Aside0.mk A1070
 clear A1070
 replace H := Option.bind_eq_some_iff.mp H
 obtain ⟨⟨t274, t275⟩, A1080, H⟩ := H
 replace H : (if t274 < 0 then (laws_FnExactLessBig.j1 kj24 t248 true l0_0 l1_0 t245 t258) else ((laws_eqBig.f kj24 t258 t245).bind fun t276 => (if t276 = true then (laws_FnExactLessBig.j1 kj24 t248 (t261 != t248) l0_0 l1_0 t245 t258) else (laws_FnExactLessBig.j1 kj24 t248 true l0_0 l1_0 t245 t258)))) = some true := H
 have A108 := Aside0.mk A1080
 clear A1080
 have HC109 := Aside0.mk H
 clear H
 try go_wp2
 have n0_ := Aside0.mk (Kd.R_drew HO_250000.out)
 have n1_ := Aside0.mk (Kd.R_drew HO_254000.out)
 have n2_ := Aside0.mk (Kd.R_drew HO_258000.out)
 have n3_ := Aside0.mk (Kd.R_drew HO_263000.out)
 have n4_ := Aside0.mk (blk_drew BK235.out)
 have n5_ := Aside0.mk (blk_drew BK236.out)
 have n6_ := Aside0.mk (blk_drew BK249.out)
 have n7_ := Aside0.mk (blk_drew BK253.out)
 have n8_ := Aside0.mk (blk_drew BK257.out)
 have n9_ := Aside0.mk (blk_drew BK262.out)
 have n10_ := Aside0.mk (below_drew1 HB.out)
 clear HO_250000
 clear HO_254000
 clear HO_258000
 clear HO_263000
 clear BK235
 clear BK236
 clear BK249
 clear BK253
 clear BK257
 clear BK262
 clear HB
 have HO_250000 := n0_
 have HO_254000 := n1_
 have HO_258000 := n2_
 have HO_263000 := n3_
 have BK235 := n4_
 have BK236 := n5_
 have BK249 := n6_
 have BK253 := n7_
 have BK257 := n8_
 have BK262 := n9_
 have HB := n10_
 clear n0_ n1_ n2_ n3_ n4_ n5_ n6_ n7_ n8_ n9_ n10_
 refine start_ (n := 5) (S := fun w' => w'.cell? ⟨gb253, 0, none⟩ = some (.slice Ao47 t250.length co47) ∧ w'.cell? ⟨gb235, 0, none⟩ = some (.slice A0_0 l0_0.length c0_0)) (ds := []) #[false, false, false, false, false] (by kernel_rfl) rfl rfl ⟨(blk_cell BK253.out 0).trans rfl, (blk_cell BK235.out 0).trans rfl⟩ (fun hHeld => ?_)
 generalize wc.drew = w110 at HO_250000 HO_254000 HO_258000 HO_263000 BK235 BK236 BK249 BK253 BK257 BK262 HB hHeld ⊢
 refine take_ (i := 0) (N := some 54) (v := ?_) (a' := ?_) #[true, false, false, false, false] rfl rfl (by kernel_rfl) (fun _ _ _ h => h) (Or.inl ⟨by rfl, ?_⟩) hHeld ?_ ?_
 rotate_left
 · rintro w' ⟨s0, s1⟩
   go_simp
   with_reducible rfl
 rotate_left
 · simp only [Act.put, List.setIfInBounds_toArray, List.set_cons_zero, List.set_cons_succ, i64_w, i32_w]
   rfl
 refine take_ (i := 1) (N := some 55) (v := ?_) (a' := ?_) #[true, true, false, false, false] rfl rfl (by kernel_rfl) (fun _ _ _ h => h) (Or.inl ⟨by rfl, ?_⟩) hHeld ?_ ?_
 rotate_left
 · rintro w' ⟨s0, s1⟩
   go_simp
   with_reducible rfl
 rotate_left
 · simp only [Act.put, List.setIfInBounds_toArray, List.set_cons_zero, List.set_cons_succ, i64_w, i32_w]
   rfl
 refine one_ (i := 2) (N := some 56) #[true, true, true, false, false] rfl rfl (by kernel_rfl) (by decide) (fun K hK => ?_)
 refine goes_ Try.func17 (by kernel_rfl) rfl #[.agg #[.slice A0_0 l0_0.length c0_0]] (by rfl) rfl rfl (by (try simp only [List.map_toArray, List.map_cons, List.map_nil]); first | done | rfl | (simp only [List.length_drop, List.length_take]; rfl)) ?_
 with_reducible refine (laws_toBig.calls kj24 _ _ l0_0 t264 _ ?side1 ?side2 A101.out).mono ?_
 (case side1 => repeat (first | exact (Kd.C_below HR0_0.out HB.out) | (with_reducible refine Kd.C_alloc ?_ _) | (with_reducible refine Kd.C_drewN ?_ _) | (with_reducible refine Kd.C_drew ?_)))
 (case side2 => exact HC0_0.out)
 rintro e w111 ⟨v265, rfl, ho0, hb⟩
 refine ⟨_, rfl, ?_⟩
 have n0_ := Aside0.mk (qe HO_250000 ho0 hb)
 have n1_ := Aside0.mk (qe HO_254000 ho0 hb)
 have n2_ := Aside0.mk (qe HO_258000 ho0 hb)
 have n3_ := Aside0.mk (qe HO_263000 ho0 hb)
 have n4_ := Aside0.mk (Kd.R_lower (Kd.R_new' (Kd.R_new' (Kd.R_new' (Kd.R_new' ho0 (ql HO_250000)) (ql HO_254000)) (ql HO_258000)) (ql HO_263000)) (below_size (hq6 HB GE235 GE236 GE249 GE253 GE257 GE262)))
 have n5_ := Aside0.mk (bB BK235 hb)
 have n6_ := Aside0.mk (bB BK236 hb)
 have n7_ := Aside0.mk (bB BK249 hb)
 have n8_ := Aside0.mk (bB BK253 hb)
 have n9_ := Aside0.mk (bB BK257 hb)
 have n10_ := Aside0.mk (bB BK262 hb)
 have n11_ := Aside0.mk (below_step (hq6 HB GE235 GE236 GE249 GE253 GE257 GE262) hb)
 clear HO_250000
 clear HO_254000
 clear HO_258000
 clear HO_263000
 clear BK235
 clear BK236
 clear BK249
 clear BK253
 clear BK257
 clear BK262
 clear HB
 have HO_250000 := n0_
 have HO_254000 := n1_
 have HO_258000 := n2_
 have HO_263000 := n3_
 have HO266 := n4_
 have BK235 := n5_
 have BK236 := n6_
 have BK249 := n7_
 have BK253 := n8_
 have BK257 := n9_
 have BK262 := n10_
 have HB := n11_
 clear n0_ n1_ n2_ n3_ n4_ n5_ n6_ n7_ n8_ n9_ n10_ n11_
 (try clear hb)
 (try clear hb2)
 (try clear hk)
 (try clear hi)
 (try clear ho0)
 obtain ⟨Ao112, co112, eo112⟩ := Kd.R_slice HO266.out
 (first | subst eo112 | (injection eo112 with f1_ f2_ f3_; have f4_ := f1_.symm; have f5_ := f3_.symm; clear f1_ f2_ f3_; subst f4_; subst f5_))
 refine hK.out _ _ ⟨(blk_cell BK253.out 0).trans rfl, (blk_cell BK235.out 0).trans rfl⟩ (fun hHeld => ?_)
 clear hK K
 refine norm_ (a' := ?_) ?_ ?_
 rotate_left
 · show Act.put _ (some 56) _ = _
   simp only [Act.put, List.setIfInBounds_toArray, List.set_cons_zero, List.set_cons_succ, i64_w, i32_w]
   rfl
 refine one_ (i := 3) (N := some 57) #[true, true, true, true, false] rfl rfl (by kernel_rfl) (by decide) (fun K hK => ?_)
 refine goes_ Try.func19 (by kernel_rfl) rfl #[.agg #[.slice Ao47 t250.length co47], .agg #[.slice Ao112 t264.length co112]] (by rfl) rfl rfl (by (try simp only [List.map_toArray, List.map_cons, List.map_nil]); first | done | rfl | (simp only [List.length_drop, List.length_take]; rfl)) ?_
 with_reducible refine (laws_eqBig.calls kj24 _ _ t250 _ _ t264 true _ ?side1 ?side2 ?side3 ?side4 A102.out).mono ?_
 (case side1 => repeat (first | exact (Kd.R_reads' HO_254000.out).2.2 | (with_reducible refine Kd.C_alloc ?_ _) | (with_reducible refine Kd.C_drewN ?_ _) | (with_reducible refine Kd.C_drew ?_)))
 (case side2 => exact (Kd.R_reads' HO_254000.out).2.1)
 (case side3 => repeat (first | exact (Kd.R_reads' HO266.out).2.2 | (with_reducible refine Kd.C_alloc ?_ _) | (with_reducible refine Kd.C_drewN ?_ _) | (with_reducible refine Kd.C_drew ?_)))
 (case side4 => exact (Kd.R_reads' HO266.out).2.1)
 rintro e w113 ⟨rfl, hb⟩
 refine ⟨_, rfl, ?_⟩
 have n0_ := Aside0.mk (qb HO_250000 hb)
 have n1_ := Aside0.mk (qb HO_254000 hb)
 have n2_ := Aside0.mk (qb HO_258000 hb)
 have n3_ := Aside0.mk (qb HO_263000 hb)
 have n4_ := Aside0.mk (qb HO266 hb)
 have n5_ := Aside0.mk (bB BK235 hb)
 have n6_ := Aside0.mk (bB BK236 hb)
 have n7_ := Aside0.mk (bB BK249 hb)
 have n8_ := Aside0.mk (bB BK253 hb)
 have n9_ := Aside0.mk (bB BK257 hb)
 have n10_ := Aside0.mk (bB BK262 hb)
 have n11_ := Aside0.mk (below_step (hq6 HB GE235 GE236 GE249 GE253 GE257 GE262) hb)
 clear HO_250000
 clear HO_254000
 clear HO_258000
 clear HO_263000
 clear HO266
 clear BK235
 clear BK236
 clear BK249
 clear BK253
 clear BK257
 clear BK262
 clear HB
 have HO_250000 := n0_
 have HO_254000 := n1_
 have HO_258000 := n2_
 have HO_263000 := n3_
 have HO266 := n4_
 have BK235 := n5_
 have BK236 := n6_
 have BK249 := n7_
 have BK253 := n8_
 have BK257 := n9_
 have BK262 := n10_
 have HB := n11_
 clear n0_ n1_ n2_ n3_ n4_ n5_ n6_ n7_ n8_ n9_ n10_ n11_
 (try clear hb)
 (try clear hb2)
 (try clear hk)
 (try clear hi)
 refine hK.out _ _ ⟨(blk_cell BK253.out 0).trans rfl, (blk_cell BK235.out 0).trans rfl⟩ (fun hHeld => ?_)
 clear hK K
 refine norm_ (a' := ?_) ?_ ?_
 rotate_left
 · show Act.put _ (some 57) _ = _
   simp only [Act.put, List.setIfInBounds_toArray, List.set_cons_zero, List.set_cons_succ, i64_w, i32_w]
   rfl
 refine pure_ (i := 4) (N := some 58) (v := ?_) (a' := ?_) #[true, true, true, true, true] rfl rfl (by kernel_rfl) (fun _ _ _ h => h) (Or.inl ⟨by rfl, ?_⟩) ?_ ?_
 rotate_left
 · intro w'
   first | (go_simp; with_reducible rfl) | (go_simp; unfold Instr.field; go_simp; rfl)
 rotate_left
 · simp only [Act.put, List.setIfInBounds_toArray, List.set_cons_zero, List.set_cons_succ, i64_w, i32_w]
   rfl
 refine done_ (by kernel_rfl) ?_
 try go_wp2
 have n0_ := Aside0.mk (Kd.R_drew HO_250000.out)
 have n1_ := Aside0.mk (Kd.R_drew HO_254000.out)
 have n2_ := Aside0.mk (Kd.R_drew HO_258000.out)
 have n3_ := Aside0.mk (Kd.R_drew HO_263000.out)
 have n4_ := Aside0.mk (Kd.R_drew HO266.out)
 have n5_ := Aside0.mk (blk_drew BK235.out)
 have n6_ := Aside0.mk (blk_drew BK236.out)
 have n7_ := Aside0.mk (blk_drew BK249.out)
 have n8_ := Aside0.mk (blk_drew BK253.out)
 have n9_ := Aside0.mk (blk_drew BK257.out)
 have n10_ := Aside0.mk (blk_drew BK262.out)
 have n11_ := Aside0.mk (below_drew1 HB.out)
 clear HO_250000
 clear HO_254000
 clear HO_258000
 clear HO_263000
 clear HO266
 clear BK235
 clear BK236
 clear BK249
 clear BK253
 clear BK257
 clear BK262
 clear HB
 have HO_250000 := n0_
 have HO_254000 := n1_
 have HO_258000 := n2_
 have HO_263000 := n3_
 have HO266 := n4_
 have BK235 := n5_
 have BK236 := n6_
 have BK249 := n7_
 have BK253 := n8_
 have BK257 := n9_
 have BK262 := n10_
 have HB := n11_
 clear n0_ n1_ n2_ n3_ n4_ n5_ n6_ n7_ n8_ n9_ n10_ n11_
 refine start_ (n := 5) (S := fun w' => w'.cell? ⟨gb257, 0, none⟩ = some (.slice Ao56 t254.length co56) ∧ w'.cell? ⟨gb236, 0, none⟩ = some (.slice A1_0 l1_0.length c1_0)) (ds := []) #[false, false, false, false, false] (by kernel_rfl) rfl rfl ⟨(blk_cell BK257.out 0).trans rfl, (blk_cell BK236.out 0).trans rfl⟩ (fun hHeld => ?_)
 generalize w113.drew = w114 at HO_250000 HO_254000 HO_258000 HO_263000 HO266 BK235 BK236 BK249 BK253 BK257 BK262 HB hHeld ⊢
 refine take_ (i := 0) (N := some 59) (v := ?_) (a' := ?_) #[true, false, false, false, false] rfl rfl (by kernel_rfl) (fun _ _ _ h => h) (Or.inl ⟨by rfl, ?_⟩) hHeld ?_ ?_
 rotate_left
 · rintro w' ⟨s0, s1⟩
   go_simp
   with_reducible rfl
 rotate_left
 · simp only [Act.put, List.setIfInBounds_toArray, List.set_cons_zero, List.set_cons_succ, i64_w, i32_w]
   rfl
 refine take_ (i := 1) (N := some 60) (v := ?_) (a' := ?_) #[true, true, false, false, false] rfl rfl (by kernel_rfl) (fun _ _ _ h => h) (Or.inl ⟨by rfl, ?_⟩) hHeld ?_ ?_
 rotate_left
 · rintro w' ⟨s0, s1⟩
   go_simp
   with_reducible rfl
 rotate_left
 · simp only [Act.put, List.setIfInBounds_toArray, List.set_cons_zero, List.set_cons_succ, i64_w, i32_w]
   rfl
 refine one_ (i := 2) (N := some 61) #[true, true, true, false, false] rfl rfl (by kernel_rfl) (by decide) (fun K hK => ?_)
 refine goes_ Try.func17 (by kernel_rfl) rfl #[.agg #[.slice A1_0 l1_0.length c1_0]] (by rfl) rfl rfl (by (try simp only [List.map_toArray, List.map_cons, List.map_nil]); first | done | rfl | (simp only [List.length_drop, List.length_take]; rfl)) ?_
 with_reducible refine (laws_toBig.calls kj24 _ _ l1_0 t268 _ ?side1 ?side2 A104.out).mono ?_
 (case side1 => repeat (first | exact (Kd.C_below HR1_0.out HB.out) | (with_reducible refine Kd.C_alloc ?_ _) | (with_reducible refine Kd.C_drewN ?_ _) | (with_reducible refine Kd.C_drew ?_)))
 (case side2 => exact HC1_0.out)
 rintro e w115 ⟨v269, rfl, ho0, hb⟩
 refine ⟨_, rfl, ?_⟩
 have n0_ := Aside0.mk (qe HO_250000 ho0 hb)
 have n1_ := Aside0.mk (qe HO_254000 ho0 hb)
 have n2_ := Aside0.mk (qe HO_258000 ho0 hb)
 have n3_ := Aside0.mk (qe HO_263000 ho0 hb)
 have n4_ := Aside0.mk (qe HO266 ho0 hb)
 have n5_ := Aside0.mk (Kd.R_lower (Kd.R_new' (Kd.R_new' (Kd.R_new' (Kd.R_new' (Kd.R_new' ho0 (ql HO_250000)) (ql HO_254000)) (ql HO_258000)) (ql HO_263000)) (ql HO266)) (below_size (hq6 HB GE235 GE236 GE249 GE253 GE257 GE262)))
 have n6_ := Aside0.mk (bB BK235 hb)
 have n7_ := Aside0.mk (bB BK236 hb)
 have n8_ := Aside0.mk (bB BK249 hb)
 have n9_ := Aside0.mk (bB BK253 hb)
 have n10_ := Aside0.mk (bB BK257 hb)
 have n11_ := Aside0.mk (bB BK262 hb)
 have n12_ := Aside0.mk (below_step (hq6 HB GE235 GE236 GE249 GE253 GE257 GE262) hb)
 clear HO_250000
 clear HO_254000
 clear HO_258000
 clear HO_263000
 clear HO266
 clear BK235
 clear BK236
 clear BK249
 clear BK253
 clear BK257
 clear BK262
 clear HB
 have HO_250000 := n0_
 have HO_254000 := n1_
 have HO_258000 := n2_
 have HO_263000 := n3_
 have HO266 := n4_
 have HO270 := n5_
 have BK235 := n6_
 have BK236 := n7_
 have BK249 := n8_
 have BK253 := n9_
 have BK257 := n10_
 have BK262 := n11_
 have HB := n12_
 clear n0_ n1_ n2_ n3_ n4_ n5_ n6_ n7_ n8_ n9_ n10_ n11_ n12_
 (try clear hb)
 (try clear hb2)
 (try clear hk)
 (try clear hi)
 (try clear ho0)
 obtain ⟨Ao116, co116, eo116⟩ := Kd.R_slice HO270.out
 (first | subst eo116 | (injection eo116 with f1_ f2_ f3_; have f4_ := f1_.symm; have f5_ := f3_.symm; clear f1_ f2_ f3_; subst f4_; subst f5_))
 refine hK.out _ _ ⟨(blk_cell BK257.out 0).trans rfl, (blk_cell BK236.out 0).trans rfl⟩ (fun hHeld => ?_)
 clear hK K
 refine norm_ (a' := ?_) ?_ ?_
 rotate_left
 · show Act.put _ (some 61) _ = _
   simp only [Act.put, List.setIfInBounds_toArray, List.set_cons_zero, List.set_cons_succ, i64_w, i32_w]
   rfl
 refine one_ (i := 3) (N := some 62) #[true, true, true, true, false] rfl rfl (by kernel_rfl) (by decide) (fun K hK => ?_)
 refine goes_ Try.func19 (by kernel_rfl) rfl #[.agg #[.slice Ao56 t254.length co56], .agg #[.slice Ao116 t268.length co116]] (by rfl) rfl rfl (by (try simp only [List.map_toArray, List.map_cons, List.map_nil]); first | done | rfl | (simp only [List.length_drop, List.length_take]; rfl)) ?_
 with_reducible refine (laws_eqBig.calls kj24 _ _ t254 _ _ t268 true _ ?side1 ?side2 ?side3 ?side4 A105.out).mono ?_
 (case side1 => repeat (first | exact (Kd.R_reads' HO_258000.out).2.2 | (with_reducible refine Kd.C_alloc ?_ _) | (with_reducible refine Kd.C_drewN ?_ _) | (with_reducible refine Kd.C_drew ?_)))
 (case side2 => exact (Kd.R_reads' HO_258000.out).2.1)
 (case side3 => repeat (first | exact (Kd.R_reads' HO270.out).2.2 | (with_reducible refine Kd.C_alloc ?_ _) | (with_reducible refine Kd.C_drewN ?_ _) | (with_reducible refine Kd.C_drew ?_)))
 (case side4 => exact (Kd.R_reads' HO270.out).2.1)
 rintro e w117 ⟨rfl, hb⟩
 refine ⟨_, rfl, ?_⟩
 have n0_ := Aside0.mk (qb HO_250000 hb)
 have n1_ := Aside0.mk (qb HO_254000 hb)
 have n2_ := Aside0.mk (qb HO_258000 hb)
 have n3_ := Aside0.mk (qb HO_263000 hb)
 have n4_ := Aside0.mk (qb HO266 hb)
 have n5_ := Aside0.mk (qb HO270 hb)
 have n6_ := Aside0.mk (bB BK235 hb)
 have n7_ := Aside0.mk (bB BK236 hb)
 have n8_ := Aside0.mk (bB BK249 hb)
 have n9_ := Aside0.mk (bB BK253 hb)
 have n10_ := Aside0.mk (bB BK257 hb)
 have n11_ := Aside0.mk (bB BK262 hb)
 have n12_ := Aside0.mk (below_step (hq6 HB GE235 GE236 GE249 GE253 GE257 GE262) hb)
 clear HO_250000
 clear HO_254000
 clear HO_258000
 clear HO_263000
 clear HO266
 clear HO270
 clear BK235
 clear BK236
 clear BK249
 clear BK253
 clear BK257
 clear BK262
 clear HB
 have HO_250000 := n0_
 have HO_254000 := n1_
 have HO_258000 := n2_
 have HO_263000 := n3_
 have HO266 := n4_
 have HO270 := n5_
 have BK235 := n6_
 have BK236 := n7_
 have BK249 := n8_
 have BK253 := n9_
 have BK257 := n10_
 have BK262 := n11_
 have HB := n12_
 clear n0_ n1_ n2_ n3_ n4_ n5_ n6_ n7_ n8_ n9_ n10_ n11_ n12_
 (try clear hb)
 (try clear hb2)
 (try clear hk)
 (try clear hi)
 refine hK.out _ _ ⟨(blk_cell BK257.out 0).trans rfl, (blk_cell BK236.out 0).trans rfl⟩ (fun hHeld => ?_)
 clear hK K
 refine norm_ (a' := ?_) ?_ ?_
 rotate_left
 · show Act.put _ (some 62) _ = _
   simp only [Act.put, List.setIfInBounds_toArray, List.set_cons_zero, List.set_cons_succ, i64_w, i32_w]
   rfl
 refine pure_ (i := 4) (N := some 63) (v := ?_) (a' := ?_) #[true, true, true, true, true] rfl rfl (by kernel_rfl) (fun _ _ _ h => h) (Or.inl ⟨by rfl, ?_⟩) ?_ ?_
 rotate_left
 · intro w'
   first | (go_simp; with_reducible rfl) | (go_simp; unfold Instr.field; go_simp; rfl)
 rotate_left
 · simp only [Act.put, List.setIfInBounds_toArray, List.set_cons_zero, List.set_cons_succ, i64_w, i32_w]
   rfl
 refine done_ (by kernel_rfl) ?_
 have hnb118 := NB253_235.out
 have hnc118 := NB235_253.out
 have hnb119 := NB253_236.out
 have hnc119 := NB236_253.out
 have hnb120 := NB253_249.out
 have hnc120 := NB249_253.out
 have hnb121 := NB253_257.out
 have hnc121 := NB257_253.out
 have hnb122 := NB253_262.out
 have hnc122 := NB262_253.out
 have hcz123_0 : w117.cell? ⟨gb253, 0, none⟩ = some (.slice Ao47 t250.length co47) := (blk_cell BK253.out 0).trans rfl
 have hfz123_0 := blk_frozen BK253.out 0
 go_upto_region 21 with (first | ((with_reducible refine gate_callee (f := 22) rfl ?_); refine goesL_ (some 66) rfl rfl Try.func22 (by kernel_rfl) rfl #[.agg #[.slice Ao47 t250.length co47], .int .i64 1] rfl (by (try simp only [List.map_toArray, List.map_cons, List.map_nil]); first | done | rfl | (simp only [List.length_drop, List.length_take]; rfl)) ?_; (with_reducible refine (laws_markBig.calls kj24 (fun k_ => some k_ = (.slice Ao47 t250.length co47 : Value).ownBlock) (.slice Ao47 t250.length co47) t250 1 t272 t273 w _ ?side1 ?side2 A107.out).mono ?_); (case side1 => repeat (first | (with_reducible first | exact HB.out | apply below_alloc | apply pw_below_drewN | apply below_drew1 | refine below_set ?_ GE235.out | refine below_set ?_ GE236.out | refine below_set ?_ GE249.out | refine below_set ?_ GE253.out | refine below_set ?_ GE257.out | refine below_set ?_ GE262.out) | exact HB.out)); (case side2 => exact Kd.R_tight rfl HO_254000.out); rintro e w124 ⟨rfl, hy0, hb, hkp⟩; refine ⟨_, rfl, ?_⟩; have n0_ := Aside0.mk (Kd.R_mono (ok' := fun k_ => some k_ ≠ (.slice Ao47 t250.length co47 : Value).ownBlock ∧ some k_ ≠ (.slice Ao56 t254.length co56 : Value).ownBlock ∧ some k_ ≠ (.slice Ao67 t258.length co67 : Value).ownBlock ∧ some k_ ≠ (.slice Ao112 t264.length co112 : Value).ownBlock ∧ some k_ ≠ (.slice Ao116 t268.length co116 : Value).ownBlock) (Kd.R_keptB (HO_250000.out) hkp (fun k_ hk_ hs_ => (hk_.1.1.1) hs_)) (fun k_ hk_ => ⟨hk_.1.1.1.1, hk_.1.1.1.2.1, hk_.1.1.1.2.2, hk_.1.1.2, hk_.1.2⟩)); have n1_ := Aside0.mk (Kd.R_reok rfl hy0 (fun k_ e_ => HO_254000.out.1 k_ e_)); have n2_ := Aside0.mk (Kd.R_mono (ok' := fun k_ => some k_ ≠ (.slice Ao41 t245.length co41 : Value).ownBlock ∧ some k_ ≠ (.slice Ao47 t250.length co47 : Value).ownBlock ∧ some k_ ≠ (.slice Ao67 t258.length co67 : Value).ownBlock ∧ some k_ ≠ (.slice Ao112 t264.length co112 : Value).ownBlock ∧ some k_ ≠ (.slice Ao116 t268.length co116 : Value).ownBlock) (Kd.R_keptB (HO_258000.out) hkp (fun k_ hk_ hs_ => (hk_.1.1.2.1) hs_)) (fun k_ hk_ => ⟨hk_.1.1.1.1, hk_.1.1.1.2.1, hk_.1.1.1.2.2, hk_.1.1.2, hk_.1.2⟩)); have n3_ := Aside0.mk (Kd.R_mono (ok' := fun k_ => some k_ ≠ (.slice Ao41 t245.length co41 : Value).ownBlock ∧ some k_ ≠ (.slice Ao47 t250.length co47 : Value).ownBlock ∧ some k_ ≠ (.slice Ao56 t254.length co56 : Value).ownBlock ∧ some k_ ≠ (.slice Ao112 t264.length co112 : Value).ownBlock ∧ some k_ ≠ (.slice Ao116 t268.length co116 : Value).ownBlock) (Kd.R_keptB (HO_263000.out) hkp (fun k_ hk_ hs_ => (hk_.1.1.2.1) hs_)) (fun k_ hk_ => ⟨hk_.1.1.1.1, hk_.1.1.1.2.1, hk_.1.1.1.2.2, hk_.1.1.2, hk_.1.2⟩)); have n4_ := Aside0.mk (blk_kept (bq BK235) hkp (fun hs_ => (fun e_ => (Kd.R_ne HO_254000.out BK235.out (by decide)) e_) hs_)); have n5_ := Aside0.mk (blk_kept (bq BK236) hkp (fun hs_ => (fun e_ => (Kd.R_ne HO_254000.out BK236.out (by decide)) e_) hs_)); have n6_ := Aside0.mk (blk_kept (bq BK249) hkp (fun hs_ => (fun e_ => (Kd.R_ne HO_254000.out BK249.out (by decide)) e_) hs_)); have n7_ := Aside0.mk (blk_kept (bq BK253) hkp (fun hs_ => (fun e_ => (Kd.R_ne HO_254000.out BK253.out (by decide)) e_) hs_)); have n8_ := Aside0.mk (blk_kept (bq BK257) hkp (fun hs_ => (fun e_ => (Kd.R_ne HO_254000.out BK257.out (by decide)) e_) hs_)); have n9_ := Aside0.mk (blk_kept (bq BK262) hkp (fun hs_ => (fun e_ => (Kd.R_ne HO_254000.out BK262.out (by decide)) e_) hs_)); have n10_ := Aside0.mk (Kd.R_mono (ok' := fun k_ => some k_ ≠ (.slice Ao41 t245.length co41 : Value).ownBlock ∧ some k_ ≠ (.slice Ao47 t250.length co47 : Value).ownBlock ∧ some k_ ≠ (.slice Ao56 t254.length co56 : Value).ownBlock ∧ some k_ ≠ (.slice Ao67 t258.length co67 : Value).ownBlock ∧ some k_ ≠ (.slice Ao116 t268.length co116 : Value).ownBlock) (Kd.R_keptB (HO266.out) hkp (fun k_ hk_ hs_ => (hk_.1.1.1.2) hs_)) (fun k_ hk_ => ⟨hk_.1.1.1.1.1.2, hk_.1.1.1.1.2, hk_.1.1.1.2, hk_.1.1.2, hk_.1.2⟩)); have n11_ := Aside0.mk (Kd.R_mono (ok' := fun k_ => some k_ ≠ (.slice Ao41 t245.length co41 : Value).ownBlock ∧ some k_ ≠ (.slice Ao47 t250.length co47 : Value).ownBlock ∧ some k_ ≠ (.slice Ao56 t254.length co56 : Value).ownBlock ∧ some k_ ≠ (.slice Ao67 t258.length co67 : Value).ownBlock ∧ some k_ ≠ (.slice Ao112 t264.length co112 : Value).ownBlock) (Kd.R_keptB (HO270.out) hkp (fun k_ hk_ hs_ => (hk_.1.1.1.2) hs_)) (fun k_ hk_ => ⟨hk_.1.1.1.1.1.2, hk_.1.1.1.1.2, hk_.1.1.1.2, hk_.1.1.2, hk_.1.2⟩)); have n12_ := Aside0.mk (hb); clear HO_250000; clear HO_254000; clear HO_258000; clear HO_263000; clear BK235; clear BK236; clear BK249; clear BK253; clear BK257; clear BK262; clear HO266; clear HO270; clear HB; have HO_250000 := n0_; have HO_254000 := n1_; have HO_258000 := n2_; have HO_263000 := n3_; have BK235 := n4_; have BK236 := n5_; have BK249 := n6_; have BK253 := n7_; have BK257 := n8_; have BK262 := n9_; have HO266 := n10_; have HO270 := n11_; have HB := n12_; clear n0_ n1_ n2_ n3_ n4_ n5_ n6_ n7_ n8_ n9_ n10_ n11_ n12_; (try clear hb); (try clear hkp); (try clear hy0); have hnb125 := NB257_235.out; have hnc125 := NB235_257.out; have hnb126 := NB257_236.out; have hnc126 := NB236_257.out; have hnb127 := NB257_249.out; have hnc127 := NB249_257.out; have hnb128 := NB257_262.out; have hnc128 := NB262_257.out; have hcz129_0 : w124.cell? ⟨gb257, 0, none⟩ = some (.slice Ao56 t254.length co56) := (blk_cell BK257.out 0).trans rfl; have hfz129_0 := blk_frozen BK257.out 0) | ((with_reducible refine gate_callee (f := 22) rfl ?_); refine goesL_ (some 69) rfl rfl Try.func22 (by kernel_rfl) rfl #[.agg #[.slice Ao56 t254.length co56], .int .i64 t272] rfl (by (try simp only [List.map_toArray, List.map_cons, List.map_nil]); first | done | rfl | (simp only [List.length_drop, List.length_take]; rfl)) ?_; (with_reducible refine (laws_markBig.calls kj24 (fun k_ => some k_ = (.slice Ao56 t254.length co56 : Value).ownBlock) (.slice Ao56 t254.length co56) t254 t272 t274 t275 w _ ?side1 ?side2 A108.out).mono ?_); (case side1 => repeat (first | (with_reducible first | exact HB.out | apply below_alloc | apply pw_below_drewN | apply below_drew1 | refine below_set ?_ GE235.out | refine below_set ?_ GE236.out | refine below_set ?_ GE249.out | refine below_set ?_ GE253.out | refine below_set ?_ GE257.out | refine below_set ?_ GE262.out) | exact HB.out)); (case side2 => exact Kd.R_tight rfl HO_258000.out); rintro e w130 ⟨rfl, hy0, hb, hkp⟩; refine ⟨_, rfl, ?_⟩; have n0_ := Aside0.mk (Kd.R_mono (ok' := fun k_ => some k_ ≠ (.slice Ao47 t250.length co47 : Value).ownBlock ∧ some k_ ≠ (.slice Ao56 t254.length co56 : Value).ownBlock ∧ some k_ ≠ (.slice Ao67 t258.length co67 : Value).ownBlock ∧ some k_ ≠ (.slice Ao112 t264.length co112 : Value).ownBlock ∧ some k_ ≠ (.slice Ao116 t268.length co116 : Value).ownBlock) (Kd.R_keptB (HO_250000.out) hkp (fun k_ hk_ hs_ => (hk_.2.1) hs_)) (fun k_ hk_ => ⟨hk_.1.1, hk_.1.2.1, hk_.1.2.2.1, hk_.1.2.2.2.1, hk_.1.2.2.2.2⟩)); have n1_ := Aside0.mk (Kd.R_mono (ok' := fun k_ => some k_ ≠ (.slice Ao41 t245.length co41 : Value).ownBlock ∧ some k_ ≠ (.slice Ao56 t254.length co56 : Value).ownBlock ∧ some k_ ≠ (.slice Ao67 t258.length co67 : Value).ownBlock ∧ some k_ ≠ (.slice Ao112 t264.length co112 : Value).ownBlock ∧ some k_ ≠ (.slice Ao116 t268.length co116 : Value).ownBlock) (Kd.R_keptB (HO_254000.out) hkp (fun k_ hk_ hs_ => (hk_.1.1.2.1) hs_)) (fun k_ hk_ => ⟨hk_.1.1.1.1, hk_.1.1.1.2.1, hk_.1.1.1.2.2, hk_.1.1.2, hk_.1.2⟩)); have n2_ := Aside0.mk (Kd.R_reok rfl hy0 (fun k_ e_ => HO_258000.out.1 k_ e_)); have n3_ := Aside0.mk (Kd.R_mono (ok' := fun k_ => some k_ ≠ (.slice Ao41 t245.length co41 : Value).ownBlock ∧ some k_ ≠ (.slice Ao47 t250.length co47 : Value).ownBlock ∧ some k_ ≠ (.slice Ao56 t254.length co56 : Value).ownBlock ∧ some k_ ≠ (.slice Ao112 t264.length co112 : Value).ownBlock ∧ some k_ ≠ (.slice Ao116 t268.length co116 : Value).ownBlock) (Kd.R_keptB (HO_263000.out) hkp (fun k_ hk_ hs_ => (hk_.2.2.1) hs_)) (fun k_ hk_ => ⟨hk_.1.1, hk_.1.2.1, hk_.1.2.2.1, hk_.1.2.2.2.1, hk_.1.2.2.2.2⟩)); have n4_ := Aside0.mk (blk_kept (bq BK235) hkp (fun hs_ => (fun e_ => (Kd.R_ne HO_258000.out BK235.out (by decide)) e_) hs_)); have n5_ := Aside0.mk (blk_kept (bq BK236) hkp (fun hs_ => (fun e_ => (Kd.R_ne HO_258000.out BK236.out (by decide)) e_) hs_)); have n6_ := Aside0.mk (blk_kept (bq BK249) hkp (fun hs_ => (fun e_ => (Kd.R_ne HO_258000.out BK249.out (by decide)) e_) hs_)); have n7_ := Aside0.mk (blk_kept (bq BK253) hkp (fun hs_ => (fun e_ => (Kd.R_ne HO_258000.out BK253.out (by decide)) e_) hs_)); have n8_ := Aside0.mk (blk_kept (bq BK257) hkp (fun hs_ => (fun e_ => (Kd.R_ne HO_258000.out BK257.out (by decide)) e_) hs_)); have n9_ := Aside0.mk (blk_kept (bq BK262) hkp (fun hs_ => (fun e_ => (Kd.R_ne HO_258000.out BK262.out (by decide)) e_) hs_)); have n10_ := Aside0.mk (Kd.R_mono (ok' := fun k_ => some k_ ≠ (.slice Ao41 t245.length co41 : Value).ownBlock ∧ some k_ ≠ (.slice Ao47 t250.length co47 : Value).ownBlock ∧ some k_ ≠ (.slice Ao56 t254.length co56 : Value).ownBlock ∧ some k_ ≠ (.slice Ao67 t258.length co67 : Value).ownBlock ∧ some k_ ≠ (.slice Ao116 t268.length co116 : Value).ownBlock) (Kd.R_keptB (HO266.out) hkp (fun k_ hk_ hs_ => (hk_.2.2.1) hs_)) (fun k_ hk_ => ⟨hk_.1.1, hk_.1.2.1, hk_.1.2.2.1, hk_.1.2.2.2.1, hk_.1.2.2.2.2⟩)); have n11_ := Aside0.mk (Kd.R_mono (ok' := fun k_ => some k_ ≠ (.slice Ao41 t245.length co41 : Value).ownBlock ∧ some k_ ≠ (.slice Ao47 t250.length co47 : Value).ownBlock ∧ some k_ ≠ (.slice Ao56 t254.length co56 : Value).ownBlock ∧ some k_ ≠ (.slice Ao67 t258.length co67 : Value).ownBlock ∧ some k_ ≠ (.slice Ao112 t264.length co112 : Value).ownBlock) (Kd.R_keptB (HO270.out) hkp (fun k_ hk_ hs_ => (hk_.2.2.1) hs_)) (fun k_ hk_ => ⟨hk_.1.1, hk_.1.2.1, hk_.1.2.2.1, hk_.1.2.2.2.1, hk_.1.2.2.2.2⟩)); have n12_ := Aside0.mk (hb); clear HO_250000; clear HO_254000; clear HO_258000; clear HO_263000; clear BK235; clear BK236; clear BK249; clear BK253; clear BK257; clear BK262; clear HO266; clear HO270; clear HB; have HO_250000 := n0_; have HO_254000 := n1_; have HO_258000 := n2_; have HO_263000 := n3_; have BK235 := n4_; have BK236 := n5_; have BK249 := n6_; have BK253 := n7_; have BK257 := n8_; have BK262 := n9_; have HO266 := n10_; have HO270 := n11_; have HB := n12_; clear n0_ n1_ n2_ n3_ n4_ n5_ n6_ n7_ n8_ n9_ n10_ n11_ n12_; (try clear hb); (try clear hkp); (try clear hy0)))
 (try simp only [Act.put, List.setIfInBounds_toArray, List.set_cons_zero, List.set_cons_succ])
 go_cut [82] (fun v82 wc => ∃ (kq : Nat) (x82_108 : Bool), v82 = .bool x82_108 ∧ Aside0 (laws_FnExactLessBig.j1 kq t248 x82_108 l0_0 l1_0 t245 t258 = some true) ∧ Aside0 (kq ≤ kj24) ∧ Aside0 (Kd.R (Kd.int .i64) 3 wc w.heap.size (fun k_ => some k_ ≠ ((.slice Ao47 t250.length co47) : Value).ownBlock ∧ some k_ ≠ ((.slice Ao56 t254.length co56) : Value).ownBlock ∧ some k_ ≠ ((.slice Ao67 t258.length co67) : Value).ownBlock) (.slice Ao41 t245.length co41) t245) ∧ Aside0 (Kd.R (Kd.int .i64) 3 wc w.heap.size (fun k_ => some k_ ≠ ((.slice Ao41 t245.length co41) : Value).ownBlock ∧ some k_ ≠ ((.slice Ao56 t254.length co56) : Value).ownBlock ∧ some k_ ≠ ((.slice Ao67 t258.length co67) : Value).ownBlock) (.slice Ao47 t250.length co47) t273) ∧ Aside0 (Kd.R (Kd.int .i64) 3 wc w.heap.size (fun k_ => some k_ ≠ ((.slice Ao41 t245.length co41) : Value).ownBlock ∧ some k_ ≠ ((.slice Ao47 t250.length co47) : Value).ownBlock ∧ some k_ ≠ ((.slice Ao67 t258.length co67) : Value).ownBlock) (.slice Ao56 t254.length co56) t275) ∧ Aside0 (Kd.R (Kd.int .i64) 3 wc w.heap.size (fun k_ => some k_ ≠ ((.slice Ao41 t245.length co41) : Value).ownBlock ∧ some k_ ≠ ((.slice Ao47 t250.length co47) : Value).ownBlock ∧ some k_ ≠ ((.slice Ao56 t254.length co56) : Value).ownBlock) (.slice Ao67 t258.length co67) t258) ∧ Aside0 (wc.heap[gb235]? = some (.cells #[(.slice A0_0 l0_0.length c0_0)] 24 (0, 0))) ∧ Aside0 (wc.heap[gb236]? = some (.cells #[(.slice A1_0 l1_0.length c1_0)] 24 (0, 0))) ∧ Aside0 (wc.heap[gb249]? = some (.cells #[(.slice Ao41 t245.length co41)] 27 (0, 0))) ∧ Aside0 (wc.heap[gb253]? = some (.cells #[(.slice Ao47 t250.length co47)] 27 (0, 0))) ∧ Aside0 (wc.heap[gb257]? = some (.cells #[(.slice Ao56 t254.length co56)] 27 (0, 0))) ∧ Aside0 (wc.heap[gb262]? = some (.cells #[(.slice Ao67 t258.length co67)] 27 (0, 0))) ∧ Aside0 (Below w.heap.size w wc))
 case first =>
   have H := HC109.out
   clear HC109
   by_cases c131 : t274 < 0
   · rw [if_pos c131] at H
     have c131b0 : decide (t274 < 0) = true := decide_eq_true c131
     clear c131
     (first | rw [c131b0] | (simp only [i64_w, i32_w]; rw [c131b0]) | skip)
     have H' := Aside0.mk H
     clear H
     go_wp2
     go_meet
     case rel => exact ⟨_, (true), (by first | rfl | (simp; done) | (simp [*]; done)), H', ⟨by have := HJ24.out; first | omega | exact Nat.le_refl _⟩, ⟨by (with_reducible repeat (first | apply Kd.R_alloc | apply Kd.R_drewN | apply Kd.R_drew)); exact Kd.R_mono HO_250000.out (fun _ hk => ⟨hk.1, ⟨hk.2.1, hk.2.2.1⟩⟩)⟩, ⟨by (with_reducible repeat (first | apply Kd.R_alloc | apply Kd.R_drewN | apply Kd.R_drew)); exact Kd.R_mono HO_254000.out (fun _ hk => ⟨hk.1, ⟨hk.2.1, hk.2.2.1⟩⟩)⟩, ⟨by (with_reducible repeat (first | apply Kd.R_alloc | apply Kd.R_drewN | apply Kd.R_drew)); exact Kd.R_mono HO_258000.out (fun _ hk => ⟨hk.1, ⟨hk.2.1, hk.2.2.1⟩⟩)⟩, ⟨by (with_reducible repeat (first | apply Kd.R_alloc | apply Kd.R_drewN | apply Kd.R_drew)); exact Kd.R_mono HO_263000.out (fun _ hk => ⟨hk.1, ⟨hk.2.1, hk.2.2.1⟩⟩)⟩, ⟨by (with_reducible repeat (first | refine blk_drewN ?_ _ | refine blk_drew ?_ | refine blk_alloc ?_ _)); exact BK235.out⟩, ⟨by (with_reducible repeat (first | refine blk_drewN ?_ _ | refine blk_drew ?_ | refine blk_alloc ?_ _)); exact BK236.out⟩, ⟨by (with_reducible repeat (first | refine blk_drewN ?_ _ | refine blk_drew ?_ | refine blk_alloc ?_ _)); exact BK249.out⟩, ⟨by (with_reducible repeat (first | refine blk_drewN ?_ _ | refine blk_drew ?_ | refine blk_alloc ?_ _)); exact BK253.out⟩, ⟨by (with_reducible repeat (first | refine blk_drewN ?_ _ | refine blk_drew ?_ | refine blk_alloc ?_ _)); exact BK257.out⟩, ⟨by (with_reducible repeat (first | refine blk_drewN ?_ _ | refine blk_drew ?_ | refine blk_alloc ?_ _)); exact BK262.out⟩, ⟨hq6 HB GE235 GE236 GE249 GE253 GE257 GE262⟩⟩
   rw [if_neg c131] at H
   have c131b0 : decide (t274 < 0) = false := decide_eq_false c131
   clear c131
   (first | rw [c131b0] | (simp only [i64_w, i32_w]; rw [c131b0]) | skip)
   replace H := Option.bind_eq_some_iff.mp H
   obtain ⟨t276, A1320, H⟩ := H
   replace H : (if t276 = true then (laws_FnExactLessBig.j1 kj24 t248 (t261 != t248) l0_0 l1_0 t245 t258) else (laws_FnExactLessBig.j1 kj24 t248 true l0_0 l1_0 t245 t258)) = some true := H
   have A132 := Aside0.mk A1320
   clear A1320
   by_cases c133 : t276 = true
   · subst c133
     have H1 : (laws_FnExactLessBig.j1 kj24 t248 (t261 != t248) l0_0 l1_0 t245 t258) = some true := by rw [if_pos rfl] at H; exact H
     clear H
     have H := H1
     clear H1
     have H' := Aside0.mk H
     clear H
     have hnb134 := NB262_235.out
     have hnc134 := NB235_262.out
     have hnb135 := NB262_236.out
     have hnc135 := NB236_262.out
     have hnb136 := NB262_249.out
     have hnc136 := NB249_262.out
     have hnb137 := NB262_253.out
     have hnc137 := NB253_262.out
     have hnb138 := NB262_257.out
     have hnc138 := NB257_262.out
     have hcz139_0 : w130.cell? ⟨gb262, 0, none⟩ = some (.slice Ao67 t258.length co67) := (blk_cell BK262.out 0).trans rfl
     have hfz139_0 := blk_frozen BK262.out 0
     have hnb140 := NB249_235.out
     have hnc140 := NB235_249.out
     have hnb141 := NB249_236.out
     have hnc141 := NB236_249.out
     have hnb142 := NB249_253.out
     have hnc142 := NB253_249.out
     have hnb143 := NB249_257.out
     have hnc143 := NB257_249.out
     have hcz144_0 : w130.cell? ⟨gb249, 0, none⟩ = some (.slice Ao41 t245.length co41) := (blk_cell BK249.out 0).trans rfl
     have hfz144_0 := blk_frozen BK249.out 0
     go_wp2_with (first | (go_at_call 19; (with_reducible refine (laws_eqBig.calls kj24 _ _ t258 _ _ t245 true _ ?side1 ?side2 ?side3 ?side4 A132.out).mono ?_); (case side1 => repeat (first | exact (Kd.R_reads' HO_263000.out).2.2 | (with_reducible refine Kd.C_alloc ?_ _) | (with_reducible refine Kd.C_drewN ?_ _) | (with_reducible refine Kd.C_drew ?_))); (case side2 => exact (Kd.R_reads' HO_263000.out).2.1); (case side3 => repeat (first | exact (Kd.R_reads' HO_250000.out).2.2 | (with_reducible refine Kd.C_alloc ?_ _) | (with_reducible refine Kd.C_drewN ?_ _) | (with_reducible refine Kd.C_drew ?_))); (case side4 => exact (Kd.R_reads' HO_250000.out).2.1); rintro e w145 ⟨rfl, hb⟩; have n0_ := Aside0.mk (qb HO_250000 hb); have n1_ := Aside0.mk (qb HO_254000 hb); have n2_ := Aside0.mk (qb HO_258000 hb); have n3_ := Aside0.mk (qb HO_263000 hb); have n4_ := Aside0.mk (qb HO266 hb); have n5_ := Aside0.mk (qb HO270 hb); have n6_ := Aside0.mk (bB BK235 hb); have n7_ := Aside0.mk (bB BK236 hb); have n8_ := Aside0.mk (bB BK249 hb); have n9_ := Aside0.mk (bB BK253 hb); have n10_ := Aside0.mk (bB BK257 hb); have n11_ := Aside0.mk (bB BK262 hb); have n12_ := Aside0.mk (below_step (hq6 HB GE235 GE236 GE249 GE253 GE257 GE262) hb); clear HO_250000; clear HO_254000; clear HO_258000; clear HO_263000; clear HO266; clear HO270; clear BK235; clear BK236; clear BK249; clear BK253; clear BK257; clear BK262; clear HB; have HO_250000 := n0_; have HO_254000 := n1_; have HO_258000 := n2_; have HO_263000 := n3_; have HO266 := n4_; have HO270 := n5_; have BK235 := n6_; have BK236 := n7_; have BK249 := n8_; have BK253 := n9_; have BK257 := n10_; have BK262 := n11_; have HB := n12_; clear n0_ n1_ n2_ n3_ n4_ n5_ n6_ n7_ n8_ n9_ n10_ n11_ n12_; (try clear hb); (try clear hb2); (try clear hk); (try clear hi)))
     go_meet
     case rel => exact ⟨_, ((t261 != t248)), (by first | rfl | (simp; done) | (simp [*]; done)), H', ⟨by have := HJ24.out; first | omega | exact Nat.le_refl _⟩, ⟨by (with_reducible repeat (first | apply Kd.R_alloc | apply Kd.R_drewN | apply Kd.R_drew)); exact Kd.R_mono HO_250000.out (fun _ hk => ⟨hk.1, ⟨hk.2.1, hk.2.2.1⟩⟩)⟩, ⟨by (with_reducible repeat (first | apply Kd.R_alloc | apply Kd.R_drewN | apply Kd.R_drew)); exact Kd.R_mono HO_254000.out (fun _ hk => ⟨hk.1, ⟨hk.2.1, hk.2.2.1⟩⟩)⟩, ⟨by (with_reducible repeat (first | apply Kd.R_alloc | apply Kd.R_drewN | apply Kd.R_drew)); exact Kd.R_mono HO_258000.out (fun _ hk => ⟨hk.1, ⟨hk.2.1, hk.2.2.1⟩⟩)⟩, ⟨by (with_reducible repeat (first | apply Kd.R_alloc | apply Kd.R_drewN | apply Kd.R_drew)); exact Kd.R_mono HO_263000.out (fun _ hk => ⟨hk.1, ⟨hk.2.1, hk.2.2.1⟩⟩)⟩, ⟨by (with_reducible repeat (first | refine blk_drewN ?_ _ | refine blk_drew ?_ | refine blk_alloc ?_ _)); exact BK235.out⟩, ⟨by (with_reducible repeat (first | refine blk_drewN ?_ _ | refine blk_drew ?_ | refine blk_alloc ?_ _)); exact BK236.out⟩, ⟨by (with_reducible repeat (first | refine blk_drewN ?_ _ | refine blk_drew ?_ | refine blk_alloc ?_ _)); exact BK249.out⟩, ⟨by (with_reducible repeat (first | refine blk_drewN ?_ _ | refine blk_drew ?_ | refine blk_alloc ?_ _)); exact BK253.out⟩, ⟨by (with_reducible repeat (first | refine blk_drewN ?_ _ | refine blk_drew ?_ | refine blk_alloc ?_ _)); exact BK257.out⟩, ⟨by (with_reducible repeat (first | refine blk_drewN ?_ _ | refine blk_drew ?_ | refine blk_alloc ?_ _)); exact BK262.out⟩, ⟨hq6 HB GE235 GE236 GE249 GE253 GE257 GE262⟩⟩
   replace c133 := Bool.eq_false_iff.mpr c133
   subst c133
   have H1 : (laws_FnExactLessBig.j1 kj24 t248 true l0_0 l1_0 t245 t258) = some true := by rw [if_neg (show ¬ (false = true) by decide)] at H; exact H
   clear H
   have H := H1
   clear H1
   have H' := Aside0.mk H
   clear H
   have hnb146 := NB262_235.out
   have hnc146 := NB235_262.out
   have hnb147 := NB262_236.out
   have hnc147 := NB236_262.out
   have hnb148 := NB262_249.out
   have hnc148 := NB249_262.out
   have hnb149 := NB262_253.out
   have hnc149 := NB253_262.out
   have hnb150 := NB262_257.out
   have hnc150 := NB257_262.out
   have hcz151_0 : w130.cell? ⟨gb262, 0, none⟩ = some (.slice Ao67 t258.length co67) := (blk_cell BK262.out 0).trans rfl
   have hfz151_0 := blk_frozen BK262.out 0
   have hnb152 := NB249_235.out
   have hnc152 := NB235_249.out
   have hnb153 := NB249_236.out
   have hnc153 := NB236_249.out
   have hnb154 := NB249_253.out
   have hnc154 := NB253_249.out
   have hnb155 := NB249_257.out
   have hnc155 := NB257_249.out
   have hcz156_0 : w130.cell? ⟨gb249, 0, none⟩ = some (.slice Ao41 t245.length co41) := (blk_cell BK249.out 0).trans rfl
   have hfz156_0 := blk_frozen BK249.out 0
   go_wp2_with (first | (go_at_call 19; (with_reducible refine (laws_eqBig.calls kj24 _ _ t258 _ _ t245 false _ ?side1 ?side2 ?side3 ?side4 A132.out).mono ?_); (case side1 => repeat (first | exact (Kd.R_reads' HO_263000.out).2.2 | (with_reducible refine Kd.C_alloc ?_ _) | (with_reducible refine Kd.C_drewN ?_ _) | (with_reducible refine Kd.C_drew ?_))); (case side2 => exact (Kd.R_reads' HO_263000.out).2.1); (case side3 => repeat (first | exact (Kd.R_reads' HO_250000.out).2.2 | (with_reducible refine Kd.C_alloc ?_ _) | (with_reducible refine Kd.C_drewN ?_ _) | (with_reducible refine Kd.C_drew ?_))); (case side4 => exact (Kd.R_reads' HO_250000.out).2.1); rintro e w157 ⟨rfl, hb⟩; have n0_ := Aside0.mk (qb HO_250000 hb); have n1_ := Aside0.mk (qb HO_254000 hb); have n2_ := Aside0.mk (qb HO_258000 hb); have n3_ := Aside0.mk (qb HO_263000 hb); have n4_ := Aside0.mk (qb HO266 hb); have n5_ := Aside0.mk (qb HO270 hb); have n6_ := Aside0.mk (bB BK235 hb); have n7_ := Aside0.mk (bB BK236 hb); have n8_ := Aside0.mk (bB BK249 hb); have n9_ := Aside0.mk (bB BK253 hb); have n10_ := Aside0.mk (bB BK257 hb); have n11_ := Aside0.mk (bB BK262 hb); have n12_ := Aside0.mk (below_step (hq6 HB GE235 GE236 GE249 GE253 GE257 GE262) hb); clear HO_250000; clear HO_254000; clear HO_258000; clear HO_263000; clear HO266; clear HO270; clear BK235; clear BK236; clear BK249; clear BK253; clear BK257; clear BK262; clear HB; have HO_250000 := n0_; have HO_254000 := n1_; have HO_258000 := n2_; have HO_263000 := n3_; have HO266 := n4_; have HO270 := n5_; have BK235 := n6_; have BK236 := n7_; have BK249 := n8_; have BK253 := n9_; have BK257 := n10_; have BK262 := n11_; have HB := n12_; clear n0_ n1_ n2_ n3_ n4_ n5_ n6_ n7_ n8_ n9_ n10_ n11_ n12_; (try clear hb); (try clear hb2); (try clear hk); (try clear hi)))
   go_meet
   case rel => exact ⟨_, (true), (by first | rfl | (simp; done) | (simp [*]; done)), H', ⟨by have := HJ24.out; first | omega | exact Nat.le_refl _⟩, ⟨by (with_reducible repeat (first | apply Kd.R_alloc | apply Kd.R_drewN | apply Kd.R_drew)); exact Kd.R_mono HO_250000.out (fun _ hk => ⟨hk.1, ⟨hk.2.1, hk.2.2.1⟩⟩)⟩, ⟨by (with_reducible repeat (first | apply Kd.R_alloc | apply Kd.R_drewN | apply Kd.R_drew)); exact Kd.R_mono HO_254000.out (fun _ hk => ⟨hk.1, ⟨hk.2.1, hk.2.2.1⟩⟩)⟩, ⟨by (with_reducible repeat (first | apply Kd.R_alloc | apply Kd.R_drewN | apply Kd.R_drew)); exact Kd.R_mono HO_258000.out (fun _ hk => ⟨hk.1, ⟨hk.2.1, hk.2.2.1⟩⟩)⟩, ⟨by (with_reducible repeat (first | apply Kd.R_alloc | apply Kd.R_drewN | apply Kd.R_drew)); exact Kd.R_mono HO_263000.out (fun _ hk => ⟨hk.1, ⟨hk.2.1, hk.2.2.1⟩⟩)⟩, ⟨by (with_reducible repeat (first | refine blk_drewN ?_ _ | refine blk_drew ?_ | refine blk_alloc ?_ _)); exact BK235.out⟩, ⟨by (with_reducible repeat (first | refine blk_drewN ?_ _ | refine blk_drew ?_ | refine blk_alloc ?_ _)); exact BK236.out⟩, ⟨by (with_reducible repeat (first | refine blk_drewN ?_ _ | refine blk_drew ?_ | refine blk_alloc ?_ _)); exact BK249.out⟩, ⟨by (with_reducible repeat (first | refine blk_drewN ?_ _ | refine blk_drew ?_ | refine blk_alloc ?_ _)); exact BK253.out⟩, ⟨by (with_reducible repeat (first | refine blk_drewN ?_ _ | refine blk_drew ?_ | refine blk_alloc ?_ _)); exact BK257.out⟩, ⟨by (with_reducible repeat (first | refine blk_drewN ?_ _ | refine blk_drew ?_ | refine blk_alloc ?_ _)); exact BK262.out⟩, ⟨hq6 HB GE235 GE236 GE249 GE253 GE257 GE262⟩⟩
 clear HC109
 try clear c1
 try clear c2
 try clear p2
 try clear c4
 try clear c5
 try clear c6
 try clear c7
 try clear c8
 try clear c9
 try clear c10
 try clear c11
 try clear c12
 try clear c13
 try clear c14
 try clear c15
 try clear c17
 try clear c19
 try clear c22
 try clear c26
 try clear c27
 try clear c43
 try clear c48
 try clear c49
 try clear c50
 try clear c52
 try clear c57
 try clear c58
 try clear c59
 try clear c60
 try clear c68
 try clear c69
 try clear c70
 try clear c71
 try clear c72
 try clear c75
 try clear c76
 try clear c77
 try clear c78
 try clear c79
 try clear c80
 try clear c82
 try clear c83
 try clear c84
 try clear c85
 try clear c88
 try clear c89
 try clear c90
 try clear c91
 try clear c92
 try clear c94
 try clear c95
 try clear c96
 try clear c97
 try clear c100
 try clear c103
 try clear c106
 try clear c118
 try clear c119
 try clear c120
 try clear c121
 try clear c122
 try clear c125
 try clear c126
 try clear c127
 try clear c128
 try clear c131
 try clear c131b0
 try clear c133
 try clear c134
 try clear c135
 try clear c136
 try clear c137
 try clear c138
 try clear c140
 try clear c141
 try clear c142
 try clear c143
 try clear c146
 try clear c147
 try clear c148
 try clear c149
 try clear c150
 try clear c152
 try clear c153
 try clear c154
 try clear c155
 try clear hcz123_0
 try clear hcz129_0
 try clear hcz139_0
 try clear hcz144_0
 try clear hcz151_0
 try clear hcz156_0
 try clear hcz44_0
 try clear hcz51_0
 try clear hcz53_0
 try clear hcz61_0
 try clear hcz63_0
 try clear hcz64_0
 try clear hcz73_0
 try clear hcz81_0
 try clear hcz86_0
 try clear hcz93_0
 try clear hcz98_0
 try clear hfz123_0
 try clear hfz129_0
 try clear hfz139_0
 try clear hfz144_0
 try clear hfz151_0
 try clear hfz156_0
 try clear hfz44_0
 try clear hfz51_0
 try clear hfz53_0
 try clear hfz61_0
 try clear hfz63_0
 try clear hfz64_0
 try clear hfz73_0
 try clear hfz81_0
 try clear hfz86_0
 try clear hfz93_0
 try clear hfz98_0
 try clear p2
 obtain ⟨kq, x82_108, rfl, HA, HJ108, HO_250000, HO_254000, HO_258000, HO_263000, BK235, BK236, BK249, BK253, BK257, BK262, HB⟩ := hcut
 have hl254000_108 := (Kd.R_reads' HO_254000.out).1
 rw [hl254000_108] at HO_254000
 (try simp only [hl254000_108])
 (try simp only [hl254000_108] at BK235)
 (try simp only [hl254000_108] at BK236)
 (try simp only [hl254000_108] at BK249)
 (try simp only [hl254000_108] at BK253)
 (try simp only [hl254000_108] at BK257)
 (try simp only [hl254000_108] at BK262)
 (try simp only [hl254000_108] at HO_250000)
 (try simp only [hl254000_108] at HO_258000)
 (try simp only [hl254000_108] at HO_263000)
 have hl258000_108 := (Kd.R_reads' HO_258000.out).1
 rw [hl258000_108] at HO_258000
 (try simp only [hl258000_108])
 (try simp only [hl258000_108] at BK235)
 (try simp only [hl258000_108] at BK236)
 (try simp only [hl258000_108] at BK249)
 (try simp only [hl258000_108] at BK253)
 (try simp only [hl258000_108] at BK257)
 (try simp only [hl258000_108] at BK262)
 (try simp only [hl258000_108] at HO_250000)
 (try simp only [hl258000_108] at HO_254000)
 (try simp only [hl258000_108] at HO_263000)
 obtain _ | kj108 := kq
 · exact absurd HA.out (by simp [laws_FnExactLessBig.j1])
 have H := HA.out
 clear HA
 simp only [laws_FnExactLessBig.j1] at H
 by_cases c158 : x82_108 = true
 · subst c158
   have H1 : (some false) = some true := by rw [if_pos rfl] at H; exact H
   clear H
   have H := H1
   clear H1
   cases H
 replace c158 := Bool.eq_false_iff.mpr c158
 subst c158
 have H1 : ((laws_markBig.f kj108 t258 1).bind fun bt277 => ((laws_heldBig.f kj108 bt277.2 1).bind fun t279 => (if t279 < 0 then (some false) else (if t279 = bt277.1 then ((laws_toBig.f kj108 l0_0).bind fun t280 => ((laws_toBig.f kj108 l1_0).bind fun t283 => ((impl_LessBig.f kj108 t280 t283).bind fun bt286 => ((laws_eqBig.f kj108 bt286.1 t245).bind fun t291 => (if t291 = true then (laws_FnExactLessBig.j2 kj108 bt277.1 (bt286.2 != t248) bt277.2) else (laws_FnExactLessBig.j2 kj108 bt277.1 true bt277.2)))))) else (some false))))) = some true := by rw [if_neg (show ¬ (false = true) by decide)] at H; exact H
 clear H
 have H := H1
 clear H1
 replace H := Option.bind_eq_some_iff.mp H
 obtain ⟨⟨t277, t278⟩, A1590, H⟩ := H
 replace H : ((laws_heldBig.f kj108 t278 1).bind fun t279 => (if t279 < 0 then (some false) else (if t279 = t277 then ((laws_toBig.f kj108 l0_0).bind fun t280 => ((laws_toBig.f kj108 l1_0).bind fun t283 => ((impl_LessBig.f kj108 t280 t283).bind fun bt286 => ((laws_eqBig.f kj108 bt286.1 t245).bind fun t291 => (if t291 = true then (laws_FnExactLessBig.j2 kj108 t277 (bt286.2 != t248) t278) else (laws_FnExactLessBig.j2 kj108 t277 true t278)))))) else (some false)))) = some true := H
 have A159 := Aside0.mk A1590
 clear A1590
 replace H := Option.bind_eq_some_iff.mp H
 obtain ⟨t279, A1600, H⟩ := H
 replace H : (if t279 < 0 then (some false) else (if t279 = t277 then ((laws_toBig.f kj108 l0_0).bind fun t280 => ((laws_toBig.f kj108 l1_0).bind fun t283 => ((impl_LessBig.f kj108 t280 t283).bind fun bt286 => ((laws_eqBig.f kj108 bt286.1 t245).bind fun t291 => (if t291 = true then (laws_FnExactLessBig.j2 kj108 t277 (bt286.2 != t248) t278) else (laws_FnExactLessBig.j2 kj108 t277 true t278)))))) else (some false))) = some true := H
 have A160 := Aside0.mk A1600
 clear A1600
 by_cases c161 : t279 < 0
 · rw [if_pos c161] at H
   have c161b0 : decide (t279 < 0) = true := decide_eq_true c161
   clear c161
   cases H
 rw [if_neg c161] at H
 have c161b0 : decide (t279 < 0) = false := decide_eq_false c161
 clear c161
 by_cases c171 : t279 = t277
 rotate_left
 · rw [if_neg c171] at H
   have c171b0 : (t279 == t277) = false := beq_eq_false_iff_ne.mpr c171
   have c171b1 : (t279 != t277) = true := bne_iff_ne.mpr c171
   cases H
 rw [if_pos c171] at H
 have c171b0 : (t279 == t277) = true := beq_iff_eq.mpr c171
 have c171b1 : (t279 != t277) = false := bne_eq_false_iff_eq.mpr c171
 clear c171
 replace H := Option.bind_eq_some_iff.mp H
 obtain ⟨t280, A1720, H⟩ := H
 replace H : ((laws_toBig.f kj108 l1_0).bind fun t283 => ((impl_LessBig.f kj108 t280 t283).bind fun bt286 => ((laws_eqBig.f kj108 bt286.1 t245).bind fun t291 => (if t291 = true then (laws_FnExactLessBig.j2 kj108 t277 (bt286.2 != t248) t278) else (laws_FnExactLessBig.j2 kj108 t277 true t278))))) = some true := H
 have A172 := Aside0.mk A1720
 clear A1720
 replace H := Option.bind_eq_some_iff.mp H
 obtain ⟨t283, A1730, H⟩ := H
 replace H : ((impl_LessBig.f kj108 t280 t283).bind fun bt286 => ((laws_eqBig.f kj108 bt286.1 t245).bind fun t291 => (if t291 = true then (laws_FnExactLessBig.j2 kj108 t277 (bt286.2 != t248) t278) else (laws_FnExactLessBig.j2 kj108 t277 true t278)))) = some true := H
 have A173 := Aside0.mk A1730
 clear A1730
 replace H := Option.bind_eq_some_iff.mp H
 obtain ⟨⟨t286, t289⟩, A1740, H⟩ := H
 replace H : ((laws_eqBig.f kj108 t286 t245).bind fun t291 => (if t291 = true then (laws_FnExactLessBig.j2 kj108 t277 (t289 != t248) t278) else (laws_FnExactLessBig.j2 kj108 t277 true t278))) = some true := H
 have A174 := Aside0.mk A1740
 clear A1740
 have HC175 := Aside0.mk H
 clear H
 have hnb176 := NB262_235.out
 have hnc176 := NB235_262.out
 have hnb177 := NB262_236.out
 have hnc177 := NB236_262.out
 have hnb178 := NB262_249.out
 have hnc178 := NB249_262.out
 have hnb179 := NB262_253.out
 have hnc179 := NB253_262.out
 have hnb180 := NB262_257.out
 have hnc180 := NB257_262.out
 have hcz181_0 : wc.cell? ⟨gb262, 0, none⟩ = some (.slice Ao67 t258.length co67) := (blk_cell BK262.out 0).trans rfl
 have hfz181_0 := blk_frozen BK262.out 0
 try go_wp2_with (first | ((with_reducible refine gate_callee (f := 22) rfl ?_); refine goesL_ (some 85) rfl rfl Try.func22 (by kernel_rfl) rfl #[.agg #[.slice Ao67 t258.length co67], .int .i64 1] rfl (by (try simp only [List.map_toArray, List.map_cons, List.map_nil]); first | done | rfl | (simp only [List.length_drop, List.length_take]; rfl)) ?_; (with_reducible refine (laws_markBig.calls kj108 (fun k_ => some k_ = (.slice Ao67 t258.length co67 : Value).ownBlock) (.slice Ao67 t258.length co67) t258 1 t277 t278 w _ ?side1 ?side2 A159.out).mono ?_); (case side1 => repeat (first | (with_reducible first | exact HB.out | apply below_alloc | apply pw_below_drewN | apply below_drew1 | refine below_set ?_ GE235.out | refine below_set ?_ GE236.out | refine below_set ?_ GE249.out | refine below_set ?_ GE253.out | refine below_set ?_ GE257.out | refine below_set ?_ GE262.out) | exact HB.out)); (case side2 => exact Kd.R_tight rfl HO_263000.out); rintro e w182 ⟨rfl, hy0, hb, hkp⟩; refine ⟨_, rfl, ?_⟩; have n0_ := Aside0.mk (Kd.R_mono (ok' := fun k_ => some k_ ≠ (.slice Ao47 t273.length co47 : Value).ownBlock ∧ some k_ ≠ (.slice Ao56 t275.length co56 : Value).ownBlock ∧ some k_ ≠ (.slice Ao67 t258.length co67 : Value).ownBlock) (Kd.R_keptB (HO_250000.out) hkp (fun k_ hk_ hs_ => (hk_.2.2) hs_)) (fun k_ hk_ => ⟨hk_.1.1, hk_.1.2.1, hk_.1.2.2⟩)); have n1_ := Aside0.mk (Kd.R_mono (ok' := fun k_ => some k_ ≠ (.slice Ao41 t245.length co41 : Value).ownBlock ∧ some k_ ≠ (.slice Ao56 t275.length co56 : Value).ownBlock ∧ some k_ ≠ (.slice Ao67 t258.length co67 : Value).ownBlock) (Kd.R_keptB (HO_254000.out) hkp (fun k_ hk_ hs_ => (hk_.2.2) hs_)) (fun k_ hk_ => ⟨hk_.1.1, hk_.1.2.1, hk_.1.2.2⟩)); have n2_ := Aside0.mk (Kd.R_mono (ok' := fun k_ => some k_ ≠ (.slice Ao41 t245.length co41 : Value).ownBlock ∧ some k_ ≠ (.slice Ao47 t273.length co47 : Value).ownBlock ∧ some k_ ≠ (.slice Ao67 t258.length co67 : Value).ownBlock) (Kd.R_keptB (HO_258000.out) hkp (fun k_ hk_ hs_ => (hk_.2.2) hs_)) (fun k_ hk_ => ⟨hk_.1.1, hk_.1.2.1, hk_.1.2.2⟩)); have n3_ := Aside0.mk (Kd.R_reok rfl hy0 (fun k_ e_ => HO_263000.out.1 k_ e_)); have n4_ := Aside0.mk (blk_kept (bq BK235) hkp (fun hs_ => (fun e_ => (Kd.R_ne HO_263000.out BK235.out (by decide)) e_) hs_)); have n5_ := Aside0.mk (blk_kept (bq BK236) hkp (fun hs_ => (fun e_ => (Kd.R_ne HO_263000.out BK236.out (by decide)) e_) hs_)); have n6_ := Aside0.mk (blk_kept (bq BK249) hkp (fun hs_ => (fun e_ => (Kd.R_ne HO_263000.out BK249.out (by decide)) e_) hs_)); have n7_ := Aside0.mk (blk_kept (bq BK253) hkp (fun hs_ => (fun e_ => (Kd.R_ne HO_263000.out BK253.out (by decide)) e_) hs_)); have n8_ := Aside0.mk (blk_kept (bq BK257) hkp (fun hs_ => (fun e_ => (Kd.R_ne HO_263000.out BK257.out (by decide)) e_) hs_)); have n9_ := Aside0.mk (blk_kept (bq BK262) hkp (fun hs_ => (fun e_ => (Kd.R_ne HO_263000.out BK262.out (by decide)) e_) hs_)); have n10_ := Aside0.mk (hb); clear HO_250000; clear HO_254000; clear HO_258000; clear HO_263000; clear BK235; clear BK236; clear BK249; clear BK253; clear BK257; clear BK262; clear HB; have HO_250000 := n0_; have HO_254000 := n1_; have HO_258000 := n2_; have HO_263000 := n3_; have BK235 := n4_; have BK236 := n5_; have BK249 := n6_; have BK253 := n7_; have BK257 := n8_; have BK262 := n9_; have HB := n10_; clear n0_ n1_ n2_ n3_ n4_ n5_ n6_ n7_ n8_ n9_ n10_; (try clear hb); (try clear hkp); (try clear hy0); have hcz183_0 : w182.cell? ⟨gb262, 0, none⟩ = some (.slice Ao67 t258.length co67) := (blk_cell BK262.out 0).trans rfl; have hfz183_0 := blk_frozen BK262.out 0) | ((with_reducible refine gate_callee (f := 23) rfl ?_); refine goesL_ (some 88) rfl rfl Try.func23 (by kernel_rfl) rfl #[.agg #[.slice Ao67 t278.length co67], .int .i64 1] rfl (by (try simp only [List.map_toArray, List.map_cons, List.map_nil]); first | done | (rw [show t278.length = t258.length from (Kd.R_reads' HO_263000.out).1.symm] <;> rfl) | rfl | (simp only [List.length_drop, List.length_take]; rfl)) ?_; (with_reducible refine (laws_heldBig.calls kj108 _ _ t278 1 t279 _ ?side1 ?side2 A160.out).mono ?_); (case side1 => repeat (first | exact (Kd.R_reads' HO_263000.out).2.2 | (with_reducible refine Kd.C_alloc ?_ _) | (with_reducible refine Kd.C_drewN ?_ _) | (with_reducible refine Kd.C_drew ?_))); (case side2 => rw [show t278.length = t258.length from (Kd.R_reads' HO_263000.out).1.symm]; exact (Kd.R_reads' HO_263000.out).2.1); rintro e w184 ⟨rfl, hb⟩; refine ⟨_, rfl, ?_⟩; have n0_ := Aside0.mk (qb HO_250000 hb); have n1_ := Aside0.mk (qb HO_254000 hb); have n2_ := Aside0.mk (qb HO_258000 hb); have n3_ := Aside0.mk (qb HO_263000 hb); have n4_ := Aside0.mk (bB BK235 hb); have n5_ := Aside0.mk (bB BK236 hb); have n6_ := Aside0.mk (bB BK249 hb); have n7_ := Aside0.mk (bB BK253 hb); have n8_ := Aside0.mk (bB BK257 hb); have n9_ := Aside0.mk (bB BK262 hb); have n10_ := Aside0.mk (below_step (hq6 HB GE235 GE236 GE249 GE253 GE257 GE262) hb); clear HO_250000; clear HO_254000; clear HO_258000; clear HO_263000; clear BK235; clear BK236; clear BK249; clear BK253; clear BK257; clear BK262; clear HB; have HO_250000 := n0_; have HO_254000 := n1_; have HO_258000 := n2_; have HO_263000 := n3_; have BK235 := n4_; have BK236 := n5_; have BK249 := n6_; have BK253 := n7_; have BK257 := n8_; have BK262 := n9_; have HB := n10_; clear n0_ n1_ n2_ n3_ n4_ n5_ n6_ n7_ n8_ n9_ n10_; (try clear hb); (try clear hb2); (try clear hk); (try clear hi)))
 have n0_ := Aside0.mk (Kd.R_drew HO_250000.out)
 have n1_ := Aside0.mk (Kd.R_drew HO_254000.out)
 have n2_ := Aside0.mk (Kd.R_drew HO_258000.out)
 have n3_ := Aside0.mk (Kd.R_drew HO_263000.out)
 have n4_ := Aside0.mk (blk_drew BK235.out)
 have n5_ := Aside0.mk (blk_drew BK236.out)
 have n6_ := Aside0.mk (blk_drew BK249.out)
 have n7_ := Aside0.mk (blk_drew BK253.out)
 have n8_ := Aside0.mk (blk_drew BK257.out)
 have n9_ := Aside0.mk (blk_drew BK262.out)
 have n10_ := Aside0.mk (below_drew1 HB.out)
 clear HO_250000
 clear HO_254000
 clear HO_258000
 clear HO_263000
 clear BK235
 clear BK236
 clear BK249
 clear BK253
 clear BK257
 clear BK262
 clear HB
 have HO_250000 := n0_
 have HO_254000 := n1_
 have HO_258000 := n2_
 have HO_263000 := n3_
 have BK235 := n4_
 have BK236 := n5_
 have BK249 := n6_
 have BK253 := n7_
 have BK257 := n8_
 have BK262 := n9_
 have HB := n10_
 clear n0_ n1_ n2_ n3_ n4_ n5_ n6_ n7_ n8_ n9_ n10_
 refine start_ (n := 11) (S := fun w' => w'.cell? ⟨gb235, 0, none⟩ = some (.slice A0_0 l0_0.length c0_0) ∧ w'.cell? ⟨gb236, 0, none⟩ = some (.slice A1_0 l1_0.length c1_0)) (ds := []) #[false, false, false, false, false, false, false, false, false, false, false] (by kernel_rfl) rfl rfl ⟨(blk_cell BK235.out 0).trans rfl, (blk_cell BK236.out 0).trans rfl⟩ (fun hHeld => ?_); refine with_tabW laws_FnExactLessBig.tab31 laws_FnExactLessBig.bits31 (fun HT_ HW_ => ?_)
 generalize w184.drew = w185 at HO_250000 HO_254000 HO_258000 HO_263000 BK235 BK236 BK249 BK253 BK257 BK262 HB hHeld ⊢
 refine take_ (i := 0) (N := some 95) (v := ?_) (a' := ?_) #[true, false, false, false, false, false, false, false, false, false, false] rfl rfl (take_ofW HT_.out HW_.out (by kernel_rfl)) (fun _ _ _ h => h) (Or.inl ⟨by rfl, ?_⟩) hHeld ?_ ?_
 rotate_left
 · rintro w' ⟨s0, s1⟩
   go_simp
   with_reducible rfl
 rotate_left
 · simp only [Act.put, List.setIfInBounds_toArray, List.set_cons_zero, List.set_cons_succ, i64_w, i32_w]
   rfl
 refine take_ (i := 2) (N := some 97) (v := ?_) (a' := ?_) #[true, false, true, false, false, false, false, false, false, false, false] rfl rfl (take_ofW HT_.out HW_.out (by kernel_rfl)) (fun _ _ _ h => h) (Or.inl ⟨by rfl, ?_⟩) hHeld ?_ ?_
 rotate_left
 · rintro w' ⟨s0, s1⟩
   go_simp
   with_reducible rfl
 rotate_left
 · simp only [Act.put, List.setIfInBounds_toArray, List.set_cons_zero, List.set_cons_succ, i64_w, i32_w]
   rfl
 refine join_ (σ := Value × Value × Value × Nat) 2 #[true, true, true, true, true, true, true, true, true, false, false] (fun s_ => [(96, .agg #[s_.1]), (98, .agg #[s_.2.1]), (99, .tuple #[.agg #[s_.2.2.1], .bool t289]), (15, .pointer (some ⟨s_.2.2.2, 0, none⟩)), (94, .tuple #[.agg #[s_.2.2.1], .bool t289]), (100, .agg #[s_.2.2.1]), (101, .bool t289)]) (fun s_ w' => (w'.cell? ⟨gb235, 0, none⟩ = some (.slice A0_0 l0_0.length c0_0) ∧ w'.cell? ⟨gb236, 0, none⟩ = some (.slice A1_0 l1_0.length c1_0)) ∧ (Kd.R (Kd.int .i64) 3 w' w.heap.size (fun k_ => some k_ ≠ (s_.2.1 : Value).ownBlock ∧ some k_ ≠ (s_.2.2.1 : Value).ownBlock ∧ some k_ ≠ (.slice Ao41 t245.length co41 : Value).ownBlock ∧ some k_ ≠ (.slice Ao47 t273.length co47 : Value).ownBlock ∧ some k_ ≠ (.slice Ao56 t275.length co56 : Value).ownBlock ∧ some k_ ≠ (.slice Ao67 t258.length co67 : Value).ownBlock) s_.1 t280) ∧ (Kd.R (Kd.int .i64) 3 w' w.heap.size (fun k_ => some k_ ≠ (s_.1 : Value).ownBlock ∧ some k_ ≠ (s_.2.2.1 : Value).ownBlock ∧ some k_ ≠ (.slice Ao41 t245.length co41 : Value).ownBlock ∧ some k_ ≠ (.slice Ao47 t273.length co47 : Value).ownBlock ∧ some k_ ≠ (.slice Ao56 t275.length co56 : Value).ownBlock ∧ some k_ ≠ (.slice Ao67 t258.length co67 : Value).ownBlock) s_.2.1 t283) ∧ (Kd.R (Kd.int .i64) 3 w' w.heap.size (fun k_ => some k_ ≠ (s_.1 : Value).ownBlock ∧ some k_ ≠ (s_.2.1 : Value).ownBlock ∧ some k_ ≠ (.slice Ao41 t245.length co41 : Value).ownBlock ∧ some k_ ≠ (.slice Ao47 t273.length co47 : Value).ownBlock ∧ some k_ ≠ (.slice Ao56 t275.length co56 : Value).ownBlock ∧ some k_ ≠ (.slice Ao67 t258.length co67 : Value).ownBlock) s_.2.2.1 t286) ∧ (Kd.R (Kd.int .i64) 3 w' w.heap.size (fun k_ => some k_ ≠ (s_.1 : Value).ownBlock ∧ some k_ ≠ (s_.2.1 : Value).ownBlock ∧ some k_ ≠ (s_.2.2.1 : Value).ownBlock ∧ some k_ ≠ (.slice Ao47 t273.length co47 : Value).ownBlock ∧ some k_ ≠ (.slice Ao56 t275.length co56 : Value).ownBlock ∧ some k_ ≠ (.slice Ao67 t258.length co67 : Value).ownBlock) (.slice Ao41 t245.length co41) t245) ∧ (Kd.R (Kd.int .i64) 3 w' w.heap.size (fun k_ => some k_ ≠ (s_.1 : Value).ownBlock ∧ some k_ ≠ (s_.2.1 : Value).ownBlock ∧ some k_ ≠ (s_.2.2.1 : Value).ownBlock ∧ some k_ ≠ (.slice Ao41 t245.length co41 : Value).ownBlock ∧ some k_ ≠ (.slice Ao56 t275.length co56 : Value).ownBlock ∧ some k_ ≠ (.slice Ao67 t258.length co67 : Value).ownBlock) (.slice Ao47 t273.length co47) t273) ∧ (Kd.R (Kd.int .i64) 3 w' w.heap.size (fun k_ => some k_ ≠ (s_.1 : Value).ownBlock ∧ some k_ ≠ (s_.2.1 : Value).ownBlock ∧ some k_ ≠ (s_.2.2.1 : Value).ownBlock ∧ some k_ ≠ (.slice Ao41 t245.length co41 : Value).ownBlock ∧ some k_ ≠ (.slice Ao47 t273.length co47 : Value).ownBlock ∧ some k_ ≠ (.slice Ao67 t258.length co67 : Value).ownBlock) (.slice Ao56 t275.length co56) t275) ∧ (Kd.R (Kd.int .i64) 3 w' w.heap.size (fun k_ => some k_ ≠ (s_.1 : Value).ownBlock ∧ some k_ ≠ (s_.2.1 : Value).ownBlock ∧ some k_ ≠ (s_.2.2.1 : Value).ownBlock ∧ some k_ ≠ (.slice Ao41 t245.length co41 : Value).ownBlock ∧ some k_ ≠ (.slice Ao47 t273.length co47 : Value).ownBlock ∧ some k_ ≠ (.slice Ao56 t275.length co56 : Value).ownBlock) (.slice Ao67 t258.length co67) t278) ∧ (w'.heap[gb235]? = some (.cells #[.slice A0_0 l0_0.length c0_0] 24 (0, 0))) ∧ (w'.heap[gb236]? = some (.cells #[.slice A1_0 l1_0.length c1_0] 24 (0, 0))) ∧ (w'.heap[gb249]? = some (.cells #[.slice Ao41 t245.length co41] 27 (0, 0))) ∧ (w'.heap[gb253]? = some (.cells #[.slice Ao47 t273.length co47] 27 (0, 0))) ∧ (w'.heap[gb257]? = some (.cells #[.slice Ao56 t275.length co56] 27 (0, 0))) ∧ (w'.heap[gb262]? = some (.cells #[.slice Ao67 t258.length co67] 27 (0, 0))) ∧ (w'.heap[s_.2.2.2]? = some (.cells #[.slice none 0 0] 27 (0, 0))) ∧ (w.heap.size ≤ s_.2.2.2) ∧ (w.heap.size ≤ s_.2.2.2) ∧ (gb235 ≠ s_.2.2.2) ∧ (s_.2.2.2 ≠ gb235) ∧ (gb236 ≠ s_.2.2.2) ∧ (s_.2.2.2 ≠ gb236) ∧ (gb249 ≠ s_.2.2.2) ∧ (s_.2.2.2 ≠ gb249) ∧ (gb253 ≠ s_.2.2.2) ∧ (s_.2.2.2 ≠ gb253) ∧ (gb257 ≠ s_.2.2.2) ∧ (s_.2.2.2 ≠ gb257) ∧ (gb262 ≠ s_.2.2.2) ∧ (s_.2.2.2 ≠ gb262) ∧ (Below w.heap.size w w')) ?_ ?_
 rotate_left
 · intro hCont
   refine two_ (i := 1) (j := 8) (Ni := some 96) (Nj := some 15) #[true, true, true, false, false, false, false, false, false, false, false] #[true, false, true, false, false, false, false, false, true, false, false] rfl rfl rfl rfl (two_of HT_.out (by kernel_rfl)) (by decide) (by decide) (fun K hK => ?_) (fun K hK => ?_)
   · skip
     refine goes_ Try.func17 (by kernel_rfl) rfl #[.agg #[.slice A0_0 l0_0.length c0_0]] (by rfl) rfl rfl (by (try simp only [List.map_toArray, List.map_cons, List.map_nil]); first | done | rfl | (simp only [List.length_drop, List.length_take]; rfl)) ?_
     with_reducible refine (laws_toBig.calls kj108 _ _ l0_0 t280 _ ?side1 ?side2 A172.out).mono ?_
     (case side1 => repeat (first | exact (Kd.C_below HR0_0.out HB.out) | (with_reducible refine Kd.C_alloc ?_ _) | (with_reducible refine Kd.C_drewN ?_ _) | (with_reducible refine Kd.C_drew ?_)))
     (case side2 => exact HC0_0.out)
     rintro e w186 ⟨v281, rfl, ho0, hb⟩
     refine ⟨_, rfl, ?_⟩
     have n0_ := Aside0.mk (qe HO_250000 ho0 hb)
     have n1_ := Aside0.mk (qe HO_254000 ho0 hb)
     have n2_ := Aside0.mk (qe HO_258000 ho0 hb)
     have n3_ := Aside0.mk (qe HO_263000 ho0 hb)
     have n4_ := Aside0.mk (Kd.R_lower (Kd.R_new' (Kd.R_new' (Kd.R_new' (Kd.R_new' ho0 (ql HO_250000)) (ql HO_254000)) (ql HO_258000)) (ql HO_263000)) (below_size (hq6 HB GE235 GE236 GE249 GE253 GE257 GE262)))
     have n5_ := Aside0.mk (bB BK235 hb)
     have n6_ := Aside0.mk (bB BK236 hb)
     have n7_ := Aside0.mk (bB BK249 hb)
     have n8_ := Aside0.mk (bB BK253 hb)
     have n9_ := Aside0.mk (bB BK257 hb)
     have n10_ := Aside0.mk (bB BK262 hb)
     have n11_ := Aside0.mk (below_step (hq6 HB GE235 GE236 GE249 GE253 GE257 GE262) hb)
     clear HO_250000
     clear HO_254000
     clear HO_258000
     clear HO_263000
     clear BK235
     clear BK236
     clear BK249
     clear BK253
     clear BK257
     clear BK262
     clear HB
     have HO_250000 := n0_
     have HO_254000 := n1_
     have HO_258000 := n2_
     have HO_263000 := n3_
     have HO282 := n4_
     have BK235 := n5_
     have BK236 := n6_
     have BK249 := n7_
     have BK253 := n8_
     have BK257 := n9_
     have BK262 := n10_
     have HB := n11_
     clear n0_ n1_ n2_ n3_ n4_ n5_ n6_ n7_ n8_ n9_ n10_ n11_
     (try clear hb)
     (try clear hb2)
     (try clear hk)
     (try clear hi)
     (try clear ho0)
     refine hK.out _ _ ⟨(blk_cell BK235.out 0).trans rfl, (blk_cell BK236.out 0).trans rfl⟩ (fun hHeld => ?_)
     clear hK K
     refine norm_ (a' := ?_) ?_ ?_
     rotate_left
     · show Act.put _ (some 96) _ = _
       simp only [Act.put, List.setIfInBounds_toArray, List.set_cons_zero, List.set_cons_succ, i64_w, i32_w]
       rfl
     refine two_ (i := 3) (j := 8) (Ni := some 98) (Nj := some 15) #[true, true, true, true, false, false, false, false, false, false, false] #[true, true, true, false, false, false, false, false, true, false, false] rfl rfl rfl rfl (two_of HT_.out (by kernel_rfl)) (by decide) (by decide) (fun K hK => ?_) (fun K hK => ?_)
     · skip
       refine goes_ Try.func17 (by kernel_rfl) rfl #[.agg #[.slice A1_0 l1_0.length c1_0]] (by rfl) rfl rfl (by (try simp only [List.map_toArray, List.map_cons, List.map_nil]); first | done | rfl | (simp only [List.length_drop, List.length_take]; rfl)) ?_
       with_reducible refine (laws_toBig.calls kj108 _ _ l1_0 t283 _ ?side1 ?side2 A173.out).mono ?_
       (case side1 => repeat (first | exact (Kd.C_below HR1_0.out HB.out) | (with_reducible refine Kd.C_alloc ?_ _) | (with_reducible refine Kd.C_drewN ?_ _) | (with_reducible refine Kd.C_drew ?_)))
       (case side2 => exact HC1_0.out)
       rintro e w187 ⟨v284, rfl, ho0, hb⟩
       refine ⟨_, rfl, ?_⟩
       have n0_ := Aside0.mk (qe HO_250000 ho0 hb)
       have n1_ := Aside0.mk (qe HO_254000 ho0 hb)
       have n2_ := Aside0.mk (qe HO_258000 ho0 hb)
       have n3_ := Aside0.mk (qe HO_263000 ho0 hb)
       have n4_ := Aside0.mk (qe HO282 ho0 hb)
       have n5_ := Aside0.mk (Kd.R_lower (Kd.R_new' (Kd.R_new' (Kd.R_new' (Kd.R_new' (Kd.R_new' ho0 (ql HO_250000)) (ql HO_254000)) (ql HO_258000)) (ql HO_263000)) (ql HO282)) (below_size (hq6 HB GE235 GE236 GE249 GE253 GE257 GE262)))
       have n6_ := Aside0.mk (bB BK235 hb)
       have n7_ := Aside0.mk (bB BK236 hb)
       have n8_ := Aside0.mk (bB BK249 hb)
       have n9_ := Aside0.mk (bB BK253 hb)
       have n10_ := Aside0.mk (bB BK257 hb)
       have n11_ := Aside0.mk (bB BK262 hb)
       have n12_ := Aside0.mk (below_step (hq6 HB GE235 GE236 GE249 GE253 GE257 GE262) hb)
       clear HO_250000
       clear HO_254000
       clear HO_258000
       clear HO_263000
       clear HO282
       clear BK235
       clear BK236
       clear BK249
       clear BK253
       clear BK257
       clear BK262
       clear HB
       have HO_250000 := n0_
       have HO_254000 := n1_
       have HO_258000 := n2_
       have HO_263000 := n3_
       have HO282 := n4_
       have HO285 := n5_
       have BK235 := n6_
       have BK236 := n7_
       have BK249 := n8_
       have BK253 := n9_
       have BK257 := n10_
       have BK262 := n11_
       have HB := n12_
       clear n0_ n1_ n2_ n3_ n4_ n5_ n6_ n7_ n8_ n9_ n10_ n11_ n12_
       (try clear hb)
       (try clear hb2)
       (try clear hk)
       (try clear hi)
       (try clear ho0)
       obtain ⟨Ao188, co188, eo188⟩ := Kd.R_slice HO282.out
       (first | subst eo188 | (injection eo188 with f1_ f2_ f3_; have f4_ := f1_.symm; have f5_ := f3_.symm; clear f1_ f2_ f3_; subst f4_; subst f5_))
       obtain ⟨Ao189, co189, eo189⟩ := Kd.R_slice HO285.out
       (first | subst eo189 | (injection eo189 with f1_ f2_ f3_; have f4_ := f1_.symm; have f5_ := f3_.symm; clear f1_ f2_ f3_; subst f4_; subst f5_))
       refine hK.out _ _ ⟨(blk_cell BK235.out 0).trans rfl, (blk_cell BK236.out 0).trans rfl⟩ (fun hHeld => ?_)
       clear hK K
       refine norm_ (a' := ?_) ?_ ?_
       rotate_left
       · show Act.put _ (some 98) _ = _
         simp only [Act.put, List.setIfInBounds_toArray, List.set_cons_zero, List.set_cons_succ, i64_w, i32_w]
         rfl
       refine two_ (i := 4) (j := 8) (Ni := some 99) (Nj := some 15) #[true, true, true, true, true, false, false, false, false, false, false] #[true, true, true, true, false, false, false, false, true, false, false] rfl rfl rfl rfl (two_of HT_.out (by kernel_rfl)) (by decide) (by decide) (fun K hK => ?_) (fun K hK => ?_)
       · skip
         refine goes_ Try.func27 (by kernel_rfl) rfl #[.agg #[.slice Ao188 t280.length co188], .agg #[.slice Ao189 t283.length co189]] (by rfl) rfl rfl (by (try simp only [List.map_toArray, List.map_cons, List.map_nil]); first | done | rfl | (simp only [List.length_drop, List.length_take]; rfl)) ?_
         with_reducible refine (impl_LessBig.calls kj108 (fun k_ => some k_ = (.slice Ao188 t280.length co188 : Value).ownBlock) _ _ t280 (fun k_ => some k_ = (.slice Ao189 t283.length co189 : Value).ownBlock) _ _ t283 t286 t289 _ ?side1 ?side2 A174.out).mono ?_
         (case side1 => exact Kd.R_V (Kd.R_tight rfl (Kd.R_types (Kd.R_types (Kd.R_types (Kd.R_types (Kd.R_types (Kd.R_types (HO282.out) BK235.out (by decide)) BK236.out (by decide)) BK249.out (by decide)) BK253.out (by decide)) BK257.out (by decide)) BK262.out (by decide))))
         (case side2 => exact Kd.R_V (Kd.R_tight rfl (Kd.R_types (Kd.R_types (Kd.R_types (Kd.R_types (Kd.R_types (Kd.R_types (HO285.out) BK235.out (by decide)) BK236.out (by decide)) BK249.out (by decide)) BK253.out (by decide)) BK257.out (by decide)) BK262.out (by decide))))
         rintro e w190 ⟨v287, rfl, ho0, hb⟩
         refine ⟨_, rfl, ?_⟩
         have n0_ := Aside0.mk (qe HO_250000 ho0 hb)
         have n1_ := Aside0.mk (qe HO_254000 ho0 hb)
         have n2_ := Aside0.mk (qe HO_258000 ho0 hb)
         have n3_ := Aside0.mk (qe HO_263000 ho0 hb)
         have n4_ := Aside0.mk (qe HO282 ho0 hb)
         have n5_ := Aside0.mk (qe HO285 ho0 hb)
         have n6_ := Aside0.mk (Kd.R_lower (Kd.R_new' (Kd.R_new' (Kd.R_new' (Kd.R_new' (Kd.R_new' (Kd.R_new' (Kd.R_mono (ok' := fun k_ => True) ho0 (fun _ hk_ => trivial)) (ql HO_250000)) (ql HO_254000)) (ql HO_258000)) (ql HO_263000)) (ql HO282)) (ql HO285)) (below_size (hq6 HB GE235 GE236 GE249 GE253 GE257 GE262)))
         have n7_ := Aside0.mk (bB BK235 hb)
         have n8_ := Aside0.mk (bB BK236 hb)
         have n9_ := Aside0.mk (bB BK249 hb)
         have n10_ := Aside0.mk (bB BK253 hb)
         have n11_ := Aside0.mk (bB BK257 hb)
         have n12_ := Aside0.mk (bB BK262 hb)
         have n13_ := Aside0.mk (below_step (hq6 HB GE235 GE236 GE249 GE253 GE257 GE262) hb)
         clear HO_250000
         clear HO_254000
         clear HO_258000
         clear HO_263000
         clear HO282
         clear HO285
         clear BK235
         clear BK236
         clear BK249
         clear BK253
         clear BK257
         clear BK262
         clear HB
         have HO_250000 := n0_
         have HO_254000 := n1_
         have HO_258000 := n2_
         have HO_263000 := n3_
         have HO282 := n4_
         have HO285 := n5_
         have HO288 := n6_
         have BK235 := n7_
         have BK236 := n8_
         have BK249 := n9_
         have BK253 := n10_
         have BK257 := n11_
         have BK262 := n12_
         have HB := n13_
         clear n0_ n1_ n2_ n3_ n4_ n5_ n6_ n7_ n8_ n9_ n10_ n11_ n12_ n13_
         (try clear hb)
         (try clear hb2)
         (try clear hk)
         (try clear hi)
         (try clear ho0)
         refine hK.out _ _ ⟨(blk_cell BK235.out 0).trans rfl, (blk_cell BK236.out 0).trans rfl⟩ (fun hHeld => ?_)
         clear hK K
         refine norm_ (a' := ?_) ?_ ?_
         rotate_left
         · show Act.put _ (some 99) _ = _
           simp only [Act.put, List.setIfInBounds_toArray, List.set_cons_zero, List.set_cons_succ, i64_w, i32_w]
           rfl
         refine pure_ (i := 5) (N := some 94) (v := ?_) (a' := ?_) #[true, true, true, true, true, true, false, false, false, false, false] rfl rfl (any_of HT_.out (by kernel_rfl)) (fun _ _ _ h => h) (Or.inl ⟨by rfl, ?_⟩) ?_ ?_
         rotate_left
         · intro w'
           first | (go_simp; with_reducible rfl) | (go_simp; unfold Instr.field; go_simp; rfl)
         rotate_left
         · simp only [Act.put, List.setIfInBounds_toArray, List.set_cons_zero, List.set_cons_succ, i64_w, i32_w]
           rfl
         refine pure_ (i := 6) (N := some 100) (v := ?_) (a' := ?_) #[true, true, true, true, true, true, true, false, false, false, false] rfl rfl (any_of HT_.out (by kernel_rfl)) (fun _ _ _ h => h) (Or.inl ⟨by rfl, ?_⟩) ?_ ?_
         rotate_left
         · intro w'
           first | (go_simp; with_reducible rfl) | (go_simp; unfold Instr.field; go_simp; rfl)
         rotate_left
         · simp only [Act.put, List.setIfInBounds_toArray, List.set_cons_zero, List.set_cons_succ, i64_w, i32_w]
           rfl
         refine pure_ (i := 7) (N := some 101) (v := ?_) (a' := ?_) #[true, true, true, true, true, true, true, true, false, false, false] rfl rfl (any_of HT_.out (by kernel_rfl)) (fun _ _ _ h => h) (Or.inl ⟨by rfl, ?_⟩) ?_ ?_
         rotate_left
         · intro w'
           first | (go_simp; with_reducible rfl) | (go_simp; unfold Instr.field; go_simp; rfl)
         rotate_left
         · simp only [Act.put, List.setIfInBounds_toArray, List.set_cons_zero, List.set_cons_succ, i64_w, i32_w]
           rfl
         refine one_ (i := 8) (N := some 15) #[true, true, true, true, true, true, true, true, true, false, false] rfl rfl (one_of HT_.out (by kernel_rfl)) (by decide) (fun K hK => ?_)
         refine box_step ?hg (N := 15) ?hd (cs := #[.slice none 0 0]) (t := 27) ?hr ?_; (case hd => rfl); (case hg => rfl); (case hr => first | (go_simp; done) | (go_simp; rfl))
         intro gb290 hg w191 hbox hb
         have n0_ := Aside0.mk (qb HO_250000 hb)
         have n1_ := Aside0.mk (qb HO_254000 hb)
         have n2_ := Aside0.mk (qb HO_258000 hb)
         have n3_ := Aside0.mk (qb HO_263000 hb)
         have n4_ := Aside0.mk (qb HO282 hb)
         have n5_ := Aside0.mk (qb HO285 hb)
         have n6_ := Aside0.mk (qb HO288 hb)
         have n7_ := Aside0.mk (bB BK235 hb)
         have n8_ := Aside0.mk (bB BK236 hb)
         have n9_ := Aside0.mk (bB BK249 hb)
         have n10_ := Aside0.mk (bB BK253 hb)
         have n11_ := Aside0.mk (bB BK257 hb)
         have n12_ := Aside0.mk (bB BK262 hb)
         have n13_ := Aside0.mk (below_step (hq6 HB GE235 GE236 GE249 GE253 GE257 GE262) hb)
         have n14_ := Aside0.mk (hbox)
         have n15_ := Aside0.mk (ng hg (hq6 HB GE235 GE236 GE249 GE253 GE257 GE262))
         have n16_ := Aside0.mk (ng hg (hq6 HB GE235 GE236 GE249 GE253 GE257 GE262))
         have n17_ := Aside0.mk (nl hg BK235)
         have n18_ := Aside0.mk (nr hg BK235)
         have n19_ := Aside0.mk (nl hg BK236)
         have n20_ := Aside0.mk (nr hg BK236)
         have n21_ := Aside0.mk (nl hg BK249)
         have n22_ := Aside0.mk (nr hg BK249)
         have n23_ := Aside0.mk (nl hg BK253)
         have n24_ := Aside0.mk (nr hg BK253)
         have n25_ := Aside0.mk (nl hg BK257)
         have n26_ := Aside0.mk (nr hg BK257)
         have n27_ := Aside0.mk (nl hg BK262)
         have n28_ := Aside0.mk (nr hg BK262)
         clear HO_250000
         clear HO_254000
         clear HO_258000
         clear HO_263000
         clear HO282
         clear HO285
         clear HO288
         clear BK235
         clear BK236
         clear BK249
         clear BK253
         clear BK257
         clear BK262
         clear HB
         have HO_250000 := n0_
         have HO_254000 := n1_
         have HO_258000 := n2_
         have HO_263000 := n3_
         have HO282 := n4_
         have HO285 := n5_
         have HO288 := n6_
         have BK235 := n7_
         have BK236 := n8_
         have BK249 := n9_
         have BK253 := n10_
         have BK257 := n11_
         have BK262 := n12_
         have HB := n13_
         have BK290 := n14_
         have GW290 := n15_
         have GE290 := n16_
         have NB235_290 := n17_
         have NB290_235 := n18_
         have NB236_290 := n19_
         have NB290_236 := n20_
         have NB249_290 := n21_
         have NB290_249 := n22_
         have NB253_290 := n23_
         have NB290_253 := n24_
         have NB257_290 := n25_
         have NB290_257 := n26_
         have NB262_290 := n27_
         have NB290_262 := n28_
         clear n0_ n1_ n2_ n3_ n4_ n5_ n6_ n7_ n8_ n9_ n10_ n11_ n12_ n13_ n14_ n15_ n16_ n17_ n18_ n19_ n20_ n21_ n22_ n23_ n24_ n25_ n26_ n27_ n28_
         clear hb hbox hg
         refine hK.out _ _ ⟨(blk_cell BK235.out 0).trans rfl, (blk_cell BK236.out 0).trans rfl⟩ (fun hHeld => ?_)
         clear hK K
         refine norm_ (a' := ?_) ?_ ?_
         rotate_left
         · show Act.put _ (some 15) _ = _
           simp only [Act.put, List.setIfInBounds_toArray, List.set_cons_zero, List.set_cons_succ, i64_w, i32_w]
           rfl
         exact norm_ (by simp only [putAll, Act.put, List.setIfInBounds_toArray, List.set_cons_zero, List.set_cons_succ]) (hCont (.slice Ao188 t280.length co188, .slice Ao189 t283.length co189, v287, gb290) _ ⟨hHeld, (by (with_reducible repeat (first | apply Kd.R_alloc | apply Kd.R_drewN | apply Kd.R_drew)); exact Kd.R_mono HO282.out (fun _ hk => ⟨hk.1.2, ⟨hk.2, ⟨hk.1.1.1.1.1.2, ⟨hk.1.1.1.1.2, ⟨hk.1.1.1.2, hk.1.1.2⟩⟩⟩⟩⟩)), (by (with_reducible repeat (first | apply Kd.R_alloc | apply Kd.R_drewN | apply Kd.R_drew)); exact Kd.R_mono HO285.out (fun _ hk => ⟨hk.1.2, ⟨hk.2, ⟨hk.1.1.1.1.1.2, ⟨hk.1.1.1.1.2, ⟨hk.1.1.1.2, hk.1.1.2⟩⟩⟩⟩⟩)), (by (with_reducible repeat (first | apply Kd.R_alloc | apply Kd.R_drewN | apply Kd.R_drew)); exact Kd.R_mono HO288.out (fun _ hk => ⟨hk.1.2, ⟨hk.2, ⟨hk.1.1.1.1.1.2, ⟨hk.1.1.1.1.2, ⟨hk.1.1.1.2, hk.1.1.2⟩⟩⟩⟩⟩)), (by (with_reducible repeat (first | apply Kd.R_alloc | apply Kd.R_drewN | apply Kd.R_drew)); exact Kd.R_mono HO_250000.out (fun _ hk => ⟨hk.1.1.2, ⟨hk.1.2, ⟨hk.2, ⟨hk.1.1.1.1, ⟨hk.1.1.1.2.1, hk.1.1.1.2.2⟩⟩⟩⟩⟩)), (by (with_reducible repeat (first | apply Kd.R_alloc | apply Kd.R_drewN | apply Kd.R_drew)); exact Kd.R_mono HO_254000.out (fun _ hk => ⟨hk.1.1.2, ⟨hk.1.2, ⟨hk.2, ⟨hk.1.1.1.1, ⟨hk.1.1.1.2.1, hk.1.1.1.2.2⟩⟩⟩⟩⟩)), (by (with_reducible repeat (first | apply Kd.R_alloc | apply Kd.R_drewN | apply Kd.R_drew)); exact Kd.R_mono HO_258000.out (fun _ hk => ⟨hk.1.1.2, ⟨hk.1.2, ⟨hk.2, ⟨hk.1.1.1.1, ⟨hk.1.1.1.2.1, hk.1.1.1.2.2⟩⟩⟩⟩⟩)), (by (with_reducible repeat (first | apply Kd.R_alloc | apply Kd.R_drewN | apply Kd.R_drew)); exact Kd.R_mono HO_263000.out (fun _ hk => ⟨hk.1.1.2, ⟨hk.1.2, ⟨hk.2, ⟨hk.1.1.1.1, ⟨hk.1.1.1.2.1, hk.1.1.1.2.2⟩⟩⟩⟩⟩)), (bq BK235), (bq BK236), (bq BK249), (bq BK253), (bq BK257), (bq BK262), (bq BK290), GW290.out, GE290.out, NB235_290.out, NB290_235.out, NB236_290.out, NB290_236.out, NB249_290.out, NB290_249.out, NB253_290.out, NB290_253.out, NB257_290.out, NB290_257.out, NB262_290.out, NB290_262.out, (hq7 HB GE235 GE236 GE249 GE253 GE257 GE262 GE290)⟩)
       skip
       refine box_step ?hg (N := 15) ?hd (cs := #[.slice none 0 0]) (t := 27) ?hr ?_; (case hd => rfl); (case hg => rfl); (case hr => first | (go_simp; done) | (go_simp; rfl))
       intro gb290 hg w188 hbox hb
       have n0_ := Aside0.mk (qb HO_250000 hb)
       have n1_ := Aside0.mk (qb HO_254000 hb)
       have n2_ := Aside0.mk (qb HO_258000 hb)
       have n3_ := Aside0.mk (qb HO_263000 hb)
       have n4_ := Aside0.mk (qb HO282 hb)
       have n5_ := Aside0.mk (qb HO285 hb)
       have n6_ := Aside0.mk (bB BK235 hb)
       have n7_ := Aside0.mk (bB BK236 hb)
       have n8_ := Aside0.mk (bB BK249 hb)
       have n9_ := Aside0.mk (bB BK253 hb)
       have n10_ := Aside0.mk (bB BK257 hb)
       have n11_ := Aside0.mk (bB BK262 hb)
       have n12_ := Aside0.mk (below_step (hq6 HB GE235 GE236 GE249 GE253 GE257 GE262) hb)
       have n13_ := Aside0.mk (hbox)
       have n14_ := Aside0.mk (ng hg (hq6 HB GE235 GE236 GE249 GE253 GE257 GE262))
       have n15_ := Aside0.mk (ng hg (hq6 HB GE235 GE236 GE249 GE253 GE257 GE262))
       have n16_ := Aside0.mk (nl hg BK235)
       have n17_ := Aside0.mk (nr hg BK235)
       have n18_ := Aside0.mk (nl hg BK236)
       have n19_ := Aside0.mk (nr hg BK236)
       have n20_ := Aside0.mk (nl hg BK249)
       have n21_ := Aside0.mk (nr hg BK249)
       have n22_ := Aside0.mk (nl hg BK253)
       have n23_ := Aside0.mk (nr hg BK253)
       have n24_ := Aside0.mk (nl hg BK257)
       have n25_ := Aside0.mk (nr hg BK257)
       have n26_ := Aside0.mk (nl hg BK262)
       have n27_ := Aside0.mk (nr hg BK262)
       clear HO_250000
       clear HO_254000
       clear HO_258000
       clear HO_263000
       clear HO282
       clear HO285
       clear BK235
       clear BK236
       clear BK249
       clear BK253
       clear BK257
       clear BK262
       clear HB
       have HO_250000 := n0_
       have HO_254000 := n1_
       have HO_258000 := n2_
       have HO_263000 := n3_
       have HO282 := n4_
       have HO285 := n5_
       have BK235 := n6_
       have BK236 := n7_
       have BK249 := n8_
       have BK253 := n9_
       have BK257 := n10_
       have BK262 := n11_
       have HB := n12_
       have BK290 := n13_
       have GW290 := n14_
       have GE290 := n15_
       have NB235_290 := n16_
       have NB290_235 := n17_
       have NB236_290 := n18_
       have NB290_236 := n19_
       have NB249_290 := n20_
       have NB290_249 := n21_
       have NB253_290 := n22_
       have NB290_253 := n23_
       have NB257_290 := n24_
       have NB290_257 := n25_
       have NB262_290 := n26_
       have NB290_262 := n27_
       clear n0_ n1_ n2_ n3_ n4_ n5_ n6_ n7_ n8_ n9_ n10_ n11_ n12_ n13_ n14_ n15_ n16_ n17_ n18_ n19_ n20_ n21_ n22_ n23_ n24_ n25_ n26_ n27_
       clear hb hbox hg
       obtain ⟨Ao189, co189, eo189⟩ := Kd.R_slice HO282.out
       (first | subst eo189 | (injection eo189 with f1_ f2_ f3_; have f4_ := f1_.symm; have f5_ := f3_.symm; clear f1_ f2_ f3_; subst f4_; subst f5_))
       obtain ⟨Ao190, co190, eo190⟩ := Kd.R_slice HO285.out
       (first | subst eo190 | (injection eo190 with f1_ f2_ f3_; have f4_ := f1_.symm; have f5_ := f3_.symm; clear f1_ f2_ f3_; subst f4_; subst f5_))
       refine hK.out _ _ ⟨(blk_cell BK235.out 0).trans rfl, (blk_cell BK236.out 0).trans rfl⟩ (fun hHeld => ?_)
       clear hK K
       refine norm_ (a' := ?_) ?_ ?_
       rotate_left
       · show Act.put _ (some 15) _ = _
         simp only [Act.put, List.setIfInBounds_toArray, List.set_cons_zero, List.set_cons_succ, i64_w, i32_w]
         rfl
       refine one_ (i := 4) (N := some 99) #[true, true, true, true, true, false, false, false, true, false, false] rfl rfl (one_of HT_.out (by kernel_rfl)) (by decide) (fun K hK => ?_)
       refine goes_ Try.func27 (by kernel_rfl) rfl #[.agg #[.slice Ao189 t280.length co189], .agg #[.slice Ao190 t283.length co190]] (by rfl) rfl rfl (by (try simp only [List.map_toArray, List.map_cons, List.map_nil]); first | done | rfl | (simp only [List.length_drop, List.length_take]; rfl)) ?_
       with_reducible refine (impl_LessBig.calls kj108 (fun k_ => some k_ = (.slice Ao189 t280.length co189 : Value).ownBlock) _ _ t280 (fun k_ => some k_ = (.slice Ao190 t283.length co190 : Value).ownBlock) _ _ t283 t286 t289 _ ?side1 ?side2 A174.out).mono ?_
       (case side1 => exact Kd.R_V (Kd.R_tight rfl (Kd.R_types (Kd.R_types (Kd.R_types (Kd.R_types (Kd.R_types (Kd.R_types (Kd.R_types (HO282.out) BK235.out (by decide)) BK236.out (by decide)) BK249.out (by decide)) BK253.out (by decide)) BK257.out (by decide)) BK262.out (by decide)) BK290.out (by decide))))
       (case side2 => exact Kd.R_V (Kd.R_tight rfl (Kd.R_types (Kd.R_types (Kd.R_types (Kd.R_types (Kd.R_types (Kd.R_types (Kd.R_types (HO285.out) BK235.out (by decide)) BK236.out (by decide)) BK249.out (by decide)) BK253.out (by decide)) BK257.out (by decide)) BK262.out (by decide)) BK290.out (by decide))))
       rintro e w191 ⟨v287, rfl, ho0, hb⟩
       refine ⟨_, rfl, ?_⟩
       have n0_ := Aside0.mk (qe HO_250000 ho0 hb)
       have n1_ := Aside0.mk (qe HO_254000 ho0 hb)
       have n2_ := Aside0.mk (qe HO_258000 ho0 hb)
       have n3_ := Aside0.mk (qe HO_263000 ho0 hb)
       have n4_ := Aside0.mk (qe HO282 ho0 hb)
       have n5_ := Aside0.mk (qe HO285 ho0 hb)
       have n6_ := Aside0.mk (Kd.R_lower (Kd.R_new' (Kd.R_new' (Kd.R_new' (Kd.R_new' (Kd.R_new' (Kd.R_new' (Kd.R_mono (ok' := fun k_ => True) ho0 (fun _ hk_ => trivial)) (ql HO_250000)) (ql HO_254000)) (ql HO_258000)) (ql HO_263000)) (ql HO282)) (ql HO285)) (below_size (hq7 HB GE235 GE236 GE249 GE253 GE257 GE262 GE290)))
       have n7_ := Aside0.mk (bB BK235 hb)
       have n8_ := Aside0.mk (bB BK236 hb)
       have n9_ := Aside0.mk (bB BK249 hb)
       have n10_ := Aside0.mk (bB BK253 hb)
       have n11_ := Aside0.mk (bB BK257 hb)
       have n12_ := Aside0.mk (bB BK262 hb)
       have n13_ := Aside0.mk (bB BK290 hb)
       have n14_ := Aside0.mk (below_step (hq7 HB GE235 GE236 GE249 GE253 GE257 GE262 GE290) hb)
       clear HO_250000
       clear HO_254000
       clear HO_258000
       clear HO_263000
       clear HO282
       clear HO285
       clear BK235
       clear BK236
       clear BK249
       clear BK253
       clear BK257
       clear BK262
       clear BK290
       clear HB
       have HO_250000 := n0_
       have HO_254000 := n1_
       have HO_258000 := n2_
       have HO_263000 := n3_
       have HO282 := n4_
       have HO285 := n5_
       have HO288 := n6_
       have BK235 := n7_
       have BK236 := n8_
       have BK249 := n9_
       have BK253 := n10_
       have BK257 := n11_
       have BK262 := n12_
       have BK290 := n13_
       have HB := n14_
       clear n0_ n1_ n2_ n3_ n4_ n5_ n6_ n7_ n8_ n9_ n10_ n11_ n12_ n13_ n14_
       (try clear hb)
       (try clear hb2)
       (try clear hk)
       (try clear hi)
       (try clear ho0)
       refine hK.out _ _ ⟨(blk_cell BK235.out 0).trans rfl, (blk_cell BK236.out 0).trans rfl⟩ (fun hHeld => ?_)
       clear hK K
       refine norm_ (a' := ?_) ?_ ?_
       rotate_left
       · show Act.put _ (some 99) _ = _
         simp only [Act.put, List.setIfInBounds_toArray, List.set_cons_zero, List.set_cons_succ, i64_w, i32_w]
         rfl
       refine pure_ (i := 5) (N := some 94) (v := ?_) (a' := ?_) #[true, true, true, true, true, true, false, false, true, false, false] rfl rfl (any_of HT_.out (by kernel_rfl)) (fun _ _ _ h => h) (Or.inl ⟨by rfl, ?_⟩) ?_ ?_
       rotate_left
       · intro w'
         first | (go_simp; with_reducible rfl) | (go_simp; unfold Instr.field; go_simp; rfl)
       rotate_left
       · simp only [Act.put, List.setIfInBounds_toArray, List.set_cons_zero, List.set_cons_succ, i64_w, i32_w]
         rfl
       refine pure_ (i := 6) (N := some 100) (v := ?_) (a' := ?_) #[true, true, true, true, true, true, true, false, true, false, false] rfl rfl (any_of HT_.out (by kernel_rfl)) (fun _ _ _ h => h) (Or.inl ⟨by rfl, ?_⟩) ?_ ?_
       rotate_left
       · intro w'
         first | (go_simp; with_reducible rfl) | (go_simp; unfold Instr.field; go_simp; rfl)
       rotate_left
       · simp only [Act.put, List.setIfInBounds_toArray, List.set_cons_zero, List.set_cons_succ, i64_w, i32_w]
         rfl
       refine pure_ (i := 7) (N := some 101) (v := ?_) (a' := ?_) #[true, true, true, true, true, true, true, true, true, false, false] rfl rfl (any_of HT_.out (by kernel_rfl)) (fun _ _ _ h => h) (Or.inl ⟨by rfl, ?_⟩) ?_ ?_
       rotate_left
       · intro w'
         first | (go_simp; with_reducible rfl) | (go_simp; unfold Instr.field; go_simp; rfl)
       rotate_left
       · simp only [Act.put, List.setIfInBounds_toArray, List.set_cons_zero, List.set_cons_succ, i64_w, i32_w]
         rfl
       exact norm_ (by simp only [putAll, Act.put, List.setIfInBounds_toArray, List.set_cons_zero, List.set_cons_succ]) (hCont (.slice Ao189 t280.length co189, .slice Ao190 t283.length co190, v287, gb290) _ ⟨hHeld, (by (with_reducible repeat (first | apply Kd.R_alloc | apply Kd.R_drewN | apply Kd.R_drew)); exact Kd.R_mono HO282.out (fun _ hk => ⟨hk.1.2, ⟨hk.2, ⟨hk.1.1.1.1.1.2, ⟨hk.1.1.1.1.2, ⟨hk.1.1.1.2, hk.1.1.2⟩⟩⟩⟩⟩)), (by (with_reducible repeat (first | apply Kd.R_alloc | apply Kd.R_drewN | apply Kd.R_drew)); exact Kd.R_mono HO285.out (fun _ hk => ⟨hk.1.2, ⟨hk.2, ⟨hk.1.1.1.1.1.2, ⟨hk.1.1.1.1.2, ⟨hk.1.1.1.2, hk.1.1.2⟩⟩⟩⟩⟩)), (by (with_reducible repeat (first | apply Kd.R_alloc | apply Kd.R_drewN | apply Kd.R_drew)); exact Kd.R_mono HO288.out (fun _ hk => ⟨hk.1.2, ⟨hk.2, ⟨hk.1.1.1.1.1.2, ⟨hk.1.1.1.1.2, ⟨hk.1.1.1.2, hk.1.1.2⟩⟩⟩⟩⟩)), (by (with_reducible repeat (first | apply Kd.R_alloc | apply Kd.R_drewN | apply Kd.R_drew)); exact Kd.R_mono HO_250000.out (fun _ hk => ⟨hk.1.1.2, ⟨hk.1.2, ⟨hk.2, ⟨hk.1.1.1.1, ⟨hk.1.1.1.2.1, hk.1.1.1.2.2⟩⟩⟩⟩⟩)), (by (with_reducible repeat (first | apply Kd.R_alloc | apply Kd.R_drewN | apply Kd.R_drew)); exact Kd.R_mono HO_254000.out (fun _ hk => ⟨hk.1.1.2, ⟨hk.1.2, ⟨hk.2, ⟨hk.1.1.1.1, ⟨hk.1.1.1.2.1, hk.1.1.1.2.2⟩⟩⟩⟩⟩)), (by (with_reducible repeat (first | apply Kd.R_alloc | apply Kd.R_drewN | apply Kd.R_drew)); exact Kd.R_mono HO_258000.out (fun _ hk => ⟨hk.1.1.2, ⟨hk.1.2, ⟨hk.2, ⟨hk.1.1.1.1, ⟨hk.1.1.1.2.1, hk.1.1.1.2.2⟩⟩⟩⟩⟩)), (by (with_reducible repeat (first | apply Kd.R_alloc | apply Kd.R_drewN | apply Kd.R_drew)); exact Kd.R_mono HO_263000.out (fun _ hk => ⟨hk.1.1.2, ⟨hk.1.2, ⟨hk.2, ⟨hk.1.1.1.1, ⟨hk.1.1.1.2.1, hk.1.1.1.2.2⟩⟩⟩⟩⟩)), (bq BK235), (bq BK236), (bq BK249), (bq BK253), (bq BK257), (bq BK262), (bq BK290), GW290.out, GE290.out, NB235_290.out, NB290_235.out, NB236_290.out, NB290_236.out, NB249_290.out, NB290_249.out, NB253_290.out, NB290_253.out, NB257_290.out, NB290_257.out, NB262_290.out, NB290_262.out, (hq7 HB GE235 GE236 GE249 GE253 GE257 GE262 GE290)⟩)
     skip
     refine box_step ?hg (N := 15) ?hd (cs := #[.slice none 0 0]) (t := 27) ?hr ?_; (case hd => rfl); (case hg => rfl); (case hr => first | (go_simp; done) | (go_simp; rfl))
     intro gb290 hg w187 hbox hb
     have n0_ := Aside0.mk (qb HO_250000 hb)
     have n1_ := Aside0.mk (qb HO_254000 hb)
     have n2_ := Aside0.mk (qb HO_258000 hb)
     have n3_ := Aside0.mk (qb HO_263000 hb)
     have n4_ := Aside0.mk (qb HO282 hb)
     have n5_ := Aside0.mk (bB BK235 hb)
     have n6_ := Aside0.mk (bB BK236 hb)
     have n7_ := Aside0.mk (bB BK249 hb)
     have n8_ := Aside0.mk (bB BK253 hb)
     have n9_ := Aside0.mk (bB BK257 hb)
     have n10_ := Aside0.mk (bB BK262 hb)
     have n11_ := Aside0.mk (below_step (hq6 HB GE235 GE236 GE249 GE253 GE257 GE262) hb)
     have n12_ := Aside0.mk (hbox)
     have n13_ := Aside0.mk (ng hg (hq6 HB GE235 GE236 GE249 GE253 GE257 GE262))
     have n14_ := Aside0.mk (ng hg (hq6 HB GE235 GE236 GE249 GE253 GE257 GE262))
     have n15_ := Aside0.mk (nl hg BK235)
     have n16_ := Aside0.mk (nr hg BK235)
     have n17_ := Aside0.mk (nl hg BK236)
     have n18_ := Aside0.mk (nr hg BK236)
     have n19_ := Aside0.mk (nl hg BK249)
     have n20_ := Aside0.mk (nr hg BK249)
     have n21_ := Aside0.mk (nl hg BK253)
     have n22_ := Aside0.mk (nr hg BK253)
     have n23_ := Aside0.mk (nl hg BK257)
     have n24_ := Aside0.mk (nr hg BK257)
     have n25_ := Aside0.mk (nl hg BK262)
     have n26_ := Aside0.mk (nr hg BK262)
     clear HO_250000
     clear HO_254000
     clear HO_258000
     clear HO_263000
     clear HO282
     clear BK235
     clear BK236
     clear BK249
     clear BK253
     clear BK257
     clear BK262
     clear HB
     have HO_250000 := n0_
     have HO_254000 := n1_
     have HO_258000 := n2_
     have HO_263000 := n3_
     have HO282 := n4_
     have BK235 := n5_
     have BK236 := n6_
     have BK249 := n7_
     have BK253 := n8_
     have BK257 := n9_
     have BK262 := n10_
     have HB := n11_
     have BK290 := n12_
     have GW290 := n13_
     have GE290 := n14_
     have NB235_290 := n15_
     have NB290_235 := n16_
     have NB236_290 := n17_
     have NB290_236 := n18_
     have NB249_290 := n19_
     have NB290_249 := n20_
     have NB253_290 := n21_
     have NB290_253 := n22_
     have NB257_290 := n23_
     have NB290_257 := n24_
     have NB262_290 := n25_
     have NB290_262 := n26_
     clear n0_ n1_ n2_ n3_ n4_ n5_ n6_ n7_ n8_ n9_ n10_ n11_ n12_ n13_ n14_ n15_ n16_ n17_ n18_ n19_ n20_ n21_ n22_ n23_ n24_ n25_ n26_
     clear hb hbox hg
     refine hK.out _ _ ⟨(blk_cell BK235.out 0).trans rfl, (blk_cell BK236.out 0).trans rfl⟩ (fun hHeld => ?_)
     clear hK K
     refine norm_ (a' := ?_) ?_ ?_
     rotate_left
     · show Act.put _ (some 15) _ = _
       simp only [Act.put, List.setIfInBounds_toArray, List.set_cons_zero, List.set_cons_succ, i64_w, i32_w]
       rfl
     refine one_ (i := 3) (N := some 98) #[true, true, true, true, false, false, false, false, true, false, false] rfl rfl (one_of HT_.out (by kernel_rfl)) (by decide) (fun K hK => ?_)
     refine goes_ Try.func17 (by kernel_rfl) rfl #[.agg #[.slice A1_0 l1_0.length c1_0]] (by rfl) rfl rfl (by (try simp only [List.map_toArray, List.map_cons, List.map_nil]); first | done | rfl | (simp only [List.length_drop, List.length_take]; rfl)) ?_
     with_reducible refine (laws_toBig.calls kj108 _ _ l1_0 t283 _ ?side1 ?side2 A173.out).mono ?_
     (case side1 => repeat (first | exact (Kd.C_below HR1_0.out HB.out) | (with_reducible refine Kd.C_alloc ?_ _) | (with_reducible refine Kd.C_drewN ?_ _) | (with_reducible refine Kd.C_drew ?_)))
     (case side2 => exact HC1_0.out)
     rintro e w188 ⟨v284, rfl, ho0, hb⟩
     refine ⟨_, rfl, ?_⟩
     have n0_ := Aside0.mk (qe HO_250000 ho0 hb)
     have n1_ := Aside0.mk (qe HO_254000 ho0 hb)
     have n2_ := Aside0.mk (qe HO_258000 ho0 hb)
     have n3_ := Aside0.mk (qe HO_263000 ho0 hb)
     have n4_ := Aside0.mk (qe HO282 ho0 hb)
     have n5_ := Aside0.mk (Kd.R_lower (Kd.R_new' (Kd.R_new' (Kd.R_new' (Kd.R_new' (Kd.R_new' ho0 (ql HO_250000)) (ql HO_254000)) (ql HO_258000)) (ql HO_263000)) (ql HO282)) (below_size (hq7 HB GE235 GE236 GE249 GE253 GE257 GE262 GE290)))
     have n6_ := Aside0.mk (bB BK235 hb)
     have n7_ := Aside0.mk (bB BK236 hb)
     have n8_ := Aside0.mk (bB BK249 hb)
     have n9_ := Aside0.mk (bB BK253 hb)
     have n10_ := Aside0.mk (bB BK257 hb)
     have n11_ := Aside0.mk (bB BK262 hb)
     have n12_ := Aside0.mk (bB BK290 hb)
     have n13_ := Aside0.mk (below_step (hq7 HB GE235 GE236 GE249 GE253 GE257 GE262 GE290) hb)
     clear HO_250000
     clear HO_254000
     clear HO_258000
     clear HO_263000
     clear HO282
     clear BK235
     clear BK236
     clear BK249
     clear BK253
     clear BK257
     clear BK262
     clear BK290
     clear HB
     have HO_250000 := n0_
     have HO_254000 := n1_
     have HO_258000 := n2_
     have HO_263000 := n3_
     have HO282 := n4_
     have HO285 := n5_
     have BK235 := n6_
     have BK236 := n7_
     have BK249 := n8_
     have BK253 := n9_
     have BK257 := n10_
     have BK262 := n11_
     have BK290 := n12_
     have HB := n13_
     clear n0_ n1_ n2_ n3_ n4_ n5_ n6_ n7_ n8_ n9_ n10_ n11_ n12_ n13_
     (try clear hb)
     (try clear hb2)
     (try clear hk)
     (try clear hi)
     (try clear ho0)
     obtain ⟨Ao189, co189, eo189⟩ := Kd.R_slice HO282.out
     (first | subst eo189 | (injection eo189 with f1_ f2_ f3_; have f4_ := f1_.symm; have f5_ := f3_.symm; clear f1_ f2_ f3_; subst f4_; subst f5_))
     obtain ⟨Ao190, co190, eo190⟩ := Kd.R_slice HO285.out
     (first | subst eo190 | (injection eo190 with f1_ f2_ f3_; have f4_ := f1_.symm; have f5_ := f3_.symm; clear f1_ f2_ f3_; subst f4_; subst f5_))
     refine hK.out _ _ ⟨(blk_cell BK235.out 0).trans rfl, (blk_cell BK236.out 0).trans rfl⟩ (fun hHeld => ?_)
     clear hK K
     refine norm_ (a' := ?_) ?_ ?_
     rotate_left
     · show Act.put _ (some 98) _ = _
       simp only [Act.put, List.setIfInBounds_toArray, List.set_cons_zero, List.set_cons_succ, i64_w, i32_w]
       rfl
     refine one_ (i := 4) (N := some 99) #[true, true, true, true, true, false, false, false, true, false, false] rfl rfl (one_of HT_.out (by kernel_rfl)) (by decide) (fun K hK => ?_)
     refine goes_ Try.func27 (by kernel_rfl) rfl #[.agg #[.slice Ao189 t280.length co189], .agg #[.slice Ao190 t283.length co190]] (by rfl) rfl rfl (by (try simp only [List.map_toArray, List.map_cons, List.map_nil]); first | done | rfl | (simp only [List.length_drop, List.length_take]; rfl)) ?_
     with_reducible refine (impl_LessBig.calls kj108 (fun k_ => some k_ = (.slice Ao189 t280.length co189 : Value).ownBlock) _ _ t280 (fun k_ => some k_ = (.slice Ao190 t283.length co190 : Value).ownBlock) _ _ t283 t286 t289 _ ?side1 ?side2 A174.out).mono ?_
     (case side1 => exact Kd.R_V (Kd.R_tight rfl (Kd.R_types (Kd.R_types (Kd.R_types (Kd.R_types (Kd.R_types (Kd.R_types (Kd.R_types (HO282.out) BK235.out (by decide)) BK236.out (by decide)) BK249.out (by decide)) BK253.out (by decide)) BK257.out (by decide)) BK262.out (by decide)) BK290.out (by decide))))
     (case side2 => exact Kd.R_V (Kd.R_tight rfl (Kd.R_types (Kd.R_types (Kd.R_types (Kd.R_types (Kd.R_types (Kd.R_types (Kd.R_types (HO285.out) BK235.out (by decide)) BK236.out (by decide)) BK249.out (by decide)) BK253.out (by decide)) BK257.out (by decide)) BK262.out (by decide)) BK290.out (by decide))))
     rintro e w191 ⟨v287, rfl, ho0, hb⟩
     refine ⟨_, rfl, ?_⟩
     have n0_ := Aside0.mk (qe HO_250000 ho0 hb)
     have n1_ := Aside0.mk (qe HO_254000 ho0 hb)
     have n2_ := Aside0.mk (qe HO_258000 ho0 hb)
     have n3_ := Aside0.mk (qe HO_263000 ho0 hb)
     have n4_ := Aside0.mk (qe HO282 ho0 hb)
     have n5_ := Aside0.mk (qe HO285 ho0 hb)
     have n6_ := Aside0.mk (Kd.R_lower (Kd.R_new' (Kd.R_new' (Kd.R_new' (Kd.R_new' (Kd.R_new' (Kd.R_new' (Kd.R_mono (ok' := fun k_ => True) ho0 (fun _ hk_ => trivial)) (ql HO_250000)) (ql HO_254000)) (ql HO_258000)) (ql HO_263000)) (ql HO282)) (ql HO285)) (below_size (hq7 HB GE235 GE236 GE249 GE253 GE257 GE262 GE290)))
     have n7_ := Aside0.mk (bB BK235 hb)
     have n8_ := Aside0.mk (bB BK236 hb)
     have n9_ := Aside0.mk (bB BK249 hb)
     have n10_ := Aside0.mk (bB BK253 hb)
     have n11_ := Aside0.mk (bB BK257 hb)
     have n12_ := Aside0.mk (bB BK262 hb)
     have n13_ := Aside0.mk (bB BK290 hb)
     have n14_ := Aside0.mk (below_step (hq7 HB GE235 GE236 GE249 GE253 GE257 GE262 GE290) hb)
     clear HO_250000
     clear HO_254000
     clear HO_258000
     clear HO_263000
     clear HO282
     clear HO285
     clear BK235
     clear BK236
     clear BK249
     clear BK253
     clear BK257
     clear BK262
     clear BK290
     clear HB
     have HO_250000 := n0_
     have HO_254000 := n1_
     have HO_258000 := n2_
     have HO_263000 := n3_
     have HO282 := n4_
     have HO285 := n5_
     have HO288 := n6_
     have BK235 := n7_
     have BK236 := n8_
     have BK249 := n9_
     have BK253 := n10_
     have BK257 := n11_
     have BK262 := n12_
     have BK290 := n13_
     have HB := n14_
     clear n0_ n1_ n2_ n3_ n4_ n5_ n6_ n7_ n8_ n9_ n10_ n11_ n12_ n13_ n14_
     (try clear hb)
     (try clear hb2)
     (try clear hk)
     (try clear hi)
     (try clear ho0)
     refine hK.out _ _ ⟨(blk_cell BK235.out 0).trans rfl, (blk_cell BK236.out 0).trans rfl⟩ (fun hHeld => ?_)
     clear hK K
     refine norm_ (a' := ?_) ?_ ?_
     rotate_left
     · show Act.put _ (some 99) _ = _
       simp only [Act.put, List.setIfInBounds_toArray, List.set_cons_zero, List.set_cons_succ, i64_w, i32_w]
       rfl
     refine pure_ (i := 5) (N := some 94) (v := ?_) (a' := ?_) #[true, true, true, true, true, true, false, false, true, false, false] rfl rfl (any_of HT_.out (by kernel_rfl)) (fun _ _ _ h => h) (Or.inl ⟨by rfl, ?_⟩) ?_ ?_
     rotate_left
     · intro w'
       first | (go_simp; with_reducible rfl) | (go_simp; unfold Instr.field; go_simp; rfl)
     rotate_left
     · simp only [Act.put, List.setIfInBounds_toArray, List.set_cons_zero, List.set_cons_succ, i64_w, i32_w]
       rfl
     refine pure_ (i := 6) (N := some 100) (v := ?_) (a' := ?_) #[true, true, true, true, true, true, true, false, true, false, false] rfl rfl (any_of HT_.out (by kernel_rfl)) (fun _ _ _ h => h) (Or.inl ⟨by rfl, ?_⟩) ?_ ?_
     rotate_left
     · intro w'
       first | (go_simp; with_reducible rfl) | (go_simp; unfold Instr.field; go_simp; rfl)
     rotate_left
     · simp only [Act.put, List.setIfInBounds_toArray, List.set_cons_zero, List.set_cons_succ, i64_w, i32_w]
       rfl
     refine pure_ (i := 7) (N := some 101) (v := ?_) (a' := ?_) #[true, true, true, true, true, true, true, true, true, false, false] rfl rfl (any_of HT_.out (by kernel_rfl)) (fun _ _ _ h => h) (Or.inl ⟨by rfl, ?_⟩) ?_ ?_
     rotate_left
     · intro w'
       first | (go_simp; with_reducible rfl) | (go_simp; unfold Instr.field; go_simp; rfl)
     rotate_left
     · simp only [Act.put, List.setIfInBounds_toArray, List.set_cons_zero, List.set_cons_succ, i64_w, i32_w]
       rfl
     exact norm_ (by simp only [putAll, Act.put, List.setIfInBounds_toArray, List.set_cons_zero, List.set_cons_succ]) (hCont (.slice Ao189 t280.length co189, .slice Ao190 t283.length co190, v287, gb290) _ ⟨hHeld, (by (with_reducible repeat (first | apply Kd.R_alloc | apply Kd.R_drewN | apply Kd.R_drew)); exact Kd.R_mono HO282.out (fun _ hk => ⟨hk.1.2, ⟨hk.2, ⟨hk.1.1.1.1.1.2, ⟨hk.1.1.1.1.2, ⟨hk.1.1.1.2, hk.1.1.2⟩⟩⟩⟩⟩)), (by (with_reducible repeat (first | apply Kd.R_alloc | apply Kd.R_drewN | apply Kd.R_drew)); exact Kd.R_mono HO285.out (fun _ hk => ⟨hk.1.2, ⟨hk.2, ⟨hk.1.1.1.1.1.2, ⟨hk.1.1.1.1.2, ⟨hk.1.1.1.2, hk.1.1.2⟩⟩⟩⟩⟩)), (by (with_reducible repeat (first | apply Kd.R_alloc | apply Kd.R_drewN | apply Kd.R_drew)); exact Kd.R_mono HO288.out (fun _ hk => ⟨hk.1.2, ⟨hk.2, ⟨hk.1.1.1.1.1.2, ⟨hk.1.1.1.1.2, ⟨hk.1.1.1.2, hk.1.1.2⟩⟩⟩⟩⟩)), (by (with_reducible repeat (first | apply Kd.R_alloc | apply Kd.R_drewN | apply Kd.R_drew)); exact Kd.R_mono HO_250000.out (fun _ hk => ⟨hk.1.1.2, ⟨hk.1.2, ⟨hk.2, ⟨hk.1.1.1.1, ⟨hk.1.1.1.2.1, hk.1.1.1.2.2⟩⟩⟩⟩⟩)), (by (with_reducible repeat (first | apply Kd.R_alloc | apply Kd.R_drewN | apply Kd.R_drew)); exact Kd.R_mono HO_254000.out (fun _ hk => ⟨hk.1.1.2, ⟨hk.1.2, ⟨hk.2, ⟨hk.1.1.1.1, ⟨hk.1.1.1.2.1, hk.1.1.1.2.2⟩⟩⟩⟩⟩)), (by (with_reducible repeat (first | apply Kd.R_alloc | apply Kd.R_drewN | apply Kd.R_drew)); exact Kd.R_mono HO_258000.out (fun _ hk => ⟨hk.1.1.2, ⟨hk.1.2, ⟨hk.2, ⟨hk.1.1.1.1, ⟨hk.1.1.1.2.1, hk.1.1.1.2.2⟩⟩⟩⟩⟩)), (by (with_reducible repeat (first | apply Kd.R_alloc | apply Kd.R_drewN | apply Kd.R_drew)); exact Kd.R_mono HO_263000.out (fun _ hk => ⟨hk.1.1.2, ⟨hk.1.2, ⟨hk.2, ⟨hk.1.1.1.1, ⟨hk.1.1.1.2.1, hk.1.1.1.2.2⟩⟩⟩⟩⟩)), (bq BK235), (bq BK236), (bq BK249), (bq BK253), (bq BK257), (bq BK262), (bq BK290), GW290.out, GE290.out, NB235_290.out, NB290_235.out, NB236_290.out, NB290_236.out, NB249_290.out, NB290_249.out, NB253_290.out, NB290_253.out, NB257_290.out, NB290_257.out, NB262_290.out, NB290_262.out, (hq7 HB GE235 GE236 GE249 GE253 GE257 GE262 GE290)⟩)
   skip
   refine box_step ?hg (N := 15) ?hd (cs := #[.slice none 0 0]) (t := 27) ?hr ?_; (case hd => rfl); (case hg => rfl); (case hr => first | (go_simp; done) | (go_simp; rfl))
   intro gb290 hg w186 hbox hb
   have n0_ := Aside0.mk (qb HO_250000 hb)
   have n1_ := Aside0.mk (qb HO_254000 hb)
   have n2_ := Aside0.mk (qb HO_258000 hb)
   have n3_ := Aside0.mk (qb HO_263000 hb)
   have n4_ := Aside0.mk (bB BK235 hb)
   have n5_ := Aside0.mk (bB BK236 hb)
   have n6_ := Aside0.mk (bB BK249 hb)
   have n7_ := Aside0.mk (bB BK253 hb)
   have n8_ := Aside0.mk (bB BK257 hb)
   have n9_ := Aside0.mk (bB BK262 hb)
   have n10_ := Aside0.mk (below_step (hq6 HB GE235 GE236 GE249 GE253 GE257 GE262) hb)
   have n11_ := Aside0.mk (hbox)
   have n12_ := Aside0.mk (ng hg (hq6 HB GE235 GE236 GE249 GE253 GE257 GE262))
   have n13_ := Aside0.mk (ng hg (hq6 HB GE235 GE236 GE249 GE253 GE257 GE262))
   have n14_ := Aside0.mk (nl hg BK235)
   have n15_ := Aside0.mk (nr hg BK235)
   have n16_ := Aside0.mk (nl hg BK236)
   have n17_ := Aside0.mk (nr hg BK236)
   have n18_ := Aside0.mk (nl hg BK249)
   have n19_ := Aside0.mk (nr hg BK249)
   have n20_ := Aside0.mk (nl hg BK253)
   have n21_ := Aside0.mk (nr hg BK253)
   have n22_ := Aside0.mk (nl hg BK257)
   have n23_ := Aside0.mk (nr hg BK257)
   have n24_ := Aside0.mk (nl hg BK262)
   have n25_ := Aside0.mk (nr hg BK262)
   clear HO_250000
   clear HO_254000
   clear HO_258000
   clear HO_263000
   clear BK235
   clear BK236
   clear BK249
   clear BK253
   clear BK257
   clear BK262
   clear HB
   have HO_250000 := n0_
   have HO_254000 := n1_
   have HO_258000 := n2_
   have HO_263000 := n3_
   have BK235 := n4_
   have BK236 := n5_
   have BK249 := n6_
   have BK253 := n7_
   have BK257 := n8_
   have BK262 := n9_
   have HB := n10_
   have BK290 := n11_
   have GW290 := n12_
   have GE290 := n13_
   have NB235_290 := n14_
   have NB290_235 := n15_
   have NB236_290 := n16_
   have NB290_236 := n17_
   have NB249_290 := n18_
   have NB290_249 := n19_
   have NB253_290 := n20_
   have NB290_253 := n21_
   have NB257_290 := n22_
   have NB290_257 := n23_
   have NB262_290 := n24_
   have NB290_262 := n25_
   clear n0_ n1_ n2_ n3_ n4_ n5_ n6_ n7_ n8_ n9_ n10_ n11_ n12_ n13_ n14_ n15_ n16_ n17_ n18_ n19_ n20_ n21_ n22_ n23_ n24_ n25_
   clear hb hbox hg
   refine hK.out _ _ ⟨(blk_cell BK235.out 0).trans rfl, (blk_cell BK236.out 0).trans rfl⟩ (fun hHeld => ?_)
   clear hK K
   refine norm_ (a' := ?_) ?_ ?_
   rotate_left
   · show Act.put _ (some 15) _ = _
     simp only [Act.put, List.setIfInBounds_toArray, List.set_cons_zero, List.set_cons_succ, i64_w, i32_w]
     rfl
   refine one_ (i := 1) (N := some 96) #[true, true, true, false, false, false, false, false, true, false, false] rfl rfl (one_of HT_.out (by kernel_rfl)) (by decide) (fun K hK => ?_)
   refine goes_ Try.func17 (by kernel_rfl) rfl #[.agg #[.slice A0_0 l0_0.length c0_0]] (by rfl) rfl rfl (by (try simp only [List.map_toArray, List.map_cons, List.map_nil]); first | done | rfl | (simp only [List.length_drop, List.length_take]; rfl)) ?_
   with_reducible refine (laws_toBig.calls kj108 _ _ l0_0 t280 _ ?side1 ?side2 A172.out).mono ?_
   (case side1 => repeat (first | exact (Kd.C_below HR0_0.out HB.out) | (with_reducible refine Kd.C_alloc ?_ _) | (with_reducible refine Kd.C_drewN ?_ _) | (with_reducible refine Kd.C_drew ?_)))
   (case side2 => exact HC0_0.out)
   rintro e w187 ⟨v281, rfl, ho0, hb⟩
   refine ⟨_, rfl, ?_⟩
   have n0_ := Aside0.mk (qe HO_250000 ho0 hb)
   have n1_ := Aside0.mk (qe HO_254000 ho0 hb)
   have n2_ := Aside0.mk (qe HO_258000 ho0 hb)
   have n3_ := Aside0.mk (qe HO_263000 ho0 hb)
   have n4_ := Aside0.mk (Kd.R_lower (Kd.R_new' (Kd.R_new' (Kd.R_new' (Kd.R_new' ho0 (ql HO_250000)) (ql HO_254000)) (ql HO_258000)) (ql HO_263000)) (below_size (hq7 HB GE235 GE236 GE249 GE253 GE257 GE262 GE290)))
   have n5_ := Aside0.mk (bB BK235 hb)
   have n6_ := Aside0.mk (bB BK236 hb)
   have n7_ := Aside0.mk (bB BK249 hb)
   have n8_ := Aside0.mk (bB BK253 hb)
   have n9_ := Aside0.mk (bB BK257 hb)
   have n10_ := Aside0.mk (bB BK262 hb)
   have n11_ := Aside0.mk (bB BK290 hb)
   have n12_ := Aside0.mk (below_step (hq7 HB GE235 GE236 GE249 GE253 GE257 GE262 GE290) hb)
   clear HO_250000
   clear HO_254000
   clear HO_258000
   clear HO_263000
   clear BK235
   clear BK236
   clear BK249
   clear BK253
   clear BK257
   clear BK262
   clear BK290
   clear HB
   have HO_250000 := n0_
   have HO_254000 := n1_
   have HO_258000 := n2_
   have HO_263000 := n3_
   have HO282 := n4_
   have BK235 := n5_
   have BK236 := n6_
   have BK249 := n7_
   have BK253 := n8_
   have BK257 := n9_
   have BK262 := n10_
   have BK290 := n11_
   have HB := n12_
   clear n0_ n1_ n2_ n3_ n4_ n5_ n6_ n7_ n8_ n9_ n10_ n11_ n12_
   (try clear hb)
   (try clear hb2)
   (try clear hk)
   (try clear hi)
   (try clear ho0)
   refine hK.out _ _ ⟨(blk_cell BK235.out 0).trans rfl, (blk_cell BK236.out 0).trans rfl⟩ (fun hHeld => ?_)
   clear hK K
   refine norm_ (a' := ?_) ?_ ?_
   rotate_left
   · show Act.put _ (some 96) _ = _
     simp only [Act.put, List.setIfInBounds_toArray, List.set_cons_zero, List.set_cons_succ, i64_w, i32_w]
     rfl
   refine one_ (i := 3) (N := some 98) #[true, true, true, true, false, false, false, false, true, false, false] rfl rfl (one_of HT_.out (by kernel_rfl)) (by decide) (fun K hK => ?_)
   refine goes_ Try.func17 (by kernel_rfl) rfl #[.agg #[.slice A1_0 l1_0.length c1_0]] (by rfl) rfl rfl (by (try simp only [List.map_toArray, List.map_cons, List.map_nil]); first | done | rfl | (simp only [List.length_drop, List.length_take]; rfl)) ?_
   with_reducible refine (laws_toBig.calls kj108 _ _ l1_0 t283 _ ?side1 ?side2 A173.out).mono ?_
   (case side1 => repeat (first | exact (Kd.C_below HR1_0.out HB.out) | (with_reducible refine Kd.C_alloc ?_ _) | (with_reducible refine Kd.C_drewN ?_ _) | (with_reducible refine Kd.C_drew ?_)))
   (case side2 => exact HC1_0.out)
   rintro e w188 ⟨v284, rfl, ho0, hb⟩
   refine ⟨_, rfl, ?_⟩
   have n0_ := Aside0.mk (qe HO_250000 ho0 hb)
   have n1_ := Aside0.mk (qe HO_254000 ho0 hb)
   have n2_ := Aside0.mk (qe HO_258000 ho0 hb)
   have n3_ := Aside0.mk (qe HO_263000 ho0 hb)
   have n4_ := Aside0.mk (qe HO282 ho0 hb)
   have n5_ := Aside0.mk (Kd.R_lower (Kd.R_new' (Kd.R_new' (Kd.R_new' (Kd.R_new' (Kd.R_new' ho0 (ql HO_250000)) (ql HO_254000)) (ql HO_258000)) (ql HO_263000)) (ql HO282)) (below_size (hq7 HB GE235 GE236 GE249 GE253 GE257 GE262 GE290)))
   have n6_ := Aside0.mk (bB BK235 hb)
   have n7_ := Aside0.mk (bB BK236 hb)
   have n8_ := Aside0.mk (bB BK249 hb)
   have n9_ := Aside0.mk (bB BK253 hb)
   have n10_ := Aside0.mk (bB BK257 hb)
   have n11_ := Aside0.mk (bB BK262 hb)
   have n12_ := Aside0.mk (bB BK290 hb)
   have n13_ := Aside0.mk (below_step (hq7 HB GE235 GE236 GE249 GE253 GE257 GE262 GE290) hb)
   clear HO_250000
   clear HO_254000
   clear HO_258000
   clear HO_263000
   clear HO282
   clear BK235
   clear BK236
   clear BK249
   clear BK253
   clear BK257
   clear BK262
   clear BK290
   clear HB
   have HO_250000 := n0_
   have HO_254000 := n1_
   have HO_258000 := n2_
   have HO_263000 := n3_
   have HO282 := n4_
   have HO285 := n5_
   have BK235 := n6_
   have BK236 := n7_
   have BK249 := n8_
   have BK253 := n9_
   have BK257 := n10_
   have BK262 := n11_
   have BK290 := n12_
   have HB := n13_
   clear n0_ n1_ n2_ n3_ n4_ n5_ n6_ n7_ n8_ n9_ n10_ n11_ n12_ n13_
   (try clear hb)
   (try clear hb2)
   (try clear hk)
   (try clear hi)
   (try clear ho0)
   obtain ⟨Ao189, co189, eo189⟩ := Kd.R_slice HO282.out
   (first | subst eo189 | (injection eo189 with f1_ f2_ f3_; have f4_ := f1_.symm; have f5_ := f3_.symm; clear f1_ f2_ f3_; subst f4_; subst f5_))
   obtain ⟨Ao190, co190, eo190⟩ := Kd.R_slice HO285.out
   (first | subst eo190 | (injection eo190 with f1_ f2_ f3_; have f4_ := f1_.symm; have f5_ := f3_.symm; clear f1_ f2_ f3_; subst f4_; subst f5_))
   refine hK.out _ _ ⟨(blk_cell BK235.out 0).trans rfl, (blk_cell BK236.out 0).trans rfl⟩ (fun hHeld => ?_)
   clear hK K
   refine norm_ (a' := ?_) ?_ ?_
   rotate_left
   · show Act.put _ (some 98) _ = _
     simp only [Act.put, List.setIfInBounds_toArray, List.set_cons_zero, List.set_cons_succ, i64_w, i32_w]
     rfl
   refine one_ (i := 4) (N := some 99) #[true, true, true, true, true, false, false, false, true, false, false] rfl rfl (one_of HT_.out (by kernel_rfl)) (by decide) (fun K hK => ?_)
   refine goes_ Try.func27 (by kernel_rfl) rfl #[.agg #[.slice Ao189 t280.length co189], .agg #[.slice Ao190 t283.length co190]] (by rfl) rfl rfl (by (try simp only [List.map_toArray, List.map_cons, List.map_nil]); first | done | rfl | (simp only [List.length_drop, List.length_take]; rfl)) ?_
   with_reducible refine (impl_LessBig.calls kj108 (fun k_ => some k_ = (.slice Ao189 t280.length co189 : Value).ownBlock) _ _ t280 (fun k_ => some k_ = (.slice Ao190 t283.length co190 : Value).ownBlock) _ _ t283 t286 t289 _ ?side1 ?side2 A174.out).mono ?_
   (case side1 => exact Kd.R_V (Kd.R_tight rfl (Kd.R_types (Kd.R_types (Kd.R_types (Kd.R_types (Kd.R_types (Kd.R_types (Kd.R_types (HO282.out) BK235.out (by decide)) BK236.out (by decide)) BK249.out (by decide)) BK253.out (by decide)) BK257.out (by decide)) BK262.out (by decide)) BK290.out (by decide))))
   (case side2 => exact Kd.R_V (Kd.R_tight rfl (Kd.R_types (Kd.R_types (Kd.R_types (Kd.R_types (Kd.R_types (Kd.R_types (Kd.R_types (HO285.out) BK235.out (by decide)) BK236.out (by decide)) BK249.out (by decide)) BK253.out (by decide)) BK257.out (by decide)) BK262.out (by decide)) BK290.out (by decide))))
   rintro e w191 ⟨v287, rfl, ho0, hb⟩
   refine ⟨_, rfl, ?_⟩
   have n0_ := Aside0.mk (qe HO_250000 ho0 hb)
   have n1_ := Aside0.mk (qe HO_254000 ho0 hb)
   have n2_ := Aside0.mk (qe HO_258000 ho0 hb)
   have n3_ := Aside0.mk (qe HO_263000 ho0 hb)
   have n4_ := Aside0.mk (qe HO282 ho0 hb)
   have n5_ := Aside0.mk (qe HO285 ho0 hb)
   have n6_ := Aside0.mk (Kd.R_lower (Kd.R_new' (Kd.R_new' (Kd.R_new' (Kd.R_new' (Kd.R_new' (Kd.R_new' (Kd.R_mono (ok' := fun k_ => True) ho0 (fun _ hk_ => trivial)) (ql HO_250000)) (ql HO_254000)) (ql HO_258000)) (ql HO_263000)) (ql HO282)) (ql HO285)) (below_size (hq7 HB GE235 GE236 GE249 GE253 GE257 GE262 GE290)))
   have n7_ := Aside0.mk (bB BK235 hb)
   have n8_ := Aside0.mk (bB BK236 hb)
   have n9_ := Aside0.mk (bB BK249 hb)
   have n10_ := Aside0.mk (bB BK253 hb)
   have n11_ := Aside0.mk (bB BK257 hb)
   have n12_ := Aside0.mk (bB BK262 hb)
   have n13_ := Aside0.mk (bB BK290 hb)
   have n14_ := Aside0.mk (below_step (hq7 HB GE235 GE236 GE249 GE253 GE257 GE262 GE290) hb)
   clear HO_250000
   clear HO_254000
   clear HO_258000
   clear HO_263000
   clear HO282
   clear HO285
   clear BK235
   clear BK236
   clear BK249
   clear BK253
   clear BK257
   clear BK262
   clear BK290
   clear HB
   have HO_250000 := n0_
   have HO_254000 := n1_
   have HO_258000 := n2_
   have HO_263000 := n3_
   have HO282 := n4_
   have HO285 := n5_
   have HO288 := n6_
   have BK235 := n7_
   have BK236 := n8_
   have BK249 := n9_
   have BK253 := n10_
   have BK257 := n11_
   have BK262 := n12_
   have BK290 := n13_
   have HB := n14_
   clear n0_ n1_ n2_ n3_ n4_ n5_ n6_ n7_ n8_ n9_ n10_ n11_ n12_ n13_ n14_
   (try clear hb)
   (try clear hb2)
   (try clear hk)
   (try clear hi)
   (try clear ho0)
   refine hK.out _ _ ⟨(blk_cell BK235.out 0).trans rfl, (blk_cell BK236.out 0).trans rfl⟩ (fun hHeld => ?_)
   clear hK K
   refine norm_ (a' := ?_) ?_ ?_
   rotate_left
   · show Act.put _ (some 99) _ = _
     simp only [Act.put, List.setIfInBounds_toArray, List.set_cons_zero, List.set_cons_succ, i64_w, i32_w]
     rfl
   refine pure_ (i := 5) (N := some 94) (v := ?_) (a' := ?_) #[true, true, true, true, true, true, false, false, true, false, false] rfl rfl (any_of HT_.out (by kernel_rfl)) (fun _ _ _ h => h) (Or.inl ⟨by rfl, ?_⟩) ?_ ?_
   rotate_left
   · intro w'
     first | (go_simp; with_reducible rfl) | (go_simp; unfold Instr.field; go_simp; rfl)
   rotate_left
   · simp only [Act.put, List.setIfInBounds_toArray, List.set_cons_zero, List.set_cons_succ, i64_w, i32_w]
     rfl
   refine pure_ (i := 6) (N := some 100) (v := ?_) (a' := ?_) #[true, true, true, true, true, true, true, false, true, false, false] rfl rfl (any_of HT_.out (by kernel_rfl)) (fun _ _ _ h => h) (Or.inl ⟨by rfl, ?_⟩) ?_ ?_
   rotate_left
   · intro w'
     first | (go_simp; with_reducible rfl) | (go_simp; unfold Instr.field; go_simp; rfl)
   rotate_left
   · simp only [Act.put, List.setIfInBounds_toArray, List.set_cons_zero, List.set_cons_succ, i64_w, i32_w]
     rfl
   refine pure_ (i := 7) (N := some 101) (v := ?_) (a' := ?_) #[true, true, true, true, true, true, true, true, true, false, false] rfl rfl (any_of HT_.out (by kernel_rfl)) (fun _ _ _ h => h) (Or.inl ⟨by rfl, ?_⟩) ?_ ?_
   rotate_left
   · intro w'
     first | (go_simp; with_reducible rfl) | (go_simp; unfold Instr.field; go_simp; rfl)
   rotate_left
   · simp only [Act.put, List.setIfInBounds_toArray, List.set_cons_zero, List.set_cons_succ, i64_w, i32_w]
     rfl
   exact norm_ (by simp only [putAll, Act.put, List.setIfInBounds_toArray, List.set_cons_zero, List.set_cons_succ]) (hCont (.slice Ao189 t280.length co189, .slice Ao190 t283.length co190, v287, gb290) _ ⟨hHeld, (by (with_reducible repeat (first | apply Kd.R_alloc | apply Kd.R_drewN | apply Kd.R_drew)); exact Kd.R_mono HO282.out (fun _ hk => ⟨hk.1.2, ⟨hk.2, ⟨hk.1.1.1.1.1.2, ⟨hk.1.1.1.1.2, ⟨hk.1.1.1.2, hk.1.1.2⟩⟩⟩⟩⟩)), (by (with_reducible repeat (first | apply Kd.R_alloc | apply Kd.R_drewN | apply Kd.R_drew)); exact Kd.R_mono HO285.out (fun _ hk => ⟨hk.1.2, ⟨hk.2, ⟨hk.1.1.1.1.1.2, ⟨hk.1.1.1.1.2, ⟨hk.1.1.1.2, hk.1.1.2⟩⟩⟩⟩⟩)), (by (with_reducible repeat (first | apply Kd.R_alloc | apply Kd.R_drewN | apply Kd.R_drew)); exact Kd.R_mono HO288.out (fun _ hk => ⟨hk.1.2, ⟨hk.2, ⟨hk.1.1.1.1.1.2, ⟨hk.1.1.1.1.2, ⟨hk.1.1.1.2, hk.1.1.2⟩⟩⟩⟩⟩)), (by (with_reducible repeat (first | apply Kd.R_alloc | apply Kd.R_drewN | apply Kd.R_drew)); exact Kd.R_mono HO_250000.out (fun _ hk => ⟨hk.1.1.2, ⟨hk.1.2, ⟨hk.2, ⟨hk.1.1.1.1, ⟨hk.1.1.1.2.1, hk.1.1.1.2.2⟩⟩⟩⟩⟩)), (by (with_reducible repeat (first | apply Kd.R_alloc | apply Kd.R_drewN | apply Kd.R_drew)); exact Kd.R_mono HO_254000.out (fun _ hk => ⟨hk.1.1.2, ⟨hk.1.2, ⟨hk.2, ⟨hk.1.1.1.1, ⟨hk.1.1.1.2.1, hk.1.1.1.2.2⟩⟩⟩⟩⟩)), (by (with_reducible repeat (first | apply Kd.R_alloc | apply Kd.R_drewN | apply Kd.R_drew)); exact Kd.R_mono HO_258000.out (fun _ hk => ⟨hk.1.1.2, ⟨hk.1.2, ⟨hk.2, ⟨hk.1.1.1.1, ⟨hk.1.1.1.2.1, hk.1.1.1.2.2⟩⟩⟩⟩⟩)), (by (with_reducible repeat (first | apply Kd.R_alloc | apply Kd.R_drewN | apply Kd.R_drew)); exact Kd.R_mono HO_263000.out (fun _ hk => ⟨hk.1.1.2, ⟨hk.1.2, ⟨hk.2, ⟨hk.1.1.1.1, ⟨hk.1.1.1.2.1, hk.1.1.1.2.2⟩⟩⟩⟩⟩)), (bq BK235), (bq BK236), (bq BK249), (bq BK253), (bq BK257), (bq BK262), (bq BK290), GW290.out, GE290.out, NB235_290.out, NB290_235.out, NB236_290.out, NB290_236.out, NB249_290.out, NB290_249.out, NB253_290.out, NB290_253.out, NB257_290.out, NB290_257.out, NB262_290.out, NB290_262.out, (hq7 HB GE235 GE236 GE249 GE253 GE257 GE262 GE290)⟩)
 rintro ⟨v281, v284, v287, gb290⟩ w192 ⟨hS_, h0_, h1_, h2_, h3_, h4_, h5_, h6_, h7_, h8_, h9_, h10_, h11_, h12_, h13_, h14_, h15_, h16_, h17_, h18_, h19_, h20_, h21_, h22_, h23_, h24_, h25_, h26_, h27_, h28_⟩
 have n0_ : Aside0 (Kd.R (Kd.int .i64) 3 w192 w.heap.size (fun k_ => some k_ ≠ (v284 : Value).ownBlock ∧ some k_ ≠ (v287 : Value).ownBlock ∧ some k_ ≠ (.slice Ao41 t245.length co41 : Value).ownBlock ∧ some k_ ≠ (.slice Ao47 t273.length co47 : Value).ownBlock ∧ some k_ ≠ (.slice Ao56 t275.length co56 : Value).ownBlock ∧ some k_ ≠ (.slice Ao67 t258.length co67 : Value).ownBlock) v281 t280) := ⟨h0_⟩
 have n1_ : Aside0 (Kd.R (Kd.int .i64) 3 w192 w.heap.size (fun k_ => some k_ ≠ (v281 : Value).ownBlock ∧ some k_ ≠ (v287 : Value).ownBlock ∧ some k_ ≠ (.slice Ao41 t245.length co41 : Value).ownBlock ∧ some k_ ≠ (.slice Ao47 t273.length co47 : Value).ownBlock ∧ some k_ ≠ (.slice Ao56 t275.length co56 : Value).ownBlock ∧ some k_ ≠ (.slice Ao67 t258.length co67 : Value).ownBlock) v284 t283) := ⟨h1_⟩
 have n2_ : Aside0 (Kd.R (Kd.int .i64) 3 w192 w.heap.size (fun k_ => some k_ ≠ (v281 : Value).ownBlock ∧ some k_ ≠ (v284 : Value).ownBlock ∧ some k_ ≠ (.slice Ao41 t245.length co41 : Value).ownBlock ∧ some k_ ≠ (.slice Ao47 t273.length co47 : Value).ownBlock ∧ some k_ ≠ (.slice Ao56 t275.length co56 : Value).ownBlock ∧ some k_ ≠ (.slice Ao67 t258.length co67 : Value).ownBlock) v287 t286) := ⟨h2_⟩
 have n3_ : Aside0 (Kd.R (Kd.int .i64) 3 w192 w.heap.size (fun k_ => some k_ ≠ (v281 : Value).ownBlock ∧ some k_ ≠ (v284 : Value).ownBlock ∧ some k_ ≠ (v287 : Value).ownBlock ∧ some k_ ≠ (.slice Ao47 t273.length co47 : Value).ownBlock ∧ some k_ ≠ (.slice Ao56 t275.length co56 : Value).ownBlock ∧ some k_ ≠ (.slice Ao67 t258.length co67 : Value).ownBlock) (.slice Ao41 t245.length co41) t245) := ⟨h3_⟩
 have n4_ : Aside0 (Kd.R (Kd.int .i64) 3 w192 w.heap.size (fun k_ => some k_ ≠ (v281 : Value).ownBlock ∧ some k_ ≠ (v284 : Value).ownBlock ∧ some k_ ≠ (v287 : Value).ownBlock ∧ some k_ ≠ (.slice Ao41 t245.length co41 : Value).ownBlock ∧ some k_ ≠ (.slice Ao56 t275.length co56 : Value).ownBlock ∧ some k_ ≠ (.slice Ao67 t258.length co67 : Value).ownBlock) (.slice Ao47 t273.length co47) t273) := ⟨h4_⟩
 have n5_ : Aside0 (Kd.R (Kd.int .i64) 3 w192 w.heap.size (fun k_ => some k_ ≠ (v281 : Value).ownBlock ∧ some k_ ≠ (v284 : Value).ownBlock ∧ some k_ ≠ (v287 : Value).ownBlock ∧ some k_ ≠ (.slice Ao41 t245.length co41 : Value).ownBlock ∧ some k_ ≠ (.slice Ao47 t273.length co47 : Value).ownBlock ∧ some k_ ≠ (.slice Ao67 t258.length co67 : Value).ownBlock) (.slice Ao56 t275.length co56) t275) := ⟨h5_⟩
 have n6_ : Aside0 (Kd.R (Kd.int .i64) 3 w192 w.heap.size (fun k_ => some k_ ≠ (v281 : Value).ownBlock ∧ some k_ ≠ (v284 : Value).ownBlock ∧ some k_ ≠ (v287 : Value).ownBlock ∧ some k_ ≠ (.slice Ao41 t245.length co41 : Value).ownBlock ∧ some k_ ≠ (.slice Ao47 t273.length co47 : Value).ownBlock ∧ some k_ ≠ (.slice Ao56 t275.length co56 : Value).ownBlock) (.slice Ao67 t258.length co67) t278) := ⟨h6_⟩
 have n7_ : Aside0 (w192.heap[gb235]? = some (.cells #[.slice A0_0 l0_0.length c0_0] 24 (0, 0))) := ⟨h7_⟩
 have n8_ : Aside0 (w192.heap[gb236]? = some (.cells #[.slice A1_0 l1_0.length c1_0] 24 (0, 0))) := ⟨h8_⟩
 have n9_ : Aside0 (w192.heap[gb249]? = some (.cells #[.slice Ao41 t245.length co41] 27 (0, 0))) := ⟨h9_⟩
 have n10_ : Aside0 (w192.heap[gb253]? = some (.cells #[.slice Ao47 t273.length co47] 27 (0, 0))) := ⟨h10_⟩
 have n11_ : Aside0 (w192.heap[gb257]? = some (.cells #[.slice Ao56 t275.length co56] 27 (0, 0))) := ⟨h11_⟩
 have n12_ : Aside0 (w192.heap[gb262]? = some (.cells #[.slice Ao67 t258.length co67] 27 (0, 0))) := ⟨h12_⟩
 have n13_ : Aside0 (w192.heap[gb290]? = some (.cells #[.slice none 0 0] 27 (0, 0))) := ⟨h13_⟩
 have n14_ : Aside0 (w.heap.size ≤ gb290) := ⟨h14_⟩
 have n15_ : Aside0 (w.heap.size ≤ gb290) := ⟨h15_⟩
 have n16_ : Aside0 (gb235 ≠ gb290) := ⟨h16_⟩
 have n17_ : Aside0 (gb290 ≠ gb235) := ⟨h17_⟩
 have n18_ : Aside0 (gb236 ≠ gb290) := ⟨h18_⟩
 have n19_ : Aside0 (gb290 ≠ gb236) := ⟨h19_⟩
 have n20_ : Aside0 (gb249 ≠ gb290) := ⟨h20_⟩
 have n21_ : Aside0 (gb290 ≠ gb249) := ⟨h21_⟩
 have n22_ : Aside0 (gb253 ≠ gb290) := ⟨h22_⟩
 have n23_ : Aside0 (gb290 ≠ gb253) := ⟨h23_⟩
 have n24_ : Aside0 (gb257 ≠ gb290) := ⟨h24_⟩
 have n25_ : Aside0 (gb290 ≠ gb257) := ⟨h25_⟩
 have n26_ : Aside0 (gb262 ≠ gb290) := ⟨h26_⟩
 have n27_ : Aside0 (gb290 ≠ gb262) := ⟨h27_⟩
 have n28_ : Aside0 (Below w.heap.size w w192) := ⟨h28_⟩
 clear HO_250000
 clear HO_254000
 clear HO_258000
 clear HO_263000
 clear BK235
 clear BK236
 clear BK249
 clear BK253
 clear BK257
 clear BK262
 clear HB
 clear h0_ h1_ h2_ h3_ h4_ h5_ h6_ h7_ h8_ h9_ h10_ h11_ h12_ h13_ h14_ h15_ h16_ h17_ h18_ h19_ h20_ h21_ h22_ h23_ h24_ h25_ h26_ h27_ h28_
 have HO282 := n0_
 have HO285 := n1_
 have HO288 := n2_
 have HO_250000 := n3_
 have HO_254000 := n4_
 have HO_258000 := n5_
 have HO_263000 := n6_
 have BK235 := n7_
 have BK236 := n8_
 have BK249 := n9_
 have BK253 := n10_
 have BK257 := n11_
 have BK262 := n12_
 have BK290 := n13_
 have GW290 := n14_
 have GE290 := n15_
 have NB235_290 := n16_
 have NB290_235 := n17_
 have NB236_290 := n18_
 have NB290_236 := n19_
 have NB249_290 := n20_
 have NB290_249 := n21_
 have NB253_290 := n22_
 have NB290_253 := n23_
 have NB257_290 := n24_
 have NB290_257 := n25_
 have NB262_290 := n26_
 have NB290_262 := n27_
 have HB := n28_
 clear n0_ n1_ n2_ n3_ n4_ n5_ n6_ n7_ n8_ n9_ n10_ n11_ n12_ n13_ n14_ n15_ n16_ n17_ n18_ n19_ n20_ n21_ n22_ n23_ n24_ n25_ n26_ n27_ n28_
 have hHeld : w192.cell? ⟨gb235, 0, none⟩ = some (.slice A0_0 l0_0.length c0_0) ∧ w192.cell? ⟨gb236, 0, none⟩ = some (.slice A1_0 l1_0.length c1_0) := hS_
 obtain ⟨Ao193, co193, eo193⟩ := Kd.R_slice HO288.out
 (first | subst eo193 | (injection eo193 with f1_ f2_ f3_; have f4_ := f1_.symm; have f5_ := f3_.symm; clear f1_ f2_ f3_; subst f4_; subst f5_))
 refine norm_ (a' := ?_) ?_ ?_
 rotate_left
 · simp only [putAll, Act.put, List.setIfInBounds_toArray, List.set_cons_zero, List.set_cons_succ]
   rfl
 refine one_ (i := 9) (N := none) #[true, true, true, true, true, true, true, true, true, true, false] rfl rfl (one_of HT_.out (by kernel_rfl)) (by decide) (fun K hK => ?_)
 have hs194 : w192.cell? ⟨gb290, 0, none⟩ = some (.slice none 0 0) := (blk_cell BK290.out 0).trans rfl
 have hfs194 := blk_frozen BK290.out 0
 have hns194_0 := NB235_290.out
 have hns194_1 := NB236_290.out
 have hns194_2 := NB249_290.out
 have hns194_3 := NB253_290.out
 have hns194_4 := NB257_290.out
 have hns194_5 := NB262_290.out
 have hms194_0 := NB290_235.out
 have hms194_1 := NB290_236.out
 have hms194_2 := NB290_249.out
 have hms194_3 := NB290_253.out
 have hms194_4 := NB290_257.out
 have hms194_5 := NB290_262.out
 refine skip_ (w1 := ?_) (by rfl) rfl ?_ ?_
 rotate_left
 · go_simp
   rfl
 refine hK.out _ _ ⟨((cell_far (p := ⟨gb290, _, none⟩) NB235_290.out _).trans (hHeld.1)), ((cell_far (p := ⟨gb290, _, none⟩) NB236_290.out _).trans (hHeld.2))⟩ (fun hHeld => ?_)
 clear hK K
 refine pure_ (i := 10) (N := some 16) (v := ?_) (a' := ?_) #[true, true, true, true, true, true, true, true, true, true, true] rfl rfl (any_of HT_.out (by kernel_rfl)) (fun _ _ _ h => h) (Or.inl ⟨by rfl, ?_⟩) ?_ ?_
 rotate_left
 · intro w'
   first | (go_simp; with_reducible rfl) | (go_simp; unfold Instr.field; go_simp; rfl)
 rotate_left
 · simp only [Act.put, List.setIfInBounds_toArray, List.set_cons_zero, List.set_cons_succ, i64_w, i32_w]
   rfl
 refine done_ (done_of HT_.out (by kernel_rfl)) ?_
 go_upto_region 32 with (fail)
 go_cut [110] (fun v110 wc => ∃ (kq : Nat) (x110_174 : Bool), v110 = .bool x110_174 ∧ Aside0 (laws_FnExactLessBig.j2 kq t277 x110_174 t278 = some true) ∧ Aside0 (kq ≤ kj108) ∧ Aside0 (Kd.R (Kd.int .i64) 3 wc w.heap.size (fun k_ => some k_ ≠ ((.slice Ao47 t273.length co47) : Value).ownBlock ∧ some k_ ≠ ((.slice Ao56 t275.length co56) : Value).ownBlock ∧ some k_ ≠ ((.slice Ao67 t258.length co67) : Value).ownBlock ∧ some k_ ≠ ((.slice Ao193 t286.length co193) : Value).ownBlock) (.slice Ao41 t245.length co41) t245) ∧ Aside0 (Kd.R (Kd.int .i64) 3 wc w.heap.size (fun k_ => some k_ ≠ ((.slice Ao41 t245.length co41) : Value).ownBlock ∧ some k_ ≠ ((.slice Ao56 t275.length co56) : Value).ownBlock ∧ some k_ ≠ ((.slice Ao67 t258.length co67) : Value).ownBlock ∧ some k_ ≠ ((.slice Ao193 t286.length co193) : Value).ownBlock) (.slice Ao47 t273.length co47) t273) ∧ Aside0 (Kd.R (Kd.int .i64) 3 wc w.heap.size (fun k_ => some k_ ≠ ((.slice Ao41 t245.length co41) : Value).ownBlock ∧ some k_ ≠ ((.slice Ao47 t273.length co47) : Value).ownBlock ∧ some k_ ≠ ((.slice Ao67 t258.length co67) : Value).ownBlock ∧ some k_ ≠ ((.slice Ao193 t286.length co193) : Value).ownBlock) (.slice Ao56 t275.length co56) t275) ∧ Aside0 (Kd.R (Kd.int .i64) 3 wc w.heap.size (fun k_ => some k_ ≠ ((.slice Ao41 t245.length co41) : Value).ownBlock ∧ some k_ ≠ ((.slice Ao47 t273.length co47) : Value).ownBlock ∧ some k_ ≠ ((.slice Ao56 t275.length co56) : Value).ownBlock ∧ some k_ ≠ ((.slice Ao193 t286.length co193) : Value).ownBlock) (.slice Ao67 t258.length co67) t278) ∧ Aside0 (Kd.R (Kd.int .i64) 3 wc w.heap.size (fun k_ => some k_ ≠ ((.slice Ao41 t245.length co41) : Value).ownBlock ∧ some k_ ≠ ((.slice Ao47 t273.length co47) : Value).ownBlock ∧ some k_ ≠ ((.slice Ao56 t275.length co56) : Value).ownBlock ∧ some k_ ≠ ((.slice Ao67 t258.length co67) : Value).ownBlock) (.slice Ao193 t286.length co193) t286) ∧ Aside0 (wc.heap[gb235]? = some (.cells #[(.slice A0_0 l0_0.length c0_0)] 24 (0, 0))) ∧ Aside0 (wc.heap[gb236]? = some (.cells #[(.slice A1_0 l1_0.length c1_0)] 24 (0, 0))) ∧ Aside0 (wc.heap[gb249]? = some (.cells #[(.slice Ao41 t245.length co41)] 27 (0, 0))) ∧ Aside0 (wc.heap[gb253]? = some (.cells #[(.slice Ao47 t273.length co47)] 27 (0, 0))) ∧ Aside0 (wc.heap[gb257]? = some (.cells #[(.slice Ao56 t275.length co56)] 27 (0, 0))) ∧ Aside0 (wc.heap[gb262]? = some (.cells #[(.slice Ao67 t258.length co67)] 27 (0, 0))) ∧ Aside0 (wc.heap[gb290]? = some (.cells #[(.slice Ao193 t286.length co193)] 27 (0, 0))) ∧ Aside0 (Below w.heap.size w wc))
 case first =>
   have H := HC175.out
   clear HC175
   replace H := Option.bind_eq_some_iff.mp H
   obtain ⟨t291, A1950, H⟩ := H
   replace H : (if t291 = true then (laws_FnExactLessBig.j2 kj108 t277 (t289 != t248) t278) else (laws_FnExactLessBig.j2 kj108 t277 true t278)) = some true := H
   have A195 := Aside0.mk A1950
   clear A1950
   by_cases c196 : t291 = true
   · subst c196
     have H1 : (laws_FnExactLessBig.j2 kj108 t277 (t289 != t248) t278) = some true := by rw [if_pos rfl] at H; exact H
     clear H
     have H := H1
     clear H1
     have H' := Aside0.mk H
     clear H
     have hnb197 := NB290_235.out
     have hnc197 := NB235_290.out
     have hnb198 := NB290_236.out
     have hnc198 := NB236_290.out
     have hnb199 := NB290_249.out
     have hnc199 := NB249_290.out
     have hnb200 := NB290_253.out
     have hnc200 := NB253_290.out
     have hnb201 := NB290_257.out
     have hnc201 := NB257_290.out
     have hnb202 := NB290_262.out
     have hnc202 := NB262_290.out
     have hcz203_0 : w192.cell? ⟨gb290, 0, none⟩ = some (.slice none 0 0) := (blk_cell BK290.out 0).trans rfl
     have hfz203_0 := blk_frozen BK290.out 0
     have hnb204 := NB249_235.out
     have hnc204 := NB235_249.out
     have hnb205 := NB249_236.out
     have hnc205 := NB236_249.out
     have hnb206 := NB249_253.out
     have hnc206 := NB253_249.out
     have hnb207 := NB249_257.out
     have hnc207 := NB257_249.out
     have hnb208 := NB249_262.out
     have hnc208 := NB262_249.out
     have hcz209_0 : w192.cell? ⟨gb249, 0, none⟩ = some (.slice Ao41 t245.length co41) := (blk_cell BK249.out 0).trans rfl
     have hfz209_0 := blk_frozen BK249.out 0
     go_wp2_with (first | ((with_reducible refine gate_callee (f := 19) rfl ?_); refine goesL_ (some 104) rfl rfl Try.func19 (by kernel_rfl) rfl #[.agg #[.slice Ao193 t286.length co193], .agg #[.slice Ao41 t245.length co41]] rfl (by (try simp only [List.map_toArray, List.map_cons, List.map_nil]); first | done | rfl | (simp only [List.length_drop, List.length_take]; rfl)) ?_; (with_reducible refine (laws_eqBig.calls kj108 _ _ t286 _ _ t245 true _ ?side1 ?side2 ?side3 ?side4 A195.out).mono ?_); (case side1 => refine (Kd.R_reads' (e := 3) (base := w.heap.size) (ok := fun k_ => (some k_ ≠ (v281 : Value).ownBlock ∧ (some k_ ≠ (v284 : Value).ownBlock ∧ (some k_ ≠ (.slice Ao41 t245.length co41 : Value).ownBlock ∧ (some k_ ≠ (.slice Ao47 t273.length co47 : Value).ownBlock ∧ (some k_ ≠ (.slice Ao56 t275.length co56 : Value).ownBlock ∧ some k_ ≠ (.slice Ao67 t258.length co67 : Value).ownBlock)))))) (n := t286.length) (c := co193) ?_).2.2; exact (by (with_reducible repeat (first | apply Kd.R_alloc | apply Kd.R_drewN | apply Kd.R_drew)); exact (Kd.R_mono (Kd.R_far (p := ⟨gb290, 0, none⟩) (Kd.R_types HO288.out BK290.out (by decide)) (fun _ hk => hk.2) (.slice Ao193 t286.length co193)) (fun _ h_ => h_.1)))); (case side2 => exact (Kd.R_reads' HO288.out).2.1); (case side3 => refine (Kd.R_reads' (e := 3) (base := w.heap.size) (ok := fun k_ => (some k_ ≠ (v281 : Value).ownBlock ∧ (some k_ ≠ (v284 : Value).ownBlock ∧ (some k_ ≠ (.slice Ao193 t286.length co193 : Value).ownBlock ∧ (some k_ ≠ (.slice Ao47 t273.length co47 : Value).ownBlock ∧ (some k_ ≠ (.slice Ao56 t275.length co56 : Value).ownBlock ∧ some k_ ≠ (.slice Ao67 t258.length co67 : Value).ownBlock)))))) (n := t245.length) (c := co41) ?_).2.2; exact (by (with_reducible repeat (first | apply Kd.R_alloc | apply Kd.R_drewN | apply Kd.R_drew)); exact (Kd.R_mono (Kd.R_far (p := ⟨gb290, 0, none⟩) (Kd.R_types HO_250000.out BK290.out (by decide)) (fun _ hk => hk.2) (.slice Ao193 t286.length co193)) (fun _ h_ => h_.1)))); (case side4 => exact (Kd.R_reads' HO_250000.out).2.1); rintro e w210 ⟨rfl, hb⟩; refine ⟨_, rfl, ?_⟩; have n0_ := Aside0.mk (Kd.R_below (by (with_reducible repeat (first | apply Kd.R_alloc | apply Kd.R_drewN | apply Kd.R_drew)); exact (Kd.R_mono (Kd.R_far (p := ⟨gb290, 0, none⟩) (Kd.R_types HO_250000.out BK290.out (by decide)) (fun _ hk => hk.2) (.slice Ao193 t286.length co193)) (fun _ h_ => h_.1))) hb); have n1_ := Aside0.mk (Kd.R_below (by (with_reducible repeat (first | apply Kd.R_alloc | apply Kd.R_drewN | apply Kd.R_drew)); exact (Kd.R_mono (Kd.R_far (p := ⟨gb290, 0, none⟩) (Kd.R_types HO_254000.out BK290.out (by decide)) (fun _ hk => hk.2) (.slice Ao193 t286.length co193)) (fun _ h_ => h_.1))) hb); have n2_ := Aside0.mk (Kd.R_below (by (with_reducible repeat (first | apply Kd.R_alloc | apply Kd.R_drewN | apply Kd.R_drew)); exact (Kd.R_mono (Kd.R_far (p := ⟨gb290, 0, none⟩) (Kd.R_types HO_258000.out BK290.out (by decide)) (fun _ hk => hk.2) (.slice Ao193 t286.length co193)) (fun _ h_ => h_.1))) hb); have n3_ := Aside0.mk (Kd.R_below (by (with_reducible repeat (first | apply Kd.R_alloc | apply Kd.R_drewN | apply Kd.R_drew)); exact (Kd.R_mono (Kd.R_far (p := ⟨gb290, 0, none⟩) (Kd.R_types HO_263000.out BK290.out (by decide)) (fun _ hk => hk.2) (.slice Ao193 t286.length co193)) (fun _ h_ => h_.1))) hb); have n4_ := Aside0.mk (Kd.R_below (by (with_reducible repeat (first | apply Kd.R_alloc | apply Kd.R_drewN | apply Kd.R_drew)); exact (Kd.R_mono (Kd.R_far (p := ⟨gb290, 0, none⟩) (Kd.R_types HO282.out BK290.out (by decide)) (fun _ hk => hk.2) (.slice Ao193 t286.length co193)) (fun _ h_ => h_.1))) hb); have n5_ := Aside0.mk (Kd.R_below (by (with_reducible repeat (first | apply Kd.R_alloc | apply Kd.R_drewN | apply Kd.R_drew)); exact (Kd.R_mono (Kd.R_far (p := ⟨gb290, 0, none⟩) (Kd.R_types HO285.out BK290.out (by decide)) (fun _ hk => hk.2) (.slice Ao193 t286.length co193)) (fun _ h_ => h_.1))) hb); have n6_ := Aside0.mk (Kd.R_below (by (with_reducible repeat (first | apply Kd.R_alloc | apply Kd.R_drewN | apply Kd.R_drew)); exact (Kd.R_mono (Kd.R_far (p := ⟨gb290, 0, none⟩) (Kd.R_types HO288.out BK290.out (by decide)) (fun _ hk => hk.2) (.slice Ao193 t286.length co193)) (fun _ h_ => h_.1))) hb); have n7_ := Aside0.mk (blk_below (g := gb235) (o := .cells #[.slice A0_0 l0_0.length c0_0] 24 (0, 0)) (bf NB235_290 BK235) hb); have n8_ := Aside0.mk (blk_below (g := gb236) (o := .cells #[.slice A1_0 l1_0.length c1_0] 24 (0, 0)) (bf NB236_290 BK236) hb); have n9_ := Aside0.mk (blk_below (g := gb249) (o := .cells #[.slice Ao41 t245.length co41] 27 (0, 0)) (bf NB249_290 BK249) hb); have n10_ := Aside0.mk (blk_below (g := gb253) (o := .cells #[.slice Ao47 t273.length co47] 27 (0, 0)) (bf NB253_290 BK253) hb); have n11_ := Aside0.mk (blk_below (g := gb257) (o := .cells #[.slice Ao56 t275.length co56] 27 (0, 0)) (bf NB257_290 BK257) hb); have n12_ := Aside0.mk (blk_below (g := gb262) (o := .cells #[.slice Ao67 t258.length co67] 27 (0, 0)) (bf NB262_290 BK262) hb); have n13_ := Aside0.mk (blk_below (g := gb290) (o := .cells #[.slice Ao193 t286.length co193] 27 (0, 0)) (by (with_reducible repeat (first | refine blk_drewN ?_ _ | refine blk_drew ?_ | refine blk_alloc ?_ _)); refine blk_put (cs := #[.slice none 0 0]) ?_ 0 _ rfl; (with_reducible repeat (first | refine blk_drewN ?_ _ | refine blk_drew ?_ | refine blk_alloc ?_ _)); exact BK290.out) hb); have n14_ := Aside0.mk (below_step (hq7 HB GE235 GE236 GE249 GE253 GE257 GE262 GE290) hb); clear HO_250000; clear HO_254000; clear HO_258000; clear HO_263000; clear HO282; clear HO285; clear HO288; clear BK235; clear BK236; clear BK249; clear BK253; clear BK257; clear BK262; clear BK290; clear HB; have HO_250000 := n0_; have HO_254000 := n1_; have HO_258000 := n2_; have HO_263000 := n3_; have HO282 := n4_; have HO285 := n5_; have HO288 := n6_; have BK235 := n7_; have BK236 := n8_; have BK249 := n9_; have BK253 := n10_; have BK257 := n11_; have BK262 := n12_; have BK290 := n13_; have HB := n14_; clear n0_ n1_ n2_ n3_ n4_ n5_ n6_ n7_ n8_ n9_ n10_ n11_ n12_ n13_ n14_; (try clear hb); (try clear hb2); (try clear hk); (try clear hi)))
     go_meet
     case rel => exact ⟨_, ((t289 != t248)), (by first | rfl | (simp; done) | (simp [*]; done)), H', ⟨by have := HJ24.out; have := HJ108.out; first | omega | exact Nat.le_refl _⟩, ⟨by (try simp only [hl254000_108]); (try simp only [hl258000_108]); (with_reducible repeat (first | apply Kd.R_alloc | apply Kd.R_drewN | apply Kd.R_drew)); exact Kd.R_mono HO_250000.out (fun _ hk => ⟨hk.2.2.2.1, ⟨hk.2.2.2.2.1, ⟨hk.2.2.2.2.2, hk.2.2.1⟩⟩⟩)⟩, ⟨by (try simp only [hl254000_108]); (try simp only [hl258000_108]); (with_reducible repeat (first | apply Kd.R_alloc | apply Kd.R_drewN | apply Kd.R_drew)); exact Kd.R_mono HO_254000.out (fun _ hk => ⟨hk.2.2.2.1, ⟨hk.2.2.2.2.1, ⟨hk.2.2.2.2.2, hk.2.2.1⟩⟩⟩)⟩, ⟨by (try simp only [hl254000_108]); (try simp only [hl258000_108]); (with_reducible repeat (first | apply Kd.R_alloc | apply Kd.R_drewN | apply Kd.R_drew)); exact Kd.R_mono HO_258000.out (fun _ hk => ⟨hk.2.2.2.1, ⟨hk.2.2.2.2.1, ⟨hk.2.2.2.2.2, hk.2.2.1⟩⟩⟩)⟩, ⟨by (try simp only [hl254000_108]); (try simp only [hl258000_108]); (with_reducible repeat (first | apply Kd.R_alloc | apply Kd.R_drewN | apply Kd.R_drew)); exact Kd.R_mono HO_263000.out (fun _ hk => ⟨hk.2.2.2.1, ⟨hk.2.2.2.2.1, ⟨hk.2.2.2.2.2, hk.2.2.1⟩⟩⟩)⟩, ⟨by (try simp only [hl254000_108]); (try simp only [hl258000_108]); (with_reducible repeat (first | apply Kd.R_alloc | apply Kd.R_drewN | apply Kd.R_drew)); exact Kd.R_mono HO288.out (fun _ hk => ⟨hk.2.2.1, ⟨hk.2.2.2.1, ⟨hk.2.2.2.2.1, hk.2.2.2.2.2⟩⟩⟩)⟩, ⟨by (try simp only [hl254000_108]); (try simp only [hl258000_108]); (with_reducible repeat (first | refine blk_drewN ?_ _ | refine blk_drew ?_ | refine blk_alloc ?_ _)); exact BK235.out⟩, ⟨by (try simp only [hl254000_108]); (try simp only [hl258000_108]); (with_reducible repeat (first | refine blk_drewN ?_ _ | refine blk_drew ?_ | refine blk_alloc ?_ _)); exact BK236.out⟩, ⟨by (try simp only [hl254000_108]); (try simp only [hl258000_108]); (with_reducible repeat (first | refine blk_drewN ?_ _ | refine blk_drew ?_ | refine blk_alloc ?_ _)); exact BK249.out⟩, ⟨by (try simp only [hl254000_108]); (try simp only [hl258000_108]); (with_reducible repeat (first | refine blk_drewN ?_ _ | refine blk_drew ?_ | refine blk_alloc ?_ _)); exact BK253.out⟩, ⟨by (try simp only [hl254000_108]); (try simp only [hl258000_108]); (with_reducible repeat (first | refine blk_drewN ?_ _ | refine blk_drew ?_ | refine blk_alloc ?_ _)); exact BK257.out⟩, ⟨by (try simp only [hl254000_108]); (try simp only [hl258000_108]); (with_reducible repeat (first | refine blk_drewN ?_ _ | refine blk_drew ?_ | refine blk_alloc ?_ _)); exact BK262.out⟩, ⟨by (try simp only [hl254000_108]); (try simp only [hl258000_108]); (with_reducible repeat (first | refine blk_drewN ?_ _ | refine blk_drew ?_ | refine blk_alloc ?_ _)); exact BK290.out⟩, ⟨hq7 HB GE235 GE236 GE249 GE253 GE257 GE262 GE290⟩⟩
   replace c196 := Bool.eq_false_iff.mpr c196
   subst c196
   have H1 : (laws_FnExactLessBig.j2 kj108 t277 true t278) = some true := by rw [if_neg (show ¬ (false = true) by decide)] at H; exact H
   clear H
   have H := H1
   clear H1
   have H' := Aside0.mk H
   clear H
   have hnb211 := NB290_235.out
   have hnc211 := NB235_290.out
   have hnb212 := NB290_236.out
   have hnc212 := NB236_290.out
   have hnb213 := NB290_249.out
   have hnc213 := NB249_290.out
   have hnb214 := NB290_253.out
   have hnc214 := NB253_290.out
   have hnb215 := NB290_257.out
   have hnc215 := NB257_290.out
   have hnb216 := NB290_262.out
   have hnc216 := NB262_290.out
   have hcz217_0 : w192.cell? ⟨gb290, 0, none⟩ = some (.slice none 0 0) := (blk_cell BK290.out 0).trans rfl
   have hfz217_0 := blk_frozen BK290.out 0
   have hnb218 := NB249_235.out
   have hnc218 := NB235_249.out
   have hnb219 := NB249_236.out
   have hnc219 := NB236_249.out
   have hnb220 := NB249_253.out
   have hnc220 := NB253_249.out
   have hnb221 := NB249_257.out
   have hnc221 := NB257_249.out
   have hnb222 := NB249_262.out
   have hnc222 := NB262_249.out
   have hcz223_0 : w192.cell? ⟨gb249, 0, none⟩ = some (.slice Ao41 t245.length co41) := (blk_cell BK249.out 0).trans rfl
   have hfz223_0 := blk_frozen BK249.out 0
   go_wp2_with (first | ((with_reducible refine gate_callee (f := 19) rfl ?_); refine goesL_ (some 104) rfl rfl Try.func19 (by kernel_rfl) rfl #[.agg #[.slice Ao193 t286.length co193], .agg #[.slice Ao41 t245.length co41]] rfl (by (try simp only [List.map_toArray, List.map_cons, List.map_nil]); first | done | rfl | (simp only [List.length_drop, List.length_take]; rfl)) ?_; (with_reducible refine (laws_eqBig.calls kj108 _ _ t286 _ _ t245 false _ ?side1 ?side2 ?side3 ?side4 A195.out).mono ?_); (case side1 => refine (Kd.R_reads' (e := 3) (base := w.heap.size) (ok := fun k_ => (some k_ ≠ (v281 : Value).ownBlock ∧ (some k_ ≠ (v284 : Value).ownBlock ∧ (some k_ ≠ (.slice Ao41 t245.length co41 : Value).ownBlock ∧ (some k_ ≠ (.slice Ao47 t273.length co47 : Value).ownBlock ∧ (some k_ ≠ (.slice Ao56 t275.length co56 : Value).ownBlock ∧ some k_ ≠ (.slice Ao67 t258.length co67 : Value).ownBlock)))))) (n := t286.length) (c := co193) ?_).2.2; exact (by (with_reducible repeat (first | apply Kd.R_alloc | apply Kd.R_drewN | apply Kd.R_drew)); exact (Kd.R_mono (Kd.R_far (p := ⟨gb290, 0, none⟩) (Kd.R_types HO288.out BK290.out (by decide)) (fun _ hk => hk.2) (.slice Ao193 t286.length co193)) (fun _ h_ => h_.1)))); (case side2 => exact (Kd.R_reads' HO288.out).2.1); (case side3 => refine (Kd.R_reads' (e := 3) (base := w.heap.size) (ok := fun k_ => (some k_ ≠ (v281 : Value).ownBlock ∧ (some k_ ≠ (v284 : Value).ownBlock ∧ (some k_ ≠ (.slice Ao193 t286.length co193 : Value).ownBlock ∧ (some k_ ≠ (.slice Ao47 t273.length co47 : Value).ownBlock ∧ (some k_ ≠ (.slice Ao56 t275.length co56 : Value).ownBlock ∧ some k_ ≠ (.slice Ao67 t258.length co67 : Value).ownBlock)))))) (n := t245.length) (c := co41) ?_).2.2; exact (by (with_reducible repeat (first | apply Kd.R_alloc | apply Kd.R_drewN | apply Kd.R_drew)); exact (Kd.R_mono (Kd.R_far (p := ⟨gb290, 0, none⟩) (Kd.R_types HO_250000.out BK290.out (by decide)) (fun _ hk => hk.2) (.slice Ao193 t286.length co193)) (fun _ h_ => h_.1)))); (case side4 => exact (Kd.R_reads' HO_250000.out).2.1); rintro e w224 ⟨rfl, hb⟩; refine ⟨_, rfl, ?_⟩; have n0_ := Aside0.mk (Kd.R_below (by (with_reducible repeat (first | apply Kd.R_alloc | apply Kd.R_drewN | apply Kd.R_drew)); exact (Kd.R_mono (Kd.R_far (p := ⟨gb290, 0, none⟩) (Kd.R_types HO_250000.out BK290.out (by decide)) (fun _ hk => hk.2) (.slice Ao193 t286.length co193)) (fun _ h_ => h_.1))) hb); have n1_ := Aside0.mk (Kd.R_below (by (with_reducible repeat (first | apply Kd.R_alloc | apply Kd.R_drewN | apply Kd.R_drew)); exact (Kd.R_mono (Kd.R_far (p := ⟨gb290, 0, none⟩) (Kd.R_types HO_254000.out BK290.out (by decide)) (fun _ hk => hk.2) (.slice Ao193 t286.length co193)) (fun _ h_ => h_.1))) hb); have n2_ := Aside0.mk (Kd.R_below (by (with_reducible repeat (first | apply Kd.R_alloc | apply Kd.R_drewN | apply Kd.R_drew)); exact (Kd.R_mono (Kd.R_far (p := ⟨gb290, 0, none⟩) (Kd.R_types HO_258000.out BK290.out (by decide)) (fun _ hk => hk.2) (.slice Ao193 t286.length co193)) (fun _ h_ => h_.1))) hb); have n3_ := Aside0.mk (Kd.R_below (by (with_reducible repeat (first | apply Kd.R_alloc | apply Kd.R_drewN | apply Kd.R_drew)); exact (Kd.R_mono (Kd.R_far (p := ⟨gb290, 0, none⟩) (Kd.R_types HO_263000.out BK290.out (by decide)) (fun _ hk => hk.2) (.slice Ao193 t286.length co193)) (fun _ h_ => h_.1))) hb); have n4_ := Aside0.mk (Kd.R_below (by (with_reducible repeat (first | apply Kd.R_alloc | apply Kd.R_drewN | apply Kd.R_drew)); exact (Kd.R_mono (Kd.R_far (p := ⟨gb290, 0, none⟩) (Kd.R_types HO282.out BK290.out (by decide)) (fun _ hk => hk.2) (.slice Ao193 t286.length co193)) (fun _ h_ => h_.1))) hb); have n5_ := Aside0.mk (Kd.R_below (by (with_reducible repeat (first | apply Kd.R_alloc | apply Kd.R_drewN | apply Kd.R_drew)); exact (Kd.R_mono (Kd.R_far (p := ⟨gb290, 0, none⟩) (Kd.R_types HO285.out BK290.out (by decide)) (fun _ hk => hk.2) (.slice Ao193 t286.length co193)) (fun _ h_ => h_.1))) hb); have n6_ := Aside0.mk (Kd.R_below (by (with_reducible repeat (first | apply Kd.R_alloc | apply Kd.R_drewN | apply Kd.R_drew)); exact (Kd.R_mono (Kd.R_far (p := ⟨gb290, 0, none⟩) (Kd.R_types HO288.out BK290.out (by decide)) (fun _ hk => hk.2) (.slice Ao193 t286.length co193)) (fun _ h_ => h_.1))) hb); have n7_ := Aside0.mk (blk_below (g := gb235) (o := .cells #[.slice A0_0 l0_0.length c0_0] 24 (0, 0)) (bf NB235_290 BK235) hb); have n8_ := Aside0.mk (blk_below (g := gb236) (o := .cells #[.slice A1_0 l1_0.length c1_0] 24 (0, 0)) (bf NB236_290 BK236) hb); have n9_ := Aside0.mk (blk_below (g := gb249) (o := .cells #[.slice Ao41 t245.length co41] 27 (0, 0)) (bf NB249_290 BK249) hb); have n10_ := Aside0.mk (blk_below (g := gb253) (o := .cells #[.slice Ao47 t273.length co47] 27 (0, 0)) (bf NB253_290 BK253) hb); have n11_ := Aside0.mk (blk_below (g := gb257) (o := .cells #[.slice Ao56 t275.length co56] 27 (0, 0)) (bf NB257_290 BK257) hb); have n12_ := Aside0.mk (blk_below (g := gb262) (o := .cells #[.slice Ao67 t258.length co67] 27 (0, 0)) (bf NB262_290 BK262) hb); have n13_ := Aside0.mk (blk_below (g := gb290) (o := .cells #[.slice Ao193 t286.length co193] 27 (0, 0)) (by (with_reducible repeat (first | refine blk_drewN ?_ _ | refine blk_drew ?_ | refine blk_alloc ?_ _)); refine blk_put (cs := #[.slice none 0 0]) ?_ 0 _ rfl; (with_reducible repeat (first | refine blk_drewN ?_ _ | refine blk_drew ?_ | refine blk_alloc ?_ _)); exact BK290.out) hb); have n14_ := Aside0.mk (below_step (hq7 HB GE235 GE236 GE249 GE253 GE257 GE262 GE290) hb); clear HO_250000; clear HO_254000; clear HO_258000; clear HO_263000; clear HO282; clear HO285; clear HO288; clear BK235; clear BK236; clear BK249; clear BK253; clear BK257; clear BK262; clear BK290; clear HB; have HO_250000 := n0_; have HO_254000 := n1_; have HO_258000 := n2_; have HO_263000 := n3_; have HO282 := n4_; have HO285 := n5_; have HO288 := n6_; have BK235 := n7_; have BK236 := n8_; have BK249 := n9_; have BK253 := n10_; have BK257 := n11_; have BK262 := n12_; have BK290 := n13_; have HB := n14_; clear n0_ n1_ n2_ n3_ n4_ n5_ n6_ n7_ n8_ n9_ n10_ n11_ n12_ n13_ n14_; (try clear hb); (try clear hb2); (try clear hk); (try clear hi)))
   go_meet
   case rel => exact ⟨_, (true), (by first | rfl | (simp; done) | (simp [*]; done)), H', ⟨by have := HJ24.out; have := HJ108.out; first | omega | exact Nat.le_refl _⟩, ⟨by (try simp only [hl254000_108]); (try simp only [hl258000_108]); (with_reducible repeat (first | apply Kd.R_alloc | apply Kd.R_drewN | apply Kd.R_drew)); exact Kd.R_mono HO_250000.out (fun _ hk => ⟨hk.2.2.2.1, ⟨hk.2.2.2.2.1, ⟨hk.2.2.2.2.2, hk.2.2.1⟩⟩⟩)⟩, ⟨by (try simp only [hl254000_108]); (try simp only [hl258000_108]); (with_reducible repeat (first | apply Kd.R_alloc | apply Kd.R_drewN | apply Kd.R_drew)); exact Kd.R_mono HO_254000.out (fun _ hk => ⟨hk.2.2.2.1, ⟨hk.2.2.2.2.1, ⟨hk.2.2.2.2.2, hk.2.2.1⟩⟩⟩)⟩, ⟨by (try simp only [hl254000_108]); (try simp only [hl258000_108]); (with_reducible repeat (first | apply Kd.R_alloc | apply Kd.R_drewN | apply Kd.R_drew)); exact Kd.R_mono HO_258000.out (fun _ hk => ⟨hk.2.2.2.1, ⟨hk.2.2.2.2.1, ⟨hk.2.2.2.2.2, hk.2.2.1⟩⟩⟩)⟩, ⟨by (try simp only [hl254000_108]); (try simp only [hl258000_108]); (with_reducible repeat (first | apply Kd.R_alloc | apply Kd.R_drewN | apply Kd.R_drew)); exact Kd.R_mono HO_263000.out (fun _ hk => ⟨hk.2.2.2.1, ⟨hk.2.2.2.2.1, ⟨hk.2.2.2.2.2, hk.2.2.1⟩⟩⟩)⟩, ⟨by (try simp only [hl254000_108]); (try simp only [hl258000_108]); (with_reducible repeat (first | apply Kd.R_alloc | apply Kd.R_drewN | apply Kd.R_drew)); exact Kd.R_mono HO288.out (fun _ hk => ⟨hk.2.2.1, ⟨hk.2.2.2.1, ⟨hk.2.2.2.2.1, hk.2.2.2.2.2⟩⟩⟩)⟩, ⟨by (try simp only [hl254000_108]); (try simp only [hl258000_108]); (with_reducible repeat (first | refine blk_drewN ?_ _ | refine blk_drew ?_ | refine blk_alloc ?_ _)); exact BK235.out⟩, ⟨by (try simp only [hl254000_108]); (try simp only [hl258000_108]); (with_reducible repeat (first | refine blk_drewN ?_ _ | refine blk_drew ?_ | refine blk_alloc ?_ _)); exact BK236.out⟩, ⟨by (try simp only [hl254000_108]); (try simp only [hl258000_108]); (with_reducible repeat (first | refine blk_drewN ?_ _ | refine blk_drew ?_ | refine blk_alloc ?_ _)); exact BK249.out⟩, ⟨by (try simp only [hl254000_108]); (try simp only [hl258000_108]); (with_reducible repeat (first | refine blk_drewN ?_ _ | refine blk_drew ?_ | refine blk_alloc ?_ _)); exact BK253.out⟩, ⟨by (try simp only [hl254000_108]); (try simp only [hl258000_108]); (with_reducible repeat (first | refine blk_drewN ?_ _ | refine blk_drew ?_ | refine blk_alloc ?_ _)); exact BK257.out⟩, ⟨by (try simp only [hl254000_108]); (try simp only [hl258000_108]); (with_reducible repeat (first | refine blk_drewN ?_ _ | refine blk_drew ?_ | refine blk_alloc ?_ _)); exact BK262.out⟩, ⟨by (try simp only [hl254000_108]); (try simp only [hl258000_108]); (with_reducible repeat (first | refine blk_drewN ?_ _ | refine blk_drew ?_ | refine blk_alloc ?_ _)); exact BK290.out⟩, ⟨hq7 HB GE235 GE236 GE249 GE253 GE257 GE262 GE290⟩⟩
 clear HC175
 try clear c1
 try clear c2
 try clear p2
 try clear c17
 try clear c19
 try clear c20
 try clear c21
 try clear c22
 try clear c27
 try clear c196
 try clear c197
 try clear c198
 try clear c199
 try clear c200
 try clear c201
 try clear c202
 try clear c204
 try clear c205
 try clear c206
 try clear c207
 try clear c208
 try clear c211
 try clear c212
 try clear c213
 try clear c214
 try clear c215
 try clear c216
 try clear c218
 try clear c219
 try clear c220
 try clear c221
 try clear c222
 try clear hcz203_0
 try clear hcz209_0
 try clear hcz217_0
 try clear hcz223_0
 try clear hfz203_0
 try clear hfz209_0
 try clear hfz217_0
 try clear hfz223_0
 obtain ⟨kq, x110_174, rfl, HA, HJ174, HO_250000, HO_254000, HO_258000, HO_263000, HO_291000, BK235, BK236, BK249, BK253, BK257, BK262, BK290, HB⟩ := hcut
 have hl263000_174 := (Kd.R_reads' HO_263000.out).1
 rw [hl263000_174] at HO_263000
 (try simp only [hl263000_174])
 (try simp only [hl263000_174] at BK235)
 (try simp only [hl263000_174] at BK236)
 (try simp only [hl263000_174] at BK249)
 (try simp only [hl263000_174] at BK253)
 (try simp only [hl263000_174] at BK257)
 (try simp only [hl263000_174] at BK262)
 (try simp only [hl263000_174] at BK290)
 (try simp only [hl263000_174] at HO_250000)
 (try simp only [hl263000_174] at HO_254000)
 (try simp only [hl263000_174] at HO_258000)
 (try simp only [hl263000_174] at HO_291000)
 obtain _ | kj174 := kq
 · exact absurd HA.out (by simp [laws_FnExactLessBig.j2])
 have H := HA.out
 clear HA
 simp only [laws_FnExactLessBig.j2] at H
 by_cases c225 : x110_174 = true
 · subst c225
   have H1 : (some false) = some true := by rw [if_pos rfl] at H; exact H
   clear H
   have H := H1
   clear H1
   cases H
 replace c225 := Bool.eq_false_iff.mpr c225
 subst c225
 have H1 : ((laws_heldBig.f kj174 t278 1).bind fun t292 => (if t292 < 0 then (some false) else (if t292 = t277 then (some true) else (some false)))) = some true := by rw [if_neg (show ¬ (false = true) by decide)] at H; exact H
 clear H
 have H := H1
 clear H1
 replace H := Option.bind_eq_some_iff.mp H
 obtain ⟨t292, A2260, H⟩ := H
 replace H : (if t292 < 0 then (some false) else (if t292 = t277 then (some true) else (some false))) = some true := H
 have A226 := Aside0.mk A2260
 clear A2260
 by_cases c227 : t292 < 0
 · rw [if_pos c227] at H
   have c227b0 : decide (t292 < 0) = true := decide_eq_true c227
   clear c227
   cases H
 rw [if_neg c227] at H
 have c227b0 : decide (t292 < 0) = false := decide_eq_false c227
 clear c227
 by_cases c236 : t292 = t277
 rotate_left
 · rw [if_neg c236] at H
   have c236b0 : (t292 == t277) = false := beq_eq_false_iff_ne.mpr c236
   have c236b1 : (t292 != t277) = true := bne_iff_ne.mpr c236
   cases H
 rw [if_pos c236] at H
 have c236b0 : (t292 == t277) = true := beq_iff_eq.mpr c236
 have c236b1 : (t292 != t277) = false := bne_eq_false_iff_eq.mpr c236
 clear c236
 clear H
 have hnb237 := NB262_235.out
 have hnc237 := NB235_262.out
 have hnb238 := NB262_236.out
 have hnc238 := NB236_262.out
 have hnb239 := NB262_249.out
 have hnc239 := NB249_262.out
 have hnb240 := NB262_253.out
 have hnc240 := NB253_262.out
 have hnb241 := NB262_257.out
 have hnc241 := NB257_262.out
 have hnb242 := NB262_290.out
 have hnc242 := NB290_262.out
 have hcz243_0 : wc.cell? ⟨gb262, 0, none⟩ = some (.slice Ao67 t278.length co67) := (blk_cell BK262.out 0).trans rfl
 have hfz243_0 := blk_frozen BK262.out 0
 go_wp2_with (first | ((with_reducible refine gate_callee (f := 23) rfl ?_); refine goesL_ (some 113) rfl rfl Try.func23 (by kernel_rfl) rfl #[.agg #[.slice Ao67 t278.length co67], .int .i64 1] rfl (by (try simp only [List.map_toArray, List.map_cons, List.map_nil]); first | done | rfl | (simp only [List.length_drop, List.length_take]; rfl)) ?_; (with_reducible refine (laws_heldBig.calls kj174 _ _ t278 1 t292 _ ?side1 ?side2 A226.out).mono ?_); (case side1 => repeat (first | exact (Kd.R_reads' HO_263000.out).2.2 | (with_reducible refine Kd.C_alloc ?_ _) | (with_reducible refine Kd.C_drewN ?_ _) | (with_reducible refine Kd.C_drew ?_))); (case side2 => exact (Kd.R_reads' HO_263000.out).2.1); rintro e w244 ⟨rfl, hb⟩; refine ⟨_, rfl, ?_⟩; have n0_ := Aside0.mk (qb HO_250000 hb); have n1_ := Aside0.mk (qb HO_254000 hb); have n2_ := Aside0.mk (qb HO_258000 hb); have n3_ := Aside0.mk (qb HO_263000 hb); have n4_ := Aside0.mk (qb HO_291000 hb); have n5_ := Aside0.mk (bB BK235 hb); have n6_ := Aside0.mk (bB BK236 hb); have n7_ := Aside0.mk (bB BK249 hb); have n8_ := Aside0.mk (bB BK253 hb); have n9_ := Aside0.mk (bB BK257 hb); have n10_ := Aside0.mk (bB BK262 hb); have n11_ := Aside0.mk (bB BK290 hb); have n12_ := Aside0.mk (below_step (hq7 HB GE235 GE236 GE249 GE253 GE257 GE262 GE290) hb); clear HO_250000; clear HO_254000; clear HO_258000; clear HO_263000; clear HO_291000; clear BK235; clear BK236; clear BK249; clear BK253; clear BK257; clear BK262; clear BK290; clear HB; have HO_250000 := n0_; have HO_254000 := n1_; have HO_258000 := n2_; have HO_263000 := n3_; have HO_291000 := n4_; have BK235 := n5_; have BK236 := n6_; have BK249 := n7_; have BK253 := n8_; have BK257 := n9_; have BK262 := n10_; have BK290 := n11_; have HB := n12_; clear n0_ n1_ n2_ n3_ n4_ n5_ n6_ n7_ n8_ n9_ n10_ n11_ n12_; (try clear hb); (try clear hb2); (try clear hk); (try clear hi)))
 go_ret
 exact ⟨by first | rfl | (simp [errW_none, errW_some] <;> rfl) | (simp [*, errW_none, errW_some] <;> rfl), hq7 HB GE235 GE236 GE249 GE253 GE257 GE262 GE290⟩
end Go.Proofs.Ytcehboknhdmmfaa.QFnExactLessBig
