import Derived.Test.YtcehboknhdmmfaaSqueeze
import Derived.Test.YtcehboknhdmmfaaQFnExactAddBigx0
import Derived.Test.YtcehboknhdmmfaaQFnExactAddBigx1
import Derived.Test.YtcehboknhdmmfaaQFnExactAddBigx2
import Derived.Test.YtcehboknhdmmfaaQFnExactAddBigx3
namespace Go.Proofs.Ytcehboknhdmmfaa.QFnExactAddBig
open Go.RowKit Go.Proofs.YtcehboknhdmmfaaW.PrintWords Go.Proofs.YtcehboknhdmmfaaW.PrintLast Go.Proofs.YtcehboknhdmmfaaW.PrintMore
attribute [local go_sem] max2_int min2_int max_two min_two max_three min_three max_four min_four   -- for this text's walks alone
set_option linter.unusedVariables false
set_option linter.unusedSimpArgs false

/-! ### laws_FnExactAddBig: function 5 -/
mutual
def laws_FnExactAddBig.j0 : Nat → Bool → Bool → Bool → List Int → List Int → List Int → List Int → List Int → List Int → Option (Bool)
  | 0, _, _, _, _, _, _, _, _, _ => none
  | k + 1, x7, x11, x53, x228000, x229000, x242000, x246000, x250000, x255000 => if x53 = true then (some false) else ((laws_toBig.f k x228000).bind fun t256 => ((laws_eqBig.f k x246000 t256).bind fun t259 => (if t259 = true then ((laws_toBig.f k x229000).bind fun t260 => ((laws_eqBig.f k x250000 t260).bind fun t263 => (if t263 = true then ((laws_markBig.f k x246000 1).bind fun bt264 => ((laws_markBig.f k x250000 bt264.1).bind fun bt266 => (if bt266.1 < 0 then (laws_FnExactAddBig.j1 k x7 true x228000 x229000 x242000 x255000) else ((laws_eqBig.f k x255000 x242000).bind fun t268 => (if t268 = true then (laws_FnExactAddBig.j1 k x7 (x11 != x7) x228000 x229000 x242000 x255000) else (laws_FnExactAddBig.j1 k x7 true x228000 x229000 x242000 x255000)))))) else (some false)))) else (some false))))
def laws_FnExactAddBig.j1 : Nat → Bool → Bool → List Int → List Int → List Int → List Int → Option (Bool)
  | 0, _, _, _, _, _, _ => none
  | k + 1, x7, x82, x228000, x229000, x242000, x255000 => if x82 = true then (some false) else ((laws_markBig.f k x255000 1).bind fun bt269 => ((laws_heldBig.f k bt269.2 1).bind fun t271 => (if t271 < 0 then (some false) else (if t271 = bt269.1 then ((laws_toBig.f k x228000).bind fun t272 => ((laws_toBig.f k x229000).bind fun t275 => ((impl_AddBig.f k t272 t275).bind fun bt278 => ((laws_eqBig.f k bt278.1 x242000).bind fun t283 => (if t283 = true then (laws_FnExactAddBig.j2 k bt269.1 (bt278.2 != x7) bt269.2) else (laws_FnExactAddBig.j2 k bt269.1 true bt269.2)))))) else (some false)))))
def laws_FnExactAddBig.j2 : Nat → Int → Bool → List Int → Option (Bool)
  | 0, _, _, _ => none
  | k + 1, x13, x110, x255000 => if x110 = true then (some false) else ((laws_heldBig.f k x255000 1).bind fun t284 => (if t284 < 0 then (some false) else (if t284 = x13 then (some true) else (some false))))
end
def laws_FnExactAddBig.f (k : Nat) (l0_0 : List Int) (l1_0 : List Int) : Option (Bool) := (laws_szBig.f l0_0 1048576).bind fun t229 => (if t229 < 0 then (some true) else ((laws_szBig.f l1_0 t229).bind fun t230 => (if t230 < 0 then (some true) else ((laws_toBig.f k l0_0).bind fun t231 => ((laws_toBig.f k l1_0).bind fun t234 => ((spec_AddBig.f k t231 t234).bind fun bt237 => ((laws_toBig.f k l0_0).bind fun t242 => ((laws_toBig.f k l1_0).bind fun t246 => ((impl_AddBig.f k t242 t246).bind fun bt250 => ((laws_eqBig.f k bt250.1 bt237.1).bind fun t255 => (if t255 = true then (laws_FnExactAddBig.j0 k bt237.2 bt250.2 (bt250.2 != bt237.2) l0_0 l1_0 bt237.1 t242 t246 bt250.1) else (laws_FnExactAddBig.j0 k bt237.2 bt250.2 true l0_0 l1_0 bt237.1 t242 t246 bt250.1))))))))))))
theorem laws_FnExactAddBig.mono_l : ∀ k, (∀ y0 y1 y2 y3 y4 y5 y6 y7 y8, LeO (laws_FnExactAddBig.j0 k y0 y1 y2 y3 y4 y5 y6 y7 y8) (laws_FnExactAddBig.j0 (k + 1) y0 y1 y2 y3 y4 y5 y6 y7 y8)) ∧ (∀ y0 y1 y2 y3 y4 y5, LeO (laws_FnExactAddBig.j1 k y0 y1 y2 y3 y4 y5) (laws_FnExactAddBig.j1 (k + 1) y0 y1 y2 y3 y4 y5)) ∧ (∀ y0 y1 y2, LeO (laws_FnExactAddBig.j2 k y0 y1 y2) (laws_FnExactAddBig.j2 (k + 1) y0 y1 y2))
  | 0 => ⟨fun _ _ _ _ _ _ _ _ _ r h => by simp [laws_FnExactAddBig.j0] at h, fun _ _ _ _ _ _ r h => by simp [laws_FnExactAddBig.j1] at h, fun _ _ _ r h => by simp [laws_FnExactAddBig.j2] at h⟩
  | k + 1 => by
    obtain ⟨ih0, ih1, ih2⟩ := laws_FnExactAddBig.mono_l k
    refine ⟨?_, ?_, ?_⟩
    · intro y0 y1 y2 y3 y4 y5 y6 y7 y8
      unfold laws_FnExactAddBig.j0
      repeat' first
      | (with_reducible exact ih0 _ _ _ _ _ _ _ _ _)
      | (with_reducible exact ih1 _ _ _ _ _ _)
      | (with_reducible exact ih2 _ _ _)
      | (with_reducible exact impl_AddBig.mono _ _ _)
      | (with_reducible exact laws_eqBig.mono _ _ _)
      | (with_reducible exact laws_heldBig.mono _ _ _)
      | (with_reducible exact laws_markBig.mono _ _ _)
      | (with_reducible exact laws_toBig.mono _ _)
      | (with_reducible exact spec_AddBig.mono _ _ _)
      | (with_reducible exact LeO.refl _)
      | (with_reducible exact LeO.none _)
      | (with_reducible refine LeO.ite ?_ ?_)
      | (with_reducible refine LeO.bind ?_ (fun _ => ?_))
      | exact ih0 _ _ _ _ _ _ _ _ _
      | exact ih1 _ _ _ _ _ _
      | exact ih2 _ _ _
      | exact impl_AddBig.mono _ _ _
      | exact laws_eqBig.mono _ _ _
      | exact laws_heldBig.mono _ _ _
      | exact laws_markBig.mono _ _ _
      | exact laws_toBig.mono _ _
      | exact spec_AddBig.mono _ _ _
      | exact LeO.none _
      | refine LeO.ite ?_ ?_
      | refine LeO.bind ?_ (fun _ => ?_)
    · intro y0 y1 y2 y3 y4 y5
      unfold laws_FnExactAddBig.j1
      repeat' first
      | (with_reducible exact ih0 _ _ _ _ _ _ _ _ _)
      | (with_reducible exact ih1 _ _ _ _ _ _)
      | (with_reducible exact ih2 _ _ _)
      | (with_reducible exact impl_AddBig.mono _ _ _)
      | (with_reducible exact laws_eqBig.mono _ _ _)
      | (with_reducible exact laws_heldBig.mono _ _ _)
      | (with_reducible exact laws_markBig.mono _ _ _)
      | (with_reducible exact laws_toBig.mono _ _)
      | (with_reducible exact spec_AddBig.mono _ _ _)
      | (with_reducible exact LeO.refl _)
      | (with_reducible exact LeO.none _)
      | (with_reducible refine LeO.ite ?_ ?_)
      | (with_reducible refine LeO.bind ?_ (fun _ => ?_))
      | exact ih0 _ _ _ _ _ _ _ _ _
      | exact ih1 _ _ _ _ _ _
      | exact ih2 _ _ _
      | exact impl_AddBig.mono _ _ _
      | exact laws_eqBig.mono _ _ _
      | exact laws_heldBig.mono _ _ _
      | exact laws_markBig.mono _ _ _
      | exact laws_toBig.mono _ _
      | exact spec_AddBig.mono _ _ _
      | exact LeO.none _
      | refine LeO.ite ?_ ?_
      | refine LeO.bind ?_ (fun _ => ?_)
    · intro y0 y1 y2
      unfold laws_FnExactAddBig.j2
      repeat' first
      | (with_reducible exact ih0 _ _ _ _ _ _ _ _ _)
      | (with_reducible exact ih1 _ _ _ _ _ _)
      | (with_reducible exact ih2 _ _ _)
      | (with_reducible exact impl_AddBig.mono _ _ _)
      | (with_reducible exact laws_eqBig.mono _ _ _)
      | (with_reducible exact laws_heldBig.mono _ _ _)
      | (with_reducible exact laws_markBig.mono _ _ _)
      | (with_reducible exact laws_toBig.mono _ _)
      | (with_reducible exact spec_AddBig.mono _ _ _)
      | (with_reducible exact LeO.refl _)
      | (with_reducible exact LeO.none _)
      | (with_reducible refine LeO.ite ?_ ?_)
      | (with_reducible refine LeO.bind ?_ (fun _ => ?_))
      | exact ih0 _ _ _ _ _ _ _ _ _
      | exact ih1 _ _ _ _ _ _
      | exact ih2 _ _ _
      | exact impl_AddBig.mono _ _ _
      | exact laws_eqBig.mono _ _ _
      | exact laws_heldBig.mono _ _ _
      | exact laws_markBig.mono _ _ _
      | exact laws_toBig.mono _ _
      | exact spec_AddBig.mono _ _ _
      | exact LeO.none _
      | refine LeO.ite ?_ ?_
      | refine LeO.bind ?_ (fun _ => ?_)
theorem laws_FnExactAddBig.mono : ∀ a0 a1 k, LeO (laws_FnExactAddBig.f k a0 a1) (laws_FnExactAddBig.f (k + 1) a0 a1) := by
  intro a0 a1 k
  obtain ⟨ih0, ih1, ih2⟩ := laws_FnExactAddBig.mono_l k
  unfold laws_FnExactAddBig.f
  repeat' first
      | (with_reducible exact ih0 _ _ _ _ _ _ _ _ _)
      | (with_reducible exact ih1 _ _ _ _ _ _)
      | (with_reducible exact ih2 _ _ _)
      | (with_reducible exact impl_AddBig.mono _ _ _)
      | (with_reducible exact laws_eqBig.mono _ _ _)
      | (with_reducible exact laws_heldBig.mono _ _ _)
      | (with_reducible exact laws_markBig.mono _ _ _)
      | (with_reducible exact laws_toBig.mono _ _)
      | (with_reducible exact spec_AddBig.mono _ _ _)
      | (with_reducible exact LeO.refl _)
      | (with_reducible exact LeO.none _)
      | (with_reducible refine LeO.ite ?_ ?_)
      | (with_reducible refine LeO.bind ?_ (fun _ => ?_))
      | exact ih0 _ _ _ _ _ _ _ _ _
      | exact ih1 _ _ _ _ _ _
      | exact ih2 _ _ _
      | exact impl_AddBig.mono _ _ _
      | exact laws_eqBig.mono _ _ _
      | exact laws_heldBig.mono _ _ _
      | exact laws_markBig.mono _ _ _
      | exact laws_toBig.mono _ _
      | exact spec_AddBig.mono _ _ _
      | exact LeO.none _
      | refine LeO.ite ?_ ?_
      | refine LeO.bind ?_ (fun _ => ?_)
def laws_FnExactAddBig.T8 : Bool × List (List Nat × List Nat) := (true, [([], []), ([0], [0]), ([], []), ([2, 1], [2]), ([1, 3, 3], [1, 3]), ([4], [4]), ([5], [5]), ([5], [5]), ([], []), ([8, 6, 4, 0, 1, 2, 3, 4, 5, 6, 8], [6, 8]), ([7, 9, 0, 1, 2, 3, 4, 5, 6, 7, 8, 9], [7])])
def laws_FnExactAddBig.B8 : List Nat := [0, 1, 0, 7, 15, 31, 63, 63, 0, 383, 1023]
theorem laws_FnExactAddBig.tab8 : rtab .any (opsOf Try.f5 8) = laws_FnExactAddBig.T8 := by kernel_rfl
theorem laws_FnExactAddBig.bits8 : waitsOk laws_FnExactAddBig.T8.2 laws_FnExactAddBig.B8 = true := by kernel_rfl
def laws_FnExactAddBig.T31 : Bool × List (List Nat × List Nat) := (true, [([], []), ([0], [0]), ([], []), ([2, 1], [2]), ([1, 3, 3], [1, 3]), ([4], [4]), ([5], [5]), ([5], [5]), ([], []), ([8, 6, 4, 0, 1, 2, 3, 4, 5, 6, 8], [6, 8]), ([7, 9, 0, 1, 2, 3, 4, 5, 6, 7, 8, 9], [7])])
def laws_FnExactAddBig.B31 : List Nat := [0, 1, 0, 7, 15, 31, 63, 63, 0, 383, 1023]
theorem laws_FnExactAddBig.tab31 : rtab .any (opsOf Try.f5 31) = laws_FnExactAddBig.T31 := by kernel_rfl
theorem laws_FnExactAddBig.bits31 : waitsOk laws_FnExactAddBig.T31.2 laws_FnExactAddBig.B31 = true := by kernel_rfl
set_option maxHeartbeats 8000000 in
set_option maxRecDepth 100000 in
theorem laws_FnExactAddBig.calls (k : Nat) (A0_0 : Option Addr) (c0_0 : Nat) (l0_0 : List Int) (A1_0 : Option Addr) (c1_0 : Nat) (l1_0 : List Int) (_r : Bool) (w : World) (hr0_0 : Kd.C (Kd.int .i64) w A0_0 l0_0.length l0_0) (hc0_0 : l0_0.length ≤ c0_0) (hr1_0 : Kd.C (Kd.int .i64) w A1_0 l1_0.length l1_0) (hc1_0 : l1_0.length ≤ c1_0) (h : laws_FnExactAddBig.f k l0_0 l1_0 = some true) :
    Calls Try.prog 5 #[.agg #[.slice A0_0 l0_0.length c0_0], .agg #[.slice A1_0 l1_0.length c1_0]] w fun e w' => e = .returned (.bool true) ∧ Below w.heap.size w w' := by
 have hu24 := Try.underlying24
 have hu27 := Try.underlying27
 have HR0_0 := Aside0.mk hr0_0
 have HC0_0 := Aside0.mk hc0_0
 clear hr0_0 hc0_0
 have HR1_0 := Aside0.mk hr1_0
 have HC1_0 := Aside0.mk hc1_0
 clear hr1_0 hc1_0
 have HB := Aside0.mk (Below.refl w.heap.size w)
 have H : ((laws_szBig.f l0_0 1048576).bind fun t229 => (if t229 < 0 then (some true) else ((laws_szBig.f l1_0 t229).bind fun t230 => (if t230 < 0 then (some true) else ((laws_toBig.f k l0_0).bind fun t231 => ((laws_toBig.f k l1_0).bind fun t234 => ((spec_AddBig.f k t231 t234).bind fun bt237 => ((laws_toBig.f k l0_0).bind fun t242 => ((laws_toBig.f k l1_0).bind fun t246 => ((impl_AddBig.f k t242 t246).bind fun bt250 => ((laws_eqBig.f k bt250.1 bt237.1).bind fun t255 => (if t255 = true then (laws_FnExactAddBig.j0 k bt237.2 bt250.2 (bt250.2 != bt237.2) l0_0 l1_0 bt237.1 t242 t246 bt250.1) else (laws_FnExactAddBig.j0 k bt237.2 bt250.2 true l0_0 l1_0 bt237.1 t242 t246 bt250.1))))))))))))) = some true := h
 clear h
 replace H := Option.bind_eq_some_iff.mp H
 obtain ⟨t229, A30, H⟩ := H
 replace H : (if t229 < 0 then (some true) else ((laws_szBig.f l1_0 t229).bind fun t230 => (if t230 < 0 then (some true) else ((laws_toBig.f k l0_0).bind fun t231 => ((laws_toBig.f k l1_0).bind fun t234 => ((spec_AddBig.f k t231 t234).bind fun bt237 => ((laws_toBig.f k l0_0).bind fun t242 => ((laws_toBig.f k l1_0).bind fun t246 => ((impl_AddBig.f k t242 t246).bind fun bt250 => ((laws_eqBig.f k bt250.1 bt237.1).bind fun t255 => (if t255 = true then (laws_FnExactAddBig.j0 k bt237.2 bt250.2 (bt250.2 != bt237.2) l0_0 l1_0 bt237.1 t242 t246 bt250.1) else (laws_FnExactAddBig.j0 k bt237.2 bt250.2 true l0_0 l1_0 bt237.1 t242 t246 bt250.1)))))))))))) = some true := H
 have A3 := Aside0.mk A30
 clear A30
 by_cases c4 : t229 < 0
 · rw [if_pos c4] at H
   have c4b0 : decide (t229 < 0) = true := decide_eq_true c4
   clear c4
   clear H
   go_enter Try.func5, Try.ntmps5
   go_wp2_with (first | ((with_reducible refine gate_dst (N := 2) rfl ?_); refine box_event ?hg (N := 2) ?hd (cs := #[.slice A0_0 l0_0.length c0_0]) (t := 24) ?hr ?_; (case hd => rfl); (case hg => rfl); (case hr => first | (go_simp; done) | (go_simp; rfl)); intro gb227 hg w5 hbox hb; have n0_ := Aside0.mk (below_step (hq HB) hb); have n1_ := Aside0.mk (hbox); have n2_ := Aside0.mk (ng hg (hq HB)); have n3_ := Aside0.mk (ng hg (hq HB)); clear HB; have HB := n0_; have BK227 := n1_; have GW227 := n2_; have GE227 := n3_; clear n0_ n1_ n2_ n3_; clear hb hbox hg) | ((with_reducible refine gate_dst (N := 3) rfl ?_); refine box_event ?hg (N := 3) ?hd (cs := #[.slice A1_0 l1_0.length c1_0]) (t := 24) ?hr ?_; (case hd => rfl); (case hg => rfl); (case hr => first | (go_simp; done) | (go_simp; rfl)); intro gb228 hg w6 hbox hb; have n0_ := Aside0.mk (bB BK227 hb); have n1_ := Aside0.mk (below_step (hq1 HB GE227) hb); have n2_ := Aside0.mk (hbox); have n3_ := Aside0.mk (ng hg (hq1 HB GE227)); have n4_ := Aside0.mk (ng hg (hq1 HB GE227)); have n5_ := Aside0.mk (nl hg BK227); have n6_ := Aside0.mk (nr hg BK227); clear BK227; clear HB; have BK227 := n0_; have HB := n1_; have BK228 := n2_; have GW228 := n3_; have GE228 := n4_; have NB227_228 := n5_; have NB228_227 := n6_; clear n0_ n1_ n2_ n3_ n4_ n5_ n6_; clear hb hbox hg; have hnb7 := NB227_228.out; have hnc7 := NB228_227.out; have hcz8_0 : w6.cell? ⟨gb227, 0, none⟩ = some (.slice A0_0 l0_0.length c0_0) := (blk_cell BK227.out 0).trans rfl; have hfz8_0 := blk_frozen BK227.out 0) | ((with_reducible refine gate_callee (f := 15) rfl ?_); refine goesL_ (some 19) rfl rfl Try.func15 (by kernel_rfl) rfl #[.agg #[.slice A0_0 l0_0.length c0_0], .int .i64 1048576] rfl (by (try simp only [List.map_toArray, List.map_cons, List.map_nil]); first | done | rfl | (simp only [List.length_drop, List.length_take]; rfl)) ?_; (with_reducible refine (laws_szBig.calls _ _ l0_0 1048576 t229 _ ?side1 ?side2 A3.out).mono ?_); (case side1 => repeat (first | exact (Kd.C_below HR0_0.out HB.out) | (with_reducible refine Kd.C_alloc ?_ _) | (with_reducible refine Kd.C_drewN ?_ _) | (with_reducible refine Kd.C_drew ?_))); (case side2 => exact HC0_0.out); rintro e w9 ⟨rfl, hb⟩; refine ⟨_, rfl, ?_⟩; have n0_ := Aside0.mk (bB BK227 hb); have n1_ := Aside0.mk (bB BK228 hb); have n2_ := Aside0.mk (below_step (hq2 HB GE227 GE228) hb); clear BK227; clear BK228; clear HB; have BK227 := n0_; have BK228 := n1_; have HB := n2_; clear n0_ n1_ n2_; (try clear hb); (try clear hb2); (try clear hk); (try clear hi)))
   go_ret
   exact ⟨by first | rfl | (simp [errW_none, errW_some] <;> rfl) | (simp [*, errW_none, errW_some] <;> rfl), hq2 HB GE227 GE228⟩
 rw [if_neg c4] at H
 have c4b0 : decide (t229 < 0) = false := decide_eq_false c4
 clear c4
 replace H := Option.bind_eq_some_iff.mp H
 obtain ⟨t230, A100, H⟩ := H
 replace H : (if t230 < 0 then (some true) else ((laws_toBig.f k l0_0).bind fun t231 => ((laws_toBig.f k l1_0).bind fun t234 => ((spec_AddBig.f k t231 t234).bind fun bt237 => ((laws_toBig.f k l0_0).bind fun t242 => ((laws_toBig.f k l1_0).bind fun t246 => ((impl_AddBig.f k t242 t246).bind fun bt250 => ((laws_eqBig.f k bt250.1 bt237.1).bind fun t255 => (if t255 = true then (laws_FnExactAddBig.j0 k bt237.2 bt250.2 (bt250.2 != bt237.2) l0_0 l1_0 bt237.1 t242 t246 bt250.1) else (laws_FnExactAddBig.j0 k bt237.2 bt250.2 true l0_0 l1_0 bt237.1 t242 t246 bt250.1)))))))))) = some true := H
 have A10 := Aside0.mk A100
 clear A100
 by_cases c11 : t230 < 0
 · rw [if_pos c11] at H
   have c11b0 : decide (t230 < 0) = true := decide_eq_true c11
   clear c11
   clear H
   go_enter Try.func5, Try.ntmps5
   go_wp2_with (first | ((with_reducible refine gate_dst (N := 2) rfl ?_); refine box_event ?hg (N := 2) ?hd (cs := #[.slice A0_0 l0_0.length c0_0]) (t := 24) ?hr ?_; (case hd => rfl); (case hg => rfl); (case hr => first | (go_simp; done) | (go_simp; rfl)); intro gb227 hg w12 hbox hb; have n0_ := Aside0.mk (below_step (hq HB) hb); have n1_ := Aside0.mk (hbox); have n2_ := Aside0.mk (ng hg (hq HB)); have n3_ := Aside0.mk (ng hg (hq HB)); clear HB; have HB := n0_; have BK227 := n1_; have GW227 := n2_; have GE227 := n3_; clear n0_ n1_ n2_ n3_; clear hb hbox hg) | ((with_reducible refine gate_dst (N := 3) rfl ?_); refine box_event ?hg (N := 3) ?hd (cs := #[.slice A1_0 l1_0.length c1_0]) (t := 24) ?hr ?_; (case hd => rfl); (case hg => rfl); (case hr => first | (go_simp; done) | (go_simp; rfl)); intro gb228 hg w13 hbox hb; have n0_ := Aside0.mk (bB BK227 hb); have n1_ := Aside0.mk (below_step (hq1 HB GE227) hb); have n2_ := Aside0.mk (hbox); have n3_ := Aside0.mk (ng hg (hq1 HB GE227)); have n4_ := Aside0.mk (ng hg (hq1 HB GE227)); have n5_ := Aside0.mk (nl hg BK227); have n6_ := Aside0.mk (nr hg BK227); clear BK227; clear HB; have BK227 := n0_; have HB := n1_; have BK228 := n2_; have GW228 := n3_; have GE228 := n4_; have NB227_228 := n5_; have NB228_227 := n6_; clear n0_ n1_ n2_ n3_ n4_ n5_ n6_; clear hb hbox hg; have hnb14 := NB227_228.out; have hnc14 := NB228_227.out; have hcz15_0 : w13.cell? ⟨gb227, 0, none⟩ = some (.slice A0_0 l0_0.length c0_0) := (blk_cell BK227.out 0).trans rfl; have hfz15_0 := blk_frozen BK227.out 0) | ((with_reducible refine gate_callee (f := 15) rfl ?_); refine goesL_ (some 19) rfl rfl Try.func15 (by kernel_rfl) rfl #[.agg #[.slice A0_0 l0_0.length c0_0], .int .i64 1048576] rfl (by (try simp only [List.map_toArray, List.map_cons, List.map_nil]); first | done | rfl | (simp only [List.length_drop, List.length_take]; rfl)) ?_; (with_reducible refine (laws_szBig.calls _ _ l0_0 1048576 t229 _ ?side1 ?side2 A3.out).mono ?_); (case side1 => repeat (first | exact (Kd.C_below HR0_0.out HB.out) | (with_reducible refine Kd.C_alloc ?_ _) | (with_reducible refine Kd.C_drewN ?_ _) | (with_reducible refine Kd.C_drew ?_))); (case side2 => exact HC0_0.out); rintro e w16 ⟨rfl, hb⟩; refine ⟨_, rfl, ?_⟩; have n0_ := Aside0.mk (bB BK227 hb); have n1_ := Aside0.mk (bB BK228 hb); have n2_ := Aside0.mk (below_step (hq2 HB GE227 GE228) hb); clear BK227; clear BK228; clear HB; have BK227 := n0_; have BK228 := n1_; have HB := n2_; clear n0_ n1_ n2_; (try clear hb); (try clear hb2); (try clear hk); (try clear hi); have hcz17_0 : w16.cell? ⟨gb228, 0, none⟩ = some (.slice A1_0 l1_0.length c1_0) := (blk_cell BK228.out 0).trans rfl; have hfz17_0 := blk_frozen BK228.out 0) | ((with_reducible refine gate_callee (f := 15) rfl ?_); refine goesL_ (some 24) rfl rfl Try.func15 (by kernel_rfl) rfl #[.agg #[.slice A1_0 l1_0.length c1_0], .int .i64 t229] rfl (by (try simp only [List.map_toArray, List.map_cons, List.map_nil]); first | done | rfl | (simp only [List.length_drop, List.length_take]; rfl)) ?_; (with_reducible refine (laws_szBig.calls _ _ l1_0 t229 t230 _ ?side1 ?side2 A10.out).mono ?_); (case side1 => repeat (first | exact (Kd.C_below HR1_0.out HB.out) | (with_reducible refine Kd.C_alloc ?_ _) | (with_reducible refine Kd.C_drewN ?_ _) | (with_reducible refine Kd.C_drew ?_))); (case side2 => exact HC1_0.out); rintro e w18 ⟨rfl, hb⟩; refine ⟨_, rfl, ?_⟩; have n0_ := Aside0.mk (bB BK227 hb); have n1_ := Aside0.mk (bB BK228 hb); have n2_ := Aside0.mk (below_step (hq2 HB GE227 GE228) hb); clear BK227; clear BK228; clear HB; have BK227 := n0_; have BK228 := n1_; have HB := n2_; clear n0_ n1_ n2_; (try clear hb); (try clear hb2); (try clear hk); (try clear hi)))
   go_ret
   exact ⟨by first | rfl | (simp [errW_none, errW_some] <;> rfl) | (simp [*, errW_none, errW_some] <;> rfl), hq2 HB GE227 GE228⟩
 rw [if_neg c11] at H
 have c11b0 : decide (t230 < 0) = false := decide_eq_false c11
 clear c11
 replace H := Option.bind_eq_some_iff.mp H
 obtain ⟨t231, A190, H⟩ := H
 replace H : ((laws_toBig.f k l1_0).bind fun t234 => ((spec_AddBig.f k t231 t234).bind fun bt237 => ((laws_toBig.f k l0_0).bind fun t242 => ((laws_toBig.f k l1_0).bind fun t246 => ((impl_AddBig.f k t242 t246).bind fun bt250 => ((laws_eqBig.f k bt250.1 bt237.1).bind fun t255 => (if t255 = true then (laws_FnExactAddBig.j0 k bt237.2 bt250.2 (bt250.2 != bt237.2) l0_0 l1_0 bt237.1 t242 t246 bt250.1) else (laws_FnExactAddBig.j0 k bt237.2 bt250.2 true l0_0 l1_0 bt237.1 t242 t246 bt250.1)))))))) = some true := H
 have A19 := Aside0.mk A190
 clear A190
 replace H := Option.bind_eq_some_iff.mp H
 obtain ⟨t234, A200, H⟩ := H
 replace H : ((spec_AddBig.f k t231 t234).bind fun bt237 => ((laws_toBig.f k l0_0).bind fun t242 => ((laws_toBig.f k l1_0).bind fun t246 => ((impl_AddBig.f k t242 t246).bind fun bt250 => ((laws_eqBig.f k bt250.1 bt237.1).bind fun t255 => (if t255 = true then (laws_FnExactAddBig.j0 k bt237.2 bt250.2 (bt250.2 != bt237.2) l0_0 l1_0 bt237.1 t242 t246 bt250.1) else (laws_FnExactAddBig.j0 k bt237.2 bt250.2 true l0_0 l1_0 bt237.1 t242 t246 bt250.1))))))) = some true := H
 have A20 := Aside0.mk A200
 clear A200
 replace H := Option.bind_eq_some_iff.mp H
 obtain ⟨⟨t237, t240⟩, A210, H⟩ := H
 replace H : ((laws_toBig.f k l0_0).bind fun t242 => ((laws_toBig.f k l1_0).bind fun t246 => ((impl_AddBig.f k t242 t246).bind fun bt250 => ((laws_eqBig.f k bt250.1 t237).bind fun t255 => (if t255 = true then (laws_FnExactAddBig.j0 k t240 bt250.2 (bt250.2 != t240) l0_0 l1_0 t237 t242 t246 bt250.1) else (laws_FnExactAddBig.j0 k t240 bt250.2 true l0_0 l1_0 t237 t242 t246 bt250.1)))))) = some true := H
 have A21 := Aside0.mk A210
 clear A210
 replace H := Option.bind_eq_some_iff.mp H
 obtain ⟨t242, A220, H⟩ := H
 replace H : ((laws_toBig.f k l1_0).bind fun t246 => ((impl_AddBig.f k t242 t246).bind fun bt250 => ((laws_eqBig.f k bt250.1 t237).bind fun t255 => (if t255 = true then (laws_FnExactAddBig.j0 k t240 bt250.2 (bt250.2 != t240) l0_0 l1_0 t237 t242 t246 bt250.1) else (laws_FnExactAddBig.j0 k t240 bt250.2 true l0_0 l1_0 t237 t242 t246 bt250.1))))) = some true := H
 have A22 := Aside0.mk A220
 clear A220
 replace H := Option.bind_eq_some_iff.mp H
 obtain ⟨t246, A230, H⟩ := H
 replace H : ((impl_AddBig.f k t242 t246).bind fun bt250 => ((laws_eqBig.f k bt250.1 t237).bind fun t255 => (if t255 = true then (laws_FnExactAddBig.j0 k t240 bt250.2 (bt250.2 != t240) l0_0 l1_0 t237 t242 t246 bt250.1) else (laws_FnExactAddBig.j0 k t240 bt250.2 true l0_0 l1_0 t237 t242 t246 bt250.1)))) = some true := H
 have A23 := Aside0.mk A230
 clear A230
 replace H := Option.bind_eq_some_iff.mp H
 obtain ⟨⟨t250, t253⟩, A240, H⟩ := H
 replace H : ((laws_eqBig.f k t250 t237).bind fun t255 => (if t255 = true then (laws_FnExactAddBig.j0 k t240 t253 (t253 != t240) l0_0 l1_0 t237 t242 t246 t250) else (laws_FnExactAddBig.j0 k t240 t253 true l0_0 l1_0 t237 t242 t246 t250))) = some true := H
 have A24 := Aside0.mk A240
 clear A240
 have HC25 := Aside0.mk H
 clear H
 go_enter Try.func5, Try.ntmps5
 try go_wp2_with (first | ((with_reducible refine gate_dst (N := 2) rfl ?_); refine box_event ?hg (N := 2) ?hd (cs := #[.slice A0_0 l0_0.length c0_0]) (t := 24) ?hr ?_; (case hd => rfl); (case hg => rfl); (case hr => first | (go_simp; done) | (go_simp; rfl)); intro gb227 hg w26 hbox hb; have n0_ := Aside0.mk (below_step (hq HB) hb); have n1_ := Aside0.mk (hbox); have n2_ := Aside0.mk (ng hg (hq HB)); have n3_ := Aside0.mk (ng hg (hq HB)); clear HB; have HB := n0_; have BK227 := n1_; have GW227 := n2_; have GE227 := n3_; clear n0_ n1_ n2_ n3_; clear hb hbox hg) | ((with_reducible refine gate_dst (N := 3) rfl ?_); refine box_event ?hg (N := 3) ?hd (cs := #[.slice A1_0 l1_0.length c1_0]) (t := 24) ?hr ?_; (case hd => rfl); (case hg => rfl); (case hr => first | (go_simp; done) | (go_simp; rfl)); intro gb228 hg w27 hbox hb; have n0_ := Aside0.mk (bB BK227 hb); have n1_ := Aside0.mk (below_step (hq1 HB GE227) hb); have n2_ := Aside0.mk (hbox); have n3_ := Aside0.mk (ng hg (hq1 HB GE227)); have n4_ := Aside0.mk (ng hg (hq1 HB GE227)); have n5_ := Aside0.mk (nl hg BK227); have n6_ := Aside0.mk (nr hg BK227); clear BK227; clear HB; have BK227 := n0_; have HB := n1_; have BK228 := n2_; have GW228 := n3_; have GE228 := n4_; have NB227_228 := n5_; have NB228_227 := n6_; clear n0_ n1_ n2_ n3_ n4_ n5_ n6_; clear hb hbox hg; have hnb28 := NB227_228.out; have hnc28 := NB228_227.out; have hcz29_0 : w27.cell? ⟨gb227, 0, none⟩ = some (.slice A0_0 l0_0.length c0_0) := (blk_cell BK227.out 0).trans rfl; have hfz29_0 := blk_frozen BK227.out 0) | ((with_reducible refine gate_callee (f := 15) rfl ?_); refine goesL_ (some 19) rfl rfl Try.func15 (by kernel_rfl) rfl #[.agg #[.slice A0_0 l0_0.length c0_0], .int .i64 1048576] rfl (by (try simp only [List.map_toArray, List.map_cons, List.map_nil]); first | done | rfl | (simp only [List.length_drop, List.length_take]; rfl)) ?_; (with_reducible refine (laws_szBig.calls _ _ l0_0 1048576 t229 _ ?side1 ?side2 A3.out).mono ?_); (case side1 => repeat (first | exact (Kd.C_below HR0_0.out HB.out) | (with_reducible refine Kd.C_alloc ?_ _) | (with_reducible refine Kd.C_drewN ?_ _) | (with_reducible refine Kd.C_drew ?_))); (case side2 => exact HC0_0.out); rintro e w30 ⟨rfl, hb⟩; refine ⟨_, rfl, ?_⟩; have n0_ := Aside0.mk (bB BK227 hb); have n1_ := Aside0.mk (bB BK228 hb); have n2_ := Aside0.mk (below_step (hq2 HB GE227 GE228) hb); clear BK227; clear BK228; clear HB; have BK227 := n0_; have BK228 := n1_; have HB := n2_; clear n0_ n1_ n2_; (try clear hb); (try clear hb2); (try clear hk); (try clear hi); have hcz31_0 : w30.cell? ⟨gb228, 0, none⟩ = some (.slice A1_0 l1_0.length c1_0) := (blk_cell BK228.out 0).trans rfl; have hfz31_0 := blk_frozen BK228.out 0) | ((with_reducible refine gate_callee (f := 15) rfl ?_); refine goesL_ (some 24) rfl rfl Try.func15 (by kernel_rfl) rfl #[.agg #[.slice A1_0 l1_0.length c1_0], .int .i64 t229] rfl (by (try simp only [List.map_toArray, List.map_cons, List.map_nil]); first | done | rfl | (simp only [List.length_drop, List.length_take]; rfl)) ?_; (with_reducible refine (laws_szBig.calls _ _ l1_0 t229 t230 _ ?side1 ?side2 A10.out).mono ?_); (case side1 => repeat (first | exact (Kd.C_below HR1_0.out HB.out) | (with_reducible refine Kd.C_alloc ?_ _) | (with_reducible refine Kd.C_drewN ?_ _) | (with_reducible refine Kd.C_drew ?_))); (case side2 => exact HC1_0.out); rintro e w32 ⟨rfl, hb⟩; refine ⟨_, rfl, ?_⟩; have n0_ := Aside0.mk (bB BK227 hb); have n1_ := Aside0.mk (bB BK228 hb); have n2_ := Aside0.mk (below_step (hq2 HB GE227 GE228) hb); clear BK227; clear BK228; clear HB; have BK227 := n0_; have BK228 := n1_; have HB := n2_; clear n0_ n1_ n2_; (try clear hb); (try clear hb2); (try clear hk); (try clear hi)))
 have n0_ := Aside0.mk (blk_drew BK227.out)
 have n1_ := Aside0.mk (blk_drew BK228.out)
 have n2_ := Aside0.mk (below_drew1 HB.out)
 clear BK227
 clear BK228
 clear HB
 have BK227 := n0_
 have BK228 := n1_
 have HB := n2_
 clear n0_ n1_ n2_
 refine start_ (n := 11) (S := fun w' => w'.cell? ⟨gb227, 0, none⟩ = some (.slice A0_0 l0_0.length c0_0) ∧ w'.cell? ⟨gb228, 0, none⟩ = some (.slice A1_0 l1_0.length c1_0)) (ds := []) #[false, false, false, false, false, false, false, false, false, false, false] (by kernel_rfl) rfl rfl ⟨(blk_cell BK227.out 0).trans rfl, (blk_cell BK228.out 0).trans rfl⟩ (fun hHeld => ?_); refine with_tabW laws_FnExactAddBig.tab8 laws_FnExactAddBig.bits8 (fun HT_ HW_ => ?_)
 generalize w32.drew = w33 at BK227 BK228 HB hHeld ⊢
 refine take_ (i := 0) (N := some 28) (v := ?_) (a' := ?_) #[true, false, false, false, false, false, false, false, false, false, false] rfl rfl (take_ofW HT_.out HW_.out (by kernel_rfl)) (fun _ _ _ h => h) (Or.inl ⟨by rfl, ?_⟩) hHeld ?_ ?_
 rotate_left
 · rintro w' ⟨s0, s1⟩
   go_simp
   with_reducible rfl
 rotate_left
 · simp only [Act.put, List.setIfInBounds_toArray, List.set_cons_zero, List.set_cons_succ, i64_w, i32_w]
   rfl
 refine take_ (i := 2) (N := some 30) (v := ?_) (a' := ?_) #[true, false, true, false, false, false, false, false, false, false, false] rfl rfl (take_ofW HT_.out HW_.out (by kernel_rfl)) (fun _ _ _ h => h) (Or.inl ⟨by rfl, ?_⟩) hHeld ?_ ?_
 rotate_left
 · rintro w' ⟨s0, s1⟩
   go_simp
   with_reducible rfl
 rotate_left
 · simp only [Act.put, List.setIfInBounds_toArray, List.set_cons_zero, List.set_cons_succ, i64_w, i32_w]
   rfl
 refine join_ (σ := Value × Value × Value × Nat) 2 #[true, true, true, true, true, true, true, true, true, false, false] (fun s_ => [(29, .agg #[s_.1]), (31, .agg #[s_.2.1]), (32, .tuple #[.agg #[s_.2.2.1], .bool t240]), (6, .pointer (some ⟨s_.2.2.2, 0, none⟩)), (27, .tuple #[.agg #[s_.2.2.1], .bool t240]), (33, .agg #[s_.2.2.1]), (34, .bool t240)]) (fun s_ w' => (w'.cell? ⟨gb227, 0, none⟩ = some (.slice A0_0 l0_0.length c0_0) ∧ w'.cell? ⟨gb228, 0, none⟩ = some (.slice A1_0 l1_0.length c1_0)) ∧ (Kd.R (Kd.int .i64) 3 w' w.heap.size (fun k_ => some k_ ≠ (s_.2.1 : Value).ownBlock ∧ some k_ ≠ (s_.2.2.1 : Value).ownBlock) s_.1 t231) ∧ (Kd.R (Kd.int .i64) 3 w' w.heap.size (fun k_ => some k_ ≠ (s_.1 : Value).ownBlock ∧ some k_ ≠ (s_.2.2.1 : Value).ownBlock) s_.2.1 t234) ∧ (Kd.R (Kd.int .i64) 3 w' w.heap.size (fun k_ => some k_ ≠ (s_.1 : Value).ownBlock ∧ some k_ ≠ (s_.2.1 : Value).ownBlock) s_.2.2.1 t237) ∧ (w'.heap[gb227]? = some (.cells #[.slice A0_0 l0_0.length c0_0] 24 (0, 0))) ∧ (w'.heap[gb228]? = some (.cells #[.slice A1_0 l1_0.length c1_0] 24 (0, 0))) ∧ (w'.heap[s_.2.2.2]? = some (.cells #[.slice none 0 0] 27 (0, 0))) ∧ (w.heap.size ≤ s_.2.2.2) ∧ (w.heap.size ≤ s_.2.2.2) ∧ (gb227 ≠ s_.2.2.2) ∧ (s_.2.2.2 ≠ gb227) ∧ (gb228 ≠ s_.2.2.2) ∧ (s_.2.2.2 ≠ gb228) ∧ (Below w.heap.size w w')) ?_ ?_
 rotate_left
 · intro hCont
   refine two_ (i := 1) (j := 8) (Ni := some 29) (Nj := some 6) #[true, true, true, false, false, false, false, false, false, false, false] #[true, false, true, false, false, false, false, false, true, false, false] rfl rfl rfl rfl (two_of HT_.out (by kernel_rfl)) (by decide) (by decide) (fun K hK => ?_) (fun K hK => ?_)
   · skip
     refine goes_ Try.func17 (by kernel_rfl) rfl #[.agg #[.slice A0_0 l0_0.length c0_0]] (by rfl) rfl rfl (by (try simp only [List.map_toArray, List.map_cons, List.map_nil]); first | done | rfl | (simp only [List.length_drop, List.length_take]; rfl)) ?_
     with_reducible refine (laws_toBig.calls k _ _ l0_0 t231 _ ?side1 ?side2 A19.out).mono ?_
     (case side1 => repeat (first | exact (Kd.C_below HR0_0.out HB.out) | (with_reducible refine Kd.C_alloc ?_ _) | (with_reducible refine Kd.C_drewN ?_ _) | (with_reducible refine Kd.C_drew ?_)))
     (case side2 => exact HC0_0.out)
     rintro e w34 ⟨v232, rfl, ho0, hb⟩
     refine ⟨_, rfl, ?_⟩
     have n0_ := Aside0.mk (Kd.R_lower ho0 (below_size (hq2 HB GE227 GE228)))
     have n1_ := Aside0.mk (bB BK227 hb)
     have n2_ := Aside0.mk (bB BK228 hb)
     have n3_ := Aside0.mk (below_step (hq2 HB GE227 GE228) hb)
     clear BK227
     clear BK228
     clear HB
     have HO233 := n0_
     have BK227 := n1_
     have BK228 := n2_
     have HB := n3_
     clear n0_ n1_ n2_ n3_
     (try clear hb)
     (try clear hb2)
     (try clear hk)
     (try clear hi)
     (try clear ho0)
     refine hK.out _ _ ⟨(blk_cell BK227.out 0).trans rfl, (blk_cell BK228.out 0).trans rfl⟩ (fun hHeld => ?_)
     clear hK K
     refine norm_ (a' := ?_) ?_ ?_
     rotate_left
     · show Act.put _ (some 29) _ = _
       simp only [Act.put, List.setIfInBounds_toArray, List.set_cons_zero, List.set_cons_succ, i64_w, i32_w]
       rfl
     refine two_ (i := 3) (j := 8) (Ni := some 31) (Nj := some 6) #[true, true, true, true, false, false, false, false, false, false, false] #[true, true, true, false, false, false, false, false, true, false, false] rfl rfl rfl rfl (two_of HT_.out (by kernel_rfl)) (by decide) (by decide) (fun K hK => ?_) (fun K hK => ?_)
     · skip
       refine goes_ Try.func17 (by kernel_rfl) rfl #[.agg #[.slice A1_0 l1_0.length c1_0]] (by rfl) rfl rfl (by (try simp only [List.map_toArray, List.map_cons, List.map_nil]); first | done | rfl | (simp only [List.length_drop, List.length_take]; rfl)) ?_
       with_reducible refine (laws_toBig.calls k _ _ l1_0 t234 _ ?side1 ?side2 A20.out).mono ?_
       (case side1 => repeat (first | exact (Kd.C_below HR1_0.out HB.out) | (with_reducible refine Kd.C_alloc ?_ _) | (with_reducible refine Kd.C_drewN ?_ _) | (with_reducible refine Kd.C_drew ?_)))
       (case side2 => exact HC1_0.out)
       rintro e w35 ⟨v235, rfl, ho0, hb⟩
       refine ⟨_, rfl, ?_⟩
       have n0_ := Aside0.mk (qe HO233 ho0 hb)
       have n1_ := Aside0.mk (Kd.R_lower (Kd.R_new' ho0 (ql HO233)) (below_size (hq2 HB GE227 GE228)))
       have n2_ := Aside0.mk (bB BK227 hb)
       have n3_ := Aside0.mk (bB BK228 hb)
       have n4_ := Aside0.mk (below_step (hq2 HB GE227 GE228) hb)
       clear HO233
       clear BK227
       clear BK228
       clear HB
       have HO233 := n0_
       have HO236 := n1_
       have BK227 := n2_
       have BK228 := n3_
       have HB := n4_
       clear n0_ n1_ n2_ n3_ n4_
       (try clear hb)
       (try clear hb2)
       (try clear hk)
       (try clear hi)
       (try clear ho0)
       obtain ⟨Ao36, co36, eo36⟩ := Kd.R_slice HO233.out
       (first | subst eo36 | (injection eo36 with f1_ f2_ f3_; have f4_ := f1_.symm; have f5_ := f3_.symm; clear f1_ f2_ f3_; subst f4_; subst f5_))
       obtain ⟨Ao37, co37, eo37⟩ := Kd.R_slice HO236.out
       (first | subst eo37 | (injection eo37 with f1_ f2_ f3_; have f4_ := f1_.symm; have f5_ := f3_.symm; clear f1_ f2_ f3_; subst f4_; subst f5_))
       refine hK.out _ _ ⟨(blk_cell BK227.out 0).trans rfl, (blk_cell BK228.out 0).trans rfl⟩ (fun hHeld => ?_)
       clear hK K
       refine norm_ (a' := ?_) ?_ ?_
       rotate_left
       · show Act.put _ (some 31) _ = _
         simp only [Act.put, List.setIfInBounds_toArray, List.set_cons_zero, List.set_cons_succ, i64_w, i32_w]
         rfl
       refine two_ (i := 4) (j := 8) (Ni := some 32) (Nj := some 6) #[true, true, true, true, true, false, false, false, false, false, false] #[true, true, true, true, false, false, false, false, true, false, false] rfl rfl rfl rfl (two_of HT_.out (by kernel_rfl)) (by decide) (by decide) (fun K hK => ?_) (fun K hK => ?_)
       · skip
         refine goes_ Try.func24 (by kernel_rfl) rfl #[.agg #[.slice Ao36 t231.length co36], .agg #[.slice Ao37 t234.length co37]] (by rfl) rfl rfl (by (try simp only [List.map_toArray, List.map_cons, List.map_nil]); first | done | rfl | (simp only [List.length_drop, List.length_take]; rfl)) ?_
         with_reducible refine (spec_AddBig.calls k _ _ t231 _ _ t234 t237 t240 _ ?side1 ?side2 ?side3 ?side4 A21.out).mono ?_
         (case side1 => repeat (first | exact (Kd.R_reads' HO233.out).2.2 | (with_reducible refine Kd.C_alloc ?_ _) | (with_reducible refine Kd.C_drewN ?_ _) | (with_reducible refine Kd.C_drew ?_)))
         (case side2 => exact (Kd.R_reads' HO233.out).2.1)
         (case side3 => repeat (first | exact (Kd.R_reads' HO236.out).2.2 | (with_reducible refine Kd.C_alloc ?_ _) | (with_reducible refine Kd.C_drewN ?_ _) | (with_reducible refine Kd.C_drew ?_)))
         (case side4 => exact (Kd.R_reads' HO236.out).2.1)
         rintro e w38 ⟨v238, rfl, ho0, hb⟩
         refine ⟨_, rfl, ?_⟩
         have n0_ := Aside0.mk (qe HO233 ho0 hb)
         have n1_ := Aside0.mk (qe HO236 ho0 hb)
         have n2_ := Aside0.mk (Kd.R_lower (Kd.R_new' (Kd.R_new' ho0 (ql HO233)) (ql HO236)) (below_size (hq2 HB GE227 GE228)))
         have n3_ := Aside0.mk (bB BK227 hb)
         have n4_ := Aside0.mk (bB BK228 hb)
         have n5_ := Aside0.mk (below_step (hq2 HB GE227 GE228) hb)
         clear HO233
         clear HO236
         clear BK227
         clear BK228
         clear HB
         have HO233 := n0_
         have HO236 := n1_
         have HO239 := n2_
         have BK227 := n3_
         have BK228 := n4_
         have HB := n5_
         clear n0_ n1_ n2_ n3_ n4_ n5_
         (try clear hb)
         (try clear hb2)
         (try clear hk)
         (try clear hi)
         (try clear ho0)
         refine hK.out _ _ ⟨(blk_cell BK227.out 0).trans rfl, (blk_cell BK228.out 0).trans rfl⟩ (fun hHeld => ?_)
         clear hK K
         refine norm_ (a' := ?_) ?_ ?_
         rotate_left
         · show Act.put _ (some 32) _ = _
           simp only [Act.put, List.setIfInBounds_toArray, List.set_cons_zero, List.set_cons_succ, i64_w, i32_w]
           rfl
         refine pure_ (i := 5) (N := some 27) (v := ?_) (a' := ?_) #[true, true, true, true, true, true, false, false, false, false, false] rfl rfl (any_of HT_.out (by kernel_rfl)) (fun _ _ _ h => h) (Or.inl ⟨by rfl, ?_⟩) ?_ ?_
         rotate_left
         · intro w'
           first | (go_simp; with_reducible rfl) | (go_simp; unfold Instr.field; go_simp; rfl)
         rotate_left
         · simp only [Act.put, List.setIfInBounds_toArray, List.set_cons_zero, List.set_cons_succ, i64_w, i32_w]
           rfl
         refine pure_ (i := 6) (N := some 33) (v := ?_) (a' := ?_) #[true, true, true, true, true, true, true, false, false, false, false] rfl rfl (any_of HT_.out (by kernel_rfl)) (fun _ _ _ h => h) (Or.inl ⟨by rfl, ?_⟩) ?_ ?_
         rotate_left
         · intro w'
           first | (go_simp; with_reducible rfl) | (go_simp; unfold Instr.field; go_simp; rfl)
         rotate_left
         · simp only [Act.put, List.setIfInBounds_toArray, List.set_cons_zero, List.set_cons_succ, i64_w, i32_w]
           rfl
         refine pure_ (i := 7) (N := some 34) (v := ?_) (a' := ?_) #[true, true, true, true, true, true, true, true, false, false, false] rfl rfl (any_of HT_.out (by kernel_rfl)) (fun _ _ _ h => h) (Or.inl ⟨by rfl, ?_⟩) ?_ ?_
         rotate_left
         · intro w'
           first | (go_simp; with_reducible rfl) | (go_simp; unfold Instr.field; go_simp; rfl)
         rotate_left
         · simp only [Act.put, List.setIfInBounds_toArray, List.set_cons_zero, List.set_cons_succ, i64_w, i32_w]
           rfl
         refine one_ (i := 8) (N := some 6) #[true, true, true, true, true, true, true, true, true, false, false] rfl rfl (one_of HT_.out (by kernel_rfl)) (by decide) (fun K hK => ?_)
         refine box_step ?hg (N := 6) ?hd (cs := #[.slice none 0 0]) (t := 27) ?hr ?_; (case hd => rfl); (case hg => rfl); (case hr => first | (go_simp; done) | (go_simp; rfl))
         intro gb241 hg w39 hbox hb
         have n0_ := Aside0.mk (qb HO233 hb)
         have n1_ := Aside0.mk (qb HO236 hb)
         have n2_ := Aside0.mk (qb HO239 hb)
         have n3_ := Aside0.mk (bB BK227 hb)
         have n4_ := Aside0.mk (bB BK228 hb)
         have n5_ := Aside0.mk (below_step (hq2 HB GE227 GE228) hb)
         have n6_ := Aside0.mk (hbox)
         have n7_ := Aside0.mk (ng hg (hq2 HB GE227 GE228))
         have n8_ := Aside0.mk (ng hg (hq2 HB GE227 GE228))
         have n9_ := Aside0.mk (nl hg BK227)
         have n10_ := Aside0.mk (nr hg BK227)
         have n11_ := Aside0.mk (nl hg BK228)
         have n12_ := Aside0.mk (nr hg BK228)
         clear HO233
         clear HO236
         clear HO239
         clear BK227
         clear BK228
         clear HB
         have HO233 := n0_
         have HO236 := n1_
         have HO239 := n2_
         have BK227 := n3_
         have BK228 := n4_
         have HB := n5_
         have BK241 := n6_
         have GW241 := n7_
         have GE241 := n8_
         have NB227_241 := n9_
         have NB241_227 := n10_
         have NB228_241 := n11_
         have NB241_228 := n12_
         clear n0_ n1_ n2_ n3_ n4_ n5_ n6_ n7_ n8_ n9_ n10_ n11_ n12_
         clear hb hbox hg
         refine hK.out _ _ ⟨(blk_cell BK227.out 0).trans rfl, (blk_cell BK228.out 0).trans rfl⟩ (fun hHeld => ?_)
         clear hK K
         refine norm_ (a' := ?_) ?_ ?_
         rotate_left
         · show Act.put _ (some 6) _ = _
           simp only [Act.put, List.setIfInBounds_toArray, List.set_cons_zero, List.set_cons_succ, i64_w, i32_w]
           rfl
         exact norm_ (by simp only [putAll, Act.put, List.setIfInBounds_toArray, List.set_cons_zero, List.set_cons_succ]) (hCont (.slice Ao36 t231.length co36, .slice Ao37 t234.length co37, v238, gb241) _ ⟨hHeld, (by (with_reducible repeat (first | apply Kd.R_alloc | apply Kd.R_drewN | apply Kd.R_drew)); exact Kd.R_mono HO233.out (fun _ hk => ⟨hk.1.2, hk.2⟩)), (by (with_reducible repeat (first | apply Kd.R_alloc | apply Kd.R_drewN | apply Kd.R_drew)); exact Kd.R_mono HO236.out (fun _ hk => ⟨hk.1.2, hk.2⟩)), (by (with_reducible repeat (first | apply Kd.R_alloc | apply Kd.R_drewN | apply Kd.R_drew)); exact Kd.R_mono HO239.out (fun _ hk => ⟨hk.1.2, hk.2⟩)), (bq BK227), (bq BK228), (bq BK241), GW241.out, GE241.out, NB227_241.out, NB241_227.out, NB228_241.out, NB241_228.out, (hq3 HB GE227 GE228 GE241)⟩)
       skip
       refine box_step ?hg (N := 6) ?hd (cs := #[.slice none 0 0]) (t := 27) ?hr ?_; (case hd => rfl); (case hg => rfl); (case hr => first | (go_simp; done) | (go_simp; rfl))
       intro gb241 hg w36 hbox hb
       have n0_ := Aside0.mk (qb HO233 hb)
       have n1_ := Aside0.mk (qb HO236 hb)
       have n2_ := Aside0.mk (bB BK227 hb)
       have n3_ := Aside0.mk (bB BK228 hb)
       have n4_ := Aside0.mk (below_step (hq2 HB GE227 GE228) hb)
       have n5_ := Aside0.mk (hbox)
       have n6_ := Aside0.mk (ng hg (hq2 HB GE227 GE228))
       have n7_ := Aside0.mk (ng hg (hq2 HB GE227 GE228))
       have n8_ := Aside0.mk (nl hg BK227)
       have n9_ := Aside0.mk (nr hg BK227)
       have n10_ := Aside0.mk (nl hg BK228)
       have n11_ := Aside0.mk (nr hg BK228)
       clear HO233
       clear HO236
       clear BK227
       clear BK228
       clear HB
       have HO233 := n0_
       have HO236 := n1_
       have BK227 := n2_
       have BK228 := n3_
       have HB := n4_
       have BK241 := n5_
       have GW241 := n6_
       have GE241 := n7_
       have NB227_241 := n8_
       have NB241_227 := n9_
       have NB228_241 := n10_
       have NB241_228 := n11_
       clear n0_ n1_ n2_ n3_ n4_ n5_ n6_ n7_ n8_ n9_ n10_ n11_
       clear hb hbox hg
       obtain ⟨Ao37, co37, eo37⟩ := Kd.R_slice HO233.out
       (first | subst eo37 | (injection eo37 with f1_ f2_ f3_; have f4_ := f1_.symm; have f5_ := f3_.symm; clear f1_ f2_ f3_; subst f4_; subst f5_))
       obtain ⟨Ao38, co38, eo38⟩ := Kd.R_slice HO236.out
       (first | subst eo38 | (injection eo38 with f1_ f2_ f3_; have f4_ := f1_.symm; have f5_ := f3_.symm; clear f1_ f2_ f3_; subst f4_; subst f5_))
       refine hK.out _ _ ⟨(blk_cell BK227.out 0).trans rfl, (blk_cell BK228.out 0).trans rfl⟩ (fun hHeld => ?_)
       clear hK K
       refine norm_ (a' := ?_) ?_ ?_
       rotate_left
       · show Act.put _ (some 6) _ = _
         simp only [Act.put, List.setIfInBounds_toArray, List.set_cons_zero, List.set_cons_succ, i64_w, i32_w]
         rfl
       refine one_ (i := 4) (N := some 32) #[true, true, true, true, true, false, false, false, true, false, false] rfl rfl (one_of HT_.out (by kernel_rfl)) (by decide) (fun K hK => ?_)
       refine goes_ Try.func24 (by kernel_rfl) rfl #[.agg #[.slice Ao37 t231.length co37], .agg #[.slice Ao38 t234.length co38]] (by rfl) rfl rfl (by (try simp only [List.map_toArray, List.map_cons, List.map_nil]); first | done | rfl | (simp only [List.length_drop, List.length_take]; rfl)) ?_
       with_reducible refine (spec_AddBig.calls k _ _ t231 _ _ t234 t237 t240 _ ?side1 ?side2 ?side3 ?side4 A21.out).mono ?_
       (case side1 => repeat (first | exact (Kd.R_reads' HO233.out).2.2 | (with_reducible refine Kd.C_alloc ?_ _) | (with_reducible refine Kd.C_drewN ?_ _) | (with_reducible refine Kd.C_drew ?_)))
       (case side2 => exact (Kd.R_reads' HO233.out).2.1)
       (case side3 => repeat (first | exact (Kd.R_reads' HO236.out).2.2 | (with_reducible refine Kd.C_alloc ?_ _) | (with_reducible refine Kd.C_drewN ?_ _) | (with_reducible refine Kd.C_drew ?_)))
       (case side4 => exact (Kd.R_reads' HO236.out).2.1)
       rintro e w39 ⟨v238, rfl, ho0, hb⟩
       refine ⟨_, rfl, ?_⟩
       have n0_ := Aside0.mk (qe HO233 ho0 hb)
       have n1_ := Aside0.mk (qe HO236 ho0 hb)
       have n2_ := Aside0.mk (Kd.R_lower (Kd.R_new' (Kd.R_new' ho0 (ql HO233)) (ql HO236)) (below_size (hq3 HB GE227 GE228 GE241)))
       have n3_ := Aside0.mk (bB BK227 hb)
       have n4_ := Aside0.mk (bB BK228 hb)
       have n5_ := Aside0.mk (bB BK241 hb)
       have n6_ := Aside0.mk (below_step (hq3 HB GE227 GE228 GE241) hb)
       clear HO233
       clear HO236
       clear BK227
       clear BK228
       clear BK241
       clear HB
       have HO233 := n0_
       have HO236 := n1_
       have HO239 := n2_
       have BK227 := n3_
       have BK228 := n4_
       have BK241 := n5_
       have HB := n6_
       clear n0_ n1_ n2_ n3_ n4_ n5_ n6_
       (try clear hb)
       (try clear hb2)
       (try clear hk)
       (try clear hi)
       (try clear ho0)
       refine hK.out _ _ ⟨(blk_cell BK227.out 0).trans rfl, (blk_cell BK228.out 0).trans rfl⟩ (fun hHeld => ?_)
       clear hK K
       refine norm_ (a' := ?_) ?_ ?_
       rotate_left
       · show Act.put _ (some 32) _ = _
         simp only [Act.put, List.setIfInBounds_toArray, List.set_cons_zero, List.set_cons_succ, i64_w, i32_w]
         rfl
       refine pure_ (i := 5) (N := some 27) (v := ?_) (a' := ?_) #[true, true, true, true, true, true, false, false, true, false, false] rfl rfl (any_of HT_.out (by kernel_rfl)) (fun _ _ _ h => h) (Or.inl ⟨by rfl, ?_⟩) ?_ ?_
       rotate_left
       · intro w'
         first | (go_simp; with_reducible rfl) | (go_simp; unfold Instr.field; go_simp; rfl)
       rotate_left
       · simp only [Act.put, List.setIfInBounds_toArray, List.set_cons_zero, List.set_cons_succ, i64_w, i32_w]
         rfl
       refine pure_ (i := 6) (N := some 33) (v := ?_) (a' := ?_) #[true, true, true, true, true, true, true, false, true, false, false] rfl rfl (any_of HT_.out (by kernel_rfl)) (fun _ _ _ h => h) (Or.inl ⟨by rfl, ?_⟩) ?_ ?_
       rotate_left
       · intro w'
         first | (go_simp; with_reducible rfl) | (go_simp; unfold Instr.field; go_simp; rfl)
       rotate_left
       · simp only [Act.put, List.setIfInBounds_toArray, List.set_cons_zero, List.set_cons_succ, i64_w, i32_w]
         rfl
       refine pure_ (i := 7) (N := some 34) (v := ?_) (a' := ?_) #[true, true, true, true, true, true, true, true, true, false, false] rfl rfl (any_of HT_.out (by kernel_rfl)) (fun _ _ _ h => h) (Or.inl ⟨by rfl, ?_⟩) ?_ ?_
       rotate_left
       · intro w'
         first | (go_simp; with_reducible rfl) | (go_simp; unfold Instr.field; go_simp; rfl)
       rotate_left
       · simp only [Act.put, List.setIfInBounds_toArray, List.set_cons_zero, List.set_cons_succ, i64_w, i32_w]
         rfl
       exact norm_ (by simp only [putAll, Act.put, List.setIfInBounds_toArray, List.set_cons_zero, List.set_cons_succ]) (hCont (.slice Ao37 t231.length co37, .slice Ao38 t234.length co38, v238, gb241) _ ⟨hHeld, (by (with_reducible repeat (first | apply Kd.R_alloc | apply Kd.R_drewN | apply Kd.R_drew)); exact Kd.R_mono HO233.out (fun _ hk => ⟨hk.1.2, hk.2⟩)), (by (with_reducible repeat (first | apply Kd.R_alloc | apply Kd.R_drewN | apply Kd.R_drew)); exact Kd.R_mono HO236.out (fun _ hk => ⟨hk.1.2, hk.2⟩)), (by (with_reducible repeat (first | apply Kd.R_alloc | apply Kd.R_drewN | apply Kd.R_drew)); exact Kd.R_mono HO239.out (fun _ hk => ⟨hk.1.2, hk.2⟩)), (bq BK227), (bq BK228), (bq BK241), GW241.out, GE241.out, NB227_241.out, NB241_227.out, NB228_241.out, NB241_228.out, (hq3 HB GE227 GE228 GE241)⟩)
     skip
     refine box_step ?hg (N := 6) ?hd (cs := #[.slice none 0 0]) (t := 27) ?hr ?_; (case hd => rfl); (case hg => rfl); (case hr => first | (go_simp; done) | (go_simp; rfl))
     intro gb241 hg w35 hbox hb
     have n0_ := Aside0.mk (qb HO233 hb)
     have n1_ := Aside0.mk (bB BK227 hb)
     have n2_ := Aside0.mk (bB BK228 hb)
     have n3_ := Aside0.mk (below_step (hq2 HB GE227 GE228) hb)
     have n4_ := Aside0.mk (hbox)
     have n5_ := Aside0.mk (ng hg (hq2 HB GE227 GE228))
     have n6_ := Aside0.mk (ng hg (hq2 HB GE227 GE228))
     have n7_ := Aside0.mk (nl hg BK227)
     have n8_ := Aside0.mk (nr hg BK227)
     have n9_ := Aside0.mk (nl hg BK228)
     have n10_ := Aside0.mk (nr hg BK228)
     clear HO233
     clear BK227
     clear BK228
     clear HB
     have HO233 := n0_
     have BK227 := n1_
     have BK228 := n2_
     have HB := n3_
     have BK241 := n4_
     have GW241 := n5_
     have GE241 := n6_
     have NB227_241 := n7_
     have NB241_227 := n8_
     have NB228_241 := n9_
     have NB241_228 := n10_
     clear n0_ n1_ n2_ n3_ n4_ n5_ n6_ n7_ n8_ n9_ n10_
     clear hb hbox hg
     refine hK.out _ _ ⟨(blk_cell BK227.out 0).trans rfl, (blk_cell BK228.out 0).trans rfl⟩ (fun hHeld => ?_)
     clear hK K
     refine norm_ (a' := ?_) ?_ ?_
     rotate_left
     · show Act.put _ (some 6) _ = _
       simp only [Act.put, List.setIfInBounds_toArray, List.set_cons_zero, List.set_cons_succ, i64_w, i32_w]
       rfl
     refine one_ (i := 3) (N := some 31) #[true, true, true, true, false, false, false, false, true, false, false] rfl rfl (one_of HT_.out (by kernel_rfl)) (by decide) (fun K hK => ?_)
     refine goes_ Try.func17 (by kernel_rfl) rfl #[.agg #[.slice A1_0 l1_0.length c1_0]] (by rfl) rfl rfl (by (try simp only [List.map_toArray, List.map_cons, List.map_nil]); first | done | rfl | (simp only [List.length_drop, List.length_take]; rfl)) ?_
     with_reducible refine (laws_toBig.calls k _ _ l1_0 t234 _ ?side1 ?side2 A20.out).mono ?_
     (case side1 => repeat (first | exact (Kd.C_below HR1_0.out HB.out) | (with_reducible refine Kd.C_alloc ?_ _) | (with_reducible refine Kd.C_drewN ?_ _) | (with_reducible refine Kd.C_drew ?_)))
     (case side2 => exact HC1_0.out)
     rintro e w36 ⟨v235, rfl, ho0, hb⟩
     refine ⟨_, rfl, ?_⟩
     have n0_ := Aside0.mk (qe HO233 ho0 hb)
     have n1_ := Aside0.mk (Kd.R_lower (Kd.R_new' ho0 (ql HO233)) (below_size (hq3 HB GE227 GE228 GE241)))
     have n2_ := Aside0.mk (bB BK227 hb)
     have n3_ := Aside0.mk (bB BK228 hb)
     have n4_ := Aside0.mk (bB BK241 hb)
     have n5_ := Aside0.mk (below_step (hq3 HB GE227 GE228 GE241) hb)
     clear HO233
     clear BK227
     clear BK228
     clear BK241
     clear HB
     have HO233 := n0_
     have HO236 := n1_
     have BK227 := n2_
     have BK228 := n3_
     have BK241 := n4_
     have HB := n5_
     clear n0_ n1_ n2_ n3_ n4_ n5_
     (try clear hb)
     (try clear hb2)
     (try clear hk)
     (try clear hi)
     (try clear ho0)
     obtain ⟨Ao37, co37, eo37⟩ := Kd.R_slice HO233.out
     (first | subst eo37 | (injection eo37 with f1_ f2_ f3_; have f4_ := f1_.symm; have f5_ := f3_.symm; clear f1_ f2_ f3_; subst f4_; subst f5_))
     obtain ⟨Ao38, co38, eo38⟩ := Kd.R_slice HO236.out
     (first | subst eo38 | (injection eo38 with f1_ f2_ f3_; have f4_ := f1_.symm; have f5_ := f3_.symm; clear f1_ f2_ f3_; subst f4_; subst f5_))
     refine hK.out _ _ ⟨(blk_cell BK227.out 0).trans rfl, (blk_cell BK228.out 0).trans rfl⟩ (fun hHeld => ?_)
     clear hK K
     refine norm_ (a' := ?_) ?_ ?_
     rotate_left
     · show Act.put _ (some 31) _ = _
       simp only [Act.put, List.setIfInBounds_toArray, List.set_cons_zero, List.set_cons_succ, i64_w, i32_w]
       rfl
     refine one_ (i := 4) (N := some 32) #[true, true, true, true, true, false, false, false, true, false, false] rfl rfl (one_of HT_.out (by kernel_rfl)) (by decide) (fun K hK => ?_)
     refine goes_ Try.func24 (by kernel_rfl) rfl #[.agg #[.slice Ao37 t231.length co37], .agg #[.slice Ao38 t234.length co38]] (by rfl) rfl rfl (by (try simp only [List.map_toArray, List.map_cons, List.map_nil]); first | done | rfl | (simp only [List.length_drop, List.length_take]; rfl)) ?_
     with_reducible refine (spec_AddBig.calls k _ _ t231 _ _ t234 t237 t240 _ ?side1 ?side2 ?side3 ?side4 A21.out).mono ?_
     (case side1 => repeat (first | exact (Kd.R_reads' HO233.out).2.2 | (with_reducible refine Kd.C_alloc ?_ _) | (with_reducible refine Kd.C_drewN ?_ _) | (with_reducible refine Kd.C_drew ?_)))
     (case side2 => exact (Kd.R_reads' HO233.out).2.1)
     (case side3 => repeat (first | exact (Kd.R_reads' HO236.out).2.2 | (with_reducible refine Kd.C_alloc ?_ _) | (with_reducible refine Kd.C_drewN ?_ _) | (with_reducible refine Kd.C_drew ?_)))
     (case side4 => exact (Kd.R_reads' HO236.out).2.1)
     rintro e w39 ⟨v238, rfl, ho0, hb⟩
     refine ⟨_, rfl, ?_⟩
     have n0_ := Aside0.mk (qe HO233 ho0 hb)
     have n1_ := Aside0.mk (qe HO236 ho0 hb)
     have n2_ := Aside0.mk (Kd.R_lower (Kd.R_new' (Kd.R_new' ho0 (ql HO233)) (ql HO236)) (below_size (hq3 HB GE227 GE228 GE241)))
     have n3_ := Aside0.mk (bB BK227 hb)
     have n4_ := Aside0.mk (bB BK228 hb)
     have n5_ := Aside0.mk (bB BK241 hb)
     have n6_ := Aside0.mk (below_step (hq3 HB GE227 GE228 GE241) hb)
     clear HO233
     clear HO236
     clear BK227
     clear BK228
     clear BK241
     clear HB
     have HO233 := n0_
     have HO236 := n1_
     have HO239 := n2_
     have BK227 := n3_
     have BK228 := n4_
     have BK241 := n5_
     have HB := n6_
     clear n0_ n1_ n2_ n3_ n4_ n5_ n6_
     (try clear hb)
     (try clear hb2)
     (try clear hk)
     (try clear hi)
     (try clear ho0)
     refine hK.out _ _ ⟨(blk_cell BK227.out 0).trans rfl, (blk_cell BK228.out 0).trans rfl⟩ (fun hHeld => ?_)
     clear hK K
     refine norm_ (a' := ?_) ?_ ?_
     rotate_left
     · show Act.put _ (some 32) _ = _
       simp only [Act.put, List.setIfInBounds_toArray, List.set_cons_zero, List.set_cons_succ, i64_w, i32_w]
       rfl
     refine pure_ (i := 5) (N := some 27) (v := ?_) (a' := ?_) #[true, true, true, true, true, true, false, false, true, false, false] rfl rfl (any_of HT_.out (by kernel_rfl)) (fun _ _ _ h => h) (Or.inl ⟨by rfl, ?_⟩) ?_ ?_
     rotate_left
     · intro w'
       first | (go_simp; with_reducible rfl) | (go_simp; unfold Instr.field; go_simp; rfl)
     rotate_left
     · simp only [Act.put, List.setIfInBounds_toArray, List.set_cons_zero, List.set_cons_succ, i64_w, i32_w]
       rfl
     refine pure_ (i := 6) (N := some 33) (v := ?_) (a' := ?_) #[true, true, true, true, true, true, true, false, true, false, false] rfl rfl (any_of HT_.out (by kernel_rfl)) (fun _ _ _ h => h) (Or.inl ⟨by rfl, ?_⟩) ?_ ?_
     rotate_left
     · intro w'
       first | (go_simp; with_reducible rfl) | (go_simp; unfold Instr.field; go_simp; rfl)
     rotate_left
     · simp only [Act.put, List.setIfInBounds_toArray, List.set_cons_zero, List.set_cons_succ, i64_w, i32_w]
       rfl
     refine pure_ (i := 7) (N := some 34) (v := ?_) (a' := ?_) #[true, true, true, true, true, true, true, true, true, false, false] rfl rfl (any_of HT_.out (by kernel_rfl)) (fun _ _ _ h => h) (Or.inl ⟨by rfl, ?_⟩) ?_ ?_
     rotate_left
     · intro w'
       first | (go_simp; with_reducible rfl) | (go_simp; unfold Instr.field; go_simp; rfl)
     rotate_left
     · simp only [Act.put, List.setIfInBounds_toArray, List.set_cons_zero, List.set_cons_succ, i64_w, i32_w]
       rfl
     exact norm_ (by simp only [putAll, Act.put, List.setIfInBounds_toArray, List.set_cons_zero, List.set_cons_succ]) (hCont (.slice Ao37 t231.length co37, .slice Ao38 t234.length co38, v238, gb241) _ ⟨hHeld, (by (with_reducible repeat (first | apply Kd.R_alloc | apply Kd.R_drewN | apply Kd.R_drew)); exact Kd.R_mono HO233.out (fun _ hk => ⟨hk.1.2, hk.2⟩)), (by (with_reducible repeat (first | apply Kd.R_alloc | apply Kd.R_drewN | apply Kd.R_drew)); exact Kd.R_mono HO236.out (fun _ hk => ⟨hk.1.2, hk.2⟩)), (by (with_reducible repeat (first | apply Kd.R_alloc | apply Kd.R_drewN | apply Kd.R_drew)); exact Kd.R_mono HO239.out (fun _ hk => ⟨hk.1.2, hk.2⟩)), (bq BK227), (bq BK228), (bq BK241), GW241.out, GE241.out, NB227_241.out, NB241_227.out, NB228_241.out, NB241_228.out, (hq3 HB GE227 GE228 GE241)⟩)
   skip
   refine box_step ?hg (N := 6) ?hd (cs := #[.slice none 0 0]) (t := 27) ?hr ?_; (case hd => rfl); (case hg => rfl); (case hr => first | (go_simp; done) | (go_simp; rfl))
   intro gb241 hg w34 hbox hb
   have n0_ := Aside0.mk (bB BK227 hb)
   have n1_ := Aside0.mk (bB BK228 hb)
   have n2_ := Aside0.mk (below_step (hq2 HB GE227 GE228) hb)
   have n3_ := Aside0.mk (hbox)
   have n4_ := Aside0.mk (ng hg (hq2 HB GE227 GE228))
   have n5_ := Aside0.mk (ng hg (hq2 HB GE227 GE228))
   have n6_ := Aside0.mk (nl hg BK227)
   have n7_ := Aside0.mk (nr hg BK227)
   have n8_ := Aside0.mk (nl hg BK228)
   have n9_ := Aside0.mk (nr hg BK228)
   clear BK227
   clear BK228
   clear HB
   have BK227 := n0_
   have BK228 := n1_
   have HB := n2_
   have BK241 := n3_
   have GW241 := n4_
   have GE241 := n5_
   have NB227_241 := n6_
   have NB241_227 := n7_
   have NB228_241 := n8_
   have NB241_228 := n9_
   clear n0_ n1_ n2_ n3_ n4_ n5_ n6_ n7_ n8_ n9_
   clear hb hbox hg
   refine hK.out _ _ ⟨(blk_cell BK227.out 0).trans rfl, (blk_cell BK228.out 0).trans rfl⟩ (fun hHeld => ?_)
   clear hK K
   refine norm_ (a' := ?_) ?_ ?_
   rotate_left
   · show Act.put _ (some 6) _ = _
     simp only [Act.put, List.setIfInBounds_toArray, List.set_cons_zero, List.set_cons_succ, i64_w, i32_w]
     rfl
   refine one_ (i := 1) (N := some 29) #[true, true, true, false, false, false, false, false, true, false, false] rfl rfl (one_of HT_.out (by kernel_rfl)) (by decide) (fun K hK => ?_)
   refine goes_ Try.func17 (by kernel_rfl) rfl #[.agg #[.slice A0_0 l0_0.length c0_0]] (by rfl) rfl rfl (by (try simp only [List.map_toArray, List.map_cons, List.map_nil]); first | done | rfl | (simp only [List.length_drop, List.length_take]; rfl)) ?_
   with_reducible refine (laws_toBig.calls k _ _ l0_0 t231 _ ?side1 ?side2 A19.out).mono ?_
   (case side1 => repeat (first | exact (Kd.C_below HR0_0.out HB.out) | (with_reducible refine Kd.C_alloc ?_ _) | (with_reducible refine Kd.C_drewN ?_ _) | (with_reducible refine Kd.C_drew ?_)))
   (case side2 => exact HC0_0.out)
   rintro e w35 ⟨v232, rfl, ho0, hb⟩
   refine ⟨_, rfl, ?_⟩
   have n0_ := Aside0.mk (Kd.R_lower ho0 (below_size (hq3 HB GE227 GE228 GE241)))
   have n1_ := Aside0.mk (bB BK227 hb)
   have n2_ := Aside0.mk (bB BK228 hb)
   have n3_ := Aside0.mk (bB BK241 hb)
   have n4_ := Aside0.mk (below_step (hq3 HB GE227 GE228 GE241) hb)
   clear BK227
   clear BK228
   clear BK241
   clear HB
   have HO233 := n0_
   have BK227 := n1_
   have BK228 := n2_
   have BK241 := n3_
   have HB := n4_
   clear n0_ n1_ n2_ n3_ n4_
   (try clear hb)
   (try clear hb2)
   (try clear hk)
   (try clear hi)
   (try clear ho0)
   refine hK.out _ _ ⟨(blk_cell BK227.out 0).trans rfl, (blk_cell BK228.out 0).trans rfl⟩ (fun hHeld => ?_)
   clear hK K
   refine norm_ (a' := ?_) ?_ ?_
   rotate_left
   · show Act.put _ (some 29) _ = _
     simp only [Act.put, List.setIfInBounds_toArray, List.set_cons_zero, List.set_cons_succ, i64_w, i32_w]
     rfl
   refine one_ (i := 3) (N := some 31) #[true, true, true, true, false, false, false, false, true, false, false] rfl rfl (one_of HT_.out (by kernel_rfl)) (by decide) (fun K hK => ?_)
   refine goes_ Try.func17 (by kernel_rfl) rfl #[.agg #[.slice A1_0 l1_0.length c1_0]] (by rfl) rfl rfl (by (try simp only [List.map_toArray, List.map_cons, List.map_nil]); first | done | rfl | (simp only [List.length_drop, List.length_take]; rfl)) ?_
   with_reducible refine (laws_toBig.calls k _ _ l1_0 t234 _ ?side1 ?side2 A20.out).mono ?_
   (case side1 => repeat (first | exact (Kd.C_below HR1_0.out HB.out) | (with_reducible refine Kd.C_alloc ?_ _) | (with_reducible refine Kd.C_drewN ?_ _) | (with_reducible refine Kd.C_drew ?_)))
   (case side2 => exact HC1_0.out)
   rintro e w36 ⟨v235, rfl, ho0, hb⟩
   refine ⟨_, rfl, ?_⟩
   have n0_ := Aside0.mk (qe HO233 ho0 hb)
   have n1_ := Aside0.mk (Kd.R_lower (Kd.R_new' ho0 (ql HO233)) (below_size (hq3 HB GE227 GE228 GE241)))
   have n2_ := Aside0.mk (bB BK227 hb)
   have n3_ := Aside0.mk (bB BK228 hb)
   have n4_ := Aside0.mk (bB BK241 hb)
   have n5_ := Aside0.mk (below_step (hq3 HB GE227 GE228 GE241) hb)
   clear HO233
   clear BK227
   clear BK228
   clear BK241
   clear HB
   have HO233 := n0_
   have HO236 := n1_
   have BK227 := n2_
   have BK228 := n3_
   have BK241 := n4_
   have HB := n5_
   clear n0_ n1_ n2_ n3_ n4_ n5_
   (try clear hb)
   (try clear hb2)
   (try clear hk)
   (try clear hi)
   (try clear ho0)
   obtain ⟨Ao37, co37, eo37⟩ := Kd.R_slice HO233.out
   (first | subst eo37 | (injection eo37 with f1_ f2_ f3_; have f4_ := f1_.symm; have f5_ := f3_.symm; clear f1_ f2_ f3_; subst f4_; subst f5_))
   obtain ⟨Ao38, co38, eo38⟩ := Kd.R_slice HO236.out
   (first | subst eo38 | (injection eo38 with f1_ f2_ f3_; have f4_ := f1_.symm; have f5_ := f3_.symm; clear f1_ f2_ f3_; subst f4_; subst f5_))
   refine hK.out _ _ ⟨(blk_cell BK227.out 0).trans rfl, (blk_cell BK228.out 0).trans rfl⟩ (fun hHeld => ?_)
   clear hK K
   refine norm_ (a' := ?_) ?_ ?_
   rotate_left
   · show Act.put _ (some 31) _ = _
     simp only [Act.put, List.setIfInBounds_toArray, List.set_cons_zero, List.set_cons_succ, i64_w, i32_w]
     rfl
   refine one_ (i := 4) (N := some 32) #[true, true, true, true, true, false, false, false, true, false, false] rfl rfl (one_of HT_.out (by kernel_rfl)) (by decide) (fun K hK => ?_)
   refine goes_ Try.func24 (by kernel_rfl) rfl #[.agg #[.slice Ao37 t231.length co37], .agg #[.slice Ao38 t234.length co38]] (by rfl) rfl rfl (by (try simp only [List.map_toArray, List.map_cons, List.map_nil]); first | done | rfl | (simp only [List.length_drop, List.length_take]; rfl)) ?_
   with_reducible refine (spec_AddBig.calls k _ _ t231 _ _ t234 t237 t240 _ ?side1 ?side2 ?side3 ?side4 A21.out).mono ?_
   (case side1 => repeat (first | exact (Kd.R_reads' HO233.out).2.2 | (with_reducible refine Kd.C_alloc ?_ _) | (with_reducible refine Kd.C_drewN ?_ _) | (with_reducible refine Kd.C_drew ?_)))
   (case side2 => exact (Kd.R_reads' HO233.out).2.1)
   (case side3 => repeat (first | exact (Kd.R_reads' HO236.out).2.2 | (with_reducible refine Kd.C_alloc ?_ _) | (with_reducible refine Kd.C_drewN ?_ _) | (with_reducible refine Kd.C_drew ?_)))
   (case side4 => exact (Kd.R_reads' HO236.out).2.1)
   rintro e w39 ⟨v238, rfl, ho0, hb⟩
   refine ⟨_, rfl, ?_⟩
   have n0_ := Aside0.mk (qe HO233 ho0 hb)
   have n1_ := Aside0.mk (qe HO236 ho0 hb)
   have n2_ := Aside0.mk (Kd.R_lower (Kd.R_new' (Kd.R_new' ho0 (ql HO233)) (ql HO236)) (below_size (hq3 HB GE227 GE228 GE241)))
   have n3_ := Aside0.mk (bB BK227 hb)
   have n4_ := Aside0.mk (bB BK228 hb)
   have n5_ := Aside0.mk (bB BK241 hb)
   have n6_ := Aside0.mk (below_step (hq3 HB GE227 GE228 GE241) hb)
   clear HO233
   clear HO236
   clear BK227
   clear BK228
   clear BK241
   clear HB
   have HO233 := n0_
   have HO236 := n1_
   have HO239 := n2_
   have BK227 := n3_
   have BK228 := n4_
   have BK241 := n5_
   have HB := n6_
   clear n0_ n1_ n2_ n3_ n4_ n5_ n6_
   (try clear hb)
   (try clear hb2)
   (try clear hk)
   (try clear hi)
   (try clear ho0)
   refine hK.out _ _ ⟨(blk_cell BK227.out 0).trans rfl, (blk_cell BK228.out 0).trans rfl⟩ (fun hHeld => ?_)
   clear hK K
   refine norm_ (a' := ?_) ?_ ?_
   rotate_left
   · show Act.put _ (some 32) _ = _
     simp only [Act.put, List.setIfInBounds_toArray, List.set_cons_zero, List.set_cons_succ, i64_w, i32_w]
     rfl
   refine pure_ (i := 5) (N := some 27) (v := ?_) (a' := ?_) #[true, true, true, true, true, true, false, false, true, false, false] rfl rfl (any_of HT_.out (by kernel_rfl)) (fun _ _ _ h => h) (Or.inl ⟨by rfl, ?_⟩) ?_ ?_
   rotate_left
   · intro w'
     first | (go_simp; with_reducible rfl) | (go_simp; unfold Instr.field; go_simp; rfl)
   rotate_left
   · simp only [Act.put, List.setIfInBounds_toArray, List.set_cons_zero, List.set_cons_succ, i64_w, i32_w]
     rfl
   refine pure_ (i := 6) (N := some 33) (v := ?_) (a' := ?_) #[true, true, true, true, true, true, true, false, true, false, false] rfl rfl (any_of HT_.out (by kernel_rfl)) (fun _ _ _ h => h) (Or.inl ⟨by rfl, ?_⟩) ?_ ?_
   rotate_left
   · intro w'
     first | (go_simp; with_reducible rfl) | (go_simp; unfold Instr.field; go_simp; rfl)
   rotate_left
   · simp only [Act.put, List.setIfInBounds_toArray, List.set_cons_zero, List.set_cons_succ, i64_w, i32_w]
     rfl
   refine pure_ (i := 7) (N := some 34) (v := ?_) (a' := ?_) #[true, true, true, true, true, true, true, true, true, false, false] rfl rfl (any_of HT_.out (by kernel_rfl)) (fun _ _ _ h => h) (Or.inl ⟨by rfl, ?_⟩) ?_ ?_
   rotate_left
   · intro w'
     first | (go_simp; with_reducible rfl) | (go_simp; unfold Instr.field; go_simp; rfl)
   rotate_left
   · simp only [Act.put, List.setIfInBounds_toArray, List.set_cons_zero, List.set_cons_succ, i64_w, i32_w]
     rfl
   exact norm_ (by simp only [putAll, Act.put, List.setIfInBounds_toArray, List.set_cons_zero, List.set_cons_succ]) (hCont (.slice Ao37 t231.length co37, .slice Ao38 t234.length co38, v238, gb241) _ ⟨hHeld, (by (with_reducible repeat (first | apply Kd.R_alloc | apply Kd.R_drewN | apply Kd.R_drew)); exact Kd.R_mono HO233.out (fun _ hk => ⟨hk.1.2, hk.2⟩)), (by (with_reducible repeat (first | apply Kd.R_alloc | apply Kd.R_drewN | apply Kd.R_drew)); exact Kd.R_mono HO236.out (fun _ hk => ⟨hk.1.2, hk.2⟩)), (by (with_reducible repeat (first | apply Kd.R_alloc | apply Kd.R_drewN | apply Kd.R_drew)); exact Kd.R_mono HO239.out (fun _ hk => ⟨hk.1.2, hk.2⟩)), (bq BK227), (bq BK228), (bq BK241), GW241.out, GE241.out, NB227_241.out, NB241_227.out, NB228_241.out, NB241_228.out, (hq3 HB GE227 GE228 GE241)⟩)
 rintro ⟨v232, v235, v238, gb241⟩ w40 ⟨hS_, h0_, h1_, h2_, h3_, h4_, h5_, h6_, h7_, h8_, h9_, h10_, h11_, h12_⟩
 have n0_ : Aside0 (Kd.R (Kd.int .i64) 3 w40 w.heap.size (fun k_ => some k_ ≠ (v235 : Value).ownBlock ∧ some k_ ≠ (v238 : Value).ownBlock) v232 t231) := ⟨h0_⟩
 have n1_ : Aside0 (Kd.R (Kd.int .i64) 3 w40 w.heap.size (fun k_ => some k_ ≠ (v232 : Value).ownBlock ∧ some k_ ≠ (v238 : Value).ownBlock) v235 t234) := ⟨h1_⟩
 have n2_ : Aside0 (Kd.R (Kd.int .i64) 3 w40 w.heap.size (fun k_ => some k_ ≠ (v232 : Value).ownBlock ∧ some k_ ≠ (v235 : Value).ownBlock) v238 t237) := ⟨h2_⟩
 have n3_ : Aside0 (w40.heap[gb227]? = some (.cells #[.slice A0_0 l0_0.length c0_0] 24 (0, 0))) := ⟨h3_⟩
 have n4_ : Aside0 (w40.heap[gb228]? = some (.cells #[.slice A1_0 l1_0.length c1_0] 24 (0, 0))) := ⟨h4_⟩
 have n5_ : Aside0 (w40.heap[gb241]? = some (.cells #[.slice none 0 0] 27 (0, 0))) := ⟨h5_⟩
 have n6_ : Aside0 (w.heap.size ≤ gb241) := ⟨h6_⟩
 have n7_ : Aside0 (w.heap.size ≤ gb241) := ⟨h7_⟩
 have n8_ : Aside0 (gb227 ≠ gb241) := ⟨h8_⟩
 have n9_ : Aside0 (gb241 ≠ gb227) := ⟨h9_⟩
 have n10_ : Aside0 (gb228 ≠ gb241) := ⟨h10_⟩
 have n11_ : Aside0 (gb241 ≠ gb228) := ⟨h11_⟩
 have n12_ : Aside0 (Below w.heap.size w w40) := ⟨h12_⟩
 clear BK227
 clear BK228
 clear HB
 clear h0_ h1_ h2_ h3_ h4_ h5_ h6_ h7_ h8_ h9_ h10_ h11_ h12_
 have HO233 := n0_
 have HO236 := n1_
 have HO239 := n2_
 have BK227 := n3_
 have BK228 := n4_
 have BK241 := n5_
 have GW241 := n6_
 have GE241 := n7_
 have NB227_241 := n8_
 have NB241_227 := n9_
 have NB228_241 := n10_
 have NB241_228 := n11_
 have HB := n12_
 clear n0_ n1_ n2_ n3_ n4_ n5_ n6_ n7_ n8_ n9_ n10_ n11_ n12_
 have hHeld : w40.cell? ⟨gb227, 0, none⟩ = some (.slice A0_0 l0_0.length c0_0) ∧ w40.cell? ⟨gb228, 0, none⟩ = some (.slice A1_0 l1_0.length c1_0) := hS_
 obtain ⟨Ao41, co41, eo41⟩ := Kd.R_slice HO239.out
 (first | subst eo41 | (injection eo41 with f1_ f2_ f3_; have f4_ := f1_.symm; have f5_ := f3_.symm; clear f1_ f2_ f3_; subst f4_; subst f5_))
 refine norm_ (a' := ?_) ?_ ?_
 rotate_left
 · simp only [putAll, Act.put, List.setIfInBounds_toArray, List.set_cons_zero, List.set_cons_succ]
   rfl
 refine one_ (i := 9) (N := none) #[true, true, true, true, true, true, true, true, true, true, false] rfl rfl (one_of HT_.out (by kernel_rfl)) (by decide) (fun K hK => ?_)
 have hs42 : w40.cell? ⟨gb241, 0, none⟩ = some (.slice none 0 0) := (blk_cell BK241.out 0).trans rfl
 have hfs42 := blk_frozen BK241.out 0
 have hns42_0 := NB227_241.out
 have hns42_1 := NB228_241.out
 have hms42_0 := NB241_227.out
 have hms42_1 := NB241_228.out
 refine skip_ (w1 := ?_) (by rfl) rfl ?_ ?_
 rotate_left
 · go_simp
   rfl
 refine hK.out _ _ ⟨((cell_far (p := ⟨gb241, _, none⟩) NB227_241.out _).trans (hHeld.1)), ((cell_far (p := ⟨gb241, _, none⟩) NB228_241.out _).trans (hHeld.2))⟩ (fun hHeld => ?_)
 clear hK K
 refine pure_ (i := 10) (N := some 7) (v := ?_) (a' := ?_) #[true, true, true, true, true, true, true, true, true, true, true] rfl rfl (any_of HT_.out (by kernel_rfl)) (fun _ _ _ h => h) (Or.inl ⟨by rfl, ?_⟩) ?_ ?_
 rotate_left
 · intro w'
   first | (go_simp; with_reducible rfl) | (go_simp; unfold Instr.field; go_simp; rfl)
 rotate_left
 · simp only [Act.put, List.setIfInBounds_toArray, List.set_cons_zero, List.set_cons_succ, i64_w, i32_w]
   rfl
 refine done_ (done_of HT_.out (by kernel_rfl)) ?_
 have hnb43 := NB227_241.out
 have hnc43 := NB241_227.out
 have hcz44_0 : w40.cell? ⟨gb227, 0, none⟩ = some (.slice A0_0 l0_0.length c0_0) := (blk_cell BK227.out 0).trans rfl
 have hfz44_0 := blk_frozen BK227.out 0
 go_upto_region 12 with (first | ((with_reducible refine gate_callee (f := 17) rfl ?_); refine goesL_ (some 36) rfl rfl Try.func17 (by kernel_rfl) rfl #[.agg #[.slice A0_0 l0_0.length c0_0]] rfl (by (try simp only [List.map_toArray, List.map_cons, List.map_nil]); first | done | rfl | (simp only [List.length_drop, List.length_take]; rfl)) ?_; (with_reducible refine (laws_toBig.calls k _ _ l0_0 t242 _ ?side1 ?side2 A22.out).mono ?_); (case side1 => exact Kd.C_below HR0_0.out (hq3 HB GE227 GE228 GE241)); (case side2 => exact HC0_0.out); rintro e w45 ⟨v243, rfl, ho0, hb⟩; refine ⟨_, rfl, ?_⟩; have n0_ := Aside0.mk (Kd.R_elder' (by (with_reducible repeat (first | apply Kd.R_alloc | apply Kd.R_drewN | apply Kd.R_drew)); exact (Kd.R_mono (Kd.R_far (p := ⟨gb241, 0, none⟩) (Kd.R_types HO233.out BK241.out (by decide)) (fun _ hk => hk.2) (.slice Ao41 t237.length co41)) (fun _ h_ => h_.1))) (Kd.R_base ho0) hb); have n1_ := Aside0.mk (Kd.R_elder' (by (with_reducible repeat (first | apply Kd.R_alloc | apply Kd.R_drewN | apply Kd.R_drew)); exact (Kd.R_mono (Kd.R_far (p := ⟨gb241, 0, none⟩) (Kd.R_types HO236.out BK241.out (by decide)) (fun _ hk => hk.2) (.slice Ao41 t237.length co41)) (fun _ h_ => h_.1))) (Kd.R_base ho0) hb); have n2_ := Aside0.mk (Kd.R_elder' (by (with_reducible repeat (first | apply Kd.R_alloc | apply Kd.R_drewN | apply Kd.R_drew)); exact (Kd.R_mono (Kd.R_far (p := ⟨gb241, 0, none⟩) (Kd.R_types HO239.out BK241.out (by decide)) (fun _ hk => hk.2) (.slice Ao41 t237.length co41)) (fun _ h_ => h_.1))) (Kd.R_base ho0) hb); have n3_ := Aside0.mk (Kd.R_lower (Kd.R_new' (Kd.R_new' (Kd.R_new' ho0 (Kd.R_lt (by (with_reducible repeat (first | apply Kd.R_alloc | apply Kd.R_drewN | apply Kd.R_drew)); exact (Kd.R_mono (Kd.R_far (p := ⟨gb241, 0, none⟩) (Kd.R_types HO233.out BK241.out (by decide)) (fun _ hk => hk.2) (.slice Ao41 t237.length co41)) (fun _ h_ => h_.1))))) (Kd.R_lt (by (with_reducible repeat (first | apply Kd.R_alloc | apply Kd.R_drewN | apply Kd.R_drew)); exact (Kd.R_mono (Kd.R_far (p := ⟨gb241, 0, none⟩) (Kd.R_types HO236.out BK241.out (by decide)) (fun _ hk => hk.2) (.slice Ao41 t237.length co41)) (fun _ h_ => h_.1))))) (Kd.R_lt (by (with_reducible repeat (first | apply Kd.R_alloc | apply Kd.R_drewN | apply Kd.R_drew)); exact (Kd.R_mono (Kd.R_far (p := ⟨gb241, 0, none⟩) (Kd.R_types HO239.out BK241.out (by decide)) (fun _ hk => hk.2) (.slice Ao41 t237.length co41)) (fun _ h_ => h_.1))))) (below_size (hq3 HB GE227 GE228 GE241))); have n4_ := Aside0.mk (blk_below (g := gb227) (o := .cells #[.slice A0_0 l0_0.length c0_0] 24 (0, 0)) (bf NB227_241 BK227) hb); have n5_ := Aside0.mk (blk_below (g := gb228) (o := .cells #[.slice A1_0 l1_0.length c1_0] 24 (0, 0)) (bf NB228_241 BK228) hb); have n6_ := Aside0.mk (blk_below (g := gb241) (o := .cells #[.slice Ao41 t237.length co41] 27 (0, 0)) (by (with_reducible repeat (first | refine blk_drewN ?_ _ | refine blk_drew ?_ | refine blk_alloc ?_ _)); refine blk_put (cs := #[.slice none 0 0]) ?_ 0 _ rfl; (with_reducible repeat (first | refine blk_drewN ?_ _ | refine blk_drew ?_ | refine blk_alloc ?_ _)); exact BK241.out) hb); have n7_ := Aside0.mk (below_step (hq3 HB GE227 GE228 GE241) hb); clear HO233; clear HO236; clear HO239; clear BK227; clear BK228; clear BK241; clear HB; have HO233 := n0_; have HO236 := n1_; have HO239 := n2_; have HO244 := n3_; have BK227 := n4_; have BK228 := n5_; have BK241 := n6_; have HB := n7_; clear n0_ n1_ n2_ n3_ n4_ n5_ n6_ n7_; (try clear hb); (try clear hb2); (try clear hk); (try clear hi); (try clear ho0)) | ((with_reducible refine gate_dst (N := 8) rfl ?_); refine box_event ?hg (N := 8) ?hd (cs := #[.slice none 0 0]) (t := 27) ?hr ?_; (case hd => rfl); (case hg => rfl); (case hr => first | (go_simp; done) | (go_simp; rfl)); intro gb245 hg w46 hbox hb; have n0_ := Aside0.mk (qb HO233 hb); have n1_ := Aside0.mk (qb HO236 hb); have n2_ := Aside0.mk (qb HO239 hb); have n3_ := Aside0.mk (qb HO244 hb); have n4_ := Aside0.mk (bB BK227 hb); have n5_ := Aside0.mk (bB BK228 hb); have n6_ := Aside0.mk (bB BK241 hb); have n7_ := Aside0.mk (below_step (hq3 HB GE227 GE228 GE241) hb); have n8_ := Aside0.mk (hbox); have n9_ := Aside0.mk (ng hg (hq3 HB GE227 GE228 GE241)); have n10_ := Aside0.mk (ng hg (hq3 HB GE227 GE228 GE241)); have n11_ := Aside0.mk (nl hg BK227); have n12_ := Aside0.mk (nr hg BK227); have n13_ := Aside0.mk (nl hg BK228); have n14_ := Aside0.mk (nr hg BK228); have n15_ := Aside0.mk (nl hg BK241); have n16_ := Aside0.mk (nr hg BK241); clear HO233; clear HO236; clear HO239; clear HO244; clear BK227; clear BK228; clear BK241; clear HB; have HO233 := n0_; have HO236 := n1_; have HO239 := n2_; have HO244 := n3_; have BK227 := n4_; have BK228 := n5_; have BK241 := n6_; have HB := n7_; have BK245 := n8_; have GW245 := n9_; have GE245 := n10_; have NB227_245 := n11_; have NB245_227 := n12_; have NB228_245 := n13_; have NB245_228 := n14_; have NB241_245 := n15_; have NB245_241 := n16_; clear n0_ n1_ n2_ n3_ n4_ n5_ n6_ n7_ n8_ n9_ n10_ n11_ n12_ n13_ n14_ n15_ n16_; clear hb hbox hg; obtain ⟨Ao47, co47, eo47⟩ := Kd.R_slice HO244.out; subst eo47; have hnb48 := NB245_227.out; have hnc48 := NB227_245.out; have hnb49 := NB245_228.out; have hnc49 := NB228_245.out; have hnb50 := NB245_241.out; have hnc50 := NB241_245.out; have hcz51_0 : w46.cell? ⟨gb245, 0, none⟩ = some (.slice none 0 0) := (blk_cell BK245.out 0).trans rfl; have hfz51_0 := blk_frozen BK245.out 0; have hnb52 := NB228_241.out; have hnc52 := NB241_228.out; have hcz53_0 : w46.cell? ⟨gb228, 0, none⟩ = some (.slice A1_0 l1_0.length c1_0) := (blk_cell BK228.out 0).trans rfl; have hfz53_0 := blk_frozen BK228.out 0) | ((with_reducible refine gate_callee (f := 17) rfl ?_); refine goesL_ (some 38) rfl rfl Try.func17 (by kernel_rfl) rfl #[.agg #[.slice A1_0 l1_0.length c1_0]] rfl (by (try simp only [List.map_toArray, List.map_cons, List.map_nil]); first | done | rfl | (simp only [List.length_drop, List.length_take]; rfl)) ?_; (with_reducible refine (laws_toBig.calls k _ _ l1_0 t246 _ ?side1 ?side2 A23.out).mono ?_); (case side1 => exact Kd.C_below HR1_0.out (hq4 HB GE227 GE228 GE241 GE245)); (case side2 => exact HC1_0.out); rintro e w54 ⟨v247, rfl, ho0, hb⟩; refine ⟨_, rfl, ?_⟩; have n0_ := Aside0.mk (Kd.R_elder' (by (with_reducible repeat (first | apply Kd.R_alloc | apply Kd.R_drewN | apply Kd.R_drew)); exact (Kd.R_mono (Kd.R_far (p := ⟨gb245, 0, none⟩) (Kd.R_types HO233.out BK245.out (by decide)) (fun _ hk => hk.2) (.slice Ao47 t242.length co47)) (fun _ h_ => h_.1))) (Kd.R_base ho0) hb); have n1_ := Aside0.mk (Kd.R_elder' (by (with_reducible repeat (first | apply Kd.R_alloc | apply Kd.R_drewN | apply Kd.R_drew)); exact (Kd.R_mono (Kd.R_far (p := ⟨gb245, 0, none⟩) (Kd.R_types HO236.out BK245.out (by decide)) (fun _ hk => hk.2) (.slice Ao47 t242.length co47)) (fun _ h_ => h_.1))) (Kd.R_base ho0) hb); have n2_ := Aside0.mk (Kd.R_elder' (by (with_reducible repeat (first | apply Kd.R_alloc | apply Kd.R_drewN | apply Kd.R_drew)); exact (Kd.R_mono (Kd.R_far (p := ⟨gb245, 0, none⟩) (Kd.R_types HO239.out BK245.out (by decide)) (fun _ hk => hk.2) (.slice Ao47 t242.length co47)) (fun _ h_ => h_.1))) (Kd.R_base ho0) hb); have n3_ := Aside0.mk (Kd.R_elder' (by (with_reducible repeat (first | apply Kd.R_alloc | apply Kd.R_drewN | apply Kd.R_drew)); exact (Kd.R_mono (Kd.R_far (p := ⟨gb245, 0, none⟩) (Kd.R_types HO244.out BK245.out (by decide)) (fun _ hk => hk.2) (.slice Ao47 t242.length co47)) (fun _ h_ => h_.1))) (Kd.R_base ho0) hb); have n4_ := Aside0.mk (Kd.R_lower (Kd.R_new' (Kd.R_new' (Kd.R_new' (Kd.R_new' ho0 (Kd.R_lt (by (with_reducible repeat (first | apply Kd.R_alloc | apply Kd.R_drewN | apply Kd.R_drew)); exact (Kd.R_mono (Kd.R_far (p := ⟨gb245, 0, none⟩) (Kd.R_types HO233.out BK245.out (by decide)) (fun _ hk => hk.2) (.slice Ao47 t242.length co47)) (fun _ h_ => h_.1))))) (Kd.R_lt (by (with_reducible repeat (first | apply Kd.R_alloc | apply Kd.R_drewN | apply Kd.R_drew)); exact (Kd.R_mono (Kd.R_far (p := ⟨gb245, 0, none⟩) (Kd.R_types HO236.out BK245.out (by decide)) (fun _ hk => hk.2) (.slice Ao47 t242.length co47)) (fun _ h_ => h_.1))))) (Kd.R_lt (by (with_reducible repeat (first | apply Kd.R_alloc | apply Kd.R_drewN | apply Kd.R_drew)); exact (Kd.R_mono (Kd.R_far (p := ⟨gb245, 0, none⟩) (Kd.R_types HO239.out BK245.out (by decide)) (fun _ hk => hk.2) (.slice Ao47 t242.length co47)) (fun _ h_ => h_.1))))) (Kd.R_lt (by (with_reducible repeat (first | apply Kd.R_alloc | apply Kd.R_drewN | apply Kd.R_drew)); exact (Kd.R_mono (Kd.R_far (p := ⟨gb245, 0, none⟩) (Kd.R_types HO244.out BK245.out (by decide)) (fun _ hk => hk.2) (.slice Ao47 t242.length co47)) (fun _ h_ => h_.1))))) (below_size (hq4 HB GE227 GE228 GE241 GE245))); have n5_ := Aside0.mk (blk_below (g := gb227) (o := .cells #[.slice A0_0 l0_0.length c0_0] 24 (0, 0)) (bf NB227_245 BK227) hb); have n6_ := Aside0.mk (blk_below (g := gb228) (o := .cells #[.slice A1_0 l1_0.length c1_0] 24 (0, 0)) (bf NB228_245 BK228) hb); have n7_ := Aside0.mk (blk_below (g := gb241) (o := .cells #[.slice Ao41 t237.length co41] 27 (0, 0)) (bf NB241_245 BK241) hb); have n8_ := Aside0.mk (blk_below (g := gb245) (o := .cells #[.slice Ao47 t242.length co47] 27 (0, 0)) (by (with_reducible repeat (first | refine blk_drewN ?_ _ | refine blk_drew ?_ | refine blk_alloc ?_ _)); refine blk_put (cs := #[.slice none 0 0]) ?_ 0 _ rfl; (with_reducible repeat (first | refine blk_drewN ?_ _ | refine blk_drew ?_ | refine blk_alloc ?_ _)); exact BK245.out) hb); have n9_ := Aside0.mk (below_step (hq4 HB GE227 GE228 GE241 GE245) hb); clear HO233; clear HO236; clear HO239; clear HO244; clear BK227; clear BK228; clear BK241; clear BK245; clear HB; have HO233 := n0_; have HO236 := n1_; have HO239 := n2_; have HO244 := n3_; have HO248 := n4_; have BK227 := n5_; have BK228 := n6_; have BK241 := n7_; have BK245 := n8_; have HB := n9_; clear n0_ n1_ n2_ n3_ n4_ n5_ n6_ n7_ n8_ n9_; (try clear hb); (try clear hb2); (try clear hk); (try clear hi); (try clear ho0)) | ((with_reducible refine gate_dst (N := 9) rfl ?_); refine box_event ?hg (N := 9) ?hd (cs := #[.slice none 0 0]) (t := 27) ?hr ?_; (case hd => rfl); (case hg => rfl); (case hr => first | (go_simp; done) | (go_simp; rfl)); intro gb249 hg w55 hbox hb; have n0_ := Aside0.mk (qb HO233 hb); have n1_ := Aside0.mk (qb HO236 hb); have n2_ := Aside0.mk (qb HO239 hb); have n3_ := Aside0.mk (qb HO244 hb); have n4_ := Aside0.mk (qb HO248 hb); have n5_ := Aside0.mk (bB BK227 hb); have n6_ := Aside0.mk (bB BK228 hb); have n7_ := Aside0.mk (bB BK241 hb); have n8_ := Aside0.mk (bB BK245 hb); have n9_ := Aside0.mk (below_step (hq4 HB GE227 GE228 GE241 GE245) hb); have n10_ := Aside0.mk (hbox); have n11_ := Aside0.mk (ng hg (hq4 HB GE227 GE228 GE241 GE245)); have n12_ := Aside0.mk (ng hg (hq4 HB GE227 GE228 GE241 GE245)); have n13_ := Aside0.mk (nl hg BK227); have n14_ := Aside0.mk (nr hg BK227); have n15_ := Aside0.mk (nl hg BK228); have n16_ := Aside0.mk (nr hg BK228); have n17_ := Aside0.mk (nl hg BK241); have n18_ := Aside0.mk (nr hg BK241); have n19_ := Aside0.mk (nl hg BK245); have n20_ := Aside0.mk (nr hg BK245); clear HO233; clear HO236; clear HO239; clear HO244; clear HO248; clear BK227; clear BK228; clear BK241; clear BK245; clear HB; have HO233 := n0_; have HO236 := n1_; have HO239 := n2_; have HO244 := n3_; have HO248 := n4_; have BK227 := n5_; have BK228 := n6_; have BK241 := n7_; have BK245 := n8_; have HB := n9_; have BK249 := n10_; have GW249 := n11_; have GE249 := n12_; have NB227_249 := n13_; have NB249_227 := n14_; have NB228_249 := n15_; have NB249_228 := n16_; have NB241_249 := n17_; have NB249_241 := n18_; have NB245_249 := n19_; have NB249_245 := n20_; clear n0_ n1_ n2_ n3_ n4_ n5_ n6_ n7_ n8_ n9_ n10_ n11_ n12_ n13_ n14_ n15_ n16_ n17_ n18_ n19_ n20_; clear hb hbox hg; obtain ⟨Ao56, co56, eo56⟩ := Kd.R_slice HO248.out; subst eo56; have hnb57 := NB249_227.out; have hnc57 := NB227_249.out; have hnb58 := NB249_228.out; have hnc58 := NB228_249.out; have hnb59 := NB249_241.out; have hnc59 := NB241_249.out; have hnb60 := NB249_245.out; have hnc60 := NB245_249.out; have hcz61_0 : w55.cell? ⟨gb249, 0, none⟩ = some (.slice none 0 0) := (blk_cell BK249.out 0).trans rfl; have hfz61_0 := blk_frozen BK249.out 0) | ((with_reducible refine gate_store (t := 27) (p := 9) rfl ?_); refine store_event (t := 27) (p := 9) (v := ?vo_w62) (w1 := (w55.setCell ⟨gb249, 0, none⟩ (.slice Ao56 t246.length co56))) ?hg ?ho ?hn ?hr ?_; (case ho => rfl); (case hg => rfl); (case hn => rfl); (case hr => first | (go_simp; done) | (go_simp; rfl)); intro w62 hw; have n0_ : Aside0 (Kd.R (Kd.int .i64) 3 w62 w.heap.size (fun k_ => some k_ ≠ (v235 : Value).ownBlock ∧ some k_ ≠ (.slice Ao41 t237.length co41 : Value).ownBlock ∧ some k_ ≠ (.slice Ao47 t242.length co47 : Value).ownBlock ∧ some k_ ≠ (.slice Ao56 t246.length co56 : Value).ownBlock) v232 t231) := ⟨(by rw [hw]; exact (by (with_reducible repeat (first | apply Kd.R_alloc | apply Kd.R_drewN | apply Kd.R_drew)); exact Kd.R_mono (Kd.R_far (p := ⟨gb249, 0, none⟩) (Kd.R_types HO233.out BK249.out (by decide)) (fun _ hk => hk.2) (.slice Ao56 t246.length co56)) (fun _ hk => ⟨hk.1.1.1.1, ⟨hk.1.1.1.2, ⟨hk.1.1.2, hk.1.2⟩⟩⟩)))⟩; have n1_ : Aside0 (Kd.R (Kd.int .i64) 3 w62 w.heap.size (fun k_ => some k_ ≠ (v232 : Value).ownBlock ∧ some k_ ≠ (.slice Ao41 t237.length co41 : Value).ownBlock ∧ some k_ ≠ (.slice Ao47 t242.length co47 : Value).ownBlock ∧ some k_ ≠ (.slice Ao56 t246.length co56 : Value).ownBlock) v235 t234) := ⟨(by rw [hw]; exact (by (with_reducible repeat (first | apply Kd.R_alloc | apply Kd.R_drewN | apply Kd.R_drew)); exact Kd.R_mono (Kd.R_far (p := ⟨gb249, 0, none⟩) (Kd.R_types HO236.out BK249.out (by decide)) (fun _ hk => hk.2) (.slice Ao56 t246.length co56)) (fun _ hk => ⟨hk.1.1.1.1, ⟨hk.1.1.1.2, ⟨hk.1.1.2, hk.1.2⟩⟩⟩)))⟩; have n2_ : Aside0 (Kd.R (Kd.int .i64) 3 w62 w.heap.size (fun k_ => some k_ ≠ (v232 : Value).ownBlock ∧ some k_ ≠ (v235 : Value).ownBlock ∧ some k_ ≠ (.slice Ao47 t242.length co47 : Value).ownBlock ∧ some k_ ≠ (.slice Ao56 t246.length co56 : Value).ownBlock) (.slice Ao41 t237.length co41) t237) := ⟨(by rw [hw]; exact (by (with_reducible repeat (first | apply Kd.R_alloc | apply Kd.R_drewN | apply Kd.R_drew)); exact Kd.R_mono (Kd.R_far (p := ⟨gb249, 0, none⟩) (Kd.R_types HO239.out BK249.out (by decide)) (fun _ hk => hk.2) (.slice Ao56 t246.length co56)) (fun _ hk => ⟨hk.1.1.1.1, ⟨hk.1.1.1.2, ⟨hk.1.1.2, hk.1.2⟩⟩⟩)))⟩; have n3_ : Aside0 (Kd.R (Kd.int .i64) 3 w62 w.heap.size (fun k_ => some k_ ≠ (v232 : Value).ownBlock ∧ some k_ ≠ (v235 : Value).ownBlock ∧ some k_ ≠ (.slice Ao41 t237.length co41 : Value).ownBlock ∧ some k_ ≠ (.slice Ao56 t246.length co56 : Value).ownBlock) (.slice Ao47 t242.length co47) t242) := ⟨(by rw [hw]; exact (by (with_reducible repeat (first | apply Kd.R_alloc | apply Kd.R_drewN | apply Kd.R_drew)); exact Kd.R_mono (Kd.R_far (p := ⟨gb249, 0, none⟩) (Kd.R_types HO244.out BK249.out (by decide)) (fun _ hk => hk.2) (.slice Ao56 t246.length co56)) (fun _ hk => ⟨hk.1.1.1.1.2, ⟨hk.1.1.1.2, ⟨hk.1.1.2, hk.1.2⟩⟩⟩)))⟩; have n4_ : Aside0 (Kd.R (Kd.int .i64) 3 w62 w.heap.size (fun k_ => some k_ ≠ (v232 : Value).ownBlock ∧ some k_ ≠ (v235 : Value).ownBlock ∧ some k_ ≠ (.slice Ao41 t237.length co41 : Value).ownBlock ∧ some k_ ≠ (.slice Ao47 t242.length co47 : Value).ownBlock) (.slice Ao56 t246.length co56) t246) := ⟨(by rw [hw]; exact (by (with_reducible repeat (first | apply Kd.R_alloc | apply Kd.R_drewN | apply Kd.R_drew)); exact Kd.R_mono (Kd.R_far (p := ⟨gb249, 0, none⟩) (Kd.R_types HO248.out BK249.out (by decide)) (fun _ hk => hk.2) (.slice Ao56 t246.length co56)) (fun _ hk => ⟨hk.1.1.1.1.2, ⟨hk.1.1.1.2, ⟨hk.1.1.2, hk.1.2⟩⟩⟩)))⟩; have n5_ : Aside0 (w62.heap[gb227]? = some (.cells #[.slice A0_0 l0_0.length c0_0] 24 (0, 0))) := ⟨(by rw [hw]; exact (bf NB227_249 BK227))⟩; have n6_ : Aside0 (w62.heap[gb228]? = some (.cells #[.slice A1_0 l1_0.length c1_0] 24 (0, 0))) := ⟨(by rw [hw]; exact (bf NB228_249 BK228))⟩; have n7_ : Aside0 (w62.heap[gb241]? = some (.cells #[.slice Ao41 t237.length co41] 27 (0, 0))) := ⟨(by rw [hw]; exact (bf NB241_249 BK241))⟩; have n8_ : Aside0 (w62.heap[gb245]? = some (.cells #[.slice Ao47 t242.length co47] 27 (0, 0))) := ⟨(by rw [hw]; exact (bf NB245_249 BK245))⟩; have n9_ : Aside0 (w62.heap[gb249]? = some (.cells #[.slice Ao56 t246.length co56] 27 (0, 0))) := ⟨(by rw [hw]; exact (by (with_reducible repeat (first | refine blk_drewN ?_ _ | refine blk_drew ?_ | refine blk_alloc ?_ _)); refine blk_put (cs := #[.slice none 0 0]) ?_ 0 _ rfl; (with_reducible repeat (first | refine blk_drewN ?_ _ | refine blk_drew ?_ | refine blk_alloc ?_ _)); exact BK249.out))⟩; have n10_ : Aside0 (Below w.heap.size w w62) := ⟨(by rw [hw]; exact (hq5 HB GE227 GE228 GE241 GE245 GE249))⟩; clear hw; clear HO233; clear HO236; clear HO239; clear HO244; clear HO248; clear BK227; clear BK228; clear BK241; clear BK245; clear BK249; clear HB; have HO233 := n0_; have HO236 := n1_; have HO239 := n2_; have HO244 := n3_; have HO248 := n4_; have BK227 := n5_; have BK228 := n6_; have BK241 := n7_; have BK245 := n8_; have BK249 := n9_; have HB := n10_; clear n0_ n1_ n2_ n3_ n4_ n5_ n6_ n7_ n8_ n9_ n10_; have hcz63_0 : w62.cell? ⟨gb245, 0, none⟩ = some (.slice Ao47 t242.length co47) := (blk_cell BK245.out 0).trans rfl; have hfz63_0 := blk_frozen BK245.out 0; have hcz64_0 : w62.cell? ⟨gb249, 0, none⟩ = some (.slice Ao56 t246.length co56) := (blk_cell BK249.out 0).trans rfl; have hfz64_0 := blk_frozen BK249.out 0) | ((with_reducible refine gate_callee (f := 25) rfl ?_); refine goesL_ (some 42) rfl rfl Try.func25 (by kernel_rfl) rfl #[.agg #[.slice Ao47 t242.length co47], .agg #[.slice Ao56 t246.length co56]] rfl (by (try simp only [List.map_toArray, List.map_cons, List.map_nil]); first | done | rfl | (simp only [List.length_drop, List.length_take]; rfl)) ?_; (with_reducible refine (impl_AddBig.calls k (fun k_ => some k_ = (.slice Ao47 t242.length co47 : Value).ownBlock) _ _ t242 (fun k_ => some k_ = (.slice Ao56 t246.length co56 : Value).ownBlock) _ _ t246 t250 t253 _ ?side1 ?side2 A24.out).mono ?_); (case side1 => exact Kd.R_V (Kd.R_tight rfl (Kd.R_types (Kd.R_types (Kd.R_types (Kd.R_types (Kd.R_types (HO244.out) BK227.out (by decide)) BK228.out (by decide)) BK241.out (by decide)) BK245.out (by decide)) BK249.out (by decide)))); (case side2 => exact Kd.R_V (Kd.R_tight rfl (Kd.R_types (Kd.R_types (Kd.R_types (Kd.R_types (Kd.R_types (HO248.out) BK227.out (by decide)) BK228.out (by decide)) BK241.out (by decide)) BK245.out (by decide)) BK249.out (by decide)))); rintro e w65 ⟨v251, rfl, ho0, hb⟩; refine ⟨_, rfl, ?_⟩; have n0_ := Aside0.mk (qe HO233 ho0 hb); have n1_ := Aside0.mk (qe HO236 ho0 hb); have n2_ := Aside0.mk (qe HO239 ho0 hb); have n3_ := Aside0.mk (qe HO244 ho0 hb); have n4_ := Aside0.mk (qe HO248 ho0 hb); have n5_ := Aside0.mk (Kd.R_lower (Kd.R_new' (Kd.R_new' (Kd.R_new' (Kd.R_new' (Kd.R_new' (Kd.R_mono (ok' := fun k_ => True) ho0 (fun _ hk_ => trivial)) (ql HO233)) (ql HO236)) (ql HO239)) (ql HO244)) (ql HO248)) (below_size (hq5 HB GE227 GE228 GE241 GE245 GE249))); have n6_ := Aside0.mk (bB BK227 hb); have n7_ := Aside0.mk (bB BK228 hb); have n8_ := Aside0.mk (bB BK241 hb); have n9_ := Aside0.mk (bB BK245 hb); have n10_ := Aside0.mk (bB BK249 hb); have n11_ := Aside0.mk (below_step (hq5 HB GE227 GE228 GE241 GE245 GE249) hb); clear HO233; clear HO236; clear HO239; clear HO244; clear HO248; clear BK227; clear BK228; clear BK241; clear BK245; clear BK249; clear HB; have HO233 := n0_; have HO236 := n1_; have HO239 := n2_; have HO244 := n3_; have HO248 := n4_; have HO252 := n5_; have BK227 := n6_; have BK228 := n7_; have BK241 := n8_; have BK245 := n9_; have BK249 := n10_; have HB := n11_; clear n0_ n1_ n2_ n3_ n4_ n5_ n6_ n7_ n8_ n9_ n10_ n11_; (try clear hb); (try clear hb2); (try clear hk); (try clear hi); (try clear ho0)) | ((with_reducible refine gate_dst (N := 10) rfl ?_); refine box_event ?hg (N := 10) ?hd (cs := #[.slice none 0 0]) (t := 27) ?hr ?_; (case hd => rfl); (case hg => rfl); (case hr => first | (go_simp; done) | (go_simp; rfl)); intro gb254 hg w66 hbox hb; have n0_ := Aside0.mk (qb HO233 hb); have n1_ := Aside0.mk (qb HO236 hb); have n2_ := Aside0.mk (qb HO239 hb); have n3_ := Aside0.mk (qb HO244 hb); have n4_ := Aside0.mk (qb HO248 hb); have n5_ := Aside0.mk (qb HO252 hb); have n6_ := Aside0.mk (bB BK227 hb); have n7_ := Aside0.mk (bB BK228 hb); have n8_ := Aside0.mk (bB BK241 hb); have n9_ := Aside0.mk (bB BK245 hb); have n10_ := Aside0.mk (bB BK249 hb); have n11_ := Aside0.mk (below_step (hq5 HB GE227 GE228 GE241 GE245 GE249) hb); have n12_ := Aside0.mk (hbox); have n13_ := Aside0.mk (ng hg (hq5 HB GE227 GE228 GE241 GE245 GE249)); have n14_ := Aside0.mk (ng hg (hq5 HB GE227 GE228 GE241 GE245 GE249)); have n15_ := Aside0.mk (nl hg BK227); have n16_ := Aside0.mk (nr hg BK227); have n17_ := Aside0.mk (nl hg BK228); have n18_ := Aside0.mk (nr hg BK228); have n19_ := Aside0.mk (nl hg BK241); have n20_ := Aside0.mk (nr hg BK241); have n21_ := Aside0.mk (nl hg BK245); have n22_ := Aside0.mk (nr hg BK245); have n23_ := Aside0.mk (nl hg BK249); have n24_ := Aside0.mk (nr hg BK249); clear HO233; clear HO236; clear HO239; clear HO244; clear HO248; clear HO252; clear BK227; clear BK228; clear BK241; clear BK245; clear BK249; clear HB; have HO233 := n0_; have HO236 := n1_; have HO239 := n2_; have HO244 := n3_; have HO248 := n4_; have HO252 := n5_; have BK227 := n6_; have BK228 := n7_; have BK241 := n8_; have BK245 := n9_; have BK249 := n10_; have HB := n11_; have BK254 := n12_; have GW254 := n13_; have GE254 := n14_; have NB227_254 := n15_; have NB254_227 := n16_; have NB228_254 := n17_; have NB254_228 := n18_; have NB241_254 := n19_; have NB254_241 := n20_; have NB245_254 := n21_; have NB254_245 := n22_; have NB249_254 := n23_; have NB254_249 := n24_; clear n0_ n1_ n2_ n3_ n4_ n5_ n6_ n7_ n8_ n9_ n10_ n11_ n12_ n13_ n14_ n15_ n16_ n17_ n18_ n19_ n20_ n21_ n22_ n23_ n24_; clear hb hbox hg; obtain ⟨Ao67, co67, eo67⟩ := Kd.R_slice HO252.out; subst eo67; have hnb68 := NB254_227.out; have hnc68 := NB227_254.out; have hnb69 := NB254_228.out; have hnc69 := NB228_254.out; have hnb70 := NB254_241.out; have hnc70 := NB241_254.out; have hnb71 := NB254_245.out; have hnc71 := NB245_254.out; have hnb72 := NB254_249.out; have hnc72 := NB249_254.out; have hcz73_0 : w66.cell? ⟨gb254, 0, none⟩ = some (.slice none 0 0) := (blk_cell BK254.out 0).trans rfl; have hfz73_0 := blk_frozen BK254.out 0))
 (try simp only [Act.put, List.setIfInBounds_toArray, List.set_cons_zero, List.set_cons_succ])
 go_cut [53] (fun v53 wc => ∃ (kq : Nat) (x53_24 : Bool), v53 = .bool x53_24 ∧ Aside0 (laws_FnExactAddBig.j0 kq t240 t253 x53_24 l0_0 l1_0 t237 t242 t246 t250 = some true) ∧ Aside0 (kq ≤ k) ∧ Aside0 (Kd.R (Kd.int .i64) 3 wc w.heap.size (fun k_ => some k_ ≠ ((.slice Ao47 t242.length co47) : Value).ownBlock ∧ some k_ ≠ ((.slice Ao56 t246.length co56) : Value).ownBlock ∧ some k_ ≠ ((.slice Ao67 t250.length co67) : Value).ownBlock) (.slice Ao41 t237.length co41) t237) ∧ Aside0 (Kd.R (Kd.int .i64) 3 wc w.heap.size (fun k_ => some k_ ≠ ((.slice Ao41 t237.length co41) : Value).ownBlock ∧ some k_ ≠ ((.slice Ao56 t246.length co56) : Value).ownBlock ∧ some k_ ≠ ((.slice Ao67 t250.length co67) : Value).ownBlock) (.slice Ao47 t242.length co47) t242) ∧ Aside0 (Kd.R (Kd.int .i64) 3 wc w.heap.size (fun k_ => some k_ ≠ ((.slice Ao41 t237.length co41) : Value).ownBlock ∧ some k_ ≠ ((.slice Ao47 t242.length co47) : Value).ownBlock ∧ some k_ ≠ ((.slice Ao67 t250.length co67) : Value).ownBlock) (.slice Ao56 t246.length co56) t246) ∧ Aside0 (Kd.R (Kd.int .i64) 3 wc w.heap.size (fun k_ => some k_ ≠ ((.slice Ao41 t237.length co41) : Value).ownBlock ∧ some k_ ≠ ((.slice Ao47 t242.length co47) : Value).ownBlock ∧ some k_ ≠ ((.slice Ao56 t246.length co56) : Value).ownBlock) (.slice Ao67 t250.length co67) t250) ∧ Aside0 (wc.heap[gb227]? = some (.cells #[(.slice A0_0 l0_0.length c0_0)] 24 (0, 0))) ∧ Aside0 (wc.heap[gb228]? = some (.cells #[(.slice A1_0 l1_0.length c1_0)] 24 (0, 0))) ∧ Aside0 (wc.heap[gb241]? = some (.cells #[(.slice Ao41 t237.length co41)] 27 (0, 0))) ∧ Aside0 (wc.heap[gb245]? = some (.cells #[(.slice Ao47 t242.length co47)] 27 (0, 0))) ∧ Aside0 (wc.heap[gb249]? = some (.cells #[(.slice Ao56 t246.length co56)] 27 (0, 0))) ∧ Aside0 (wc.heap[gb254]? = some (.cells #[(.slice Ao67 t250.length co67)] 27 (0, 0))) ∧ Aside0 (Below w.heap.size w wc))
 case first =>
   have H := HC25.out
   clear HC25
   replace H := Option.bind_eq_some_iff.mp H
   obtain ⟨t255, A740, H⟩ := H
   replace H : (if t255 = true then (laws_FnExactAddBig.j0 k t240 t253 (t253 != t240) l0_0 l1_0 t237 t242 t246 t250) else (laws_FnExactAddBig.j0 k t240 t253 true l0_0 l1_0 t237 t242 t246 t250)) = some true := H
   have A74 := Aside0.mk A740
   clear A740
   by_cases c75 : t255 = true
   · subst c75
     have H1 : (laws_FnExactAddBig.j0 k t240 t253 (t253 != t240) l0_0 l1_0 t237 t242 t246 t250) = some true := by rw [if_pos rfl] at H; exact H
     clear H
     have H := H1
     clear H1
     have H' := Aside0.mk H
     clear H
     have hnb76 := NB254_227.out
     have hnc76 := NB227_254.out
     have hnb77 := NB254_228.out
     have hnc77 := NB228_254.out
     have hnb78 := NB254_241.out
     have hnc78 := NB241_254.out
     have hnb79 := NB254_245.out
     have hnc79 := NB245_254.out
     have hnb80 := NB254_249.out
     have hnc80 := NB249_254.out
     have hcz81_0 : w66.cell? ⟨gb254, 0, none⟩ = some (.slice none 0 0) := (blk_cell BK254.out 0).trans rfl
     have hfz81_0 := blk_frozen BK254.out 0
     have hnb82 := NB241_227.out
     have hnc82 := NB227_241.out
     have hnb83 := NB241_228.out
     have hnc83 := NB228_241.out
     have hnb84 := NB241_245.out
     have hnc84 := NB245_241.out
     have hnb85 := NB241_249.out
     have hnc85 := NB249_241.out
     have hcz86_0 : w66.cell? ⟨gb241, 0, none⟩ = some (.slice Ao41 t237.length co41) := (blk_cell BK241.out 0).trans rfl
     have hfz86_0 := blk_frozen BK241.out 0
     go_wp2_with (first | ((with_reducible refine gate_callee (f := 19) rfl ?_); refine goesL_ (some 47) rfl rfl Try.func19 (by kernel_rfl) rfl #[.agg #[.slice Ao67 t250.length co67], .agg #[.slice Ao41 t237.length co41]] rfl (by (try simp only [List.map_toArray, List.map_cons, List.map_nil]); first | done | rfl | (simp only [List.length_drop, List.length_take]; rfl)) ?_; (with_reducible refine (laws_eqBig.calls k _ _ t250 _ _ t237 true _ ?side1 ?side2 ?side3 ?side4 A74.out).mono ?_); (case side1 => refine (Kd.R_reads' (e := 3) (base := w.heap.size) (ok := fun k_ => (((((True ∧ some k_ ≠ (v232 : Value).ownBlock) ∧ some k_ ≠ (v235 : Value).ownBlock) ∧ some k_ ≠ (.slice Ao41 t237.length co41 : Value).ownBlock) ∧ some k_ ≠ (.slice Ao47 t242.length co47 : Value).ownBlock) ∧ some k_ ≠ (.slice Ao56 t246.length co56 : Value).ownBlock)) (n := t250.length) (c := co67) ?_).2.2; exact (by (with_reducible repeat (first | apply Kd.R_alloc | apply Kd.R_drewN | apply Kd.R_drew)); exact (Kd.R_mono (Kd.R_far (p := ⟨gb254, 0, none⟩) (Kd.R_types HO252.out BK254.out (by decide)) (fun _ hk => hk.2) (.slice Ao67 t250.length co67)) (fun _ h_ => h_.1)))); (case side2 => exact (Kd.R_reads' HO252.out).2.1); (case side3 => refine (Kd.R_reads' (e := 3) (base := w.heap.size) (ok := fun k_ => ((some k_ ≠ (v232 : Value).ownBlock ∧ (some k_ ≠ (v235 : Value).ownBlock ∧ (some k_ ≠ (.slice Ao47 t242.length co47 : Value).ownBlock ∧ some k_ ≠ (.slice Ao56 t246.length co56 : Value).ownBlock))) ∧ some k_ ≠ (.slice Ao67 t250.length co67 : Value).ownBlock)) (n := t237.length) (c := co41) ?_).2.2; exact (by (with_reducible repeat (first | apply Kd.R_alloc | apply Kd.R_drewN | apply Kd.R_drew)); exact (Kd.R_mono (Kd.R_far (p := ⟨gb254, 0, none⟩) (Kd.R_types HO239.out BK254.out (by decide)) (fun _ hk => hk.2) (.slice Ao67 t250.length co67)) (fun _ h_ => h_.1)))); (case side4 => exact (Kd.R_reads' HO239.out).2.1); rintro e w87 ⟨rfl, hb⟩; refine ⟨_, rfl, ?_⟩; have n0_ := Aside0.mk (Kd.R_below (by (with_reducible repeat (first | apply Kd.R_alloc | apply Kd.R_drewN | apply Kd.R_drew)); exact (Kd.R_mono (Kd.R_far (p := ⟨gb254, 0, none⟩) (Kd.R_types HO233.out BK254.out (by decide)) (fun _ hk => hk.2) (.slice Ao67 t250.length co67)) (fun _ h_ => h_.1))) hb); have n1_ := Aside0.mk (Kd.R_below (by (with_reducible repeat (first | apply Kd.R_alloc | apply Kd.R_drewN | apply Kd.R_drew)); exact (Kd.R_mono (Kd.R_far (p := ⟨gb254, 0, none⟩) (Kd.R_types HO236.out BK254.out (by decide)) (fun _ hk => hk.2) (.slice Ao67 t250.length co67)) (fun _ h_ => h_.1))) hb); have n2_ := Aside0.mk (Kd.R_below (by (with_reducible repeat (first | apply Kd.R_alloc | apply Kd.R_drewN | apply Kd.R_drew)); exact (Kd.R_mono (Kd.R_far (p := ⟨gb254, 0, none⟩) (Kd.R_types HO239.out BK254.out (by decide)) (fun _ hk => hk.2) (.slice Ao67 t250.length co67)) (fun _ h_ => h_.1))) hb); have n3_ := Aside0.mk (Kd.R_below (by (with_reducible repeat (first | apply Kd.R_alloc | apply Kd.R_drewN | apply Kd.R_drew)); exact (Kd.R_mono (Kd.R_far (p := ⟨gb254, 0, none⟩) (Kd.R_types HO244.out BK254.out (by decide)) (fun _ hk => hk.2) (.slice Ao67 t250.length co67)) (fun _ h_ => h_.1))) hb); have n4_ := Aside0.mk (Kd.R_below (by (with_reducible repeat (first | apply Kd.R_alloc | apply Kd.R_drewN | apply Kd.R_drew)); exact (Kd.R_mono (Kd.R_far (p := ⟨gb254, 0, none⟩) (Kd.R_types HO248.out BK254.out (by decide)) (fun _ hk => hk.2) (.slice Ao67 t250.length co67)) (fun _ h_ => h_.1))) hb); have n5_ := Aside0.mk (Kd.R_below (by (with_reducible repeat (first | apply Kd.R_alloc | apply Kd.R_drewN | apply Kd.R_drew)); exact (Kd.R_mono (Kd.R_far (p := ⟨gb254, 0, none⟩) (Kd.R_types HO252.out BK254.out (by decide)) (fun _ hk => hk.2) (.slice Ao67 t250.length co67)) (fun _ h_ => h_.1))) hb); have n6_ := Aside0.mk (blk_below (g := gb227) (o := .cells #[.slice A0_0 l0_0.length c0_0] 24 (0, 0)) (bf NB227_254 BK227) hb); have n7_ := Aside0.mk (blk_below (g := gb228) (o := .cells #[.slice A1_0 l1_0.length c1_0] 24 (0, 0)) (bf NB228_254 BK228) hb); have n8_ := Aside0.mk (blk_below (g := gb241) (o := .cells #[.slice Ao41 t237.length co41] 27 (0, 0)) (bf NB241_254 BK241) hb); have n9_ := Aside0.mk (blk_below (g := gb245) (o := .cells #[.slice Ao47 t242.length co47] 27 (0, 0)) (bf NB245_254 BK245) hb); have n10_ := Aside0.mk (blk_below (g := gb249) (o := .cells #[.slice Ao56 t246.length co56] 27 (0, 0)) (bf NB249_254 BK249) hb); have n11_ := Aside0.mk (blk_below (g := gb254) (o := .cells #[.slice Ao67 t250.length co67] 27 (0, 0)) (by (with_reducible repeat (first | refine blk_drewN ?_ _ | refine blk_drew ?_ | refine blk_alloc ?_ _)); refine blk_put (cs := #[.slice none 0 0]) ?_ 0 _ rfl; (with_reducible repeat (first | refine blk_drewN ?_ _ | refine blk_drew ?_ | refine blk_alloc ?_ _)); exact BK254.out) hb); have n12_ := Aside0.mk (below_step (hq6 HB GE227 GE228 GE241 GE245 GE249 GE254) hb); clear HO233; clear HO236; clear HO239; clear HO244; clear HO248; clear HO252; clear BK227; clear BK228; clear BK241; clear BK245; clear BK249; clear BK254; clear HB; have HO233 := n0_; have HO236 := n1_; have HO239 := n2_; have HO244 := n3_; have HO248 := n4_; have HO252 := n5_; have BK227 := n6_; have BK228 := n7_; have BK241 := n8_; have BK245 := n9_; have BK249 := n10_; have BK254 := n11_; have HB := n12_; clear n0_ n1_ n2_ n3_ n4_ n5_ n6_ n7_ n8_ n9_ n10_ n11_ n12_; (try clear hb); (try clear hb2); (try clear hk); (try clear hi)))
     go_meet
     case rel => exact ⟨_, ((t253 != t240)), (by first | rfl | (simp; done) | (simp [*]; done)), H', ⟨by first | omega | exact Nat.le_refl _⟩, ⟨by (with_reducible repeat (first | apply Kd.R_alloc | apply Kd.R_drewN | apply Kd.R_drew)); exact Kd.R_mono HO239.out (fun _ hk => ⟨hk.1.2.2.1, ⟨hk.1.2.2.2, hk.2⟩⟩)⟩, ⟨by (with_reducible repeat (first | apply Kd.R_alloc | apply Kd.R_drewN | apply Kd.R_drew)); exact Kd.R_mono HO244.out (fun _ hk => ⟨hk.1.2.2.1, ⟨hk.1.2.2.2, hk.2⟩⟩)⟩, ⟨by (with_reducible repeat (first | apply Kd.R_alloc | apply Kd.R_drewN | apply Kd.R_drew)); exact Kd.R_mono HO248.out (fun _ hk => ⟨hk.1.2.2.1, ⟨hk.1.2.2.2, hk.2⟩⟩)⟩, ⟨by (with_reducible repeat (first | apply Kd.R_alloc | apply Kd.R_drewN | apply Kd.R_drew)); exact Kd.R_mono HO252.out (fun _ hk => ⟨hk.1.1.2, ⟨hk.1.2, hk.2⟩⟩)⟩, ⟨by (with_reducible repeat (first | refine blk_drewN ?_ _ | refine blk_drew ?_ | refine blk_alloc ?_ _)); exact BK227.out⟩, ⟨by (with_reducible repeat (first | refine blk_drewN ?_ _ | refine blk_drew ?_ | refine blk_alloc ?_ _)); exact BK228.out⟩, ⟨by (with_reducible repeat (first | refine blk_drewN ?_ _ | refine blk_drew ?_ | refine blk_alloc ?_ _)); exact BK241.out⟩, ⟨by (with_reducible repeat (first | refine blk_drewN ?_ _ | refine blk_drew ?_ | refine blk_alloc ?_ _)); exact BK245.out⟩, ⟨by (with_reducible repeat (first | refine blk_drewN ?_ _ | refine blk_drew ?_ | refine blk_alloc ?_ _)); exact BK249.out⟩, ⟨by (with_reducible repeat (first | refine blk_drewN ?_ _ | refine blk_drew ?_ | refine blk_alloc ?_ _)); exact BK254.out⟩, ⟨hq6 HB GE227 GE228 GE241 GE245 GE249 GE254⟩⟩
   replace c75 := Bool.eq_false_iff.mpr c75
   subst c75
   have H1 : (laws_FnExactAddBig.j0 k t240 t253 true l0_0 l1_0 t237 t242 t246 t250) = some true := by rw [if_neg (show ¬ (false = true) by decide)] at H; exact H
   clear H
   have H := H1
   clear H1
   have H' := Aside0.mk H
   clear H
   have hnb88 := NB254_227.out
   have hnc88 := NB227_254.out
   have hnb89 := NB254_228.out
   have hnc89 := NB228_254.out
   have hnb90 := NB254_241.out
   have hnc90 := NB241_254.out
   have hnb91 := NB254_245.out
   have hnc91 := NB245_254.out
   have hnb92 := NB254_249.out
   have hnc92 := NB249_254.out
   have hcz93_0 : w66.cell? ⟨gb254, 0, none⟩ = some (.slice none 0 0) := (blk_cell BK254.out 0).trans rfl
   have hfz93_0 := blk_frozen BK254.out 0
   have hnb94 := NB241_227.out
   have hnc94 := NB227_241.out
   have hnb95 := NB241_228.out
   have hnc95 := NB228_241.out
   have hnb96 := NB241_245.out
   have hnc96 := NB245_241.out
   have hnb97 := NB241_249.out
   have hnc97 := NB249_241.out
   have hcz98_0 : w66.cell? ⟨gb241, 0, none⟩ = some (.slice Ao41 t237.length co41) := (blk_cell BK241.out 0).trans rfl
   have hfz98_0 := blk_frozen BK241.out 0
   go_wp2_with (first | ((with_reducible refine gate_callee (f := 19) rfl ?_); refine goesL_ (some 47) rfl rfl Try.func19 (by kernel_rfl) rfl #[.agg #[.slice Ao67 t250.length co67], .agg #[.slice Ao41 t237.length co41]] rfl (by (try simp only [List.map_toArray, List.map_cons, List.map_nil]); first | done | rfl | (simp only [List.length_drop, List.length_take]; rfl)) ?_; (with_reducible refine (laws_eqBig.calls k _ _ t250 _ _ t237 false _ ?side1 ?side2 ?side3 ?side4 A74.out).mono ?_); (case side1 => refine (Kd.R_reads' (e := 3) (base := w.heap.size) (ok := fun k_ => (((((True ∧ some k_ ≠ (v232 : Value).ownBlock) ∧ some k_ ≠ (v235 : Value).ownBlock) ∧ some k_ ≠ (.slice Ao41 t237.length co41 : Value).ownBlock) ∧ some k_ ≠ (.slice Ao47 t242.length co47 : Value).ownBlock) ∧ some k_ ≠ (.slice Ao56 t246.length co56 : Value).ownBlock)) (n := t250.length) (c := co67) ?_).2.2; exact (by (with_reducible repeat (first | apply Kd.R_alloc | apply Kd.R_drewN | apply Kd.R_drew)); exact (Kd.R_mono (Kd.R_far (p := ⟨gb254, 0, none⟩) (Kd.R_types HO252.out BK254.out (by decide)) (fun _ hk => hk.2) (.slice Ao67 t250.length co67)) (fun _ h_ => h_.1)))); (case side2 => exact (Kd.R_reads' HO252.out).2.1); (case side3 => refine (Kd.R_reads' (e := 3) (base := w.heap.size) (ok := fun k_ => ((some k_ ≠ (v232 : Value).ownBlock ∧ (some k_ ≠ (v235 : Value).ownBlock ∧ (some k_ ≠ (.slice Ao47 t242.length co47 : Value).ownBlock ∧ some k_ ≠ (.slice Ao56 t246.length co56 : Value).ownBlock))) ∧ some k_ ≠ (.slice Ao67 t250.length co67 : Value).ownBlock)) (n := t237.length) (c := co41) ?_).2.2; exact (by (with_reducible repeat (first | apply Kd.R_alloc | apply Kd.R_drewN | apply Kd.R_drew)); exact (Kd.R_mono (Kd.R_far (p := ⟨gb254, 0, none⟩) (Kd.R_types HO239.out BK254.out (by decide)) (fun _ hk => hk.2) (.slice Ao67 t250.length co67)) (fun _ h_ => h_.1)))); (case side4 => exact (Kd.R_reads' HO239.out).2.1); rintro e w99 ⟨rfl, hb⟩; refine ⟨_, rfl, ?_⟩; have n0_ := Aside0.mk (Kd.R_below (by (with_reducible repeat (first | apply Kd.R_alloc | apply Kd.R_drewN | apply Kd.R_drew)); exact (Kd.R_mono (Kd.R_far (p := ⟨gb254, 0, none⟩) (Kd.R_types HO233.out BK254.out (by decide)) (fun _ hk => hk.2) (.slice Ao67 t250.length co67)) (fun _ h_ => h_.1))) hb); have n1_ := Aside0.mk (Kd.R_below (by (with_reducible repeat (first | apply Kd.R_alloc | apply Kd.R_drewN | apply Kd.R_drew)); exact (Kd.R_mono (Kd.R_far (p := ⟨gb254, 0, none⟩) (Kd.R_types HO236.out BK254.out (by decide)) (fun _ hk => hk.2) (.slice Ao67 t250.length co67)) (fun _ h_ => h_.1))) hb); have n2_ := Aside0.mk (Kd.R_below (by (with_reducible repeat (first | apply Kd.R_alloc | apply Kd.R_drewN | apply Kd.R_drew)); exact (Kd.R_mono (Kd.R_far (p := ⟨gb254, 0, none⟩) (Kd.R_types HO239.out BK254.out (by decide)) (fun _ hk => hk.2) (.slice Ao67 t250.length co67)) (fun _ h_ => h_.1))) hb); have n3_ := Aside0.mk (Kd.R_below (by (with_reducible repeat (first | apply Kd.R_alloc | apply Kd.R_drewN | apply Kd.R_drew)); exact (Kd.R_mono (Kd.R_far (p := ⟨gb254, 0, none⟩) (Kd.R_types HO244.out BK254.out (by decide)) (fun _ hk => hk.2) (.slice Ao67 t250.length co67)) (fun _ h_ => h_.1))) hb); have n4_ := Aside0.mk (Kd.R_below (by (with_reducible repeat (first | apply Kd.R_alloc | apply Kd.R_drewN | apply Kd.R_drew)); exact (Kd.R_mono (Kd.R_far (p := ⟨gb254, 0, none⟩) (Kd.R_types HO248.out BK254.out (by decide)) (fun _ hk => hk.2) (.slice Ao67 t250.length co67)) (fun _ h_ => h_.1))) hb); have n5_ := Aside0.mk (Kd.R_below (by (with_reducible repeat (first | apply Kd.R_alloc | apply Kd.R_drewN | apply Kd.R_drew)); exact (Kd.R_mono (Kd.R_far (p := ⟨gb254, 0, none⟩) (Kd.R_types HO252.out BK254.out (by decide)) (fun _ hk => hk.2) (.slice Ao67 t250.length co67)) (fun _ h_ => h_.1))) hb); have n6_ := Aside0.mk (blk_below (g := gb227) (o := .cells #[.slice A0_0 l0_0.length c0_0] 24 (0, 0)) (bf NB227_254 BK227) hb); have n7_ := Aside0.mk (blk_below (g := gb228) (o := .cells #[.slice A1_0 l1_0.length c1_0] 24 (0, 0)) (bf NB228_254 BK228) hb); have n8_ := Aside0.mk (blk_below (g := gb241) (o := .cells #[.slice Ao41 t237.length co41] 27 (0, 0)) (bf NB241_254 BK241) hb); have n9_ := Aside0.mk (blk_below (g := gb245) (o := .cells #[.slice Ao47 t242.length co47] 27 (0, 0)) (bf NB245_254 BK245) hb); have n10_ := Aside0.mk (blk_below (g := gb249) (o := .cells #[.slice Ao56 t246.length co56] 27 (0, 0)) (bf NB249_254 BK249) hb); have n11_ := Aside0.mk (blk_below (g := gb254) (o := .cells #[.slice Ao67 t250.length co67] 27 (0, 0)) (by (with_reducible repeat (first | refine blk_drewN ?_ _ | refine blk_drew ?_ | refine blk_alloc ?_ _)); refine blk_put (cs := #[.slice none 0 0]) ?_ 0 _ rfl; (with_reducible repeat (first | refine blk_drewN ?_ _ | refine blk_drew ?_ | refine blk_alloc ?_ _)); exact BK254.out) hb); have n12_ := Aside0.mk (below_step (hq6 HB GE227 GE228 GE241 GE245 GE249 GE254) hb); clear HO233; clear HO236; clear HO239; clear HO244; clear HO248; clear HO252; clear BK227; clear BK228; clear BK241; clear BK245; clear BK249; clear BK254; clear HB; have HO233 := n0_; have HO236 := n1_; have HO239 := n2_; have HO244 := n3_; have HO248 := n4_; have HO252 := n5_; have BK227 := n6_; have BK228 := n7_; have BK241 := n8_; have BK245 := n9_; have BK249 := n10_; have BK254 := n11_; have HB := n12_; clear n0_ n1_ n2_ n3_ n4_ n5_ n6_ n7_ n8_ n9_ n10_ n11_ n12_; (try clear hb); (try clear hb2); (try clear hk); (try clear hi)))
   go_meet
   case rel => exact ⟨_, (true), (by first | rfl | (simp; done) | (simp [*]; done)), H', ⟨by first | omega | exact Nat.le_refl _⟩, ⟨by (with_reducible repeat (first | apply Kd.R_alloc | apply Kd.R_drewN | apply Kd.R_drew)); exact Kd.R_mono HO239.out (fun _ hk => ⟨hk.1.2.2.1, ⟨hk.1.2.2.2, hk.2⟩⟩)⟩, ⟨by (with_reducible repeat (first | apply Kd.R_alloc | apply Kd.R_drewN | apply Kd.R_drew)); exact Kd.R_mono HO244.out (fun _ hk => ⟨hk.1.2.2.1, ⟨hk.1.2.2.2, hk.2⟩⟩)⟩, ⟨by (with_reducible repeat (first | apply Kd.R_alloc | apply Kd.R_drewN | apply Kd.R_drew)); exact Kd.R_mono HO248.out (fun _ hk => ⟨hk.1.2.2.1, ⟨hk.1.2.2.2, hk.2⟩⟩)⟩, ⟨by (with_reducible repeat (first | apply Kd.R_alloc | apply Kd.R_drewN | apply Kd.R_drew)); exact Kd.R_mono HO252.out (fun _ hk => ⟨hk.1.1.2, ⟨hk.1.2, hk.2⟩⟩)⟩, ⟨by (with_reducible repeat (first | refine blk_drewN ?_ _ | refine blk_drew ?_ | refine blk_alloc ?_ _)); exact BK227.out⟩, ⟨by (with_reducible repeat (first | refine blk_drewN ?_ _ | refine blk_drew ?_ | refine blk_alloc ?_ _)); exact BK228.out⟩, ⟨by (with_reducible repeat (first | refine blk_drewN ?_ _ | refine blk_drew ?_ | refine blk_alloc ?_ _)); exact BK241.out⟩, ⟨by (with_reducible repeat (first | refine blk_drewN ?_ _ | refine blk_drew ?_ | refine blk_alloc ?_ _)); exact BK245.out⟩, ⟨by (with_reducible repeat (first | refine blk_drewN ?_ _ | refine blk_drew ?_ | refine blk_alloc ?_ _)); exact BK249.out⟩, ⟨by (with_reducible repeat (first | refine blk_drewN ?_ _ | refine blk_drew ?_ | refine blk_alloc ?_ _)); exact BK254.out⟩, ⟨hq6 HB GE227 GE228 GE241 GE245 GE249 GE254⟩⟩
 clear HC25
 try clear c1
 try clear c2
 try clear p2
 try clear c4
 try clear c5
 try clear c6
 try clear c7
 try clear c8
 try clear c9
 try clear c17
 try clear c19
 try clear c24
 try clear c25
 try clear c43
 try clear c48
 try clear c49
 try clear c50
 try clear c52
 try clear c57
 try clear c58
 try clear c59
 try clear c60
 try clear c68
 try clear c69
 try clear c70
 try clear c71
 try clear c72
 try clear c75
 try clear c76
 try clear c77
 try clear c78
 try clear c79
 try clear c80
 try clear c82
 try clear c83
 try clear c84
 try clear c85
 try clear c88
 try clear c89
 try clear c90
 try clear c91
 try clear c92
 try clear c94
 try clear c95
 try clear c96
 try clear c97
 try clear hcz44_0
 try clear hcz51_0
 try clear hcz53_0
 try clear hcz61_0
 try clear hcz63_0
 try clear hcz64_0
 try clear hcz73_0
 try clear hcz81_0
 try clear hcz86_0
 try clear hcz93_0
 try clear hcz98_0
 try clear hfz44_0
 try clear hfz51_0
 try clear hfz53_0
 try clear hfz61_0
 try clear hfz63_0
 try clear hfz64_0
 try clear hfz73_0
 try clear hfz81_0
 try clear hfz86_0
 try clear hfz93_0
 try clear hfz98_0
 obtain ⟨kq, x53_24, rfl, HA, HJ24, HO_242000, HO_246000, HO_250000, HO_255000, BK227, BK228, BK241, BK245, BK249, BK254, HB⟩ := hcut
 obtain _ | kj24 := kq
 · exact absurd HA.out (by simp [laws_FnExactAddBig.j0])
 have H := HA.out
 clear HA
 simp only [laws_FnExactAddBig.j0] at H
 by_cases c100 : x53_24 = true
 · subst c100
   have H1 : (some false) = some true := by rw [if_pos rfl] at H; exact H
   clear H
   have H := H1
   clear H1
   cases H
 replace c100 := Bool.eq_false_iff.mpr c100
 subst c100
 have H1 : ((laws_toBig.f kj24 l0_0).bind fun t256 => ((laws_eqBig.f kj24 t242 t256).bind fun t259 => (if t259 = true then ((laws_toBig.f kj24 l1_0).bind fun t260 => ((laws_eqBig.f kj24 t246 t260).bind fun t263 => (if t263 = true then ((laws_markBig.f kj24 t242 1).bind fun bt264 => ((laws_markBig.f kj24 t246 bt264.1).bind fun bt266 => (if bt266.1 < 0 then (laws_FnExactAddBig.j1 kj24 t240 true l0_0 l1_0 t237 t250) else ((laws_eqBig.f kj24 t250 t237).bind fun t268 => (if t268 = true then (laws_FnExactAddBig.j1 kj24 t240 (t253 != t240) l0_0 l1_0 t237 t250) else (laws_FnExactAddBig.j1 kj24 t240 true l0_0 l1_0 t237 t250)))))) else (some false)))) else (some false)))) = some true := by rw [if_neg (show ¬ (false = true) by decide)] at H; exact H
 clear H
 have H := H1
 clear H1
 replace H := Option.bind_eq_some_iff.mp H
 obtain ⟨t256, A1010, H⟩ := H
 replace H : ((laws_eqBig.f kj24 t242 t256).bind fun t259 => (if t259 = true then ((laws_toBig.f kj24 l1_0).bind fun t260 => ((laws_eqBig.f kj24 t246 t260).bind fun t263 => (if t263 = true then ((laws_markBig.f kj24 t242 1).bind fun bt264 => ((laws_markBig.f kj24 t246 bt264.1).bind fun bt266 => (if bt266.1 < 0 then (laws_FnExactAddBig.j1 kj24 t240 true l0_0 l1_0 t237 t250) else ((laws_eqBig.f kj24 t250 t237).bind fun t268 => (if t268 = true then (laws_FnExactAddBig.j1 kj24 t240 (t253 != t240) l0_0 l1_0 t237 t250) else (laws_FnExactAddBig.j1 kj24 t240 true l0_0 l1_0 t237 t250)))))) else (some false)))) else (some false))) = some true := H
 have A101 := Aside0.mk A1010
 clear A1010
 replace H := Option.bind_eq_some_iff.mp H
 obtain ⟨t259, A1020, H⟩ := H
 replace H : (if t259 = true then ((laws_toBig.f kj24 l1_0).bind fun t260 => ((laws_eqBig.f kj24 t246 t260).bind fun t263 => (if t263 = true then ((laws_markBig.f kj24 t242 1).bind fun bt264 => ((laws_markBig.f kj24 t246 bt264.1).bind fun bt266 => (if bt266.1 < 0 then (laws_FnExactAddBig.j1 kj24 t240 true l0_0 l1_0 t237 t250) else ((laws_eqBig.f kj24 t250 t237).bind fun t268 => (if t268 = true then (laws_FnExactAddBig.j1 kj24 t240 (t253 != t240) l0_0 l1_0 t237 t250) else (laws_FnExactAddBig.j1 kj24 t240 true l0_0 l1_0 t237 t250)))))) else (some false)))) else (some false)) = some true := H
 have A102 := Aside0.mk A1020
 clear A1020
 by_cases c103 : t259 = true
 rotate_left
 · replace c103 := Bool.eq_false_iff.mpr c103
   subst c103
   have H1 : (some false) = some true := by rw [if_neg (show ¬ (false = true) by decide)] at H; exact H
   clear H
   have H := H1
   clear H1
   cases H
 subst c103
 have H1 : ((laws_toBig.f kj24 l1_0).bind fun t260 => ((laws_eqBig.f kj24 t246 t260).bind fun t263 => (if t263 = true then ((laws_markBig.f kj24 t242 1).bind fun bt264 => ((laws_markBig.f kj24 t246 bt264.1).bind fun bt266 => (if bt266.1 < 0 then (laws_FnExactAddBig.j1 kj24 t240 true l0_0 l1_0 t237 t250) else ((laws_eqBig.f kj24 t250 t237).bind fun t268 => (if t268 = true then (laws_FnExactAddBig.j1 kj24 t240 (t253 != t240) l0_0 l1_0 t237 t250) else (laws_FnExactAddBig.j1 kj24 t240 true l0_0 l1_0 t237 t250)))))) else (some false)))) = some true := by rw [if_pos rfl] at H; exact H
 clear H
 have H := H1
 clear H1
 replace H := Option.bind_eq_some_iff.mp H
 obtain ⟨t260, A1040, H⟩ := H
 replace H : ((laws_eqBig.f kj24 t246 t260).bind fun t263 => (if t263 = true then ((laws_markBig.f kj24 t242 1).bind fun bt264 => ((laws_markBig.f kj24 t246 bt264.1).bind fun bt266 => (if bt266.1 < 0 then (laws_FnExactAddBig.j1 kj24 t240 true l0_0 l1_0 t237 t250) else ((laws_eqBig.f kj24 t250 t237).bind fun t268 => (if t268 = true then (laws_FnExactAddBig.j1 kj24 t240 (t253 != t240) l0_0 l1_0 t237 t250) else (laws_FnExactAddBig.j1 kj24 t240 true l0_0 l1_0 t237 t250)))))) else (some false))) = some true := H
 have A104 := Aside0.mk A1040
 clear A1040
 replace H := Option.bind_eq_some_iff.mp H
 obtain ⟨t263, A1050, H⟩ := H
 replace H : (if t263 = true then ((laws_markBig.f kj24 t242 1).bind fun bt264 => ((laws_markBig.f kj24 t246 bt264.1).bind fun bt266 => (if bt266.1 < 0 then (laws_FnExactAddBig.j1 kj24 t240 true l0_0 l1_0 t237 t250) else ((laws_eqBig.f kj24 t250 t237).bind fun t268 => (if t268 = true then (laws_FnExactAddBig.j1 kj24 t240 (t253 != t240) l0_0 l1_0 t237 t250) else (laws_FnExactAddBig.j1 kj24 t240 true l0_0 l1_0 t237 t250)))))) else (some false)) = some true := H
 have A105 := Aside0.mk A1050
 clear A1050
 by_cases c106 : t263 = true
 rotate_left
 · replace c106 := Bool.eq_false_iff.mpr c106
   subst c106
   have H1 : (some false) = some true := by rw [if_neg (show ¬ (false = true) by decide)] at H; exact H
   clear H
   have H := H1
   clear H1
   cases H
 subst c106
 have H1 : ((laws_markBig.f kj24 t242 1).bind fun bt264 => ((laws_markBig.f kj24 t246 bt264.1).bind fun bt266 => (if bt266.1 < 0 then (laws_FnExactAddBig.j1 kj24 t240 true l0_0 l1_0 t237 t250) else ((laws_eqBig.f kj24 t250 t237).bind fun t268 => (if t268 = true then (laws_FnExactAddBig.j1 kj24 t240 (t253 != t240) l0_0 l1_0 t237 t250) else (laws_FnExactAddBig.j1 kj24 t240 true l0_0 l1_0 t237 t250)))))) = some true := by rw [if_pos rfl] at H; exact H
 clear H
 have H := H1
 clear H1
 replace H := Option.bind_eq_some_iff.mp H
 obtain ⟨⟨t264, t265⟩, A1070, H⟩ := H
 replace H : ((laws_markBig.f kj24 t246 t264).bind fun bt266 => (if bt266.1 < 0 then (laws_FnExactAddBig.j1 kj24 t240 true l0_0 l1_0 t237 t250) else ((laws_eqBig.f kj24 t250 t237).bind fun t268 => (if t268 = true then (laws_FnExactAddBig.j1 kj24 t240 (t253 != t240) l0_0 l1_0 t237 t250) else (laws_FnExactAddBig.j1 kj24 t240 true l0_0 l1_0 t237 t250))))) = some true := H
 have A107 := Aside0.mk A1070
 clear A1070
 replace H := Option.bind_eq_some_iff.mp H
 obtain ⟨⟨t266, t267⟩, A1080, H⟩ := H
 replace H : (if t266 < 0 then (laws_FnExactAddBig.j1 kj24 t240 true l0_0 l1_0 t237 t250) else ((laws_eqBig.f kj24 t250 t237).bind fun t268 => (if t268 = true then (laws_FnExactAddBig.j1 kj24 t240 (t253 != t240) l0_0 l1_0 t237 t250) else (laws_FnExactAddBig.j1 kj24 t240 true l0_0 l1_0 t237 t250)))) = some true := H
 have A108 := Aside0.mk A1080
 clear A1080
 have HC109 := Aside0.mk H
 clear H
 try go_wp2
 have n0_ := Aside0.mk (Kd.R_drew HO_242000.out)
 have n1_ := Aside0.mk (Kd.R_drew HO_246000.out)
 have n2_ := Aside0.mk (Kd.R_drew HO_250000.out)
 have n3_ := Aside0.mk (Kd.R_drew HO_255000.out)
 have n4_ := Aside0.mk (blk_drew BK227.out)
 have n5_ := Aside0.mk (blk_drew BK228.out)
 have n6_ := Aside0.mk (blk_drew BK241.out)
 have n7_ := Aside0.mk (blk_drew BK245.out)
 have n8_ := Aside0.mk (blk_drew BK249.out)
 have n9_ := Aside0.mk (blk_drew BK254.out)
 have n10_ := Aside0.mk (below_drew1 HB.out)
 clear HO_242000
 clear HO_246000
 clear HO_250000
 clear HO_255000
 clear BK227
 clear BK228
 clear BK241
 clear BK245
 clear BK249
 clear BK254
 clear HB
 have HO_242000 := n0_
 have HO_246000 := n1_
 have HO_250000 := n2_
 have HO_255000 := n3_
 have BK227 := n4_
 have BK228 := n5_
 have BK241 := n6_
 have BK245 := n7_
 have BK249 := n8_
 have BK254 := n9_
 have HB := n10_
 clear n0_ n1_ n2_ n3_ n4_ n5_ n6_ n7_ n8_ n9_ n10_
 refine start_ (n := 5) (S := fun w' => w'.cell? ⟨gb245, 0, none⟩ = some (.slice Ao47 t242.length co47) ∧ w'.cell? ⟨gb227, 0, none⟩ = some (.slice A0_0 l0_0.length c0_0)) (ds := []) #[false, false, false, false, false] (by kernel_rfl) rfl rfl ⟨(blk_cell BK245.out 0).trans rfl, (blk_cell BK227.out 0).trans rfl⟩ (fun hHeld => ?_)
 generalize wc.drew = w110 at HO_242000 HO_246000 HO_250000 HO_255000 BK227 BK228 BK241 BK245 BK249 BK254 HB hHeld ⊢
 refine take_ (i := 0) (N := some 54) (v := ?_) (a' := ?_) #[true, false, false, false, false] rfl rfl (by kernel_rfl) (fun _ _ _ h => h) (Or.inl ⟨by rfl, ?_⟩) hHeld ?_ ?_
 rotate_left
 · rintro w' ⟨s0, s1⟩
   go_simp
   with_reducible rfl
 rotate_left
 · simp only [Act.put, List.setIfInBounds_toArray, List.set_cons_zero, List.set_cons_succ, i64_w, i32_w]
   rfl
 refine take_ (i := 1) (N := some 55) (v := ?_) (a' := ?_) #[true, true, false, false, false] rfl rfl (by kernel_rfl) (fun _ _ _ h => h) (Or.inl ⟨by rfl, ?_⟩) hHeld ?_ ?_
 rotate_left
 · rintro w' ⟨s0, s1⟩
   go_simp
   with_reducible rfl
 rotate_left
 · simp only [Act.put, List.setIfInBounds_toArray, List.set_cons_zero, List.set_cons_succ, i64_w, i32_w]
   rfl
 refine one_ (i := 2) (N := some 56) #[true, true, true, false, false] rfl rfl (by kernel_rfl) (by decide) (fun K hK => ?_)
 refine goes_ Try.func17 (by kernel_rfl) rfl #[.agg #[.slice A0_0 l0_0.length c0_0]] (by rfl) rfl rfl (by (try simp only [List.map_toArray, List.map_cons, List.map_nil]); first | done | rfl | (simp only [List.length_drop, List.length_take]; rfl)) ?_
 with_reducible refine (laws_toBig.calls kj24 _ _ l0_0 t256 _ ?side1 ?side2 A101.out).mono ?_
 (case side1 => repeat (first | exact (Kd.C_below HR0_0.out HB.out) | (with_reducible refine Kd.C_alloc ?_ _) | (with_reducible refine Kd.C_drewN ?_ _) | (with_reducible refine Kd.C_drew ?_)))
 (case side2 => exact HC0_0.out)
 rintro e w111 ⟨v257, rfl, ho0, hb⟩
 refine ⟨_, rfl, ?_⟩
 have n0_ := Aside0.mk (qe HO_242000 ho0 hb)
 have n1_ := Aside0.mk (qe HO_246000 ho0 hb)
 have n2_ := Aside0.mk (qe HO_250000 ho0 hb)
 have n3_ := Aside0.mk (qe HO_255000 ho0 hb)
 have n4_ := Aside0.mk (Kd.R_lower (Kd.R_new' (Kd.R_new' (Kd.R_new' (Kd.R_new' ho0 (ql HO_242000)) (ql HO_246000)) (ql HO_250000)) (ql HO_255000)) (below_size (hq6 HB GE227 GE228 GE241 GE245 GE249 GE254)))
 have n5_ := Aside0.mk (bB BK227 hb)
 have n6_ := Aside0.mk (bB BK228 hb)
 have n7_ := Aside0.mk (bB BK241 hb)
 have n8_ := Aside0.mk (bB BK245 hb)
 have n9_ := Aside0.mk (bB BK249 hb)
 have n10_ := Aside0.mk (bB BK254 hb)
 have n11_ := Aside0.mk (below_step (hq6 HB GE227 GE228 GE241 GE245 GE249 GE254) hb)
 clear HO_242000
 clear HO_246000
 clear HO_250000
 clear HO_255000
 clear BK227
 clear BK228
 clear BK241
 clear BK245
 clear BK249
 clear BK254
 clear HB
 have HO_242000 := n0_
 have HO_246000 := n1_
 have HO_250000 := n2_
 have HO_255000 := n3_
 have HO258 := n4_
 have BK227 := n5_
 have BK228 := n6_
 have BK241 := n7_
 have BK245 := n8_
 have BK249 := n9_
 have BK254 := n10_
 have HB := n11_
 clear n0_ n1_ n2_ n3_ n4_ n5_ n6_ n7_ n8_ n9_ n10_ n11_
 (try clear hb)
 (try clear hb2)
 (try clear hk)
 (try clear hi)
 (try clear ho0)
 obtain ⟨Ao112, co112, eo112⟩ := Kd.R_slice HO258.out
 (first | subst eo112 | (injection eo112 with f1_ f2_ f3_; have f4_ := f1_.symm; have f5_ := f3_.symm; clear f1_ f2_ f3_; subst f4_; subst f5_))
 refine hK.out _ _ ⟨(blk_cell BK245.out 0).trans rfl, (blk_cell BK227.out 0).trans rfl⟩ (fun hHeld => ?_)
 clear hK K
 refine norm_ (a' := ?_) ?_ ?_
 rotate_left
 · show Act.put _ (some 56) _ = _
   simp only [Act.put, List.setIfInBounds_toArray, List.set_cons_zero, List.set_cons_succ, i64_w, i32_w]
   rfl
 refine one_ (i := 3) (N := some 57) #[true, true, true, true, false] rfl rfl (by kernel_rfl) (by decide) (fun K hK => ?_)
 refine goes_ Try.func19 (by kernel_rfl) rfl #[.agg #[.slice Ao47 t242.length co47], .agg #[.slice Ao112 t256.length co112]] (by rfl) rfl rfl (by (try simp only [List.map_toArray, List.map_cons, List.map_nil]); first | done | rfl | (simp only [List.length_drop, List.length_take]; rfl)) ?_
 with_reducible refine (laws_eqBig.calls kj24 _ _ t242 _ _ t256 true _ ?side1 ?side2 ?side3 ?side4 A102.out).mono ?_
 (case side1 => repeat (first | exact (Kd.R_reads' HO_246000.out).2.2 | (with_reducible refine Kd.C_alloc ?_ _) | (with_reducible refine Kd.C_drewN ?_ _) | (with_reducible refine Kd.C_drew ?_)))
 (case side2 => exact (Kd.R_reads' HO_246000.out).2.1)
 (case side3 => repeat (first | exact (Kd.R_reads' HO258.out).2.2 | (with_reducible refine Kd.C_alloc ?_ _) | (with_reducible refine Kd.C_drewN ?_ _) | (with_reducible refine Kd.C_drew ?_)))
 (case side4 => exact (Kd.R_reads' HO258.out).2.1)
 rintro e w113 ⟨rfl, hb⟩
 refine ⟨_, rfl, ?_⟩
 have n0_ := Aside0.mk (qb HO_242000 hb)
 have n1_ := Aside0.mk (qb HO_246000 hb)
 have n2_ := Aside0.mk (qb HO_250000 hb)
 have n3_ := Aside0.mk (qb HO_255000 hb)
 have n4_ := Aside0.mk (qb HO258 hb)
 have n5_ := Aside0.mk (bB BK227 hb)
 have n6_ := Aside0.mk (bB BK228 hb)
 have n7_ := Aside0.mk (bB BK241 hb)
 have n8_ := Aside0.mk (bB BK245 hb)
 have n9_ := Aside0.mk (bB BK249 hb)
 have n10_ := Aside0.mk (bB BK254 hb)
 have n11_ := Aside0.mk (below_step (hq6 HB GE227 GE228 GE241 GE245 GE249 GE254) hb)
 clear HO_242000
 clear HO_246000
 clear HO_250000
 clear HO_255000
 clear HO258
 clear BK227
 clear BK228
 clear BK241
 clear BK245
 clear BK249
 clear BK254
 clear HB
 have HO_242000 := n0_
 have HO_246000 := n1_
 have HO_250000 := n2_
 have HO_255000 := n3_
 have HO258 := n4_
 have BK227 := n5_
 have BK228 := n6_
 have BK241 := n7_
 have BK245 := n8_
 have BK249 := n9_
 have BK254 := n10_
 have HB := n11_
 clear n0_ n1_ n2_ n3_ n4_ n5_ n6_ n7_ n8_ n9_ n10_ n11_
 (try clear hb)
 (try clear hb2)
 (try clear hk)
 (try clear hi)
 refine hK.out _ _ ⟨(blk_cell BK245.out 0).trans rfl, (blk_cell BK227.out 0).trans rfl⟩ (fun hHeld => ?_)
 clear hK K
 refine norm_ (a' := ?_) ?_ ?_
 rotate_left
 · show Act.put _ (some 57) _ = _
   simp only [Act.put, List.setIfInBounds_toArray, List.set_cons_zero, List.set_cons_succ, i64_w, i32_w]
   rfl
 refine pure_ (i := 4) (N := some 58) (v := ?_) (a' := ?_) #[true, true, true, true, true] rfl rfl (by kernel_rfl) (fun _ _ _ h => h) (Or.inl ⟨by rfl, ?_⟩) ?_ ?_
 rotate_left
 · intro w'
   first | (go_simp; with_reducible rfl) | (go_simp; unfold Instr.field; go_simp; rfl)
 rotate_left
 · simp only [Act.put, List.setIfInBounds_toArray, List.set_cons_zero, List.set_cons_succ, i64_w, i32_w]
   rfl
 refine done_ (by kernel_rfl) ?_
 try go_wp2
 have n0_ := Aside0.mk (Kd.R_drew HO_242000.out)
 have n1_ := Aside0.mk (Kd.R_drew HO_246000.out)
 have n2_ := Aside0.mk (Kd.R_drew HO_250000.out)
 have n3_ := Aside0.mk (Kd.R_drew HO_255000.out)
 have n4_ := Aside0.mk (Kd.R_drew HO258.out)
 have n5_ := Aside0.mk (blk_drew BK227.out)
 have n6_ := Aside0.mk (blk_drew BK228.out)
 have n7_ := Aside0.mk (blk_drew BK241.out)
 have n8_ := Aside0.mk (blk_drew BK245.out)
 have n9_ := Aside0.mk (blk_drew BK249.out)
 have n10_ := Aside0.mk (blk_drew BK254.out)
 have n11_ := Aside0.mk (below_drew1 HB.out)
 clear HO_242000
 clear HO_246000
 clear HO_250000
 clear HO_255000
 clear HO258
 clear BK227
 clear BK228
 clear BK241
 clear BK245
 clear BK249
 clear BK254
 clear HB
 have HO_242000 := n0_
 have HO_246000 := n1_
 have HO_250000 := n2_
 have HO_255000 := n3_
 have HO258 := n4_
 have BK227 := n5_
 have BK228 := n6_
 have BK241 := n7_
 have BK245 := n8_
 have BK249 := n9_
 have BK254 := n10_
 have HB := n11_
 clear n0_ n1_ n2_ n3_ n4_ n5_ n6_ n7_ n8_ n9_ n10_ n11_
 refine start_ (n := 5) (S := fun w' => w'.cell? ⟨gb249, 0, none⟩ = some (.slice Ao56 t246.length co56) ∧ w'.cell? ⟨gb228, 0, none⟩ = some (.slice A1_0 l1_0.length c1_0)) (ds := []) #[false, false, false, false, false] (by kernel_rfl) rfl rfl ⟨(blk_cell BK249.out 0).trans rfl, (blk_cell BK228.out 0).trans rfl⟩ (fun hHeld => ?_)
 generalize w113.drew = w114 at HO_242000 HO_246000 HO_250000 HO_255000 HO258 BK227 BK228 BK241 BK245 BK249 BK254 HB hHeld ⊢
 refine take_ (i := 0) (N := some 59) (v := ?_) (a' := ?_) #[true, false, false, false, false] rfl rfl (by kernel_rfl) (fun _ _ _ h => h) (Or.inl ⟨by rfl, ?_⟩) hHeld ?_ ?_
 rotate_left
 · rintro w' ⟨s0, s1⟩
   go_simp
   with_reducible rfl
 rotate_left
 · simp only [Act.put, List.setIfInBounds_toArray, List.set_cons_zero, List.set_cons_succ, i64_w, i32_w]
   rfl
 refine take_ (i := 1) (N := some 60) (v := ?_) (a' := ?_) #[true, true, false, false, false] rfl rfl (by kernel_rfl) (fun _ _ _ h => h) (Or.inl ⟨by rfl, ?_⟩) hHeld ?_ ?_
 rotate_left
 · rintro w' ⟨s0, s1⟩
   go_simp
   with_reducible rfl
 rotate_left
 · simp only [Act.put, List.setIfInBounds_toArray, List.set_cons_zero, List.set_cons_succ, i64_w, i32_w]
   rfl
 refine one_ (i := 2) (N := some 61) #[true, true, true, false, false] rfl rfl (by kernel_rfl) (by decide) (fun K hK => ?_)
 refine goes_ Try.func17 (by kernel_rfl) rfl #[.agg #[.slice A1_0 l1_0.length c1_0]] (by rfl) rfl rfl (by (try simp only [List.map_toArray, List.map_cons, List.map_nil]); first | done | rfl | (simp only [List.length_drop, List.length_take]; rfl)) ?_
 with_reducible refine (laws_toBig.calls kj24 _ _ l1_0 t260 _ ?side1 ?side2 A104.out).mono ?_
 (case side1 => repeat (first | exact (Kd.C_below HR1_0.out HB.out) | (with_reducible refine Kd.C_alloc ?_ _) | (with_reducible refine Kd.C_drewN ?_ _) | (with_reducible refine Kd.C_drew ?_)))
 (case side2 => exact HC1_0.out)
 rintro e w115 ⟨v261, rfl, ho0, hb⟩
 refine ⟨_, rfl, ?_⟩
 have n0_ := Aside0.mk (qe HO_242000 ho0 hb)
 have n1_ := Aside0.mk (qe HO_246000 ho0 hb)
 have n2_ := Aside0.mk (qe HO_250000 ho0 hb)
 have n3_ := Aside0.mk (qe HO_255000 ho0 hb)
 have n4_ := Aside0.mk (qe HO258 ho0 hb)
 have n5_ := Aside0.mk (Kd.R_lower (Kd.R_new' (Kd.R_new' (Kd.R_new' (Kd.R_new' (Kd.R_new' ho0 (ql HO_242000)) (ql HO_246000)) (ql HO_250000)) (ql HO_255000)) (ql HO258)) (below_size (hq6 HB GE227 GE228 GE241 GE245 GE249 GE254)))
 have n6_ := Aside0.mk (bB BK227 hb)
 have n7_ := Aside0.mk (bB BK228 hb)
 have n8_ := Aside0.mk (bB BK241 hb)
 have n9_ := Aside0.mk (bB BK245 hb)
 have n10_ := Aside0.mk (bB BK249 hb)
 have n11_ := Aside0.mk (bB BK254 hb)
 have n12_ := Aside0.mk (below_step (hq6 HB GE227 GE228 GE241 GE245 GE249 GE254) hb)
 clear HO_242000
 clear HO_246000
 clear HO_250000
 clear HO_255000
 clear HO258
 clear BK227
 clear BK228
 clear BK241
 clear BK245
 clear BK249
 clear BK254
 clear HB
 have HO_242000 := n0_
 have HO_246000 := n1_
 have HO_250000 := n2_
 have HO_255000 := n3_
 have HO258 := n4_
 have HO262 := n5_
 have BK227 := n6_
 have BK228 := n7_
 have BK241 := n8_
 have BK245 := n9_
 have BK249 := n10_
 have BK254 := n11_
 have HB := n12_
 clear n0_ n1_ n2_ n3_ n4_ n5_ n6_ n7_ n8_ n9_ n10_ n11_ n12_
 (try clear hb)
 (try clear hb2)
 (try clear hk)
 (try clear hi)
 (try clear ho0)
 obtain ⟨Ao116, co116, eo116⟩ := Kd.R_slice HO262.out
 (first | subst eo116 | (injection eo116 with f1_ f2_ f3_; have f4_ := f1_.symm; have f5_ := f3_.symm; clear f1_ f2_ f3_; subst f4_; subst f5_))
 refine hK.out _ _ ⟨(blk_cell BK249.out 0).trans rfl, (blk_cell BK228.out 0).trans rfl⟩ (fun hHeld => ?_)
 clear hK K
 refine norm_ (a' := ?_) ?_ ?_
 rotate_left
 · show Act.put _ (some 61) _ = _
   simp only [Act.put, List.setIfInBounds_toArray, List.set_cons_zero, List.set_cons_succ, i64_w, i32_w]
   rfl
 refine one_ (i := 3) (N := some 62) #[true, true, true, true, false] rfl rfl (by kernel_rfl) (by decide) (fun K hK => ?_)
 refine goes_ Try.func19 (by kernel_rfl) rfl #[.agg #[.slice Ao56 t246.length co56], .agg #[.slice Ao116 t260.length co116]] (by rfl) rfl rfl (by (try simp only [List.map_toArray, List.map_cons, List.map_nil]); first | done | rfl | (simp only [List.length_drop, List.length_take]; rfl)) ?_
 with_reducible refine (laws_eqBig.calls kj24 _ _ t246 _ _ t260 true _ ?side1 ?side2 ?side3 ?side4 A105.out).mono ?_
 (case side1 => repeat (first | exact (Kd.R_reads' HO_250000.out).2.2 | (with_reducible refine Kd.C_alloc ?_ _) | (with_reducible refine Kd.C_drewN ?_ _) | (with_reducible refine Kd.C_drew ?_)))
 (case side2 => exact (Kd.R_reads' HO_250000.out).2.1)
 (case side3 => repeat (first | exact (Kd.R_reads' HO262.out).2.2 | (with_reducible refine Kd.C_alloc ?_ _) | (with_reducible refine Kd.C_drewN ?_ _) | (with_reducible refine Kd.C_drew ?_)))
 (case side4 => exact (Kd.R_reads' HO262.out).2.1)
 rintro e w117 ⟨rfl, hb⟩
 refine ⟨_, rfl, ?_⟩
 have n0_ := Aside0.mk (qb HO_242000 hb)
 have n1_ := Aside0.mk (qb HO_246000 hb)
 have n2_ := Aside0.mk (qb HO_250000 hb)
 have n3_ := Aside0.mk (qb HO_255000 hb)
 have n4_ := Aside0.mk (qb HO258 hb)
 have n5_ := Aside0.mk (qb HO262 hb)
 have n6_ := Aside0.mk (bB BK227 hb)
 have n7_ := Aside0.mk (bB BK228 hb)
 have n8_ := Aside0.mk (bB BK241 hb)
 have n9_ := Aside0.mk (bB BK245 hb)
 have n10_ := Aside0.mk (bB BK249 hb)
 have n11_ := Aside0.mk (bB BK254 hb)
 have n12_ := Aside0.mk (below_step (hq6 HB GE227 GE228 GE241 GE245 GE249 GE254) hb)
 clear HO_242000
 clear HO_246000
 clear HO_250000
 clear HO_255000
 clear HO258
 clear HO262
 clear BK227
 clear BK228
 clear BK241
 clear BK245
 clear BK249
 clear BK254
 clear HB
 have HO_242000 := n0_
 have HO_246000 := n1_
 have HO_250000 := n2_
 have HO_255000 := n3_
 have HO258 := n4_
 have HO262 := n5_
 have BK227 := n6_
 have BK228 := n7_
 have BK241 := n8_
 have BK245 := n9_
 have BK249 := n10_
 have BK254 := n11_
 have HB := n12_
 clear n0_ n1_ n2_ n3_ n4_ n5_ n6_ n7_ n8_ n9_ n10_ n11_ n12_
 (try clear hb)
 (try clear hb2)
 (try clear hk)
 (try clear hi)
 refine hK.out _ _ ⟨(blk_cell BK249.out 0).trans rfl, (blk_cell BK228.out 0).trans rfl⟩ (fun hHeld => ?_)
 clear hK K
 refine norm_ (a' := ?_) ?_ ?_
 rotate_left
 · show Act.put _ (some 62) _ = _
   simp only [Act.put, List.setIfInBounds_toArray, List.set_cons_zero, List.set_cons_succ, i64_w, i32_w]
   rfl
 refine pure_ (i := 4) (N := some 63) (v := ?_) (a' := ?_) #[true, true, true, true, true] rfl rfl (by kernel_rfl) (fun _ _ _ h => h) (Or.inl ⟨by rfl, ?_⟩) ?_ ?_
 rotate_left
 · intro w'
   first | (go_simp; with_reducible rfl) | (go_simp; unfold Instr.field; go_simp; rfl)
 rotate_left
 · simp only [Act.put, List.setIfInBounds_toArray, List.set_cons_zero, List.set_cons_succ, i64_w, i32_w]
   rfl
 refine done_ (by kernel_rfl) ?_
 have hnb118 := NB245_227.out
 have hnc118 := NB227_245.out
 have hnb119 := NB245_228.out
 have hnc119 := NB228_245.out
 have hnb120 := NB245_241.out
 have hnc120 := NB241_245.out
 have hnb121 := NB245_249.out
 have hnc121 := NB249_245.out
 have hnb122 := NB245_254.out
 have hnc122 := NB254_245.out
 have hcz123_0 : w117.cell? ⟨gb245, 0, none⟩ = some (.slice Ao47 t242.length co47) := (blk_cell BK245.out 0).trans rfl
 have hfz123_0 := blk_frozen BK245.out 0
 go_upto_region 21 with (first | ((with_reducible refine gate_callee (f := 22) rfl ?_); refine goesL_ (some 66) rfl rfl Try.func22 (by kernel_rfl) rfl #[.agg #[.slice Ao47 t242.length co47], .int .i64 1] rfl (by (try simp only [List.map_toArray, List.map_cons, List.map_nil]); first | done | rfl | (simp only [List.length_drop, List.length_take]; rfl)) ?_; (with_reducible refine (laws_markBig.calls kj24 (fun k_ => some k_ = (.slice Ao47 t242.length co47 : Value).ownBlock) (.slice Ao47 t242.length co47) t242 1 t264 t265 w _ ?side1 ?side2 A107.out).mono ?_); (case side1 => repeat (first | (with_reducible first | exact HB.out | apply below_alloc | apply pw_below_drewN | apply below_drew1 | refine below_set ?_ GE227.out | refine below_set ?_ GE228.out | refine below_set ?_ GE241.out | refine below_set ?_ GE245.out | refine below_set ?_ GE249.out | refine below_set ?_ GE254.out) | exact HB.out)); (case side2 => exact Kd.R_tight rfl HO_246000.out); rintro e w124 ⟨rfl, hy0, hb, hkp⟩; refine ⟨_, rfl, ?_⟩; have n0_ := Aside0.mk (Kd.R_mono (ok' := fun k_ => some k_ ≠ (.slice Ao47 t242.length co47 : Value).ownBlock ∧ some k_ ≠ (.slice Ao56 t246.length co56 : Value).ownBlock ∧ some k_ ≠ (.slice Ao67 t250.length co67 : Value).ownBlock ∧ some k_ ≠ (.slice Ao112 t256.length co112 : Value).ownBlock ∧ some k_ ≠ (.slice Ao116 t260.length co116 : Value).ownBlock) (Kd.R_keptB (HO_242000.out) hkp (fun k_ hk_ hs_ => (hk_.1.1.1) hs_)) (fun k_ hk_ => ⟨hk_.1.1.1.1, hk_.1.1.1.2.1, hk_.1.1.1.2.2, hk_.1.1.2, hk_.1.2⟩)); have n1_ := Aside0.mk (Kd.R_reok rfl hy0 (fun k_ e_ => HO_246000.out.1 k_ e_)); have n2_ := Aside0.mk (Kd.R_mono (ok' := fun k_ => some k_ ≠ (.slice Ao41 t237.length co41 : Value).ownBlock ∧ some k_ ≠ (.slice Ao47 t242.length co47 : Value).ownBlock ∧ some k_ ≠ (.slice Ao67 t250.length co67 : Value).ownBlock ∧ some k_ ≠ (.slice Ao112 t256.length co112 : Value).ownBlock ∧ some k_ ≠ (.slice Ao116 t260.length co116 : Value).ownBlock) (Kd.R_keptB (HO_250000.out) hkp (fun k_ hk_ hs_ => (hk_.1.1.2.1) hs_)) (fun k_ hk_ => ⟨hk_.1.1.1.1, hk_.1.1.1.2.1, hk_.1.1.1.2.2, hk_.1.1.2, hk_.1.2⟩)); have n3_ := Aside0.mk (Kd.R_mono (ok' := fun k_ => some k_ ≠ (.slice Ao41 t237.length co41 : Value).ownBlock ∧ some k_ ≠ (.slice Ao47 t242.length co47 : Value).ownBlock ∧ some k_ ≠ (.slice Ao56 t246.length co56 : Value).ownBlock ∧ some k_ ≠ (.slice Ao112 t256.length co112 : Value).ownBlock ∧ some k_ ≠ (.slice Ao116 t260.length co116 : Value).ownBlock) (Kd.R_keptB (HO_255000.out) hkp (fun k_ hk_ hs_ => (hk_.1.1.2.1) hs_)) (fun k_ hk_ => ⟨hk_.1.1.1.1, hk_.1.1.1.2.1, hk_.1.1.1.2.2, hk_.1.1.2, hk_.1.2⟩)); have n4_ := Aside0.mk (blk_kept (bq BK227) hkp (fun hs_ => (fun e_ => (Kd.R_ne HO_246000.out BK227.out (by decide)) e_) hs_)); have n5_ := Aside0.mk (blk_kept (bq BK228) hkp (fun hs_ => (fun e_ => (Kd.R_ne HO_246000.out BK228.out (by decide)) e_) hs_)); have n6_ := Aside0.mk (blk_kept (bq BK241) hkp (fun hs_ => (fun e_ => (Kd.R_ne HO_246000.out BK241.out (by decide)) e_) hs_)); have n7_ := Aside0.mk (blk_kept (bq BK245) hkp (fun hs_ => (fun e_ => (Kd.R_ne HO_246000.out BK245.out (by decide)) e_) hs_)); have n8_ := Aside0.mk (blk_kept (bq BK249) hkp (fun hs_ => (fun e_ => (Kd.R_ne HO_246000.out BK249.out (by decide)) e_) hs_)); have n9_ := Aside0.mk (blk_kept (bq BK254) hkp (fun hs_ => (fun e_ => (Kd.R_ne HO_246000.out BK254.out (by decide)) e_) hs_)); have n10_ := Aside0.mk (Kd.R_mono (ok' := fun k_ => some k_ ≠ (.slice Ao41 t237.length co41 : Value).ownBlock ∧ some k_ ≠ (.slice Ao47 t242.length co47 : Value).ownBlock ∧ some k_ ≠ (.slice Ao56 t246.length co56 : Value).ownBlock ∧ some k_ ≠ (.slice Ao67 t250.length co67 : Value).ownBlock ∧ some k_ ≠ (.slice Ao116 t260.length co116 : Value).ownBlock) (Kd.R_keptB (HO258.out) hkp (fun k_ hk_ hs_ => (hk_.1.1.1.2) hs_)) (fun k_ hk_ => ⟨hk_.1.1.1.1.1.2, hk_.1.1.1.1.2, hk_.1.1.1.2, hk_.1.1.2, hk_.1.2⟩)); have n11_ := Aside0.mk (Kd.R_mono (ok' := fun k_ => some k_ ≠ (.slice Ao41 t237.length co41 : Value).ownBlock ∧ some k_ ≠ (.slice Ao47 t242.length co47 : Value).ownBlock ∧ some k_ ≠ (.slice Ao56 t246.length co56 : Value).ownBlock ∧ some k_ ≠ (.slice Ao67 t250.length co67 : Value).ownBlock ∧ some k_ ≠ (.slice Ao112 t256.length co112 : Value).ownBlock) (Kd.R_keptB (HO262.out) hkp (fun k_ hk_ hs_ => (hk_.1.1.1.2) hs_)) (fun k_ hk_ => ⟨hk_.1.1.1.1.1.2, hk_.1.1.1.1.2, hk_.1.1.1.2, hk_.1.1.2, hk_.1.2⟩)); have n12_ := Aside0.mk (hb); clear HO_242000; clear HO_246000; clear HO_250000; clear HO_255000; clear BK227; clear BK228; clear BK241; clear BK245; clear BK249; clear BK254; clear HO258; clear HO262; clear HB; have HO_242000 := n0_; have HO_246000 := n1_; have HO_250000 := n2_; have HO_255000 := n3_; have BK227 := n4_; have BK228 := n5_; have BK241 := n6_; have BK245 := n7_; have BK249 := n8_; have BK254 := n9_; have HO258 := n10_; have HO262 := n11_; have HB := n12_; clear n0_ n1_ n2_ n3_ n4_ n5_ n6_ n7_ n8_ n9_ n10_ n11_ n12_; (try clear hb); (try clear hkp); (try clear hy0); have hnb125 := NB249_227.out; have hnc125 := NB227_249.out; have hnb126 := NB249_228.out; have hnc126 := NB228_249.out; have hnb127 := NB249_241.out; have hnc127 := NB241_249.out; have hnb128 := NB249_254.out; have hnc128 := NB254_249.out; have hcz129_0 : w124.cell? ⟨gb249, 0, none⟩ = some (.slice Ao56 t246.length co56) := (blk_cell BK249.out 0).trans rfl; have hfz129_0 := blk_frozen BK249.out 0) | ((with_reducible refine gate_callee (f := 22) rfl ?_); refine goesL_ (some 69) rfl rfl Try.func22 (by kernel_rfl) rfl #[.agg #[.slice Ao56 t246.length co56], .int .i64 t264] rfl (by (try simp only [List.map_toArray, List.map_cons, List.map_nil]); first | done | rfl | (simp only [List.length_drop, List.length_take]; rfl)) ?_; (with_reducible refine (laws_markBig.calls kj24 (fun k_ => some k_ = (.slice Ao56 t246.length co56 : Value).ownBlock) (.slice Ao56 t246.length co56) t246 t264 t266 t267 w _ ?side1 ?side2 A108.out).mono ?_); (case side1 => repeat (first | (with_reducible first | exact HB.out | apply below_alloc | apply pw_below_drewN | apply below_drew1 | refine below_set ?_ GE227.out | refine below_set ?_ GE228.out | refine below_set ?_ GE241.out | refine below_set ?_ GE245.out | refine below_set ?_ GE249.out | refine below_set ?_ GE254.out) | exact HB.out)); (case side2 => exact Kd.R_tight rfl HO_250000.out); rintro e w130 ⟨rfl, hy0, hb, hkp⟩; refine ⟨_, rfl, ?_⟩; have n0_ := Aside0.mk (Kd.R_mono (ok' := fun k_ => some k_ ≠ (.slice Ao47 t242.length co47 : Value).ownBlock ∧ some k_ ≠ (.slice Ao56 t246.length co56 : Value).ownBlock ∧ some k_ ≠ (.slice Ao67 t250.length co67 : Value).ownBlock ∧ some k_ ≠ (.slice Ao112 t256.length co112 : Value).ownBlock ∧ some k_ ≠ (.slice Ao116 t260.length co116 : Value).ownBlock) (Kd.R_keptB (HO_242000.out) hkp (fun k_ hk_ hs_ => (hk_.2.1) hs_)) (fun k_ hk_ => ⟨hk_.1.1, hk_.1.2.1, hk_.1.2.2.1, hk_.1.2.2.2.1, hk_.1.2.2.2.2⟩)); have n1_ := Aside0.mk (Kd.R_mono (ok' := fun k_ => some k_ ≠ (.slice Ao41 t237.length co41 : Value).ownBlock ∧ some k_ ≠ (.slice Ao56 t246.length co56 : Value).ownBlock ∧ some k_ ≠ (.slice Ao67 t250.length co67 : Value).ownBlock ∧ some k_ ≠ (.slice Ao112 t256.length co112 : Value).ownBlock ∧ some k_ ≠ (.slice Ao116 t260.length co116 : Value).ownBlock) (Kd.R_keptB (HO_246000.out) hkp (fun k_ hk_ hs_ => (hk_.1.1.2.1) hs_)) (fun k_ hk_ => ⟨hk_.1.1.1.1, hk_.1.1.1.2.1, hk_.1.1.1.2.2, hk_.1.1.2, hk_.1.2⟩)); have n2_ := Aside0.mk (Kd.R_reok rfl hy0 (fun k_ e_ => HO_250000.out.1 k_ e_)); have n3_ := Aside0.mk (Kd.R_mono (ok' := fun k_ => some k_ ≠ (.slice Ao41 t237.length co41 : Value).ownBlock ∧ some k_ ≠ (.slice Ao47 t242.length co47 : Value).ownBlock ∧ some k_ ≠ (.slice Ao56 t246.length co56 : Value).ownBlock ∧ some k_ ≠ (.slice Ao112 t256.length co112 : Value).ownBlock ∧ some k_ ≠ (.slice Ao116 t260.length co116 : Value).ownBlock) (Kd.R_keptB (HO_255000.out) hkp (fun k_ hk_ hs_ => (hk_.2.2.1) hs_)) (fun k_ hk_ => ⟨hk_.1.1, hk_.1.2.1, hk_.1.2.2.1, hk_.1.2.2.2.1, hk_.1.2.2.2.2⟩)); have n4_ := Aside0.mk (blk_kept (bq BK227) hkp (fun hs_ => (fun e_ => (Kd.R_ne HO_250000.out BK227.out (by decide)) e_) hs_)); have n5_ := Aside0.mk (blk_kept (bq BK228) hkp (fun hs_ => (fun e_ => (Kd.R_ne HO_250000.out BK228.out (by decide)) e_) hs_)); have n6_ := Aside0.mk (blk_kept (bq BK241) hkp (fun hs_ => (fun e_ => (Kd.R_ne HO_250000.out BK241.out (by decide)) e_) hs_)); have n7_ := Aside0.mk (blk_kept (bq BK245) hkp (fun hs_ => (fun e_ => (Kd.R_ne HO_250000.out BK245.out (by decide)) e_) hs_)); have n8_ := Aside0.mk (blk_kept (bq BK249) hkp (fun hs_ => (fun e_ => (Kd.R_ne HO_250000.out BK249.out (by decide)) e_) hs_)); have n9_ := Aside0.mk (blk_kept (bq BK254) hkp (fun hs_ => (fun e_ => (Kd.R_ne HO_250000.out BK254.out (by decide)) e_) hs_)); have n10_ := Aside0.mk (Kd.R_mono (ok' := fun k_ => some k_ ≠ (.slice Ao41 t237.length co41 : Value).ownBlock ∧ some k_ ≠ (.slice Ao47 t242.length co47 : Value).ownBlock ∧ some k_ ≠ (.slice Ao56 t246.length co56 : Value).ownBlock ∧ some k_ ≠ (.slice Ao67 t250.length co67 : Value).ownBlock ∧ some k_ ≠ (.slice Ao116 t260.length co116 : Value).ownBlock) (Kd.R_keptB (HO258.out) hkp (fun k_ hk_ hs_ => (hk_.2.2.1) hs_)) (fun k_ hk_ => ⟨hk_.1.1, hk_.1.2.1, hk_.1.2.2.1, hk_.1.2.2.2.1, hk_.1.2.2.2.2⟩)); have n11_ := Aside0.mk (Kd.R_mono (ok' := fun k_ => some k_ ≠ (.slice Ao41 t237.length co41 : Value).ownBlock ∧ some k_ ≠ (.slice Ao47 t242.length co47 : Value).ownBlock ∧ some k_ ≠ (.slice Ao56 t246.length co56 : Value).ownBlock ∧ some k_ ≠ (.slice Ao67 t250.length co67 : Value).ownBlock ∧ some k_ ≠ (.slice Ao112 t256.length co112 : Value).ownBlock) (Kd.R_keptB (HO262.out) hkp (fun k_ hk_ hs_ => (hk_.2.2.1) hs_)) (fun k_ hk_ => ⟨hk_.1.1, hk_.1.2.1, hk_.1.2.2.1, hk_.1.2.2.2.1, hk_.1.2.2.2.2⟩)); have n12_ := Aside0.mk (hb); clear HO_242000; clear HO_246000; clear HO_250000; clear HO_255000; clear BK227; clear BK228; clear BK241; clear BK245; clear BK249; clear BK254; clear HO258; clear HO262; clear HB; have HO_242000 := n0_; have HO_246000 := n1_; have HO_250000 := n2_; have HO_255000 := n3_; have BK227 := n4_; have BK228 := n5_; have BK241 := n6_; have BK245 := n7_; have BK249 := n8_; have BK254 := n9_; have HO258 := n10_; have HO262 := n11_; have HB := n12_; clear n0_ n1_ n2_ n3_ n4_ n5_ n6_ n7_ n8_ n9_ n10_ n11_ n12_; (try clear hb); (try clear hkp); (try clear hy0)))
 (try simp only [Act.put, List.setIfInBounds_toArray, List.set_cons_zero, List.set_cons_succ])
 go_cut [82] (fun v82 wc => ∃ (kq : Nat) (x82_108 : Bool), v82 = .bool x82_108 ∧ Aside0 (laws_FnExactAddBig.j1 kq t240 x82_108 l0_0 l1_0 t237 t250 = some true) ∧ Aside0 (kq ≤ kj24) ∧ Aside0 (Kd.R (Kd.int .i64) 3 wc w.heap.size (fun k_ => some k_ ≠ ((.slice Ao47 t242.length co47) : Value).ownBlock ∧ some k_ ≠ ((.slice Ao56 t246.length co56) : Value).ownBlock ∧ some k_ ≠ ((.slice Ao67 t250.length co67) : Value).ownBlock) (.slice Ao41 t237.length co41) t237) ∧ Aside0 (Kd.R (Kd.int .i64) 3 wc w.heap.size (fun k_ => some k_ ≠ ((.slice Ao41 t237.length co41) : Value).ownBlock ∧ some k_ ≠ ((.slice Ao56 t246.length co56) : Value).ownBlock ∧ some k_ ≠ ((.slice Ao67 t250.length co67) : Value).ownBlock) (.slice Ao47 t242.length co47) t265) ∧ Aside0 (Kd.R (Kd.int .i64) 3 wc w.heap.size (fun k_ => some k_ ≠ ((.slice Ao41 t237.length co41) : Value).ownBlock ∧ some k_ ≠ ((.slice Ao47 t242.length co47) : Value).ownBlock ∧ some k_ ≠ ((.slice Ao67 t250.length co67) : Value).ownBlock) (.slice Ao56 t246.length co56) t267) ∧ Aside0 (Kd.R (Kd.int .i64) 3 wc w.heap.size (fun k_ => some k_ ≠ ((.slice Ao41 t237.length co41) : Value).ownBlock ∧ some k_ ≠ ((.slice Ao47 t242.length co47) : Value).ownBlock ∧ some k_ ≠ ((.slice Ao56 t246.length co56) : Value).ownBlock) (.slice Ao67 t250.length co67) t250) ∧ Aside0 (wc.heap[gb227]? = some (.cells #[(.slice A0_0 l0_0.length c0_0)] 24 (0, 0))) ∧ Aside0 (wc.heap[gb228]? = some (.cells #[(.slice A1_0 l1_0.length c1_0)] 24 (0, 0))) ∧ Aside0 (wc.heap[gb241]? = some (.cells #[(.slice Ao41 t237.length co41)] 27 (0, 0))) ∧ Aside0 (wc.heap[gb245]? = some (.cells #[(.slice Ao47 t242.length co47)] 27 (0, 0))) ∧ Aside0 (wc.heap[gb249]? = some (.cells #[(.slice Ao56 t246.length co56)] 27 (0, 0))) ∧ Aside0 (wc.heap[gb254]? = some (.cells #[(.slice Ao67 t250.length co67)] 27 (0, 0))) ∧ Aside0 (Below w.heap.size w wc))
 case first =>
   have H := HC109.out
   clear HC109
   by_cases c131 : t266 < 0
   · rw [if_pos c131] at H
     have c131b0 : decide (t266 < 0) = true := decide_eq_true c131
     clear c131
     (first | rw [c131b0] | (simp only [i64_w, i32_w]; rw [c131b0]) | skip)
     have H' := Aside0.mk H
     clear H
     go_wp2
     go_meet
     case rel => exact ⟨_, (true), (by first | rfl | (simp; done) | (simp [*]; done)), H', ⟨by have := HJ24.out; first | omega | exact Nat.le_refl _⟩, ⟨by (with_reducible repeat (first | apply Kd.R_alloc | apply Kd.R_drewN | apply Kd.R_drew)); exact Kd.R_mono HO_242000.out (fun _ hk => ⟨hk.1, ⟨hk.2.1, hk.2.2.1⟩⟩)⟩, ⟨by (with_reducible repeat (first | apply Kd.R_alloc | apply Kd.R_drewN | apply Kd.R_drew)); exact Kd.R_mono HO_246000.out (fun _ hk => ⟨hk.1, ⟨hk.2.1, hk.2.2.1⟩⟩)⟩, ⟨by (with_reducible repeat (first | apply Kd.R_alloc | apply Kd.R_drewN | apply Kd.R_drew)); exact Kd.R_mono HO_250000.out (fun _ hk => ⟨hk.1, ⟨hk.2.1, hk.2.2.1⟩⟩)⟩, ⟨by (with_reducible repeat (first | apply Kd.R_alloc | apply Kd.R_drewN | apply Kd.R_drew)); exact Kd.R_mono HO_255000.out (fun _ hk => ⟨hk.1, ⟨hk.2.1, hk.2.2.1⟩⟩)⟩, ⟨by (with_reducible repeat (first | refine blk_drewN ?_ _ | refine blk_drew ?_ | refine blk_alloc ?_ _)); exact BK227.out⟩, ⟨by (with_reducible repeat (first | refine blk_drewN ?_ _ | refine blk_drew ?_ | refine blk_alloc ?_ _)); exact BK228.out⟩, ⟨by (with_reducible repeat (first | refine blk_drewN ?_ _ | refine blk_drew ?_ | refine blk_alloc ?_ _)); exact BK241.out⟩, ⟨by (with_reducible repeat (first | refine blk_drewN ?_ _ | refine blk_drew ?_ | refine blk_alloc ?_ _)); exact BK245.out⟩, ⟨by (with_reducible repeat (first | refine blk_drewN ?_ _ | refine blk_drew ?_ | refine blk_alloc ?_ _)); exact BK249.out⟩, ⟨by (with_reducible repeat (first | refine blk_drewN ?_ _ | refine blk_drew ?_ | refine blk_alloc ?_ _)); exact BK254.out⟩, ⟨hq6 HB GE227 GE228 GE241 GE245 GE249 GE254⟩⟩
   rw [if_neg c131] at H
   have c131b0 : decide (t266 < 0) = false := decide_eq_false c131
   clear c131
   (first | rw [c131b0] | (simp only [i64_w, i32_w]; rw [c131b0]) | skip)
   replace H := Option.bind_eq_some_iff.mp H
   obtain ⟨t268, A1320, H⟩ := H
   replace H : (if t268 = true then (laws_FnExactAddBig.j1 kj24 t240 (t253 != t240) l0_0 l1_0 t237 t250) else (laws_FnExactAddBig.j1 kj24 t240 true l0_0 l1_0 t237 t250)) = some true := H
   have A132 := Aside0.mk A1320
   clear A1320
   by_cases c133 : t268 = true
   · subst c133
     have H1 : (laws_FnExactAddBig.j1 kj24 t240 (t253 != t240) l0_0 l1_0 t237 t250) = some true := by rw [if_pos rfl] at H; exact H
     clear H
     have H := H1
     clear H1
     have H' := Aside0.mk H
     clear H
     have hnb134 := NB254_227.out
     have hnc134 := NB227_254.out
     have hnb135 := NB254_228.out
     have hnc135 := NB228_254.out
     have hnb136 := NB254_241.out
     have hnc136 := NB241_254.out
     have hnb137 := NB254_245.out
     have hnc137 := NB245_254.out
     have hnb138 := NB254_249.out
     have hnc138 := NB249_254.out
     have hcz139_0 : w130.cell? ⟨gb254, 0, none⟩ = some (.slice Ao67 t250.length co67) := (blk_cell BK254.out 0).trans rfl
     have hfz139_0 := blk_frozen BK254.out 0
     have hnb140 := NB241_227.out
     have hnc140 := NB227_241.out
     have hnb141 := NB241_228.out
     have hnc141 := NB228_241.out
     have hnb142 := NB241_245.out
     have hnc142 := NB245_241.out
     have hnb143 := NB241_249.out
     have hnc143 := NB249_241.out
     have hcz144_0 : w130.cell? ⟨gb241, 0, none⟩ = some (.slice Ao41 t237.length co41) := (blk_cell BK241.out 0).trans rfl
     have hfz144_0 := blk_frozen BK241.out 0
     go_wp2_with (first | (go_at_call 19; (with_reducible refine (laws_eqBig.calls kj24 _ _ t250 _ _ t237 true _ ?side1 ?side2 ?side3 ?side4 A132.out).mono ?_); (case side1 => repeat (first | exact (Kd.R_reads' HO_255000.out).2.2 | (with_reducible refine Kd.C_alloc ?_ _) | (with_reducible refine Kd.C_drewN ?_ _) | (with_reducible refine Kd.C_drew ?_))); (case side2 => exact (Kd.R_reads' HO_255000.out).2.1); (case side3 => repeat (first | exact (Kd.R_reads' HO_242000.out).2.2 | (with_reducible refine Kd.C_alloc ?_ _) | (with_reducible refine Kd.C_drewN ?_ _) | (with_reducible refine Kd.C_drew ?_))); (case side4 => exact (Kd.R_reads' HO_242000.out).2.1); rintro e w145 ⟨rfl, hb⟩; have n0_ := Aside0.mk (qb HO_242000 hb); have n1_ := Aside0.mk (qb HO_246000 hb); have n2_ := Aside0.mk (qb HO_250000 hb); have n3_ := Aside0.mk (qb HO_255000 hb); have n4_ := Aside0.mk (qb HO258 hb); have n5_ := Aside0.mk (qb HO262 hb); have n6_ := Aside0.mk (bB BK227 hb); have n7_ := Aside0.mk (bB BK228 hb); have n8_ := Aside0.mk (bB BK241 hb); have n9_ := Aside0.mk (bB BK245 hb); have n10_ := Aside0.mk (bB BK249 hb); have n11_ := Aside0.mk (bB BK254 hb); have n12_ := Aside0.mk (below_step (hq6 HB GE227 GE228 GE241 GE245 GE249 GE254) hb); clear HO_242000; clear HO_246000; clear HO_250000; clear HO_255000; clear HO258; clear HO262; clear BK227; clear BK228; clear BK241; clear BK245; clear BK249; clear BK254; clear HB; have HO_242000 := n0_; have HO_246000 := n1_; have HO_250000 := n2_; have HO_255000 := n3_; have HO258 := n4_; have HO262 := n5_; have BK227 := n6_; have BK228 := n7_; have BK241 := n8_; have BK245 := n9_; have BK249 := n10_; have BK254 := n11_; have HB := n12_; clear n0_ n1_ n2_ n3_ n4_ n5_ n6_ n7_ n8_ n9_ n10_ n11_ n12_; (try clear hb); (try clear hb2); (try clear hk); (try clear hi)))
     go_meet
     case rel => exact ⟨_, ((t253 != t240)), (by first | rfl | (simp; done) | (simp [*]; done)), H', ⟨by have := HJ24.out; first | omega | exact Nat.le_refl _⟩, ⟨by (with_reducible repeat (first | apply Kd.R_alloc | apply Kd.R_drewN | apply Kd.R_drew)); exact Kd.R_mono HO_242000.out (fun _ hk => ⟨hk.1, ⟨hk.2.1, hk.2.2.1⟩⟩)⟩, ⟨by (with_reducible repeat (first | apply Kd.R_alloc | apply Kd.R_drewN | apply Kd.R_drew)); exact Kd.R_mono HO_246000.out (fun _ hk => ⟨hk.1, ⟨hk.2.1, hk.2.2.1⟩⟩)⟩, ⟨by (with_reducible repeat (first | apply Kd.R_alloc | apply Kd.R_drewN | apply Kd.R_drew)); exact Kd.R_mono HO_250000.out (fun _ hk => ⟨hk.1, ⟨hk.2.1, hk.2.2.1⟩⟩)⟩, ⟨by (with_reducible repeat (first | apply Kd.R_alloc | apply Kd.R_drewN | apply Kd.R_drew)); exact Kd.R_mono HO_255000.out (fun _ hk => ⟨hk.1, ⟨hk.2.1, hk.2.2.1⟩⟩)⟩, ⟨by (with_reducible repeat (first | refine blk_drewN ?_ _ | refine blk_drew ?_ | refine blk_alloc ?_ _)); exact BK227.out⟩, ⟨by (with_reducible repeat (first | refine blk_drewN ?_ _ | refine blk_drew ?_ | refine blk_alloc ?_ _)); exact BK228.out⟩, ⟨by (with_reducible repeat (first | refine blk_drewN ?_ _ | refine blk_drew ?_ | refine blk_alloc ?_ _)); exact BK241.out⟩, ⟨by (with_reducible repeat (first | refine blk_drewN ?_ _ | refine blk_drew ?_ | refine blk_alloc ?_ _)); exact BK245.out⟩, ⟨by (with_reducible repeat (first | refine blk_drewN ?_ _ | refine blk_drew ?_ | refine blk_alloc ?_ _)); exact BK249.out⟩, ⟨by (with_reducible repeat (first | refine blk_drewN ?_ _ | refine blk_drew ?_ | refine blk_alloc ?_ _)); exact BK254.out⟩, ⟨hq6 HB GE227 GE228 GE241 GE245 GE249 GE254⟩⟩
   replace c133 := Bool.eq_false_iff.mpr c133
   subst c133
   have H1 : (laws_FnExactAddBig.j1 kj24 t240 true l0_0 l1_0 t237 t250) = some true := by rw [if_neg (show ¬ (false = true) by decide)] at H; exact H
   clear H
   have H := H1
   clear H1
   have H' := Aside0.mk H
   clear H
   have hnb146 := NB254_227.out
   have hnc146 := NB227_254.out
   have hnb147 := NB254_228.out
   have hnc147 := NB228_254.out
   have hnb148 := NB254_241.out
   have hnc148 := NB241_254.out
   have hnb149 := NB254_245.out
   have hnc149 := NB245_254.out
   have hnb150 := NB254_249.out
   have hnc150 := NB249_254.out
   have hcz151_0 : w130.cell? ⟨gb254, 0, none⟩ = some (.slice Ao67 t250.length co67) := (blk_cell BK254.out 0).trans rfl
   have hfz151_0 := blk_frozen BK254.out 0
   have hnb152 := NB241_227.out
   have hnc152 := NB227_241.out
   have hnb153 := NB241_228.out
   have hnc153 := NB228_241.out
   have hnb154 := NB241_245.out
   have hnc154 := NB245_241.out
   have hnb155 := NB241_249.out
   have hnc155 := NB249_241.out
   have hcz156_0 : w130.cell? ⟨gb241, 0, none⟩ = some (.slice Ao41 t237.length co41) := (blk_cell BK241.out 0).trans rfl
   have hfz156_0 := blk_frozen BK241.out 0
   go_wp2_with (first | (go_at_call 19; (with_reducible refine (laws_eqBig.calls kj24 _ _ t250 _ _ t237 false _ ?side1 ?side2 ?side3 ?side4 A132.out).mono ?_); (case side1 => repeat (first | exact (Kd.R_reads' HO_255000.out).2.2 | (with_reducible refine Kd.C_alloc ?_ _) | (with_reducible refine Kd.C_drewN ?_ _) | (with_reducible refine Kd.C_drew ?_))); (case side2 => exact (Kd.R_reads' HO_255000.out).2.1); (case side3 => repeat (first | exact (Kd.R_reads' HO_242000.out).2.2 | (with_reducible refine Kd.C_alloc ?_ _) | (with_reducible refine Kd.C_drewN ?_ _) | (with_reducible refine Kd.C_drew ?_))); (case side4 => exact (Kd.R_reads' HO_242000.out).2.1); rintro e w157 ⟨rfl, hb⟩; have n0_ := Aside0.mk (qb HO_242000 hb); have n1_ := Aside0.mk (qb HO_246000 hb); have n2_ := Aside0.mk (qb HO_250000 hb); have n3_ := Aside0.mk (qb HO_255000 hb); have n4_ := Aside0.mk (qb HO258 hb); have n5_ := Aside0.mk (qb HO262 hb); have n6_ := Aside0.mk (bB BK227 hb); have n7_ := Aside0.mk (bB BK228 hb); have n8_ := Aside0.mk (bB BK241 hb); have n9_ := Aside0.mk (bB BK245 hb); have n10_ := Aside0.mk (bB BK249 hb); have n11_ := Aside0.mk (bB BK254 hb); have n12_ := Aside0.mk (below_step (hq6 HB GE227 GE228 GE241 GE245 GE249 GE254) hb); clear HO_242000; clear HO_246000; clear HO_250000; clear HO_255000; clear HO258; clear HO262; clear BK227; clear BK228; clear BK241; clear BK245; clear BK249; clear BK254; clear HB; have HO_242000 := n0_; have HO_246000 := n1_; have HO_250000 := n2_; have HO_255000 := n3_; have HO258 := n4_; have HO262 := n5_; have BK227 := n6_; have BK228 := n7_; have BK241 := n8_; have BK245 := n9_; have BK249 := n10_; have BK254 := n11_; have HB := n12_; clear n0_ n1_ n2_ n3_ n4_ n5_ n6_ n7_ n8_ n9_ n10_ n11_ n12_; (try clear hb); (try clear hb2); (try clear hk); (try clear hi)))
   go_meet
   case rel => exact ⟨_, (true), (by first | rfl | (simp; done) | (simp [*]; done)), H', ⟨by have := HJ24.out; first | omega | exact Nat.le_refl _⟩, ⟨by (with_reducible repeat (first | apply Kd.R_alloc | apply Kd.R_drewN | apply Kd.R_drew)); exact Kd.R_mono HO_242000.out (fun _ hk => ⟨hk.1, ⟨hk.2.1, hk.2.2.1⟩⟩)⟩, ⟨by (with_reducible repeat (first | apply Kd.R_alloc | apply Kd.R_drewN | apply Kd.R_drew)); exact Kd.R_mono HO_246000.out (fun _ hk => ⟨hk.1, ⟨hk.2.1, hk.2.2.1⟩⟩)⟩, ⟨by (with_reducible repeat (first | apply Kd.R_alloc | apply Kd.R_drewN | apply Kd.R_drew)); exact Kd.R_mono HO_250000.out (fun _ hk => ⟨hk.1, ⟨hk.2.1, hk.2.2.1⟩⟩)⟩, ⟨by (with_reducible repeat (first | apply Kd.R_alloc | apply Kd.R_drewN | apply Kd.R_drew)); exact Kd.R_mono HO_255000.out (fun _ hk => ⟨hk.1, ⟨hk.2.1, hk.2.2.1⟩⟩)⟩, ⟨by (with_reducible repeat (first | refine blk_drewN ?_ _ | refine blk_drew ?_ | refine blk_alloc ?_ _)); exact BK227.out⟩, ⟨by (with_reducible repeat (first | refine blk_drewN ?_ _ | refine blk_drew ?_ | refine blk_alloc ?_ _)); exact BK228.out⟩, ⟨by (with_reducible repeat (first | refine blk_drewN ?_ _ | refine blk_drew ?_ | refine blk_alloc ?_ _)); exact BK241.out⟩, ⟨by (with_reducible repeat (first | refine blk_drewN ?_ _ | refine blk_drew ?_ | refine blk_alloc ?_ _)); exact BK245.out⟩, ⟨by (with_reducible repeat (first | refine blk_drewN ?_ _ | refine blk_drew ?_ | refine blk_alloc ?_ _)); exact BK249.out⟩, ⟨by (with_reducible repeat (first | refine blk_drewN ?_ _ | refine blk_drew ?_ | refine blk_alloc ?_ _)); exact BK254.out⟩, ⟨hq6 HB GE227 GE228 GE241 GE245 GE249 GE254⟩⟩
 clear HC109
 try clear c1
 try clear c2
 try clear p2
 try clear c4
 try clear c5
 try clear c6
 try clear c7
 try clear c8
 try clear c9
 try clear c10
 try clear c11
 try clear c12
 try clear c13
 try clear c14
 try clear c15
 try clear c17
 try clear c19
 try clear c22
 try clear c24
 try clear c25
 try clear c43
 try clear c48
 try clear c49
 try clear c50
 try clear c52
 try clear c57
 try clear c58
 try clear c59
 try clear c60
 try clear c68
 try clear c69
 try clear c70
 try clear c71
 try clear c72
 try clear c75
 try clear c76
 try clear c77
 try clear c78
 try clear c79
 try clear c80
 try clear c82
 try clear c83
 try clear c84
 try clear c85
 try clear c88
 try clear c89
 try clear c90
 try clear c91
 try clear c92
 try clear c94
 try clear c95
 try clear c96
 try clear c97
 try clear c100
 try clear c103
 try clear c106
 try clear c118
 try clear c119
 try clear c120
 try clear c121
 try clear c122
 try clear c125
 try clear c126
 try clear c127
 try clear c128
 try clear c131
 try clear c131b0
 try clear c133
 try clear c134
 try clear c135
 try clear c136
 try clear c137
 try clear c138
 try clear c140
 try clear c141
 try clear c142
 try clear c143
 try clear c146
 try clear c147
 try clear c148
 try clear c149
 try clear c150
 try clear c152
 try clear c153
 try clear c154
 try clear c155
 try clear hcz123_0
 try clear hcz129_0
 try clear hcz139_0
 try clear hcz144_0
 try clear hcz151_0
 try clear hcz156_0
 try clear hcz44_0
 try clear hcz51_0
 try clear hcz53_0
 try clear hcz61_0
 try clear hcz63_0
 try clear hcz64_0
 try clear hcz73_0
 try clear hcz81_0
 try clear hcz86_0
 try clear hcz93_0
 try clear hcz98_0
 try clear hfz123_0
 try clear hfz129_0
 try clear hfz139_0
 try clear hfz144_0
 try clear hfz151_0
 try clear hfz156_0
 try clear hfz44_0
 try clear hfz51_0
 try clear hfz53_0
 try clear hfz61_0
 try clear hfz63_0
 try clear hfz64_0
 try clear hfz73_0
 try clear hfz81_0
 try clear hfz86_0
 try clear hfz93_0
 try clear hfz98_0
 try clear p2
 obtain ⟨kq, x82_108, rfl, HA, HJ108, HO_242000, HO_246000, HO_250000, HO_255000, BK227, BK228, BK241, BK245, BK249, BK254, HB⟩ := hcut
 have hl246000_108 := (Kd.R_reads' HO_246000.out).1
 rw [hl246000_108] at HO_246000
 (try simp only [hl246000_108])
 (try simp only [hl246000_108] at BK227)
 (try simp only [hl246000_108] at BK228)
 (try simp only [hl246000_108] at BK241)
 (try simp only [hl246000_108] at BK245)
 (try simp only [hl246000_108] at BK249)
 (try simp only [hl246000_108] at BK254)
 (try simp only [hl246000_108] at HO_242000)
 (try simp only [hl246000_108] at HO_250000)
 (try simp only [hl246000_108] at HO_255000)
 have hl250000_108 := (Kd.R_reads' HO_250000.out).1
 rw [hl250000_108] at HO_250000
 (try simp only [hl250000_108])
 (try simp only [hl250000_108] at BK227)
 (try simp only [hl250000_108] at BK228)
 (try simp only [hl250000_108] at BK241)
 (try simp only [hl250000_108] at BK245)
 (try simp only [hl250000_108] at BK249)
 (try simp only [hl250000_108] at BK254)
 (try simp only [hl250000_108] at HO_242000)
 (try simp only [hl250000_108] at HO_246000)
 (try simp only [hl250000_108] at HO_255000)
 obtain _ | kj108 := kq
 · exact absurd HA.out (by simp [laws_FnExactAddBig.j1])
 have H := HA.out
 clear HA
 simp only [laws_FnExactAddBig.j1] at H
 by_cases c158 : x82_108 = true
 · subst c158
   have H1 : (some false) = some true := by rw [if_pos rfl] at H; exact H
   clear H
   have H := H1
   clear H1
   cases H
 replace c158 := Bool.eq_false_iff.mpr c158
 subst c158
 have H1 : ((laws_markBig.f kj108 t250 1).bind fun bt269 => ((laws_heldBig.f kj108 bt269.2 1).bind fun t271 => (if t271 < 0 then (some false) else (if t271 = bt269.1 then ((laws_toBig.f kj108 l0_0).bind fun t272 => ((laws_toBig.f kj108 l1_0).bind fun t275 => ((impl_AddBig.f kj108 t272 t275).bind fun bt278 => ((laws_eqBig.f kj108 bt278.1 t237).bind fun t283 => (if t283 = true then (laws_FnExactAddBig.j2 kj108 bt269.1 (bt278.2 != t240) bt269.2) else (laws_FnExactAddBig.j2 kj108 bt269.1 true bt269.2)))))) else (some false))))) = some true := by rw [if_neg (show ¬ (false = true) by decide)] at H; exact H
 clear H
 have H := H1
 clear H1
 replace H := Option.bind_eq_some_iff.mp H
 obtain ⟨⟨t269, t270⟩, A1590, H⟩ := H
 replace H : ((laws_heldBig.f kj108 t270 1).bind fun t271 => (if t271 < 0 then (some false) else (if t271 = t269 then ((laws_toBig.f kj108 l0_0).bind fun t272 => ((laws_toBig.f kj108 l1_0).bind fun t275 => ((impl_AddBig.f kj108 t272 t275).bind fun bt278 => ((laws_eqBig.f kj108 bt278.1 t237).bind fun t283 => (if t283 = true then (laws_FnExactAddBig.j2 kj108 t269 (bt278.2 != t240) t270) else (laws_FnExactAddBig.j2 kj108 t269 true t270)))))) else (some false)))) = some true := H
 have A159 := Aside0.mk A1590
 clear A1590
 replace H := Option.bind_eq_some_iff.mp H
 obtain ⟨t271, A1600, H⟩ := H
 replace H : (if t271 < 0 then (some false) else (if t271 = t269 then ((laws_toBig.f kj108 l0_0).bind fun t272 => ((laws_toBig.f kj108 l1_0).bind fun t275 => ((impl_AddBig.f kj108 t272 t275).bind fun bt278 => ((laws_eqBig.f kj108 bt278.1 t237).bind fun t283 => (if t283 = true then (laws_FnExactAddBig.j2 kj108 t269 (bt278.2 != t240) t270) else (laws_FnExactAddBig.j2 kj108 t269 true t270)))))) else (some false))) = some true := H
 have A160 := Aside0.mk A1600
 clear A1600
 by_cases c161 : t271 < 0
 · rw [if_pos c161] at H
   have c161b0 : decide (t271 < 0) = true := decide_eq_true c161
   clear c161
   cases H
 rw [if_neg c161] at H
 have c161b0 : decide (t271 < 0) = false := decide_eq_false c161
 clear c161
 by_cases c171 : t271 = t269
 rotate_left
 · rw [if_neg c171] at H
   have c171b0 : (t271 == t269) = false := beq_eq_false_iff_ne.mpr c171
   have c171b1 : (t271 != t269) = true := bne_iff_ne.mpr c171
   cases H
 rw [if_pos c171] at H
 have c171b0 : (t271 == t269) = true := beq_iff_eq.mpr c171
 have c171b1 : (t271 != t269) = false := bne_eq_false_iff_eq.mpr c171
 clear c171
 replace H := Option.bind_eq_some_iff.mp H
 obtain ⟨t272, A1720, H⟩ := H
 replace H : ((laws_toBig.f kj108 l1_0).bind fun t275 => ((impl_AddBig.f kj108 t272 t275).bind fun bt278 => ((laws_eqBig.f kj108 bt278.1 t237).bind fun t283 => (if t283 = true then (laws_FnExactAddBig.j2 kj108 t269 (bt278.2 != t240) t270) else (laws_FnExactAddBig.j2 kj108 t269 true t270))))) = some true := H
 have A172 := Aside0.mk A1720
 clear A1720
 replace H := Option.bind_eq_some_iff.mp H
 obtain ⟨t275, A1730, H⟩ := H
 replace H : ((impl_AddBig.f kj108 t272 t275).bind fun bt278 => ((laws_eqBig.f kj108 bt278.1 t237).bind fun t283 => (if t283 = true then (laws_FnExactAddBig.j2 kj108 t269 (bt278.2 != t240) t270) else (laws_FnExactAddBig.j2 kj108 t269 true t270)))) = some true := H
 have A173 := Aside0.mk A1730
 clear A1730
 replace H := Option.bind_eq_some_iff.mp H
 obtain ⟨⟨t278, t281⟩, A1740, H⟩ := H
 replace H : ((laws_eqBig.f kj108 t278 t237).bind fun t283 => (if t283 = true then (laws_FnExactAddBig.j2 kj108 t269 (t281 != t240) t270) else (laws_FnExactAddBig.j2 kj108 t269 true t270))) = some true := H
 have A174 := Aside0.mk A1740
 clear A1740
 have HC175 := Aside0.mk H
 clear H
 have hnb176 := NB254_227.out
 have hnc176 := NB227_254.out
 have hnb177 := NB254_228.out
 have hnc177 := NB228_254.out
 have hnb178 := NB254_241.out
 have hnc178 := NB241_254.out
 have hnb179 := NB254_245.out
 have hnc179 := NB245_254.out
 have hnb180 := NB254_249.out
 have hnc180 := NB249_254.out
 have hcz181_0 : wc.cell? ⟨gb254, 0, none⟩ = some (.slice Ao67 t250.length co67) := (blk_cell BK254.out 0).trans rfl
 have hfz181_0 := blk_frozen BK254.out 0
 try go_wp2_with (first | ((with_reducible refine gate_callee (f := 22) rfl ?_); refine goesL_ (some 85) rfl rfl Try.func22 (by kernel_rfl) rfl #[.agg #[.slice Ao67 t250.length co67], .int .i64 1] rfl (by (try simp only [List.map_toArray, List.map_cons, List.map_nil]); first | done | rfl | (simp only [List.length_drop, List.length_take]; rfl)) ?_; (with_reducible refine (laws_markBig.calls kj108 (fun k_ => some k_ = (.slice Ao67 t250.length co67 : Value).ownBlock) (.slice Ao67 t250.length co67) t250 1 t269 t270 w _ ?side1 ?side2 A159.out).mono ?_); (case side1 => repeat (first | (with_reducible first | exact HB.out | apply below_alloc | apply pw_below_drewN | apply below_drew1 | refine below_set ?_ GE227.out | refine below_set ?_ GE228.out | refine below_set ?_ GE241.out | refine below_set ?_ GE245.out | refine below_set ?_ GE249.out | refine below_set ?_ GE254.out) | exact HB.out)); (case side2 => exact Kd.R_tight rfl HO_255000.out); rintro e w182 ⟨rfl, hy0, hb, hkp⟩; refine ⟨_, rfl, ?_⟩; have n0_ := Aside0.mk (Kd.R_mono (ok' := fun k_ => some k_ ≠ (.slice Ao47 t265.length co47 : Value).ownBlock ∧ some k_ ≠ (.slice Ao56 t267.length co56 : Value).ownBlock ∧ some k_ ≠ (.slice Ao67 t250.length co67 : Value).ownBlock) (Kd.R_keptB (HO_242000.out) hkp (fun k_ hk_ hs_ => (hk_.2.2) hs_)) (fun k_ hk_ => ⟨hk_.1.1, hk_.1.2.1, hk_.1.2.2⟩)); have n1_ := Aside0.mk (Kd.R_mono (ok' := fun k_ => some k_ ≠ (.slice Ao41 t237.length co41 : Value).ownBlock ∧ some k_ ≠ (.slice Ao56 t267.length co56 : Value).ownBlock ∧ some k_ ≠ (.slice Ao67 t250.length co67 : Value).ownBlock) (Kd.R_keptB (HO_246000.out) hkp (fun k_ hk_ hs_ => (hk_.2.2) hs_)) (fun k_ hk_ => ⟨hk_.1.1, hk_.1.2.1, hk_.1.2.2⟩)); have n2_ := Aside0.mk (Kd.R_mono (ok' := fun k_ => some k_ ≠ (.slice Ao41 t237.length co41 : Value).ownBlock ∧ some k_ ≠ (.slice Ao47 t265.length co47 : Value).ownBlock ∧ some k_ ≠ (.slice Ao67 t250.length co67 : Value).ownBlock) (Kd.R_keptB (HO_250000.out) hkp (fun k_ hk_ hs_ => (hk_.2.2) hs_)) (fun k_ hk_ => ⟨hk_.1.1, hk_.1.2.1, hk_.1.2.2⟩)); have n3_ := Aside0.mk (Kd.R_reok rfl hy0 (fun k_ e_ => HO_255000.out.1 k_ e_)); have n4_ := Aside0.mk (blk_kept (bq BK227) hkp (fun hs_ => (fun e_ => (Kd.R_ne HO_255000.out BK227.out (by decide)) e_) hs_)); have n5_ := Aside0.mk (blk_kept (bq BK228) hkp (fun hs_ => (fun e_ => (Kd.R_ne HO_255000.out BK228.out (by decide)) e_) hs_)); have n6_ := Aside0.mk (blk_kept (bq BK241) hkp (fun hs_ => (fun e_ => (Kd.R_ne HO_255000.out BK241.out (by decide)) e_) hs_)); have n7_ := Aside0.mk (blk_kept (bq BK245) hkp (fun hs_ => (fun e_ => (Kd.R_ne HO_255000.out BK245.out (by decide)) e_) hs_)); have n8_ := Aside0.mk (blk_kept (bq BK249) hkp (fun hs_ => (fun e_ => (Kd.R_ne HO_255000.out BK249.out (by decide)) e_) hs_)); have n9_ := Aside0.mk (blk_kept (bq BK254) hkp (fun hs_ => (fun e_ => (Kd.R_ne HO_255000.out BK254.out (by decide)) e_) hs_)); have n10_ := Aside0.mk (hb); clear HO_242000; clear HO_246000; clear HO_250000; clear HO_255000; clear BK227; clear BK228; clear BK241; clear BK245; clear BK249; clear BK254; clear HB; have HO_242000 := n0_; have HO_246000 := n1_; have HO_250000 := n2_; have HO_255000 := n3_; have BK227 := n4_; have BK228 := n5_; have BK241 := n6_; have BK245 := n7_; have BK249 := n8_; have BK254 := n9_; have HB := n10_; clear n0_ n1_ n2_ n3_ n4_ n5_ n6_ n7_ n8_ n9_ n10_; (try clear hb); (try clear hkp); (try clear hy0); have hcz183_0 : w182.cell? ⟨gb254, 0, none⟩ = some (.slice Ao67 t250.length co67) := (blk_cell BK254.out 0).trans rfl; have hfz183_0 := blk_frozen BK254.out 0) | ((with_reducible refine gate_callee (f := 23) rfl ?_); refine goesL_ (some 88) rfl rfl Try.func23 (by kernel_rfl) rfl #[.agg #[.slice Ao67 t270.length co67], .int .i64 1] rfl (by (try simp only [List.map_toArray, List.map_cons, List.map_nil]); first | done | (rw [show t270.length = t250.length from (Kd.R_reads' HO_255000.out).1.symm] <;> rfl) | rfl | (simp only [List.length_drop, List.length_take]; rfl)) ?_; (with_reducible refine (laws_heldBig.calls kj108 _ _ t270 1 t271 _ ?side1 ?side2 A160.out).mono ?_); (case side1 => repeat (first | exact (Kd.R_reads' HO_255000.out).2.2 | (with_reducible refine Kd.C_alloc ?_ _) | (with_reducible refine Kd.C_drewN ?_ _) | (with_reducible refine Kd.C_drew ?_))); (case side2 => rw [show t270.length = t250.length from (Kd.R_reads' HO_255000.out).1.symm]; exact (Kd.R_reads' HO_255000.out).2.1); rintro e w184 ⟨rfl, hb⟩; refine ⟨_, rfl, ?_⟩; have n0_ := Aside0.mk (qb HO_242000 hb); have n1_ := Aside0.mk (qb HO_246000 hb); have n2_ := Aside0.mk (qb HO_250000 hb); have n3_ := Aside0.mk (qb HO_255000 hb); have n4_ := Aside0.mk (bB BK227 hb); have n5_ := Aside0.mk (bB BK228 hb); have n6_ := Aside0.mk (bB BK241 hb); have n7_ := Aside0.mk (bB BK245 hb); have n8_ := Aside0.mk (bB BK249 hb); have n9_ := Aside0.mk (bB BK254 hb); have n10_ := Aside0.mk (below_step (hq6 HB GE227 GE228 GE241 GE245 GE249 GE254) hb); clear HO_242000; clear HO_246000; clear HO_250000; clear HO_255000; clear BK227; clear BK228; clear BK241; clear BK245; clear BK249; clear BK254; clear HB; have HO_242000 := n0_; have HO_246000 := n1_; have HO_250000 := n2_; have HO_255000 := n3_; have BK227 := n4_; have BK228 := n5_; have BK241 := n6_; have BK245 := n7_; have BK249 := n8_; have BK254 := n9_; have HB := n10_; clear n0_ n1_ n2_ n3_ n4_ n5_ n6_ n7_ n8_ n9_ n10_; (try clear hb); (try clear hb2); (try clear hk); (try clear hi)))
 have n0_ := Aside0.mk (Kd.R_drew HO_242000.out)
 have n1_ := Aside0.mk (Kd.R_drew HO_246000.out)
 have n2_ := Aside0.mk (Kd.R_drew HO_250000.out)
 have n3_ := Aside0.mk (Kd.R_drew HO_255000.out)
 have n4_ := Aside0.mk (blk_drew BK227.out)
 have n5_ := Aside0.mk (blk_drew BK228.out)
 have n6_ := Aside0.mk (blk_drew BK241.out)
 have n7_ := Aside0.mk (blk_drew BK245.out)
 have n8_ := Aside0.mk (blk_drew BK249.out)
 have n9_ := Aside0.mk (blk_drew BK254.out)
 have n10_ := Aside0.mk (below_drew1 HB.out)
 clear HO_242000
 clear HO_246000
 clear HO_250000
 clear HO_255000
 clear BK227
 clear BK228
 clear BK241
 clear BK245
 clear BK249
 clear BK254
 clear HB
 have HO_242000 := n0_
 have HO_246000 := n1_
 have HO_250000 := n2_
 have HO_255000 := n3_
 have BK227 := n4_
 have BK228 := n5_
 have BK241 := n6_
 have BK245 := n7_
 have BK249 := n8_
 have BK254 := n9_
 have HB := n10_
 clear n0_ n1_ n2_ n3_ n4_ n5_ n6_ n7_ n8_ n9_ n10_
 refine start_ (n := 11) (S := fun w' => w'.cell? ⟨gb227, 0, none⟩ = some (.slice A0_0 l0_0.length c0_0) ∧ w'.cell? ⟨gb228, 0, none⟩ = some (.slice A1_0 l1_0.length c1_0)) (ds := []) #[false, false, false, false, false, false, false, false, false, false, false] (by kernel_rfl) rfl rfl ⟨(blk_cell BK227.out 0).trans rfl, (blk_cell BK228.out 0).trans rfl⟩ (fun hHeld => ?_); refine with_tabW laws_FnExactAddBig.tab31 laws_FnExactAddBig.bits31 (fun HT_ HW_ => ?_)
 generalize w184.drew = w185 at HO_242000 HO_246000 HO_250000 HO_255000 BK227 BK228 BK241 BK245 BK249 BK254 HB hHeld ⊢
 refine take_ (i := 0) (N := some 95) (v := ?_) (a' := ?_) #[true, false, false, false, false, false, false, false, false, false, false] rfl rfl (take_ofW HT_.out HW_.out (by kernel_rfl)) (fun _ _ _ h => h) (Or.inl ⟨by rfl, ?_⟩) hHeld ?_ ?_
 rotate_left
 · rintro w' ⟨s0, s1⟩
   go_simp
   with_reducible rfl
 rotate_left
 · simp only [Act.put, List.setIfInBounds_toArray, List.set_cons_zero, List.set_cons_succ, i64_w, i32_w]
   rfl
 refine take_ (i := 2) (N := some 97) (v := ?_) (a' := ?_) #[true, false, true, false, false, false, false, false, false, false, false] rfl rfl (take_ofW HT_.out HW_.out (by kernel_rfl)) (fun _ _ _ h => h) (Or.inl ⟨by rfl, ?_⟩) hHeld ?_ ?_
 rotate_left
 · rintro w' ⟨s0, s1⟩
   go_simp
   with_reducible rfl
 rotate_left
 · simp only [Act.put, List.setIfInBounds_toArray, List.set_cons_zero, List.set_cons_succ, i64_w, i32_w]
   rfl
 refine join_ (σ := Value × Value × Value × Nat) 2 #[true, true, true, true, true, true, true, true, true, false, false] (fun s_ => [(96, .agg #[s_.1]), (98, .agg #[s_.2.1]), (99, .tuple #[.agg #[s_.2.2.1], .bool t281]), (15, .pointer (some ⟨s_.2.2.2, 0, none⟩)), (94, .tuple #[.agg #[s_.2.2.1], .bool t281]), (100, .agg #[s_.2.2.1]), (101, .bool t281)]) (fun s_ w' => (w'.cell? ⟨gb227, 0, none⟩ = some (.slice A0_0 l0_0.length c0_0) ∧ w'.cell? ⟨gb228, 0, none⟩ = some (.slice A1_0 l1_0.length c1_0)) ∧ (Kd.R (Kd.int .i64) 3 w' w.heap.size (fun k_ => some k_ ≠ (s_.2.1 : Value).ownBlock ∧ some k_ ≠ (s_.2.2.1 : Value).ownBlock ∧ some k_ ≠ (.slice Ao41 t237.length co41 : Value).ownBlock ∧ some k_ ≠ (.slice Ao47 t265.length co47 : Value).ownBlock ∧ some k_ ≠ (.slice Ao56 t267.length co56 : Value).ownBlock ∧ some k_ ≠ (.slice Ao67 t250.length co67 : Value).ownBlock) s_.1 t272) ∧ (Kd.R (Kd.int .i64) 3 w' w.heap.size (fun k_ => some k_ ≠ (s_.1 : Value).ownBlock ∧ some k_ ≠ (s_.2.2.1 : Value).ownBlock ∧ some k_ ≠ (.slice Ao41 t237.length co41 : Value).ownBlock ∧ some k_ ≠ (.slice Ao47 t265.length co47 : Value).ownBlock ∧ some k_ ≠ (.slice Ao56 t267.length co56 : Value).ownBlock ∧ some k_ ≠ (.slice Ao67 t250.length co67 : Value).ownBlock) s_.2.1 t275) ∧ (Kd.R (Kd.int .i64) 3 w' w.heap.size (fun k_ => some k_ ≠ (s_.1 : Value).ownBlock ∧ some k_ ≠ (s_.2.1 : Value).ownBlock ∧ some k_ ≠ (.slice Ao41 t237.length co41 : Value).ownBlock ∧ some k_ ≠ (.slice Ao47 t265.length co47 : Value).ownBlock ∧ some k_ ≠ (.slice Ao56 t267.length co56 : Value).ownBlock ∧ some k_ ≠ (.slice Ao67 t250.length co67 : Value).ownBlock) s_.2.2.1 t278) ∧ (Kd.R (Kd.int .i64) 3 w' w.heap.size (fun k_ => some k_ ≠ (s_.1 : Value).ownBlock ∧ some k_ ≠ (s_.2.1 : Value).ownBlock ∧ some k_ ≠ (s_.2.2.1 : Value).ownBlock ∧ some k_ ≠ (.slice Ao47 t265.length co47 : Value).ownBlock ∧ some k_ ≠ (.slice Ao56 t267.length co56 : Value).ownBlock ∧ some k_ ≠ (.slice Ao67 t250.length co67 : Value).ownBlock) (.slice Ao41 t237.length co41) t237) ∧ (Kd.R (Kd.int .i64) 3 w' w.heap.size (fun k_ => some k_ ≠ (s_.1 : Value).ownBlock ∧ some k_ ≠ (s_.2.1 : Value).ownBlock ∧ some k_ ≠ (s_.2.2.1 : Value).ownBlock ∧ some k_ ≠ (.slice Ao41 t237.length co41 : Value).ownBlock ∧ some k_ ≠ (.slice Ao56 t267.length co56 : Value).ownBlock ∧ some k_ ≠ (.slice Ao67 t250.length co67 : Value).ownBlock) (.slice Ao47 t265.length co47) t265) ∧ (Kd.R (Kd.int .i64) 3 w' w.heap.size (fun k_ => some k_ ≠ (s_.1 : Value).ownBlock ∧ some k_ ≠ (s_.2.1 : Value).ownBlock ∧ some k_ ≠ (s_.2.2.1 : Value).ownBlock ∧ some k_ ≠ (.slice Ao41 t237.length co41 : Value).ownBlock ∧ some k_ ≠ (.slice Ao47 t265.length co47 : Value).ownBlock ∧ some k_ ≠ (.slice Ao67 t250.length co67 : Value).ownBlock) (.slice Ao56 t267.length co56) t267) ∧ (Kd.R (Kd.int .i64) 3 w' w.heap.size (fun k_ => some k_ ≠ (s_.1 : Value).ownBlock ∧ some k_ ≠ (s_.2.1 : Value).ownBlock ∧ some k_ ≠ (s_.2.2.1 : Value).ownBlock ∧ some k_ ≠ (.slice Ao41 t237.length co41 : Value).ownBlock ∧ some k_ ≠ (.slice Ao47 t265.length co47 : Value).ownBlock ∧ some k_ ≠ (.slice Ao56 t267.length co56 : Value).ownBlock) (.slice Ao67 t250.length co67) t270) ∧ (w'.heap[gb227]? = some (.cells #[.slice A0_0 l0_0.length c0_0] 24 (0, 0))) ∧ (w'.heap[gb228]? = some (.cells #[.slice A1_0 l1_0.length c1_0] 24 (0, 0))) ∧ (w'.heap[gb241]? = some (.cells #[.slice Ao41 t237.length co41] 27 (0, 0))) ∧ (w'.heap[gb245]? = some (.cells #[.slice Ao47 t265.length co47] 27 (0, 0))) ∧ (w'.heap[gb249]? = some (.cells #[.slice Ao56 t267.length co56] 27 (0, 0))) ∧ (w'.heap[gb254]? = some (.cells #[.slice Ao67 t250.length co67] 27 (0, 0))) ∧ (w'.heap[s_.2.2.2]? = some (.cells #[.slice none 0 0] 27 (0, 0))) ∧ (w.heap.size ≤ s_.2.2.2) ∧ (w.heap.size ≤ s_.2.2.2) ∧ (gb227 ≠ s_.2.2.2) ∧ (s_.2.2.2 ≠ gb227) ∧ (gb228 ≠ s_.2.2.2) ∧ (s_.2.2.2 ≠ gb228) ∧ (gb241 ≠ s_.2.2.2) ∧ (s_.2.2.2 ≠ gb241) ∧ (gb245 ≠ s_.2.2.2) ∧ (s_.2.2.2 ≠ gb245) ∧ (gb249 ≠ s_.2.2.2) ∧ (s_.2.2.2 ≠ gb249) ∧ (gb254 ≠ s_.2.2.2) ∧ (s_.2.2.2 ≠ gb254) ∧ (Below w.heap.size w w')) ?_ ?_
 rotate_left
 · intro hCont
   refine two_ (i := 1) (j := 8) (Ni := some 96) (Nj := some 15) #[true, true, true, false, false, false, false, false, false, false, false] #[true, false, true, false, false, false, false, false, true, false, false] rfl rfl rfl rfl (two_of HT_.out (by kernel_rfl)) (by decide) (by decide) (fun K hK => ?_) (fun K hK => ?_)
   · skip
     refine goes_ Try.func17 (by kernel_rfl) rfl #[.agg #[.slice A0_0 l0_0.length c0_0]] (by rfl) rfl rfl (by (try simp only [List.map_toArray, List.map_cons, List.map_nil]); first | done | rfl | (simp only [List.length_drop, List.length_take]; rfl)) ?_
     with_reducible refine (laws_toBig.calls kj108 _ _ l0_0 t272 _ ?side1 ?side2 A172.out).mono ?_
     (case side1 => repeat (first | exact (Kd.C_below HR0_0.out HB.out) | (with_reducible refine Kd.C_alloc ?_ _) | (with_reducible refine Kd.C_drewN ?_ _) | (with_reducible refine Kd.C_drew ?_)))
     (case side2 => exact HC0_0.out)
     rintro e w186 ⟨v273, rfl, ho0, hb⟩
     refine ⟨_, rfl, ?_⟩
     have n0_ := Aside0.mk (qe HO_242000 ho0 hb)
     have n1_ := Aside0.mk (qe HO_246000 ho0 hb)
     have n2_ := Aside0.mk (qe HO_250000 ho0 hb)
     have n3_ := Aside0.mk (qe HO_255000 ho0 hb)
     have n4_ := Aside0.mk (Kd.R_lower (Kd.R_new' (Kd.R_new' (Kd.R_new' (Kd.R_new' ho0 (ql HO_242000)) (ql HO_246000)) (ql HO_250000)) (ql HO_255000)) (below_size (hq6 HB GE227 GE228 GE241 GE245 GE249 GE254)))
     have n5_ := Aside0.mk (bB BK227 hb)
     have n6_ := Aside0.mk (bB BK228 hb)
     have n7_ := Aside0.mk (bB BK241 hb)
     have n8_ := Aside0.mk (bB BK245 hb)
     have n9_ := Aside0.mk (bB BK249 hb)
     have n10_ := Aside0.mk (bB BK254 hb)
     have n11_ := Aside0.mk (below_step (hq6 HB GE227 GE228 GE241 GE245 GE249 GE254) hb)
     clear HO_242000
     clear HO_246000
     clear HO_250000
     clear HO_255000
     clear BK227
     clear BK228
     clear BK241
     clear BK245
     clear BK249
     clear BK254
     clear HB
     have HO_242000 := n0_
     have HO_246000 := n1_
     have HO_250000 := n2_
     have HO_255000 := n3_
     have HO274 := n4_
     have BK227 := n5_
     have BK228 := n6_
     have BK241 := n7_
     have BK245 := n8_
     have BK249 := n9_
     have BK254 := n10_
     have HB := n11_
     clear n0_ n1_ n2_ n3_ n4_ n5_ n6_ n7_ n8_ n9_ n10_ n11_
     (try clear hb)
     (try clear hb2)
     (try clear hk)
     (try clear hi)
     (try clear ho0)
     refine hK.out _ _ ⟨(blk_cell BK227.out 0).trans rfl, (blk_cell BK228.out 0).trans rfl⟩ (fun hHeld => ?_)
     clear hK K
     refine norm_ (a' := ?_) ?_ ?_
     rotate_left
     · show Act.put _ (some 96) _ = _
       simp only [Act.put, List.setIfInBounds_toArray, List.set_cons_zero, List.set_cons_succ, i64_w, i32_w]
       rfl
     refine two_ (i := 3) (j := 8) (Ni := some 98) (Nj := some 15) #[true, true, true, true, false, false, false, false, false, false, false] #[true, true, true, false, false, false, false, false, true, false, false] rfl rfl rfl rfl (two_of HT_.out (by kernel_rfl)) (by decide) (by decide) (fun K hK => ?_) (fun K hK => ?_)
     · skip
       refine goes_ Try.func17 (by kernel_rfl) rfl #[.agg #[.slice A1_0 l1_0.length c1_0]] (by rfl) rfl rfl (by (try simp only [List.map_toArray, List.map_cons, List.map_nil]); first | done | rfl | (simp only [List.length_drop, List.length_take]; rfl)) ?_
       with_reducible refine (laws_toBig.calls kj108 _ _ l1_0 t275 _ ?side1 ?side2 A173.out).mono ?_
       (case side1 => repeat (first | exact (Kd.C_below HR1_0.out HB.out) | (with_reducible refine Kd.C_alloc ?_ _) | (with_reducible refine Kd.C_drewN ?_ _) | (with_reducible refine Kd.C_drew ?_)))
       (case side2 => exact HC1_0.out)
       rintro e w187 ⟨v276, rfl, ho0, hb⟩
       refine ⟨_, rfl, ?_⟩
       have n0_ := Aside0.mk (qe HO_242000 ho0 hb)
       have n1_ := Aside0.mk (qe HO_246000 ho0 hb)
       have n2_ := Aside0.mk (qe HO_250000 ho0 hb)
       have n3_ := Aside0.mk (qe HO_255000 ho0 hb)
       have n4_ := Aside0.mk (qe HO274 ho0 hb)
       have n5_ := Aside0.mk (Kd.R_lower (Kd.R_new' (Kd.R_new' (Kd.R_new' (Kd.R_new' (Kd.R_new' ho0 (ql HO_242000)) (ql HO_246000)) (ql HO_250000)) (ql HO_255000)) (ql HO274)) (below_size (hq6 HB GE227 GE228 GE241 GE245 GE249 GE254)))
       have n6_ := Aside0.mk (bB BK227 hb)
       have n7_ := Aside0.mk (bB BK228 hb)
       have n8_ := Aside0.mk (bB BK241 hb)
       have n9_ := Aside0.mk (bB BK245 hb)
       have n10_ := Aside0.mk (bB BK249 hb)
       have n11_ := Aside0.mk (bB BK254 hb)
       have n12_ := Aside0.mk (below_step (hq6 HB GE227 GE228 GE241 GE245 GE249 GE254) hb)
       clear HO_242000
       clear HO_246000
       clear HO_250000
       clear HO_255000
       clear HO274
       clear BK227
       clear BK228
       clear BK241
       clear BK245
       clear BK249
       clear BK254
       clear HB
       have HO_242000 := n0_
       have HO_246000 := n1_
       have HO_250000 := n2_
       have HO_255000 := n3_
       have HO274 := n4_
       have HO277 := n5_
       have BK227 := n6_
       have BK228 := n7_
       have BK241 := n8_
       have BK245 := n9_
       have BK249 := n10_
       have BK254 := n11_
       have HB := n12_
       clear n0_ n1_ n2_ n3_ n4_ n5_ n6_ n7_ n8_ n9_ n10_ n11_ n12_
       (try clear hb)
       (try clear hb2)
       (try clear hk)
       (try clear hi)
       (try clear ho0)
       obtain ⟨Ao188, co188, eo188⟩ := Kd.R_slice HO274.out
       (first | subst eo188 | (injection eo188 with f1_ f2_ f3_; have f4_ := f1_.symm; have f5_ := f3_.symm; clear f1_ f2_ f3_; subst f4_; subst f5_))
       obtain ⟨Ao189, co189, eo189⟩ := Kd.R_slice HO277.out
       (first | subst eo189 | (injection eo189 with f1_ f2_ f3_; have f4_ := f1_.symm; have f5_ := f3_.symm; clear f1_ f2_ f3_; subst f4_; subst f5_))
       refine hK.out _ _ ⟨(blk_cell BK227.out 0).trans rfl, (blk_cell BK228.out 0).trans rfl⟩ (fun hHeld => ?_)
       clear hK K
       refine norm_ (a' := ?_) ?_ ?_
       rotate_left
       · show Act.put _ (some 98) _ = _
         simp only [Act.put, List.setIfInBounds_toArray, List.set_cons_zero, List.set_cons_succ, i64_w, i32_w]
         rfl
       refine two_ (i := 4) (j := 8) (Ni := some 99) (Nj := some 15) #[true, true, true, true, true, false, false, false, false, false, false] #[true, true, true, true, false, false, false, false, true, false, false] rfl rfl rfl rfl (two_of HT_.out (by kernel_rfl)) (by decide) (by decide) (fun K hK => ?_) (fun K hK => ?_)
       · skip
         refine goes_ Try.func25 (by kernel_rfl) rfl #[.agg #[.slice Ao188 t272.length co188], .agg #[.slice Ao189 t275.length co189]] (by rfl) rfl rfl (by (try simp only [List.map_toArray, List.map_cons, List.map_nil]); first | done | rfl | (simp only [List.length_drop, List.length_take]; rfl)) ?_
         with_reducible refine (impl_AddBig.calls kj108 (fun k_ => some k_ = (.slice Ao188 t272.length co188 : Value).ownBlock) _ _ t272 (fun k_ => some k_ = (.slice Ao189 t275.length co189 : Value).ownBlock) _ _ t275 t278 t281 _ ?side1 ?side2 A174.out).mono ?_
         (case side1 => exact Kd.R_V (Kd.R_tight rfl (Kd.R_types (Kd.R_types (Kd.R_types (Kd.R_types (Kd.R_types (Kd.R_types (HO274.out) BK227.out (by decide)) BK228.out (by decide)) BK241.out (by decide)) BK245.out (by decide)) BK249.out (by decide)) BK254.out (by decide))))
         (case side2 => exact Kd.R_V (Kd.R_tight rfl (Kd.R_types (Kd.R_types (Kd.R_types (Kd.R_types (Kd.R_types (Kd.R_types (HO277.out) BK227.out (by decide)) BK228.out (by decide)) BK241.out (by decide)) BK245.out (by decide)) BK249.out (by decide)) BK254.out (by decide))))
         rintro e w190 ⟨v279, rfl, ho0, hb⟩
         refine ⟨_, rfl, ?_⟩
         have n0_ := Aside0.mk (qe HO_242000 ho0 hb)
         have n1_ := Aside0.mk (qe HO_246000 ho0 hb)
         have n2_ := Aside0.mk (qe HO_250000 ho0 hb)
         have n3_ := Aside0.mk (qe HO_255000 ho0 hb)
         have n4_ := Aside0.mk (qe HO274 ho0 hb)
         have n5_ := Aside0.mk (qe HO277 ho0 hb)
         have n6_ := Aside0.mk (Kd.R_lower (Kd.R_new' (Kd.R_new' (Kd.R_new' (Kd.R_new' (Kd.R_new' (Kd.R_new' (Kd.R_mono (ok' := fun k_ => True) ho0 (fun _ hk_ => trivial)) (ql HO_242000)) (ql HO_246000)) (ql HO_250000)) (ql HO_255000)) (ql HO274)) (ql HO277)) (below_size (hq6 HB GE227 GE228 GE241 GE245 GE249 GE254)))
         have n7_ := Aside0.mk (bB BK227 hb)
         have n8_ := Aside0.mk (bB BK228 hb)
         have n9_ := Aside0.mk (bB BK241 hb)
         have n10_ := Aside0.mk (bB BK245 hb)
         have n11_ := Aside0.mk (bB BK249 hb)
         have n12_ := Aside0.mk (bB BK254 hb)
         have n13_ := Aside0.mk (below_step (hq6 HB GE227 GE228 GE241 GE245 GE249 GE254) hb)
         clear HO_242000
         clear HO_246000
         clear HO_250000
         clear HO_255000
         clear HO274
         clear HO277
         clear BK227
         clear BK228
         clear BK241
         clear BK245
         clear BK249
         clear BK254
         clear HB
         have HO_242000 := n0_
         have HO_246000 := n1_
         have HO_250000 := n2_
         have HO_255000 := n3_
         have HO274 := n4_
         have HO277 := n5_
         have HO280 := n6_
         have BK227 := n7_
         have BK228 := n8_
         have BK241 := n9_
         have BK245 := n10_
         have BK249 := n11_
         have BK254 := n12_
         have HB := n13_
         clear n0_ n1_ n2_ n3_ n4_ n5_ n6_ n7_ n8_ n9_ n10_ n11_ n12_ n13_
         (try clear hb)
         (try clear hb2)
         (try clear hk)
         (try clear hi)
         (try clear ho0)
         refine hK.out _ _ ⟨(blk_cell BK227.out 0).trans rfl, (blk_cell BK228.out 0).trans rfl⟩ (fun hHeld => ?_)
         clear hK K
         refine norm_ (a' := ?_) ?_ ?_
         rotate_left
         · show Act.put _ (some 99) _ = _
           simp only [Act.put, List.setIfInBounds_toArray, List.set_cons_zero, List.set_cons_succ, i64_w, i32_w]
           rfl
         refine pure_ (i := 5) (N := some 94) (v := ?_) (a' := ?_) #[true, true, true, true, true, true, false, false, false, false, false] rfl rfl (any_of HT_.out (by kernel_rfl)) (fun _ _ _ h => h) (Or.inl ⟨by rfl, ?_⟩) ?_ ?_
         rotate_left
         · intro w'
           first | (go_simp; with_reducible rfl) | (go_simp; unfold Instr.field; go_simp; rfl)
         rotate_left
         · simp only [Act.put, List.setIfInBounds_toArray, List.set_cons_zero, List.set_cons_succ, i64_w, i32_w]
           rfl
         refine pure_ (i := 6) (N := some 100) (v := ?_) (a' := ?_) #[true, true, true, true, true, true, true, false, false, false, false] rfl rfl (any_of HT_.out (by kernel_rfl)) (fun _ _ _ h => h) (Or.inl ⟨by rfl, ?_⟩) ?_ ?_
         rotate_left
         · intro w'
           first | (go_simp; with_reducible rfl) | (go_simp; unfold Instr.field; go_simp; rfl)
         rotate_left
         · simp only [Act.put, List.setIfInBounds_toArray, List.set_cons_zero, List.set_cons_succ, i64_w, i32_w]
           rfl
         refine pure_ (i := 7) (N := some 101) (v := ?_) (a' := ?_) #[true, true, true, true, true, true, true, true, false, false, false] rfl rfl (any_of HT_.out (by kernel_rfl)) (fun _ _ _ h => h) (Or.inl ⟨by rfl, ?_⟩) ?_ ?_
         rotate_left
         · intro w'
           first | (go_simp; with_reducible rfl) | (go_simp; unfold Instr.field; go_simp; rfl)
         rotate_left
         · simp only [Act.put, List.setIfInBounds_toArray, List.set_cons_zero, List.set_cons_succ, i64_w, i32_w]
           rfl
         refine one_ (i := 8) (N := some 15) #[true, true, true, true, true, true, true, true, true, false, false] rfl rfl (one_of HT_.out (by kernel_rfl)) (by decide) (fun K hK => ?_)
         refine box_step ?hg (N := 15) ?hd (cs := #[.slice none 0 0]) (t := 27) ?hr ?_; (case hd => rfl); (case hg => rfl); (case hr => first | (go_simp; done) | (go_simp; rfl))
         intro gb282 hg w191 hbox hb
         have n0_ := Aside0.mk (qb HO_242000 hb)
         have n1_ := Aside0.mk (qb HO_246000 hb)
         have n2_ := Aside0.mk (qb HO_250000 hb)
         have n3_ := Aside0.mk (qb HO_255000 hb)
         have n4_ := Aside0.mk (qb HO274 hb)
         have n5_ := Aside0.mk (qb HO277 hb)
         have n6_ := Aside0.mk (qb HO280 hb)
         have n7_ := Aside0.mk (bB BK227 hb)
         have n8_ := Aside0.mk (bB BK228 hb)
         have n9_ := Aside0.mk (bB BK241 hb)
         have n10_ := Aside0.mk (bB BK245 hb)
         have n11_ := Aside0.mk (bB BK249 hb)
         have n12_ := Aside0.mk (bB BK254 hb)
         have n13_ := Aside0.mk (below_step (hq6 HB GE227 GE228 GE241 GE245 GE249 GE254) hb)
         have n14_ := Aside0.mk (hbox)
         have n15_ := Aside0.mk (ng hg (hq6 HB GE227 GE228 GE241 GE245 GE249 GE254))
         have n16_ := Aside0.mk (ng hg (hq6 HB GE227 GE228 GE241 GE245 GE249 GE254))
         have n17_ := Aside0.mk (nl hg BK227)
         have n18_ := Aside0.mk (nr hg BK227)
         have n19_ := Aside0.mk (nl hg BK228)
         have n20_ := Aside0.mk (nr hg BK228)
         have n21_ := Aside0.mk (nl hg BK241)
         have n22_ := Aside0.mk (nr hg BK241)
         have n23_ := Aside0.mk (nl hg BK245)
         have n24_ := Aside0.mk (nr hg BK245)
         have n25_ := Aside0.mk (nl hg BK249)
         have n26_ := Aside0.mk (nr hg BK249)
         have n27_ := Aside0.mk (nl hg BK254)
         have n28_ := Aside0.mk (nr hg BK254)
         clear HO_242000
         clear HO_246000
         clear HO_250000
         clear HO_255000
         clear HO274
         clear HO277
         clear HO280
         clear BK227
         clear BK228
         clear BK241
         clear BK245
         clear BK249
         clear BK254
         clear HB
         have HO_242000 := n0_
         have HO_246000 := n1_
         have HO_250000 := n2_
         have HO_255000 := n3_
         have HO274 := n4_
         have HO277 := n5_
         have HO280 := n6_
         have BK227 := n7_
         have BK228 := n8_
         have BK241 := n9_
         have BK245 := n10_
         have BK249 := n11_
         have BK254 := n12_
         have HB := n13_
         have BK282 := n14_
         have GW282 := n15_
         have GE282 := n16_
         have NB227_282 := n17_
         have NB282_227 := n18_
         have NB228_282 := n19_
         have NB282_228 := n20_
         have NB241_282 := n21_
         have NB282_241 := n22_
         have NB245_282 := n23_
         have NB282_245 := n24_
         have NB249_282 := n25_
         have NB282_249 := n26_
         have NB254_282 := n27_
         have NB282_254 := n28_
         clear n0_ n1_ n2_ n3_ n4_ n5_ n6_ n7_ n8_ n9_ n10_ n11_ n12_ n13_ n14_ n15_ n16_ n17_ n18_ n19_ n20_ n21_ n22_ n23_ n24_ n25_ n26_ n27_ n28_
         clear hb hbox hg
         refine hK.out _ _ ⟨(blk_cell BK227.out 0).trans rfl, (blk_cell BK228.out 0).trans rfl⟩ (fun hHeld => ?_)
         clear hK K
         refine norm_ (a' := ?_) ?_ ?_
         rotate_left
         · show Act.put _ (some 15) _ = _
           simp only [Act.put, List.setIfInBounds_toArray, List.set_cons_zero, List.set_cons_succ, i64_w, i32_w]
           rfl
         exact norm_ (by simp only [putAll, Act.put, List.setIfInBounds_toArray, List.set_cons_zero, List.set_cons_succ]) (hCont (.slice Ao188 t272.length co188, .slice Ao189 t275.length co189, v279, gb282) _ ⟨hHeld, (by (with_reducible repeat (first | apply Kd.R_alloc | apply Kd.R_drewN | apply Kd.R_drew)); exact Kd.R_mono HO274.out (fun _ hk => ⟨hk.1.2, ⟨hk.2, ⟨hk.1.1.1.1.1.2, ⟨hk.1.1.1.1.2, ⟨hk.1.1.1.2, hk.1.1.2⟩⟩⟩⟩⟩)), (by (with_reducible repeat (first | apply Kd.R_alloc | apply Kd.R_drewN | apply Kd.R_drew)); exact Kd.R_mono HO277.out (fun _ hk => ⟨hk.1.2, ⟨hk.2, ⟨hk.1.1.1.1.1.2, ⟨hk.1.1.1.1.2, ⟨hk.1.1.1.2, hk.1.1.2⟩⟩⟩⟩⟩)), (by (with_reducible repeat (first | apply Kd.R_alloc | apply Kd.R_drewN | apply Kd.R_drew)); exact Kd.R_mono HO280.out (fun _ hk => ⟨hk.1.2, ⟨hk.2, ⟨hk.1.1.1.1.1.2, ⟨hk.1.1.1.1.2, ⟨hk.1.1.1.2, hk.1.1.2⟩⟩⟩⟩⟩)), (by (with_reducible repeat (first | apply Kd.R_alloc | apply Kd.R_drewN | apply Kd.R_drew)); exact Kd.R_mono HO_242000.out (fun _ hk => ⟨hk.1.1.2, ⟨hk.1.2, ⟨hk.2, ⟨hk.1.1.1.1, ⟨hk.1.1.1.2.1, hk.1.1.1.2.2⟩⟩⟩⟩⟩)), (by (with_reducible repeat (first | apply Kd.R_alloc | apply Kd.R_drewN | apply Kd.R_drew)); exact Kd.R_mono HO_246000.out (fun _ hk => ⟨hk.1.1.2, ⟨hk.1.2, ⟨hk.2, ⟨hk.1.1.1.1, ⟨hk.1.1.1.2.1, hk.1.1.1.2.2⟩⟩⟩⟩⟩)), (by (with_reducible repeat (first | apply Kd.R_alloc | apply Kd.R_drewN | apply Kd.R_drew)); exact Kd.R_mono HO_250000.out (fun _ hk => ⟨hk.1.1.2, ⟨hk.1.2, ⟨hk.2, ⟨hk.1.1.1.1, ⟨hk.1.1.1.2.1, hk.1.1.1.2.2⟩⟩⟩⟩⟩)), (by (with_reducible repeat (first | apply Kd.R_alloc | apply Kd.R_drewN | apply Kd.R_drew)); exact Kd.R_mono HO_255000.out (fun _ hk => ⟨hk.1.1.2, ⟨hk.1.2, ⟨hk.2, ⟨hk.1.1.1.1, ⟨hk.1.1.1.2.1, hk.1.1.1.2.2⟩⟩⟩⟩⟩)), (bq BK227), (bq BK228), (bq BK241), (bq BK245), (bq BK249), (bq BK254), (bq BK282), GW282.out, GE282.out, NB227_282.out, NB282_227.out, NB228_282.out, NB282_228.out, NB241_282.out, NB282_241.out, NB245_282.out, NB282_245.out, NB249_282.out, NB282_249.out, NB254_282.out, NB282_254.out, (hq7 HB GE227 GE228 GE241 GE245 GE249 GE254 GE282)⟩)
       skip
       refine box_step ?hg (N := 15) ?hd (cs := #[.slice none 0 0]) (t := 27) ?hr ?_; (case hd => rfl); (case hg => rfl); (case hr => first | (go_simp; done) | (go_simp; rfl))
       intro gb282 hg w188 hbox hb
       have n0_ := Aside0.mk (qb HO_242000 hb)
       have n1_ := Aside0.mk (qb HO_246000 hb)
       have n2_ := Aside0.mk (qb HO_250000 hb)
       have n3_ := Aside0.mk (qb HO_255000 hb)
       have n4_ := Aside0.mk (qb HO274 hb)
       have n5_ := Aside0.mk (qb HO277 hb)
       have n6_ := Aside0.mk (bB BK227 hb)
       have n7_ := Aside0.mk (bB BK228 hb)
       have n8_ := Aside0.mk (bB BK241 hb)
       have n9_ := Aside0.mk (bB BK245 hb)
       have n10_ := Aside0.mk (bB BK249 hb)
       have n11_ := Aside0.mk (bB BK254 hb)
       have n12_ := Aside0.mk (below_step (hq6 HB GE227 GE228 GE241 GE245 GE249 GE254) hb)
       have n13_ := Aside0.mk (hbox)
       have n14_ := Aside0.mk (ng hg (hq6 HB GE227 GE228 GE241 GE245 GE249 GE254))
       have n15_ := Aside0.mk (ng hg (hq6 HB GE227 GE228 GE241 GE245 GE249 GE254))
       have n16_ := Aside0.mk (nl hg BK227)
       have n17_ := Aside0.mk (nr hg BK227)
       have n18_ := Aside0.mk (nl hg BK228)
       have n19_ := Aside0.mk (nr hg BK228)
       have n20_ := Aside0.mk (nl hg BK241)
       have n21_ := Aside0.mk (nr hg BK241)
       have n22_ := Aside0.mk (nl hg BK245)
       have n23_ := Aside0.mk (nr hg BK245)
       have n24_ := Aside0.mk (nl hg BK249)
       have n25_ := Aside0.mk (nr hg BK249)
       have n26_ := Aside0.mk (nl hg BK254)
       have n27_ := Aside0.mk (nr hg BK254)
       clear HO_242000
       clear HO_246000
       clear HO_250000
       clear HO_255000
       clear HO274
       clear HO277
       clear BK227
       clear BK228
       clear BK241
       clear BK245
       clear BK249
       clear BK254
       clear HB
       have HO_242000 := n0_
       have HO_246000 := n1_
       have HO_250000 := n2_
       have HO_255000 := n3_
       have HO274 := n4_
       have HO277 := n5_
       have BK227 := n6_
       have BK228 := n7_
       have BK241 := n8_
       have BK245 := n9_
       have BK249 := n10_
       have BK254 := n11_
       have HB := n12_
       have BK282 := n13_
       have GW282 := n14_
       have GE282 := n15_
       have NB227_282 := n16_
       have NB282_227 := n17_
       have NB228_282 := n18_
       have NB282_228 := n19_
       have NB241_282 := n20_
       have NB282_241 := n21_
       have NB245_282 := n22_
       have NB282_245 := n23_
       have NB249_282 := n24_
       have NB282_249 := n25_
       have NB254_282 := n26_
       have NB282_254 := n27_
       clear n0_ n1_ n2_ n3_ n4_ n5_ n6_ n7_ n8_ n9_ n10_ n11_ n12_ n13_ n14_ n15_ n16_ n17_ n18_ n19_ n20_ n21_ n22_ n23_ n24_ n25_ n26_ n27_
       clear hb hbox hg
       obtain ⟨Ao189, co189, eo189⟩ := Kd.R_slice HO274.out
       (first | subst eo189 | (injection eo189 with f1_ f2_ f3_; have f4_ := f1_.symm; have f5_ := f3_.symm; clear f1_ f2_ f3_; subst f4_; subst f5_))
       obtain ⟨Ao190, co190, eo190⟩ := Kd.R_slice HO277.out
       (first | subst eo190 | (injection eo190 with f1_ f2_ f3_; have f4_ := f1_.symm; have f5_ := f3_.symm; clear f1_ f2_ f3_; subst f4_; subst f5_))
       refine hK.out _ _ ⟨(blk_cell BK227.out 0).trans rfl, (blk_cell BK228.out 0).trans rfl⟩ (fun hHeld => ?_)
       clear hK K
       refine norm_ (a' := ?_) ?_ ?_
       rotate_left
       · show Act.put _ (some 15) _ = _
         simp only [Act.put, List.setIfInBounds_toArray, List.set_cons_zero, List.set_cons_succ, i64_w, i32_w]
         rfl
       refine one_ (i := 4) (N := some 99) #[true, true, true, true, true, false, false, false, true, false, false] rfl rfl (one_of HT_.out (by kernel_rfl)) (by decide) (fun K hK => ?_)
       refine goes_ Try.func25 (by kernel_rfl) rfl #[.agg #[.slice Ao189 t272.length co189], .agg #[.slice Ao190 t275.length co190]] (by rfl) rfl rfl (by (try simp only [List.map_toArray, List.map_cons, List.map_nil]); first | done | rfl | (simp only [List.length_drop, List.length_take]; rfl)) ?_
       with_reducible refine (impl_AddBig.calls kj108 (fun k_ => some k_ = (.slice Ao189 t272.length co189 : Value).ownBlock) _ _ t272 (fun k_ => some k_ = (.slice Ao190 t275.length co190 : Value).ownBlock) _ _ t275 t278 t281 _ ?side1 ?side2 A174.out).mono ?_
       (case side1 => exact Kd.R_V (Kd.R_tight rfl (Kd.R_types (Kd.R_types (Kd.R_types (Kd.R_types (Kd.R_types (Kd.R_types (Kd.R_types (HO274.out) BK227.out (by decide)) BK228.out (by decide)) BK241.out (by decide)) BK245.out (by decide)) BK249.out (by decide)) BK254.out (by decide)) BK282.out (by decide))))
       (case side2 => exact Kd.R_V (Kd.R_tight rfl (Kd.R_types (Kd.R_types (Kd.R_types (Kd.R_types (Kd.R_types (Kd.R_types (Kd.R_types (HO277.out) BK227.out (by decide)) BK228.out (by decide)) BK241.out (by decide)) BK245.out (by decide)) BK249.out (by decide)) BK254.out (by decide)) BK282.out (by decide))))
       rintro e w191 ⟨v279, rfl, ho0, hb⟩
       refine ⟨_, rfl, ?_⟩
       have n0_ := Aside0.mk (qe HO_242000 ho0 hb)
       have n1_ := Aside0.mk (qe HO_246000 ho0 hb)
       have n2_ := Aside0.mk (qe HO_250000 ho0 hb)
       have n3_ := Aside0.mk (qe HO_255000 ho0 hb)
       have n4_ := Aside0.mk (qe HO274 ho0 hb)
       have n5_ := Aside0.mk (qe HO277 ho0 hb)
       have n6_ := Aside0.mk (Kd.R_lower (Kd.R_new' (Kd.R_new' (Kd.R_new' (Kd.R_new' (Kd.R_new' (Kd.R_new' (Kd.R_mono (ok' := fun k_ => True) ho0 (fun _ hk_ => trivial)) (ql HO_242000)) (ql HO_246000)) (ql HO_250000)) (ql HO_255000)) (ql HO274)) (ql HO277)) (below_size (hq7 HB GE227 GE228 GE241 GE245 GE249 GE254 GE282)))
       have n7_ := Aside0.mk (bB BK227 hb)
       have n8_ := Aside0.mk (bB BK228 hb)
       have n9_ := Aside0.mk (bB BK241 hb)
       have n10_ := Aside0.mk (bB BK245 hb)
       have n11_ := Aside0.mk (bB BK249 hb)
       have n12_ := Aside0.mk (bB BK254 hb)
       have n13_ := Aside0.mk (bB BK282 hb)
       have n14_ := Aside0.mk (below_step (hq7 HB GE227 GE228 GE241 GE245 GE249 GE254 GE282) hb)
       clear HO_242000
       clear HO_246000
       clear HO_250000
       clear HO_255000
       clear HO274
       clear HO277
       clear BK227
       clear BK228
       clear BK241
       clear BK245
       clear BK249
       clear BK254
       clear BK282
       clear HB
       have HO_242000 := n0_
       have HO_246000 := n1_
       have HO_250000 := n2_
       have HO_255000 := n3_
       have HO274 := n4_
       have HO277 := n5_
       have HO280 := n6_
       have BK227 := n7_
       have BK228 := n8_
       have BK241 := n9_
       have BK245 := n10_
       have BK249 := n11_
       have BK254 := n12_
       have BK282 := n13_
       have HB := n14_
       clear n0_ n1_ n2_ n3_ n4_ n5_ n6_ n7_ n8_ n9_ n10_ n11_ n12_ n13_ n14_
       (try clear hb)
       (try clear hb2)
       (try clear hk)
       (try clear hi)
       (try clear ho0)
       refine hK.out _ _ ⟨(blk_cell BK227.out 0).trans rfl, (blk_cell BK228.out 0).trans rfl⟩ (fun hHeld => ?_)
       clear hK K
       refine norm_ (a' := ?_) ?_ ?_
       rotate_left
       · show Act.put _ (some 99) _ = _
         simp only [Act.put, List.setIfInBounds_toArray, List.set_cons_zero, List.set_cons_succ, i64_w, i32_w]
         rfl
       refine pure_ (i := 5) (N := some 94) (v := ?_) (a' := ?_) #[true, true, true, true, true, true, false, false, true, false, false] rfl rfl (any_of HT_.out (by kernel_rfl)) (fun _ _ _ h => h) (Or.inl ⟨by rfl, ?_⟩) ?_ ?_
       rotate_left
       · intro w'
         first | (go_simp; with_reducible rfl) | (go_simp; unfold Instr.field; go_simp; rfl)
       rotate_left
       · simp only [Act.put, List.setIfInBounds_toArray, List.set_cons_zero, List.set_cons_succ, i64_w, i32_w]
         rfl
       refine pure_ (i := 6) (N := some 100) (v := ?_) (a' := ?_) #[true, true, true, true, true, true, true, false, true, false, false] rfl rfl (any_of HT_.out (by kernel_rfl)) (fun _ _ _ h => h) (Or.inl ⟨by rfl, ?_⟩) ?_ ?_
       rotate_left
       · intro w'
         first | (go_simp; with_reducible rfl) | (go_simp; unfold Instr.field; go_simp; rfl)
       rotate_left
       · simp only [Act.put, List.setIfInBounds_toArray, List.set_cons_zero, List.set_cons_succ, i64_w, i32_w]
         rfl
       refine pure_ (i := 7) (N := some 101) (v := ?_) (a' := ?_) #[true, true, true, true, true, true, true, true, true, false, false] rfl rfl (any_of HT_.out (by kernel_rfl)) (fun _ _ _ h => h) (Or.inl ⟨by rfl, ?_⟩) ?_ ?_
       rotate_left
       · intro w'
         first | (go_simp; with_reducible rfl) | (go_simp; unfold Instr.field; go_simp; rfl)
       rotate_left
       · simp only [Act.put, List.setIfInBounds_toArray, List.set_cons_zero, List.set_cons_succ, i64_w, i32_w]
         rfl
       exact norm_ (by simp only [putAll, Act.put, List.setIfInBounds_toArray, List.set_cons_zero, List.set_cons_succ]) (hCont (.slice Ao189 t272.length co189, .slice Ao190 t275.length co190, v279, gb282) _ ⟨hHeld, (by (with_reducible repeat (first | apply Kd.R_alloc | apply Kd.R_drewN | apply Kd.R_drew)); exact Kd.R_mono HO274.out (fun _ hk => ⟨hk.1.2, ⟨hk.2, ⟨hk.1.1.1.1.1.2, ⟨hk.1.1.1.1.2, ⟨hk.1.1.1.2, hk.1.1.2⟩⟩⟩⟩⟩)), (by (with_reducible repeat (first | apply Kd.R_alloc | apply Kd.R_drewN | apply Kd.R_drew)); exact Kd.R_mono HO277.out (fun _ hk => ⟨hk.1.2, ⟨hk.2, ⟨hk.1.1.1.1.1.2, ⟨hk.1.1.1.1.2, ⟨hk.1.1.1.2, hk.1.1.2⟩⟩⟩⟩⟩)), (by (with_reducible repeat (first | apply Kd.R_alloc | apply Kd.R_drewN | apply Kd.R_drew)); exact Kd.R_mono HO280.out (fun _ hk => ⟨hk.1.2, ⟨hk.2, ⟨hk.1.1.1.1.1.2, ⟨hk.1.1.1.1.2, ⟨hk.1.1.1.2, hk.1.1.2⟩⟩⟩⟩⟩)), (by (with_reducible repeat (first | apply Kd.R_alloc | apply Kd.R_drewN | apply Kd.R_drew)); exact Kd.R_mono HO_242000.out (fun _ hk => ⟨hk.1.1.2, ⟨hk.1.2, ⟨hk.2, ⟨hk.1.1.1.1, ⟨hk.1.1.1.2.1, hk.1.1.1.2.2⟩⟩⟩⟩⟩)), (by (with_reducible repeat (first | apply Kd.R_alloc | apply Kd.R_drewN | apply Kd.R_drew)); exact Kd.R_mono HO_246000.out (fun _ hk => ⟨hk.1.1.2, ⟨hk.1.2, ⟨hk.2, ⟨hk.1.1.1.1, ⟨hk.1.1.1.2.1, hk.1.1.1.2.2⟩⟩⟩⟩⟩)), (by (with_reducible repeat (first | apply Kd.R_alloc | apply Kd.R_drewN | apply Kd.R_drew)); exact Kd.R_mono HO_250000.out (fun _ hk => ⟨hk.1.1.2, ⟨hk.1.2, ⟨hk.2, ⟨hk.1.1.1.1, ⟨hk.1.1.1.2.1, hk.1.1.1.2.2⟩⟩⟩⟩⟩)), (by (with_reducible repeat (first | apply Kd.R_alloc | apply Kd.R_drewN | apply Kd.R_drew)); exact Kd.R_mono HO_255000.out (fun _ hk => ⟨hk.1.1.2, ⟨hk.1.2, ⟨hk.2, ⟨hk.1.1.1.1, ⟨hk.1.1.1.2.1, hk.1.1.1.2.2⟩⟩⟩⟩⟩)), (bq BK227), (bq BK228), (bq BK241), (bq BK245), (bq BK249), (bq BK254), (bq BK282), GW282.out, GE282.out, NB227_282.out, NB282_227.out, NB228_282.out, NB282_228.out, NB241_282.out, NB282_241.out, NB245_282.out, NB282_245.out, NB249_282.out, NB282_249.out, NB254_282.out, NB282_254.out, (hq7 HB GE227 GE228 GE241 GE245 GE249 GE254 GE282)⟩)
     skip
     refine box_step ?hg (N := 15) ?hd (cs := #[.slice none 0 0]) (t := 27) ?hr ?_; (case hd => rfl); (case hg => rfl); (case hr => first | (go_simp; done) | (go_simp; rfl))
     intro gb282 hg w187 hbox hb
     have n0_ := Aside0.mk (qb HO_242000 hb)
     have n1_ := Aside0.mk (qb HO_246000 hb)
     have n2_ := Aside0.mk (qb HO_250000 hb)
     have n3_ := Aside0.mk (qb HO_255000 hb)
     have n4_ := Aside0.mk (qb HO274 hb)
     have n5_ := Aside0.mk (bB BK227 hb)
     have n6_ := Aside0.mk (bB BK228 hb)
     have n7_ := Aside0.mk (bB BK241 hb)
     have n8_ := Aside0.mk (bB BK245 hb)
     have n9_ := Aside0.mk (bB BK249 hb)
     have n10_ := Aside0.mk (bB BK254 hb)
     have n11_ := Aside0.mk (below_step (hq6 HB GE227 GE228 GE241 GE245 GE249 GE254) hb)
     have n12_ := Aside0.mk (hbox)
     have n13_ := Aside0.mk (ng hg (hq6 HB GE227 GE228 GE241 GE245 GE249 GE254))
     have n14_ := Aside0.mk (ng hg (hq6 HB GE227 GE228 GE241 GE245 GE249 GE254))
     have n15_ := Aside0.mk (nl hg BK227)
     have n16_ := Aside0.mk (nr hg BK227)
     have n17_ := Aside0.mk (nl hg BK228)
     have n18_ := Aside0.mk (nr hg BK228)
     have n19_ := Aside0.mk (nl hg BK241)
     have n20_ := Aside0.mk (nr hg BK241)
     have n21_ := Aside0.mk (nl hg BK245)
     have n22_ := Aside0.mk (nr hg BK245)
     have n23_ := Aside0.mk (nl hg BK249)
     have n24_ := Aside0.mk (nr hg BK249)
     have n25_ := Aside0.mk (nl hg BK254)
     have n26_ := Aside0.mk (nr hg BK254)
     clear HO_242000
     clear HO_246000
     clear HO_250000
     clear HO_255000
     clear HO274
     clear BK227
     clear BK228
     clear BK241
     clear BK245
     clear BK249
     clear BK254
     clear HB
     have HO_242000 := n0_
     have HO_246000 := n1_
     have HO_250000 := n2_
     have HO_255000 := n3_
     have HO274 := n4_
     have BK227 := n5_
     have BK228 := n6_
     have BK241 := n7_
     have BK245 := n8_
     have BK249 := n9_
     have BK254 := n10_
     have HB := n11_
     have BK282 := n12_
     have GW282 := n13_
     have GE282 := n14_
     have NB227_282 := n15_
     have NB282_227 := n16_
     have NB228_282 := n17_
     have NB282_228 := n18_
     have NB241_282 := n19_
     have NB282_241 := n20_
     have NB245_282 := n21_
     have NB282_245 := n22_
     have NB249_282 := n23_
     have NB282_249 := n24_
     have NB254_282 := n25_
     have NB282_254 := n26_
     clear n0_ n1_ n2_ n3_ n4_ n5_ n6_ n7_ n8_ n9_ n10_ n11_ n12_ n13_ n14_ n15_ n16_ n17_ n18_ n19_ n20_ n21_ n22_ n23_ n24_ n25_ n26_
     clear hb hbox hg
     refine hK.out _ _ ⟨(blk_cell BK227.out 0).trans rfl, (blk_cell BK228.out 0).trans rfl⟩ (fun hHeld => ?_)
     clear hK K
     refine norm_ (a' := ?_) ?_ ?_
     rotate_left
     · show Act.put _ (some 15) _ = _
       simp only [Act.put, List.setIfInBounds_toArray, List.set_cons_zero, List.set_cons_succ, i64_w, i32_w]
       rfl
     refine one_ (i := 3) (N := some 98) #[true, true, true, true, false, false, false, false, true, false, false] rfl rfl (one_of HT_.out (by kernel_rfl)) (by decide) (fun K hK => ?_)
     refine goes_ Try.func17 (by kernel_rfl) rfl #[.agg #[.slice A1_0 l1_0.length c1_0]] (by rfl) rfl rfl (by (try simp only [List.map_toArray, List.map_cons, List.map_nil]); first | done | rfl | (simp only [List.length_drop, List.length_take]; rfl)) ?_
     with_reducible refine (laws_toBig.calls kj108 _ _ l1_0 t275 _ ?side1 ?side2 A173.out).mono ?_
     (case side1 => repeat (first | exact (Kd.C_below HR1_0.out HB.out) | (with_reducible refine Kd.C_alloc ?_ _) | (with_reducible refine Kd.C_drewN ?_ _) | (with_reducible refine Kd.C_drew ?_)))
     (case side2 => exact HC1_0.out)
     rintro e w188 ⟨v276, rfl, ho0, hb⟩
     refine ⟨_, rfl, ?_⟩
     have n0_ := Aside0.mk (qe HO_242000 ho0 hb)
     have n1_ := Aside0.mk (qe HO_246000 ho0 hb)
     have n2_ := Aside0.mk (qe HO_250000 ho0 hb)
     have n3_ := Aside0.mk (qe HO_255000 ho0 hb)
     have n4_ := Aside0.mk (qe HO274 ho0 hb)
     have n5_ := Aside0.mk (Kd.R_lower (Kd.R_new' (Kd.R_new' (Kd.R_new' (Kd.R_new' (Kd.R_new' ho0 (ql HO_242000)) (ql HO_246000)) (ql HO_250000)) (ql HO_255000)) (ql HO274)) (below_size (hq7 HB GE227 GE228 GE241 GE245 GE249 GE254 GE282)))
     have n6_ := Aside0.mk (bB BK227 hb)
     have n7_ := Aside0.mk (bB BK228 hb)
     have n8_ := Aside0.mk (bB BK241 hb)
     have n9_ := Aside0.mk (bB BK245 hb)
     have n10_ := Aside0.mk (bB BK249 hb)
     have n11_ := Aside0.mk (bB BK254 hb)
     have n12_ := Aside0.mk (bB BK282 hb)
     have n13_ := Aside0.mk (below_step (hq7 HB GE227 GE228 GE241 GE245 GE249 GE254 GE282) hb)
     clear HO_242000
     clear HO_246000
     clear HO_250000
     clear HO_255000
     clear HO274
     clear BK227
     clear BK228
     clear BK241
     clear BK245
     clear BK249
     clear BK254
     clear BK282
     clear HB
     have HO_242000 := n0_
     have HO_246000 := n1_
     have HO_250000 := n2_
     have HO_255000 := n3_
     have HO274 := n4_
     have HO277 := n5_
     have BK227 := n6_
     have BK228 := n7_
     have BK241 := n8_
     have BK245 := n9_
     have BK249 := n10_
     have BK254 := n11_
     have BK282 := n12_
     have HB := n13_
     clear n0_ n1_ n2_ n3_ n4_ n5_ n6_ n7_ n8_ n9_ n10_ n11_ n12_ n13_
     (try clear hb)
     (try clear hb2)
     (try clear hk)
     (try clear hi)
     (try clear ho0)
     obtain ⟨Ao189, co189, eo189⟩ := Kd.R_slice HO274.out
     (first | subst eo189 | (injection eo189 with f1_ f2_ f3_; have f4_ := f1_.symm; have f5_ := f3_.symm; clear f1_ f2_ f3_; subst f4_; subst f5_))
     obtain ⟨Ao190, co190, eo190⟩ := Kd.R_slice HO277.out
     (first | subst eo190 | (injection eo190 with f1_ f2_ f3_; have f4_ := f1_.symm; have f5_ := f3_.symm; clear f1_ f2_ f3_; subst f4_; subst f5_))
     refine hK.out _ _ ⟨(blk_cell BK227.out 0).trans rfl, (blk_cell BK228.out 0).trans rfl⟩ (fun hHeld => ?_)
     clear hK K
     refine norm_ (a' := ?_) ?_ ?_
     rotate_left
     · show Act.put _ (some 98) _ = _
       simp only [Act.put, List.setIfInBounds_toArray, List.set_cons_zero, List.set_cons_succ, i64_w, i32_w]
       rfl
     refine one_ (i := 4) (N := some 99) #[true, true, true, true, true, false, false, false, true, false, false] rfl rfl (one_of HT_.out (by kernel_rfl)) (by decide) (fun K hK => ?_)
     refine goes_ Try.func25 (by kernel_rfl) rfl #[.agg #[.slice Ao189 t272.length co189], .agg #[.slice Ao190 t275.length co190]] (by rfl) rfl rfl (by (try simp only [List.map_toArray, List.map_cons, List.map_nil]); first | done | rfl | (simp only [List.length_drop, List.length_take]; rfl)) ?_
     with_reducible refine (impl_AddBig.calls kj108 (fun k_ => some k_ = (.slice Ao189 t272.length co189 : Value).ownBlock) _ _ t272 (fun k_ => some k_ = (.slice Ao190 t275.length co190 : Value).ownBlock) _ _ t275 t278 t281 _ ?side1 ?side2 A174.out).mono ?_
     (case side1 => exact Kd.R_V (Kd.R_tight rfl (Kd.R_types (Kd.R_types (Kd.R_types (Kd.R_types (Kd.R_types (Kd.R_types (Kd.R_types (HO274.out) BK227.out (by decide)) BK228.out (by decide)) BK241.out (by decide)) BK245.out (by decide)) BK249.out (by decide)) BK254.out (by decide)) BK282.out (by decide))))
     (case side2 => exact Kd.R_V (Kd.R_tight rfl (Kd.R_types (Kd.R_types (Kd.R_types (Kd.R_types (Kd.R_types (Kd.R_types (Kd.R_types (HO277.out) BK227.out (by decide)) BK228.out (by decide)) BK241.out (by decide)) BK245.out (by decide)) BK249.out (by decide)) BK254.out (by decide)) BK282.out (by decide))))
     rintro e w191 ⟨v279, rfl, ho0, hb⟩
     refine ⟨_, rfl, ?_⟩
     have n0_ := Aside0.mk (qe HO_242000 ho0 hb)
     have n1_ := Aside0.mk (qe HO_246000 ho0 hb)
     have n2_ := Aside0.mk (qe HO_250000 ho0 hb)
     have n3_ := Aside0.mk (qe HO_255000 ho0 hb)
     have n4_ := Aside0.mk (qe HO274 ho0 hb)
     have n5_ := Aside0.mk (qe HO277 ho0 hb)
     have n6_ := Aside0.mk (Kd.R_lower (Kd.R_new' (Kd.R_new' (Kd.R_new' (Kd.R_new' (Kd.R_new' (Kd.R_new' (Kd.R_mono (ok' := fun k_ => True) ho0 (fun _ hk_ => trivial)) (ql HO_242000)) (ql HO_246000)) (ql HO_250000)) (ql HO_255000)) (ql HO274)) (ql HO277)) (below_size (hq7 HB GE227 GE228 GE241 GE245 GE249 GE254 GE282)))
     have n7_ := Aside0.mk (bB BK227 hb)
     have n8_ := Aside0.mk (bB BK228 hb)
     have n9_ := Aside0.mk (bB BK241 hb)
     have n10_ := Aside0.mk (bB BK245 hb)
     have n11_ := Aside0.mk (bB BK249 hb)
     have n12_ := Aside0.mk (bB BK254 hb)
     have n13_ := Aside0.mk (bB BK282 hb)
     have n14_ := Aside0.mk (below_step (hq7 HB GE227 GE228 GE241 GE245 GE249 GE254 GE282) hb)
     clear HO_242000
     clear HO_246000
     clear HO_250000
     clear HO_255000
     clear HO274
     clear HO277
     clear BK227
     clear BK228
     clear BK241
     clear BK245
     clear BK249
     clear BK254
     clear BK282
     clear HB
     have HO_242000 := n0_
     have HO_246000 := n1_
     have HO_250000 := n2_
     have HO_255000 := n3_
     have HO274 := n4_
     have HO277 := n5_
     have HO280 := n6_
     have BK227 := n7_
     have BK228 := n8_
     have BK241 := n9_
     have BK245 := n10_
     have BK249 := n11_
     have BK254 := n12_
     have BK282 := n13_
     have HB := n14_
     clear n0_ n1_ n2_ n3_ n4_ n5_ n6_ n7_ n8_ n9_ n10_ n11_ n12_ n13_ n14_
     (try clear hb)
     (try clear hb2)
     (try clear hk)
     (try clear hi)
     (try clear ho0)
     refine hK.out _ _ ⟨(blk_cell BK227.out 0).trans rfl, (blk_cell BK228.out 0).trans rfl⟩ (fun hHeld => ?_)
     clear hK K
     refine norm_ (a' := ?_) ?_ ?_
     rotate_left
     · show Act.put _ (some 99) _ = _
       simp only [Act.put, List.setIfInBounds_toArray, List.set_cons_zero, List.set_cons_succ, i64_w, i32_w]
       rfl
     refine pure_ (i := 5) (N := some 94) (v := ?_) (a' := ?_) #[true, true, true, true, true, true, false, false, true, false, false] rfl rfl (any_of HT_.out (by kernel_rfl)) (fun _ _ _ h => h) (Or.inl ⟨by rfl, ?_⟩) ?_ ?_
     rotate_left
     · intro w'
       first | (go_simp; with_reducible rfl) | (go_simp; unfold Instr.field; go_simp; rfl)
     rotate_left
     · simp only [Act.put, List.setIfInBounds_toArray, List.set_cons_zero, List.set_cons_succ, i64_w, i32_w]
       rfl
     refine pure_ (i := 6) (N := some 100) (v := ?_) (a' := ?_) #[true, true, true, true, true, true, true, false, true, false, false] rfl rfl (any_of HT_.out (by kernel_rfl)) (fun _ _ _ h => h) (Or.inl ⟨by rfl, ?_⟩) ?_ ?_
     rotate_left
     · intro w'
       first | (go_simp; with_reducible rfl) | (go_simp; unfold Instr.field; go_simp; rfl)
     rotate_left
     · simp only [Act.put, List.setIfInBounds_toArray, List.set_cons_zero, List.set_cons_succ, i64_w, i32_w]
       rfl
     refine pure_ (i := 7) (N := some 101) (v := ?_) (a' := ?_) #[true, true, true, true, true, true, true, true, true, false, false] rfl rfl (any_of HT_.out (by kernel_rfl)) (fun _ _ _ h => h) (Or.inl ⟨by rfl, ?_⟩) ?_ ?_
     rotate_left
     · intro w'
       first | (go_simp; with_reducible rfl) | (go_simp; unfold Instr.field; go_simp; rfl)
     rotate_left
     · simp only [Act.put, List.setIfInBounds_toArray, List.set_cons_zero, List.set_cons_succ, i64_w, i32_w]
       rfl
     exact norm_ (by simp only [putAll, Act.put, List.setIfInBounds_toArray, List.set_cons_zero, List.set_cons_succ]) (hCont (.slice Ao189 t272.length co189, .slice Ao190 t275.length co190, v279, gb282) _ ⟨hHeld, (by (with_reducible repeat (first | apply Kd.R_alloc | apply Kd.R_drewN | apply Kd.R_drew)); exact Kd.R_mono HO274.out (fun _ hk => ⟨hk.1.2, ⟨hk.2, ⟨hk.1.1.1.1.1.2, ⟨hk.1.1.1.1.2, ⟨hk.1.1.1.2, hk.1.1.2⟩⟩⟩⟩⟩)), (by (with_reducible repeat (first | apply Kd.R_alloc | apply Kd.R_drewN | apply Kd.R_drew)); exact Kd.R_mono HO277.out (fun _ hk => ⟨hk.1.2, ⟨hk.2, ⟨hk.1.1.1.1.1.2, ⟨hk.1.1.1.1.2, ⟨hk.1.1.1.2, hk.1.1.2⟩⟩⟩⟩⟩)), (by (with_reducible repeat (first | apply Kd.R_alloc | apply Kd.R_drewN | apply Kd.R_drew)); exact Kd.R_mono HO280.out (fun _ hk => ⟨hk.1.2, ⟨hk.2, ⟨hk.1.1.1.1.1.2, ⟨hk.1.1.1.1.2, ⟨hk.1.1.1.2, hk.1.1.2⟩⟩⟩⟩⟩)), (by (with_reducible repeat (first | apply Kd.R_alloc | apply Kd.R_drewN | apply Kd.R_drew)); exact Kd.R_mono HO_242000.out (fun _ hk => ⟨hk.1.1.2, ⟨hk.1.2, ⟨hk.2, ⟨hk.1.1.1.1, ⟨hk.1.1.1.2.1, hk.1.1.1.2.2⟩⟩⟩⟩⟩)), (by (with_reducible repeat (first | apply Kd.R_alloc | apply Kd.R_drewN | apply Kd.R_drew)); exact Kd.R_mono HO_246000.out (fun _ hk => ⟨hk.1.1.2, ⟨hk.1.2, ⟨hk.2, ⟨hk.1.1.1.1, ⟨hk.1.1.1.2.1, hk.1.1.1.2.2⟩⟩⟩⟩⟩)), (by (with_reducible repeat (first | apply Kd.R_alloc | apply Kd.R_drewN | apply Kd.R_drew)); exact Kd.R_mono HO_250000.out (fun _ hk => ⟨hk.1.1.2, ⟨hk.1.2, ⟨hk.2, ⟨hk.1.1.1.1, ⟨hk.1.1.1.2.1, hk.1.1.1.2.2⟩⟩⟩⟩⟩)), (by (with_reducible repeat (first | apply Kd.R_alloc | apply Kd.R_drewN | apply Kd.R_drew)); exact Kd.R_mono HO_255000.out (fun _ hk => ⟨hk.1.1.2, ⟨hk.1.2, ⟨hk.2, ⟨hk.1.1.1.1, ⟨hk.1.1.1.2.1, hk.1.1.1.2.2⟩⟩⟩⟩⟩)), (bq BK227), (bq BK228), (bq BK241), (bq BK245), (bq BK249), (bq BK254), (bq BK282), GW282.out, GE282.out, NB227_282.out, NB282_227.out, NB228_282.out, NB282_228.out, NB241_282.out, NB282_241.out, NB245_282.out, NB282_245.out, NB249_282.out, NB282_249.out, NB254_282.out, NB282_254.out, (hq7 HB GE227 GE228 GE241 GE245 GE249 GE254 GE282)⟩)
   skip
   refine box_step ?hg (N := 15) ?hd (cs := #[.slice none 0 0]) (t := 27) ?hr ?_; (case hd => rfl); (case hg => rfl); (case hr => first | (go_simp; done) | (go_simp; rfl))
   intro gb282 hg w186 hbox hb
   have n0_ := Aside0.mk (qb HO_242000 hb)
   have n1_ := Aside0.mk (qb HO_246000 hb)
   have n2_ := Aside0.mk (qb HO_250000 hb)
   have n3_ := Aside0.mk (qb HO_255000 hb)
   have n4_ := Aside0.mk (bB BK227 hb)
   have n5_ := Aside0.mk (bB BK228 hb)
   have n6_ := Aside0.mk (bB BK241 hb)
   have n7_ := Aside0.mk (bB BK245 hb)
   have n8_ := Aside0.mk (bB BK249 hb)
   have n9_ := Aside0.mk (bB BK254 hb)
   have n10_ := Aside0.mk (below_step (hq6 HB GE227 GE228 GE241 GE245 GE249 GE254) hb)
   have n11_ := Aside0.mk (hbox)
   have n12_ := Aside0.mk (ng hg (hq6 HB GE227 GE228 GE241 GE245 GE249 GE254))
   have n13_ := Aside0.mk (ng hg (hq6 HB GE227 GE228 GE241 GE245 GE249 GE254))
   have n14_ := Aside0.mk (nl hg BK227)
   have n15_ := Aside0.mk (nr hg BK227)
   have n16_ := Aside0.mk (nl hg BK228)
   have n17_ := Aside0.mk (nr hg BK228)
   have n18_ := Aside0.mk (nl hg BK241)
   have n19_ := Aside0.mk (nr hg BK241)
   have n20_ := Aside0.mk (nl hg BK245)
   have n21_ := Aside0.mk (nr hg BK245)
   have n22_ := Aside0.mk (nl hg BK249)
   have n23_ := Aside0.mk (nr hg BK249)
   have n24_ := Aside0.mk (nl hg BK254)
   have n25_ := Aside0.mk (nr hg BK254)
   clear HO_242000
   clear HO_246000
   clear HO_250000
   clear HO_255000
   clear BK227
   clear BK228
   clear BK241
   clear BK245
   clear BK249
   clear BK254
   clear HB
   have HO_242000 := n0_
   have HO_246000 := n1_
   have HO_250000 := n2_
   have HO_255000 := n3_
   have BK227 := n4_
   have BK228 := n5_
   have BK241 := n6_
   have BK245 := n7_
   have BK249 := n8_
   have BK254 := n9_
   have HB := n10_
   have BK282 := n11_
   have GW282 := n12_
   have GE282 := n13_
   have NB227_282 := n14_
   have NB282_227 := n15_
   have NB228_282 := n16_
   have NB282_228 := n17_
   have NB241_282 := n18_
   have NB282_241 := n19_
   have NB245_282 := n20_
   have NB282_245 := n21_
   have NB249_282 := n22_
   have NB282_249 := n23_
   have NB254_282 := n24_
   have NB282_254 := n25_
   clear n0_ n1_ n2_ n3_ n4_ n5_ n6_ n7_ n8_ n9_ n10_ n11_ n12_ n13_ n14_ n15_ n16_ n17_ n18_ n19_ n20_ n21_ n22_ n23_ n24_ n25_
   clear hb hbox hg
   refine hK.out _ _ ⟨(blk_cell BK227.out 0).trans rfl, (blk_cell BK228.out 0).trans rfl⟩ (fun hHeld => ?_)
   clear hK K
   refine norm_ (a' := ?_) ?_ ?_
   rotate_left
   · show Act.put _ (some 15) _ = _
     simp only [Act.put, List.setIfInBounds_toArray, List.set_cons_zero, List.set_cons_succ, i64_w, i32_w]
     rfl
   refine one_ (i := 1) (N := some 96) #[true, true, true, false, false, false, false, false, true, false, false] rfl rfl (one_of HT_.out (by kernel_rfl)) (by decide) (fun K hK => ?_)
   refine goes_ Try.func17 (by kernel_rfl) rfl #[.agg #[.slice A0_0 l0_0.length c0_0]] (by rfl) rfl rfl (by (try simp only [List.map_toArray, List.map_cons, List.map_nil]); first | done | rfl | (simp only [List.length_drop, List.length_take]; rfl)) ?_
   with_reducible refine (laws_toBig.calls kj108 _ _ l0_0 t272 _ ?side1 ?side2 A172.out).mono ?_
   (case side1 => repeat (first | exact (Kd.C_below HR0_0.out HB.out) | (with_reducible refine Kd.C_alloc ?_ _) | (with_reducible refine Kd.C_drewN ?_ _) | (with_reducible refine Kd.C_drew ?_)))
   (case side2 => exact HC0_0.out)
   rintro e w187 ⟨v273, rfl, ho0, hb⟩
   refine ⟨_, rfl, ?_⟩
   have n0_ := Aside0.mk (qe HO_242000 ho0 hb)
   have n1_ := Aside0.mk (qe HO_246000 ho0 hb)
   have n2_ := Aside0.mk (qe HO_250000 ho0 hb)
   have n3_ := Aside0.mk (qe HO_255000 ho0 hb)
   have n4_ := Aside0.mk (Kd.R_lower (Kd.R_new' (Kd.R_new' (Kd.R_new' (Kd.R_new' ho0 (ql HO_242000)) (ql HO_246000)) (ql HO_250000)) (ql HO_255000)) (below_size (hq7 HB GE227 GE228 GE241 GE245 GE249 GE254 GE282)))
   have n5_ := Aside0.mk (bB BK227 hb)
   have n6_ := Aside0.mk (bB BK228 hb)
   have n7_ := Aside0.mk (bB BK241 hb)
   have n8_ := Aside0.mk (bB BK245 hb)
   have n9_ := Aside0.mk (bB BK249 hb)
   have n10_ := Aside0.mk (bB BK254 hb)
   have n11_ := Aside0.mk (bB BK282 hb)
   have n12_ := Aside0.mk (below_step (hq7 HB GE227 GE228 GE241 GE245 GE249 GE254 GE282) hb)
   clear HO_242000
   clear HO_246000
   clear HO_250000
   clear HO_255000
   clear BK227
   clear BK228
   clear BK241
   clear BK245
   clear BK249
   clear BK254
   clear BK282
   clear HB
   have HO_242000 := n0_
   have HO_246000 := n1_
   have HO_250000 := n2_
   have HO_255000 := n3_
   have HO274 := n4_
   have BK227 := n5_
   have BK228 := n6_
   have BK241 := n7_
   have BK245 := n8_
   have BK249 := n9_
   have BK254 := n10_
   have BK282 := n11_
   have HB := n12_
   clear n0_ n1_ n2_ n3_ n4_ n5_ n6_ n7_ n8_ n9_ n10_ n11_ n12_
   (try clear hb)
   (try clear hb2)
   (try clear hk)
   (try clear hi)
   (try clear ho0)
   refine hK.out _ _ ⟨(blk_cell BK227.out 0).trans rfl, (blk_cell BK228.out 0).trans rfl⟩ (fun hHeld => ?_)
   clear hK K
   refine norm_ (a' := ?_) ?_ ?_
   rotate_left
   · show Act.put _ (some 96) _ = _
     simp only [Act.put, List.setIfInBounds_toArray, List.set_cons_zero, List.set_cons_succ, i64_w, i32_w]
     rfl
   refine one_ (i := 3) (N := some 98) #[true, true, true, true, false, false, false, false, true, false, false] rfl rfl (one_of HT_.out (by kernel_rfl)) (by decide) (fun K hK => ?_)
   refine goes_ Try.func17 (by kernel_rfl) rfl #[.agg #[.slice A1_0 l1_0.length c1_0]] (by rfl) rfl rfl (by (try simp only [List.map_toArray, List.map_cons, List.map_nil]); first | done | rfl | (simp only [List.length_drop, List.length_take]; rfl)) ?_
   with_reducible refine (laws_toBig.calls kj108 _ _ l1_0 t275 _ ?side1 ?side2 A173.out).mono ?_
   (case side1 => repeat (first | exact (Kd.C_below HR1_0.out HB.out) | (with_reducible refine Kd.C_alloc ?_ _) | (with_reducible refine Kd.C_drewN ?_ _) | (with_reducible refine Kd.C_drew ?_)))
   (case side2 => exact HC1_0.out)
   rintro e w188 ⟨v276, rfl, ho0, hb⟩
   refine ⟨_, rfl, ?_⟩
   have n0_ := Aside0.mk (qe HO_242000 ho0 hb)
   have n1_ := Aside0.mk (qe HO_246000 ho0 hb)
   have n2_ := Aside0.mk (qe HO_250000 ho0 hb)
   have n3_ := Aside0.mk (qe HO_255000 ho0 hb)
   have n4_ := Aside0.mk (qe HO274 ho0 hb)
   have n5_ := Aside0.mk (Kd.R_lower (Kd.R_new' (Kd.R_new' (Kd.R_new' (Kd.R_new' (Kd.R_new' ho0 (ql HO_242000)) (ql HO_246000)) (ql HO_250000)) (ql HO_255000)) (ql HO274)) (below_size (hq7 HB GE227 GE228 GE241 GE245 GE249 GE254 GE282)))
   have n6_ := Aside0.mk (bB BK227 hb)
   have n7_ := Aside0.mk (bB BK228 hb)
   have n8_ := Aside0.mk (bB BK241 hb)
   have n9_ := Aside0.mk (bB BK245 hb)
   have n10_ := Aside0.mk (bB BK249 hb)
   have n11_ := Aside0.mk (bB BK254 hb)
   have n12_ := Aside0.mk (bB BK282 hb)
   have n13_ := Aside0.mk (below_step (hq7 HB GE227 GE228 GE241 GE245 GE249 GE254 GE282) hb)
   clear HO_242000
   clear HO_246000
   clear HO_250000
   clear HO_255000
   clear HO274
   clear BK227
   clear BK228
   clear BK241
   clear BK245
   clear BK249
   clear BK254
   clear BK282
   clear HB
   have HO_242000 := n0_
   have HO_246000 := n1_
   have HO_250000 := n2_
   have HO_255000 := n3_
   have HO274 := n4_
   have HO277 := n5_
   have BK227 := n6_
   have BK228 := n7_
   have BK241 := n8_
   have BK245 := n9_
   have BK249 := n10_
   have BK254 := n11_
   have BK282 := n12_
   have HB := n13_
   clear n0_ n1_ n2_ n3_ n4_ n5_ n6_ n7_ n8_ n9_ n10_ n11_ n12_ n13_
   (try clear hb)
   (try clear hb2)
   (try clear hk)
   (try clear hi)
   (try clear ho0)
   obtain ⟨Ao189, co189, eo189⟩ := Kd.R_slice HO274.out
   (first | subst eo189 | (injection eo189 with f1_ f2_ f3_; have f4_ := f1_.symm; have f5_ := f3_.symm; clear f1_ f2_ f3_; subst f4_; subst f5_))
   obtain ⟨Ao190, co190, eo190⟩ := Kd.R_slice HO277.out
   (first | subst eo190 | (injection eo190 with f1_ f2_ f3_; have f4_ := f1_.symm; have f5_ := f3_.symm; clear f1_ f2_ f3_; subst f4_; subst f5_))
   refine hK.out _ _ ⟨(blk_cell BK227.out 0).trans rfl, (blk_cell BK228.out 0).trans rfl⟩ (fun hHeld => ?_)
   clear hK K
   refine norm_ (a' := ?_) ?_ ?_
   rotate_left
   · show Act.put _ (some 98) _ = _
     simp only [Act.put, List.setIfInBounds_toArray, List.set_cons_zero, List.set_cons_succ, i64_w, i32_w]
     rfl
   refine one_ (i := 4) (N := some 99) #[true, true, true, true, true, false, false, false, true, false, false] rfl rfl (one_of HT_.out (by kernel_rfl)) (by decide) (fun K hK => ?_)
   refine goes_ Try.func25 (by kernel_rfl) rfl #[.agg #[.slice Ao189 t272.length co189], .agg #[.slice Ao190 t275.length co190]] (by rfl) rfl rfl (by (try simp only [List.map_toArray, List.map_cons, List.map_nil]); first | done | rfl | (simp only [List.length_drop, List.length_take]; rfl)) ?_
   with_reducible refine (impl_AddBig.calls kj108 (fun k_ => some k_ = (.slice Ao189 t272.length co189 : Value).ownBlock) _ _ t272 (fun k_ => some k_ = (.slice Ao190 t275.length co190 : Value).ownBlock) _ _ t275 t278 t281 _ ?side1 ?side2 A174.out).mono ?_
   (case side1 => exact Kd.R_V (Kd.R_tight rfl (Kd.R_types (Kd.R_types (Kd.R_types (Kd.R_types (Kd.R_types (Kd.R_types (Kd.R_types (HO274.out) BK227.out (by decide)) BK228.out (by decide)) BK241.out (by decide)) BK245.out (by decide)) BK249.out (by decide)) BK254.out (by decide)) BK282.out (by decide))))
   (case side2 => exact Kd.R_V (Kd.R_tight rfl (Kd.R_types (Kd.R_types (Kd.R_types (Kd.R_types (Kd.R_types (Kd.R_types (Kd.R_types (HO277.out) BK227.out (by decide)) BK228.out (by decide)) BK241.out (by decide)) BK245.out (by decide)) BK249.out (by decide)) BK254.out (by decide)) BK282.out (by decide))))
   rintro e w191 ⟨v279, rfl, ho0, hb⟩
   refine ⟨_, rfl, ?_⟩
   have n0_ := Aside0.mk (qe HO_242000 ho0 hb)
   have n1_ := Aside0.mk (qe HO_246000 ho0 hb)
   have n2_ := Aside0.mk (qe HO_250000 ho0 hb)
   have n3_ := Aside0.mk (qe HO_255000 ho0 hb)
   have n4_ := Aside0.mk (qe HO274 ho0 hb)
   have n5_ := Aside0.mk (qe HO277 ho0 hb)
   have n6_ := Aside0.mk (Kd.R_lower (Kd.R_new' (Kd.R_new' (Kd.R_new' (Kd.R_new' (Kd.R_new' (Kd.R_new' (Kd.R_mono (ok' := fun k_ => True) ho0 (fun _ hk_ => trivial)) (ql HO_242000)) (ql HO_246000)) (ql HO_250000)) (ql HO_255000)) (ql HO274)) (ql HO277)) (below_size (hq7 HB GE227 GE228 GE241 GE245 GE249 GE254 GE282)))
   have n7_ := Aside0.mk (bB BK227 hb)
   have n8_ := Aside0.mk (bB BK228 hb)
   have n9_ := Aside0.mk (bB BK241 hb)
   have n10_ := Aside0.mk (bB BK245 hb)
   have n11_ := Aside0.mk (bB BK249 hb)
   have n12_ := Aside0.mk (bB BK254 hb)
   have n13_ := Aside0.mk (bB BK282 hb)
   have n14_ := Aside0.mk (below_step (hq7 HB GE227 GE228 GE241 GE245 GE249 GE254 GE282) hb)
   clear HO_242000
   clear HO_246000
   clear HO_250000
   clear HO_255000
   clear HO274
   clear HO277
   clear BK227
   clear BK228
   clear BK241
   clear BK245
   clear BK249
   clear BK254
   clear BK282
   clear HB
   have HO_242000 := n0_
   have HO_246000 := n1_
   have HO_250000 := n2_
   have HO_255000 := n3_
   have HO274 := n4_
   have HO277 := n5_
   have HO280 := n6_
   have BK227 := n7_
   have BK228 := n8_
   have BK241 := n9_
   have BK245 := n10_
   have BK249 := n11_
   have BK254 := n12_
   have BK282 := n13_
   have HB := n14_
   clear n0_ n1_ n2_ n3_ n4_ n5_ n6_ n7_ n8_ n9_ n10_ n11_ n12_ n13_ n14_
   (try clear hb)
   (try clear hb2)
   (try clear hk)
   (try clear hi)
   (try clear ho0)
   refine hK.out _ _ ⟨(blk_cell BK227.out 0).trans rfl, (blk_cell BK228.out 0).trans rfl⟩ (fun hHeld => ?_)
   clear hK K
   refine norm_ (a' := ?_) ?_ ?_
   rotate_left
   · show Act.put _ (some 99) _ = _
     simp only [Act.put, List.setIfInBounds_toArray, List.set_cons_zero, List.set_cons_succ, i64_w, i32_w]
     rfl
   refine pure_ (i := 5) (N := some 94) (v := ?_) (a' := ?_) #[true, true, true, true, true, true, false, false, true, false, false] rfl rfl (any_of HT_.out (by kernel_rfl)) (fun _ _ _ h => h) (Or.inl ⟨by rfl, ?_⟩) ?_ ?_
   rotate_left
   · intro w'
     first | (go_simp; with_reducible rfl) | (go_simp; unfold Instr.field; go_simp; rfl)
   rotate_left
   · simp only [Act.put, List.setIfInBounds_toArray, List.set_cons_zero, List.set_cons_succ, i64_w, i32_w]
     rfl
   refine pure_ (i := 6) (N := some 100) (v := ?_) (a' := ?_) #[true, true, true, true, true, true, true, false, true, false, false] rfl rfl (any_of HT_.out (by kernel_rfl)) (fun _ _ _ h => h) (Or.inl ⟨by rfl, ?_⟩) ?_ ?_
   rotate_left
   · intro w'
     first | (go_simp; with_reducible rfl) | (go_simp; unfold Instr.field; go_simp; rfl)
   rotate_left
   · simp only [Act.put, List.setIfInBounds_toArray, List.set_cons_zero, List.set_cons_succ, i64_w, i32_w]
     rfl
   refine pure_ (i := 7) (N := some 101) (v := ?_) (a' := ?_) #[true, true, true, true, true, true, true, true, true, false, false] rfl rfl (any_of HT_.out (by kernel_rfl)) (fun _ _ _ h => h) (Or.inl ⟨by rfl, ?_⟩) ?_ ?_
   rotate_left
   · intro w'
     first | (go_simp; with_reducible rfl) | (go_simp; unfold Instr.field; go_simp; rfl)
   rotate_left
   · simp only [Act.put, List.setIfInBounds_toArray, List.set_cons_zero, List.set_cons_succ, i64_w, i32_w]
     rfl
   exact norm_ (by simp only [putAll, Act.put, List.setIfInBounds_toArray, List.set_cons_zero, List.set_cons_succ]) (hCont (.slice Ao189 t272.length co189, .slice Ao190 t275.length co190, v279, gb282) _ ⟨hHeld, (by (with_reducible repeat (first | apply Kd.R_alloc | apply Kd.R_drewN | apply Kd.R_drew)); exact Kd.R_mono HO274.out (fun _ hk => ⟨hk.1.2, ⟨hk.2, ⟨hk.1.1.1.1.1.2, ⟨hk.1.1.1.1.2, ⟨hk.1.1.1.2, hk.1.1.2⟩⟩⟩⟩⟩)), (by (with_reducible repeat (first | apply Kd.R_alloc | apply Kd.R_drewN | apply Kd.R_drew)); exact Kd.R_mono HO277.out (fun _ hk => ⟨hk.1.2, ⟨hk.2, ⟨hk.1.1.1.1.1.2, ⟨hk.1.1.1.1.2, ⟨hk.1.1.1.2, hk.1.1.2⟩⟩⟩⟩⟩)), (by (with_reducible repeat (first | apply Kd.R_alloc | apply Kd.R_drewN | apply Kd.R_drew)); exact Kd.R_mono HO280.out (fun _ hk => ⟨hk.1.2, ⟨hk.2, ⟨hk.1.1.1.1.1.2, ⟨hk.1.1.1.1.2, ⟨hk.1.1.1.2, hk.1.1.2⟩⟩⟩⟩⟩)), (by (with_reducible repeat (first | apply Kd.R_alloc | apply Kd.R_drewN | apply Kd.R_drew)); exact Kd.R_mono HO_242000.out (fun _ hk => ⟨hk.1.1.2, ⟨hk.1.2, ⟨hk.2, ⟨hk.1.1.1.1, ⟨hk.1.1.1.2.1, hk.1.1.1.2.2⟩⟩⟩⟩⟩)), (by (with_reducible repeat (first | apply Kd.R_alloc | apply Kd.R_drewN | apply Kd.R_drew)); exact Kd.R_mono HO_246000.out (fun _ hk => ⟨hk.1.1.2, ⟨hk.1.2, ⟨hk.2, ⟨hk.1.1.1.1, ⟨hk.1.1.1.2.1, hk.1.1.1.2.2⟩⟩⟩⟩⟩)), (by (with_reducible repeat (first | apply Kd.R_alloc | apply Kd.R_drewN | apply Kd.R_drew)); exact Kd.R_mono HO_250000.out (fun _ hk => ⟨hk.1.1.2, ⟨hk.1.2, ⟨hk.2, ⟨hk.1.1.1.1, ⟨hk.1.1.1.2.1, hk.1.1.1.2.2⟩⟩⟩⟩⟩)), (by (with_reducible repeat (first | apply Kd.R_alloc | apply Kd.R_drewN | apply Kd.R_drew)); exact Kd.R_mono HO_255000.out (fun _ hk => ⟨hk.1.1.2, ⟨hk.1.2, ⟨hk.2, ⟨hk.1.1.1.1, ⟨hk.1.1.1.2.1, hk.1.1.1.2.2⟩⟩⟩⟩⟩)), (bq BK227), (bq BK228), (bq BK241), (bq BK245), (bq BK249), (bq BK254), (bq BK282), GW282.out, GE282.out, NB227_282.out, NB282_227.out, NB228_282.out, NB282_228.out, NB241_282.out, NB282_241.out, NB245_282.out, NB282_245.out, NB249_282.out, NB282_249.out, NB254_282.out, NB282_254.out, (hq7 HB GE227 GE228 GE241 GE245 GE249 GE254 GE282)⟩)
 rintro ⟨v273, v276, v279, gb282⟩ w192 ⟨hS_, h0_, h1_, h2_, h3_, h4_, h5_, h6_, h7_, h8_, h9_, h10_, h11_, h12_, h13_, h14_, h15_, h16_, h17_, h18_, h19_, h20_, h21_, h22_, h23_, h24_, h25_, h26_, h27_, h28_⟩
 have n0_ : Aside0 (Kd.R (Kd.int .i64) 3 w192 w.heap.size (fun k_ => some k_ ≠ (v276 : Value).ownBlock ∧ some k_ ≠ (v279 : Value).ownBlock ∧ some k_ ≠ (.slice Ao41 t237.length co41 : Value).ownBlock ∧ some k_ ≠ (.slice Ao47 t265.length co47 : Value).ownBlock ∧ some k_ ≠ (.slice Ao56 t267.length co56 : Value).ownBlock ∧ some k_ ≠ (.slice Ao67 t250.length co67 : Value).ownBlock) v273 t272) := ⟨h0_⟩
 have n1_ : Aside0 (Kd.R (Kd.int .i64) 3 w192 w.heap.size (fun k_ => some k_ ≠ (v273 : Value).ownBlock ∧ some k_ ≠ (v279 : Value).ownBlock ∧ some k_ ≠ (.slice Ao41 t237.length co41 : Value).ownBlock ∧ some k_ ≠ (.slice Ao47 t265.length co47 : Value).ownBlock ∧ some k_ ≠ (.slice Ao56 t267.length co56 : Value).ownBlock ∧ some k_ ≠ (.slice Ao67 t250.length co67 : Value).ownBlock) v276 t275) := ⟨h1_⟩
 have n2_ : Aside0 (Kd.R (Kd.int .i64) 3 w192 w.heap.size (fun k_ => some k_ ≠ (v273 : Value).ownBlock ∧ some k_ ≠ (v276 : Value).ownBlock ∧ some k_ ≠ (.slice Ao41 t237.length co41 : Value).ownBlock ∧ some k_ ≠ (.slice Ao47 t265.length co47 : Value).ownBlock ∧ some k_ ≠ (.slice Ao56 t267.length co56 : Value).ownBlock ∧ some k_ ≠ (.slice Ao67 t250.length co67 : Value).ownBlock) v279 t278) := ⟨h2_⟩
 have n3_ : Aside0 (Kd.R (Kd.int .i64) 3 w192 w.heap.size (fun k_ => some k_ ≠ (v273 : Value).ownBlock ∧ some k_ ≠ (v276 : Value).ownBlock ∧ some k_ ≠ (v279 : Value).ownBlock ∧ some k_ ≠ (.slice Ao47 t265.length co47 : Value).ownBlock ∧ some k_ ≠ (.slice Ao56 t267.length co56 : Value).ownBlock ∧ some k_ ≠ (.slice Ao67 t250.length co67 : Value).ownBlock) (.slice Ao41 t237.length co41) t237) := ⟨h3_⟩
 have n4_ : Aside0 (Kd.R (Kd.int .i64) 3 w192 w.heap.size (fun k_ => some k_ ≠ (v273 : Value).ownBlock ∧ some k_ ≠ (v276 : Value).ownBlock ∧ some k_ ≠ (v279 : Value).ownBlock ∧ some k_ ≠ (.slice Ao41 t237.length co41 : Value).ownBlock ∧ some k_ ≠ (.slice Ao56 t267.length co56 : Value).ownBlock ∧ some k_ ≠ (.slice Ao67 t250.length co67 : Value).ownBlock) (.slice Ao47 t265.length co47) t265) := ⟨h4_⟩
 have n5_ : Aside0 (Kd.R (Kd.int .i64) 3 w192 w.heap.size (fun k_ => some k_ ≠ (v273 : Value).ownBlock ∧ some k_ ≠ (v276 : Value).ownBlock ∧ some k_ ≠ (v279 : Value).ownBlock ∧ some k_ ≠ (.slice Ao41 t237.length co41 : Value).ownBlock ∧ some k_ ≠ (.slice Ao47 t265.length co47 : Value).ownBlock ∧ some k_ ≠ (.slice Ao67 t250.length co67 : Value).ownBlock) (.slice Ao56 t267.length co56) t267) := ⟨h5_⟩
 have n6_ : Aside0 (Kd.R (Kd.int .i64) 3 w192 w.heap.size (fun k_ => some k_ ≠ (v273 : Value).ownBlock ∧ some k_ ≠ (v276 : Value).ownBlock ∧ some k_ ≠ (v279 : Value).ownBlock ∧ some k_ ≠ (.slice Ao41 t237.length co41 : Value).ownBlock ∧ some k_ ≠ (.slice Ao47 t265.length co47 : Value).ownBlock ∧ some k_ ≠ (.slice Ao56 t267.length co56 : Value).ownBlock) (.slice Ao67 t250.length co67) t270) := ⟨h6_⟩
 have n7_ : Aside0 (w192.heap[gb227]? = some (.cells #[.slice A0_0 l0_0.length c0_0] 24 (0, 0))) := ⟨h7_⟩
 have n8_ : Aside0 (w192.heap[gb228]? = some (.cells #[.slice A1_0 l1_0.length c1_0] 24 (0, 0))) := ⟨h8_⟩
 have n9_ : Aside0 (w192.heap[gb241]? = some (.cells #[.slice Ao41 t237.length co41] 27 (0, 0))) := ⟨h9_⟩
 have n10_ : Aside0 (w192.heap[gb245]? = some (.cells #[.slice Ao47 t265.length co47] 27 (0, 0))) := ⟨h10_⟩
 have n11_ : Aside0 (w192.heap[gb249]? = some (.cells #[.slice Ao56 t267.length co56] 27 (0, 0))) := ⟨h11_⟩
 have n12_ : Aside0 (w192.heap[gb254]? = some (.cells #[.slice Ao67 t250.length co67] 27 (0, 0))) := ⟨h12_⟩
 have n13_ : Aside0 (w192.heap[gb282]? = some (.cells #[.slice none 0 0] 27 (0, 0))) := ⟨h13_⟩
 have n14_ : Aside0 (w.heap.size ≤ gb282) := ⟨h14_⟩
 have n15_ : Aside0 (w.heap.size ≤ gb282) := ⟨h15_⟩
 have n16_ : Aside0 (gb227 ≠ gb282) := ⟨h16_⟩
 have n17_ : Aside0 (gb282 ≠ gb227) := ⟨h17_⟩
 have n18_ : Aside0 (gb228 ≠ gb282) := ⟨h18_⟩
 have n19_ : Aside0 (gb282 ≠ gb228) := ⟨h19_⟩
 have n20_ : Aside0 (gb241 ≠ gb282) := ⟨h20_⟩
 have n21_ : Aside0 (gb282 ≠ gb241) := ⟨h21_⟩
 have n22_ : Aside0 (gb245 ≠ gb282) := ⟨h22_⟩
 have n23_ : Aside0 (gb282 ≠ gb245) := ⟨h23_⟩
 have n24_ : Aside0 (gb249 ≠ gb282) := ⟨h24_⟩
 have n25_ : Aside0 (gb282 ≠ gb249) := ⟨h25_⟩
 have n26_ : Aside0 (gb254 ≠ gb282) := ⟨h26_⟩
 have n27_ : Aside0 (gb282 ≠ gb254) := ⟨h27_⟩
 have n28_ : Aside0 (Below w.heap.size w w192) := ⟨h28_⟩
 clear HO_242000
 clear HO_246000
 clear HO_250000
 clear HO_255000
 clear BK227
 clear BK228
 clear BK241
 clear BK245
 clear BK249
 clear BK254
 clear HB
 clear h0_ h1_ h2_ h3_ h4_ h5_ h6_ h7_ h8_ h9_ h10_ h11_ h12_ h13_ h14_ h15_ h16_ h17_ h18_ h19_ h20_ h21_ h22_ h23_ h24_ h25_ h26_ h27_ h28_
 have HO274 := n0_
 have HO277 := n1_
 have HO280 := n2_
 have HO_242000 := n3_
 have HO_246000 := n4_
 have HO_250000 := n5_
 have HO_255000 := n6_
 have BK227 := n7_
 have BK228 := n8_
 have BK241 := n9_
 have BK245 := n10_
 have BK249 := n11_
 have BK254 := n12_
 have BK282 := n13_
 have GW282 := n14_
 have GE282 := n15_
 have NB227_282 := n16_
 have NB282_227 := n17_
 have NB228_282 := n18_
 have NB282_228 := n19_
 have NB241_282 := n20_
 have NB282_241 := n21_
 have NB245_282 := n22_
 have NB282_245 := n23_
 have NB249_282 := n24_
 have NB282_249 := n25_
 have NB254_282 := n26_
 have NB282_254 := n27_
 have HB := n28_
 clear n0_ n1_ n2_ n3_ n4_ n5_ n6_ n7_ n8_ n9_ n10_ n11_ n12_ n13_ n14_ n15_ n16_ n17_ n18_ n19_ n20_ n21_ n22_ n23_ n24_ n25_ n26_ n27_ n28_
 have hHeld : w192.cell? ⟨gb227, 0, none⟩ = some (.slice A0_0 l0_0.length c0_0) ∧ w192.cell? ⟨gb228, 0, none⟩ = some (.slice A1_0 l1_0.length c1_0) := hS_
 obtain ⟨Ao193, co193, eo193⟩ := Kd.R_slice HO280.out
 (first | subst eo193 | (injection eo193 with f1_ f2_ f3_; have f4_ := f1_.symm; have f5_ := f3_.symm; clear f1_ f2_ f3_; subst f4_; subst f5_))
 refine norm_ (a' := ?_) ?_ ?_
 rotate_left
 · simp only [putAll, Act.put, List.setIfInBounds_toArray, List.set_cons_zero, List.set_cons_succ]
   rfl
 refine one_ (i := 9) (N := none) #[true, true, true, true, true, true, true, true, true, true, false] rfl rfl (one_of HT_.out (by kernel_rfl)) (by decide) (fun K hK => ?_)
 have hs194 : w192.cell? ⟨gb282, 0, none⟩ = some (.slice none 0 0) := (blk_cell BK282.out 0).trans rfl
 have hfs194 := blk_frozen BK282.out 0
 have hns194_0 := NB227_282.out
 have hns194_1 := NB228_282.out
 have hns194_2 := NB241_282.out
 have hns194_3 := NB245_282.out
 have hns194_4 := NB249_282.out
 have hns194_5 := NB254_282.out
 have hms194_0 := NB282_227.out
 have hms194_1 := NB282_228.out
 have hms194_2 := NB282_241.out
 have hms194_3 := NB282_245.out
 have hms194_4 := NB282_249.out
 have hms194_5 := NB282_254.out
 refine skip_ (w1 := ?_) (by rfl) rfl ?_ ?_
 rotate_left
 · go_simp
   rfl
 refine hK.out _ _ ⟨((cell_far (p := ⟨gb282, _, none⟩) NB227_282.out _).trans (hHeld.1)), ((cell_far (p := ⟨gb282, _, none⟩) NB228_282.out _).trans (hHeld.2))⟩ (fun hHeld => ?_)
 clear hK K
 refine pure_ (i := 10) (N := some 16) (v := ?_) (a' := ?_) #[true, true, true, true, true, true, true, true, true, true, true] rfl rfl (any_of HT_.out (by kernel_rfl)) (fun _ _ _ h => h) (Or.inl ⟨by rfl, ?_⟩) ?_ ?_
 rotate_left
 · intro w'
   first | (go_simp; with_reducible rfl) | (go_simp; unfold Instr.field; go_simp; rfl)
 rotate_left
 · simp only [Act.put, List.setIfInBounds_toArray, List.set_cons_zero, List.set_cons_succ, i64_w, i32_w]
   rfl
 refine done_ (done_of HT_.out (by kernel_rfl)) ?_
 go_upto_region 32 with (fail)
 go_cut [110] (fun v110 wc => ∃ (kq : Nat) (x110_174 : Bool), v110 = .bool x110_174 ∧ Aside0 (laws_FnExactAddBig.j2 kq t269 x110_174 t270 = some true) ∧ Aside0 (kq ≤ kj108) ∧ Aside0 (Kd.R (Kd.int .i64) 3 wc w.heap.size (fun k_ => some k_ ≠ ((.slice Ao47 t265.length co47) : Value).ownBlock ∧ some k_ ≠ ((.slice Ao56 t267.length co56) : Value).ownBlock ∧ some k_ ≠ ((.slice Ao67 t250.length co67) : Value).ownBlock ∧ some k_ ≠ ((.slice Ao193 t278.length co193) : Value).ownBlock) (.slice Ao41 t237.length co41) t237) ∧ Aside0 (Kd.R (Kd.int .i64) 3 wc w.heap.size (fun k_ => some k_ ≠ ((.slice Ao41 t237.length co41) : Value).ownBlock ∧ some k_ ≠ ((.slice Ao56 t267.length co56) : Value).ownBlock ∧ some k_ ≠ ((.slice Ao67 t250.length co67) : Value).ownBlock ∧ some k_ ≠ ((.slice Ao193 t278.length co193) : Value).ownBlock) (.slice Ao47 t265.length co47) t265) ∧ Aside0 (Kd.R (Kd.int .i64) 3 wc w.heap.size (fun k_ => some k_ ≠ ((.slice Ao41 t237.length co41) : Value).ownBlock ∧ some k_ ≠ ((.slice Ao47 t265.length co47) : Value).ownBlock ∧ some k_ ≠ ((.slice Ao67 t250.length co67) : Value).ownBlock ∧ some k_ ≠ ((.slice Ao193 t278.length co193) : Value).ownBlock) (.slice Ao56 t267.length co56) t267) ∧ Aside0 (Kd.R (Kd.int .i64) 3 wc w.heap.size (fun k_ => some k_ ≠ ((.slice Ao41 t237.length co41) : Value).ownBlock ∧ some k_ ≠ ((.slice Ao47 t265.length co47) : Value).ownBlock ∧ some k_ ≠ ((.slice Ao56 t267.length co56) : Value).ownBlock ∧ some k_ ≠ ((.slice Ao193 t278.length co193) : Value).ownBlock) (.slice Ao67 t250.length co67) t270) ∧ Aside0 (Kd.R (Kd.int .i64) 3 wc w.heap.size (fun k_ => some k_ ≠ ((.slice Ao41 t237.length co41) : Value).ownBlock ∧ some k_ ≠ ((.slice Ao47 t265.length co47) : Value).ownBlock ∧ some k_ ≠ ((.slice Ao56 t267.length co56) : Value).ownBlock ∧ some k_ ≠ ((.slice Ao67 t250.length co67) : Value).ownBlock) (.slice Ao193 t278.length co193) t278) ∧ Aside0 (wc.heap[gb227]? = some (.cells #[(.slice A0_0 l0_0.length c0_0)] 24 (0, 0))) ∧ Aside0 (wc.heap[gb228]? = some (.cells #[(.slice A1_0 l1_0.length c1_0)] 24 (0, 0))) ∧ Aside0 (wc.heap[gb241]? = some (.cells #[(.slice Ao41 t237.length co41)] 27 (0, 0))) ∧ Aside0 (wc.heap[gb245]? = some (.cells #[(.slice Ao47 t265.length co47)] 27 (0, 0))) ∧ Aside0 (wc.heap[gb249]? = some (.cells #[(.slice Ao56 t267.length co56)] 27 (0, 0))) ∧ Aside0 (wc.heap[gb254]? = some (.cells #[(.slice Ao67 t250.length co67)] 27 (0, 0))) ∧ Aside0 (wc.heap[gb282]? = some (.cells #[(.slice Ao193 t278.length co193)] 27 (0, 0))) ∧ Aside0 (Below w.heap.size w wc))
 case first =>
   have H := HC175.out
   clear HC175
   replace H := Option.bind_eq_some_iff.mp H
   obtain ⟨t283, A1950, H⟩ := H
   replace H : (if t283 = true then (laws_FnExactAddBig.j2 kj108 t269 (t281 != t240) t270) else (laws_FnExactAddBig.j2 kj108 t269 true t270)) = some true := H
   have A195 := Aside0.mk A1950
   clear A1950
   by_cases c196 : t283 = true
   · subst c196
     have H1 : (laws_FnExactAddBig.j2 kj108 t269 (t281 != t240) t270) = some true := by rw [if_pos rfl] at H; exact H
     clear H
     have H := H1
     clear H1
     have H' := Aside0.mk H
     clear H
     have hnb197 := NB282_227.out
     have hnc197 := NB227_282.out
     have hnb198 := NB282_228.out
     have hnc198 := NB228_282.out
     have hnb199 := NB282_241.out
     have hnc199 := NB241_282.out
     have hnb200 := NB282_245.out
     have hnc200 := NB245_282.out
     have hnb201 := NB282_249.out
     have hnc201 := NB249_282.out
     have hnb202 := NB282_254.out
     have hnc202 := NB254_282.out
     have hcz203_0 : w192.cell? ⟨gb282, 0, none⟩ = some (.slice none 0 0) := (blk_cell BK282.out 0).trans rfl
     have hfz203_0 := blk_frozen BK282.out 0
     have hnb204 := NB241_227.out
     have hnc204 := NB227_241.out
     have hnb205 := NB241_228.out
     have hnc205 := NB228_241.out
     have hnb206 := NB241_245.out
     have hnc206 := NB245_241.out
     have hnb207 := NB241_249.out
     have hnc207 := NB249_241.out
     have hnb208 := NB241_254.out
     have hnc208 := NB254_241.out
     have hcz209_0 : w192.cell? ⟨gb241, 0, none⟩ = some (.slice Ao41 t237.length co41) := (blk_cell BK241.out 0).trans rfl
     have hfz209_0 := blk_frozen BK241.out 0
     go_wp2_with (first | ((with_reducible refine gate_callee (f := 19) rfl ?_); refine goesL_ (some 104) rfl rfl Try.func19 (by kernel_rfl) rfl #[.agg #[.slice Ao193 t278.length co193], .agg #[.slice Ao41 t237.length co41]] rfl (by (try simp only [List.map_toArray, List.map_cons, List.map_nil]); first | done | rfl | (simp only [List.length_drop, List.length_take]; rfl)) ?_; (with_reducible refine (laws_eqBig.calls kj108 _ _ t278 _ _ t237 true _ ?side1 ?side2 ?side3 ?side4 A195.out).mono ?_); (case side1 => refine (Kd.R_reads' (e := 3) (base := w.heap.size) (ok := fun k_ => (some k_ ≠ (v273 : Value).ownBlock ∧ (some k_ ≠ (v276 : Value).ownBlock ∧ (some k_ ≠ (.slice Ao41 t237.length co41 : Value).ownBlock ∧ (some k_ ≠ (.slice Ao47 t265.length co47 : Value).ownBlock ∧ (some k_ ≠ (.slice Ao56 t267.length co56 : Value).ownBlock ∧ some k_ ≠ (.slice Ao67 t250.length co67 : Value).ownBlock)))))) (n := t278.length) (c := co193) ?_).2.2; exact (by (with_reducible repeat (first | apply Kd.R_alloc | apply Kd.R_drewN | apply Kd.R_drew)); exact (Kd.R_mono (Kd.R_far (p := ⟨gb282, 0, none⟩) (Kd.R_types HO280.out BK282.out (by decide)) (fun _ hk => hk.2) (.slice Ao193 t278.length co193)) (fun _ h_ => h_.1)))); (case side2 => exact (Kd.R_reads' HO280.out).2.1); (case side3 => refine (Kd.R_reads' (e := 3) (base := w.heap.size) (ok := fun k_ => (some k_ ≠ (v273 : Value).ownBlock ∧ (some k_ ≠ (v276 : Value).ownBlock ∧ (some k_ ≠ (.slice Ao193 t278.length co193 : Value).ownBlock ∧ (some k_ ≠ (.slice Ao47 t265.length co47 : Value).ownBlock ∧ (some k_ ≠ (.slice Ao56 t267.length co56 : Value).ownBlock ∧ some k_ ≠ (.slice Ao67 t250.length co67 : Value).ownBlock)))))) (n := t237.length) (c := co41) ?_).2.2; exact (by (with_reducible repeat (first | apply Kd.R_alloc | apply Kd.R_drewN | apply Kd.R_drew)); exact (Kd.R_mono (Kd.R_far (p := ⟨gb282, 0, none⟩) (Kd.R_types HO_242000.out BK282.out (by decide)) (fun _ hk => hk.2) (.slice Ao193 t278.length co193)) (fun _ h_ => h_.1)))); (case side4 => exact (Kd.R_reads' HO_242000.out).2.1); rintro e w210 ⟨rfl, hb⟩; refine ⟨_, rfl, ?_⟩; have n0_ := Aside0.mk (Kd.R_below (by (with_reducible repeat (first | apply Kd.R_alloc | apply Kd.R_drewN | apply Kd.R_drew)); exact (Kd.R_mono (Kd.R_far (p := ⟨gb282, 0, none⟩) (Kd.R_types HO_242000.out BK282.out (by decide)) (fun _ hk => hk.2) (.slice Ao193 t278.length co193)) (fun _ h_ => h_.1))) hb); have n1_ := Aside0.mk (Kd.R_below (by (with_reducible repeat (first | apply Kd.R_alloc | apply Kd.R_drewN | apply Kd.R_drew)); exact (Kd.R_mono (Kd.R_far (p := ⟨gb282, 0, none⟩) (Kd.R_types HO_246000.out BK282.out (by decide)) (fun _ hk => hk.2) (.slice Ao193 t278.length co193)) (fun _ h_ => h_.1))) hb); have n2_ := Aside0.mk (Kd.R_below (by (with_reducible repeat (first | apply Kd.R_alloc | apply Kd.R_drewN | apply Kd.R_drew)); exact (Kd.R_mono (Kd.R_far (p := ⟨gb282, 0, none⟩) (Kd.R_types HO_250000.out BK282.out (by decide)) (fun _ hk => hk.2) (.slice Ao193 t278.length co193)) (fun _ h_ => h_.1))) hb); have n3_ := Aside0.mk (Kd.R_below (by (with_reducible repeat (first | apply Kd.R_alloc | apply Kd.R_drewN | apply Kd.R_drew)); exact (Kd.R_mono (Kd.R_far (p := ⟨gb282, 0, none⟩) (Kd.R_types HO_255000.out BK282.out (by decide)) (fun _ hk => hk.2) (.slice Ao193 t278.length co193)) (fun _ h_ => h_.1))) hb); have n4_ := Aside0.mk (Kd.R_below (by (with_reducible repeat (first | apply Kd.R_alloc | apply Kd.R_drewN | apply Kd.R_drew)); exact (Kd.R_mono (Kd.R_far (p := ⟨gb282, 0, none⟩) (Kd.R_types HO274.out BK282.out (by decide)) (fun _ hk => hk.2) (.slice Ao193 t278.length co193)) (fun _ h_ => h_.1))) hb); have n5_ := Aside0.mk (Kd.R_below (by (with_reducible repeat (first | apply Kd.R_alloc | apply Kd.R_drewN | apply Kd.R_drew)); exact (Kd.R_mono (Kd.R_far (p := ⟨gb282, 0, none⟩) (Kd.R_types HO277.out BK282.out (by decide)) (fun _ hk => hk.2) (.slice Ao193 t278.length co193)) (fun _ h_ => h_.1))) hb); have n6_ := Aside0.mk (Kd.R_below (by (with_reducible repeat (first | apply Kd.R_alloc | apply Kd.R_drewN | apply Kd.R_drew)); exact (Kd.R_mono (Kd.R_far (p := ⟨gb282, 0, none⟩) (Kd.R_types HO280.out BK282.out (by decide)) (fun _ hk => hk.2) (.slice Ao193 t278.length co193)) (fun _ h_ => h_.1))) hb); have n7_ := Aside0.mk (blk_below (g := gb227) (o := .cells #[.slice A0_0 l0_0.length c0_0] 24 (0, 0)) (bf NB227_282 BK227) hb); have n8_ := Aside0.mk (blk_below (g := gb228) (o := .cells #[.slice A1_0 l1_0.length c1_0] 24 (0, 0)) (bf NB228_282 BK228) hb); have n9_ := Aside0.mk (blk_below (g := gb241) (o := .cells #[.slice Ao41 t237.length co41] 27 (0, 0)) (bf NB241_282 BK241) hb); have n10_ := Aside0.mk (blk_below (g := gb245) (o := .cells #[.slice Ao47 t265.length co47] 27 (0, 0)) (bf NB245_282 BK245) hb); have n11_ := Aside0.mk (blk_below (g := gb249) (o := .cells #[.slice Ao56 t267.length co56] 27 (0, 0)) (bf NB249_282 BK249) hb); have n12_ := Aside0.mk (blk_below (g := gb254) (o := .cells #[.slice Ao67 t250.length co67] 27 (0, 0)) (bf NB254_282 BK254) hb); have n13_ := Aside0.mk (blk_below (g := gb282) (o := .cells #[.slice Ao193 t278.length co193] 27 (0, 0)) (by (with_reducible repeat (first | refine blk_drewN ?_ _ | refine blk_drew ?_ | refine blk_alloc ?_ _)); refine blk_put (cs := #[.slice none 0 0]) ?_ 0 _ rfl; (with_reducible repeat (first | refine blk_drewN ?_ _ | refine blk_drew ?_ | refine blk_alloc ?_ _)); exact BK282.out) hb); have n14_ := Aside0.mk (below_step (hq7 HB GE227 GE228 GE241 GE245 GE249 GE254 GE282) hb); clear HO_242000; clear HO_246000; clear HO_250000; clear HO_255000; clear HO274; clear HO277; clear HO280; clear BK227; clear BK228; clear BK241; clear BK245; clear BK249; clear BK254; clear BK282; clear HB; have HO_242000 := n0_; have HO_246000 := n1_; have HO_250000 := n2_; have HO_255000 := n3_; have HO274 := n4_; have HO277 := n5_; have HO280 := n6_; have BK227 := n7_; have BK228 := n8_; have BK241 := n9_; have BK245 := n10_; have BK249 := n11_; have BK254 := n12_; have BK282 := n13_; have HB := n14_; clear n0_ n1_ n2_ n3_ n4_ n5_ n6_ n7_ n8_ n9_ n10_ n11_ n12_ n13_ n14_; (try clear hb); (try clear hb2); (try clear hk); (try clear hi)))
     go_meet
     case rel => exact ⟨_, ((t281 != t240)), (by first | rfl | (simp; done) | (simp [*]; done)), H', ⟨by have := HJ24.out; have := HJ108.out; first | omega | exact Nat.le_refl _⟩, ⟨by (try simp only [hl246000_108]); (try simp only [hl250000_108]); (with_reducible repeat (first | apply Kd.R_alloc | apply Kd.R_drewN | apply Kd.R_drew)); exact Kd.R_mono HO_242000.out (fun _ hk => ⟨hk.2.2.2.1, ⟨hk.2.2.2.2.1, ⟨hk.2.2.2.2.2, hk.2.2.1⟩⟩⟩)⟩, ⟨by (try simp only [hl246000_108]); (try simp only [hl250000_108]); (with_reducible repeat (first | apply Kd.R_alloc | apply Kd.R_drewN | apply Kd.R_drew)); exact Kd.R_mono HO_246000.out (fun _ hk => ⟨hk.2.2.2.1, ⟨hk.2.2.2.2.1, ⟨hk.2.2.2.2.2, hk.2.2.1⟩⟩⟩)⟩, ⟨by (try simp only [hl246000_108]); (try simp only [hl250000_108]); (with_reducible repeat (first | apply Kd.R_alloc | apply Kd.R_drewN | apply Kd.R_drew)); exact Kd.R_mono HO_250000.out (fun _ hk => ⟨hk.2.2.2.1, ⟨hk.2.2.2.2.1, ⟨hk.2.2.2.2.2, hk.2.2.1⟩⟩⟩)⟩, ⟨by (try simp only [hl246000_108]); (try simp only [hl250000_108]); (with_reducible repeat (first | apply Kd.R_alloc | apply Kd.R_drewN | apply Kd.R_drew)); exact Kd.R_mono HO_255000.out (fun _ hk => ⟨hk.2.2.2.1, ⟨hk.2.2.2.2.1, ⟨hk.2.2.2.2.2, hk.2.2.1⟩⟩⟩)⟩, ⟨by (try simp only [hl246000_108]); (try simp only [hl250000_108]); (with_reducible repeat (first | apply Kd.R_alloc | apply Kd.R_drewN | apply Kd.R_drew)); exact Kd.R_mono HO280.out (fun _ hk => ⟨hk.2.2.1, ⟨hk.2.2.2.1, ⟨hk.2.2.2.2.1, hk.2.2.2.2.2⟩⟩⟩)⟩, ⟨by (try simp only [hl246000_108]); (try simp only [hl250000_108]); (with_reducible repeat (first | refine blk_drewN ?_ _ | refine blk_drew ?_ | refine blk_alloc ?_ _)); exact BK227.out⟩, ⟨by (try simp only [hl246000_108]); (try simp only [hl250000_108]); (with_reducible repeat (first | refine blk_drewN ?_ _ | refine blk_drew ?_ | refine blk_alloc ?_ _)); exact BK228.out⟩, ⟨by (try simp only [hl246000_108]); (try simp only [hl250000_108]); (with_reducible repeat (first | refine blk_drewN ?_ _ | refine blk_drew ?_ | refine blk_alloc ?_ _)); exact BK241.out⟩, ⟨by (try simp only [hl246000_108]); (try simp only [hl250000_108]); (with_reducible repeat (first | refine blk_drewN ?_ _ | refine blk_drew ?_ | refine blk_alloc ?_ _)); exact BK245.out⟩, ⟨by (try simp only [hl246000_108]); (try simp only [hl250000_108]); (with_reducible repeat (first | refine blk_drewN ?_ _ | refine blk_drew ?_ | refine blk_alloc ?_ _)); exact BK249.out⟩, ⟨by (try simp only [hl246000_108]); (try simp only [hl250000_108]); (with_reducible repeat (first | refine blk_drewN ?_ _ | refine blk_drew ?_ | refine blk_alloc ?_ _)); exact BK254.out⟩, ⟨by (try simp only [hl246000_108]); (try simp only [hl250000_108]); (with_reducible repeat (first | refine blk_drewN ?_ _ | refine blk_drew ?_ | refine blk_alloc ?_ _)); exact BK282.out⟩, ⟨hq7 HB GE227 GE228 GE241 GE245 GE249 GE254 GE282⟩⟩
   replace c196 := Bool.eq_false_iff.mpr c196
   subst c196
   have H1 : (laws_FnExactAddBig.j2 kj108 t269 true t270) = some true := by rw [if_neg (show ¬ (false = true) by decide)] at H; exact H
   clear H
   have H := H1
   clear H1
   have H' := Aside0.mk H
   clear H
   have hnb211 := NB282_227.out
   have hnc211 := NB227_282.out
   have hnb212 := NB282_228.out
   have hnc212 := NB228_282.out
   have hnb213 := NB282_241.out
   have hnc213 := NB241_282.out
   have hnb214 := NB282_245.out
   have hnc214 := NB245_282.out
   have hnb215 := NB282_249.out
   have hnc215 := NB249_282.out
   have hnb216 := NB282_254.out
   have hnc216 := NB254_282.out
   have hcz217_0 : w192.cell? ⟨gb282, 0, none⟩ = some (.slice none 0 0) := (blk_cell BK282.out 0).trans rfl
   have hfz217_0 := blk_frozen BK282.out 0
   have hnb218 := NB241_227.out
   have hnc218 := NB227_241.out
   have hnb219 := NB241_228.out
   have hnc219 := NB228_241.out
   have hnb220 := NB241_245.out
   have hnc220 := NB245_241.out
   have hnb221 := NB241_249.out
   have hnc221 := NB249_241.out
   have hnb222 := NB241_254.out
   have hnc222 := NB254_241.out
   have hcz223_0 : w192.cell? ⟨gb241, 0, none⟩ = some (.slice Ao41 t237.length co41) := (blk_cell BK241.out 0).trans rfl
   have hfz223_0 := blk_frozen BK241.out 0
   go_wp2_with (first | ((with_reducible refine gate_callee (f := 19) rfl ?_); refine goesL_ (some 104) rfl rfl Try.func19 (by kernel_rfl) rfl #[.agg #[.slice Ao193 t278.length co193], .agg #[.slice Ao41 t237.length co41]] rfl (by (try simp only [List.map_toArray, List.map_cons, List.map_nil]); first | done | rfl | (simp only [List.length_drop, List.length_take]; rfl)) ?_; (with_reducible refine (laws_eqBig.calls kj108 _ _ t278 _ _ t237 false _ ?side1 ?side2 ?side3 ?side4 A195.out).mono ?_); (case side1 => refine (Kd.R_reads' (e := 3) (base := w.heap.size) (ok := fun k_ => (some k_ ≠ (v273 : Value).ownBlock ∧ (some k_ ≠ (v276 : Value).ownBlock ∧ (some k_ ≠ (.slice Ao41 t237.length co41 : Value).ownBlock ∧ (some k_ ≠ (.slice Ao47 t265.length co47 : Value).ownBlock ∧ (some k_ ≠ (.slice Ao56 t267.length co56 : Value).ownBlock ∧ some k_ ≠ (.slice Ao67 t250.length co67 : Value).ownBlock)))))) (n := t278.length) (c := co193) ?_).2.2; exact (by (with_reducible repeat (first | apply Kd.R_alloc | apply Kd.R_drewN | apply Kd.R_drew)); exact (Kd.R_mono (Kd.R_far (p := ⟨gb282, 0, none⟩) (Kd.R_types HO280.out BK282.out (by decide)) (fun _ hk => hk.2) (.slice Ao193 t278.length co193)) (fun _ h_ => h_.1)))); (case side2 => exact (Kd.R_reads' HO280.out).2.1); (case side3 => refine (Kd.R_reads' (e := 3) (base := w.heap.size) (ok := fun k_ => (some k_ ≠ (v273 : Value).ownBlock ∧ (some k_ ≠ (v276 : Value).ownBlock ∧ (some k_ ≠ (.slice Ao193 t278.length co193 : Value).ownBlock ∧ (some k_ ≠ (.slice Ao47 t265.length co47 : Value).ownBlock ∧ (some k_ ≠ (.slice Ao56 t267.length co56 : Value).ownBlock ∧ some k_ ≠ (.slice Ao67 t250.length co67 : Value).ownBlock)))))) (n := t237.length) (c := co41) ?_).2.2; exact (by (with_reducible repeat (first | apply Kd.R_alloc | apply Kd.R_drewN | apply Kd.R_drew)); exact (Kd.R_mono (Kd.R_far (p := ⟨gb282, 0, none⟩) (Kd.R_types HO_242000.out BK282.out (by decide)) (fun _ hk => hk.2) (.slice Ao193 t278.length co193)) (fun _ h_ => h_.1)))); (case side4 => exact (Kd.R_reads' HO_242000.out).2.1); rintro e w224 ⟨rfl, hb⟩; refine ⟨_, rfl, ?_⟩; have n0_ := Aside0.mk (Kd.R_below (by (with_reducible repeat (first | apply Kd.R_alloc | apply Kd.R_drewN | apply Kd.R_drew)); exact (Kd.R_mono (Kd.R_far (p := ⟨gb282, 0, none⟩) (Kd.R_types HO_242000.out BK282.out (by decide)) (fun _ hk => hk.2) (.slice Ao193 t278.length co193)) (fun _ h_ => h_.1))) hb); have n1_ := Aside0.mk (Kd.R_below (by (with_reducible repeat (first | apply Kd.R_alloc | apply Kd.R_drewN | apply Kd.R_drew)); exact (Kd.R_mono (Kd.R_far (p := ⟨gb282, 0, none⟩) (Kd.R_types HO_246000.out BK282.out (by decide)) (fun _ hk => hk.2) (.slice Ao193 t278.length co193)) (fun _ h_ => h_.1))) hb); have n2_ := Aside0.mk (Kd.R_below (by (with_reducible repeat (first | apply Kd.R_alloc | apply Kd.R_drewN | apply Kd.R_drew)); exact (Kd.R_mono (Kd.R_far (p := ⟨gb282, 0, none⟩) (Kd.R_types HO_250000.out BK282.out (by decide)) (fun _ hk => hk.2) (.slice Ao193 t278.length co193)) (fun _ h_ => h_.1))) hb); have n3_ := Aside0.mk (Kd.R_below (by (with_reducible repeat (first | apply Kd.R_alloc | apply Kd.R_drewN | apply Kd.R_drew)); exact (Kd.R_mono (Kd.R_far (p := ⟨gb282, 0, none⟩) (Kd.R_types HO_255000.out BK282.out (by decide)) (fun _ hk => hk.2) (.slice Ao193 t278.length co193)) (fun _ h_ => h_.1))) hb); have n4_ := Aside0.mk (Kd.R_below (by (with_reducible repeat (first | apply Kd.R_alloc | apply Kd.R_drewN | apply Kd.R_drew)); exact (Kd.R_mono (Kd.R_far (p := ⟨gb282, 0, none⟩) (Kd.R_types HO274.out BK282.out (by decide)) (fun _ hk => hk.2) (.slice Ao193 t278.length co193)) (fun _ h_ => h_.1))) hb); have n5_ := Aside0.mk (Kd.R_below (by (with_reducible repeat (first | apply Kd.R_alloc | apply Kd.R_drewN | apply Kd.R_drew)); exact (Kd.R_mono (Kd.R_far (p := ⟨gb282, 0, none⟩) (Kd.R_types HO277.out BK282.out (by decide)) (fun _ hk => hk.2) (.slice Ao193 t278.length co193)) (fun _ h_ => h_.1))) hb); have n6_ := Aside0.mk (Kd.R_below (by (with_reducible repeat (first | apply Kd.R_alloc | apply Kd.R_drewN | apply Kd.R_drew)); exact (Kd.R_mono (Kd.R_far (p := ⟨gb282, 0, none⟩) (Kd.R_types HO280.out BK282.out (by decide)) (fun _ hk => hk.2) (.slice Ao193 t278.length co193)) (fun _ h_ => h_.1))) hb); have n7_ := Aside0.mk (blk_below (g := gb227) (o := .cells #[.slice A0_0 l0_0.length c0_0] 24 (0, 0)) (bf NB227_282 BK227) hb); have n8_ := Aside0.mk (blk_below (g := gb228) (o := .cells #[.slice A1_0 l1_0.length c1_0] 24 (0, 0)) (bf NB228_282 BK228) hb); have n9_ := Aside0.mk (blk_below (g := gb241) (o := .cells #[.slice Ao41 t237.length co41] 27 (0, 0)) (bf NB241_282 BK241) hb); have n10_ := Aside0.mk (blk_below (g := gb245) (o := .cells #[.slice Ao47 t265.length co47] 27 (0, 0)) (bf NB245_282 BK245) hb); have n11_ := Aside0.mk (blk_below (g := gb249) (o := .cells #[.slice Ao56 t267.length co56] 27 (0, 0)) (bf NB249_282 BK249) hb); have n12_ := Aside0.mk (blk_below (g := gb254) (o := .cells #[.slice Ao67 t250.length co67] 27 (0, 0)) (bf NB254_282 BK254) hb); have n13_ := Aside0.mk (blk_below (g := gb282) (o := .cells #[.slice Ao193 t278.length co193] 27 (0, 0)) (by (with_reducible repeat (first | refine blk_drewN ?_ _ | refine blk_drew ?_ | refine blk_alloc ?_ _)); refine blk_put (cs := #[.slice none 0 0]) ?_ 0 _ rfl; (with_reducible repeat (first | refine blk_drewN ?_ _ | refine blk_drew ?_ | refine blk_alloc ?_ _)); exact BK282.out) hb); have n14_ := Aside0.mk (below_step (hq7 HB GE227 GE228 GE241 GE245 GE249 GE254 GE282) hb); clear HO_242000; clear HO_246000; clear HO_250000; clear HO_255000; clear HO274; clear HO277; clear HO280; clear BK227; clear BK228; clear BK241; clear BK245; clear BK249; clear BK254; clear BK282; clear HB; have HO_242000 := n0_; have HO_246000 := n1_; have HO_250000 := n2_; have HO_255000 := n3_; have HO274 := n4_; have HO277 := n5_; have HO280 := n6_; have BK227 := n7_; have BK228 := n8_; have BK241 := n9_; have BK245 := n10_; have BK249 := n11_; have BK254 := n12_; have BK282 := n13_; have HB := n14_; clear n0_ n1_ n2_ n3_ n4_ n5_ n6_ n7_ n8_ n9_ n10_ n11_ n12_ n13_ n14_; (try clear hb); (try clear hb2); (try clear hk); (try clear hi)))
   go_meet
   case rel => exact ⟨_, (true), (by first | rfl | (simp; done) | (simp [*]; done)), H', ⟨by have := HJ24.out; have := HJ108.out; first | omega | exact Nat.le_refl _⟩, ⟨by (try simp only [hl246000_108]); (try simp only [hl250000_108]); (with_reducible repeat (first | apply Kd.R_alloc | apply Kd.R_drewN | apply Kd.R_drew)); exact Kd.R_mono HO_242000.out (fun _ hk => ⟨hk.2.2.2.1, ⟨hk.2.2.2.2.1, ⟨hk.2.2.2.2.2, hk.2.2.1⟩⟩⟩)⟩, ⟨by (try simp only [hl246000_108]); (try simp only [hl250000_108]); (with_reducible repeat (first | apply Kd.R_alloc | apply Kd.R_drewN | apply Kd.R_drew)); exact Kd.R_mono HO_246000.out (fun _ hk => ⟨hk.2.2.2.1, ⟨hk.2.2.2.2.1, ⟨hk.2.2.2.2.2, hk.2.2.1⟩⟩⟩)⟩, ⟨by (try simp only [hl246000_108]); (try simp only [hl250000_108]); (with_reducible repeat (first | apply Kd.R_alloc | apply Kd.R_drewN | apply Kd.R_drew)); exact Kd.R_mono HO_250000.out (fun _ hk => ⟨hk.2.2.2.1, ⟨hk.2.2.2.2.1, ⟨hk.2.2.2.2.2, hk.2.2.1⟩⟩⟩)⟩, ⟨by (try simp only [hl246000_108]); (try simp only [hl250000_108]); (with_reducible repeat (first | apply Kd.R_alloc | apply Kd.R_drewN | apply Kd.R_drew)); exact Kd.R_mono HO_255000.out (fun _ hk => ⟨hk.2.2.2.1, ⟨hk.2.2.2.2.1, ⟨hk.2.2.2.2.2, hk.2.2.1⟩⟩⟩)⟩, ⟨by (try simp only [hl246000_108]); (try simp only [hl250000_108]); (with_reducible repeat (first | apply Kd.R_alloc | apply Kd.R_drewN | apply Kd.R_drew)); exact Kd.R_mono HO280.out (fun _ hk => ⟨hk.2.2.1, ⟨hk.2.2.2.1, ⟨hk.2.2.2.2.1, hk.2.2.2.2.2⟩⟩⟩)⟩, ⟨by (try simp only [hl246000_108]); (try simp only [hl250000_108]); (with_reducible repeat (first | refine blk_drewN ?_ _ | refine blk_drew ?_ | refine blk_alloc ?_ _)); exact BK227.out⟩, ⟨by (try simp only [hl246000_108]); (try simp only [hl250000_108]); (with_reducible repeat (first | refine blk_drewN ?_ _ | refine blk_drew ?_ | refine blk_alloc ?_ _)); exact BK228.out⟩, ⟨by (try simp only [hl246000_108]); (try simp only [hl250000_108]); (with_reducible repeat (first | refine blk_drewN ?_ _ | refine blk_drew ?_ | refine blk_alloc ?_ _)); exact BK241.out⟩, ⟨by (try simp only [hl246000_108]); (try simp only [hl250000_108]); (with_reducible repeat (first | refine blk_drewN ?_ _ | refine blk_drew ?_ | refine blk_alloc ?_ _)); exact BK245.out⟩, ⟨by (try simp only [hl246000_108]); (try simp only [hl250000_108]); (with_reducible repeat (first | refine blk_drewN ?_ _ | refine blk_drew ?_ | refine blk_alloc ?_ _)); exact BK249.out⟩, ⟨by (try simp only [hl246000_108]); (try simp only [hl250000_108]); (with_reducible repeat (first | refine blk_drewN ?_ _ | refine blk_drew ?_ | refine blk_alloc ?_ _)); exact BK254.out⟩, ⟨by (try simp only [hl246000_108]); (try simp only [hl250000_108]); (with_reducible repeat (first | refine blk_drewN ?_ _ | refine blk_drew ?_ | refine blk_alloc ?_ _)); exact BK282.out⟩, ⟨hq7 HB GE227 GE228 GE241 GE245 GE249 GE254 GE282⟩⟩
 clear HC175
 try clear c1
 try clear c2
 try clear p2
 try clear c17
 try clear c19
 try clear c20
 try clear c21
 try clear c22
 try clear c25
 try clear c196
 try clear c197
 try clear c198
 try clear c199
 try clear c200
 try clear c201
 try clear c202
 try clear c204
 try clear c205
 try clear c206
 try clear c207
 try clear c208
 try clear c211
 try clear c212
 try clear c213
 try clear c214
 try clear c215
 try clear c216
 try clear c218
 try clear c219
 try clear c220
 try clear c221
 try clear c222
 try clear hcz203_0
 try clear hcz209_0
 try clear hcz217_0
 try clear hcz223_0
 try clear hfz203_0
 try clear hfz209_0
 try clear hfz217_0
 try clear hfz223_0
 obtain ⟨kq, x110_174, rfl, HA, HJ174, HO_242000, HO_246000, HO_250000, HO_255000, HO_283000, BK227, BK228, BK241, BK245, BK249, BK254, BK282, HB⟩ := hcut
 have hl255000_174 := (Kd.R_reads' HO_255000.out).1
 rw [hl255000_174] at HO_255000
 (try simp only [hl255000_174])
 (try simp only [hl255000_174] at BK227)
 (try simp only [hl255000_174] at BK228)
 (try simp only [hl255000_174] at BK241)
 (try simp only [hl255000_174] at BK245)
 (try simp only [hl255000_174] at BK249)
 (try simp only [hl255000_174] at BK254)
 (try simp only [hl255000_174] at BK282)
 (try simp only [hl255000_174] at HO_242000)
 (try simp only [hl255000_174] at HO_246000)
 (try simp only [hl255000_174] at HO_250000)
 (try simp only [hl255000_174] at HO_283000)
 obtain _ | kj174 := kq
 · exact absurd HA.out (by simp [laws_FnExactAddBig.j2])
 have H := HA.out
 clear HA
 simp only [laws_FnExactAddBig.j2] at H
 by_cases c225 : x110_174 = true
 · subst c225
   have H1 : (some false) = some true := by rw [if_pos rfl] at H; exact H
   clear H
   have H := H1
   clear H1
   cases H
 replace c225 := Bool.eq_false_iff.mpr c225
 subst c225
 have H1 : ((laws_heldBig.f kj174 t270 1).bind fun t284 => (if t284 < 0 then (some false) else (if t284 = t269 then (some true) else (some false)))) = some true := by rw [if_neg (show ¬ (false = true) by decide)] at H; exact H
 clear H
 have H := H1
 clear H1
 replace H := Option.bind_eq_some_iff.mp H
 obtain ⟨t284, A2260, H⟩ := H
 replace H : (if t284 < 0 then (some false) else (if t284 = t269 then (some true) else (some false))) = some true := H
 have A226 := Aside0.mk A2260
 clear A2260
 by_cases c227 : t284 < 0
 · rw [if_pos c227] at H
   have c227b0 : decide (t284 < 0) = true := decide_eq_true c227
   clear c227
   cases H
 rw [if_neg c227] at H
 have c227b0 : decide (t284 < 0) = false := decide_eq_false c227
 clear c227
 by_cases c236 : t284 = t269
 rotate_left
 · rw [if_neg c236] at H
   have c236b0 : (t284 == t269) = false := beq_eq_false_iff_ne.mpr c236
   have c236b1 : (t284 != t269) = true := bne_iff_ne.mpr c236
   cases H
 rw [if_pos c236] at H
 have c236b0 : (t284 == t269) = true := beq_iff_eq.mpr c236
 have c236b1 : (t284 != t269) = false := bne_eq_false_iff_eq.mpr c236
 clear c236
 clear H
 have hnb237 := NB254_227.out
 have hnc237 := NB227_254.out
 have hnb238 := NB254_228.out
 have hnc238 := NB228_254.out
 have hnb239 := NB254_241.out
 have hnc239 := NB241_254.out
 have hnb240 := NB254_245.out
 have hnc240 := NB245_254.out
 have hnb241 := NB254_249.out
 have hnc241 := NB249_254.out
 have hnb242 := NB254_282.out
 have hnc242 := NB282_254.out
 have hcz243_0 : wc.cell? ⟨gb254, 0, none⟩ = some (.slice Ao67 t270.length co67) := (blk_cell BK254.out 0).trans rfl
 have hfz243_0 := blk_frozen BK254.out 0
 go_wp2_with (first | ((with_reducible refine gate_callee (f := 23) rfl ?_); refine goesL_ (some 113) rfl rfl Try.func23 (by kernel_rfl) rfl #[.agg #[.slice Ao67 t270.length co67], .int .i64 1] rfl (by (try simp only [List.map_toArray, List.map_cons, List.map_nil]); first | done | rfl | (simp only [List.length_drop, List.length_take]; rfl)) ?_; (with_reducible refine (laws_heldBig.calls kj174 _ _ t270 1 t284 _ ?side1 ?side2 A226.out).mono ?_); (case side1 => repeat (first | exact (Kd.R_reads' HO_255000.out).2.2 | (with_reducible refine Kd.C_alloc ?_ _) | (with_reducible refine Kd.C_drewN ?_ _) | (with_reducible refine Kd.C_drew ?_))); (case side2 => exact (Kd.R_reads' HO_255000.out).2.1); rintro e w244 ⟨rfl, hb⟩; refine ⟨_, rfl, ?_⟩; have n0_ := Aside0.mk (qb HO_242000 hb); have n1_ := Aside0.mk (qb HO_246000 hb); have n2_ := Aside0.mk (qb HO_250000 hb); have n3_ := Aside0.mk (qb HO_255000 hb); have n4_ := Aside0.mk (qb HO_283000 hb); have n5_ := Aside0.mk (bB BK227 hb); have n6_ := Aside0.mk (bB BK228 hb); have n7_ := Aside0.mk (bB BK241 hb); have n8_ := Aside0.mk (bB BK245 hb); have n9_ := Aside0.mk (bB BK249 hb); have n10_ := Aside0.mk (bB BK254 hb); have n11_ := Aside0.mk (bB BK282 hb); have n12_ := Aside0.mk (below_step (hq7 HB GE227 GE228 GE241 GE245 GE249 GE254 GE282) hb); clear HO_242000; clear HO_246000; clear HO_250000; clear HO_255000; clear HO_283000; clear BK227; clear BK228; clear BK241; clear BK245; clear BK249; clear BK254; clear BK282; clear HB; have HO_242000 := n0_; have HO_246000 := n1_; have HO_250000 := n2_; have HO_255000 := n3_; have HO_283000 := n4_; have BK227 := n5_; have BK228 := n6_; have BK241 := n7_; have BK245 := n8_; have BK249 := n9_; have BK254 := n10_; have BK282 := n11_; have HB := n12_; clear n0_ n1_ n2_ n3_ n4_ n5_ n6_ n7_ n8_ n9_ n10_ n11_ n12_; (try clear hb); (try clear hb2); (try clear hk); (try clear hi)))
 go_ret
 exact ⟨by first | rfl | (simp [errW_none, errW_some] <;> rfl) | (simp [*, errW_none, errW_some] <;> rfl), hq7 HB GE227 GE228 GE241 GE245 GE249 GE254 GE282⟩
end Go.Proofs.Ytcehboknhdmmfaa.QFnExactAddBig
