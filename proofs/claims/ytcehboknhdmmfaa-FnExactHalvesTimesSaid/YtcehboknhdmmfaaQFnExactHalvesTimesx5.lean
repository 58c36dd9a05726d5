import Derived.Test.YtcehboknhdmmfaaSqueeze
import Derived.Test.YtcehboknhdmmfaaQFnExactHalvesTimesx0
import Derived.Test.YtcehboknhdmmfaaQFnExactHalvesTimesx1
import Derived.Test.YtcehboknhdmmfaaQFnExactHalvesTimesx3
import Derived.Test.YtcehboknhdmmfaaQFnExactHalvesTimesx4
namespace Go.Proofs.Ytcehboknhdmmfaa.QFnExactHalvesTimes
open Go.RowKit Go.Proofs.YtcehboknhdmmfaaW.PrintWords Go.Proofs.YtcehboknhdmmfaaW.PrintLast Go.Proofs.YtcehboknhdmmfaaW.PrintMore
attribute [local go_sem] max2_int min2_int max_two min_two max_three min_three max_four min_four   -- for this text's walks alone
set_option linter.unusedVariables false
set_option linter.unusedSimpArgs false

/-! ### laws_FnExactHalvesTimes: function 13 -/
mutual
def laws_FnExactHalvesTimes.j0 : Nat → Bool → Bool → Bool → List Int → List Int → List Int → List Int → List Int → List Int → Option (Bool)
  | 0, _, _, _, _, _, _, _, _, _ => none
  | k + 1, x7, x11, x53, x221000, x222000, x235000, x239000, x243000, x248000 => if x53 = true then (some false) else ((laws_toBig.f k x221000).bind fun t249 => ((laws_eqBig.f k x239000 t249).bind fun t252 => (if t252 = true then ((laws_toBig.f k x222000).bind fun t253 => ((laws_eqBig.f k x243000 t253).bind fun t256 => (if t256 = true then ((laws_markBig.f k x239000 1).bind fun bt257 => ((laws_markBig.f k x243000 bt257.1).bind fun bt259 => (if bt259.1 < 0 then (laws_FnExactHalvesTimes.j1 k x7 true x221000 x222000 x235000 x248000) else ((laws_eqBig.f k x248000 x235000).bind fun t261 => (if t261 = true then (laws_FnExactHalvesTimes.j1 k x7 (x11 != x7) x221000 x222000 x235000 x248000) else (laws_FnExactHalvesTimes.j1 k x7 true x221000 x222000 x235000 x248000)))))) else (some false)))) else (some false))))
def laws_FnExactHalvesTimes.j1 : Nat → Bool → Bool → List Int → List Int → List Int → List Int → Option (Bool)
  | 0, _, _, _, _, _, _ => none
  | k + 1, x7, x82, x221000, x222000, x235000, x248000 => if x82 = true then (some false) else ((laws_markBig.f k x248000 1).bind fun bt262 => ((laws_heldBig.f k bt262.2 1).bind fun t264 => (if t264 < 0 then (some false) else (if t264 = bt262.1 then ((laws_toBig.f k x221000).bind fun t265 => ((laws_toBig.f k x222000).bind fun t268 => ((impl_HalvesTimes.f k t265 t268).bind fun bt271 => ((laws_eqBig.f k bt271.1 x235000).bind fun t276 => (if t276 = true then (laws_FnExactHalvesTimes.j2 k bt262.1 (bt271.2 != x7) bt262.2) else (laws_FnExactHalvesTimes.j2 k bt262.1 true bt262.2)))))) else (some false)))))
def laws_FnExactHalvesTimes.j2 : Nat → Int → Bool → List Int → Option (Bool)
  | 0, _, _, _ => none
  | k + 1, x13, x110, x248000 => if x110 = true then (some false) else ((laws_heldBig.f k x248000 1).bind fun t277 => (if t277 < 0 then (some false) else (if t277 = x13 then (some true) else (some false))))
end
def laws_FnExactHalvesTimes.f (k : Nat) (l0_0 : List Int) (l1_0 : List Int) : Option (Bool) := (laws_szBig.f l0_0 1048576).bind fun t222 => (if t222 < 0 then (some true) else ((laws_szBig.f l1_0 t222).bind fun t223 => (if t223 < 0 then (some true) else ((laws_toBig.f k l0_0).bind fun t224 => ((laws_toBig.f k l1_0).bind fun t227 => ((spec_HalvesTimes.f k t224 t227).bind fun bt230 => ((laws_toBig.f k l0_0).bind fun t235 => ((laws_toBig.f k l1_0).bind fun t239 => ((impl_HalvesTimes.f k t235 t239).bind fun bt243 => ((laws_eqBig.f k bt243.1 bt230.1).bind fun t248 => (if t248 = true then (laws_FnExactHalvesTimes.j0 k bt230.2 bt243.2 (bt243.2 != bt230.2) l0_0 l1_0 bt230.1 t235 t239 bt243.1) else (laws_FnExactHalvesTimes.j0 k bt230.2 bt243.2 true l0_0 l1_0 bt230.1 t235 t239 bt243.1))))))))))))
theorem laws_FnExactHalvesTimes.mono_l : ∀ k, (∀ y0 y1 y2 y3 y4 y5 y6 y7 y8, LeO (laws_FnExactHalvesTimes.j0 k y0 y1 y2 y3 y4 y5 y6 y7 y8) (laws_FnExactHalvesTimes.j0 (k + 1) y0 y1 y2 y3 y4 y5 y6 y7 y8)) ∧ (∀ y0 y1 y2 y3 y4 y5, LeO (laws_FnExactHalvesTimes.j1 k y0 y1 y2 y3 y4 y5) (laws_FnExactHalvesTimes.j1 (k + 1) y0 y1 y2 y3 y4 y5)) ∧ (∀ y0 y1 y2, LeO (laws_FnExactHalvesTimes.j2 k y0 y1 y2) (laws_FnExactHalvesTimes.j2 (k + 1) y0 y1 y2))
  | 0 => ⟨fun _ _ _ _ _ _ _ _ _ r h => by simp [laws_FnExactHalvesTimes.j0] at h, fun _ _ _ _ _ _ r h => by simp [laws_FnExactHalvesTimes.j1] at h, fun _ _ _ r h => by simp [laws_FnExactHalvesTimes.j2] at h⟩
  | k + 1 => by
    obtain ⟨ih0, ih1, ih2⟩ := laws_FnExactHalvesTimes.mono_l k
    refine ⟨?_, ?_, ?_⟩
    · intro y0 y1 y2 y3 y4 y5 y6 y7 y8
      unfold laws_FnExactHalvesTimes.j0
      repeat' first
      | (with_reducible exact ih0 _ _ _ _ _ _ _ _ _)
      | (with_reducible exact ih1 _ _ _ _ _ _)
      | (with_reducible exact ih2 _ _ _)
      | (with_reducible exact impl_HalvesTimes.mono _ _ _)
      | (with_reducible exact laws_eqBig.mono _ _ _)
      | (with_reducible exact laws_heldBig.mono _ _ _)
      | (with_reducible exact laws_markBig.mono _ _ _)
      | (with_reducible exact laws_toBig.mono _ _)
      | (with_reducible exact spec_HalvesTimes.mono _ _ _)
      | (with_reducible exact LeO.refl _)
      | (with_reducible exact LeO.none _)
      | (with_reducible refine LeO.ite ?_ ?_)
      | (with_reducible refine LeO.bind ?_ (fun _ => ?_))
      | exact ih0 _ _ _ _ _ _ _ _ _
      | exact ih1 _ _ _ _ _ _
      | exact ih2 _ _ _
      | exact impl_HalvesTimes.mono _ _ _
      | exact laws_eqBig.mono _ _ _
      | exact laws_heldBig.mono _ _ _
      | exact laws_markBig.mono _ _ _
      | exact laws_toBig.mono _ _
      | exact spec_HalvesTimes.mono _ _ _
      | exact LeO.none _
      | refine LeO.ite ?_ ?_
      | refine LeO.bind ?_ (fun _ => ?_)
    · intro y0 y1 y2 y3 y4 y5
      unfold laws_FnExactHalvesTimes.j1
      repeat' first
      | (with_reducible exact ih0 _ _ _ _ _ _ _ _ _)
      | (with_reducible exact ih1 _ _ _ _ _ _)
      | (with_reducible exact ih2 _ _ _)
      | (with_reducible exact impl_HalvesTimes.mono _ _ _)
      | (with_reducible exact laws_eqBig.mono _ _ _)
      | (with_reducible exact laws_heldBig.mono _ _ _)
      | (with_reducible exact laws_markBig.mono _ _ _)
      | (with_reducible exact laws_toBig.mono _ _)
      | (with_reducible exact spec_HalvesTimes.mono _ _ _)
      | (with_reducible exact LeO.refl _)
      | (with_reducible exact LeO.none _)
      | (with_reducible refine LeO.ite ?_ ?_)
      | (with_reducible refine LeO.bind ?_ (fun _ => ?_))
      | exact ih0 _ _ _ _ _ _ _ _ _
      | exact ih1 _ _ _ _ _ _
      | exact ih2 _ _ _
      | exact impl_HalvesTimes.mono _ _ _
      | exact laws_eqBig.mono _ _ _
      | exact laws_heldBig.mono _ _ _
      | exact laws_markBig.mono _ _ _
      | exact laws_toBig.mono _ _
      | exact spec_HalvesTimes.mono _ _ _
      | exact LeO.none _
      | refine LeO.ite ?_ ?_
      | refine LeO.bind ?_ (fun _ => ?_)
    · intro y0 y1 y2
      unfold laws_FnExactHalvesTimes.j2
      repeat' first
      | (with_reducible exact ih0 _ _ _ _ _ _ _ _ _)
      | (with_reducible exact ih1 _ _ _ _ _ _)
      | (with_reducible exact ih2 _ _ _)
      | (with_reducible exact impl_HalvesTimes.mono _ _ _)
      | (with_reducible exact laws_eqBig.mono _ _ _)
      | (with_reducible exact laws_heldBig.mono _ _ _)
      | (with_reducible exact laws_markBig.mono _ _ _)
      | (with_reducible exact laws_toBig.mono _ _)
      | (with_reducible exact spec_HalvesTimes.mono _ _ _)
      | (with_reducible exact LeO.refl _)
      | (with_reducible exact LeO.none _)
      | (with_reducible refine LeO.ite ?_ ?_)
      | (with_reducible refine LeO.bind ?_ (fun _ => ?_))
      | exact ih0 _ _ _ _ _ _ _ _ _
      | exact ih1 _ _ _ _ _ _
      | exact ih2 _ _ _
      | exact impl_HalvesTimes.mono _ _ _
      | exact laws_eqBig.mono _ _ _
      | exact laws_heldBig.mono _ _ _
      | exact laws_markBig.mono _ _ _
      | exact laws_toBig.mono _ _
      | exact spec_HalvesTimes.mono _ _ _
      | exact LeO.none _
      | refine LeO.ite ?_ ?_
      | refine LeO.bind ?_ (fun _ => ?_)
theorem laws_FnExactHalvesTimes.mono : ∀ a0 a1 k, LeO (laws_FnExactHalvesTimes.f k a0 a1) (laws_FnExactHalvesTimes.f (k + 1) a0 a1) := by
  intro a0 a1 k
  obtain ⟨ih0, ih1, ih2⟩ := laws_FnExactHalvesTimes.mono_l k
  unfold laws_FnExactHalvesTimes.f
  repeat' first
      | (with_reducible exact ih0 _ _ _ _ _ _ _ _ _)
      | (with_reducible exact ih1 _ _ _ _ _ _)
      | (with_reducible exact ih2 _ _ _)
      | (with_reducible exact impl_HalvesTimes.mono _ _ _)
      | (with_reducible exact laws_eqBig.mono _ _ _)
      | (with_reducible exact laws_heldBig.mono _ _ _)
      | (with_reducible exact laws_markBig.mono _ _ _)
      | (with_reducible exact laws_toBig.mono _ _)
      | (with_reducible exact spec_HalvesTimes.mono _ _ _)
      | (with_reducible exact LeO.refl _)
      | (with_reducible exact LeO.none _)
      | (with_reducible refine LeO.ite ?_ ?_)
      | (with_reducible refine LeO.bind ?_ (fun _ => ?_))
      | exact ih0 _ _ _ _ _ _ _ _ _
      | exact ih1 _ _ _ _ _ _
      | exact ih2 _ _ _
      | exact impl_HalvesTimes.mono _ _ _
      | exact laws_eqBig.mono _ _ _
      | exact laws_heldBig.mono _ _ _
      | exact laws_markBig.mono _ _ _
      | exact laws_toBig.mono _ _
      | exact spec_HalvesTimes.mono _ _ _
      | exact LeO.none _
      | refine LeO.ite ?_ ?_
      | refine LeO.bind ?_ (fun _ => ?_)
def laws_FnExactHalvesTimes.T8 : Bool × List (List Nat × List Nat) := (true, [([], []), ([0], [0]), ([], []), ([2, 1], [2]), ([1, 3, 3], [1, 3]), ([4], [4]), ([5], [5]), ([5], [5]), ([], []), ([8, 6, 4, 0, 1, 2, 3, 4, 5, 6, 8], [6, 8]), ([7, 9, 0, 1, 2, 3, 4, 5, 6, 7, 8, 9], [7])])
def laws_FnExactHalvesTimes.B8 : List Nat := [0, 1, 0, 7, 15, 31, 63, 63, 0, 383, 1023]
theorem laws_FnExactHalvesTimes.tab8 : rtab .any (opsOf Try.f13 8) = laws_FnExactHalvesTimes.T8 := by kernel_rfl
theorem laws_FnExactHalvesTimes.bits8 : waitsOk laws_FnExactHalvesTimes.T8.2 laws_FnExactHalvesTimes.B8 = true := by kernel_rfl
def laws_FnExactHalvesTimes.T31 : Bool × List (List Nat × List Nat) := (true, [([], []), ([0], [0]), ([], []), ([2, 1], [2]), ([1, 3, 3], [1, 3]), ([4], [4]), ([5], [5]), ([5], [5]), ([], []), ([8, 6, 4, 0, 1, 2, 3, 4, 5, 6, 8], [6, 8]), ([7, 9, 0, 1, 2, 3, 4, 5, 6, 7, 8, 9], [7])])
def laws_FnExactHalvesTimes.B31 : List Nat := [0, 1, 0, 7, 15, 31, 63, 63, 0, 383, 1023]
theorem laws_FnExactHalvesTimes.tab31 : rtab .any (opsOf Try.f13 31) = laws_FnExactHalvesTimes.T31 := by kernel_rfl
theorem laws_FnExactHalvesTimes.bits31 : waitsOk laws_FnExactHalvesTimes.T31.2 laws_FnExactHalvesTimes.B31 = true := by kernel_rfl
set_option maxHeartbeats 8000000 in
set_option maxRecDepth 100000 in
theorem laws_FnExactHalvesTimes.calls (k : Nat) (A0_0 : Option Addr) (c0_0 : Nat) (l0_0 : List Int) (A1_0 : Option Addr) (c1_0 : Nat) (l1_0 : List Int) (_r : Bool) (w : World) (hr0_0 : Kd.C (Kd.int .i64) w A0_0 l0_0.length l0_0) (hc0_0 : l0_0.length ≤ c0_0) (hr1_0 : Kd.C (Kd.int .i64) w A1_0 l1_0.length l1_0) (hc1_0 : l1_0.length ≤ c1_0) (h : laws_FnExactHalvesTimes.f k l0_0 l1_0 = some true) :
    Calls Try.prog 13 #[.agg #[.slice A0_0 l0_0.length c0_0], .agg #[.slice A1_0 l1_0.length c1_0]] w fun e w' => e = .returned (.bool true) ∧ Below w.heap.size w w' := by
 have hu24 := Try.underlying24
 have hu27 := Try.underlying27
 have HR0_0 := Aside0.mk hr0_0
 have HC0_0 := Aside0.mk hc0_0
 clear hr0_0 hc0_0
 have HR1_0 := Aside0.mk hr1_0
 have HC1_0 := Aside0.mk hc1_0
 clear hr1_0 hc1_0
 have HB := Aside0.mk (Below.refl w.heap.size w)
 have H : ((laws_szBig.f l0_0 1048576).bind fun t222 => (if t222 < 0 then (some true) else ((laws_szBig.f l1_0 t222).bind fun t223 => (if t223 < 0 then (some true) else ((laws_toBig.f k l0_0).bind fun t224 => ((laws_toBig.f k l1_0).bind fun t227 => ((spec_HalvesTimes.f k t224 t227).bind fun bt230 => ((laws_toBig.f k l0_0).bind fun t235 => ((laws_toBig.f k l1_0).bind fun t239 => ((impl_HalvesTimes.f k t235 t239).bind fun bt243 => ((laws_eqBig.f k bt243.1 bt230.1).bind fun t248 => (if t248 = true then (laws_FnExactHalvesTimes.j0 k bt230.2 bt243.2 (bt243.2 != bt230.2) l0_0 l1_0 bt230.1 t235 t239 bt243.1) else (laws_FnExactHalvesTimes.j0 k bt230.2 bt243.2 true l0_0 l1_0 bt230.1 t235 t239 bt243.1))))))))))))) = some true := h
 clear h
 replace H := Option.bind_eq_some_iff.mp H
 obtain ⟨t222, A30, H⟩ := H
 replace H : (if t222 < 0 then (some true) else ((laws_szBig.f l1_0 t222).bind fun t223 => (if t223 < 0 then (some true) else ((laws_toBig.f k l0_0).bind fun t224 => ((laws_toBig.f k l1_0).bind fun t227 => ((spec_HalvesTimes.f k t224 t227).bind fun bt230 => ((laws_toBig.f k l0_0).bind fun t235 => ((laws_toBig.f k l1_0).bind fun t239 => ((impl_HalvesTimes.f k t235 t239).bind fun bt243 => ((laws_eqBig.f k bt243.1 bt230.1).bind fun t248 => (if t248 = true then (laws_FnExactHalvesTimes.j0 k bt230.2 bt243.2 (bt243.2 != bt230.2) l0_0 l1_0 bt230.1 t235 t239 bt243.1) else (laws_FnExactHalvesTimes.j0 k bt230.2 bt243.2 true l0_0 l1_0 bt230.1 t235 t239 bt243.1)))))))))))) = some true := H
 have A3 := Aside0.mk A30
 clear A30
 by_cases c4 : t222 < 0
 · rw [if_pos c4] at H
   have c4b0 : decide (t222 < 0) = true := decide_eq_true c4
   clear c4
   clear H
   go_enter Try.func13, Try.ntmps13
   go_wp2_with (first | ((with_reducible refine gate_dst (N := 2) rfl ?_); refine box_event ?hg (N := 2) ?hd (cs := #[.slice A0_0 l0_0.length c0_0]) (t := 24) ?hr ?_; (case hd => rfl); (case hg => rfl); (case hr => first | (go_simp; done) | (go_simp; rfl)); intro gb220 hg w5 hbox hb; have n0_ := Aside0.mk (below_step (hq HB) hb); have n1_ := Aside0.mk (hbox); have n2_ := Aside0.mk (ng hg (hq HB)); have n3_ := Aside0.mk (ng hg (hq HB)); clear HB; have HB := n0_; have BK220 := n1_; have GW220 := n2_; have GE220 := n3_; clear n0_ n1_ n2_ n3_; clear hb hbox hg) | ((with_reducible refine gate_dst (N := 3) rfl ?_); refine box_event ?hg (N := 3) ?hd (cs := #[.slice A1_0 l1_0.length c1_0]) (t := 24) ?hr ?_; (case hd => rfl); (case hg => rfl); (case hr => first | (go_simp; done) | (go_simp; rfl)); intro gb221 hg w6 hbox hb; have n0_ := Aside0.mk (bB BK220 hb); have n1_ := Aside0.mk (below_step (hq1 HB GE220) hb); have n2_ := Aside0.mk (hbox); have n3_ := Aside0.mk (ng hg (hq1 HB GE220)); have n4_ := Aside0.mk (ng hg (hq1 HB GE220)); have n5_ := Aside0.mk (nl hg BK220); have n6_ := Aside0.mk (nr hg BK220); clear BK220; clear HB; have BK220 := n0_; have HB := n1_; have BK221 := n2_; have GW221 := n3_; have GE221 := n4_; have NB220_221 := n5_; have NB221_220 := n6_; clear n0_ n1_ n2_ n3_ n4_ n5_ n6_; clear hb hbox hg; have hnb7 := NB220_221.out; have hnc7 := NB221_220.out; have hcz8_0 : w6.cell? ⟨gb220, 0, none⟩ = some (.slice A0_0 l0_0.length c0_0) := (blk_cell BK220.out 0).trans rfl; have hfz8_0 := blk_frozen BK220.out 0) | ((with_reducible refine gate_callee (f := 15) rfl ?_); refine goesL_ (some 19) rfl rfl Try.func15 (by kernel_rfl) rfl #[.agg #[.slice A0_0 l0_0.length c0_0], .int .i64 1048576] rfl (by (try simp only [List.map_toArray, List.map_cons, List.map_nil]); first | done | rfl | (simp only [List.length_drop, List.length_take]; rfl)) ?_; (with_reducible refine (laws_szBig.calls _ _ l0_0 1048576 t222 _ ?side1 ?side2 A3.out).mono ?_); (case side1 => repeat (first | exact (Kd.C_below HR0_0.out HB.out) | (with_reducible refine Kd.C_alloc ?_ _) | (with_reducible refine Kd.C_drewN ?_ _) | (with_reducible refine Kd.C_drew ?_))); (case side2 => exact HC0_0.out); rintro e w9 ⟨rfl, hb⟩; refine ⟨_, rfl, ?_⟩; have n0_ := Aside0.mk (bB BK220 hb); have n1_ := Aside0.mk (bB BK221 hb); have n2_ := Aside0.mk (below_step (hq2 HB GE220 GE221) hb); clear BK220; clear BK221; clear HB; have BK220 := n0_; have BK221 := n1_; have HB := n2_; clear n0_ n1_ n2_; (try clear hb); (try clear hb2); (try clear hk); (try clear hi)))
   go_ret
   exact ⟨by first | rfl | (simp [errW_none, errW_some] <;> rfl) | (simp [*, errW_none, errW_some] <;> rfl), hq2 HB GE220 GE221⟩
 rw [if_neg c4] at H
 have c4b0 : decide (t222 < 0) = false := decide_eq_false c4
 clear c4
 replace H := Option.bind_eq_some_iff.mp H
 obtain ⟨t223, A100, H⟩ := H
 replace H : (if t223 < 0 then (some true) else ((laws_toBig.f k l0_0).bind fun t224 => ((laws_toBig.f k l1_0).bind fun t227 => ((spec_HalvesTimes.f k t224 t227).bind fun bt230 => ((laws_toBig.f k l0_0).bind fun t235 => ((laws_toBig.f k l1_0).bind fun t239 => ((impl_HalvesTimes.f k t235 t239).bind fun bt243 => ((laws_eqBig.f k bt243.1 bt230.1).bind fun t248 => (if t248 = true then (laws_FnExactHalvesTimes.j0 k bt230.2 bt243.2 (bt243.2 != bt230.2) l0_0 l1_0 bt230.1 t235 t239 bt243.1) else (laws_FnExactHalvesTimes.j0 k bt230.2 bt243.2 true l0_0 l1_0 bt230.1 t235 t239 bt243.1)))))))))) = some true := H
 have A10 := Aside0.mk A100
 clear A100
 by_cases c11 : t223 < 0
 · rw [if_pos c11] at H
   have c11b0 : decide (t223 < 0) = true := decide_eq_true c11
   clear c11
   clear H
   go_enter Try.func13, Try.ntmps13
   go_wp2_with (first | ((with_reducible refine gate_dst (N := 2) rfl ?_); refine box_event ?hg (N := 2) ?hd (cs := #[.slice A0_0 l0_0.length c0_0]) (t := 24) ?hr ?_; (case hd => rfl); (case hg => rfl); (case hr => first | (go_simp; done) | (go_simp; rfl)); intro gb220 hg w12 hbox hb; have n0_ := Aside0.mk (below_step (hq HB) hb); have n1_ := Aside0.mk (hbox); have n2_ := Aside0.mk (ng hg (hq HB)); have n3_ := Aside0.mk (ng hg (hq HB)); clear HB; have HB := n0_; have BK220 := n1_; have GW220 := n2_; have GE220 := n3_; clear n0_ n1_ n2_ n3_; clear hb hbox hg) | ((with_reducible refine gate_dst (N := 3) rfl ?_); refine box_event ?hg (N := 3) ?hd (cs := #[.slice A1_0 l1_0.length c1_0]) (t := 24) ?hr ?_; (case hd => rfl); (case hg => rfl); (case hr => first | (go_simp; done) | (go_simp; rfl)); intro gb221 hg w13 hbox hb; have n0_ := Aside0.mk (bB BK220 hb); have n1_ := Aside0.mk (below_step (hq1 HB GE220) hb); have n2_ := Aside0.mk (hbox); have n3_ := Aside0.mk (ng hg (hq1 HB GE220)); have n4_ := Aside0.mk (ng hg (hq1 HB GE220)); have n5_ := Aside0.mk (nl hg BK220); have n6_ := Aside0.mk (nr hg BK220); clear BK220; clear HB; have BK220 := n0_; have HB := n1_; have BK221 := n2_; have GW221 := n3_; have GE221 := n4_; have NB220_221 := n5_; have NB221_220 := n6_; clear n0_ n1_ n2_ n3_ n4_ n5_ n6_; clear hb hbox hg; have hnb14 := NB220_221.out; have hnc14 := NB221_220.out; have hcz15_0 : w13.cell? ⟨gb220, 0, none⟩ = some (.slice A0_0 l0_0.length c0_0) := (blk_cell BK220.out 0).trans rfl; have hfz15_0 := blk_frozen BK220.out 0) | ((with_reducible refine gate_callee (f := 15) rfl ?_); refine goesL_ (some 19) rfl rfl Try.func15 (by kernel_rfl) rfl #[.agg #[.slice A0_0 l0_0.length c0_0], .int .i64 1048576] rfl (by (try simp only [List.map_toArray, List.map_cons, List.map_nil]); first | done | rfl | (simp only [List.length_drop, List.length_take]; rfl)) ?_; (with_reducible refine (laws_szBig.calls _ _ l0_0 1048576 t222 _ ?side1 ?side2 A3.out).mono ?_); (case side1 => repeat (first | exact (Kd.C_below HR0_0.out HB.out) | (with_reducible refine Kd.C_alloc ?_ _) | (with_reducible refine Kd.C_drewN ?_ _) | (with_reducible refine Kd.C_drew ?_))); (case side2 => exact HC0_0.out); rintro e w16 ⟨rfl, hb⟩; refine ⟨_, rfl, ?_⟩; have n0_ := Aside0.mk (bB BK220 hb); have n1_ := Aside0.mk (bB BK221 hb); have n2_ := Aside0.mk (below_step (hq2 HB GE220 GE221) hb); clear BK220; clear BK221; clear HB; have BK220 := n0_; have BK221 := n1_; have HB := n2_; clear n0_ n1_ n2_; (try clear hb); (try clear hb2); (try clear hk); (try clear hi); have hcz17_0 : w16.cell? ⟨gb221, 0, none⟩ = some (.slice A1_0 l1_0.length c1_0) := (blk_cell BK221.out 0).trans rfl; have hfz17_0 := blk_frozen BK221.out 0) | ((with_reducible refine gate_callee (f := 15) rfl ?_); refine goesL_ (some 24) rfl rfl Try.func15 (by kernel_rfl) rfl #[.agg #[.slice A1_0 l1_0.length c1_0], .int .i64 t222] rfl (by (try simp only [List.map_toArray, List.map_cons, List.map_nil]); first | done | rfl | (simp only [List.length_drop, List.length_take]; rfl)) ?_; (with_reducible refine (laws_szBig.calls _ _ l1_0 t222 t223 _ ?side1 ?side2 A10.out).mono ?_); (case side1 => repeat (first | exact (Kd.C_below HR1_0.out HB.out) | (with_reducible refine Kd.C_alloc ?_ _) | (with_reducible refine Kd.C_drewN ?_ _) | (with_reducible refine Kd.C_drew ?_))); (case side2 => exact HC1_0.out); rintro e w18 ⟨rfl, hb⟩; refine ⟨_, rfl, ?_⟩; have n0_ := Aside0.mk (bB BK220 hb); have n1_ := Aside0.mk (bB BK221 hb); have n2_ := Aside0.mk (below_step (hq2 HB GE220 GE221) hb); clear BK220; clear BK221; clear HB; have BK220 := n0_; have BK221 := n1_; have HB := n2_; clear n0_ n1_ n2_; (try clear hb); (try clear hb2); (try clear hk); (try clear hi)))
   go_ret
   exact ⟨by first | rfl | (simp [errW_none, errW_some] <;> rfl) | (simp [*, errW_none, errW_some] <;> rfl), hq2 HB GE220 GE221⟩
 rw [if_neg c11] at H
 have c11b0 : decide (t223 < 0) = false := decide_eq_false c11
 clear c11
 replace H := Option.bind_eq_some_iff.mp H
 obtain ⟨t224, A190, H⟩ := H
 replace H : ((laws_toBig.f k l1_0).bind fun t227 => ((spec_HalvesTimes.f k t224 t227).bind fun bt230 => ((laws_toBig.f k l0_0).bind fun t235 => ((laws_toBig.f k l1_0).bind fun t239 => ((impl_HalvesTimes.f k t235 t239).bind fun bt243 => ((laws_eqBig.f k bt243.1 bt230.1).bind fun t248 => (if t248 = true then (laws_FnExactHalvesTimes.j0 k bt230.2 bt243.2 (bt243.2 != bt230.2) l0_0 l1_0 bt230.1 t235 t239 bt243.1) else (laws_FnExactHalvesTimes.j0 k bt230.2 bt243.2 true l0_0 l1_0 bt230.1 t235 t239 bt243.1)))))))) = some true := H
 have A19 := Aside0.mk A190
 clear A190
 replace H := Option.bind_eq_some_iff.mp H
 obtain ⟨t227, A200, H⟩ := H
 replace H : ((spec_HalvesTimes.f k t224 t227).bind fun bt230 => ((laws_toBig.f k l0_0).bind fun t235 => ((laws_toBig.f k l1_0).bind fun t239 => ((impl_HalvesTimes.f k t235 t239).bind fun bt243 => ((laws_eqBig.f k bt243.1 bt230.1).bind fun t248 => (if t248 = true then (laws_FnExactHalvesTimes.j0 k bt230.2 bt243.2 (bt243.2 != bt230.2) l0_0 l1_0 bt230.1 t235 t239 bt243.1) else (laws_FnExactHalvesTimes.j0 k bt230.2 bt243.2 true l0_0 l1_0 bt230.1 t235 t239 bt243.1))))))) = some true := H
 have A20 := Aside0.mk A200
 clear A200
 replace H := Option.bind_eq_some_iff.mp H
 obtain ⟨⟨t230, t233⟩, A210, H⟩ := H
 replace H : ((laws_toBig.f k l0_0).bind fun t235 => ((laws_toBig.f k l1_0).bind fun t239 => ((impl_HalvesTimes.f k t235 t239).bind fun bt243 => ((laws_eqBig.f k bt243.1 t230).bind fun t248 => (if t248 = true then (laws_FnExactHalvesTimes.j0 k t233 bt243.2 (bt243.2 != t233) l0_0 l1_0 t230 t235 t239 bt243.1) else (laws_FnExactHalvesTimes.j0 k t233 bt243.2 true l0_0 l1_0 t230 t235 t239 bt243.1)))))) = some true := H
 have A21 := Aside0.mk A210
 clear A210
 replace H := Option.bind_eq_some_iff.mp H
 obtain ⟨t235, A220, H⟩ := H
 replace H : ((laws_toBig.f k l1_0).bind fun t239 => ((impl_HalvesTimes.f k t235 t239).bind fun bt243 => ((laws_eqBig.f k bt243.1 t230).bind fun t248 => (if t248 = true then (laws_FnExactHalvesTimes.j0 k t233 bt243.2 (bt243.2 != t233) l0_0 l1_0 t230 t235 t239 bt243.1) else (laws_FnExactHalvesTimes.j0 k t233 bt243.2 true l0_0 l1_0 t230 t235 t239 bt243.1))))) = some true := H
 have A22 := Aside0.mk A220
 clear A220
 replace H := Option.bind_eq_some_iff.mp H
 obtain ⟨t239, A230, H⟩ := H
 replace H : ((impl_HalvesTimes.f k t235 t239).bind fun bt243 => ((laws_eqBig.f k bt243.1 t230).bind fun t248 => (if t248 = true then (laws_FnExactHalvesTimes.j0 k t233 bt243.2 (bt243.2 != t233) l0_0 l1_0 t230 t235 t239 bt243.1) else (laws_FnExactHalvesTimes.j0 k t233 bt243.2 true l0_0 l1_0 t230 t235 t239 bt243.1)))) = some true := H
 have A23 := Aside0.mk A230
 clear A230
 replace H := Option.bind_eq_some_iff.mp H
 obtain ⟨⟨t243, t246⟩, A240, H⟩ := H
 replace H : ((laws_eqBig.f k t243 t230).bind fun t248 => (if t248 = true then (laws_FnExactHalvesTimes.j0 k t233 t246 (t246 != t233) l0_0 l1_0 t230 t235 t239 t243) else (laws_FnExactHalvesTimes.j0 k t233 t246 true l0_0 l1_0 t230 t235 t239 t243))) = some true := H
 have A24 := Aside0.mk A240
 clear A240
 have HC25 := Aside0.mk H
 clear H
 go_enter Try.func13, Try.ntmps13
 try go_wp2_with (first | ((with_reducible refine gate_dst (N := 2) rfl ?_); refine box_event ?hg (N := 2) ?hd (cs := #[.slice A0_0 l0_0.length c0_0]) (t := 24) ?hr ?_; (case hd => rfl); (case hg => rfl); (case hr => first | (go_simp; done) | (go_simp; rfl)); intro gb220 hg w26 hbox hb; have n0_ := Aside0.mk (below_step (hq HB) hb); have n1_ := Aside0.mk (hbox); have n2_ := Aside0.mk (ng hg (hq HB)); have n3_ := Aside0.mk (ng hg (hq HB)); clear HB; have HB := n0_; have BK220 := n1_; have GW220 := n2_; have GE220 := n3_; clear n0_ n1_ n2_ n3_; clear hb hbox hg) | ((with_reducible refine gate_dst (N := 3) rfl ?_); refine box_event ?hg (N := 3) ?hd (cs := #[.slice A1_0 l1_0.length c1_0]) (t := 24) ?hr ?_; (case hd => rfl); (case hg => rfl); (case hr => first | (go_simp; done) | (go_simp; rfl)); intro gb221 hg w27 hbox hb; have n0_ := Aside0.mk (bB BK220 hb); have n1_ := Aside0.mk (below_step (hq1 HB GE220) hb); have n2_ := Aside0.mk (hbox); have n3_ := Aside0.mk (ng hg (hq1 HB GE220)); have n4_ := Aside0.mk (ng hg (hq1 HB GE220)); have n5_ := Aside0.mk (nl hg BK220); have n6_ := Aside0.mk (nr hg BK220); clear BK220; clear HB; have BK220 := n0_; have HB := n1_; have BK221 := n2_; have GW221 := n3_; have GE221 := n4_; have NB220_221 := n5_; have NB221_220 := n6_; clear n0_ n1_ n2_ n3_ n4_ n5_ n6_; clear hb hbox hg; have hnb28 := NB220_221.out; have hnc28 := NB221_220.out; have hcz29_0 : w27.cell? ⟨gb220, 0, none⟩ = some (.slice A0_0 l0_0.length c0_0) := (blk_cell BK220.out 0).trans rfl; have hfz29_0 := blk_frozen BK220.out 0) | ((with_reducible refine gate_callee (f := 15) rfl ?_); refine goesL_ (some 19) rfl rfl Try.func15 (by kernel_rfl) rfl #[.agg #[.slice A0_0 l0_0.length c0_0], .int .i64 1048576] rfl (by (try simp only [List.map_toArray, List.map_cons, List.map_nil]); first | done | rfl | (simp only [List.length_drop, List.length_take]; rfl)) ?_; (with_reducible refine (laws_szBig.calls _ _ l0_0 1048576 t222 _ ?side1 ?side2 A3.out).mono ?_); (case side1 => repeat (first | exact (Kd.C_below HR0_0.out HB.out) | (with_reducible refine Kd.C_alloc ?_ _) | (with_reducible refine Kd.C_drewN ?_ _) | (with_reducible refine Kd.C_drew ?_))); (case side2 => exact HC0_0.out); rintro e w30 ⟨rfl, hb⟩; refine ⟨_, rfl, ?_⟩; have n0_ := Aside0.mk (bB BK220 hb); have n1_ := Aside0.mk (bB BK221 hb); have n2_ := Aside0.mk (below_step (hq2 HB GE220 GE221) hb); clear BK220; clear BK221; clear HB; have BK220 := n0_; have BK221 := n1_; have HB := n2_; clear n0_ n1_ n2_; (try clear hb); (try clear hb2); (try clear hk); (try clear hi); have hcz31_0 : w30.cell? ⟨gb221, 0, none⟩ = some (.slice A1_0 l1_0.length c1_0) := (blk_cell BK221.out 0).trans rfl; have hfz31_0 := blk_frozen BK221.out 0) | ((with_reducible refine gate_callee (f := 15) rfl ?_); refine goesL_ (some 24) rfl rfl Try.func15 (by kernel_rfl) rfl #[.agg #[.slice A1_0 l1_0.length c1_0], .int .i64 t222] rfl (by (try simp only [List.map_toArray, List.map_cons, List.map_nil]); first | done | rfl | (simp only [List.length_drop, List.length_take]; rfl)) ?_; (with_reducible refine (laws_szBig.calls _ _ l1_0 t222 t223 _ ?side1 ?side2 A10.out).mono ?_); (case side1 => repeat (first | exact (Kd.C_below HR1_0.out HB.out) | (with_reducible refine Kd.C_alloc ?_ _) | (with_reducible refine Kd.C_drewN ?_ _) | (with_reducible refine Kd.C_drew ?_))); (case side2 => exact HC1_0.out); rintro e w32 ⟨rfl, hb⟩; refine ⟨_, rfl, ?_⟩; have n0_ := Aside0.mk (bB BK220 hb); have n1_ := Aside0.mk (bB BK221 hb); have n2_ := Aside0.mk (below_step (hq2 HB GE220 GE221) hb); clear BK220; clear BK221; clear HB; have BK220 := n0_; have BK221 := n1_; have HB := n2_; clear n0_ n1_ n2_; (try clear hb); (try clear hb2); (try clear hk); (try clear hi)))
 have n0_ := Aside0.mk (blk_drew BK220.out)
 have n1_ := Aside0.mk (blk_drew BK221.out)
 have n2_ := Aside0.mk (below_drew1 HB.out)
 clear BK220
 clear BK221
 clear HB
 have BK220 := n0_
 have BK221 := n1_
 have HB := n2_
 clear n0_ n1_ n2_
 refine start_ (n := 11) (S := fun w' => w'.cell? ⟨gb220, 0, none⟩ = some (.slice A0_0 l0_0.length c0_0) ∧ w'.cell? ⟨gb221, 0, none⟩ = some (.slice A1_0 l1_0.length c1_0)) (ds := []) #[false, false, false, false, false, false, false, false, false, false, false] (by kernel_rfl) rfl rfl ⟨(blk_cell BK220.out 0).trans rfl, (blk_cell BK221.out 0).trans rfl⟩ (fun hHeld => ?_); refine with_tabW laws_FnExactHalvesTimes.tab8 laws_FnExactHalvesTimes.bits8 (fun HT_ HW_ => ?_)
 generalize w32.drew = w33 at BK220 BK221 HB hHeld ⊢
 refine take_ (i := 0) (N := some 28) (v := ?_) (a' := ?_) #[true, false, false, false, false, false, false, false, false, false, false] rfl rfl (take_ofW HT_.out HW_.out (by kernel_rfl)) (fun _ _ _ h => h) (Or.inl ⟨by rfl, ?_⟩) hHeld ?_ ?_
 rotate_left
 · rintro w' ⟨s0, s1⟩
   go_simp
   with_reducible rfl
 rotate_left
 · simp only [Act.put, List.setIfInBounds_toArray, List.set_cons_zero, List.set_cons_succ, i64_w, i32_w]
   rfl
 refine take_ (i := 2) (N := some 30) (v := ?_) (a' := ?_) #[true, false, true, false, false, false, false, false, false, false, false] rfl rfl (take_ofW HT_.out HW_.out (by kernel_rfl)) (fun _ _ _ h => h) (Or.inl ⟨by rfl, ?_⟩) hHeld ?_ ?_
 rotate_left
 · rintro w' ⟨s0, s1⟩
   go_simp
   with_reducible rfl
 rotate_left
 · simp only [Act.put, List.setIfInBounds_toArray, List.set_cons_zero, List.set_cons_succ, i64_w, i32_w]
   rfl
 refine join_ (σ := Value × Value × Value × Nat) 2 #[true, true, true, true, true, true, true, true, true, false, false] (fun s_ => [(29, .agg #[s_.1]), (31, .agg #[s_.2.1]), (32, .tuple #[.agg #[s_.2.2.1], .bool t233]), (6, .pointer (some ⟨s_.2.2.2, 0, none⟩)), (27, .tuple #[.agg #[s_.2.2.1], .bool t233]), (33, .agg #[s_.2.2.1]), (34, .bool t233)]) (fun s_ w' => (w'.cell? ⟨gb220, 0, none⟩ = some (.slice A0_0 l0_0.length c0_0) ∧ w'.cell? ⟨gb221, 0, none⟩ = some (.slice A1_0 l1_0.length c1_0)) ∧ (Kd.R (Kd.int .i64) 3 w' w.heap.size (fun k_ => some k_ ≠ (s_.2.1 : Value).ownBlock ∧ some k_ ≠ (s_.2.2.1 : Value).ownBlock) s_.1 t224) ∧ (Kd.R (Kd.int .i64) 3 w' w.heap.size (fun k_ => some k_ ≠ (s_.1 : Value).ownBlock ∧ some k_ ≠ (s_.2.2.1 : Value).ownBlock) s_.2.1 t227) ∧ (Kd.R (Kd.int .i64) 3 w' w.heap.size (fun k_ => some k_ ≠ (s_.1 : Value).ownBlock ∧ some k_ ≠ (s_.2.1 : Value).ownBlock) s_.2.2.1 t230) ∧ (w'.heap[gb220]? = some (.cells #[.slice A0_0 l0_0.length c0_0] 24 (0, 0))) ∧ (w'.heap[gb221]? = some (.cells #[.slice A1_0 l1_0.length c1_0] 24 (0, 0))) ∧ (w'.heap[s_.2.2.2]? = some (.cells #[.slice none 0 0] 27 (0, 0))) ∧ (w.heap.size ≤ s_.2.2.2) ∧ (w.heap.size ≤ s_.2.2.2) ∧ (gb220 ≠ s_.2.2.2) ∧ (s_.2.2.2 ≠ gb220) ∧ (gb221 ≠ s_.2.2.2) ∧ (s_.2.2.2 ≠ gb221) ∧ (Below w.heap.size w w')) ?_ ?_
 rotate_left
 · intro hCont
   refine two_ (i := 1) (j := 8) (Ni := some 29) (Nj := some 6) #[true, true, true, false, false, false, false, false, false, false, false] #[true, false, true, false, false, false, false, false, true, false, false] rfl rfl rfl rfl (two_of HT_.out (by kernel_rfl)) (by decide) (by decide) (fun K hK => ?_) (fun K hK => ?_)
   · skip
     refine goes_ Try.func17 (by kernel_rfl) rfl #[.agg #[.slice A0_0 l0_0.length c0_0]] (by rfl) rfl rfl (by (try simp only [List.map_toArray, List.map_cons, List.map_nil]); first | done | rfl | (simp only [List.length_drop, List.length_take]; rfl)) ?_
     with_reducible refine (laws_toBig.calls k _ _ l0_0 t224 _ ?side1 ?side2 A19.out).mono ?_
     (case side1 => repeat (first | exact (Kd.C_below HR0_0.out HB.out) | (with_reducible refine Kd.C_alloc ?_ _) | (with_reducible refine Kd.C_drewN ?_ _) | (with_reducible refine Kd.C_drew ?_)))
     (case side2 => exact HC0_0.out)
     rintro e w34 ⟨v225, rfl, ho0, hb⟩
     refine ⟨_, rfl, ?_⟩
     have n0_ := Aside0.mk (Kd.R_lower ho0 (below_size (hq2 HB GE220 GE221)))
     have n1_ := Aside0.mk (bB BK220 hb)
     have n2_ := Aside0.mk (bB BK221 hb)
     have n3_ := Aside0.mk (below_step (hq2 HB GE220 GE221) hb)
     clear BK220
     clear BK221
     clear HB
     have HO226 := n0_
     have BK220 := n1_
     have BK221 := n2_
     have HB := n3_
     clear n0_ n1_ n2_ n3_
     (try clear hb)
     (try clear hb2)
     (try clear hk)
     (try clear hi)
     (try clear ho0)
     refine hK.out _ _ ⟨(blk_cell BK220.out 0).trans rfl, (blk_cell BK221.out 0).trans rfl⟩ (fun hHeld => ?_)
     clear hK K
     refine norm_ (a' := ?_) ?_ ?_
     rotate_left
     · show Act.put _ (some 29) _ = _
       simp only [Act.put, List.setIfInBounds_toArray, List.set_cons_zero, List.set_cons_succ, i64_w, i32_w]
       rfl
     refine two_ (i := 3) (j := 8) (Ni := some 31) (Nj := some 6) #[true, true, true, true, false, false, false, false, false, false, false] #[true, true, true, false, false, false, false, false, true, false, false] rfl rfl rfl rfl (two_of HT_.out (by kernel_rfl)) (by decide) (by decide) (fun K hK => ?_) (fun K hK => ?_)
     · skip
       refine goes_ Try.func17 (by kernel_rfl) rfl #[.agg #[.slice A1_0 l1_0.length c1_0]] (by rfl) rfl rfl (by (try simp only [List.map_toArray, List.map_cons, List.map_nil]); first | done | rfl | (simp only [List.length_drop, List.length_take]; rfl)) ?_
       with_reducible refine (laws_toBig.calls k _ _ l1_0 t227 _ ?side1 ?side2 A20.out).mono ?_
       (case side1 => repeat (first | exact (Kd.C_below HR1_0.out HB.out) | (with_reducible refine Kd.C_alloc ?_ _) | (with_reducible refine Kd.C_drewN ?_ _) | (with_reducible refine Kd.C_drew ?_)))
       (case side2 => exact HC1_0.out)
       rintro e w35 ⟨v228, rfl, ho0, hb⟩
       refine ⟨_, rfl, ?_⟩
       have n0_ := Aside0.mk (qe HO226 ho0 hb)
       have n1_ := Aside0.mk (Kd.R_lower (Kd.R_new' ho0 (ql HO226)) (below_size (hq2 HB GE220 GE221)))
       have n2_ := Aside0.mk (bB BK220 hb)
       have n3_ := Aside0.mk (bB BK221 hb)
       have n4_ := Aside0.mk (below_step (hq2 HB GE220 GE221) hb)
       clear HO226
       clear BK220
       clear BK221
       clear HB
       have HO226 := n0_
       have HO229 := n1_
       have BK220 := n2_
       have BK221 := n3_
       have HB := n4_
       clear n0_ n1_ n2_ n3_ n4_
       (try clear hb)
       (try clear hb2)
       (try clear hk)
       (try clear hi)
       (try clear ho0)
       obtain ⟨Ao36, co36, eo36⟩ := Kd.R_slice HO226.out
       (first | subst eo36 | (injection eo36 with f1_ f2_ f3_; have f4_ := f1_.symm; have f5_ := f3_.symm; clear f1_ f2_ f3_; subst f4_; subst f5_))
       obtain ⟨Ao37, co37, eo37⟩ := Kd.R_slice HO229.out
       (first | subst eo37 | (injection eo37 with f1_ f2_ f3_; have f4_ := f1_.symm; have f5_ := f3_.symm; clear f1_ f2_ f3_; subst f4_; subst f5_))
       refine hK.out _ _ ⟨(blk_cell BK220.out 0).trans rfl, (blk_cell BK221.out 0).trans rfl⟩ (fun hHeld => ?_)
       clear hK K
       refine norm_ (a' := ?_) ?_ ?_
       rotate_left
       · show Act.put _ (some 31) _ = _
         simp only [Act.put, List.setIfInBounds_toArray, List.set_cons_zero, List.set_cons_succ, i64_w, i32_w]
         rfl
       refine two_ (i := 4) (j := 8) (Ni := some 32) (Nj := some 6) #[true, true, true, true, true, false, false, false, false, false, false] #[true, true, true, true, false, false, false, false, true, false, false] rfl rfl rfl rfl (two_of HT_.out (by kernel_rfl)) (by decide) (by decide) (fun K hK => ?_) (fun K hK => ?_)
       · skip
         refine goes_ Try.func40 (by kernel_rfl) rfl #[.agg #[.slice Ao36 t224.length co36], .agg #[.slice Ao37 t227.length co37]] (by rfl) rfl rfl (by (try simp only [List.map_toArray, List.map_cons, List.map_nil]); first | done | rfl | (simp only [List.length_drop, List.length_take]; rfl)) ?_
         with_reducible refine (spec_HalvesTimes.calls k _ _ t224 _ _ t227 t230 t233 _ ?side1 ?side2 ?side3 ?side4 A21.out).mono ?_
         (case side1 => repeat (first | exact (Kd.R_reads' HO226.out).2.2 | (with_reducible refine Kd.C_alloc ?_ _) | (with_reducible refine Kd.C_drewN ?_ _) | (with_reducible refine Kd.C_drew ?_)))
         (case side2 => exact (Kd.R_reads' HO226.out).2.1)
         (case side3 => repeat (first | exact (Kd.R_reads' HO229.out).2.2 | (with_reducible refine Kd.C_alloc ?_ _) | (with_reducible refine Kd.C_drewN ?_ _) | (with_reducible refine Kd.C_drew ?_)))
         (case side4 => exact (Kd.R_reads' HO229.out).2.1)
         rintro e w38 ⟨v231, rfl, ho0, hb⟩
         refine ⟨_, rfl, ?_⟩
         have n0_ := Aside0.mk (qe HO226 ho0 hb)
         have n1_ := Aside0.mk (qe HO229 ho0 hb)
         have n2_ := Aside0.mk (Kd.R_lower (Kd.R_new' (Kd.R_new' ho0 (ql HO226)) (ql HO229)) (below_size (hq2 HB GE220 GE221)))
         have n3_ := Aside0.mk (bB BK220 hb)
         have n4_ := Aside0.mk (bB BK221 hb)
         have n5_ := Aside0.mk (below_step (hq2 HB GE220 GE221) hb)
         clear HO226
         clear HO229
         clear BK220
         clear BK221
         clear HB
         have HO226 := n0_
         have HO229 := n1_
         have HO232 := n2_
         have BK220 := n3_
         have BK221 := n4_
         have HB := n5_
         clear n0_ n1_ n2_ n3_ n4_ n5_
         (try clear hb)
         (try clear hb2)
         (try clear hk)
         (try clear hi)
         (try clear ho0)
         refine hK.out _ _ ⟨(blk_cell BK220.out 0).trans rfl, (blk_cell BK221.out 0).trans rfl⟩ (fun hHeld => ?_)
         clear hK K
         refine norm_ (a' := ?_) ?_ ?_
         rotate_left
         · show Act.put _ (some 32) _ = _
           simp only [Act.put, List.setIfInBounds_toArray, List.set_cons_zero, List.set_cons_succ, i64_w, i32_w]
           rfl
         refine pure_ (i := 5) (N := some 27) (v := ?_) (a' := ?_) #[true, true, true, true, true, true, false, false, false, false, false] rfl rfl (any_of HT_.out (by kernel_rfl)) (fun _ _ _ h => h) (Or.inl ⟨by rfl, ?_⟩) ?_ ?_
         rotate_left
         · intro w'
           first | (go_simp; with_reducible rfl) | (go_simp; unfold Instr.field; go_simp; rfl)
         rotate_left
         · simp only [Act.put, List.setIfInBounds_toArray, List.set_cons_zero, List.set_cons_succ, i64_w, i32_w]
           rfl
         refine pure_ (i := 6) (N := some 33) (v := ?_) (a' := ?_) #[true, true, true, true, true, true, true, false, false, false, false] rfl rfl (any_of HT_.out (by kernel_rfl)) (fun _ _ _ h => h) (Or.inl ⟨by rfl, ?_⟩) ?_ ?_
         rotate_left
         · intro w'
           first | (go_simp; with_reducible rfl) | (go_simp; unfold Instr.field; go_simp; rfl)
         rotate_left
         · simp only [Act.put, List.setIfInBounds_toArray, List.set_cons_zero, List.set_cons_succ, i64_w, i32_w]
           rfl
         refine pure_ (i := 7) (N := some 34) (v := ?_) (a' := ?_) #[true, true, true, true, true, true, true, true, false, false, false] rfl rfl (any_of HT_.out (by kernel_rfl)) (fun _ _ _ h => h) (Or.inl ⟨by rfl, ?_⟩) ?_ ?_
         rotate_left
         · intro w'
           first | (go_simp; with_reducible rfl) | (go_simp; unfold Instr.field; go_simp; rfl)
         rotate_left
         · simp only [Act.put, List.setIfInBounds_toArray, List.set_cons_zero, List.set_cons_succ, i64_w, i32_w]
           rfl
         refine one_ (i := 8) (N := some 6) #[true, true, true, true, true, true, true, true, true, false, false] rfl rfl (one_of HT_.out (by kernel_rfl)) (by decide) (fun K hK => ?_)
         refine box_step ?hg (N := 6) ?hd (cs := #[.slice none 0 0]) (t := 27) ?hr ?_; (case hd => rfl); (case hg => rfl); (case hr => first | (go_simp; done) | (go_simp; rfl))
         intro gb234 hg w39 hbox hb
         have n0_ := Aside0.mk (qb HO226 hb)
         have n1_ := Aside0.mk (qb HO229 hb)
         have n2_ := Aside0.mk (qb HO232 hb)
         have n3_ := Aside0.mk (bB BK220 hb)
         have n4_ := Aside0.mk (bB BK221 hb)
         have n5_ := Aside0.mk (below_step (hq2 HB GE220 GE221) hb)
         have n6_ := Aside0.mk (hbox)
         have n7_ := Aside0.mk (ng hg (hq2 HB GE220 GE221))
         have n8_ := Aside0.mk (ng hg (hq2 HB GE220 GE221))
         have n9_ := Aside0.mk (nl hg BK220)
         have n10_ := Aside0.mk (nr hg BK220)
         have n11_ := Aside0.mk (nl hg BK221)
         have n12_ := Aside0.mk (nr hg BK221)
         clear HO226
         clear HO229
         clear HO232
         clear BK220
         clear BK221
         clear HB
         have HO226 := n0_
         have HO229 := n1_
         have HO232 := n2_
         have BK220 := n3_
         have BK221 := n4_
         have HB := n5_
         have BK234 := n6_
         have GW234 := n7_
         have GE234 := n8_
         have NB220_234 := n9_
         have NB234_220 := n10_
         have NB221_234 := n11_
         have NB234_221 := n12_
         clear n0_ n1_ n2_ n3_ n4_ n5_ n6_ n7_ n8_ n9_ n10_ n11_ n12_
         clear hb hbox hg
         refine hK.out _ _ ⟨(blk_cell BK220.out 0).trans rfl, (blk_cell BK221.out 0).trans rfl⟩ (fun hHeld => ?_)
         clear hK K
         refine norm_ (a' := ?_) ?_ ?_
         rotate_left
         · show Act.put _ (some 6) _ = _
           simp only [Act.put, List.setIfInBounds_toArray, List.set_cons_zero, List.set_cons_succ, i64_w, i32_w]
           rfl
         exact norm_ (by simp only [putAll, Act.put, List.setIfInBounds_toArray, List.set_cons_zero, List.set_cons_succ]) (hCont (.slice Ao36 t224.length co36, .slice Ao37 t227.length co37, v231, gb234) _ ⟨hHeld, (by (with_reducible repeat (first | apply Kd.R_alloc | apply Kd.R_drewN | apply Kd.R_drew)); exact Kd.R_mono HO226.out (fun _ hk => ⟨hk.1.2, hk.2⟩)), (by (with_reducible repeat (first | apply Kd.R_alloc | apply Kd.R_drewN | apply Kd.R_drew)); exact Kd.R_mono HO229.out (fun _ hk => ⟨hk.1.2, hk.2⟩)), (by (with_reducible repeat (first | apply Kd.R_alloc | apply Kd.R_drewN | apply Kd.R_drew)); exact Kd.R_mono HO232.out (fun _ hk => ⟨hk.1.2, hk.2⟩)), (bq BK220), (bq BK221), (bq BK234), GW234.out, GE234.out, NB220_234.out, NB234_220.out, NB221_234.out, NB234_221.out, (hq3 HB GE220 GE221 GE234)⟩)
       skip
       refine box_step ?hg (N := 6) ?hd (cs := #[.slice none 0 0]) (t := 27) ?hr ?_; (case hd => rfl); (case hg => rfl); (case hr => first | (go_simp; done) | (go_simp; rfl))
       intro gb234 hg w36 hbox hb
       have n0_ := Aside0.mk (qb HO226 hb)
       have n1_ := Aside0.mk (qb HO229 hb)
       have n2_ := Aside0.mk (bB BK220 hb)
       have n3_ := Aside0.mk (bB BK221 hb)
       have n4_ := Aside0.mk (below_step (hq2 HB GE220 GE221) hb)
       have n5_ := Aside0.mk (hbox)
       have n6_ := Aside0.mk (ng hg (hq2 HB GE220 GE221))
       have n7_ := Aside0.mk (ng hg (hq2 HB GE220 GE221))
       have n8_ := Aside0.mk (nl hg BK220)
       have n9_ := Aside0.mk (nr hg BK220)
       have n10_ := Aside0.mk (nl hg BK221)
       have n11_ := Aside0.mk (nr hg BK221)
       clear HO226
       clear HO229
       clear BK220
       clear BK221
       clear HB
       have HO226 := n0_
       have HO229 := n1_
       have BK220 := n2_
       have BK221 := n3_
       have HB := n4_
       have BK234 := n5_
       have GW234 := n6_
       have GE234 := n7_
       have NB220_234 := n8_
       have NB234_220 := n9_
       have NB221_234 := n10_
       have NB234_221 := n11_
       clear n0_ n1_ n2_ n3_ n4_ n5_ n6_ n7_ n8_ n9_ n10_ n11_
       clear hb hbox hg
       obtain ⟨Ao37, co37, eo37⟩ := Kd.R_slice HO226.out
       (first | subst eo37 | (injection eo37 with f1_ f2_ f3_; have f4_ := f1_.symm; have f5_ := f3_.symm; clear f1_ f2_ f3_; subst f4_; subst f5_))
       obtain ⟨Ao38, co38, eo38⟩ := Kd.R_slice HO229.out
       (first | subst eo38 | (injection eo38 with f1_ f2_ f3_; have f4_ := f1_.symm; have f5_ := f3_.symm; clear f1_ f2_ f3_; subst f4_; subst f5_))
       refine hK.out _ _ ⟨(blk_cell BK220.out 0).trans rfl, (blk_cell BK221.out 0).trans rfl⟩ (fun hHeld => ?_)
       clear hK K
       refine norm_ (a' := ?_) ?_ ?_
       rotate_left
       · show Act.put _ (some 6) _ = _
         simp only [Act.put, List.setIfInBounds_toArray, List.set_cons_zero, List.set_cons_succ, i64_w, i32_w]
         rfl
       refine one_ (i := 4) (N := some 32) #[true, true, true, true, true, false, false, false, true, false, false] rfl rfl (one_of HT_.out (by kernel_rfl)) (by decide) (fun K hK => ?_)
       refine goes_ Try.func40 (by kernel_rfl) rfl #[.agg #[.slice Ao37 t224.length co37], .agg #[.slice Ao38 t227.length co38]] (by rfl) rfl rfl (by (try simp only [List.map_toArray, List.map_cons, List.map_nil]); first | done | rfl | (simp only [List.length_drop, List.length_take]; rfl)) ?_
       with_reducible refine (spec_HalvesTimes.calls k _ _ t224 _ _ t227 t230 t233 _ ?side1 ?side2 ?side3 ?side4 A21.out).mono ?_
       (case side1 => repeat (first | exact (Kd.R_reads' HO226.out).2.2 | (with_reducible refine Kd.C_alloc ?_ _) | (with_reducible refine Kd.C_drewN ?_ _) | (with_reducible refine Kd.C_drew ?_)))
       (case side2 => exact (Kd.R_reads' HO226.out).2.1)
       (case side3 => repeat (first | exact (Kd.R_reads' HO229.out).2.2 | (with_reducible refine Kd.C_alloc ?_ _) | (with_reducible refine Kd.C_drewN ?_ _) | (with_reducible refine Kd.C_drew ?_)))
       (case side4 => exact (Kd.R_reads' HO229.out).2.1)
       rintro e w39 ⟨v231, rfl, ho0, hb⟩
       refine ⟨_, rfl, ?_⟩
       have n0_ := Aside0.mk (qe HO226 ho0 hb)
       have n1_ := Aside0.mk (qe HO229 ho0 hb)
       have n2_ := Aside0.mk (Kd.R_lower (Kd.R_new' (Kd.R_new' ho0 (ql HO226)) (ql HO229)) (below_size (hq3 HB GE220 GE221 GE234)))
       have n3_ := Aside0.mk (bB BK220 hb)
       have n4_ := Aside0.mk (bB BK221 hb)
       have n5_ := Aside0.mk (bB BK234 hb)
       have n6_ := Aside0.mk (below_step (hq3 HB GE220 GE221 GE234) hb)
       clear HO226
       clear HO229
       clear BK220
       clear BK221
       clear BK234
       clear HB
       have HO226 := n0_
       have HO229 := n1_
       have HO232 := n2_
       have BK220 := n3_
       have BK221 := n4_
       have BK234 := n5_
       have HB := n6_
       clear n0_ n1_ n2_ n3_ n4_ n5_ n6_
       (try clear hb)
       (try clear hb2)
       (try clear hk)
       (try clear hi)
       (try clear ho0)
       refine hK.out _ _ ⟨(blk_cell BK220.out 0).trans rfl, (blk_cell BK221.out 0).trans rfl⟩ (fun hHeld => ?_)
       clear hK K
       refine norm_ (a' := ?_) ?_ ?_
       rotate_left
       · show Act.put _ (some 32) _ = _
         simp only [Act.put, List.setIfInBounds_toArray, List.set_cons_zero, List.set_cons_succ, i64_w, i32_w]
         rfl
       refine pure_ (i := 5) (N := some 27) (v := ?_) (a' := ?_) #[true, true, true, true, true, true, false, false, true, false, false] rfl rfl (any_of HT_.out (by kernel_rfl)) (fun _ _ _ h => h) (Or.inl ⟨by rfl, ?_⟩) ?_ ?_
       rotate_left
       · intro w'
         first | (go_simp; with_reducible rfl) | (go_simp; unfold Instr.field; go_simp; rfl)
       rotate_left
       · simp only [Act.put, List.setIfInBounds_toArray, List.set_cons_zero, List.set_cons_succ, i64_w, i32_w]
         rfl
       refine pure_ (i := 6) (N := some 33) (v := ?_) (a' := ?_) #[true, true, true, true, true, true, true, false, true, false, false] rfl rfl (any_of HT_.out (by kernel_rfl)) (fun _ _ _ h => h) (Or.inl ⟨by rfl, ?_⟩) ?_ ?_
       rotate_left
       · intro w'
         first | (go_simp; with_reducible rfl) | (go_simp; unfold Instr.field; go_simp; rfl)
       rotate_left
       · simp only [Act.put, List.setIfInBounds_toArray, List.set_cons_zero, List.set_cons_succ, i64_w, i32_w]
         rfl
       refine pure_ (i := 7) (N := some 34) (v := ?_) (a' := ?_) #[true, true, true, true, true, true, true, true, true, false, false] rfl rfl (any_of HT_.out (by kernel_rfl)) (fun _ _ _ h => h) (Or.inl ⟨by rfl, ?_⟩) ?_ ?_
       rotate_left
       · intro w'
         first | (go_simp; with_reducible rfl) | (go_simp; unfold Instr.field; go_simp; rfl)
       rotate_left
       · simp only [Act.put, List.setIfInBounds_toArray, List.set_cons_zero, List.set_cons_succ, i64_w, i32_w]
         rfl
       exact norm_ (by simp only [putAll, Act.put, List.setIfInBounds_toArray, List.set_cons_zero, List.set_cons_succ]) (hCont (.slice Ao37 t224.length co37, .slice Ao38 t227.length co38, v231, gb234) _ ⟨hHeld, (by (with_reducible repeat (first | apply Kd.R_alloc | apply Kd.R_drewN | apply Kd.R_drew)); exact Kd.R_mono HO226.out (fun _ hk => ⟨hk.1.2, hk.2⟩)), (by (with_reducible repeat (first | apply Kd.R_alloc | apply Kd.R_drewN | apply Kd.R_drew)); exact Kd.R_mono HO229.out (fun _ hk => ⟨hk.1.2, hk.2⟩)), (by (with_reducible repeat (first | apply Kd.R_alloc | apply Kd.R_drewN | apply Kd.R_drew)); exact Kd.R_mono HO232.out (fun _ hk => ⟨hk.1.2, hk.2⟩)), (bq BK220), (bq BK221), (bq BK234), GW234.out, GE234.out, NB220_234.out, NB234_220.out, NB221_234.out, NB234_221.out, (hq3 HB GE220 GE221 GE234)⟩)
     skip
     refine box_step ?hg (N := 6) ?hd (cs := #[.slice none 0 0]) (t := 27) ?hr ?_; (case hd => rfl); (case hg => rfl); (case hr => first | (go_simp; done) | (go_simp; rfl))
     intro gb234 hg w35 hbox hb
     have n0_ := Aside0.mk (qb HO226 hb)
     have n1_ := Aside0.mk (bB BK220 hb)
     have n2_ := Aside0.mk (bB BK221 hb)
     have n3_ := Aside0.mk (below_step (hq2 HB GE220 GE221) hb)
     have n4_ := Aside0.mk (hbox)
     have n5_ := Aside0.mk (ng hg (hq2 HB GE220 GE221))
     have n6_ := Aside0.mk (ng hg (hq2 HB GE220 GE221))
     have n7_ := Aside0.mk (nl hg BK220)
     have n8_ := Aside0.mk (nr hg BK220)
     have n9_ := Aside0.mk (nl hg BK221)
     have n10_ := Aside0.mk (nr hg BK221)
     clear HO226
     clear BK220
     clear BK221
     clear HB
     have HO226 := n0_
     have BK220 := n1_
     have BK221 := n2_
     have HB := n3_
     have BK234 := n4_
     have GW234 := n5_
     have GE234 := n6_
     have NB220_234 := n7_
     have NB234_220 := n8_
     have NB221_234 := n9_
     have NB234_221 := n10_
     clear n0_ n1_ n2_ n3_ n4_ n5_ n6_ n7_ n8_ n9_ n10_
     clear hb hbox hg
     refine hK.out _ _ ⟨(blk_cell BK220.out 0).trans rfl, (blk_cell BK221.out 0).trans rfl⟩ (fun hHeld => ?_)
     clear hK K
     refine norm_ (a' := ?_) ?_ ?_
     rotate_left
     · show Act.put _ (some 6) _ = _
       simp only [Act.put, List.setIfInBounds_toArray, List.set_cons_zero, List.set_cons_succ, i64_w, i32_w]
       rfl
     refine one_ (i := 3) (N := some 31) #[true, true, true, true, false, false, false, false, true, false, false] rfl rfl (one_of HT_.out (by kernel_rfl)) (by decide) (fun K hK => ?_)
     refine goes_ Try.func17 (by kernel_rfl) rfl #[.agg #[.slice A1_0 l1_0.length c1_0]] (by rfl) rfl rfl (by (try simp only [List.map_toArray, List.map_cons, List.map_nil]); first | done | rfl | (simp only [List.length_drop, List.length_take]; rfl)) ?_
     with_reducible refine (laws_toBig.calls k _ _ l1_0 t227 _ ?side1 ?side2 A20.out).mono ?_
     (case side1 => repeat (first | exact (Kd.C_below HR1_0.out HB.out) | (with_reducible refine Kd.C_alloc ?_ _) | (with_reducible refine Kd.C_drewN ?_ _) | (with_reducible refine Kd.C_drew ?_)))
     (case side2 => exact HC1_0.out)
     rintro e w36 ⟨v228, rfl, ho0, hb⟩
     refine ⟨_, rfl, ?_⟩
     have n0_ := Aside0.mk (qe HO226 ho0 hb)
     have n1_ := Aside0.mk (Kd.R_lower (Kd.R_new' ho0 (ql HO226)) (below_size (hq3 HB GE220 GE221 GE234)))
     have n2_ := Aside0.mk (bB BK220 hb)
     have n3_ := Aside0.mk (bB BK221 hb)
     have n4_ := Aside0.mk (bB BK234 hb)
     have n5_ := Aside0.mk (below_step (hq3 HB GE220 GE221 GE234) hb)
     clear HO226
     clear BK220
     clear BK221
     clear BK234
     clear HB
     have HO226 := n0_
     have HO229 := n1_
     have BK220 := n2_
     have BK221 := n3_
     have BK234 := n4_
     have HB := n5_
     clear n0_ n1_ n2_ n3_ n4_ n5_
     (try clear hb)
     (try clear hb2)
     (try clear hk)
     (try clear hi)
     (try clear ho0)
     obtain ⟨Ao37, co37, eo37⟩ := Kd.R_slice HO226.out
     (first | subst eo37 | (injection eo37 with f1_ f2_ f3_; have f4_ := f1_.symm; have f5_ := f3_.symm; clear f1_ f2_ f3_; subst f4_; subst f5_))
     obtain ⟨Ao38, co38, eo38⟩ := Kd.R_slice HO229.out
     (first | subst eo38 | (injection eo38 with f1_ f2_ f3_; have f4_ := f1_.symm; have f5_ := f3_.symm; clear f1_ f2_ f3_; subst f4_; subst f5_))
     refine hK.out _ _ ⟨(blk_cell BK220.out 0).trans rfl, (blk_cell BK221.out 0).trans rfl⟩ (fun hHeld => ?_)
     clear hK K
     refine norm_ (a' := ?_) ?_ ?_
     rotate_left
     · show Act.put _ (some 31) _ = _
       simp only [Act.put, List.setIfInBounds_toArray, List.set_cons_zero, List.set_cons_succ, i64_w, i32_w]
       rfl
     refine one_ (i := 4) (N := some 32) #[true, true, true, true, true, false, false, false, true, false, false] rfl rfl (one_of HT_.out (by kernel_rfl)) (by decide) (fun K hK => ?_)
     refine goes_ Try.func40 (by kernel_rfl) rfl #[.agg #[.slice Ao37 t224.length co37], .agg #[.slice Ao38 t227.length co38]] (by rfl) rfl rfl (by (try simp only [List.map_toArray, List.map_cons, List.map_nil]); first | done | rfl | (simp only [List.length_drop, List.length_take]; rfl)) ?_
     with_reducible refine (spec_HalvesTimes.calls k _ _ t224 _ _ t227 t230 t233 _ ?side1 ?side2 ?side3 ?side4 A21.out).mono ?_
     (case side1 => repeat (first | exact (Kd.R_reads' HO226.out).2.2 | (with_reducible refine Kd.C_alloc ?_ _) | (with_reducible refine Kd.C_drewN ?_ _) | (with_reducible refine Kd.C_drew ?_)))
     (case side2 => exact (Kd.R_reads' HO226.out).2.1)
     (case side3 => repeat (first | exact (Kd.R_reads' HO229.out).2.2 | (with_reducible refine Kd.C_alloc ?_ _) | (with_reducible refine Kd.C_drewN ?_ _) | (with_reducible refine Kd.C_drew ?_)))
     (case side4 => exact (Kd.R_reads' HO229.out).2.1)
     rintro e w39 ⟨v231, rfl, ho0, hb⟩
     refine ⟨_, rfl, ?_⟩
     have n0_ := Aside0.mk (qe HO226 ho0 hb)
     have n1_ := Aside0.mk (qe HO229 ho0 hb)
     have n2_ := Aside0.mk (Kd.R_lower (Kd.R_new' (Kd.R_new' ho0 (ql HO226)) (ql HO229)) (below_size (hq3 HB GE220 GE221 GE234)))
     have n3_ := Aside0.mk (bB BK220 hb)
     have n4_ := Aside0.mk (bB BK221 hb)
     have n5_ := Aside0.mk (bB BK234 hb)
     have n6_ := Aside0.mk (below_step (hq3 HB GE220 GE221 GE234) hb)
     clear HO226
     clear HO229
     clear BK220
     clear BK221
     clear BK234
     clear HB
     have HO226 := n0_
     have HO229 := n1_
     have HO232 := n2_
     have BK220 := n3_
     have BK221 := n4_
     have BK234 := n5_
     have HB := n6_
     clear n0_ n1_ n2_ n3_ n4_ n5_ n6_
     (try clear hb)
     (try clear hb2)
     (try clear hk)
     (try clear hi)
     (try clear ho0)
     refine hK.out _ _ ⟨(blk_cell BK220.out 0).trans rfl, (blk_cell BK221.out 0).trans rfl⟩ (fun hHeld => ?_)
     clear hK K
     refine norm_ (a' := ?_) ?_ ?_
     rotate_left
     · show Act.put _ (some 32) _ = _
       simp only [Act.put, List.setIfInBounds_toArray, List.set_cons_zero, List.set_cons_succ, i64_w, i32_w]
       rfl
     refine pure_ (i := 5) (N := some 27) (v := ?_) (a' := ?_) #[true, true, true, true, true, true, false, false, true, false, false] rfl rfl (any_of HT_.out (by kernel_rfl)) (fun _ _ _ h => h) (Or.inl ⟨by rfl, ?_⟩) ?_ ?_
     rotate_left
     · intro w'
       first | (go_simp; with_reducible rfl) | (go_simp; unfold Instr.field; go_simp; rfl)
     rotate_left
     · simp only [Act.put, List.setIfInBounds_toArray, List.set_cons_zero, List.set_cons_succ, i64_w, i32_w]
       rfl
     refine pure_ (i := 6) (N := some 33) (v := ?_) (a' := ?_) #[true, true, true, true, true, true, true, false, true, false, false] rfl rfl (any_of HT_.out (by kernel_rfl)) (fun _ _ _ h => h) (Or.inl ⟨by rfl, ?_⟩) ?_ ?_
     rotate_left
     · intro w'
       first | (go_simp; with_reducible rfl) | (go_simp; unfold Instr.field; go_simp; rfl)
     rotate_left
     · simp only [Act.put, List.setIfInBounds_toArray, List.set_cons_zero, List.set_cons_succ, i64_w, i32_w]
       rfl
     refine pure_ (i := 7) (N := some 34) (v := ?_) (a' := ?_) #[true, true, true, true, true, true, true, true, true, false, false] rfl rfl (any_of HT_.out (by kernel_rfl)) (fun _ _ _ h => h) (Or.inl ⟨by rfl, ?_⟩) ?_ ?_
     rotate_left
     · intro w'
       first | (go_simp; with_reducible rfl) | (go_simp; unfold Instr.field; go_simp; rfl)
     rotate_left
     · simp only [Act.put, List.setIfInBounds_toArray, List.set_cons_zero, List.set_cons_succ, i64_w, i32_w]
       rfl
     exact norm_ (by simp only [putAll, Act.put, List.setIfInBounds_toArray, List.set_cons_zero, List.set_cons_succ]) (hCont (.slice Ao37 t224.length co37, .slice Ao38 t227.length co38, v231, gb234) _ ⟨hHeld, (by (with_reducible repeat (first | apply Kd.R_alloc | apply Kd.R_drewN | apply Kd.R_drew)); exact Kd.R_mono HO226.out (fun _ hk => ⟨hk.1.2, hk.2⟩)), (by (with_reducible repeat (first | apply Kd.R_alloc | apply Kd.R_drewN | apply Kd.R_drew)); exact Kd.R_mono HO229.out (fun _ hk => ⟨hk.1.2, hk.2⟩)), (by (with_reducible repeat (first | apply Kd.R_alloc | apply Kd.R_drewN | apply Kd.R_drew)); exact Kd.R_mono HO232.out (fun _ hk => ⟨hk.1.2, hk.2⟩)), (bq BK220), (bq BK221), (bq BK234), GW234.out, GE234.out, NB220_234.out, NB234_220.out, NB221_234.out, NB234_221.out, (hq3 HB GE220 GE221 GE234)⟩)
   skip
   refine box_step ?hg (N := 6) ?hd (cs := #[.slice none 0 0]) (t := 27) ?hr ?_; (case hd => rfl); (case hg => rfl); (case hr => first | (go_simp; done) | (go_simp; rfl))
   intro gb234 hg w34 hbox hb
   have n0_ := Aside0.mk (bB BK220 hb)
   have n1_ := Aside0.mk (bB BK221 hb)
   have n2_ := Aside0.mk (below_step (hq2 HB GE220 GE221) hb)
   have n3_ := Aside0.mk (hbox)
   have n4_ := Aside0.mk (ng hg (hq2 HB GE220 GE221))
   have n5_ := Aside0.mk (ng hg (hq2 HB GE220 GE221))
   have n6_ := Aside0.mk (nl hg BK220)
   have n7_ := Aside0.mk (nr hg BK220)
   have n8_ := Aside0.mk (nl hg BK221)
   have n9_ := Aside0.mk (nr hg BK221)
   clear BK220
   clear BK221
   clear HB
   have BK220 := n0_
   have BK221 := n1_
   have HB := n2_
   have BK234 := n3_
   have GW234 := n4_
   have GE234 := n5_
   have NB220_234 := n6_
   have NB234_220 := n7_
   have NB221_234 := n8_
   have NB234_221 := n9_
   clear n0_ n1_ n2_ n3_ n4_ n5_ n6_ n7_ n8_ n9_
   clear hb hbox hg
   refine hK.out _ _ ⟨(blk_cell BK220.out 0).trans rfl, (blk_cell BK221.out 0).trans rfl⟩ (fun hHeld => ?_)
   clear hK K
   refine norm_ (a' := ?_) ?_ ?_
   rotate_left
   · show Act.put _ (some 6) _ = _
     simp only [Act.put, List.setIfInBounds_toArray, List.set_cons_zero, List.set_cons_succ, i64_w, i32_w]
     rfl
   refine one_ (i := 1) (N := some 29) #[true, true, true, false, false, false, false, false, true, false, false] rfl rfl (one_of HT_.out (by kernel_rfl)) (by decide) (fun K hK => ?_)
   refine goes_ Try.func17 (by kernel_rfl) rfl #[.agg #[.slice A0_0 l0_0.length c0_0]] (by rfl) rfl rfl (by (try simp only [List.map_toArray, List.map_cons, List.map_nil]); first | done | rfl | (simp only [List.length_drop, List.length_take]; rfl)) ?_
   with_reducible refine (laws_toBig.calls k _ _ l0_0 t224 _ ?side1 ?side2 A19.out).mono ?_
   (case side1 => repeat (first | exact (Kd.C_below HR0_0.out HB.out) | (with_reducible refine Kd.C_alloc ?_ _) | (with_reducible refine Kd.C_drewN ?_ _) | (with_reducible refine Kd.C_drew ?_)))
   (case side2 => exact HC0_0.out)
   rintro e w35 ⟨v225, rfl, ho0, hb⟩
   refine ⟨_, rfl, ?_⟩
   have n0_ := Aside0.mk (Kd.R_lower ho0 (below_size (hq3 HB GE220 GE221 GE234)))
   have n1_ := Aside0.mk (bB BK220 hb)
   have n2_ := Aside0.mk (bB BK221 hb)
   have n3_ := Aside0.mk (bB BK234 hb)
   have n4_ := Aside0.mk (below_step (hq3 HB GE220 GE221 GE234) hb)
   clear BK220
   clear BK221
   clear BK234
   clear HB
   have HO226 := n0_
   have BK220 := n1_
   have BK221 := n2_
   have BK234 := n3_
   have HB := n4_
   clear n0_ n1_ n2_ n3_ n4_
   (try clear hb)
   (try clear hb2)
   (try clear hk)
   (try clear hi)
   (try clear ho0)
   refine hK.out _ _ ⟨(blk_cell BK220.out 0).trans rfl, (blk_cell BK221.out 0).trans rfl⟩ (fun hHeld => ?_)
   clear hK K
   refine norm_ (a' := ?_) ?_ ?_
   rotate_left
   · show Act.put _ (some 29) _ = _
     simp only [Act.put, List.setIfInBounds_toArray, List.set_cons_zero, List.set_cons_succ, i64_w, i32_w]
     rfl
   refine one_ (i := 3) (N := some 31) #[true, true, true, true, false, false, false, false, true, false, false] rfl rfl (one_of HT_.out (by kernel_rfl)) (by decide) (fun K hK => ?_)
   refine goes_ Try.func17 (by kernel_rfl) rfl #[.agg #[.slice A1_0 l1_0.length c1_0]] (by rfl) rfl rfl (by (try simp only [List.map_toArray, List.map_cons, List.map_nil]); first | done | rfl | (simp only [List.length_drop, List.length_take]; rfl)) ?_
   with_reducible refine (laws_toBig.calls k _ _ l1_0 t227 _ ?side1 ?side2 A20.out).mono ?_
   (case side1 => repeat (first | exact (Kd.C_below HR1_0.out HB.out) | (with_reducible refine Kd.C_alloc ?_ _) | (with_reducible refine Kd.C_drewN ?_ _) | (with_reducible refine Kd.C_drew ?_)))
   (case side2 => exact HC1_0.out)
   rintro e w36 ⟨v228, rfl, ho0, hb⟩
   refine ⟨_, rfl, ?_⟩
   have n0_ := Aside0.mk (qe HO226 ho0 hb)
   have n1_ := Aside0.mk (Kd.R_lower (Kd.R_new' ho0 (ql HO226)) (below_size (hq3 HB GE220 GE221 GE234)))
   have n2_ := Aside0.mk (bB BK220 hb)
   have n3_ := Aside0.mk (bB BK221 hb)
   have n4_ := Aside0.mk (bB BK234 hb)
   have n5_ := Aside0.mk (below_step (hq3 HB GE220 GE221 GE234) hb)
   clear HO226
   clear BK220
   clear BK221
   clear BK234
   clear HB
   have HO226 := n0_
   have HO229 := n1_
   have BK220 := n2_
   have BK221 := n3_
   have BK234 := n4_
   have HB := n5_
   clear n0_ n1_ n2_ n3_ n4_ n5_
   (try clear hb)
   (try clear hb2)
   (try clear hk)
   (try clear hi)
   (try clear ho0)
   obtain ⟨Ao37, co37, eo37⟩ := Kd.R_slice HO226.out
   (first | subst eo37 | (injection eo37 with f1_ f2_ f3_; have f4_ := f1_.symm; have f5_ := f3_.symm; clear f1_ f2_ f3_; subst f4_; subst f5_))
   obtain ⟨Ao38, co38, eo38⟩ := Kd.R_slice HO229.out
   (first | subst eo38 | (injection eo38 with f1_ f2_ f3_; have f4_ := f1_.symm; have f5_ := f3_.symm; clear f1_ f2_ f3_; subst f4_; subst f5_))
   refine hK.out _ _ ⟨(blk_cell BK220.out 0).trans rfl, (blk_cell BK221.out 0).trans rfl⟩ (fun hHeld => ?_)
   clear hK K
   refine norm_ (a' := ?_) ?_ ?_
   rotate_left
   · show Act.put _ (some 31) _ = _
     simp only [Act.put, List.setIfInBounds_toArray, List.set_cons_zero, List.set_cons_succ, i64_w, i32_w]
     rfl
   refine one_ (i := 4) (N := some 32) #[true, true, true, true, true, false, false, false, true, false, false] rfl rfl (one_of HT_.out (by kernel_rfl)) (by decide) (fun K hK => ?_)
   refine goes_ Try.func40 (by kernel_rfl) rfl #[.agg #[.slice Ao37 t224.length co37], .agg #[.slice Ao38 t227.length co38]] (by rfl) rfl rfl (by (try simp only [List.map_toArray, List.map_cons, List.map_nil]); first | done | rfl | (simp only [List.length_drop, List.length_take]; rfl)) ?_
   with_reducible refine (spec_HalvesTimes.calls k _ _ t224 _ _ t227 t230 t233 _ ?side1 ?side2 ?side3 ?side4 A21.out).mono ?_
   (case side1 => repeat (first | exact (Kd.R_reads' HO226.out).2.2 | (with_reducible refine Kd.C_alloc ?_ _) | (with_reducible refine Kd.C_drewN ?_ _) | (with_reducible refine Kd.C_drew ?_)))
   (case side2 => exact (Kd.R_reads' HO226.out).2.1)
   (case side3 => repeat (first | exact (Kd.R_reads' HO229.out).2.2 | (with_reducible refine Kd.C_alloc ?_ _) | (with_reducible refine Kd.C_drewN ?_ _) | (with_reducible refine Kd.C_drew ?_)))
   (case side4 => exact (Kd.R_reads' HO229.out).2.1)
   rintro e w39 ⟨v231, rfl, ho0, hb⟩
   refine ⟨_, rfl, ?_⟩
   have n0_ := Aside0.mk (qe HO226 ho0 hb)
   have n1_ := Aside0.mk (qe HO229 ho0 hb)
   have n2_ := Aside0.mk (Kd.R_lower (Kd.R_new' (Kd.R_new' ho0 (ql HO226)) (ql HO229)) (below_size (hq3 HB GE220 GE221 GE234)))
   have n3_ := Aside0.mk (bB BK220 hb)
   have n4_ := Aside0.mk (bB BK221 hb)
   have n5_ := Aside0.mk (bB BK234 hb)
   have n6_ := Aside0.mk (below_step (hq3 HB GE220 GE221 GE234) hb)
   clear HO226
   clear HO229
   clear BK220
   clear BK221
   clear BK234
   clear HB
   have HO226 := n0_
   have HO229 := n1_
   have HO232 := n2_
   have BK220 := n3_
   have BK221 := n4_
   have BK234 := n5_
   have HB := n6_
   clear n0_ n1_ n2_ n3_ n4_ n5_ n6_
   (try clear hb)
   (try clear hb2)
   (try clear hk)
   (try clear hi)
   (try clear ho0)
   refine hK.out _ _ ⟨(blk_cell BK220.out 0).trans rfl, (blk_cell BK221.out 0).trans rfl⟩ (fun hHeld => ?_)
   clear hK K
   refine norm_ (a' := ?_) ?_ ?_
   rotate_left
   · show Act.put _ (some 32) _ = _
     simp only [Act.put, List.setIfInBounds_toArray, List.set_cons_zero, List.set_cons_succ, i64_w, i32_w]
     rfl
   refine pure_ (i := 5) (N := some 27) (v := ?_) (a' := ?_) #[true, true, true, true, true, true, false, false, true, false, false] rfl rfl (any_of HT_.out (by kernel_rfl)) (fun _ _ _ h => h) (Or.inl ⟨by rfl, ?_⟩) ?_ ?_
   rotate_left
   · intro w'
     first | (go_simp; with_reducible rfl) | (go_simp; unfold Instr.field; go_simp; rfl)
   rotate_left
   · simp only [Act.put, List.setIfInBounds_toArray, List.set_cons_zero, List.set_cons_succ, i64_w, i32_w]
     rfl
   refine pure_ (i := 6) (N := some 33) (v := ?_) (a' := ?_) #[true, true, true, true, true, true, true, false, true, false, false] rfl rfl (any_of HT_.out (by kernel_rfl)) (fun _ _ _ h => h) (Or.inl ⟨by rfl, ?_⟩) ?_ ?_
   rotate_left
   · intro w'
     first | (go_simp; with_reducible rfl) | (go_simp; unfold Instr.field; go_simp; rfl)
   rotate_left
   · simp only [Act.put, List.setIfInBounds_toArray, List.set_cons_zero, List.set_cons_succ, i64_w, i32_w]
     rfl
   refine pure_ (i := 7) (N := some 34) (v := ?_) (a' := ?_) #[true, true, true, true, true, true, true, true, true, false, false] rfl rfl (any_of HT_.out (by kernel_rfl)) (fun _ _ _ h => h) (Or.inl ⟨by rfl, ?_⟩) ?_ ?_
   rotate_left
   · intro w'
     first | (go_simp; with_reducible rfl) | (go_simp; unfold Instr.field; go_simp; rfl)
   rotate_left
   · simp only [Act.put, List.setIfInBounds_toArray, List.set_cons_zero, List.set_cons_succ, i64_w, i32_w]
     rfl
   exact norm_ (by simp only [putAll, Act.put, List.setIfInBounds_toArray, List.set_cons_zero, List.set_cons_succ]) (hCont (.slice Ao37 t224.length co37, .slice Ao38 t227.length co38, v231, gb234) _ ⟨hHeld, (by (with_reducible repeat (first | apply Kd.R_alloc | apply Kd.R_drewN | apply Kd.R_drew)); exact Kd.R_mono HO226.out (fun _ hk => ⟨hk.1.2, hk.2⟩)), (by (with_reducible repeat (first | apply Kd.R_alloc | apply Kd.R_drewN | apply Kd.R_drew)); exact Kd.R_mono HO229.out (fun _ hk => ⟨hk.1.2, hk.2⟩)), (by (with_reducible repeat (first | apply Kd.R_alloc | apply Kd.R_drewN | apply Kd.R_drew)); exact Kd.R_mono HO232.out (fun _ hk => ⟨hk.1.2, hk.2⟩)), (bq BK220), (bq BK221), (bq BK234), GW234.out, GE234.out, NB220_234.out, NB234_220.out, NB221_234.out, NB234_221.out, (hq3 HB GE220 GE221 GE234)⟩)
 rintro ⟨v225, v228, v231, gb234⟩ w40 ⟨hS_, h0_, h1_, h2_, h3_, h4_, h5_, h6_, h7_, h8_, h9_, h10_, h11_, h12_⟩
 have n0_ : Aside0 (Kd.R (Kd.int .i64) 3 w40 w.heap.size (fun k_ => some k_ ≠ (v228 : Value).ownBlock ∧ some k_ ≠ (v231 : Value).ownBlock) v225 t224) := ⟨h0_⟩
 have n1_ : Aside0 (Kd.R (Kd.int .i64) 3 w40 w.heap.size (fun k_ => some k_ ≠ (v225 : Value).ownBlock ∧ some k_ ≠ (v231 : Value).ownBlock) v228 t227) := ⟨h1_⟩
 have n2_ : Aside0 (Kd.R (Kd.int .i64) 3 w40 w.heap.size (fun k_ => some k_ ≠ (v225 : Value).ownBlock ∧ some k_ ≠ (v228 : Value).ownBlock) v231 t230) := ⟨h2_⟩
 have n3_ : Aside0 (w40.heap[gb220]? = some (.cells #[.slice A0_0 l0_0.length c0_0] 24 (0, 0))) := ⟨h3_⟩
 have n4_ : Aside0 (w40.heap[gb221]? = some (.cells #[.slice A1_0 l1_0.length c1_0] 24 (0, 0))) := ⟨h4_⟩
 have n5_ : Aside0 (w40.heap[gb234]? = some (.cells #[.slice none 0 0] 27 (0, 0))) := ⟨h5_⟩
 have n6_ : Aside0 (w.heap.size ≤ gb234) := ⟨h6_⟩
 have n7_ : Aside0 (w.heap.size ≤ gb234) := ⟨h7_⟩
 have n8_ : Aside0 (gb220 ≠ gb234) := ⟨h8_⟩
 have n9_ : Aside0 (gb234 ≠ gb220) := ⟨h9_⟩
 have n10_ : Aside0 (gb221 ≠ gb234) := ⟨h10_⟩
 have n11_ : Aside0 (gb234 ≠ gb221) := ⟨h11_⟩
 have n12_ : Aside0 (Below w.heap.size w w40) := ⟨h12_⟩
 clear BK220
 clear BK221
 clear HB
 clear h0_ h1_ h2_ h3_ h4_ h5_ h6_ h7_ h8_ h9_ h10_ h11_ h12_
 have HO226 := n0_
 have HO229 := n1_
 have HO232 := n2_
 have BK220 := n3_
 have BK221 := n4_
 have BK234 := n5_
 have GW234 := n6_
 have GE234 := n7_
 have NB220_234 := n8_
 have NB234_220 := n9_
 have NB221_234 := n10_
 have NB234_221 := n11_
 have HB := n12_
 clear n0_ n1_ n2_ n3_ n4_ n5_ n6_ n7_ n8_ n9_ n10_ n11_ n12_
 have hHeld : w40.cell? ⟨gb220, 0, none⟩ = some (.slice A0_0 l0_0.length c0_0) ∧ w40.cell? ⟨gb221, 0, none⟩ = some (.slice A1_0 l1_0.length c1_0) := hS_
 obtain ⟨Ao41, co41, eo41⟩ := Kd.R_slice HO232.out
 (first | subst eo41 | (injection eo41 with f1_ f2_ f3_; have f4_ := f1_.symm; have f5_ := f3_.symm; clear f1_ f2_ f3_; subst f4_; subst f5_))
 refine norm_ (a' := ?_) ?_ ?_
 rotate_left
 · simp only [putAll, Act.put, List.setIfInBounds_toArray, List.set_cons_zero, List.set_cons_succ]
   rfl
 refine one_ (i := 9) (N := none) #[true, true, true, true, true, true, true, true, true, true, false] rfl rfl (one_of HT_.out (by kernel_rfl)) (by decide) (fun K hK => ?_)
 have hs42 : w40.cell? ⟨gb234, 0, none⟩ = some (.slice none 0 0) := (blk_cell BK234.out 0).trans rfl
 have hfs42 := blk_frozen BK234.out 0
 have hns42_0 := NB220_234.out
 have hns42_1 := NB221_234.out
 have hms42_0 := NB234_220.out
 have hms42_1 := NB234_221.out
 refine skip_ (w1 := ?_) (by rfl) rfl ?_ ?_
 rotate_left
 · go_simp
   rfl
 refine hK.out _ _ ⟨((cell_far (p := ⟨gb234, _, none⟩) NB220_234.out _).trans (hHeld.1)), ((cell_far (p := ⟨gb234, _, none⟩) NB221_234.out _).trans (hHeld.2))⟩ (fun hHeld => ?_)
 clear hK K
 refine pure_ (i := 10) (N := some 7) (v := ?_) (a' := ?_) #[true, true, true, true, true, true, true, true, true, true, true] rfl rfl (any_of HT_.out (by kernel_rfl)) (fun _ _ _ h => h) (Or.inl ⟨by rfl, ?_⟩) ?_ ?_
 rotate_left
 · intro w'
   first | (go_simp; with_reducible rfl) | (go_simp; unfold Instr.field; go_simp; rfl)
 rotate_left
 · simp only [Act.put, List.setIfInBounds_toArray, List.set_cons_zero, List.set_cons_succ, i64_w, i32_w]
   rfl
 refine done_ (done_of HT_.out (by kernel_rfl)) ?_
 have hnb43 := NB220_234.out
 have hnc43 := NB234_220.out
 have hcz44_0 : w40.cell? ⟨gb220, 0, none⟩ = some (.slice A0_0 l0_0.length c0_0) := (blk_cell BK220.out 0).trans rfl
 have hfz44_0 := blk_frozen BK220.out 0
 go_upto_region 12 with (first | ((with_reducible refine gate_callee (f := 17) rfl ?_); refine goesL_ (some 36) rfl rfl Try.func17 (by kernel_rfl) rfl #[.agg #[.slice A0_0 l0_0.length c0_0]] rfl (by (try simp only [List.map_toArray, List.map_cons, List.map_nil]); first | done | rfl | (simp only [List.length_drop, List.length_take]; rfl)) ?_; (with_reducible refine (laws_toBig.calls k _ _ l0_0 t235 _ ?side1 ?side2 A22.out).mono ?_); (case side1 => exact Kd.C_below HR0_0.out (hq3 HB GE220 GE221 GE234)); (case side2 => exact HC0_0.out); rintro e w45 ⟨v236, rfl, ho0, hb⟩; refine ⟨_, rfl, ?_⟩; have n0_ := Aside0.mk (Kd.R_elder' (by (with_reducible repeat (first | apply Kd.R_alloc | apply Kd.R_drewN | apply Kd.R_drew)); exact (Kd.R_mono (Kd.R_far (p := ⟨gb234, 0, none⟩) (Kd.R_types HO226.out BK234.out (by decide)) (fun _ hk => hk.2) (.slice Ao41 t230.length co41)) (fun _ h_ => h_.1))) (Kd.R_base ho0) hb); have n1_ := Aside0.mk (Kd.R_elder' (by (with_reducible repeat (first | apply Kd.R_alloc | apply Kd.R_drewN | apply Kd.R_drew)); exact (Kd.R_mono (Kd.R_far (p := ⟨gb234, 0, none⟩) (Kd.R_types HO229.out BK234.out (by decide)) (fun _ hk => hk.2) (.slice Ao41 t230.length co41)) (fun _ h_ => h_.1))) (Kd.R_base ho0) hb); have n2_ := Aside0.mk (Kd.R_elder' (by (with_reducible repeat (first | apply Kd.R_alloc | apply Kd.R_drewN | apply Kd.R_drew)); exact (Kd.R_mono (Kd.R_far (p := ⟨gb234, 0, none⟩) (Kd.R_types HO232.out BK234.out (by decide)) (fun _ hk => hk.2) (.slice Ao41 t230.length co41)) (fun _ h_ => h_.1))) (Kd.R_base ho0) hb); have n3_ := Aside0.mk (Kd.R_lower (Kd.R_new' (Kd.R_new' (Kd.R_new' ho0 (Kd.R_lt (by (with_reducible repeat (first | apply Kd.R_alloc | apply Kd.R_drewN | apply Kd.R_drew)); exact (Kd.R_mono (Kd.R_far (p := ⟨gb234, 0, none⟩) (Kd.R_types HO226.out BK234.out (by decide)) (fun _ hk => hk.2) (.slice Ao41 t230.length co41)) (fun _ h_ => h_.1))))) (Kd.R_lt (by (with_reducible repeat (first | apply Kd.R_alloc | apply Kd.R_drewN | apply Kd.R_drew)); exact (Kd.R_mono (Kd.R_far (p := ⟨gb234, 0, none⟩) (Kd.R_types HO229.out BK234.out (by decide)) (fun _ hk => hk.2) (.slice Ao41 t230.length co41)) (fun _ h_ => h_.1))))) (Kd.R_lt (by (with_reducible repeat (first | apply Kd.R_alloc | apply Kd.R_drewN | apply Kd.R_drew)); exact (Kd.R_mono (Kd.R_far (p := ⟨gb234, 0, none⟩) (Kd.R_types HO232.out BK234.out (by decide)) (fun _ hk => hk.2) (.slice Ao41 t230.length co41)) (fun _ h_ => h_.1))))) (below_size (hq3 HB GE220 GE221 GE234))); have n4_ := Aside0.mk (blk_below (g := gb220) (o := .cells #[.slice A0_0 l0_0.length c0_0] 24 (0, 0)) (bf NB220_234 BK220) hb); have n5_ := Aside0.mk (blk_below (g := gb221) (o := .cells #[.slice A1_0 l1_0.length c1_0] 24 (0, 0)) (bf NB221_234 BK221) hb); have n6_ := Aside0.mk (blk_below (g := gb234) (o := .cells #[.slice Ao41 t230.length co41] 27 (0, 0)) (by (with_reducible repeat (first | refine blk_drewN ?_ _ | refine blk_drew ?_ | refine blk_alloc ?_ _)); refine blk_put (cs := #[.slice none 0 0]) ?_ 0 _ rfl; (with_reducible repeat (first | refine blk_drewN ?_ _ | refine blk_drew ?_ | refine blk_alloc ?_ _)); exact BK234.out) hb); have n7_ := Aside0.mk (below_step (hq3 HB GE220 GE221 GE234) hb); clear HO226; clear HO229; clear HO232; clear BK220; clear BK221; clear BK234; clear HB; have HO226 := n0_; have HO229 := n1_; have HO232 := n2_; have HO237 := n3_; have BK220 := n4_; have BK221 := n5_; have BK234 := n6_; have HB := n7_; clear n0_ n1_ n2_ n3_ n4_ n5_ n6_ n7_; (try clear hb); (try clear hb2); (try clear hk); (try clear hi); (try clear ho0)) | ((with_reducible refine gate_dst (N := 8) rfl ?_); refine box_event ?hg (N := 8) ?hd (cs := #[.slice none 0 0]) (t := 27) ?hr ?_; (case hd => rfl); (case hg => rfl); (case hr => first | (go_simp; done) | (go_simp; rfl)); intro gb238 hg w46 hbox hb; have n0_ := Aside0.mk (qb HO226 hb); have n1_ := Aside0.mk (qb HO229 hb); have n2_ := Aside0.mk (qb HO232 hb); have n3_ := Aside0.mk (qb HO237 hb); have n4_ := Aside0.mk (bB BK220 hb); have n5_ := Aside0.mk (bB BK221 hb); have n6_ := Aside0.mk (bB BK234 hb); have n7_ := Aside0.mk (below_step (hq3 HB GE220 GE221 GE234) hb); have n8_ := Aside0.mk (hbox); have n9_ := Aside0.mk (ng hg (hq3 HB GE220 GE221 GE234)); have n10_ := Aside0.mk (ng hg (hq3 HB GE220 GE221 GE234)); have n11_ := Aside0.mk (nl hg BK220); have n12_ := Aside0.mk (nr hg BK220); have n13_ := Aside0.mk (nl hg BK221); have n14_ := Aside0.mk (nr hg BK221); have n15_ := Aside0.mk (nl hg BK234); have n16_ := Aside0.mk (nr hg BK234); clear HO226; clear HO229; clear HO232; clear HO237; clear BK220; clear BK221; clear BK234; clear HB; have HO226 := n0_; have HO229 := n1_; have HO232 := n2_; have HO237 := n3_; have BK220 := n4_; have BK221 := n5_; have BK234 := n6_; have HB := n7_; have BK238 := n8_; have GW238 := n9_; have GE238 := n10_; have NB220_238 := n11_; have NB238_220 := n12_; have NB221_238 := n13_; have NB238_221 := n14_; have NB234_238 := n15_; have NB238_234 := n16_; clear n0_ n1_ n2_ n3_ n4_ n5_ n6_ n7_ n8_ n9_ n10_ n11_ n12_ n13_ n14_ n15_ n16_; clear hb hbox hg; obtain ⟨Ao47, co47, eo47⟩ := Kd.R_slice HO237.out; subst eo47; have hnb48 := NB238_220.out; have hnc48 := NB220_238.out; have hnb49 := NB238_221.out; have hnc49 := NB221_238.out; have hnb50 := NB238_234.out; have hnc50 := NB234_238.out; have hcz51_0 : w46.cell? ⟨gb238, 0, none⟩ = some (.slice none 0 0) := (blk_cell BK238.out 0).trans rfl; have hfz51_0 := blk_frozen BK238.out 0; have hnb52 := NB221_234.out; have hnc52 := NB234_221.out; have hcz53_0 : w46.cell? ⟨gb221, 0, none⟩ = some (.slice A1_0 l1_0.length c1_0) := (blk_cell BK221.out 0).trans rfl; have hfz53_0 := blk_frozen BK221.out 0) | ((with_reducible refine gate_callee (f := 17) rfl ?_); refine goesL_ (some 38) rfl rfl Try.func17 (by kernel_rfl) rfl #[.agg #[.slice A1_0 l1_0.length c1_0]] rfl (by (try simp only [List.map_toArray, List.map_cons, List.map_nil]); first | done | rfl | (simp only [List.length_drop, List.length_take]; rfl)) ?_; (with_reducible refine (laws_toBig.calls k _ _ l1_0 t239 _ ?side1 ?side2 A23.out).mono ?_); (case side1 => exact Kd.C_below HR1_0.out (hq4 HB GE220 GE221 GE234 GE238)); (case side2 => exact HC1_0.out); rintro e w54 ⟨v240, rfl, ho0, hb⟩; refine ⟨_, rfl, ?_⟩; have n0_ := Aside0.mk (Kd.R_elder' (by (with_reducible repeat (first | apply Kd.R_alloc | apply Kd.R_drewN | apply Kd.R_drew)); exact (Kd.R_mono (Kd.R_far (p := ⟨gb238, 0, none⟩) (Kd.R_types HO226.out BK238.out (by decide)) (fun _ hk => hk.2) (.slice Ao47 t235.length co47)) (fun _ h_ => h_.1))) (Kd.R_base ho0) hb); have n1_ := Aside0.mk (Kd.R_elder' (by (with_reducible repeat (first | apply Kd.R_alloc | apply Kd.R_drewN | apply Kd.R_drew)); exact (Kd.R_mono (Kd.R_far (p := ⟨gb238, 0, none⟩) (Kd.R_types HO229.out BK238.out (by decide)) (fun _ hk => hk.2) (.slice Ao47 t235.length co47)) (fun _ h_ => h_.1))) (Kd.R_base ho0) hb); have n2_ := Aside0.mk (Kd.R_elder' (by (with_reducible repeat (first | apply Kd.R_alloc | apply Kd.R_drewN | apply Kd.R_drew)); exact (Kd.R_mono (Kd.R_far (p := ⟨gb238, 0, none⟩) (Kd.R_types HO232.out BK238.out (by decide)) (fun _ hk => hk.2) (.slice Ao47 t235.length co47)) (fun _ h_ => h_.1))) (Kd.R_base ho0) hb); have n3_ := Aside0.mk (Kd.R_elder' (by (with_reducible repeat (first | apply Kd.R_alloc | apply Kd.R_drewN | apply Kd.R_drew)); exact (Kd.R_mono (Kd.R_far (p := ⟨gb238, 0, none⟩) (Kd.R_types HO237.out BK238.out (by decide)) (fun _ hk => hk.2) (.slice Ao47 t235.length co47)) (fun _ h_ => h_.1))) (Kd.R_base ho0) hb); have n4_ := Aside0.mk (Kd.R_lower (Kd.R_new' (Kd.R_new' (Kd.R_new' (Kd.R_new' ho0 (Kd.R_lt (by (with_reducible repeat (first | apply Kd.R_alloc | apply Kd.R_drewN | apply Kd.R_drew)); exact (Kd.R_mono (Kd.R_far (p := ⟨gb238, 0, none⟩) (Kd.R_types HO226.out BK238.out (by decide)) (fun _ hk => hk.2) (.slice Ao47 t235.length co47)) (fun _ h_ => h_.1))))) (Kd.R_lt (by (with_reducible repeat (first | apply Kd.R_alloc | apply Kd.R_drewN | apply Kd.R_drew)); exact (Kd.R_mono (Kd.R_far (p := ⟨gb238, 0, none⟩) (Kd.R_types HO229.out BK238.out (by decide)) (fun _ hk => hk.2) (.slice Ao47 t235.length co47)) (fun _ h_ => h_.1))))) (Kd.R_lt (by (with_reducible repeat (first | apply Kd.R_alloc | apply Kd.R_drewN | apply Kd.R_drew)); exact (Kd.R_mono (Kd.R_far (p := ⟨gb238, 0, none⟩) (Kd.R_types HO232.out BK238.out (by decide)) (fun _ hk => hk.2) (.slice Ao47 t235.length co47)) (fun _ h_ => h_.1))))) (Kd.R_lt (by (with_reducible repeat (first | apply Kd.R_alloc | apply Kd.R_drewN | apply Kd.R_drew)); exact (Kd.R_mono (Kd.R_far (p := ⟨gb238, 0, none⟩) (Kd.R_types HO237.out BK238.out (by decide)) (fun _ hk => hk.2) (.slice Ao47 t235.length co47)) (fun _ h_ => h_.1))))) (below_size (hq4 HB GE220 GE221 GE234 GE238))); have n5_ := Aside0.mk (blk_below (g := gb220) (o := .cells #[.slice A0_0 l0_0.length c0_0] 24 (0, 0)) (bf NB220_238 BK220) hb); have n6_ := Aside0.mk (blk_below (g := gb221) (o := .cells #[.slice A1_0 l1_0.length c1_0] 24 (0, 0)) (bf NB221_238 BK221) hb); have n7_ := Aside0.mk (blk_below (g := gb234) (o := .cells #[.slice Ao41 t230.length co41] 27 (0, 0)) (bf NB234_238 BK234) hb); have n8_ := Aside0.mk (blk_below (g := gb238) (o := .cells #[.slice Ao47 t235.length co47] 27 (0, 0)) (by (with_reducible repeat (first | refine blk_drewN ?_ _ | refine blk_drew ?_ | refine blk_alloc ?_ _)); refine blk_put (cs := #[.slice none 0 0]) ?_ 0 _ rfl; (with_reducible repeat (first | refine blk_drewN ?_ _ | refine blk_drew ?_ | refine blk_alloc ?_ _)); exact BK238.out) hb); have n9_ := Aside0.mk (below_step (hq4 HB GE220 GE221 GE234 GE238) hb); clear HO226; clear HO229; clear HO232; clear HO237; clear BK220; clear BK221; clear BK234; clear BK238; clear HB; have HO226 := n0_; have HO229 := n1_; have HO232 := n2_; have HO237 := n3_; have HO241 := n4_; have BK220 := n5_; have BK221 := n6_; have BK234 := n7_; have BK238 := n8_; have HB := n9_; clear n0_ n1_ n2_ n3_ n4_ n5_ n6_ n7_ n8_ n9_; (try clear hb); (try clear hb2); (try clear hk); (try clear hi); (try clear ho0)) | ((with_reducible refine gate_dst (N := 9) rfl ?_); refine box_event ?hg (N := 9) ?hd (cs := #[.slice none 0 0]) (t := 27) ?hr ?_; (case hd => rfl); (case hg => rfl); (case hr => first | (go_simp; done) | (go_simp; rfl)); intro gb242 hg w55 hbox hb; have n0_ := Aside0.mk (qb HO226 hb); have n1_ := Aside0.mk (qb HO229 hb); have n2_ := Aside0.mk (qb HO232 hb); have n3_ := Aside0.mk (qb HO237 hb); have n4_ := Aside0.mk (qb HO241 hb); have n5_ := Aside0.mk (bB BK220 hb); have n6_ := Aside0.mk (bB BK221 hb); have n7_ := Aside0.mk (bB BK234 hb); have n8_ := Aside0.mk (bB BK238 hb); have n9_ := Aside0.mk (below_step (hq4 HB GE220 GE221 GE234 GE238) hb); have n10_ := Aside0.mk (hbox); have n11_ := Aside0.mk (ng hg (hq4 HB GE220 GE221 GE234 GE238)); have n12_ := Aside0.mk (ng hg (hq4 HB GE220 GE221 GE234 GE238)); have n13_ := Aside0.mk (nl hg BK220); have n14_ := Aside0.mk (nr hg BK220); have n15_ := Aside0.mk (nl hg BK221); have n16_ := Aside0.mk (nr hg BK221); have n17_ := Aside0.mk (nl hg BK234); have n18_ := Aside0.mk (nr hg BK234); have n19_ := Aside0.mk (nl hg BK238); have n20_ := Aside0.mk (nr hg BK238); clear HO226; clear HO229; clear HO232; clear HO237; clear HO241; clear BK220; clear BK221; clear BK234; clear BK238; clear HB; have HO226 := n0_; have HO229 := n1_; have HO232 := n2_; have HO237 := n3_; have HO241 := n4_; have BK220 := n5_; have BK221 := n6_; have BK234 := n7_; have BK238 := n8_; have HB := n9_; have BK242 := n10_; have GW242 := n11_; have GE242 := n12_; have NB220_242 := n13_; have NB242_220 := n14_; have NB221_242 := n15_; have NB242_221 := n16_; have NB234_242 := n17_; have NB242_234 := n18_; have NB238_242 := n19_; have NB242_238 := n20_; clear n0_ n1_ n2_ n3_ n4_ n5_ n6_ n7_ n8_ n9_ n10_ n11_ n12_ n13_ n14_ n15_ n16_ n17_ n18_ n19_ n20_; clear hb hbox hg; obtain ⟨Ao56, co56, eo56⟩ := Kd.R_slice HO241.out; subst eo56; have hnb57 := NB242_220.out; have hnc57 := NB220_242.out; have hnb58 := NB242_221.out; have hnc58 := NB221_242.out; have hnb59 := NB242_234.out; have hnc59 := NB234_242.out; have hnb60 := NB242_238.out; have hnc60 := NB238_242.out; have hcz61_0 : w55.cell? ⟨gb242, 0, none⟩ = some (.slice none 0 0) := (blk_cell BK242.out 0).trans rfl; have hfz61_0 := blk_frozen BK242.out 0) | ((with_reducible refine gate_store (t := 27) (p := 9) rfl ?_); refine store_event (t := 27) (p := 9) (v := ?vo_w62) (w1 := (w55.setCell ⟨gb242, 0, none⟩ (.slice Ao56 t239.length co56))) ?hg ?ho ?hn ?hr ?_; (case ho => rfl); (case hg => rfl); (case hn => rfl); (case hr => first | (go_simp; done) | (go_simp; rfl)); intro w62 hw; have n0_ : Aside0 (Kd.R (Kd.int .i64) 3 w62 w.heap.size (fun k_ => some k_ ≠ (v228 : Value).ownBlock ∧ some k_ ≠ (.slice Ao41 t230.length co41 : Value).ownBlock ∧ some k_ ≠ (.slice Ao47 t235.length co47 : Value).ownBlock ∧ some k_ ≠ (.slice Ao56 t239.length co56 : Value).ownBlock) v225 t224) := ⟨(by rw [hw]; exact (by (with_reducible repeat (first | apply Kd.R_alloc | apply Kd.R_drewN | apply Kd.R_drew)); exact Kd.R_mono (Kd.R_far (p := ⟨gb242, 0, none⟩) (Kd.R_types HO226.out BK242.out (by decide)) (fun _ hk => hk.2) (.slice Ao56 t239.length co56)) (fun _ hk => ⟨hk.1.1.1.1, ⟨hk.1.1.1.2, ⟨hk.1.1.2, hk.1.2⟩⟩⟩)))⟩; have n1_ : Aside0 (Kd.R (Kd.int .i64) 3 w62 w.heap.size (fun k_ => some k_ ≠ (v225 : Value).ownBlock ∧ some k_ ≠ (.slice Ao41 t230.length co41 : Value).ownBlock ∧ some k_ ≠ (.slice Ao47 t235.length co47 : Value).ownBlock ∧ some k_ ≠ (.slice Ao56 t239.length co56 : Value).ownBlock) v228 t227) := ⟨(by rw [hw]; exact (by (with_reducible repeat (first | apply Kd.R_alloc | apply Kd.R_drewN | apply Kd.R_drew)); exact Kd.R_mono (Kd.R_far (p := ⟨gb242, 0, none⟩) (Kd.R_types HO229.out BK242.out (by decide)) (fun _ hk => hk.2) (.slice Ao56 t239.length co56)) (fun _ hk => ⟨hk.1.1.1.1, ⟨hk.1.1.1.2, ⟨hk.1.1.2, hk.1.2⟩⟩⟩)))⟩; have n2_ : Aside0 (Kd.R (Kd.int .i64) 3 w62 w.heap.size (fun k_ => some k_ ≠ (v225 : Value).ownBlock ∧ some k_ ≠ (v228 : Value).ownBlock ∧ some k_ ≠ (.slice Ao47 t235.length co47 : Value).ownBlock ∧ some k_ ≠ (.slice Ao56 t239.length co56 : Value).ownBlock) (.slice Ao41 t230.length co41) t230) := ⟨(by rw [hw]; exact (by (with_reducible repeat (first | apply Kd.R_alloc | apply Kd.R_drewN | apply Kd.R_drew)); exact Kd.R_mono (Kd.R_far (p := ⟨gb242, 0, none⟩) (Kd.R_types HO232.out BK242.out (by decide)) (fun _ hk => hk.2) (.slice Ao56 t239.length co56)) (fun _ hk => ⟨hk.1.1.1.1, ⟨hk.1.1.1.2, ⟨hk.1.1.2, hk.1.2⟩⟩⟩)))⟩; have n3_ : Aside0 (Kd.R (Kd.int .i64) 3 w62 w.heap.size (fun k_ => some k_ ≠ (v225 : Value).ownBlock ∧ some k_ ≠ (v228 : Value).ownBlock ∧ some k_ ≠ (.slice Ao41 t230.length co41 : Value).ownBlock ∧ some k_ ≠ (.slice Ao56 t239.length co56 : Value).ownBlock) (.slice Ao47 t235.length co47) t235) := ⟨(by rw [hw]; exact (by (with_reducible repeat (first | apply Kd.R_alloc | apply Kd.R_drewN | apply Kd.R_drew)); exact Kd.R_mono (Kd.R_far (p := ⟨gb242, 0, none⟩) (Kd.R_types HO237.out BK242.out (by decide)) (fun _ hk => hk.2) (.slice Ao56 t239.length co56)) (fun _ hk => ⟨hk.1.1.1.1.2, ⟨hk.1.1.1.2, ⟨hk.1.1.2, hk.1.2⟩⟩⟩)))⟩; have n4_ : Aside0 (Kd.R (Kd.int .i64) 3 w62 w.heap.size (fun k_ => some k_ ≠ (v225 : Value).ownBlock ∧ some k_ ≠ (v228 : Value).ownBlock ∧ some k_ ≠ (.slice Ao41 t230.length co41 : Value).ownBlock ∧ some k_ ≠ (.slice Ao47 t235.length co47 : Value).ownBlock) (.slice Ao56 t239.length co56) t239) := ⟨(by rw [hw]; exact (by (with_reducible repeat (first | apply Kd.R_alloc | apply Kd.R_drewN | apply Kd.R_drew)); exact Kd.R_mono (Kd.R_far (p := ⟨gb242, 0, none⟩) (Kd.R_types HO241.out BK242.out (by decide)) (fun _ hk => hk.2) (.slice Ao56 t239.length co56)) (fun _ hk => ⟨hk.1.1.1.1.2, ⟨hk.1.1.1.2, ⟨hk.1.1.2, hk.1.2⟩⟩⟩)))⟩; have n5_ : Aside0 (w62.heap[gb220]? = some (.cells #[.slice A0_0 l0_0.length c0_0] 24 (0, 0))) := ⟨(by rw [hw]; exact (bf NB220_242 BK220))⟩; have n6_ : Aside0 (w62.heap[gb221]? = some (.cells #[.slice A1_0 l1_0.length c1_0] 24 (0, 0))) := ⟨(by rw [hw]; exact (bf NB221_242 BK221))⟩; have n7_ : Aside0 (w62.heap[gb234]? = some (.cells #[.slice Ao41 t230.length co41] 27 (0, 0))) := ⟨(by rw [hw]; exact (bf NB234_242 BK234))⟩; have n8_ : Aside0 (w62.heap[gb238]? = some (.cells #[.slice Ao47 t235.length co47] 27 (0, 0))) := ⟨(by rw [hw]; exact (bf NB238_242 BK238))⟩; have n9_ : Aside0 (w62.heap[gb242]? = some (.cells #[.slice Ao56 t239.length co56] 27 (0, 0))) := ⟨(by rw [hw]; exact (by (with_reducible repeat (first | refine blk_drewN ?_ _ | refine blk_drew ?_ | refine blk_alloc ?_ _)); refine blk_put (cs := #[.slice none 0 0]) ?_ 0 _ rfl; (with_reducible repeat (first | refine blk_drewN ?_ _ | refine blk_drew ?_ | refine blk_alloc ?_ _)); exact BK242.out))⟩; have n10_ : Aside0 (Below w.heap.size w w62) := ⟨(by rw [hw]; exact (hq5 HB GE220 GE221 GE234 GE238 GE242))⟩; clear hw; clear HO226; clear HO229; clear HO232; clear HO237; clear HO241; clear BK220; clear BK221; clear BK234; clear BK238; clear BK242; clear HB; have HO226 := n0_; have HO229 := n1_; have HO232 := n2_; have HO237 := n3_; have HO241 := n4_; have BK220 := n5_; have BK221 := n6_; have BK234 := n7_; have BK238 := n8_; have BK242 := n9_; have HB := n10_; clear n0_ n1_ n2_ n3_ n4_ n5_ n6_ n7_ n8_ n9_ n10_; have hcz63_0 : w62.cell? ⟨gb238, 0, none⟩ = some (.slice Ao47 t235.length co47) := (blk_cell BK238.out 0).trans rfl; have hfz63_0 := blk_frozen BK238.out 0; have hcz64_0 : w62.cell? ⟨gb242, 0, none⟩ = some (.slice Ao56 t239.length co56) := (blk_cell BK242.out 0).trans rfl; have hfz64_0 := blk_frozen BK242.out 0) | ((with_reducible refine gate_callee (f := 41) rfl ?_); refine goesL_ (some 42) rfl rfl Try.func41 (by kernel_rfl) rfl #[.agg #[.slice Ao47 t235.length co47], .agg #[.slice Ao56 t239.length co56]] rfl (by (try simp only [List.map_toArray, List.map_cons, List.map_nil]); first | done | rfl | (simp only [List.length_drop, List.length_take]; rfl)) ?_; (with_reducible refine (impl_HalvesTimes.calls k (fun k_ => some k_ = (.slice Ao47 t235.length co47 : Value).ownBlock) _ _ t235 (fun k_ => some k_ = (.slice Ao56 t239.length co56 : Value).ownBlock) _ _ t239 t243 t246 _ ?side1 ?side2 A24.out).mono ?_); (case side1 => exact Kd.R_V (Kd.R_tight rfl (Kd.R_types (Kd.R_types (Kd.R_types (Kd.R_types (Kd.R_types (HO237.out) BK220.out (by decide)) BK221.out (by decide)) BK234.out (by decide)) BK238.out (by decide)) BK242.out (by decide)))); (case side2 => exact Kd.R_V (Kd.R_tight rfl (Kd.R_types (Kd.R_types (Kd.R_types (Kd.R_types (Kd.R_types (HO241.out) BK220.out (by decide)) BK221.out (by decide)) BK234.out (by decide)) BK238.out (by decide)) BK242.out (by decide)))); rintro e w65 ⟨v244, rfl, ho0, hb⟩; refine ⟨_, rfl, ?_⟩; have n0_ := Aside0.mk (qe HO226 ho0 hb); have n1_ := Aside0.mk (qe HO229 ho0 hb); have n2_ := Aside0.mk (qe HO232 ho0 hb); have n3_ := Aside0.mk (qe HO237 ho0 hb); have n4_ := Aside0.mk (qe HO241 ho0 hb); have n5_ := Aside0.mk (Kd.R_lower (Kd.R_new' (Kd.R_new' (Kd.R_new' (Kd.R_new' (Kd.R_new' (Kd.R_mono (ok' := fun k_ => True) ho0 (fun _ hk_ => trivial)) (ql HO226)) (ql HO229)) (ql HO232)) (ql HO237)) (ql HO241)) (below_size (hq5 HB GE220 GE221 GE234 GE238 GE242))); have n6_ := Aside0.mk (bB BK220 hb); have n7_ := Aside0.mk (bB BK221 hb); have n8_ := Aside0.mk (bB BK234 hb); have n9_ := Aside0.mk (bB BK238 hb); have n10_ := Aside0.mk (bB BK242 hb); have n11_ := Aside0.mk (below_step (hq5 HB GE220 GE221 GE234 GE238 GE242) hb); clear HO226; clear HO229; clear HO232; clear HO237; clear HO241; clear BK220; clear BK221; clear BK234; clear BK238; clear BK242; clear HB; have HO226 := n0_; have HO229 := n1_; have HO232 := n2_; have HO237 := n3_; have HO241 := n4_; have HO245 := n5_; have BK220 := n6_; have BK221 := n7_; have BK234 := n8_; have BK238 := n9_; have BK242 := n10_; have HB := n11_; clear n0_ n1_ n2_ n3_ n4_ n5_ n6_ n7_ n8_ n9_ n10_ n11_; (try clear hb); (try clear hb2); (try clear hk); (try clear hi); (try clear ho0)) | ((with_reducible refine gate_dst (N := 10) rfl ?_); refine box_event ?hg (N := 10) ?hd (cs := #[.slice none 0 0]) (t := 27) ?hr ?_; (case hd => rfl); (case hg => rfl); (case hr => first | (go_simp; done) | (go_simp; rfl)); intro gb247 hg w66 hbox hb; have n0_ := Aside0.mk (qb HO226 hb); have n1_ := Aside0.mk (qb HO229 hb); have n2_ := Aside0.mk (qb HO232 hb); have n3_ := Aside0.mk (qb HO237 hb); have n4_ := Aside0.mk (qb HO241 hb); have n5_ := Aside0.mk (qb HO245 hb); have n6_ := Aside0.mk (bB BK220 hb); have n7_ := Aside0.mk (bB BK221 hb); have n8_ := Aside0.mk (bB BK234 hb); have n9_ := Aside0.mk (bB BK238 hb); have n10_ := Aside0.mk (bB BK242 hb); have n11_ := Aside0.mk (below_step (hq5 HB GE220 GE221 GE234 GE238 GE242) hb); have n12_ := Aside0.mk (hbox); have n13_ := Aside0.mk (ng hg (hq5 HB GE220 GE221 GE234 GE238 GE242)); have n14_ := Aside0.mk (ng hg (hq5 HB GE220 GE221 GE234 GE238 GE242)); have n15_ := Aside0.mk (nl hg BK220); have n16_ := Aside0.mk (nr hg BK220); have n17_ := Aside0.mk (nl hg BK221); have n18_ := Aside0.mk (nr hg BK221); have n19_ := Aside0.mk (nl hg BK234); have n20_ := Aside0.mk (nr hg BK234); have n21_ := Aside0.mk (nl hg BK238); have n22_ := Aside0.mk (nr hg BK238); have n23_ := Aside0.mk (nl hg BK242); have n24_ := Aside0.mk (nr hg BK242); clear HO226; clear HO229; clear HO232; clear HO237; clear HO241; clear HO245; clear BK220; clear BK221; clear BK234; clear BK238; clear BK242; clear HB; have HO226 := n0_; have HO229 := n1_; have HO232 := n2_; have HO237 := n3_; have HO241 := n4_; have HO245 := n5_; have BK220 := n6_; have BK221 := n7_; have BK234 := n8_; have BK238 := n9_; have BK242 := n10_; have HB := n11_; have BK247 := n12_; have GW247 := n13_; have GE247 := n14_; have NB220_247 := n15_; have NB247_220 := n16_; have NB221_247 := n17_; have NB247_221 := n18_; have NB234_247 := n19_; have NB247_234 := n20_; have NB238_247 := n21_; have NB247_238 := n22_; have NB242_247 := n23_; have NB247_242 := n24_; clear n0_ n1_ n2_ n3_ n4_ n5_ n6_ n7_ n8_ n9_ n10_ n11_ n12_ n13_ n14_ n15_ n16_ n17_ n18_ n19_ n20_ n21_ n22_ n23_ n24_; clear hb hbox hg; obtain ⟨Ao67, co67, eo67⟩ := Kd.R_slice HO245.out; subst eo67; have hnb68 := NB247_220.out; have hnc68 := NB220_247.out; have hnb69 := NB247_221.out; have hnc69 := NB221_247.out; have hnb70 := NB247_234.out; have hnc70 := NB234_247.out; have hnb71 := NB247_238.out; have hnc71 := NB238_247.out; have hnb72 := NB247_242.out; have hnc72 := NB242_247.out; have hcz73_0 : w66.cell? ⟨gb247, 0, none⟩ = some (.slice none 0 0) := (blk_cell BK247.out 0).trans rfl; have hfz73_0 := blk_frozen BK247.out 0))
 (try simp only [Act.put, List.setIfInBounds_toArray, List.set_cons_zero, List.set_cons_succ])
 go_cut [53] (fun v53 wc => ∃ (kq : Nat) (x53_24 : Bool), v53 = .bool x53_24 ∧ Aside0 (laws_FnExactHalvesTimes.j0 kq t233 t246 x53_24 l0_0 l1_0 t230 t235 t239 t243 = some true) ∧ Aside0 (kq ≤ k) ∧ Aside0 (Kd.R (Kd.int .i64) 3 wc w.heap.size (fun k_ => some k_ ≠ ((.slice Ao47 t235.length co47) : Value).ownBlock ∧ some k_ ≠ ((.slice Ao56 t239.length co56) : Value).ownBlock ∧ some k_ ≠ ((.slice Ao67 t243.length co67) : Value).ownBlock) (.slice Ao41 t230.length co41) t230) ∧ Aside0 (Kd.R (Kd.int .i64) 3 wc w.heap.size (fun k_ => some k_ ≠ ((.slice Ao41 t230.length co41) : Value).ownBlock ∧ some k_ ≠ ((.slice Ao56 t239.length co56) : Value).ownBlock ∧ some k_ ≠ ((.slice Ao67 t243.length co67) : Value).ownBlock) (.slice Ao47 t235.length co47) t235) ∧ Aside0 (Kd.R (Kd.int .i64) 3 wc w.heap.size (fun k_ => some k_ ≠ ((.slice Ao41 t230.length co41) : Value).ownBlock ∧ some k_ ≠ ((.slice Ao47 t235.length co47) : Value).ownBlock ∧ some k_ ≠ ((.slice Ao67 t243.length co67) : Value).ownBlock) (.slice Ao56 t239.length co56) t239) ∧ Aside0 (Kd.R (Kd.int .i64) 3 wc w.heap.size (fun k_ => some k_ ≠ ((.slice Ao41 t230.length co41) : Value).ownBlock ∧ some k_ ≠ ((.slice Ao47 t235.length co47) : Value).ownBlock ∧ some k_ ≠ ((.slice Ao56 t239.length co56) : Value).ownBlock) (.slice Ao67 t243.length co67) t243) ∧ Aside0 (wc.heap[gb220]? = some (.cells #[(.slice A0_0 l0_0.length c0_0)] 24 (0, 0))) ∧ Aside0 (wc.heap[gb221]? = some (.cells #[(.slice A1_0 l1_0.length c1_0)] 24 (0, 0))) ∧ Aside0 (wc.heap[gb234]? = some (.cells #[(.slice Ao41 t230.length co41)] 27 (0, 0))) ∧ Aside0 (wc.heap[gb238]? = some (.cells #[(.slice Ao47 t235.length co47)] 27 (0, 0))) ∧ Aside0 (wc.heap[gb242]? = some (.cells #[(.slice Ao56 t239.length co56)] 27 (0, 0))) ∧ Aside0 (wc.heap[gb247]? = some (.cells #[(.slice Ao67 t243.length co67)] 27 (0, 0))) ∧ Aside0 (Below w.heap.size w wc))
 case first =>
   have H := HC25.out
   clear HC25
   replace H := Option.bind_eq_some_iff.mp H
   obtain ⟨t248, A740, H⟩ := H
   replace H : (if t248 = true then (laws_FnExactHalvesTimes.j0 k t233 t246 (t246 != t233) l0_0 l1_0 t230 t235 t239 t243) else (laws_FnExactHalvesTimes.j0 k t233 t246 true l0_0 l1_0 t230 t235 t239 t243)) = some true := H
   have A74 := Aside0.mk A740
   clear A740
   by_cases c75 : t248 = true
   · subst c75
     have H1 : (laws_FnExactHalvesTimes.j0 k t233 t246 (t246 != t233) l0_0 l1_0 t230 t235 t239 t243) = some true := by rw [if_pos rfl] at H; exact H
     clear H
     have H := H1
     clear H1
     have H' := Aside0.mk H
     clear H
     have hnb76 := NB247_220.out
     have hnc76 := NB220_247.out
     have hnb77 := NB247_221.out
     have hnc77 := NB221_247.out
     have hnb78 := NB247_234.out
     have hnc78 := NB234_247.out
     have hnb79 := NB247_238.out
     have hnc79 := NB238_247.out
     have hnb80 := NB247_242.out
     have hnc80 := NB242_247.out
     have hcz81_0 : w66.cell? ⟨gb247, 0, none⟩ = some (.slice none 0 0) := (blk_cell BK247.out 0).trans rfl
     have hfz81_0 := blk_frozen BK247.out 0
     have hnb82 := NB234_220.out
     have hnc82 := NB220_234.out
     have hnb83 := NB234_221.out
     have hnc83 := NB221_234.out
     have hnb84 := NB234_238.out
     have hnc84 := NB238_234.out
     have hnb85 := NB234_242.out
     have hnc85 := NB242_234.out
     have hcz86_0 : w66.cell? ⟨gb234, 0, none⟩ = some (.slice Ao41 t230.length co41) := (blk_cell BK234.out 0).trans rfl
     have hfz86_0 := blk_frozen BK234.out 0
     go_wp2_with (first | ((with_reducible refine gate_callee (f := 19) rfl ?_); refine goesL_ (some 47) rfl rfl Try.func19 (by kernel_rfl) rfl #[.agg #[.slice Ao67 t243.length co67], .agg #[.slice Ao41 t230.length co41]] rfl (by (try simp only [List.map_toArray, List.map_cons, List.map_nil]); first | done | rfl | (simp only [List.length_drop, List.length_take]; rfl)) ?_; (with_reducible refine (laws_eqBig.calls k _ _ t243 _ _ t230 true _ ?side1 ?side2 ?side3 ?side4 A74.out).mono ?_); (case side1 => refine (Kd.R_reads' (e := 3) (base := w.heap.size) (ok := fun k_ => (((((True ∧ some k_ ≠ (v225 : Value).ownBlock) ∧ some k_ ≠ (v228 : Value).ownBlock) ∧ some k_ ≠ (.slice Ao41 t230.length co41 : Value).ownBlock) ∧ some k_ ≠ (.slice Ao47 t235.length co47 : Value).ownBlock) ∧ some k_ ≠ (.slice Ao56 t239.length co56 : Value).ownBlock)) (n := t243.length) (c := co67) ?_).2.2; exact (by (with_reducible repeat (first | apply Kd.R_alloc | apply Kd.R_drewN | apply Kd.R_drew)); exact (Kd.R_mono (Kd.R_far (p := ⟨gb247, 0, none⟩) (Kd.R_types HO245.out BK247.out (by decide)) (fun _ hk => hk.2) (.slice Ao67 t243.length co67)) (fun _ h_ => h_.1)))); (case side2 => exact (Kd.R_reads' HO245.out).2.1); (case side3 => refine (Kd.R_reads' (e := 3) (base := w.heap.size) (ok := fun k_ => ((some k_ ≠ (v225 : Value).ownBlock ∧ (some k_ ≠ (v228 : Value).ownBlock ∧ (some k_ ≠ (.slice Ao47 t235.length co47 : Value).ownBlock ∧ some k_ ≠ (.slice Ao56 t239.length co56 : Value).ownBlock))) ∧ some k_ ≠ (.slice Ao67 t243.length co67 : Value).ownBlock)) (n := t230.length) (c := co41) ?_).2.2; exact (by (with_reducible repeat (first | apply Kd.R_alloc | apply Kd.R_drewN | apply Kd.R_drew)); exact (Kd.R_mono (Kd.R_far (p := ⟨gb247, 0, none⟩) (Kd.R_types HO232.out BK247.out (by decide)) (fun _ hk => hk.2) (.slice Ao67 t243.length co67)) (fun _ h_ => h_.1)))); (case side4 => exact (Kd.R_reads' HO232.out).2.1); rintro e w87 ⟨rfl, hb⟩; refine ⟨_, rfl, ?_⟩; have n0_ := Aside0.mk (Kd.R_below (by (with_reducible repeat (first | apply Kd.R_alloc | apply Kd.R_drewN | apply Kd.R_drew)); exact (Kd.R_mono (Kd.R_far (p := ⟨gb247, 0, none⟩) (Kd.R_types HO226.out BK247.out (by decide)) (fun _ hk => hk.2) (.slice Ao67 t243.length co67)) (fun _ h_ => h_.1))) hb); have n1_ := Aside0.mk (Kd.R_below (by (with_reducible repeat (first | apply Kd.R_alloc | apply Kd.R_drewN | apply Kd.R_drew)); exact (Kd.R_mono (Kd.R_far (p := ⟨gb247, 0, none⟩) (Kd.R_types HO229.out BK247.out (by decide)) (fun _ hk => hk.2) (.slice Ao67 t243.length co67)) (fun _ h_ => h_.1))) hb); have n2_ := Aside0.mk (Kd.R_below (by (with_reducible repeat (first | apply Kd.R_alloc | apply Kd.R_drewN | apply Kd.R_drew)); exact (Kd.R_mono (Kd.R_far (p := ⟨gb247, 0, none⟩) (Kd.R_types HO232.out BK247.out (by decide)) (fun _ hk => hk.2) (.slice Ao67 t243.length co67)) (fun _ h_ => h_.1))) hb); have n3_ := Aside0.mk (Kd.R_below (by (with_reducible repeat (first | apply Kd.R_alloc | apply Kd.R_drewN | apply Kd.R_drew)); exact (Kd.R_mono (Kd.R_far (p := ⟨gb247, 0, none⟩) (Kd.R_types HO237.out BK247.out (by decide)) (fun _ hk => hk.2) (.slice Ao67 t243.length co67)) (fun _ h_ => h_.1))) hb); have n4_ := Aside0.mk (Kd.R_below (by (with_reducible repeat (first | apply Kd.R_alloc | apply Kd.R_drewN | apply Kd.R_drew)); exact (Kd.R_mono (Kd.R_far (p := ⟨gb247, 0, none⟩) (Kd.R_types HO241.out BK247.out (by decide)) (fun _ hk => hk.2) (.slice Ao67 t243.length co67)) (fun _ h_ => h_.1))) hb); have n5_ := Aside0.mk (Kd.R_below (by (with_reducible repeat (first | apply Kd.R_alloc | apply Kd.R_drewN | apply Kd.R_drew)); exact (Kd.R_mono (Kd.R_far (p := ⟨gb247, 0, none⟩) (Kd.R_types HO245.out BK247.out (by decide)) (fun _ hk => hk.2) (.slice Ao67 t243.length co67)) (fun _ h_ => h_.1))) hb); have n6_ := Aside0.mk (blk_below (g := gb220) (o := .cells #[.slice A0_0 l0_0.length c0_0] 24 (0, 0)) (bf NB220_247 BK220) hb); have n7_ := Aside0.mk (blk_below (g := gb221) (o := .cells #[.slice A1_0 l1_0.length c1_0] 24 (0, 0)) (bf NB221_247 BK221) hb); have n8_ := Aside0.mk (blk_below (g := gb234) (o := .cells #[.slice Ao41 t230.length co41] 27 (0, 0)) (bf NB234_247 BK234) hb); have n9_ := Aside0.mk (blk_below (g := gb238) (o := .cells #[.slice Ao47 t235.length co47] 27 (0, 0)) (bf NB238_247 BK238) hb); have n10_ := Aside0.mk (blk_below (g := gb242) (o := .cells #[.slice Ao56 t239.length co56] 27 (0, 0)) (bf NB242_247 BK242) hb); have n11_ := Aside0.mk (blk_below (g := gb247) (o := .cells #[.slice Ao67 t243.length co67] 27 (0, 0)) (by (with_reducible repeat (first | refine blk_drewN ?_ _ | refine blk_drew ?_ | refine blk_alloc ?_ _)); refine blk_put (cs := #[.slice none 0 0]) ?_ 0 _ rfl; (with_reducible repeat (first | refine blk_drewN ?_ _ | refine blk_drew ?_ | refine blk_alloc ?_ _)); exact BK247.out) hb); have n12_ := Aside0.mk (below_step (hq6 HB GE220 GE221 GE234 GE238 GE242 GE247) hb); clear HO226; clear HO229; clear HO232; clear HO237; clear HO241; clear HO245; clear BK220; clear BK221; clear BK234; clear BK238; clear BK242; clear BK247; clear HB; have HO226 := n0_; have HO229 := n1_; have HO232 := n2_; have HO237 := n3_; have HO241 := n4_; have HO245 := n5_; have BK220 := n6_; have BK221 := n7_; have BK234 := n8_; have BK238 := n9_; have BK242 := n10_; have BK247 := n11_; have HB := n12_; clear n0_ n1_ n2_ n3_ n4_ n5_ n6_ n7_ n8_ n9_ n10_ n11_ n12_; (try clear hb); (try clear hb2); (try clear hk); (try clear hi)))
     go_meet
     case rel => exact ⟨_, ((t246 != t233)), (by first | rfl | (simp; done) | (simp [*]; done)), H', ⟨by first | omega | exact Nat.le_refl _⟩, ⟨by (with_reducible repeat (first | apply Kd.R_alloc | apply Kd.R_drewN | apply Kd.R_drew)); exact Kd.R_mono HO232.out (fun _ hk => ⟨hk.1.2.2.1, ⟨hk.1.2.2.2, hk.2⟩⟩)⟩, ⟨by (with_reducible repeat (first | apply Kd.R_alloc | apply Kd.R_drewN | apply Kd.R_drew)); exact Kd.R_mono HO237.out (fun _ hk => ⟨hk.1.2.2.1, ⟨hk.1.2.2.2, hk.2⟩⟩)⟩, ⟨by (with_reducible repeat (first | apply Kd.R_alloc | apply Kd.R_drewN | apply Kd.R_drew)); exact Kd.R_mono HO241.out (fun _ hk => ⟨hk.1.2.2.1, ⟨hk.1.2.2.2, hk.2⟩⟩)⟩, ⟨by (with_reducible repeat (first | apply Kd.R_alloc | apply Kd.R_drewN | apply Kd.R_drew)); exact Kd.R_mono HO245.out (fun _ hk => ⟨hk.1.1.2, ⟨hk.1.2, hk.2⟩⟩)⟩, ⟨by (with_reducible repeat (first | refine blk_drewN ?_ _ | refine blk_drew ?_ | refine blk_alloc ?_ _)); exact BK220.out⟩, ⟨by (with_reducible repeat (first | refine blk_drewN ?_ _ | refine blk_drew ?_ | refine blk_alloc ?_ _)); exact BK221.out⟩, ⟨by (with_reducible repeat (first | refine blk_drewN ?_ _ | refine blk_drew ?_ | refine blk_alloc ?_ _)); exact BK234.out⟩, ⟨by (with_reducible repeat (first | refine blk_drewN ?_ _ | refine blk_drew ?_ | refine blk_alloc ?_ _)); exact BK238.out⟩, ⟨by (with_reducible repeat (first | refine blk_drewN ?_ _ | refine blk_drew ?_ | refine blk_alloc ?_ _)); exact BK242.out⟩, ⟨by (with_reducible repeat (first | refine blk_drewN ?_ _ | refine blk_drew ?_ | refine blk_alloc ?_ _)); exact BK247.out⟩, ⟨hq6 HB GE220 GE221 GE234 GE238 GE242 GE247⟩⟩
   replace c75 := Bool.eq_false_iff.mpr c75
   subst c75
   have H1 : (laws_FnExactHalvesTimes.j0 k t233 t246 true l0_0 l1_0 t230 t235 t239 t243) = some true := by rw [if_neg (show ¬ (false = true) by decide)] at H; exact H
   clear H
   have H := H1
   clear H1
   have H' := Aside0.mk H
   clear H
   have hnb88 := NB247_220.out
   have hnc88 := NB220_247.out
   have hnb89 := NB247_221.out
   have hnc89 := NB221_247.out
   have hnb90 := NB247_234.out
   have hnc90 := NB234_247.out
   have hnb91 := NB247_238.out
   have hnc91 := NB238_247.out
   have hnb92 := NB247_242.out
   have hnc92 := NB242_247.out
   have hcz93_0 : w66.cell? ⟨gb247, 0, none⟩ = some (.slice none 0 0) := (blk_cell BK247.out 0).trans rfl
   have hfz93_0 := blk_frozen BK247.out 0
   have hnb94 := NB234_220.out
   have hnc94 := NB220_234.out
   have hnb95 := NB234_221.out
   have hnc95 := NB221_234.out
   have hnb96 := NB234_238.out
   have hnc96 := NB238_234.out
   have hnb97 := NB234_242.out
   have hnc97 := NB242_234.out
   have hcz98_0 : w66.cell? ⟨gb234, 0, none⟩ = some (.slice Ao41 t230.length co41) := (blk_cell BK234.out 0).trans rfl
   have hfz98_0 := blk_frozen BK234.out 0
   go_wp2_with (first | ((with_reducible refine gate_callee (f := 19) rfl ?_); refine goesL_ (some 47) rfl rfl Try.func19 (by kernel_rfl) rfl #[.agg #[.slice Ao67 t243.length co67], .agg #[.slice Ao41 t230.length co41]] rfl (by (try simp only [List.map_toArray, List.map_cons, List.map_nil]); first | done | rfl | (simp only [List.length_drop, List.length_take]; rfl)) ?_; (with_reducible refine (laws_eqBig.calls k _ _ t243 _ _ t230 false _ ?side1 ?side2 ?side3 ?side4 A74.out).mono ?_); (case side1 => refine (Kd.R_reads' (e := 3) (base := w.heap.size) (ok := fun k_ => (((((True ∧ some k_ ≠ (v225 : Value).ownBlock) ∧ some k_ ≠ (v228 : Value).ownBlock) ∧ some k_ ≠ (.slice Ao41 t230.length co41 : Value).ownBlock) ∧ some k_ ≠ (.slice Ao47 t235.length co47 : Value).ownBlock) ∧ some k_ ≠ (.slice Ao56 t239.length co56 : Value).ownBlock)) (n := t243.length) (c := co67) ?_).2.2; exact (by (with_reducible repeat (first | apply Kd.R_alloc | apply Kd.R_drewN | apply Kd.R_drew)); exact (Kd.R_mono (Kd.R_far (p := ⟨gb247, 0, none⟩) (Kd.R_types HO245.out BK247.out (by decide)) (fun _ hk => hk.2) (.slice Ao67 t243.length co67)) (fun _ h_ => h_.1)))); (case side2 => exact (Kd.R_reads' HO245.out).2.1); (case side3 => refine (Kd.R_reads' (e := 3) (base := w.heap.size) (ok := fun k_ => ((some k_ ≠ (v225 : Value).ownBlock ∧ (some k_ ≠ (v228 : Value).ownBlock ∧ (some k_ ≠ (.slice Ao47 t235.length co47 : Value).ownBlock ∧ some k_ ≠ (.slice Ao56 t239.length co56 : Value).ownBlock))) ∧ some k_ ≠ (.slice Ao67 t243.length co67 : Value).ownBlock)) (n := t230.length) (c := co41) ?_).2.2; exact (by (with_reducible repeat (first | apply Kd.R_alloc | apply Kd.R_drewN | apply Kd.R_drew)); exact (Kd.R_mono (Kd.R_far (p := ⟨gb247, 0, none⟩) (Kd.R_types HO232.out BK247.out (by decide)) (fun _ hk => hk.2) (.slice Ao67 t243.length co67)) (fun _ h_ => h_.1)))); (case side4 => exact (Kd.R_reads' HO232.out).2.1); rintro e w99 ⟨rfl, hb⟩; refine ⟨_, rfl, ?_⟩; have n0_ := Aside0.mk (Kd.R_below (by (with_reducible repeat (first | apply Kd.R_alloc | apply Kd.R_drewN | apply Kd.R_drew)); exact (Kd.R_mono (Kd.R_far (p := ⟨gb247, 0, none⟩) (Kd.R_types HO226.out BK247.out (by decide)) (fun _ hk => hk.2) (.slice Ao67 t243.length co67)) (fun _ h_ => h_.1))) hb); have n1_ := Aside0.mk (Kd.R_below (by (with_reducible repeat (first | apply Kd.R_alloc | apply Kd.R_drewN | apply Kd.R_drew)); exact (Kd.R_mono (Kd.R_far (p := ⟨gb247, 0, none⟩) (Kd.R_types HO229.out BK247.out (by decide)) (fun _ hk => hk.2) (.slice Ao67 t243.length co67)) (fun _ h_ => h_.1))) hb); have n2_ := Aside0.mk (Kd.R_below (by (with_reducible repeat (first | apply Kd.R_alloc | apply Kd.R_drewN | apply Kd.R_drew)); exact (Kd.R_mono (Kd.R_far (p := ⟨gb247, 0, none⟩) (Kd.R_types HO232.out BK247.out (by decide)) (fun _ hk => hk.2) (.slice Ao67 t243.length co67)) (fun _ h_ => h_.1))) hb); have n3_ := Aside0.mk (Kd.R_below (by (with_reducible repeat (first | apply Kd.R_alloc | apply Kd.R_drewN | apply Kd.R_drew)); exact (Kd.R_mono (Kd.R_far (p := ⟨gb247, 0, none⟩) (Kd.R_types HO237.out BK247.out (by decide)) (fun _ hk => hk.2) (.slice Ao67 t243.length co67)) (fun _ h_ => h_.1))) hb); have n4_ := Aside0.mk (Kd.R_below (by (with_reducible repeat (first | apply Kd.R_alloc | apply Kd.R_drewN | apply Kd.R_drew)); exact (Kd.R_mono (Kd.R_far (p := ⟨gb247, 0, none⟩) (Kd.R_types HO241.out BK247.out (by decide)) (fun _ hk => hk.2) (.slice Ao67 t243.length co67)) (fun _ h_ => h_.1))) hb); have n5_ := Aside0.mk (Kd.R_below (by (with_reducible repeat (first | apply Kd.R_alloc | apply Kd.R_drewN | apply Kd.R_drew)); exact (Kd.R_mono (Kd.R_far (p := ⟨gb247, 0, none⟩) (Kd.R_types HO245.out BK247.out (by decide)) (fun _ hk => hk.2) (.slice Ao67 t243.length co67)) (fun _ h_ => h_.1))) hb); have n6_ := Aside0.mk (blk_below (g := gb220) (o := .cells #[.slice A0_0 l0_0.length c0_0] 24 (0, 0)) (bf NB220_247 BK220) hb); have n7_ := Aside0.mk (blk_below (g := gb221) (o := .cells #[.slice A1_0 l1_0.length c1_0] 24 (0, 0)) (bf NB221_247 BK221) hb); have n8_ := Aside0.mk (blk_below (g := gb234) (o := .cells #[.slice Ao41 t230.length co41] 27 (0, 0)) (bf NB234_247 BK234) hb); have n9_ := Aside0.mk (blk_below (g := gb238) (o := .cells #[.slice Ao47 t235.length co47] 27 (0, 0)) (bf NB238_247 BK238) hb); have n10_ := Aside0.mk (blk_below (g := gb242) (o := .cells #[.slice Ao56 t239.length co56] 27 (0, 0)) (bf NB242_247 BK242) hb); have n11_ := Aside0.mk (blk_below (g := gb247) (o := .cells #[.slice Ao67 t243.length co67] 27 (0, 0)) (by (with_reducible repeat (first | refine blk_drewN ?_ _ | refine blk_drew ?_ | refine blk_alloc ?_ _)); refine blk_put (cs := #[.slice none 0 0]) ?_ 0 _ rfl; (with_reducible repeat (first | refine blk_drewN ?_ _ | refine blk_drew ?_ | refine blk_alloc ?_ _)); exact BK247.out) hb); have n12_ := Aside0.mk (below_step (hq6 HB GE220 GE221 GE234 GE238 GE242 GE247) hb); clear HO226; clear HO229; clear HO232; clear HO237; clear HO241; clear HO245; clear BK220; clear BK221; clear BK234; clear BK238; clear BK242; clear BK247; clear HB; have HO226 := n0_; have HO229 := n1_; have HO232 := n2_; have HO237 := n3_; have HO241 := n4_; have HO245 := n5_; have BK220 := n6_; have BK221 := n7_; have BK234 := n8_; have BK238 := n9_; have BK242 := n10_; have BK247 := n11_; have HB := n12_; clear n0_ n1_ n2_ n3_ n4_ n5_ n6_ n7_ n8_ n9_ n10_ n11_ n12_; (try clear hb); (try clear hb2); (try clear hk); (try clear hi)))
   go_meet
   case rel => exact ⟨_, (true), (by first | rfl | (simp; done) | (simp [*]; done)), H', ⟨by first | omega | exact Nat.le_refl _⟩, ⟨by (with_reducible repeat (first | apply Kd.R_alloc | apply Kd.R_drewN | apply Kd.R_drew)); exact Kd.R_mono HO232.out (fun _ hk => ⟨hk.1.2.2.1, ⟨hk.1.2.2.2, hk.2⟩⟩)⟩, ⟨by (with_reducible repeat (first | apply Kd.R_alloc | apply Kd.R_drewN | apply Kd.R_drew)); exact Kd.R_mono HO237.out (fun _ hk => ⟨hk.1.2.2.1, ⟨hk.1.2.2.2, hk.2⟩⟩)⟩, ⟨by (with_reducible repeat (first | apply Kd.R_alloc | apply Kd.R_drewN | apply Kd.R_drew)); exact Kd.R_mono HO241.out (fun _ hk => ⟨hk.1.2.2.1, ⟨hk.1.2.2.2, hk.2⟩⟩)⟩, ⟨by (with_reducible repeat (first | apply Kd.R_alloc | apply Kd.R_drewN | apply Kd.R_drew)); exact Kd.R_mono HO245.out (fun _ hk => ⟨hk.1.1.2, ⟨hk.1.2, hk.2⟩⟩)⟩, ⟨by (with_reducible repeat (first | refine blk_drewN ?_ _ | refine blk_drew ?_ | refine blk_alloc ?_ _)); exact BK220.out⟩, ⟨by (with_reducible repeat (first | refine blk_drewN ?_ _ | refine blk_drew ?_ | refine blk_alloc ?_ _)); exact BK221.out⟩, ⟨by (with_reducible repeat (first | refine blk_drewN ?_ _ | refine blk_drew ?_ | refine blk_alloc ?_ _)); exact BK234.out⟩, ⟨by (with_reducible repeat (first | refine blk_drewN ?_ _ | refine blk_drew ?_ | refine blk_alloc ?_ _)); exact BK238.out⟩, ⟨by (with_reducible repeat (first | refine blk_drewN ?_ _ | refine blk_drew ?_ | refine blk_alloc ?_ _)); exact BK242.out⟩, ⟨by (with_reducible repeat (first | refine blk_drewN ?_ _ | refine blk_drew ?_ | refine blk_alloc ?_ _)); exact BK247.out⟩, ⟨hq6 HB GE220 GE221 GE234 GE238 GE242 GE247⟩⟩
 clear HC25
 try clear c1
 try clear p2
 try clear c4
 try clear c5
 try clear c6
 try clear c7
 try clear c8
 try clear c9
 try clear c17
 try clear c19
 try clear c40
 try clear c41
 try clear c43
 try clear c48
 try clear c49
 try clear c50
 try clear c52
 try clear c57
 try clear c58
 try clear c59
 try clear c60
 try clear c68
 try clear c69
 try clear c70
 try clear c71
 try clear c72
 try clear c75
 try clear c76
 try clear c77
 try clear c78
 try clear c79
 try clear c80
 try clear c82
 try clear c83
 try clear c84
 try clear c85
 try clear c88
 try clear c89
 try clear c90
 try clear c91
 try clear c92
 try clear c94
 try clear c95
 try clear c96
 try clear c97
 try clear hcz44_0
 try clear hcz51_0
 try clear hcz53_0
 try clear hcz61_0
 try clear hcz63_0
 try clear hcz64_0
 try clear hcz73_0
 try clear hcz81_0
 try clear hcz86_0
 try clear hcz93_0
 try clear hcz98_0
 try clear hfz44_0
 try clear hfz51_0
 try clear hfz53_0
 try clear hfz61_0
 try clear hfz63_0
 try clear hfz64_0
 try clear hfz73_0
 try clear hfz81_0
 try clear hfz86_0
 try clear hfz93_0
 try clear hfz98_0
 obtain ⟨kq, x53_24, rfl, HA, HJ24, HO_235000, HO_239000, HO_243000, HO_248000, BK220, BK221, BK234, BK238, BK242, BK247, HB⟩ := hcut
 obtain _ | kj24 := kq
 · exact absurd HA.out (by simp [laws_FnExactHalvesTimes.j0])
 have H := HA.out
 clear HA
 simp only [laws_FnExactHalvesTimes.j0] at H
 by_cases c100 : x53_24 = true
 · subst c100
   have H1 : (some false) = some true := by rw [if_pos rfl] at H; exact H
   clear H
   have H := H1
   clear H1
   cases H
 replace c100 := Bool.eq_false_iff.mpr c100
 subst c100
 have H1 : ((laws_toBig.f kj24 l0_0).bind fun t249 => ((laws_eqBig.f kj24 t235 t249).bind fun t252 => (if t252 = true then ((laws_toBig.f kj24 l1_0).bind fun t253 => ((laws_eqBig.f kj24 t239 t253).bind fun t256 => (if t256 = true then ((laws_markBig.f kj24 t235 1).bind fun bt257 => ((laws_markBig.f kj24 t239 bt257.1).bind fun bt259 => (if bt259.1 < 0 then (laws_FnExactHalvesTimes.j1 kj24 t233 true l0_0 l1_0 t230 t243) else ((laws_eqBig.f kj24 t243 t230).bind fun t261 => (if t261 = true then (laws_FnExactHalvesTimes.j1 kj24 t233 (t246 != t233) l0_0 l1_0 t230 t243) else (laws_FnExactHalvesTimes.j1 kj24 t233 true l0_0 l1_0 t230 t243)))))) else (some false)))) else (some false)))) = some true := by rw [if_neg (show ¬ (false = true) by decide)] at H; exact H
 clear H
 have H := H1
 clear H1
 replace H := Option.bind_eq_some_iff.mp H
 obtain ⟨t249, A1010, H⟩ := H
 replace H : ((laws_eqBig.f kj24 t235 t249).bind fun t252 => (if t252 = true then ((laws_toBig.f kj24 l1_0).bind fun t253 => ((laws_eqBig.f kj24 t239 t253).bind fun t256 => (if t256 = true then ((laws_markBig.f kj24 t235 1).bind fun bt257 => ((laws_markBig.f kj24 t239 bt257.1).bind fun bt259 => (if bt259.1 < 0 then (laws_FnExactHalvesTimes.j1 kj24 t233 true l0_0 l1_0 t230 t243) else ((laws_eqBig.f kj24 t243 t230).bind fun t261 => (if t261 = true then (laws_FnExactHalvesTimes.j1 kj24 t233 (t246 != t233) l0_0 l1_0 t230 t243) else (laws_FnExactHalvesTimes.j1 kj24 t233 true l0_0 l1_0 t230 t243)))))) else (some false)))) else (some false))) = some true := H
 have A101 := Aside0.mk A1010
 clear A1010
 replace H := Option.bind_eq_some_iff.mp H
 obtain ⟨t252, A1020, H⟩ := H
 replace H : (if t252 = true then ((laws_toBig.f kj24 l1_0).bind fun t253 => ((laws_eqBig.f kj24 t239 t253).bind fun t256 => (if t256 = true then ((laws_markBig.f kj24 t235 1).bind fun bt257 => ((laws_markBig.f kj24 t239 bt257.1).bind fun bt259 => (if bt259.1 < 0 then (laws_FnExactHalvesTimes.j1 kj24 t233 true l0_0 l1_0 t230 t243) else ((laws_eqBig.f kj24 t243 t230).bind fun t261 => (if t261 = true then (laws_FnExactHalvesTimes.j1 kj24 t233 (t246 != t233) l0_0 l1_0 t230 t243) else (laws_FnExactHalvesTimes.j1 kj24 t233 true l0_0 l1_0 t230 t243)))))) else (some false)))) else (some false)) = some true := H
 have A102 := Aside0.mk A1020
 clear A1020
 by_cases c103 : t252 = true
 rotate_left
 · replace c103 := Bool.eq_false_iff.mpr c103
   subst c103
   have H1 : (some false) = some true := by rw [if_neg (show ¬ (false = true) by decide)] at H; exact H
   clear H
   have H := H1
   clear H1
   cases H
 subst c103
 have H1 : ((laws_toBig.f kj24 l1_0).bind fun t253 => ((laws_eqBig.f kj24 t239 t253).bind fun t256 => (if t256 = true then ((laws_markBig.f kj24 t235 1).bind fun bt257 => ((laws_markBig.f kj24 t239 bt257.1).bind fun bt259 => (if bt259.1 < 0 then (laws_FnExactHalvesTimes.j1 kj24 t233 true l0_0 l1_0 t230 t243) else ((laws_eqBig.f kj24 t243 t230).bind fun t261 => (if t261 = true then (laws_FnExactHalvesTimes.j1 kj24 t233 (t246 != t233) l0_0 l1_0 t230 t243) else (laws_FnExactHalvesTimes.j1 kj24 t233 true l0_0 l1_0 t230 t243)))))) else (some false)))) = some true := by rw [if_pos rfl] at H; exact H
 clear H
 have H := H1
 clear H1
 replace H := Option.bind_eq_some_iff.mp H
 obtain ⟨t253, A1040, H⟩ := H
 replace H : ((laws_eqBig.f kj24 t239 t253).bind fun t256 => (if t256 = true then ((laws_markBig.f kj24 t235 1).bind fun bt257 => ((laws_markBig.f kj24 t239 bt257.1).bind fun bt259 => (if bt259.1 < 0 then (laws_FnExactHalvesTimes.j1 kj24 t233 true l0_0 l1_0 t230 t243) else ((laws_eqBig.f kj24 t243 t230).bind fun t261 => (if t261 = true then (laws_FnExactHalvesTimes.j1 kj24 t233 (t246 != t233) l0_0 l1_0 t230 t243) else (laws_FnExactHalvesTimes.j1 kj24 t233 true l0_0 l1_0 t230 t243)))))) else (some false))) = some true := H
 have A104 := Aside0.mk A1040
 clear A1040
 replace H := Option.bind_eq_some_iff.mp H
 obtain ⟨t256, A1050, H⟩ := H
 replace H : (if t256 = true then ((laws_markBig.f kj24 t235 1).bind fun bt257 => ((laws_markBig.f kj24 t239 bt257.1).bind fun bt259 => (if bt259.1 < 0 then (laws_FnExactHalvesTimes.j1 kj24 t233 true l0_0 l1_0 t230 t243) else ((laws_eqBig.f kj24 t243 t230).bind fun t261 => (if t261 = true then (laws_FnExactHalvesTimes.j1 kj24 t233 (t246 != t233) l0_0 l1_0 t230 t243) else (laws_FnExactHalvesTimes.j1 kj24 t233 true l0_0 l1_0 t230 t243)))))) else (some false)) = some true := H
 have A105 := Aside0.mk A1050
 clear A1050
 by_cases c106 : t256 = true
 rotate_left
 · replace c106 := Bool.eq_false_iff.mpr c106
   subst c106
   have H1 : (some false) = some true := by rw [if_neg (show ¬ (false = true) by decide)] at H; exact H
   clear H
   have H := H1
   clear H1
   cases H
 subst c106
 have H1 : ((laws_markBig.f kj24 t235 1).bind fun bt257 => ((laws_markBig.f kj24 t239 bt257.1).bind fun bt259 => (if bt259.1 < 0 then (laws_FnExactHalvesTimes.j1 kj24 t233 true l0_0 l1_0 t230 t243) else ((laws_eqBig.f kj24 t243 t230).bind fun t261 => (if t261 = true then (laws_FnExactHalvesTimes.j1 kj24 t233 (t246 != t233) l0_0 l1_0 t230 t243) else (laws_FnExactHalvesTimes.j1 kj24 t233 true l0_0 l1_0 t230 t243)))))) = some true := by rw [if_pos rfl] at H; exact H
 clear H
 have H := H1
 clear H1
 replace H := Option.bind_eq_some_iff.mp H
 obtain ⟨⟨t257, t258⟩, A1070, H⟩ := H
 replace H : ((laws_markBig.f kj24 t239 t257).bind fun bt259 => (if bt259.1 < 0 then (laws_FnExactHalvesTimes.j1 kj24 t233 true l0_0 l1_0 t230 t243) else ((laws_eqBig.f kj24 t243 t230).bind fun t261 => (if t261 = true then (laws_FnExactHalvesTimes.j1 kj24 t233 (t246 != t233) l0_0 l1_0 t230 t243) else (laws_FnExactHalvesTimes.j1 kj24 t233 true l0_0 l1_0 t230 t243))))) = some true := H
 have A107 := Aside0.mk A1070
 clear A1070
 replace H := Option.bind_eq_some_iff.mp H
 obtain ⟨⟨t259, t260⟩, A1080, H⟩ := H
 replace H : (if t259 < 0 then (laws_FnExactHalvesTimes.j1 kj24 t233 true l0_0 l1_0 t230 t243) else ((laws_eqBig.f kj24 t243 t230).bind fun t261 => (if t261 = true then (laws_FnExactHalvesTimes.j1 kj24 t233 (t246 != t233) l0_0 l1_0 t230 t243) else (laws_FnExactHalvesTimes.j1 kj24 t233 true l0_0 l1_0 t230 t243)))) = some true := H
 have A108 := Aside0.mk A1080
 clear A1080
 have HC109 := Aside0.mk H
 clear H
 try go_wp2
 have n0_ := Aside0.mk (Kd.R_drew HO_235000.out)
 have n1_ := Aside0.mk (Kd.R_drew HO_239000.out)
 have n2_ := Aside0.mk (Kd.R_drew HO_243000.out)
 have n3_ := Aside0.mk (Kd.R_drew HO_248000.out)
 have n4_ := Aside0.mk (blk_drew BK220.out)
 have n5_ := Aside0.mk (blk_drew BK221.out)
 have n6_ := Aside0.mk (blk_drew BK234.out)
 have n7_ := Aside0.mk (blk_drew BK238.out)
 have n8_ := Aside0.mk (blk_drew BK242.out)
 have n9_ := Aside0.mk (blk_drew BK247.out)
 have n10_ := Aside0.mk (below_drew1 HB.out)
 clear HO_235000
 clear HO_239000
 clear HO_243000
 clear HO_248000
 clear BK220
 clear BK221
 clear BK234
 clear BK238
 clear BK242
 clear BK247
 clear HB
 have HO_235000 := n0_
 have HO_239000 := n1_
 have HO_243000 := n2_
 have HO_248000 := n3_
 have BK220 := n4_
 have BK221 := n5_
 have BK234 := n6_
 have BK238 := n7_
 have BK242 := n8_
 have BK247 := n9_
 have HB := n10_
 clear n0_ n1_ n2_ n3_ n4_ n5_ n6_ n7_ n8_ n9_ n10_
 refine start_ (n := 5) (S := fun w' => w'.cell? ⟨gb238, 0, none⟩ = some (.slice Ao47 t235.length co47) ∧ w'.cell? ⟨gb220, 0, none⟩ = some (.slice A0_0 l0_0.length c0_0)) (ds := []) #[false, false, false, false, false] (by kernel_rfl) rfl rfl ⟨(blk_cell BK238.out 0).trans rfl, (blk_cell BK220.out 0).trans rfl⟩ (fun hHeld => ?_)
 generalize wc.drew = w110 at HO_235000 HO_239000 HO_243000 HO_248000 BK220 BK221 BK234 BK238 BK242 BK247 HB hHeld ⊢
 refine take_ (i := 0) (N := some 54) (v := ?_) (a' := ?_) #[true, false, false, false, false] rfl rfl (by kernel_rfl) (fun _ _ _ h => h) (Or.inl ⟨by rfl, ?_⟩) hHeld ?_ ?_
 rotate_left
 · rintro w' ⟨s0, s1⟩
   go_simp
   with_reducible rfl
 rotate_left
 · simp only [Act.put, List.setIfInBounds_toArray, List.set_cons_zero, List.set_cons_succ, i64_w, i32_w]
   rfl
 refine take_ (i := 1) (N := some 55) (v := ?_) (a' := ?_) #[true, true, false, false, false] rfl rfl (by kernel_rfl) (fun _ _ _ h => h) (Or.inl ⟨by rfl, ?_⟩) hHeld ?_ ?_
 rotate_left
 · rintro w' ⟨s0, s1⟩
   go_simp
   with_reducible rfl
 rotate_left
 · simp only [Act.put, List.setIfInBounds_toArray, List.set_cons_zero, List.set_cons_succ, i64_w, i32_w]
   rfl
 refine one_ (i := 2) (N := some 56) #[true, true, true, false, false] rfl rfl (by kernel_rfl) (by decide) (fun K hK => ?_)
 refine goes_ Try.func17 (by kernel_rfl) rfl #[.agg #[.slice A0_0 l0_0.length c0_0]] (by rfl) rfl rfl (by (try simp only [List.map_toArray, List.map_cons, List.map_nil]); first | done | rfl | (simp only [List.length_drop, List.length_take]; rfl)) ?_
 with_reducible refine (laws_toBig.calls kj24 _ _ l0_0 t249 _ ?side1 ?side2 A101.out).mono ?_
 (case side1 => repeat (first | exact (Kd.C_below HR0_0.out HB.out) | (with_reducible refine Kd.C_alloc ?_ _) | (with_reducible refine Kd.C_drewN ?_ _) | (with_reducible refine Kd.C_drew ?_)))
 (case side2 => exact HC0_0.out)
 rintro e w111 ⟨v250, rfl, ho0, hb⟩
 refine ⟨_, rfl, ?_⟩
 have n0_ := Aside0.mk (qe HO_235000 ho0 hb)
 have n1_ := Aside0.mk (qe HO_239000 ho0 hb)
 have n2_ := Aside0.mk (qe HO_243000 ho0 hb)
 have n3_ := Aside0.mk (qe HO_248000 ho0 hb)
 have n4_ := Aside0.mk (Kd.R_lower (Kd.R_new' (Kd.R_new' (Kd.R_new' (Kd.R_new' ho0 (ql HO_235000)) (ql HO_239000)) (ql HO_243000)) (ql HO_248000)) (below_size (hq6 HB GE220 GE221 GE234 GE238 GE242 GE247)))
 have n5_ := Aside0.mk (bB BK220 hb)
 have n6_ := Aside0.mk (bB BK221 hb)
 have n7_ := Aside0.mk (bB BK234 hb)
 have n8_ := Aside0.mk (bB BK238 hb)
 have n9_ := Aside0.mk (bB BK242 hb)
 have n10_ := Aside0.mk (bB BK247 hb)
 have n11_ := Aside0.mk (below_step (hq6 HB GE220 GE221 GE234 GE238 GE242 GE247) hb)
 clear HO_235000
 clear HO_239000
 clear HO_243000
 clear HO_248000
 clear BK220
 clear BK221
 clear BK234
 clear BK238
 clear BK242
 clear BK247
 clear HB
 have HO_235000 := n0_
 have HO_239000 := n1_
 have HO_243000 := n2_
 have HO_248000 := n3_
 have HO251 := n4_
 have BK220 := n5_
 have BK221 := n6_
 have BK234 := n7_
 have BK238 := n8_
 have BK242 := n9_
 have BK247 := n10_
 have HB := n11_
 clear n0_ n1_ n2_ n3_ n4_ n5_ n6_ n7_ n8_ n9_ n10_ n11_
 (try clear hb)
 (try clear hb2)
 (try clear hk)
 (try clear hi)
 (try clear ho0)
 obtain ⟨Ao112, co112, eo112⟩ := Kd.R_slice HO251.out
 (first | subst eo112 | (injection eo112 with f1_ f2_ f3_; have f4_ := f1_.symm; have f5_ := f3_.symm; clear f1_ f2_ f3_; subst f4_; subst f5_))
 refine hK.out _ _ ⟨(blk_cell BK238.out 0).trans rfl, (blk_cell BK220.out 0).trans rfl⟩ (fun hHeld => ?_)
 clear hK K
 refine norm_ (a' := ?_) ?_ ?_
 rotate_left
 · show Act.put _ (some 56) _ = _
   simp only [Act.put, List.setIfInBounds_toArray, List.set_cons_zero, List.set_cons_succ, i64_w, i32_w]
   rfl
 refine one_ (i := 3) (N := some 57) #[true, true, true, true, false] rfl rfl (by kernel_rfl) (by decide) (fun K hK => ?_)
 refine goes_ Try.func19 (by kernel_rfl) rfl #[.agg #[.slice Ao47 t235.length co47], .agg #[.slice Ao112 t249.length co112]] (by rfl) rfl rfl (by (try simp only [List.map_toArray, List.map_cons, List.map_nil]); first | done | rfl | (simp only [List.length_drop, List.length_take]; rfl)) ?_
 with_reducible refine (laws_eqBig.calls kj24 _ _ t235 _ _ t249 true _ ?side1 ?side2 ?side3 ?side4 A102.out).mono ?_
 (case side1 => repeat (first | exact (Kd.R_reads' HO_239000.out).2.2 | (with_reducible refine Kd.C_alloc ?_ _) | (with_reducible refine Kd.C_drewN ?_ _) | (with_reducible refine Kd.C_drew ?_)))
 (case side2 => exact (Kd.R_reads' HO_239000.out).2.1)
 (case side3 => repeat (first | exact (Kd.R_reads' HO251.out).2.2 | (with_reducible refine Kd.C_alloc ?_ _) | (with_reducible refine Kd.C_drewN ?_ _) | (with_reducible refine Kd.C_drew ?_)))
 (case side4 => exact (Kd.R_reads' HO251.out).2.1)
 rintro e w113 ⟨rfl, hb⟩
 refine ⟨_, rfl, ?_⟩
 have n0_ := Aside0.mk (qb HO_235000 hb)
 have n1_ := Aside0.mk (qb HO_239000 hb)
 have n2_ := Aside0.mk (qb HO_243000 hb)
 have n3_ := Aside0.mk (qb HO_248000 hb)
 have n4_ := Aside0.mk (qb HO251 hb)
 have n5_ := Aside0.mk (bB BK220 hb)
 have n6_ := Aside0.mk (bB BK221 hb)
 have n7_ := Aside0.mk (bB BK234 hb)
 have n8_ := Aside0.mk (bB BK238 hb)
 have n9_ := Aside0.mk (bB BK242 hb)
 have n10_ := Aside0.mk (bB BK247 hb)
 have n11_ := Aside0.mk (below_step (hq6 HB GE220 GE221 GE234 GE238 GE242 GE247) hb)
 clear HO_235000
 clear HO_239000
 clear HO_243000
 clear HO_248000
 clear HO251
 clear BK220
 clear BK221
 clear BK234
 clear BK238
 clear BK242
 clear BK247
 clear HB
 have HO_235000 := n0_
 have HO_239000 := n1_
 have HO_243000 := n2_
 have HO_248000 := n3_
 have HO251 := n4_
 have BK220 := n5_
 have BK221 := n6_
 have BK234 := n7_
 have BK238 := n8_
 have BK242 := n9_
 have BK247 := n10_
 have HB := n11_
 clear n0_ n1_ n2_ n3_ n4_ n5_ n6_ n7_ n8_ n9_ n10_ n11_
 (try clear hb)
 (try clear hb2)
 (try clear hk)
 (try clear hi)
 refine hK.out _ _ ⟨(blk_cell BK238.out 0).trans rfl, (blk_cell BK220.out 0).trans rfl⟩ (fun hHeld => ?_)
 clear hK K
 refine norm_ (a' := ?_) ?_ ?_
 rotate_left
 · show Act.put _ (some 57) _ = _
   simp only [Act.put, List.setIfInBounds_toArray, List.set_cons_zero, List.set_cons_succ, i64_w, i32_w]
   rfl
 refine pure_ (i := 4) (N := some 58) (v := ?_) (a' := ?_) #[true, true, true, true, true] rfl rfl (by kernel_rfl) (fun _ _ _ h => h) (Or.inl ⟨by rfl, ?_⟩) ?_ ?_
 rotate_left
 · intro w'
   first | (go_simp; with_reducible rfl) | (go_simp; unfold Instr.field; go_simp; rfl)
 rotate_left
 · simp only [Act.put, List.setIfInBounds_toArray, List.set_cons_zero, List.set_cons_succ, i64_w, i32_w]
   rfl
 refine done_ (by kernel_rfl) ?_
 try go_wp2
 have n0_ := Aside0.mk (Kd.R_drew HO_235000.out)
 have n1_ := Aside0.mk (Kd.R_drew HO_239000.out)
 have n2_ := Aside0.mk (Kd.R_drew HO_243000.out)
 have n3_ := Aside0.mk (Kd.R_drew HO_248000.out)
 have n4_ := Aside0.mk (Kd.R_drew HO251.out)
 have n5_ := Aside0.mk (blk_drew BK220.out)
 have n6_ := Aside0.mk (blk_drew BK221.out)
 have n7_ := Aside0.mk (blk_drew BK234.out)
 have n8_ := Aside0.mk (blk_drew BK238.out)
 have n9_ := Aside0.mk (blk_drew BK242.out)
 have n10_ := Aside0.mk (blk_drew BK247.out)
 have n11_ := Aside0.mk (below_drew1 HB.out)
 clear HO_235000
 clear HO_239000
 clear HO_243000
 clear HO_248000
 clear HO251
 clear BK220
 clear BK221
 clear BK234
 clear BK238
 clear BK242
 clear BK247
 clear HB
 have HO_235000 := n0_
 have HO_239000 := n1_
 have HO_243000 := n2_
 have HO_248000 := n3_
 have HO251 := n4_
 have BK220 := n5_
 have BK221 := n6_
 have BK234 := n7_
 have BK238 := n8_
 have BK242 := n9_
 have BK247 := n10_
 have HB := n11_
 clear n0_ n1_ n2_ n3_ n4_ n5_ n6_ n7_ n8_ n9_ n10_ n11_
 refine start_ (n := 5) (S := fun w' => w'.cell? ⟨gb242, 0, none⟩ = some (.slice Ao56 t239.length co56) ∧ w'.cell? ⟨gb221, 0, none⟩ = some (.slice A1_0 l1_0.length c1_0)) (ds := []) #[false, false, false, false, false] (by kernel_rfl) rfl rfl ⟨(blk_cell BK242.out 0).trans rfl, (blk_cell BK221.out 0).trans rfl⟩ (fun hHeld => ?_)
 generalize w113.drew = w114 at HO_235000 HO_239000 HO_243000 HO_248000 HO251 BK220 BK221 BK234 BK238 BK242 BK247 HB hHeld ⊢
 refine take_ (i := 0) (N := some 59) (v := ?_) (a' := ?_) #[true, false, false, false, false] rfl rfl (by kernel_rfl) (fun _ _ _ h => h) (Or.inl ⟨by rfl, ?_⟩) hHeld ?_ ?_
 rotate_left
 · rintro w' ⟨s0, s1⟩
   go_simp
   with_reducible rfl
 rotate_left
 · simp only [Act.put, List.setIfInBounds_toArray, List.set_cons_zero, List.set_cons_succ, i64_w, i32_w]
   rfl
 refine take_ (i := 1) (N := some 60) (v := ?_) (a' := ?_) #[true, true, false, false, false] rfl rfl (by kernel_rfl) (fun _ _ _ h => h) (Or.inl ⟨by rfl, ?_⟩) hHeld ?_ ?_
 rotate_left
 · rintro w' ⟨s0, s1⟩
   go_simp
   with_reducible rfl
 rotate_left
 · simp only [Act.put, List.setIfInBounds_toArray, List.set_cons_zero, List.set_cons_succ, i64_w, i32_w]
   rfl
 refine one_ (i := 2) (N := some 61) #[true, true, true, false, false] rfl rfl (by kernel_rfl) (by decide) (fun K hK => ?_)
 refine goes_ Try.func17 (by kernel_rfl) rfl #[.agg #[.slice A1_0 l1_0.length c1_0]] (by rfl) rfl rfl (by (try simp only [List.map_toArray, List.map_cons, List.map_nil]); first | done | rfl | (simp only [List.length_drop, List.length_take]; rfl)) ?_
 with_reducible refine (laws_toBig.calls kj24 _ _ l1_0 t253 _ ?side1 ?side2 A104.out).mono ?_
 (case side1 => repeat (first | exact (Kd.C_below HR1_0.out HB.out) | (with_reducible refine Kd.C_alloc ?_ _) | (with_reducible refine Kd.C_drewN ?_ _) | (with_reducible refine Kd.C_drew ?_)))
 (case side2 => exact HC1_0.out)
 rintro e w115 ⟨v254, rfl, ho0, hb⟩
 refine ⟨_, rfl, ?_⟩
 have n0_ := Aside0.mk (qe HO_235000 ho0 hb)
 have n1_ := Aside0.mk (qe HO_239000 ho0 hb)
 have n2_ := Aside0.mk (qe HO_243000 ho0 hb)
 have n3_ := Aside0.mk (qe HO_248000 ho0 hb)
 have n4_ := Aside0.mk (qe HO251 ho0 hb)
 have n5_ := Aside0.mk (Kd.R_lower (Kd.R_new' (Kd.R_new' (Kd.R_new' (Kd.R_new' (Kd.R_new' ho0 (ql HO_235000)) (ql HO_239000)) (ql HO_243000)) (ql HO_248000)) (ql HO251)) (below_size (hq6 HB GE220 GE221 GE234 GE238 GE242 GE247)))
 have n6_ := Aside0.mk (bB BK220 hb)
 have n7_ := Aside0.mk (bB BK221 hb)
 have n8_ := Aside0.mk (bB BK234 hb)
 have n9_ := Aside0.mk (bB BK238 hb)
 have n10_ := Aside0.mk (bB BK242 hb)
 have n11_ := Aside0.mk (bB BK247 hb)
 have n12_ := Aside0.mk (below_step (hq6 HB GE220 GE221 GE234 GE238 GE242 GE247) hb)
 clear HO_235000
 clear HO_239000
 clear HO_243000
 clear HO_248000
 clear HO251
 clear BK220
 clear BK221
 clear BK234
 clear BK238
 clear BK242
 clear BK247
 clear HB
 have HO_235000 := n0_
 have HO_239000 := n1_
 have HO_243000 := n2_
 have HO_248000 := n3_
 have HO251 := n4_
 have HO255 := n5_
 have BK220 := n6_
 have BK221 := n7_
 have BK234 := n8_
 have BK238 := n9_
 have BK242 := n10_
 have BK247 := n11_
 have HB := n12_
 clear n0_ n1_ n2_ n3_ n4_ n5_ n6_ n7_ n8_ n9_ n10_ n11_ n12_
 (try clear hb)
 (try clear hb2)
 (try clear hk)
 (try clear hi)
 (try clear ho0)
 obtain ⟨Ao116, co116, eo116⟩ := Kd.R_slice HO255.out
 (first | subst eo116 | (injection eo116 with f1_ f2_ f3_; have f4_ := f1_.symm; have f5_ := f3_.symm; clear f1_ f2_ f3_; subst f4_; subst f5_))
 refine hK.out _ _ ⟨(blk_cell BK242.out 0).trans rfl, (blk_cell BK221.out 0).trans rfl⟩ (fun hHeld => ?_)
 clear hK K
 refine norm_ (a' := ?_) ?_ ?_
 rotate_left
 · show Act.put _ (some 61) _ = _
   simp only [Act.put, List.setIfInBounds_toArray, List.set_cons_zero, List.set_cons_succ, i64_w, i32_w]
   rfl
 refine one_ (i := 3) (N := some 62) #[true, true, true, true, false] rfl rfl (by kernel_rfl) (by decide) (fun K hK => ?_)
 refine goes_ Try.func19 (by kernel_rfl) rfl #[.agg #[.slice Ao56 t239.length co56], .agg #[.slice Ao116 t253.length co116]] (by rfl) rfl rfl (by (try simp only [List.map_toArray, List.map_cons, List.map_nil]); first | done | rfl | (simp only [List.length_drop, List.length_take]; rfl)) ?_
 with_reducible refine (laws_eqBig.calls kj24 _ _ t239 _ _ t253 true _ ?side1 ?side2 ?side3 ?side4 A105.out).mono ?_
 (case side1 => repeat (first | exact (Kd.R_reads' HO_243000.out).2.2 | (with_reducible refine Kd.C_alloc ?_ _) | (with_reducible refine Kd.C_drewN ?_ _) | (with_reducible refine Kd.C_drew ?_)))
 (case side2 => exact (Kd.R_reads' HO_243000.out).2.1)
 (case side3 => repeat (first | exact (Kd.R_reads' HO255.out).2.2 | (with_reducible refine Kd.C_alloc ?_ _) | (with_reducible refine Kd.C_drewN ?_ _) | (with_reducible refine Kd.C_drew ?_)))
 (case side4 => exact (Kd.R_reads' HO255.out).2.1)
 rintro e w117 ⟨rfl, hb⟩
 refine ⟨_, rfl, ?_⟩
 have n0_ := Aside0.mk (qb HO_235000 hb)
 have n1_ := Aside0.mk (qb HO_239000 hb)
 have n2_ := Aside0.mk (qb HO_243000 hb)
 have n3_ := Aside0.mk (qb HO_248000 hb)
 have n4_ := Aside0.mk (qb HO251 hb)
 have n5_ := Aside0.mk (qb HO255 hb)
 have n6_ := Aside0.mk (bB BK220 hb)
 have n7_ := Aside0.mk (bB BK221 hb)
 have n8_ := Aside0.mk (bB BK234 hb)
 have n9_ := Aside0.mk (bB BK238 hb)
 have n10_ := Aside0.mk (bB BK242 hb)
 have n11_ := Aside0.mk (bB BK247 hb)
 have n12_ := Aside0.mk (below_step (hq6 HB GE220 GE221 GE234 GE238 GE242 GE247) hb)
 clear HO_235000
 clear HO_239000
 clear HO_243000
 clear HO_248000
 clear HO251
 clear HO255
 clear BK220
 clear BK221
 clear BK234
 clear BK238
 clear BK242
 clear BK247
 clear HB
 have HO_235000 := n0_
 have HO_239000 := n1_
 have HO_243000 := n2_
 have HO_248000 := n3_
 have HO251 := n4_
 have HO255 := n5_
 have BK220 := n6_
 have BK221 := n7_
 have BK234 := n8_
 have BK238 := n9_
 have BK242 := n10_
 have BK247 := n11_
 have HB := n12_
 clear n0_ n1_ n2_ n3_ n4_ n5_ n6_ n7_ n8_ n9_ n10_ n11_ n12_
 (try clear hb)
 (try clear hb2)
 (try clear hk)
 (try clear hi)
 refine hK.out _ _ ⟨(blk_cell BK242.out 0).trans rfl, (blk_cell BK221.out 0).trans rfl⟩ (fun hHeld => ?_)
 clear hK K
 refine norm_ (a' := ?_) ?_ ?_
 rotate_left
 · show Act.put _ (some 62) _ = _
   simp only [Act.put, List.setIfInBounds_toArray, List.set_cons_zero, List.set_cons_succ, i64_w, i32_w]
   rfl
 refine pure_ (i := 4) (N := some 63) (v := ?_) (a' := ?_) #[true, true, true, true, true] rfl rfl (by kernel_rfl) (fun _ _ _ h => h) (Or.inl ⟨by rfl, ?_⟩) ?_ ?_
 rotate_left
 · intro w'
   first | (go_simp; with_reducible rfl) | (go_simp; unfold Instr.field; go_simp; rfl)
 rotate_left
 · simp only [Act.put, List.setIfInBounds_toArray, List.set_cons_zero, List.set_cons_succ, i64_w, i32_w]
   rfl
 refine done_ (by kernel_rfl) ?_
 have hnb118 := NB238_220.out
 have hnc118 := NB220_238.out
 have hnb119 := NB238_221.out
 have hnc119 := NB221_238.out
 have hnb120 := NB238_234.out
 have hnc120 := NB234_238.out
 have hnb121 := NB238_242.out
 have hnc121 := NB242_238.out
 have hnb122 := NB238_247.out
 have hnc122 := NB247_238.out
 have hcz123_0 : w117.cell? ⟨gb238, 0, none⟩ = some (.slice Ao47 t235.length co47) := (blk_cell BK238.out 0).trans rfl
 have hfz123_0 := blk_frozen BK238.out 0
 go_upto_region 21 with (first | ((with_reducible refine gate_callee (f := 22) rfl ?_); refine goesL_ (some 66) rfl rfl Try.func22 (by kernel_rfl) rfl #[.agg #[.slice Ao47 t235.length co47], .int .i64 1] rfl (by (try simp only [List.map_toArray, List.map_cons, List.map_nil]); first | done | rfl | (simp only [List.length_drop, List.length_take]; rfl)) ?_; (with_reducible refine (laws_markBig.calls kj24 (fun k_ => some k_ = (.slice Ao47 t235.length co47 : Value).ownBlock) (.slice Ao47 t235.length co47) t235 1 t257 t258 w _ ?side1 ?side2 A107.out).mono ?_); (case side1 => repeat (first | (with_reducible first | exact HB.out | apply below_alloc | apply pw_below_drewN | apply below_drew1 | refine below_set ?_ GE220.out | refine below_set ?_ GE221.out | refine below_set ?_ GE234.out | refine below_set ?_ GE238.out | refine below_set ?_ GE242.out | refine below_set ?_ GE247.out) | exact HB.out)); (case side2 => exact Kd.R_tight rfl HO_239000.out); rintro e w124 ⟨rfl, hy0, hb, hkp⟩; refine ⟨_, rfl, ?_⟩; have n0_ := Aside0.mk (Kd.R_mono (ok' := fun k_ => some k_ ≠ (.slice Ao47 t235.length co47 : Value).ownBlock ∧ some k_ ≠ (.slice Ao56 t239.length co56 : Value).ownBlock ∧ some k_ ≠ (.slice Ao67 t243.length co67 : Value).ownBlock ∧ some k_ ≠ (.slice Ao112 t249.length co112 : Value).ownBlock ∧ some k_ ≠ (.slice Ao116 t253.length co116 : Value).ownBlock) (Kd.R_keptB (HO_235000.out) hkp (fun k_ hk_ hs_ => (hk_.1.1.1) hs_)) (fun k_ hk_ => ⟨hk_.1.1.1.1, hk_.1.1.1.2.1, hk_.1.1.1.2.2, hk_.1.1.2, hk_.1.2⟩)); have n1_ := Aside0.mk (Kd.R_reok rfl hy0 (fun k_ e_ => HO_239000.out.1 k_ e_)); have n2_ := Aside0.mk (Kd.R_mono (ok' := fun k_ => some k_ ≠ (.slice Ao41 t230.length co41 : Value).ownBlock ∧ some k_ ≠ (.slice Ao47 t235.length co47 : Value).ownBlock ∧ some k_ ≠ (.slice Ao67 t243.length co67 : Value).ownBlock ∧ some k_ ≠ (.slice Ao112 t249.length co112 : Value).ownBlock ∧ some k_ ≠ (.slice Ao116 t253.length co116 : Value).ownBlock) (Kd.R_keptB (HO_243000.out) hkp (fun k_ hk_ hs_ => (hk_.1.1.2.1) hs_)) (fun k_ hk_ => ⟨hk_.1.1.1.1, hk_.1.1.1.2.1, hk_.1.1.1.2.2, hk_.1.1.2, hk_.1.2⟩)); have n3_ := Aside0.mk (Kd.R_mono (ok' := fun k_ => some k_ ≠ (.slice Ao41 t230.length co41 : Value).ownBlock ∧ some k_ ≠ (.slice Ao47 t235.length co47 : Value).ownBlock ∧ some k_ ≠ (.slice Ao56 t239.length co56 : Value).ownBlock ∧ some k_ ≠ (.slice Ao112 t249.length co112 : Value).ownBlock ∧ some k_ ≠ (.slice Ao116 t253.length co116 : Value).ownBlock) (Kd.R_keptB (HO_248000.out) hkp (fun k_ hk_ hs_ => (hk_.1.1.2.1) hs_)) (fun k_ hk_ => ⟨hk_.1.1.1.1, hk_.1.1.1.2.1, hk_.1.1.1.2.2, hk_.1.1.2, hk_.1.2⟩)); have n4_ := Aside0.mk (blk_kept (bq BK220) hkp (fun hs_ => (fun e_ => (Kd.R_ne HO_239000.out BK220.out (by decide)) e_) hs_)); have n5_ := Aside0.mk (blk_kept (bq BK221) hkp (fun hs_ => (fun e_ => (Kd.R_ne HO_239000.out BK221.out (by decide)) e_) hs_)); have n6_ := Aside0.mk (blk_kept (bq BK234) hkp (fun hs_ => (fun e_ => (Kd.R_ne HO_239000.out BK234.out (by decide)) e_) hs_)); have n7_ := Aside0.mk (blk_kept (bq BK238) hkp (fun hs_ => (fun e_ => (Kd.R_ne HO_239000.out BK238.out (by decide)) e_) hs_)); have n8_ := Aside0.mk (blk_kept (bq BK242) hkp (fun hs_ => (fun e_ => (Kd.R_ne HO_239000.out BK242.out (by decide)) e_) hs_)); have n9_ := Aside0.mk (blk_kept (bq BK247) hkp (fun hs_ => (fun e_ => (Kd.R_ne HO_239000.out BK247.out (by decide)) e_) hs_)); have n10_ := Aside0.mk (Kd.R_mono (ok' := fun k_ => some k_ ≠ (.slice Ao41 t230.length co41 : Value).ownBlock ∧ some k_ ≠ (.slice Ao47 t235.length co47 : Value).ownBlock ∧ some k_ ≠ (.slice Ao56 t239.length co56 : Value).ownBlock ∧ some k_ ≠ (.slice Ao67 t243.length co67 : Value).ownBlock ∧ some k_ ≠ (.slice Ao116 t253.length co116 : Value).ownBlock) (Kd.R_keptB (HO251.out) hkp (fun k_ hk_ hs_ => (hk_.1.1.1.2) hs_)) (fun k_ hk_ => ⟨hk_.1.1.1.1.1.2, hk_.1.1.1.1.2, hk_.1.1.1.2, hk_.1.1.2, hk_.1.2⟩)); have n11_ := Aside0.mk (Kd.R_mono (ok' := fun k_ => some k_ ≠ (.slice Ao41 t230.length co41 : Value).ownBlock ∧ some k_ ≠ (.slice Ao47 t235.length co47 : Value).ownBlock ∧ some k_ ≠ (.slice Ao56 t239.length co56 : Value).ownBlock ∧ some k_ ≠ (.slice Ao67 t243.length co67 : Value).ownBlock ∧ some k_ ≠ (.slice Ao112 t249.length co112 : Value).ownBlock) (Kd.R_keptB (HO255.out) hkp (fun k_ hk_ hs_ => (hk_.1.1.1.2) hs_)) (fun k_ hk_ => ⟨hk_.1.1.1.1.1.2, hk_.1.1.1.1.2, hk_.1.1.1.2, hk_.1.1.2, hk_.1.2⟩)); have n12_ := Aside0.mk (hb); clear HO_235000; clear HO_239000; clear HO_243000; clear HO_248000; clear BK220; clear BK221; clear BK234; clear BK238; clear BK242; clear BK247; clear HO251; clear HO255; clear HB; have HO_235000 := n0_; have HO_239000 := n1_; have HO_243000 := n2_; have HO_248000 := n3_; have BK220 := n4_; have BK221 := n5_; have BK234 := n6_; have BK238 := n7_; have BK242 := n8_; have BK247 := n9_; have HO251 := n10_; have HO255 := n11_; have HB := n12_; clear n0_ n1_ n2_ n3_ n4_ n5_ n6_ n7_ n8_ n9_ n10_ n11_ n12_; (try clear hb); (try clear hkp); (try clear hy0); have hnb125 := NB242_220.out; have hnc125 := NB220_242.out; have hnb126 := NB242_221.out; have hnc126 := NB221_242.out; have hnb127 := NB242_234.out; have hnc127 := NB234_242.out; have hnb128 := NB242_247.out; have hnc128 := NB247_242.out; have hcz129_0 : w124.cell? ⟨gb242, 0, none⟩ = some (.slice Ao56 t239.length co56) := (blk_cell BK242.out 0).trans rfl; have hfz129_0 := blk_frozen BK242.out 0) | ((with_reducible refine gate_callee (f := 22) rfl ?_); refine goesL_ (some 69) rfl rfl Try.func22 (by kernel_rfl) rfl #[.agg #[.slice Ao56 t239.length co56], .int .i64 t257] rfl (by (try simp only [List.map_toArray, List.map_cons, List.map_nil]); first | done | rfl | (simp only [List.length_drop, List.length_take]; rfl)) ?_; (with_reducible refine (laws_markBig.calls kj24 (fun k_ => some k_ = (.slice Ao56 t239.length co56 : Value).ownBlock) (.slice Ao56 t239.length co56) t239 t257 t259 t260 w _ ?side1 ?side2 A108.out).mono ?_); (case side1 => repeat (first | (with_reducible first | exact HB.out | apply below_alloc | apply pw_below_drewN | apply below_drew1 | refine below_set ?_ GE220.out | refine below_set ?_ GE221.out | refine below_set ?_ GE234.out | refine below_set ?_ GE238.out | refine below_set ?_ GE242.out | refine below_set ?_ GE247.out) | exact HB.out)); (case side2 => exact Kd.R_tight rfl HO_243000.out); rintro e w130 ⟨rfl, hy0, hb, hkp⟩; refine ⟨_, rfl, ?_⟩; have n0_ := Aside0.mk (Kd.R_mono (ok' := fun k_ => some k_ ≠ (.slice Ao47 t235.length co47 : Value).ownBlock ∧ some k_ ≠ (.slice Ao56 t239.length co56 : Value).ownBlock ∧ some k_ ≠ (.slice Ao67 t243.length co67 : Value).ownBlock ∧ some k_ ≠ (.slice Ao112 t249.length co112 : Value).ownBlock ∧ some k_ ≠ (.slice Ao116 t253.length co116 : Value).ownBlock) (Kd.R_keptB (HO_235000.out) hkp (fun k_ hk_ hs_ => (hk_.2.1) hs_)) (fun k_ hk_ => ⟨hk_.1.1, hk_.1.2.1, hk_.1.2.2.1, hk_.1.2.2.2.1, hk_.1.2.2.2.2⟩)); have n1_ := Aside0.mk (Kd.R_mono (ok' := fun k_ => some k_ ≠ (.slice Ao41 t230.length co41 : Value).ownBlock ∧ some k_ ≠ (.slice Ao56 t239.length co56 : Value).ownBlock ∧ some k_ ≠ (.slice Ao67 t243.length co67 : Value).ownBlock ∧ some k_ ≠ (.slice Ao112 t249.length co112 : Value).ownBlock ∧ some k_ ≠ (.slice Ao116 t253.length co116 : Value).ownBlock) (Kd.R_keptB (HO_239000.out) hkp (fun k_ hk_ hs_ => (hk_.1.1.2.1) hs_)) (fun k_ hk_ => ⟨hk_.1.1.1.1, hk_.1.1.1.2.1, hk_.1.1.1.2.2, hk_.1.1.2, hk_.1.2⟩)); have n2_ := Aside0.mk (Kd.R_reok rfl hy0 (fun k_ e_ => HO_243000.out.1 k_ e_)); have n3_ := Aside0.mk (Kd.R_mono (ok' := fun k_ => some k_ ≠ (.slice Ao41 t230.length co41 : Value).ownBlock ∧ some k_ ≠ (.slice Ao47 t235.length co47 : Value).ownBlock ∧ some k_ ≠ (.slice Ao56 t239.length co56 : Value).ownBlock ∧ some k_ ≠ (.slice Ao112 t249.length co112 : Value).ownBlock ∧ some k_ ≠ (.slice Ao116 t253.length co116 : Value).ownBlock) (Kd.R_keptB (HO_248000.out) hkp (fun k_ hk_ hs_ => (hk_.2.2.1) hs_)) (fun k_ hk_ => ⟨hk_.1.1, hk_.1.2.1, hk_.1.2.2.1, hk_.1.2.2.2.1, hk_.1.2.2.2.2⟩)); have n4_ := Aside0.mk (blk_kept (bq BK220) hkp (fun hs_ => (fun e_ => (Kd.R_ne HO_243000.out BK220.out (by decide)) e_) hs_)); have n5_ := Aside0.mk (blk_kept (bq BK221) hkp (fun hs_ => (fun e_ => (Kd.R_ne HO_243000.out BK221.out (by decide)) e_) hs_)); have n6_ := Aside0.mk (blk_kept (bq BK234) hkp (fun hs_ => (fun e_ => (Kd.R_ne HO_243000.out BK234.out (by decide)) e_) hs_)); have n7_ := Aside0.mk (blk_kept (bq BK238) hkp (fun hs_ => (fun e_ => (Kd.R_ne HO_243000.out BK238.out (by decide)) e_) hs_)); have n8_ := Aside0.mk (blk_kept (bq BK242) hkp (fun hs_ => (fun e_ => (Kd.R_ne HO_243000.out BK242.out (by decide)) e_) hs_)); have n9_ := Aside0.mk (blk_kept (bq BK247) hkp (fun hs_ => (fun e_ => (Kd.R_ne HO_243000.out BK247.out (by decide)) e_) hs_)); have n10_ := Aside0.mk (Kd.R_mono (ok' := fun k_ => some k_ ≠ (.slice Ao41 t230.length co41 : Value).ownBlock ∧ some k_ ≠ (.slice Ao47 t235.length co47 : Value).ownBlock ∧ some k_ ≠ (.slice Ao56 t239.length co56 : Value).ownBlock ∧ some k_ ≠ (.slice Ao67 t243.length co67 : Value).ownBlock ∧ some k_ ≠ (.slice Ao116 t253.length co116 : Value).ownBlock) (Kd.R_keptB (HO251.out) hkp (fun k_ hk_ hs_ => (hk_.2.2.1) hs_)) (fun k_ hk_ => ⟨hk_.1.1, hk_.1.2.1, hk_.1.2.2.1, hk_.1.2.2.2.1, hk_.1.2.2.2.2⟩)); have n11_ := Aside0.mk (Kd.R_mono (ok' := fun k_ => some k_ ≠ (.slice Ao41 t230.length co41 : Value).ownBlock ∧ some k_ ≠ (.slice Ao47 t235.length co47 : Value).ownBlock ∧ some k_ ≠ (.slice Ao56 t239.length co56 : Value).ownBlock ∧ some k_ ≠ (.slice Ao67 t243.length co67 : Value).ownBlock ∧ some k_ ≠ (.slice Ao112 t249.length co112 : Value).ownBlock) (Kd.R_keptB (HO255.out) hkp (fun k_ hk_ hs_ => (hk_.2.2.1) hs_)) (fun k_ hk_ => ⟨hk_.1.1, hk_.1.2.1, hk_.1.2.2.1, hk_.1.2.2.2.1, hk_.1.2.2.2.2⟩)); have n12_ := Aside0.mk (hb); clear HO_235000; clear HO_239000; clear HO_243000; clear HO_248000; clear BK220; clear BK221; clear BK234; clear BK238; clear BK242; clear BK247; clear HO251; clear HO255; clear HB; have HO_235000 := n0_; have HO_239000 := n1_; have HO_243000 := n2_; have HO_248000 := n3_; have BK220 := n4_; have BK221 := n5_; have BK234 := n6_; have BK238 := n7_; have BK242 := n8_; have BK247 := n9_; have HO251 := n10_; have HO255 := n11_; have HB := n12_; clear n0_ n1_ n2_ n3_ n4_ n5_ n6_ n7_ n8_ n9_ n10_ n11_ n12_; (try clear hb); (try clear hkp); (try clear hy0)))
 (try simp only [Act.put, List.setIfInBounds_toArray, List.set_cons_zero, List.set_cons_succ])
 go_cut [82] (fun v82 wc => ∃ (kq : Nat) (x82_108 : Bool), v82 = .bool x82_108 ∧ Aside0 (laws_FnExactHalvesTimes.j1 kq t233 x82_108 l0_0 l1_0 t230 t243 = some true) ∧ Aside0 (kq ≤ kj24) ∧ Aside0 (Kd.R (Kd.int .i64) 3 wc w.heap.size (fun k_ => some k_ ≠ ((.slice Ao47 t235.length co47) : Value).ownBlock ∧ some k_ ≠ ((.slice Ao56 t239.length co56) : Value).ownBlock ∧ some k_ ≠ ((.slice Ao67 t243.length co67) : Value).ownBlock) (.slice Ao41 t230.length co41) t230) ∧ Aside0 (Kd.R (Kd.int .i64) 3 wc w.heap.size (fun k_ => some k_ ≠ ((.slice Ao41 t230.length co41) : Value).ownBlock ∧ some k_ ≠ ((.slice Ao56 t239.length co56) : Value).ownBlock ∧ some k_ ≠ ((.slice Ao67 t243.length co67) : Value).ownBlock) (.slice Ao47 t235.length co47) t258) ∧ Aside0 (Kd.R (Kd.int .i64) 3 wc w.heap.size (fun k_ => some k_ ≠ ((.slice Ao41 t230.length co41) : Value).ownBlock ∧ some k_ ≠ ((.slice Ao47 t235.length co47) : Value).ownBlock ∧ some k_ ≠ ((.slice Ao67 t243.length co67) : Value).ownBlock) (.slice Ao56 t239.length co56) t260) ∧ Aside0 (Kd.R (Kd.int .i64) 3 wc w.heap.size (fun k_ => some k_ ≠ ((.slice Ao41 t230.length co41) : Value).ownBlock ∧ some k_ ≠ ((.slice Ao47 t235.length co47) : Value).ownBlock ∧ some k_ ≠ ((.slice Ao56 t239.length co56) : Value).ownBlock) (.slice Ao67 t243.length co67) t243) ∧ Aside0 (wc.heap[gb220]? = some (.cells #[(.slice A0_0 l0_0.length c0_0)] 24 (0, 0))) ∧ Aside0 (wc.heap[gb221]? = some (.cells #[(.slice A1_0 l1_0.length c1_0)] 24 (0, 0))) ∧ Aside0 (wc.heap[gb234]? = some (.cells #[(.slice Ao41 t230.length co41)] 27 (0, 0))) ∧ Aside0 (wc.heap[gb238]? = some (.cells #[(.slice Ao47 t235.length co47)] 27 (0, 0))) ∧ Aside0 (wc.heap[gb242]? = some (.cells #[(.slice Ao56 t239.length co56)] 27 (0, 0))) ∧ Aside0 (wc.heap[gb247]? = some (.cells #[(.slice Ao67 t243.length co67)] 27 (0, 0))) ∧ Aside0 (Below w.heap.size w wc))
 case first =>
   have H := HC109.out
   clear HC109
   by_cases c131 : t259 < 0
   · rw [if_pos c131] at H
     have c131b0 : decide (t259 < 0) = true := decide_eq_true c131
     clear c131
     (first | rw [c131b0] | (simp only [i64_w, i32_w]; rw [c131b0]) | skip)
     have H' := Aside0.mk H
     clear H
     go_wp2
     go_meet
     case rel => exact ⟨_, (true), (by first | rfl | (simp; done) | (simp [*]; done)), H', ⟨by have := HJ24.out; first | omega | exact Nat.le_refl _⟩, ⟨by (with_reducible repeat (first | apply Kd.R_alloc | apply Kd.R_drewN | apply Kd.R_drew)); exact Kd.R_mono HO_235000.out (fun _ hk => ⟨hk.1, ⟨hk.2.1, hk.2.2.1⟩⟩)⟩, ⟨by (with_reducible repeat (first | apply Kd.R_alloc | apply Kd.R_drewN | apply Kd.R_drew)); exact Kd.R_mono HO_239000.out (fun _ hk => ⟨hk.1, ⟨hk.2.1, hk.2.2.1⟩⟩)⟩, ⟨by (with_reducible repeat (first | apply Kd.R_alloc | apply Kd.R_drewN | apply Kd.R_drew)); exact Kd.R_mono HO_243000.out (fun _ hk => ⟨hk.1, ⟨hk.2.1, hk.2.2.1⟩⟩)⟩, ⟨by (with_reducible repeat (first | apply Kd.R_alloc | apply Kd.R_drewN | apply Kd.R_drew)); exact Kd.R_mono HO_248000.out (fun _ hk => ⟨hk.1, ⟨hk.2.1, hk.2.2.1⟩⟩)⟩, ⟨by (with_reducible repeat (first | refine blk_drewN ?_ _ | refine blk_drew ?_ | refine blk_alloc ?_ _)); exact BK220.out⟩, ⟨by (with_reducible repeat (first | refine blk_drewN ?_ _ | refine blk_drew ?_ | refine blk_alloc ?_ _)); exact BK221.out⟩, ⟨by (with_reducible repeat (first | refine blk_drewN ?_ _ | refine blk_drew ?_ | refine blk_alloc ?_ _)); exact BK234.out⟩, ⟨by (with_reducible repeat (first | refine blk_drewN ?_ _ | refine blk_drew ?_ | refine blk_alloc ?_ _)); exact BK238.out⟩, ⟨by (with_reducible repeat (first | refine blk_drewN ?_ _ | refine blk_drew ?_ | refine blk_alloc ?_ _)); exact BK242.out⟩, ⟨by (with_reducible repeat (first | refine blk_drewN ?_ _ | refine blk_drew ?_ | refine blk_alloc ?_ _)); exact BK247.out⟩, ⟨hq6 HB GE220 GE221 GE234 GE238 GE242 GE247⟩⟩
   rw [if_neg c131] at H
   have c131b0 : decide (t259 < 0) = false := decide_eq_false c131
   clear c131
   (first | rw [c131b0] | (simp only [i64_w, i32_w]; rw [c131b0]) | skip)
   replace H := Option.bind_eq_some_iff.mp H
   obtain ⟨t261, A1320, H⟩ := H
   replace H : (if t261 = true then (laws_FnExactHalvesTimes.j1 kj24 t233 (t246 != t233) l0_0 l1_0 t230 t243) else (laws_FnExactHalvesTimes.j1 kj24 t233 true l0_0 l1_0 t230 t243)) = some true := H
   have A132 := Aside0.mk A1320
   clear A1320
   by_cases c133 : t261 = true
   · subst c133
     have H1 : (laws_FnExactHalvesTimes.j1 kj24 t233 (t246 != t233) l0_0 l1_0 t230 t243) = some true := by rw [if_pos rfl] at H; exact H
     clear H
     have H := H1
     clear H1
     have H' := Aside0.mk H
     clear H
     have hnb134 := NB247_220.out
     have hnc134 := NB220_247.out
     have hnb135 := NB247_221.out
     have hnc135 := NB221_247.out
     have hnb136 := NB247_234.out
     have hnc136 := NB234_247.out
     have hnb137 := NB247_238.out
     have hnc137 := NB238_247.out
     have hnb138 := NB247_242.out
     have hnc138 := NB242_247.out
     have hcz139_0 : w130.cell? ⟨gb247, 0, none⟩ = some (.slice Ao67 t243.length co67) := (blk_cell BK247.out 0).trans rfl
     have hfz139_0 := blk_frozen BK247.out 0
     have hnb140 := NB234_220.out
     have hnc140 := NB220_234.out
     have hnb141 := NB234_221.out
     have hnc141 := NB221_234.out
     have hnb142 := NB234_238.out
     have hnc142 := NB238_234.out
     have hnb143 := NB234_242.out
     have hnc143 := NB242_234.out
     have hcz144_0 : w130.cell? ⟨gb234, 0, none⟩ = some (.slice Ao41 t230.length co41) := (blk_cell BK234.out 0).trans rfl
     have hfz144_0 := blk_frozen BK234.out 0
     go_wp2_with (first | (go_at_call 19; (with_reducible refine (laws_eqBig.calls kj24 _ _ t243 _ _ t230 true _ ?side1 ?side2 ?side3 ?side4 A132.out).mono ?_); (case side1 => repeat (first | exact (Kd.R_reads' HO_248000.out).2.2 | (with_reducible refine Kd.C_alloc ?_ _) | (with_reducible refine Kd.C_drewN ?_ _) | (with_reducible refine Kd.C_drew ?_))); (case side2 => exact (Kd.R_reads' HO_248000.out).2.1); (case side3 => repeat (first | exact (Kd.R_reads' HO_235000.out).2.2 | (with_reducible refine Kd.C_alloc ?_ _) | (with_reducible refine Kd.C_drewN ?_ _) | (with_reducible refine Kd.C_drew ?_))); (case side4 => exact (Kd.R_reads' HO_235000.out).2.1); rintro e w145 ⟨rfl, hb⟩; have n0_ := Aside0.mk (qb HO_235000 hb); have n1_ := Aside0.mk (qb HO_239000 hb); have n2_ := Aside0.mk (qb HO_243000 hb); have n3_ := Aside0.mk (qb HO_248000 hb); have n4_ := Aside0.mk (qb HO251 hb); have n5_ := Aside0.mk (qb HO255 hb); have n6_ := Aside0.mk (bB BK220 hb); have n7_ := Aside0.mk (bB BK221 hb); have n8_ := Aside0.mk (bB BK234 hb); have n9_ := Aside0.mk (bB BK238 hb); have n10_ := Aside0.mk (bB BK242 hb); have n11_ := Aside0.mk (bB BK247 hb); have n12_ := Aside0.mk (below_step (hq6 HB GE220 GE221 GE234 GE238 GE242 GE247) hb); clear HO_235000; clear HO_239000; clear HO_243000; clear HO_248000; clear HO251; clear HO255; clear BK220; clear BK221; clear BK234; clear BK238; clear BK242; clear BK247; clear HB; have HO_235000 := n0_; have HO_239000 := n1_; have HO_243000 := n2_; have HO_248000 := n3_; have HO251 := n4_; have HO255 := n5_; have BK220 := n6_; have BK221 := n7_; have BK234 := n8_; have BK238 := n9_; have BK242 := n10_; have BK247 := n11_; have HB := n12_; clear n0_ n1_ n2_ n3_ n4_ n5_ n6_ n7_ n8_ n9_ n10_ n11_ n12_; (try clear hb); (try clear hb2); (try clear hk); (try clear hi)))
     go_meet
     case rel => exact ⟨_, ((t246 != t233)), (by first | rfl | (simp; done) | (simp [*]; done)), H', ⟨by have := HJ24.out; first | omega | exact Nat.le_refl _⟩, ⟨by (with_reducible repeat (first | apply Kd.R_alloc | apply Kd.R_drewN | apply Kd.R_drew)); exact Kd.R_mono HO_235000.out (fun _ hk => ⟨hk.1, ⟨hk.2.1, hk.2.2.1⟩⟩)⟩, ⟨by (with_reducible repeat (first | apply Kd.R_alloc | apply Kd.R_drewN | apply Kd.R_drew)); exact Kd.R_mono HO_239000.out (fun _ hk => ⟨hk.1, ⟨hk.2.1, hk.2.2.1⟩⟩)⟩, ⟨by (with_reducible repeat (first | apply Kd.R_alloc | apply Kd.R_drewN | apply Kd.R_drew)); exact Kd.R_mono HO_243000.out (fun _ hk => ⟨hk.1, ⟨hk.2.1, hk.2.2.1⟩⟩)⟩, ⟨by (with_reducible repeat (first | apply Kd.R_alloc | apply Kd.R_drewN | apply Kd.R_drew)); exact Kd.R_mono HO_248000.out (fun _ hk => ⟨hk.1, ⟨hk.2.1, hk.2.2.1⟩⟩)⟩, ⟨by (with_reducible repeat (first | refine blk_drewN ?_ _ | refine blk_drew ?_ | refine blk_alloc ?_ _)); exact BK220.out⟩, ⟨by (with_reducible repeat (first | refine blk_drewN ?_ _ | refine blk_drew ?_ | refine blk_alloc ?_ _)); exact BK221.out⟩, ⟨by (with_reducible repeat (first | refine blk_drewN ?_ _ | refine blk_drew ?_ | refine blk_alloc ?_ _)); exact BK234.out⟩, ⟨by (with_reducible repeat (first | refine blk_drewN ?_ _ | refine blk_drew ?_ | refine blk_alloc ?_ _)); exact BK238.out⟩, ⟨by (with_reducible repeat (first | refine blk_drewN ?_ _ | refine blk_drew ?_ | refine blk_alloc ?_ _)); exact BK242.out⟩, ⟨by (with_reducible repeat (first | refine blk_drewN ?_ _ | refine blk_drew ?_ | refine blk_alloc ?_ _)); exact BK247.out⟩, ⟨hq6 HB GE220 GE221 GE234 GE238 GE242 GE247⟩⟩
   replace c133 := Bool.eq_false_iff.mpr c133
   subst c133
   have H1 : (laws_FnExactHalvesTimes.j1 kj24 t233 true l0_0 l1_0 t230 t243) = some true := by rw [if_neg (show ¬ (false = true) by decide)] at H; exact H
   clear H
   have H := H1
   clear H1
   have H' := Aside0.mk H
   clear H
   have hnb146 := NB247_220.out
   have hnc146 := NB220_247.out
   have hnb147 := NB247_221.out
   have hnc147 := NB221_247.out
   have hnb148 := NB247_234.out
   have hnc148 := NB234_247.out
   have hnb149 := NB247_238.out
   have hnc149 := NB238_247.out
   have hnb150 := NB247_242.out
   have hnc150 := NB242_247.out
   have hcz151_0 : w130.cell? ⟨gb247, 0, none⟩ = some (.slice Ao67 t243.length co67) := (blk_cell BK247.out 0).trans rfl
   have hfz151_0 := blk_frozen BK247.out 0
   have hnb152 := NB234_220.out
   have hnc152 := NB220_234.out
   have hnb153 := NB234_221.out
   have hnc153 := NB221_234.out
   have hnb154 := NB234_238.out
   have hnc154 := NB238_234.out
   have hnb155 := NB234_242.out
   have hnc155 := NB242_234.out
   have hcz156_0 : w130.cell? ⟨gb234, 0, none⟩ = some (.slice Ao41 t230.length co41) := (blk_cell BK234.out 0).trans rfl
   have hfz156_0 := blk_frozen BK234.out 0
   go_wp2_with (first | (go_at_call 19; (with_reducible refine (laws_eqBig.calls kj24 _ _ t243 _ _ t230 false _ ?side1 ?side2 ?side3 ?side4 A132.out).mono ?_); (case side1 => repeat (first | exact (Kd.R_reads' HO_248000.out).2.2 | (with_reducible refine Kd.C_alloc ?_ _) | (with_reducible refine Kd.C_drewN ?_ _) | (with_reducible refine Kd.C_drew ?_))); (case side2 => exact (Kd.R_reads' HO_248000.out).2.1); (case side3 => repeat (first | exact (Kd.R_reads' HO_235000.out).2.2 | (with_reducible refine Kd.C_alloc ?_ _) | (with_reducible refine Kd.C_drewN ?_ _) | (with_reducible refine Kd.C_drew ?_))); (case side4 => exact (Kd.R_reads' HO_235000.out).2.1); rintro e w157 ⟨rfl, hb⟩; have n0_ := Aside0.mk (qb HO_235000 hb); have n1_ := Aside0.mk (qb HO_239000 hb); have n2_ := Aside0.mk (qb HO_243000 hb); have n3_ := Aside0.mk (qb HO_248000 hb); have n4_ := Aside0.mk (qb HO251 hb); have n5_ := Aside0.mk (qb HO255 hb); have n6_ := Aside0.mk (bB BK220 hb); have n7_ := Aside0.mk (bB BK221 hb); have n8_ := Aside0.mk (bB BK234 hb); have n9_ := Aside0.mk (bB BK238 hb); have n10_ := Aside0.mk (bB BK242 hb); have n11_ := Aside0.mk (bB BK247 hb); have n12_ := Aside0.mk (below_step (hq6 HB GE220 GE221 GE234 GE238 GE242 GE247) hb); clear HO_235000; clear HO_239000; clear HO_243000; clear HO_248000; clear HO251; clear HO255; clear BK220; clear BK221; clear BK234; clear BK238; clear BK242; clear BK247; clear HB; have HO_235000 := n0_; have HO_239000 := n1_; have HO_243000 := n2_; have HO_248000 := n3_; have HO251 := n4_; have HO255 := n5_; have BK220 := n6_; have BK221 := n7_; have BK234 := n8_; have BK238 := n9_; have BK242 := n10_; have BK247 := n11_; have HB := n12_; clear n0_ n1_ n2_ n3_ n4_ n5_ n6_ n7_ n8_ n9_ n10_ n11_ n12_; (try clear hb); (try clear hb2); (try clear hk); (try clear hi)))
   go_meet
   case rel => exact ⟨_, (true), (by first | rfl | (simp; done) | (simp [*]; done)), H', ⟨by have := HJ24.out; first | omega | exact Nat.le_refl _⟩, ⟨by (with_reducible repeat (first | apply Kd.R_alloc | apply Kd.R_drewN | apply Kd.R_drew)); exact Kd.R_mono HO_235000.out (fun _ hk => ⟨hk.1, ⟨hk.2.1, hk.2.2.1⟩⟩)⟩, ⟨by (with_reducible repeat (first | apply Kd.R_alloc | apply Kd.R_drewN | apply Kd.R_drew)); exact Kd.R_mono HO_239000.out (fun _ hk => ⟨hk.1, ⟨hk.2.1, hk.2.2.1⟩⟩)⟩, ⟨by (with_reducible repeat (first | apply Kd.R_alloc | apply Kd.R_drewN | apply Kd.R_drew)); exact Kd.R_mono HO_243000.out (fun _ hk => ⟨hk.1, ⟨hk.2.1, hk.2.2.1⟩⟩)⟩, ⟨by (with_reducible repeat (first | apply Kd.R_alloc | apply Kd.R_drewN | apply Kd.R_drew)); exact Kd.R_mono HO_248000.out (fun _ hk => ⟨hk.1, ⟨hk.2.1, hk.2.2.1⟩⟩)⟩, ⟨by (with_reducible repeat (first | refine blk_drewN ?_ _ | refine blk_drew ?_ | refine blk_alloc ?_ _)); exact BK220.out⟩, ⟨by (with_reducible repeat (first | refine blk_drewN ?_ _ | refine blk_drew ?_ | refine blk_alloc ?_ _)); exact BK221.out⟩, ⟨by (with_reducible repeat (first | refine blk_drewN ?_ _ | refine blk_drew ?_ | refine blk_alloc ?_ _)); exact BK234.out⟩, ⟨by (with_reducible repeat (first | refine blk_drewN ?_ _ | refine blk_drew ?_ | refine blk_alloc ?_ _)); exact BK238.out⟩, ⟨by (with_reducible repeat (first | refine blk_drewN ?_ _ | refine blk_drew ?_ | refine blk_alloc ?_ _)); exact BK242.out⟩, ⟨by (with_reducible repeat (first | refine blk_drewN ?_ _ | refine blk_drew ?_ | refine blk_alloc ?_ _)); exact BK247.out⟩, ⟨hq6 HB GE220 GE221 GE234 GE238 GE242 GE247⟩⟩
 clear HC109
 try clear c1
 try clear c2
 try clear p2
 try clear c4
 try clear c5
 try clear c6
 try clear c7
 try clear c8
 try clear c9
 try clear c10
 try clear c11
 try clear c12
 try clear c13
 try clear c14
 try clear c15
 try clear c17
 try clear c19
 try clear c22
 try clear c40
 try clear c41
 try clear c43
 try clear c48
 try clear c49
 try clear c50
 try clear c52
 try clear c57
 try clear c58
 try clear c59
 try clear c60
 try clear c68
 try clear c69
 try clear c70
 try clear c71
 try clear c72
 try clear c75
 try clear c76
 try clear c77
 try clear c78
 try clear c79
 try clear c80
 try clear c82
 try clear c83
 try clear c84
 try clear c85
 try clear c88
 try clear c89
 try clear c90
 try clear c91
 try clear c92
 try clear c94
 try clear c95
 try clear c96
 try clear c97
 try clear c100
 try clear c103
 try clear c106
 try clear c118
 try clear c119
 try clear c120
 try clear c121
 try clear c122
 try clear c125
 try clear c126
 try clear c127
 try clear c128
 try clear c131
 try clear c131b0
 try clear c133
 try clear c134
 try clear c135
 try clear c136
 try clear c137
 try clear c138
 try clear c140
 try clear c141
 try clear c142
 try clear c143
 try clear c146
 try clear c147
 try clear c148
 try clear c149
 try clear c150
 try clear c152
 try clear c153
 try clear c154
 try clear c155
 try clear hcz123_0
 try clear hcz129_0
 try clear hcz139_0
 try clear hcz144_0
 try clear hcz151_0
 try clear hcz156_0
 try clear hcz44_0
 try clear hcz51_0
 try clear hcz53_0
 try clear hcz61_0
 try clear hcz63_0
 try clear hcz64_0
 try clear hcz73_0
 try clear hcz81_0
 try clear hcz86_0
 try clear hcz93_0
 try clear hcz98_0
 try clear hfz123_0
 try clear hfz129_0
 try clear hfz139_0
 try clear hfz144_0
 try clear hfz151_0
 try clear hfz156_0
 try clear hfz44_0
 try clear hfz51_0
 try clear hfz53_0
 try clear hfz61_0
 try clear hfz63_0
 try clear hfz64_0
 try clear hfz73_0
 try clear hfz81_0
 try clear hfz86_0
 try clear hfz93_0
 try clear hfz98_0
 try clear p2
 obtain ⟨kq, x82_108, rfl, HA, HJ108, HO_235000, HO_239000, HO_243000, HO_248000, BK220, BK221, BK234, BK238, BK242, BK247, HB⟩ := hcut
 have hl239000_108 := (Kd.R_reads' HO_239000.out).1
 rw [hl239000_108] at HO_239000
 (try simp only [hl239000_108])
 (try simp only [hl239000_108] at BK220)
 (try simp only [hl239000_108] at BK221)
 (try simp only [hl239000_108] at BK234)
 (try simp only [hl239000_108] at BK238)
 (try simp only [hl239000_108] at BK242)
 (try simp only [hl239000_108] at BK247)
 (try simp only [hl239000_108] at HO_235000)
 (try simp only [hl239000_108] at HO_243000)
 (try simp only [hl239000_108] at HO_248000)
 have hl243000_108 := (Kd.R_reads' HO_243000.out).1
 rw [hl243000_108] at HO_243000
 (try simp only [hl243000_108])
 (try simp only [hl243000_108] at BK220)
 (try simp only [hl243000_108] at BK221)
 (try simp only [hl243000_108] at BK234)
 (try simp only [hl243000_108] at BK238)
 (try simp only [hl243000_108] at BK242)
 (try simp only [hl243000_108] at BK247)
 (try simp only [hl243000_108] at HO_235000)
 (try simp only [hl243000_108] at HO_239000)
 (try simp only [hl243000_108] at HO_248000)
 obtain _ | kj108 := kq
 · exact absurd HA.out (by simp [laws_FnExactHalvesTimes.j1])
 have H := HA.out
 clear HA
 simp only [laws_FnExactHalvesTimes.j1] at H
 by_cases c158 : x82_108 = true
 · subst c158
   have H1 : (some false) = some true := by rw [if_pos rfl] at H; exact H
   clear H
   have H := H1
   clear H1
   cases H
 replace c158 := Bool.eq_false_iff.mpr c158
 subst c158
 have H1 : ((laws_markBig.f kj108 t243 1).bind fun bt262 => ((laws_heldBig.f kj108 bt262.2 1).bind fun t264 => (if t264 < 0 then (some false) else (if t264 = bt262.1 then ((laws_toBig.f kj108 l0_0).bind fun t265 => ((laws_toBig.f kj108 l1_0).bind fun t268 => ((impl_HalvesTimes.f kj108 t265 t268).bind fun bt271 => ((laws_eqBig.f kj108 bt271.1 t230).bind fun t276 => (if t276 = true then (laws_FnExactHalvesTimes.j2 kj108 bt262.1 (bt271.2 != t233) bt262.2) else (laws_FnExactHalvesTimes.j2 kj108 bt262.1 true bt262.2)))))) else (some false))))) = some true := by rw [if_neg (show ¬ (false = true) by decide)] at H; exact H
 clear H
 have H := H1
 clear H1
 replace H := Option.bind_eq_some_iff.mp H
 obtain ⟨⟨t262, t263⟩, A1590, H⟩ := H
 replace H : ((laws_heldBig.f kj108 t263 1).bind fun t264 => (if t264 < 0 then (some false) else (if t264 = t262 then ((laws_toBig.f kj108 l0_0).bind fun t265 => ((laws_toBig.f kj108 l1_0).bind fun t268 => ((impl_HalvesTimes.f kj108 t265 t268).bind fun bt271 => ((laws_eqBig.f kj108 bt271.1 t230).bind fun t276 => (if t276 = true then (laws_FnExactHalvesTimes.j2 kj108 t262 (bt271.2 != t233) t263) else (laws_FnExactHalvesTimes.j2 kj108 t262 true t263)))))) else (some false)))) = some true := H
 have A159 := Aside0.mk A1590
 clear A1590
 replace H := Option.bind_eq_some_iff.mp H
 obtain ⟨t264, A1600, H⟩ := H
 replace H : (if t264 < 0 then (some false) else (if t264 = t262 then ((laws_toBig.f kj108 l0_0).bind fun t265 => ((laws_toBig.f kj108 l1_0).bind fun t268 => ((impl_HalvesTimes.f kj108 t265 t268).bind fun bt271 => ((laws_eqBig.f kj108 bt271.1 t230).bind fun t276 => (if t276 = true then (laws_FnExactHalvesTimes.j2 kj108 t262 (bt271.2 != t233) t263) else (laws_FnExactHalvesTimes.j2 kj108 t262 true t263)))))) else (some false))) = some true := H
 have A160 := Aside0.mk A1600
 clear A1600
 by_cases c161 : t264 < 0
 · rw [if_pos c161] at H
   have c161b0 : decide (t264 < 0) = true := decide_eq_true c161
   clear c161
   cases H
 rw [if_neg c161] at H
 have c161b0 : decide (t264 < 0) = false := decide_eq_false c161
 clear c161
 by_cases c171 : t264 = t262
 rotate_left
 · rw [if_neg c171] at H
   have c171b0 : (t264 == t262) = false := beq_eq_false_iff_ne.mpr c171
   have c171b1 : (t264 != t262) = true := bne_iff_ne.mpr c171
   cases H
 rw [if_pos c171] at H
 have c171b0 : (t264 == t262) = true := beq_iff_eq.mpr c171
 have c171b1 : (t264 != t262) = false := bne_eq_false_iff_eq.mpr c171
 clear c171
 replace H := Option.bind_eq_some_iff.mp H
 obtain ⟨t265, A1720, H⟩ := H
 replace H : ((laws_toBig.f kj108 l1_0).bind fun t268 => ((impl_HalvesTimes.f kj108 t265 t268).bind fun bt271 => ((laws_eqBig.f kj108 bt271.1 t230).bind fun t276 => (if t276 = true then (laws_FnExactHalvesTimes.j2 kj108 t262 (bt271.2 != t233) t263) else (laws_FnExactHalvesTimes.j2 kj108 t262 true t263))))) = some true := H
 have A172 := Aside0.mk A1720
 clear A1720
 replace H := Option.bind_eq_some_iff.mp H
 obtain ⟨t268, A1730, H⟩ := H
 replace H : ((impl_HalvesTimes.f kj108 t265 t268).bind fun bt271 => ((laws_eqBig.f kj108 bt271.1 t230).bind fun t276 => (if t276 = true then (laws_FnExactHalvesTimes.j2 kj108 t262 (bt271.2 != t233) t263) else (laws_FnExactHalvesTimes.j2 kj108 t262 true t263)))) = some true := H
 have A173 := Aside0.mk A1730
 clear A1730
 replace H := Option.bind_eq_some_iff.mp H
 obtain ⟨⟨t271, t274⟩, A1740, H⟩ := H
 replace H : ((laws_eqBig.f kj108 t271 t230).bind fun t276 => (if t276 = true then (laws_FnExactHalvesTimes.j2 kj108 t262 (t274 != t233) t263) else (laws_FnExactHalvesTimes.j2 kj108 t262 true t263))) = some true := H
 have A174 := Aside0.mk A1740
 clear A1740
 have HC175 := Aside0.mk H
 clear H
 have hnb176 := NB247_220.out
 have hnc176 := NB220_247.out
 have hnb177 := NB247_221.out
 have hnc177 := NB221_247.out
 have hnb178 := NB247_234.out
 have hnc178 := NB234_247.out
 have hnb179 := NB247_238.out
 have hnc179 := NB238_247.out
 have hnb180 := NB247_242.out
 have hnc180 := NB242_247.out
 have hcz181_0 : wc.cell? ⟨gb247, 0, none⟩ = some (.slice Ao67 t243.length co67) := (blk_cell BK247.out 0).trans rfl
 have hfz181_0 := blk_frozen BK247.out 0
 try go_wp2_with (first | ((with_reducible refine gate_callee (f := 22) rfl ?_); refine goesL_ (some 85) rfl rfl Try.func22 (by kernel_rfl) rfl #[.agg #[.slice Ao67 t243.length co67], .int .i64 1] rfl (by (try simp only [List.map_toArray, List.map_cons, List.map_nil]); first | done | rfl | (simp only [List.length_drop, List.length_take]; rfl)) ?_; (with_reducible refine (laws_markBig.calls kj108 (fun k_ => some k_ = (.slice Ao67 t243.length co67 : Value).ownBlock) (.slice Ao67 t243.length co67) t243 1 t262 t263 w _ ?side1 ?side2 A159.out).mono ?_); (case side1 => repeat (first | (with_reducible first | exact HB.out | apply below_alloc | apply pw_below_drewN | apply below_drew1 | refine below_set ?_ GE220.out | refine below_set ?_ GE221.out | refine below_set ?_ GE234.out | refine below_set ?_ GE238.out | refine below_set ?_ GE242.out | refine below_set ?_ GE247.out) | exact HB.out)); (case side2 => exact Kd.R_tight rfl HO_248000.out); rintro e w182 ⟨rfl, hy0, hb, hkp⟩; refine ⟨_, rfl, ?_⟩; have n0_ := Aside0.mk (Kd.R_mono (ok' := fun k_ => some k_ ≠ (.slice Ao47 t258.length co47 : Value).ownBlock ∧ some k_ ≠ (.slice Ao56 t260.length co56 : Value).ownBlock ∧ some k_ ≠ (.slice Ao67 t243.length co67 : Value).ownBlock) (Kd.R_keptB (HO_235000.out) hkp (fun k_ hk_ hs_ => (hk_.2.2) hs_)) (fun k_ hk_ => ⟨hk_.1.1, hk_.1.2.1, hk_.1.2.2⟩)); have n1_ := Aside0.mk (Kd.R_mono (ok' := fun k_ => some k_ ≠ (.slice Ao41 t230.length co41 : Value).ownBlock ∧ some k_ ≠ (.slice Ao56 t260.length co56 : Value).ownBlock ∧ some k_ ≠ (.slice Ao67 t243.length co67 : Value).ownBlock) (Kd.R_keptB (HO_239000.out) hkp (fun k_ hk_ hs_ => (hk_.2.2) hs_)) (fun k_ hk_ => ⟨hk_.1.1, hk_.1.2.1, hk_.1.2.2⟩)); have n2_ := Aside0.mk (Kd.R_mono (ok' := fun k_ => some k_ ≠ (.slice Ao41 t230.length co41 : Value).ownBlock ∧ some k_ ≠ (.slice Ao47 t258.length co47 : Value).ownBlock ∧ some k_ ≠ (.slice Ao67 t243.length co67 : Value).ownBlock) (Kd.R_keptB (HO_243000.out) hkp (fun k_ hk_ hs_ => (hk_.2.2) hs_)) (fun k_ hk_ => ⟨hk_.1.1, hk_.1.2.1, hk_.1.2.2⟩)); have n3_ := Aside0.mk (Kd.R_reok rfl hy0 (fun k_ e_ => HO_248000.out.1 k_ e_)); have n4_ := Aside0.mk (blk_kept (bq BK220) hkp (fun hs_ => (fun e_ => (Kd.R_ne HO_248000.out BK220.out (by decide)) e_) hs_)); have n5_ := Aside0.mk (blk_kept (bq BK221) hkp (fun hs_ => (fun e_ => (Kd.R_ne HO_248000.out BK221.out (by decide)) e_) hs_)); have n6_ := Aside0.mk (blk_kept (bq BK234) hkp (fun hs_ => (fun e_ => (Kd.R_ne HO_248000.out BK234.out (by decide)) e_) hs_)); have n7_ := Aside0.mk (blk_kept (bq BK238) hkp (fun hs_ => (fun e_ => (Kd.R_ne HO_248000.out BK238.out (by decide)) e_) hs_)); have n8_ := Aside0.mk (blk_kept (bq BK242) hkp (fun hs_ => (fun e_ => (Kd.R_ne HO_248000.out BK242.out (by decide)) e_) hs_)); have n9_ := Aside0.mk (blk_kept (bq BK247) hkp (fun hs_ => (fun e_ => (Kd.R_ne HO_248000.out BK247.out (by decide)) e_) hs_)); have n10_ := Aside0.mk (hb); clear HO_235000; clear HO_239000; clear HO_243000; clear HO_248000; clear BK220; clear BK221; clear BK234; clear BK238; clear BK242; clear BK247; clear HB; have HO_235000 := n0_; have HO_239000 := n1_; have HO_243000 := n2_; have HO_248000 := n3_; have BK220 := n4_; have BK221 := n5_; have BK234 := n6_; have BK238 := n7_; have BK242 := n8_; have BK247 := n9_; have HB := n10_; clear n0_ n1_ n2_ n3_ n4_ n5_ n6_ n7_ n8_ n9_ n10_; (try clear hb); (try clear hkp); (try clear hy0); have hcz183_0 : w182.cell? ⟨gb247, 0, none⟩ = some (.slice Ao67 t243.length co67) := (blk_cell BK247.out 0).trans rfl; have hfz183_0 := blk_frozen BK247.out 0) | ((with_reducible refine gate_callee (f := 23) rfl ?_); refine goesL_ (some 88) rfl rfl Try.func23 (by kernel_rfl) rfl #[.agg #[.slice Ao67 t263.length co67], .int .i64 1] rfl (by (try simp only [List.map_toArray, List.map_cons, List.map_nil]); first | done | (rw [show t263.length = t243.length from (Kd.R_reads' HO_248000.out).1.symm] <;> rfl) | rfl | (simp only [List.length_drop, List.length_take]; rfl)) ?_; (with_reducible refine (laws_heldBig.calls kj108 _ _ t263 1 t264 _ ?side1 ?side2 A160.out).mono ?_); (case side1 => repeat (first | exact (Kd.R_reads' HO_248000.out).2.2 | (with_reducible refine Kd.C_alloc ?_ _) | (with_reducible refine Kd.C_drewN ?_ _) | (with_reducible refine Kd.C_drew ?_))); (case side2 => rw [show t263.length = t243.length from (Kd.R_reads' HO_248000.out).1.symm]; exact (Kd.R_reads' HO_248000.out).2.1); rintro e w184 ⟨rfl, hb⟩; refine ⟨_, rfl, ?_⟩; have n0_ := Aside0.mk (qb HO_235000 hb); have n1_ := Aside0.mk (qb HO_239000 hb); have n2_ := Aside0.mk (qb HO_243000 hb); have n3_ := Aside0.mk (qb HO_248000 hb); have n4_ := Aside0.mk (bB BK220 hb); have n5_ := Aside0.mk (bB BK221 hb); have n6_ := Aside0.mk (bB BK234 hb); have n7_ := Aside0.mk (bB BK238 hb); have n8_ := Aside0.mk (bB BK242 hb); have n9_ := Aside0.mk (bB BK247 hb); have n10_ := Aside0.mk (below_step (hq6 HB GE220 GE221 GE234 GE238 GE242 GE247) hb); clear HO_235000; clear HO_239000; clear HO_243000; clear HO_248000; clear BK220; clear BK221; clear BK234; clear BK238; clear BK242; clear BK247; clear HB; have HO_235000 := n0_; have HO_239000 := n1_; have HO_243000 := n2_; have HO_248000 := n3_; have BK220 := n4_; have BK221 := n5_; have BK234 := n6_; have BK238 := n7_; have BK242 := n8_; have BK247 := n9_; have HB := n10_; clear n0_ n1_ n2_ n3_ n4_ n5_ n6_ n7_ n8_ n9_ n10_; (try clear hb); (try clear hb2); (try clear hk); (try clear hi)))
 have n0_ := Aside0.mk (Kd.R_drew HO_235000.out)
 have n1_ := Aside0.mk (Kd.R_drew HO_239000.out)
 have n2_ := Aside0.mk (Kd.R_drew HO_243000.out)
 have n3_ := Aside0.mk (Kd.R_drew HO_248000.out)
 have n4_ := Aside0.mk (blk_drew BK220.out)
 have n5_ := Aside0.mk (blk_drew BK221.out)
 have n6_ := Aside0.mk (blk_drew BK234.out)
 have n7_ := Aside0.mk (blk_drew BK238.out)
 have n8_ := Aside0.mk (blk_drew BK242.out)
 have n9_ := Aside0.mk (blk_drew BK247.out)
 have n10_ := Aside0.mk (below_drew1 HB.out)
 clear HO_235000
 clear HO_239000
 clear HO_243000
 clear HO_248000
 clear BK220
 clear BK221
 clear BK234
 clear BK238
 clear BK242
 clear BK247
 clear HB
 have HO_235000 := n0_
 have HO_239000 := n1_
 have HO_243000 := n2_
 have HO_248000 := n3_
 have BK220 := n4_
 have BK221 := n5_
 have BK234 := n6_
 have BK238 := n7_
 have BK242 := n8_
 have BK247 := n9_
 have HB := n10_
 clear n0_ n1_ n2_ n3_ n4_ n5_ n6_ n7_ n8_ n9_ n10_
 refine start_ (n := 11) (S := fun w' => w'.cell? ⟨gb220, 0, none⟩ = some (.slice A0_0 l0_0.length c0_0) ∧ w'.cell? ⟨gb221, 0, none⟩ = some (.slice A1_0 l1_0.length c1_0)) (ds := []) #[false, false, false, false, false, false, false, false, false, false, false] (by kernel_rfl) rfl rfl ⟨(blk_cell BK220.out 0).trans rfl, (blk_cell BK221.out 0).trans rfl⟩ (fun hHeld => ?_); refine with_tabW laws_FnExactHalvesTimes.tab31 laws_FnExactHalvesTimes.bits31 (fun HT_ HW_ => ?_)
 generalize w184.drew = w185 at HO_235000 HO_239000 HO_243000 HO_248000 BK220 BK221 BK234 BK238 BK242 BK247 HB hHeld ⊢
 refine take_ (i := 0) (N := some 95) (v := ?_) (a' := ?_) #[true, false, false, false, false, false, false, false, false, false, false] rfl rfl (take_ofW HT_.out HW_.out (by kernel_rfl)) (fun _ _ _ h => h) (Or.inl ⟨by rfl, ?_⟩) hHeld ?_ ?_
 rotate_left
 · rintro w' ⟨s0, s1⟩
   go_simp
   with_reducible rfl
 rotate_left
 · simp only [Act.put, List.setIfInBounds_toArray, List.set_cons_zero, List.set_cons_succ, i64_w, i32_w]
   rfl
 refine take_ (i := 2) (N := some 97) (v := ?_) (a' := ?_) #[true, false, true, false, false, false, false, false, false, false, false] rfl rfl (take_ofW HT_.out HW_.out (by kernel_rfl)) (fun _ _ _ h => h) (Or.inl ⟨by rfl, ?_⟩) hHeld ?_ ?_
 rotate_left
 · rintro w' ⟨s0, s1⟩
   go_simp
   with_reducible rfl
 rotate_left
 · simp only [Act.put, List.setIfInBounds_toArray, List.set_cons_zero, List.set_cons_succ, i64_w, i32_w]
   rfl
 refine join_ (σ := Value × Value × Value × Nat) 2 #[true, true, true, true, true, true, true, true, true, false, false] (fun s_ => [(96, .agg #[s_.1]), (98, .agg #[s_.2.1]), (99, .tuple #[.agg #[s_.2.2.1], .bool t274]), (15, .pointer (some ⟨s_.2.2.2, 0, none⟩)), (94, .tuple #[.agg #[s_.2.2.1], .bool t274]), (100, .agg #[s_.2.2.1]), (101, .bool t274)]) (fun s_ w' => (w'.cell? ⟨gb220, 0, none⟩ = some (.slice A0_0 l0_0.length c0_0) ∧ w'.cell? ⟨gb221, 0, none⟩ = some (.slice A1_0 l1_0.length c1_0)) ∧ (Kd.R (Kd.int .i64) 3 w' w.heap.size (fun k_ => some k_ ≠ (s_.2.1 : Value).ownBlock ∧ some k_ ≠ (s_.2.2.1 : Value).ownBlock ∧ some k_ ≠ (.slice Ao41 t230.length co41 : Value).ownBlock ∧ some k_ ≠ (.slice Ao47 t258.length co47 : Value).ownBlock ∧ some k_ ≠ (.slice Ao56 t260.length co56 : Value).ownBlock ∧ some k_ ≠ (.slice Ao67 t243.length co67 : Value).ownBlock) s_.1 t265) ∧ (Kd.R (Kd.int .i64) 3 w' w.heap.size (fun k_ => some k_ ≠ (s_.1 : Value).ownBlock ∧ some k_ ≠ (s_.2.2.1 : Value).ownBlock ∧ some k_ ≠ (.slice Ao41 t230.length co41 : Value).ownBlock ∧ some k_ ≠ (.slice Ao47 t258.length co47 : Value).ownBlock ∧ some k_ ≠ (.slice Ao56 t260.length co56 : Value).ownBlock ∧ some k_ ≠ (.slice Ao67 t243.length co67 : Value).ownBlock) s_.2.1 t268) ∧ (Kd.R (Kd.int .i64) 3 w' w.heap.size (fun k_ => some k_ ≠ (s_.1 : Value).ownBlock ∧ some k_ ≠ (s_.2.1 : Value).ownBlock ∧ some k_ ≠ (.slice Ao41 t230.length co41 : Value).ownBlock ∧ some k_ ≠ (.slice Ao47 t258.length co47 : Value).ownBlock ∧ some k_ ≠ (.slice Ao56 t260.length co56 : Value).ownBlock ∧ some k_ ≠ (.slice Ao67 t243.length co67 : Value).ownBlock) s_.2.2.1 t271) ∧ (Kd.R (Kd.int .i64) 3 w' w.heap.size (fun k_ => some k_ ≠ (s_.1 : Value).ownBlock ∧ some k_ ≠ (s_.2.1 : Value).ownBlock ∧ some k_ ≠ (s_.2.2.1 : Value).ownBlock ∧ some k_ ≠ (.slice Ao47 t258.length co47 : Value).ownBlock ∧ some k_ ≠ (.slice Ao56 t260.length co56 : Value).ownBlock ∧ some k_ ≠ (.slice Ao67 t243.length co67 : Value).ownBlock) (.slice Ao41 t230.length co41) t230) ∧ (Kd.R (Kd.int .i64) 3 w' w.heap.size (fun k_ => some k_ ≠ (s_.1 : Value).ownBlock ∧ some k_ ≠ (s_.2.1 : Value).ownBlock ∧ some k_ ≠ (s_.2.2.1 : Value).ownBlock ∧ some k_ ≠ (.slice Ao41 t230.length co41 : Value).ownBlock ∧ some k_ ≠ (.slice Ao56 t260.length co56 : Value).ownBlock ∧ some k_ ≠ (.slice Ao67 t243.length co67 : Value).ownBlock) (.slice Ao47 t258.length co47) t258) ∧ (Kd.R (Kd.int .i64) 3 w' w.heap.size (fun k_ => some k_ ≠ (s_.1 : Value).ownBlock ∧ some k_ ≠ (s_.2.1 : Value).ownBlock ∧ some k_ ≠ (s_.2.2.1 : Value).ownBlock ∧ some k_ ≠ (.slice Ao41 t230.length co41 : Value).ownBlock ∧ some k_ ≠ (.slice Ao47 t258.length co47 : Value).ownBlock ∧ some k_ ≠ (.slice Ao67 t243.length co67 : Value).ownBlock) (.slice Ao56 t260.length co56) t260) ∧ (Kd.R (Kd.int .i64) 3 w' w.heap.size (fun k_ => some k_ ≠ (s_.1 : Value).ownBlock ∧ some k_ ≠ (s_.2.1 : Value).ownBlock ∧ some k_ ≠ (s_.2.2.1 : Value).ownBlock ∧ some k_ ≠ (.slice Ao41 t230.length co41 : Value).ownBlock ∧ some k_ ≠ (.slice Ao47 t258.length co47 : Value).ownBlock ∧ some k_ ≠ (.slice Ao56 t260.length co56 : Value).ownBlock) (.slice Ao67 t243.length co67) t263) ∧ (w'.heap[gb220]? = some (.cells #[.slice A0_0 l0_0.length c0_0] 24 (0, 0))) ∧ (w'.heap[gb221]? = some (.cells #[.slice A1_0 l1_0.length c1_0] 24 (0, 0))) ∧ (w'.heap[gb234]? = some (.cells #[.slice Ao41 t230.length co41] 27 (0, 0))) ∧ (w'.heap[gb238]? = some (.cells #[.slice Ao47 t258.length co47] 27 (0, 0))) ∧ (w'.heap[gb242]? = some (.cells #[.slice Ao56 t260.length co56] 27 (0, 0))) ∧ (w'.heap[gb247]? = some (.cells #[.slice Ao67 t243.length co67] 27 (0, 0))) ∧ (w'.heap[s_.2.2.2]? = some (.cells #[.slice none 0 0] 27 (0, 0))) ∧ (w.heap.size ≤ s_.2.2.2) ∧ (w.heap.size ≤ s_.2.2.2) ∧ (gb220 ≠ s_.2.2.2) ∧ (s_.2.2.2 ≠ gb220) ∧ (gb221 ≠ s_.2.2.2) ∧ (s_.2.2.2 ≠ gb221) ∧ (gb234 ≠ s_.2.2.2) ∧ (s_.2.2.2 ≠ gb234) ∧ (gb238 ≠ s_.2.2.2) ∧ (s_.2.2.2 ≠ gb238) ∧ (gb242 ≠ s_.2.2.2) ∧ (s_.2.2.2 ≠ gb242) ∧ (gb247 ≠ s_.2.2.2) ∧ (s_.2.2.2 ≠ gb247) ∧ (Below w.heap.size w w')) ?_ ?_
 rotate_left
 · intro hCont
   refine two_ (i := 1) (j := 8) (Ni := some 96) (Nj := some 15) #[true, true, true, false, false, false, false, false, false, false, false] #[true, false, true, false, false, false, false, false, true, false, false] rfl rfl rfl rfl (two_of HT_.out (by kernel_rfl)) (by decide) (by decide) (fun K hK => ?_) (fun K hK => ?_)
   · skip
     refine goes_ Try.func17 (by kernel_rfl) rfl #[.agg #[.slice A0_0 l0_0.length c0_0]] (by rfl) rfl rfl (by (try simp only [List.map_toArray, List.map_cons, List.map_nil]); first | done | rfl | (simp only [List.length_drop, List.length_take]; rfl)) ?_
     with_reducible refine (laws_toBig.calls kj108 _ _ l0_0 t265 _ ?side1 ?side2 A172.out).mono ?_
     (case side1 => repeat (first | exact (Kd.C_below HR0_0.out HB.out) | (with_reducible refine Kd.C_alloc ?_ _) | (with_reducible refine Kd.C_drewN ?_ _) | (with_reducible refine Kd.C_drew ?_)))
     (case side2 => exact HC0_0.out)
     rintro e w186 ⟨v266, rfl, ho0, hb⟩
     refine ⟨_, rfl, ?_⟩
     have n0_ := Aside0.mk (qe HO_235000 ho0 hb)
     have n1_ := Aside0.mk (qe HO_239000 ho0 hb)
     have n2_ := Aside0.mk (qe HO_243000 ho0 hb)
     have n3_ := Aside0.mk (qe HO_248000 ho0 hb)
     have n4_ := Aside0.mk (Kd.R_lower (Kd.R_new' (Kd.R_new' (Kd.R_new' (Kd.R_new' ho0 (ql HO_235000)) (ql HO_239000)) (ql HO_243000)) (ql HO_248000)) (below_size (hq6 HB GE220 GE221 GE234 GE238 GE242 GE247)))
     have n5_ := Aside0.mk (bB BK220 hb)
     have n6_ := Aside0.mk (bB BK221 hb)
     have n7_ := Aside0.mk (bB BK234 hb)
     have n8_ := Aside0.mk (bB BK238 hb)
     have n9_ := Aside0.mk (bB BK242 hb)
     have n10_ := Aside0.mk (bB BK247 hb)
     have n11_ := Aside0.mk (below_step (hq6 HB GE220 GE221 GE234 GE238 GE242 GE247) hb)
     clear HO_235000
     clear HO_239000
     clear HO_243000
     clear HO_248000
     clear BK220
     clear BK221
     clear BK234
     clear BK238
     clear BK242
     clear BK247
     clear HB
     have HO_235000 := n0_
     have HO_239000 := n1_
     have HO_243000 := n2_
     have HO_248000 := n3_
     have HO267 := n4_
     have BK220 := n5_
     have BK221 := n6_
     have BK234 := n7_
     have BK238 := n8_
     have BK242 := n9_
     have BK247 := n10_
     have HB := n11_
     clear n0_ n1_ n2_ n3_ n4_ n5_ n6_ n7_ n8_ n9_ n10_ n11_
     (try clear hb)
     (try clear hb2)
     (try clear hk)
     (try clear hi)
     (try clear ho0)
     refine hK.out _ _ ⟨(blk_cell BK220.out 0).trans rfl, (blk_cell BK221.out 0).trans rfl⟩ (fun hHeld => ?_)
     clear hK K
     refine norm_ (a' := ?_) ?_ ?_
     rotate_left
     · show Act.put _ (some 96) _ = _
       simp only [Act.put, List.setIfInBounds_toArray, List.set_cons_zero, List.set_cons_succ, i64_w, i32_w]
       rfl
     refine two_ (i := 3) (j := 8) (Ni := some 98) (Nj := some 15) #[true, true, true, true, false, false, false, false, false, false, false] #[true, true, true, false, false, false, false, false, true, false, false] rfl rfl rfl rfl (two_of HT_.out (by kernel_rfl)) (by decide) (by decide) (fun K hK => ?_) (fun K hK => ?_)
     · skip
       refine goes_ Try.func17 (by kernel_rfl) rfl #[.agg #[.slice A1_0 l1_0.length c1_0]] (by rfl) rfl rfl (by (try simp only [List.map_toArray, List.map_cons, List.map_nil]); first | done | rfl | (simp only [List.length_drop, List.length_take]; rfl)) ?_
       with_reducible refine (laws_toBig.calls kj108 _ _ l1_0 t268 _ ?side1 ?side2 A173.out).mono ?_
       (case side1 => repeat (first | exact (Kd.C_below HR1_0.out HB.out) | (with_reducible refine Kd.C_alloc ?_ _) | (with_reducible refine Kd.C_drewN ?_ _) | (with_reducible refine Kd.C_drew ?_)))
       (case side2 => exact HC1_0.out)
       rintro e w187 ⟨v269, rfl, ho0, hb⟩
       refine ⟨_, rfl, ?_⟩
       have n0_ := Aside0.mk (qe HO_235000 ho0 hb)
       have n1_ := Aside0.mk (qe HO_239000 ho0 hb)
       have n2_ := Aside0.mk (qe HO_243000 ho0 hb)
       have n3_ := Aside0.mk (qe HO_248000 ho0 hb)
       have n4_ := Aside0.mk (qe HO267 ho0 hb)
       have n5_ := Aside0.mk (Kd.R_lower (Kd.R_new' (Kd.R_new' (Kd.R_new' (Kd.R_new' (Kd.R_new' ho0 (ql HO_235000)) (ql HO_239000)) (ql HO_243000)) (ql HO_248000)) (ql HO267)) (below_size (hq6 HB GE220 GE221 GE234 GE238 GE242 GE247)))
       have n6_ := Aside0.mk (bB BK220 hb)
       have n7_ := Aside0.mk (bB BK221 hb)
       have n8_ := Aside0.mk (bB BK234 hb)
       have n9_ := Aside0.mk (bB BK238 hb)
       have n10_ := Aside0.mk (bB BK242 hb)
       have n11_ := Aside0.mk (bB BK247 hb)
       have n12_ := Aside0.mk (below_step (hq6 HB GE220 GE221 GE234 GE238 GE242 GE247) hb)
       clear HO_235000
       clear HO_239000
       clear HO_243000
       clear HO_248000
       clear HO267
       clear BK220
       clear BK221
       clear BK234
       clear BK238
       clear BK242
       clear BK247
       clear HB
       have HO_235000 := n0_
       have HO_239000 := n1_
       have HO_243000 := n2_
       have HO_248000 := n3_
       have HO267 := n4_
       have HO270 := n5_
       have BK220 := n6_
       have BK221 := n7_
       have BK234 := n8_
       have BK238 := n9_
       have BK242 := n10_
       have BK247 := n11_
       have HB := n12_
       clear n0_ n1_ n2_ n3_ n4_ n5_ n6_ n7_ n8_ n9_ n10_ n11_ n12_
       (try clear hb)
       (try clear hb2)
       (try clear hk)
       (try clear hi)
       (try clear ho0)
       obtain ⟨Ao188, co188, eo188⟩ := Kd.R_slice HO267.out
       (first | subst eo188 | (injection eo188 with f1_ f2_ f3_; have f4_ := f1_.symm; have f5_ := f3_.symm; clear f1_ f2_ f3_; subst f4_; subst f5_))
       obtain ⟨Ao189, co189, eo189⟩ := Kd.R_slice HO270.out
       (first | subst eo189 | (injection eo189 with f1_ f2_ f3_; have f4_ := f1_.symm; have f5_ := f3_.symm; clear f1_ f2_ f3_; subst f4_; subst f5_))
       refine hK.out _ _ ⟨(blk_cell BK220.out 0).trans rfl, (blk_cell BK221.out 0).trans rfl⟩ (fun hHeld => ?_)
       clear hK K
       refine norm_ (a' := ?_) ?_ ?_
       rotate_left
       · show Act.put _ (some 98) _ = _
         simp only [Act.put, List.setIfInBounds_toArray, List.set_cons_zero, List.set_cons_succ, i64_w, i32_w]
         rfl
       refine two_ (i := 4) (j := 8) (Ni := some 99) (Nj := some 15) #[true, true, true, true, true, false, false, false, false, false, false] #[true, true, true, true, false, false, false, false, true, false, false] rfl rfl rfl rfl (two_of HT_.out (by kernel_rfl)) (by decide) (by decide) (fun K hK => ?_) (fun K hK => ?_)
       · skip
         refine goes_ Try.func41 (by kernel_rfl) rfl #[.agg #[.slice Ao188 t265.length co188], .agg #[.slice Ao189 t268.length co189]] (by rfl) rfl rfl (by (try simp only [List.map_toArray, List.map_cons, List.map_nil]); first | done | rfl | (simp only [List.length_drop, List.length_take]; rfl)) ?_
         with_reducible refine (impl_HalvesTimes.calls kj108 (fun k_ => some k_ = (.slice Ao188 t265.length co188 : Value).ownBlock) _ _ t265 (fun k_ => some k_ = (.slice Ao189 t268.length co189 : Value).ownBlock) _ _ t268 t271 t274 _ ?side1 ?side2 A174.out).mono ?_
         (case side1 => exact Kd.R_V (Kd.R_tight rfl (Kd.R_types (Kd.R_types (Kd.R_types (Kd.R_types (Kd.R_types (Kd.R_types (HO267.out) BK220.out (by decide)) BK221.out (by decide)) BK234.out (by decide)) BK238.out (by decide)) BK242.out (by decide)) BK247.out (by decide))))
         (case side2 => exact Kd.R_V (Kd.R_tight rfl (Kd.R_types (Kd.R_types (Kd.R_types (Kd.R_types (Kd.R_types (Kd.R_types (HO270.out) BK220.out (by decide)) BK221.out (by decide)) BK234.out (by decide)) BK238.out (by decide)) BK242.out (by decide)) BK247.out (by decide))))
         rintro e w190 ⟨v272, rfl, ho0, hb⟩
         refine ⟨_, rfl, ?_⟩
         have n0_ := Aside0.mk (qe HO_235000 ho0 hb)
         have n1_ := Aside0.mk (qe HO_239000 ho0 hb)
         have n2_ := Aside0.mk (qe HO_243000 ho0 hb)
         have n3_ := Aside0.mk (qe HO_248000 ho0 hb)
         have n4_ := Aside0.mk (qe HO267 ho0 hb)
         have n5_ := Aside0.mk (qe HO270 ho0 hb)
         have n6_ := Aside0.mk (Kd.R_lower (Kd.R_new' (Kd.R_new' (Kd.R_new' (Kd.R_new' (Kd.R_new' (Kd.R_new' (Kd.R_mono (ok' := fun k_ => True) ho0 (fun _ hk_ => trivial)) (ql HO_235000)) (ql HO_239000)) (ql HO_243000)) (ql HO_248000)) (ql HO267)) (ql HO270)) (below_size (hq6 HB GE220 GE221 GE234 GE238 GE242 GE247)))
         have n7_ := Aside0.mk (bB BK220 hb)
         have n8_ := Aside0.mk (bB BK221 hb)
         have n9_ := Aside0.mk (bB BK234 hb)
         have n10_ := Aside0.mk (bB BK238 hb)
         have n11_ := Aside0.mk (bB BK242 hb)
         have n12_ := Aside0.mk (bB BK247 hb)
         have n13_ := Aside0.mk (below_step (hq6 HB GE220 GE221 GE234 GE238 GE242 GE247) hb)
         clear HO_235000
         clear HO_239000
         clear HO_243000
         clear HO_248000
         clear HO267
         clear HO270
         clear BK220
         clear BK221
         clear BK234
         clear BK238
         clear BK242
         clear BK247
         clear HB
         have HO_235000 := n0_
         have HO_239000 := n1_
         have HO_243000 := n2_
         have HO_248000 := n3_
         have HO267 := n4_
         have HO270 := n5_
         have HO273 := n6_
         have BK220 := n7_
         have BK221 := n8_
         have BK234 := n9_
         have BK238 := n10_
         have BK242 := n11_
         have BK247 := n12_
         have HB := n13_
         clear n0_ n1_ n2_ n3_ n4_ n5_ n6_ n7_ n8_ n9_ n10_ n11_ n12_ n13_
         (try clear hb)
         (try clear hb2)
         (try clear hk)
         (try clear hi)
         (try clear ho0)
         refine hK.out _ _ ⟨(blk_cell BK220.out 0).trans rfl, (blk_cell BK221.out 0).trans rfl⟩ (fun hHeld => ?_)
         clear hK K
         refine norm_ (a' := ?_) ?_ ?_
         rotate_left
         · show Act.put _ (some 99) _ = _
           simp only [Act.put, List.setIfInBounds_toArray, List.set_cons_zero, List.set_cons_succ, i64_w, i32_w]
           rfl
         refine pure_ (i := 5) (N := some 94) (v := ?_) (a' := ?_) #[true, true, true, true, true, true, false, false, false, false, false] rfl rfl (any_of HT_.out (by kernel_rfl)) (fun _ _ _ h => h) (Or.inl ⟨by rfl, ?_⟩) ?_ ?_
         rotate_left
         · intro w'
           first | (go_simp; with_reducible rfl) | (go_simp; unfold Instr.field; go_simp; rfl)
         rotate_left
         · simp only [Act.put, List.setIfInBounds_toArray, List.set_cons_zero, List.set_cons_succ, i64_w, i32_w]
           rfl
         refine pure_ (i := 6) (N := some 100) (v := ?_) (a' := ?_) #[true, true, true, true, true, true, true, false, false, false, false] rfl rfl (any_of HT_.out (by kernel_rfl)) (fun _ _ _ h => h) (Or.inl ⟨by rfl, ?_⟩) ?_ ?_
         rotate_left
         · intro w'
           first | (go_simp; with_reducible rfl) | (go_simp; unfold Instr.field; go_simp; rfl)
         rotate_left
         · simp only [Act.put, List.setIfInBounds_toArray, List.set_cons_zero, List.set_cons_succ, i64_w, i32_w]
           rfl
         refine pure_ (i := 7) (N := some 101) (v := ?_) (a' := ?_) #[true, true, true, true, true, true, true, true, false, false, false] rfl rfl (any_of HT_.out (by kernel_rfl)) (fun _ _ _ h => h) (Or.inl ⟨by rfl, ?_⟩) ?_ ?_
         rotate_left
         · intro w'
           first | (go_simp; with_reducible rfl) | (go_simp; unfold Instr.field; go_simp; rfl)
         rotate_left
         · simp only [Act.put, List.setIfInBounds_toArray, List.set_cons_zero, List.set_cons_succ, i64_w, i32_w]
           rfl
         refine one_ (i := 8) (N := some 15) #[true, true, true, true, true, true, true, true, true, false, false] rfl rfl (one_of HT_.out (by kernel_rfl)) (by decide) (fun K hK => ?_)
         refine box_step ?hg (N := 15) ?hd (cs := #[.slice none 0 0]) (t := 27) ?hr ?_; (case hd => rfl); (case hg => rfl); (case hr => first | (go_simp; done) | (go_simp; rfl))
         intro gb275 hg w191 hbox hb
         have n0_ := Aside0.mk (qb HO_235000 hb)
         have n1_ := Aside0.mk (qb HO_239000 hb)
         have n2_ := Aside0.mk (qb HO_243000 hb)
         have n3_ := Aside0.mk (qb HO_248000 hb)
         have n4_ := Aside0.mk (qb HO267 hb)
         have n5_ := Aside0.mk (qb HO270 hb)
         have n6_ := Aside0.mk (qb HO273 hb)
         have n7_ := Aside0.mk (bB BK220 hb)
         have n8_ := Aside0.mk (bB BK221 hb)
         have n9_ := Aside0.mk (bB BK234 hb)
         have n10_ := Aside0.mk (bB BK238 hb)
         have n11_ := Aside0.mk (bB BK242 hb)
         have n12_ := Aside0.mk (bB BK247 hb)
         have n13_ := Aside0.mk (below_step (hq6 HB GE220 GE221 GE234 GE238 GE242 GE247) hb)
         have n14_ := Aside0.mk (hbox)
         have n15_ := Aside0.mk (ng hg (hq6 HB GE220 GE221 GE234 GE238 GE242 GE247))
         have n16_ := Aside0.mk (ng hg (hq6 HB GE220 GE221 GE234 GE238 GE242 GE247))
         have n17_ := Aside0.mk (nl hg BK220)
         have n18_ := Aside0.mk (nr hg BK220)
         have n19_ := Aside0.mk (nl hg BK221)
         have n20_ := Aside0.mk (nr hg BK221)
         have n21_ := Aside0.mk (nl hg BK234)
         have n22_ := Aside0.mk (nr hg BK234)
         have n23_ := Aside0.mk (nl hg BK238)
         have n24_ := Aside0.mk (nr hg BK238)
         have n25_ := Aside0.mk (nl hg BK242)
         have n26_ := Aside0.mk (nr hg BK242)
         have n27_ := Aside0.mk (nl hg BK247)
         have n28_ := Aside0.mk (nr hg BK247)
         clear HO_235000
         clear HO_239000
         clear HO_243000
         clear HO_248000
         clear HO267
         clear HO270
         clear HO273
         clear BK220
         clear BK221
         clear BK234
         clear BK238
         clear BK242
         clear BK247
         clear HB
         have HO_235000 := n0_
         have HO_239000 := n1_
         have HO_243000 := n2_
         have HO_248000 := n3_
         have HO267 := n4_
         have HO270 := n5_
         have HO273 := n6_
         have BK220 := n7_
         have BK221 := n8_
         have BK234 := n9_
         have BK238 := n10_
         have BK242 := n11_
         have BK247 := n12_
         have HB := n13_
         have BK275 := n14_
         have GW275 := n15_
         have GE275 := n16_
         have NB220_275 := n17_
         have NB275_220 := n18_
         have NB221_275 := n19_
         have NB275_221 := n20_
         have NB234_275 := n21_
         have NB275_234 := n22_
         have NB238_275 := n23_
         have NB275_238 := n24_
         have NB242_275 := n25_
         have NB275_242 := n26_
         have NB247_275 := n27_
         have NB275_247 := n28_
         clear n0_ n1_ n2_ n3_ n4_ n5_ n6_ n7_ n8_ n9_ n10_ n11_ n12_ n13_ n14_ n15_ n16_ n17_ n18_ n19_ n20_ n21_ n22_ n23_ n24_ n25_ n26_ n27_ n28_
         clear hb hbox hg
         refine hK.out _ _ ⟨(blk_cell BK220.out 0).trans rfl, (blk_cell BK221.out 0).trans rfl⟩ (fun hHeld => ?_)
         clear hK K
         refine norm_ (a' := ?_) ?_ ?_
         rotate_left
         · show Act.put _ (some 15) _ = _
           simp only [Act.put, List.setIfInBounds_toArray, List.set_cons_zero, List.set_cons_succ, i64_w, i32_w]
           rfl
         exact norm_ (by simp only [putAll, Act.put, List.setIfInBounds_toArray, List.set_cons_zero, List.set_cons_succ]) (hCont (.slice Ao188 t265.length co188, .slice Ao189 t268.length co189, v272, gb275) _ ⟨hHeld, (by (with_reducible repeat (first | apply Kd.R_alloc | apply Kd.R_drewN | apply Kd.R_drew)); exact Kd.R_mono HO267.out (fun _ hk => ⟨hk.1.2, ⟨hk.2, ⟨hk.1.1.1.1.1.2, ⟨hk.1.1.1.1.2, ⟨hk.1.1.1.2, hk.1.1.2⟩⟩⟩⟩⟩)), (by (with_reducible repeat (first | apply Kd.R_alloc | apply Kd.R_drewN | apply Kd.R_drew)); exact Kd.R_mono HO270.out (fun _ hk => ⟨hk.1.2, ⟨hk.2, ⟨hk.1.1.1.1.1.2, ⟨hk.1.1.1.1.2, ⟨hk.1.1.1.2, hk.1.1.2⟩⟩⟩⟩⟩)), (by (with_reducible repeat (first | apply Kd.R_alloc | apply Kd.R_drewN | apply Kd.R_drew)); exact Kd.R_mono HO273.out (fun _ hk => ⟨hk.1.2, ⟨hk.2, ⟨hk.1.1.1.1.1.2, ⟨hk.1.1.1.1.2, ⟨hk.1.1.1.2, hk.1.1.2⟩⟩⟩⟩⟩)), (by (with_reducible repeat (first | apply Kd.R_alloc | apply Kd.R_drewN | apply Kd.R_drew)); exact Kd.R_mono HO_235000.out (fun _ hk => ⟨hk.1.1.2, ⟨hk.1.2, ⟨hk.2, ⟨hk.1.1.1.1, ⟨hk.1.1.1.2.1, hk.1.1.1.2.2⟩⟩⟩⟩⟩)), (by (with_reducible repeat (first | apply Kd.R_alloc | apply Kd.R_drewN | apply Kd.R_drew)); exact Kd.R_mono HO_239000.out (fun _ hk => ⟨hk.1.1.2, ⟨hk.1.2, ⟨hk.2, ⟨hk.1.1.1.1, ⟨hk.1.1.1.2.1, hk.1.1.1.2.2⟩⟩⟩⟩⟩)), (by (with_reducible repeat (first | apply Kd.R_alloc | apply Kd.R_drewN | apply Kd.R_drew)); exact Kd.R_mono HO_243000.out (fun _ hk => ⟨hk.1.1.2, ⟨hk.1.2, ⟨hk.2, ⟨hk.1.1.1.1, ⟨hk.1.1.1.2.1, hk.1.1.1.2.2⟩⟩⟩⟩⟩)), (by (with_reducible repeat (first | apply Kd.R_alloc | apply Kd.R_drewN | apply Kd.R_drew)); exact Kd.R_mono HO_248000.out (fun _ hk => ⟨hk.1.1.2, ⟨hk.1.2, ⟨hk.2, ⟨hk.1.1.1.1, ⟨hk.1.1.1.2.1, hk.1.1.1.2.2⟩⟩⟩⟩⟩)), (bq BK220), (bq BK221), (bq BK234), (bq BK238), (bq BK242), (bq BK247), (bq BK275), GW275.out, GE275.out, NB220_275.out, NB275_220.out, NB221_275.out, NB275_221.out, NB234_275.out, NB275_234.out, NB238_275.out, NB275_238.out, NB242_275.out, NB275_242.out, NB247_275.out, NB275_247.out, (hq7 HB GE220 GE221 GE234 GE238 GE242 GE247 GE275)⟩)
       skip
       refine box_step ?hg (N := 15) ?hd (cs := #[.slice none 0 0]) (t := 27) ?hr ?_; (case hd => rfl); (case hg => rfl); (case hr => first | (go_simp; done) | (go_simp; rfl))
       intro gb275 hg w188 hbox hb
       have n0_ := Aside0.mk (qb HO_235000 hb)
       have n1_ := Aside0.mk (qb HO_239000 hb)
       have n2_ := Aside0.mk (qb HO_243000 hb)
       have n3_ := Aside0.mk (qb HO_248000 hb)
       have n4_ := Aside0.mk (qb HO267 hb)
       have n5_ := Aside0.mk (qb HO270 hb)
       have n6_ := Aside0.mk (bB BK220 hb)
       have n7_ := Aside0.mk (bB BK221 hb)
       have n8_ := Aside0.mk (bB BK234 hb)
       have n9_ := Aside0.mk (bB BK238 hb)
       have n10_ := Aside0.mk (bB BK242 hb)
       have n11_ := Aside0.mk (bB BK247 hb)
       have n12_ := Aside0.mk (below_step (hq6 HB GE220 GE221 GE234 GE238 GE242 GE247) hb)
       have n13_ := Aside0.mk (hbox)
       have n14_ := Aside0.mk (ng hg (hq6 HB GE220 GE221 GE234 GE238 GE242 GE247))
       have n15_ := Aside0.mk (ng hg (hq6 HB GE220 GE221 GE234 GE238 GE242 GE247))
       have n16_ := Aside0.mk (nl hg BK220)
       have n17_ := Aside0.mk (nr hg BK220)
       have n18_ := Aside0.mk (nl hg BK221)
       have n19_ := Aside0.mk (nr hg BK221)
       have n20_ := Aside0.mk (nl hg BK234)
       have n21_ := Aside0.mk (nr hg BK234)
       have n22_ := Aside0.mk (nl hg BK238)
       have n23_ := Aside0.mk (nr hg BK238)
       have n24_ := Aside0.mk (nl hg BK242)
       have n25_ := Aside0.mk (nr hg BK242)
       have n26_ := Aside0.mk (nl hg BK247)
       have n27_ := Aside0.mk (nr hg BK247)
       clear HO_235000
       clear HO_239000
       clear HO_243000
       clear HO_248000
       clear HO267
       clear HO270
       clear BK220
       clear BK221
       clear BK234
       clear BK238
       clear BK242
       clear BK247
       clear HB
       have HO_235000 := n0_
       have HO_239000 := n1_
       have HO_243000 := n2_
       have HO_248000 := n3_
       have HO267 := n4_
       have HO270 := n5_
       have BK220 := n6_
       have BK221 := n7_
       have BK234 := n8_
       have BK238 := n9_
       have BK242 := n10_
       have BK247 := n11_
       have HB := n12_
       have BK275 := n13_
       have GW275 := n14_
       have GE275 := n15_
       have NB220_275 := n16_
       have NB275_220 := n17_
       have NB221_275 := n18_
       have NB275_221 := n19_
       have NB234_275 := n20_
       have NB275_234 := n21_
       have NB238_275 := n22_
       have NB275_238 := n23_
       have NB242_275 := n24_
       have NB275_242 := n25_
       have NB247_275 := n26_
       have NB275_247 := n27_
       clear n0_ n1_ n2_ n3_ n4_ n5_ n6_ n7_ n8_ n9_ n10_ n11_ n12_ n13_ n14_ n15_ n16_ n17_ n18_ n19_ n20_ n21_ n22_ n23_ n24_ n25_ n26_ n27_
       clear hb hbox hg
       obtain ⟨Ao189, co189, eo189⟩ := Kd.R_slice HO267.out
       (first | subst eo189 | (injection eo189 with f1_ f2_ f3_; have f4_ := f1_.symm; have f5_ := f3_.symm; clear f1_ f2_ f3_; subst f4_; subst f5_))
       obtain ⟨Ao190, co190, eo190⟩ := Kd.R_slice HO270.out
       (first | subst eo190 | (injection eo190 with f1_ f2_ f3_; have f4_ := f1_.symm; have f5_ := f3_.symm; clear f1_ f2_ f3_; subst f4_; subst f5_))
       refine hK.out _ _ ⟨(blk_cell BK220.out 0).trans rfl, (blk_cell BK221.out 0).trans rfl⟩ (fun hHeld => ?_)
       clear hK K
       refine norm_ (a' := ?_) ?_ ?_
       rotate_left
       · show Act.put _ (some 15) _ = _
         simp only [Act.put, List.setIfInBounds_toArray, List.set_cons_zero, List.set_cons_succ, i64_w, i32_w]
         rfl
       refine one_ (i := 4) (N := some 99) #[true, true, true, true, true, false, false, false, true, false, false] rfl rfl (one_of HT_.out (by kernel_rfl)) (by decide) (fun K hK => ?_)
       refine goes_ Try.func41 (by kernel_rfl) rfl #[.agg #[.slice Ao189 t265.length co189], .agg #[.slice Ao190 t268.length co190]] (by rfl) rfl rfl (by (try simp only [List.map_toArray, List.map_cons, List.map_nil]); first | done | rfl | (simp only [List.length_drop, List.length_take]; rfl)) ?_
       with_reducible refine (impl_HalvesTimes.calls kj108 (fun k_ => some k_ = (.slice Ao189 t265.length co189 : Value).ownBlock) _ _ t265 (fun k_ => some k_ = (.slice Ao190 t268.length co190 : Value).ownBlock) _ _ t268 t271 t274 _ ?side1 ?side2 A174.out).mono ?_
       (case side1 => exact Kd.R_V (Kd.R_tight rfl (Kd.R_types (Kd.R_types (Kd.R_types (Kd.R_types (Kd.R_types (Kd.R_types (Kd.R_types (HO267.out) BK220.out (by decide)) BK221.out (by decide)) BK234.out (by decide)) BK238.out (by decide)) BK242.out (by decide)) BK247.out (by decide)) BK275.out (by decide))))
       (case side2 => exact Kd.R_V (Kd.R_tight rfl (Kd.R_types (Kd.R_types (Kd.R_types (Kd.R_types (Kd.R_types (Kd.R_types (Kd.R_types (HO270.out) BK220.out (by decide)) BK221.out (by decide)) BK234.out (by decide)) BK238.out (by decide)) BK242.out (by decide)) BK247.out (by decide)) BK275.out (by decide))))
       rintro e w191 ⟨v272, rfl, ho0, hb⟩
       refine ⟨_, rfl, ?_⟩
       have n0_ := Aside0.mk (qe HO_235000 ho0 hb)
       have n1_ := Aside0.mk (qe HO_239000 ho0 hb)
       have n2_ := Aside0.mk (qe HO_243000 ho0 hb)
       have n3_ := Aside0.mk (qe HO_248000 ho0 hb)
       have n4_ := Aside0.mk (qe HO267 ho0 hb)
       have n5_ := Aside0.mk (qe HO270 ho0 hb)
       have n6_ := Aside0.mk (Kd.R_lower (Kd.R_new' (Kd.R_new' (Kd.R_new' (Kd.R_new' (Kd.R_new' (Kd.R_new' (Kd.R_mono (ok' := fun k_ => True) ho0 (fun _ hk_ => trivial)) (ql HO_235000)) (ql HO_239000)) (ql HO_243000)) (ql HO_248000)) (ql HO267)) (ql HO270)) (below_size (hq7 HB GE220 GE221 GE234 GE238 GE242 GE247 GE275)))
       have n7_ := Aside0.mk (bB BK220 hb)
       have n8_ := Aside0.mk (bB BK221 hb)
       have n9_ := Aside0.mk (bB BK234 hb)
       have n10_ := Aside0.mk (bB BK238 hb)
       have n11_ := Aside0.mk (bB BK242 hb)
       have n12_ := Aside0.mk (bB BK247 hb)
       have n13_ := Aside0.mk (bB BK275 hb)
       have n14_ := Aside0.mk (below_step (hq7 HB GE220 GE221 GE234 GE238 GE242 GE247 GE275) hb)
       clear HO_235000
       clear HO_239000
       clear HO_243000
       clear HO_248000
       clear HO267
       clear HO270
       clear BK220
       clear BK221
       clear BK234
       clear BK238
       clear BK242
       clear BK247
       clear BK275
       clear HB
       have HO_235000 := n0_
       have HO_239000 := n1_
       have HO_243000 := n2_
       have HO_248000 := n3_
       have HO267 := n4_
       have HO270 := n5_
       have HO273 := n6_
       have BK220 := n7_
       have BK221 := n8_
       have BK234 := n9_
       have BK238 := n10_
       have BK242 := n11_
       have BK247 := n12_
       have BK275 := n13_
       have HB := n14_
       clear n0_ n1_ n2_ n3_ n4_ n5_ n6_ n7_ n8_ n9_ n10_ n11_ n12_ n13_ n14_
       (try clear hb)
       (try clear hb2)
       (try clear hk)
       (try clear hi)
       (try clear ho0)
       refine hK.out _ _ ⟨(blk_cell BK220.out 0).trans rfl, (blk_cell BK221.out 0).trans rfl⟩ (fun hHeld => ?_)
       clear hK K
       refine norm_ (a' := ?_) ?_ ?_
       rotate_left
       · show Act.put _ (some 99) _ = _
         simp only [Act.put, List.setIfInBounds_toArray, List.set_cons_zero, List.set_cons_succ, i64_w, i32_w]
         rfl
       refine pure_ (i := 5) (N := some 94) (v := ?_) (a' := ?_) #[true, true, true, true, true, true, false, false, true, false, false] rfl rfl (any_of HT_.out (by kernel_rfl)) (fun _ _ _ h => h) (Or.inl ⟨by rfl, ?_⟩) ?_ ?_
       rotate_left
       · intro w'
         first | (go_simp; with_reducible rfl) | (go_simp; unfold Instr.field; go_simp; rfl)
       rotate_left
       · simp only [Act.put, List.setIfInBounds_toArray, List.set_cons_zero, List.set_cons_succ, i64_w, i32_w]
         rfl
       refine pure_ (i := 6) (N := some 100) (v := ?_) (a' := ?_) #[true, true, true, true, true, true, true, false, true, false, false] rfl rfl (any_of HT_.out (by kernel_rfl)) (fun _ _ _ h => h) (Or.inl ⟨by rfl, ?_⟩) ?_ ?_
       rotate_left
       · intro w'
         first | (go_simp; with_reducible rfl) | (go_simp; unfold Instr.field; go_simp; rfl)
       rotate_left
       · simp only [Act.put, List.setIfInBounds_toArray, List.set_cons_zero, List.set_cons_succ, i64_w, i32_w]
         rfl
       refine pure_ (i := 7) (N := some 101) (v := ?_) (a' := ?_) #[true, true, true, true, true, true, true, true, true, false, false] rfl rfl (any_of HT_.out (by kernel_rfl)) (fun _ _ _ h => h) (Or.inl ⟨by rfl, ?_⟩) ?_ ?_
       rotate_left
       · intro w'
         first | (go_simp; with_reducible rfl) | (go_simp; unfold Instr.field; go_simp; rfl)
       rotate_left
       · simp only [Act.put, List.setIfInBounds_toArray, List.set_cons_zero, List.set_cons_succ, i64_w, i32_w]
         rfl
       exact norm_ (by simp only [putAll, Act.put, List.setIfInBounds_toArray, List.set_cons_zero, List.set_cons_succ]) (hCont (.slice Ao189 t265.length co189, .slice Ao190 t268.length co190, v272, gb275) _ ⟨hHeld, (by (with_reducible repeat (first | apply Kd.R_alloc | apply Kd.R_drewN | apply Kd.R_drew)); exact Kd.R_mono HO267.out (fun _ hk => ⟨hk.1.2, ⟨hk.2, ⟨hk.1.1.1.1.1.2, ⟨hk.1.1.1.1.2, ⟨hk.1.1.1.2, hk.1.1.2⟩⟩⟩⟩⟩)), (by (with_reducible repeat (first | apply Kd.R_alloc | apply Kd.R_drewN | apply Kd.R_drew)); exact Kd.R_mono HO270.out (fun _ hk => ⟨hk.1.2, ⟨hk.2, ⟨hk.1.1.1.1.1.2, ⟨hk.1.1.1.1.2, ⟨hk.1.1.1.2, hk.1.1.2⟩⟩⟩⟩⟩)), (by (with_reducible repeat (first | apply Kd.R_alloc | apply Kd.R_drewN | apply Kd.R_drew)); exact Kd.R_mono HO273.out (fun _ hk => ⟨hk.1.2, ⟨hk.2, ⟨hk.1.1.1.1.1.2, ⟨hk.1.1.1.1.2, ⟨hk.1.1.1.2, hk.1.1.2⟩⟩⟩⟩⟩)), (by (with_reducible repeat (first | apply Kd.R_alloc | apply Kd.R_drewN | apply Kd.R_drew)); exact Kd.R_mono HO_235000.out (fun _ hk => ⟨hk.1.1.2, ⟨hk.1.2, ⟨hk.2, ⟨hk.1.1.1.1, ⟨hk.1.1.1.2.1, hk.1.1.1.2.2⟩⟩⟩⟩⟩)), (by (with_reducible repeat (first | apply Kd.R_alloc | apply Kd.R_drewN | apply Kd.R_drew)); exact Kd.R_mono HO_239000.out (fun _ hk => ⟨hk.1.1.2, ⟨hk.1.2, ⟨hk.2, ⟨hk.1.1.1.1, ⟨hk.1.1.1.2.1, hk.1.1.1.2.2⟩⟩⟩⟩⟩)), (by (with_reducible repeat (first | apply Kd.R_alloc | apply Kd.R_drewN | apply Kd.R_drew)); exact Kd.R_mono HO_243000.out (fun _ hk => ⟨hk.1.1.2, ⟨hk.1.2, ⟨hk.2, ⟨hk.1.1.1.1, ⟨hk.1.1.1.2.1, hk.1.1.1.2.2⟩⟩⟩⟩⟩)), (by (with_reducible repeat (first | apply Kd.R_alloc | apply Kd.R_drewN | apply Kd.R_drew)); exact Kd.R_mono HO_248000.out (fun _ hk => ⟨hk.1.1.2, ⟨hk.1.2, ⟨hk.2, ⟨hk.1.1.1.1, ⟨hk.1.1.1.2.1, hk.1.1.1.2.2⟩⟩⟩⟩⟩)), (bq BK220), (bq BK221), (bq BK234), (bq BK238), (bq BK242), (bq BK247), (bq BK275), GW275.out, GE275.out, NB220_275.out, NB275_220.out, NB221_275.out, NB275_221.out, NB234_275.out, NB275_234.out, NB238_275.out, NB275_238.out, NB242_275.out, NB275_242.out, NB247_275.out, NB275_247.out, (hq7 HB GE220 GE221 GE234 GE238 GE242 GE247 GE275)⟩)
     skip
     refine box_step ?hg (N := 15) ?hd (cs := #[.slice none 0 0]) (t := 27) ?hr ?_; (case hd => rfl); (case hg => rfl); (case hr => first | (go_simp; done) | (go_simp; rfl))
     intro gb275 hg w187 hbox hb
     have n0_ := Aside0.mk (qb HO_235000 hb)
     have n1_ := Aside0.mk (qb HO_239000 hb)
     have n2_ := Aside0.mk (qb HO_243000 hb)
     have n3_ := Aside0.mk (qb HO_248000 hb)
     have n4_ := Aside0.mk (qb HO267 hb)
     have n5_ := Aside0.mk (bB BK220 hb)
     have n6_ := Aside0.mk (bB BK221 hb)
     have n7_ := Aside0.mk (bB BK234 hb)
     have n8_ := Aside0.mk (bB BK238 hb)
     have n9_ := Aside0.mk (bB BK242 hb)
     have n10_ := Aside0.mk (bB BK247 hb)
     have n11_ := Aside0.mk (below_step (hq6 HB GE220 GE221 GE234 GE238 GE242 GE247) hb)
     have n12_ := Aside0.mk (hbox)
     have n13_ := Aside0.mk (ng hg (hq6 HB GE220 GE221 GE234 GE238 GE242 GE247))
     have n14_ := Aside0.mk (ng hg (hq6 HB GE220 GE221 GE234 GE238 GE242 GE247))
     have n15_ := Aside0.mk (nl hg BK220)
     have n16_ := Aside0.mk (nr hg BK220)
     have n17_ := Aside0.mk (nl hg BK221)
     have n18_ := Aside0.mk (nr hg BK221)
     have n19_ := Aside0.mk (nl hg BK234)
     have n20_ := Aside0.mk (nr hg BK234)
     have n21_ := Aside0.mk (nl hg BK238)
     have n22_ := Aside0.mk (nr hg BK238)
     have n23_ := Aside0.mk (nl hg BK242)
     have n24_ := Aside0.mk (nr hg BK242)
     have n25_ := Aside0.mk (nl hg BK247)
     have n26_ := Aside0.mk (nr hg BK247)
     clear HO_235000
     clear HO_239000
     clear HO_243000
     clear HO_248000
     clear HO267
     clear BK220
     clear BK221
     clear BK234
     clear BK238
     clear BK242
     clear BK247
     clear HB
     have HO_235000 := n0_
     have HO_239000 := n1_
     have HO_243000 := n2_
     have HO_248000 := n3_
     have HO267 := n4_
     have BK220 := n5_
     have BK221 := n6_
     have BK234 := n7_
     have BK238 := n8_
     have BK242 := n9_
     have BK247 := n10_
     have HB := n11_
     have BK275 := n12_
     have GW275 := n13_
     have GE275 := n14_
     have NB220_275 := n15_
     have NB275_220 := n16_
     have NB221_275 := n17_
     have NB275_221 := n18_
     have NB234_275 := n19_
     have NB275_234 := n20_
     have NB238_275 := n21_
     have NB275_238 := n22_
     have NB242_275 := n23_
     have NB275_242 := n24_
     have NB247_275 := n25_
     have NB275_247 := n26_
     clear n0_ n1_ n2_ n3_ n4_ n5_ n6_ n7_ n8_ n9_ n10_ n11_ n12_ n13_ n14_ n15_ n16_ n17_ n18_ n19_ n20_ n21_ n22_ n23_ n24_ n25_ n26_
     clear hb hbox hg
     refine hK.out _ _ ⟨(blk_cell BK220.out 0).trans rfl, (blk_cell BK221.out 0).trans rfl⟩ (fun hHeld => ?_)
     clear hK K
     refine norm_ (a' := ?_) ?_ ?_
     rotate_left
     · show Act.put _ (some 15) _ = _
       simp only [Act.put, List.setIfInBounds_toArray, List.set_cons_zero, List.set_cons_succ, i64_w, i32_w]
       rfl
     refine one_ (i := 3) (N := some 98) #[true, true, true, true, false, false, false, false, true, false, false] rfl rfl (one_of HT_.out (by kernel_rfl)) (by decide) (fun K hK => ?_)
     refine goes_ Try.func17 (by kernel_rfl) rfl #[.agg #[.slice A1_0 l1_0.length c1_0]] (by rfl) rfl rfl (by (try simp only [List.map_toArray, List.map_cons, List.map_nil]); first | done | rfl | (simp only [List.length_drop, List.length_take]; rfl)) ?_
     with_reducible refine (laws_toBig.calls kj108 _ _ l1_0 t268 _ ?side1 ?side2 A173.out).mono ?_
     (case side1 => repeat (first | exact (Kd.C_below HR1_0.out HB.out) | (with_reducible refine Kd.C_alloc ?_ _) | (with_reducible refine Kd.C_drewN ?_ _) | (with_reducible refine Kd.C_drew ?_)))
     (case side2 => exact HC1_0.out)
     rintro e w188 ⟨v269, rfl, ho0, hb⟩
     refine ⟨_, rfl, ?_⟩
     have n0_ := Aside0.mk (qe HO_235000 ho0 hb)
     have n1_ := Aside0.mk (qe HO_239000 ho0 hb)
     have n2_ := Aside0.mk (qe HO_243000 ho0 hb)
     have n3_ := Aside0.mk (qe HO_248000 ho0 hb)
     have n4_ := Aside0.mk (qe HO267 ho0 hb)
     have n5_ := Aside0.mk (Kd.R_lower (Kd.R_new' (Kd.R_new' (Kd.R_new' (Kd.R_new' (Kd.R_new' ho0 (ql HO_235000)) (ql HO_239000)) (ql HO_243000)) (ql HO_248000)) (ql HO267)) (below_size (hq7 HB GE220 GE221 GE234 GE238 GE242 GE247 GE275)))
     have n6_ := Aside0.mk (bB BK220 hb)
     have n7_ := Aside0.mk (bB BK221 hb)
     have n8_ := Aside0.mk (bB BK234 hb)
     have n9_ := Aside0.mk (bB BK238 hb)
     have n10_ := Aside0.mk (bB BK242 hb)
     have n11_ := Aside0.mk (bB BK247 hb)
     have n12_ := Aside0.mk (bB BK275 hb)
     have n13_ := Aside0.mk (below_step (hq7 HB GE220 GE221 GE234 GE238 GE242 GE247 GE275) hb)
     clear HO_235000
     clear HO_239000
     clear HO_243000
     clear HO_248000
     clear HO267
     clear BK220
     clear BK221
     clear BK234
     clear BK238
     clear BK242
     clear BK247
     clear BK275
     clear HB
     have HO_235000 := n0_
     have HO_239000 := n1_
     have HO_243000 := n2_
     have HO_248000 := n3_
     have HO267 := n4_
     have HO270 := n5_
     have BK220 := n6_
     have BK221 := n7_
     have BK234 := n8_
     have BK238 := n9_
     have BK242 := n10_
     have BK247 := n11_
     have BK275 := n12_
     have HB := n13_
     clear n0_ n1_ n2_ n3_ n4_ n5_ n6_ n7_ n8_ n9_ n10_ n11_ n12_ n13_
     (try clear hb)
     (try clear hb2)
     (try clear hk)
     (try clear hi)
     (try clear ho0)
     obtain ⟨Ao189, co189, eo189⟩ := Kd.R_slice HO267.out
     (first | subst eo189 | (injection eo189 with f1_ f2_ f3_; have f4_ := f1_.symm; have f5_ := f3_.symm; clear f1_ f2_ f3_; subst f4_; subst f5_))
     obtain ⟨Ao190, co190, eo190⟩ := Kd.R_slice HO270.out
     (first | subst eo190 | (injection eo190 with f1_ f2_ f3_; have f4_ := f1_.symm; have f5_ := f3_.symm; clear f1_ f2_ f3_; subst f4_; subst f5_))
     refine hK.out _ _ ⟨(blk_cell BK220.out 0).trans rfl, (blk_cell BK221.out 0).trans rfl⟩ (fun hHeld => ?_)
     clear hK K
     refine norm_ (a' := ?_) ?_ ?_
     rotate_left
     · show Act.put _ (some 98) _ = _
       simp only [Act.put, List.setIfInBounds_toArray, List.set_cons_zero, List.set_cons_succ, i64_w, i32_w]
       rfl
     refine one_ (i := 4) (N := some 99) #[true, true, true, true, true, false, false, false, true, false, false] rfl rfl (one_of HT_.out (by kernel_rfl)) (by decide) (fun K hK => ?_)
     refine goes_ Try.func41 (by kernel_rfl) rfl #[.agg #[.slice Ao189 t265.length co189], .agg #[.slice Ao190 t268.length co190]] (by rfl) rfl rfl (by (try simp only [List.map_toArray, List.map_cons, List.map_nil]); first | done | rfl | (simp only [List.length_drop, List.length_take]; rfl)) ?_
     with_reducible refine (impl_HalvesTimes.calls kj108 (fun k_ => some k_ = (.slice Ao189 t265.length co189 : Value).ownBlock) _ _ t265 (fun k_ => some k_ = (.slice Ao190 t268.length co190 : Value).ownBlock) _ _ t268 t271 t274 _ ?side1 ?side2 A174.out).mono ?_
     (case side1 => exact Kd.R_V (Kd.R_tight rfl (Kd.R_types (Kd.R_types (Kd.R_types (Kd.R_types (Kd.R_types (Kd.R_types (Kd.R_types (HO267.out) BK220.out (by decide)) BK221.out (by decide)) BK234.out (by decide)) BK238.out (by decide)) BK242.out (by decide)) BK247.out (by decide)) BK275.out (by decide))))
     (case side2 => exact Kd.R_V (Kd.R_tight rfl (Kd.R_types (Kd.R_types (Kd.R_types (Kd.R_types (Kd.R_types (Kd.R_types (Kd.R_types (HO270.out) BK220.out (by decide)) BK221.out (by decide)) BK234.out (by decide)) BK238.out (by decide)) BK242.out (by decide)) BK247.out (by decide)) BK275.out (by decide))))
     rintro e w191 ⟨v272, rfl, ho0, hb⟩
     refine ⟨_, rfl, ?_⟩
     have n0_ := Aside0.mk (qe HO_235000 ho0 hb)
     have n1_ := Aside0.mk (qe HO_239000 ho0 hb)
     have n2_ := Aside0.mk (qe HO_243000 ho0 hb)
     have n3_ := Aside0.mk (qe HO_248000 ho0 hb)
     have n4_ := Aside0.mk (qe HO267 ho0 hb)
     have n5_ := Aside0.mk (qe HO270 ho0 hb)
     have n6_ := Aside0.mk (Kd.R_lower (Kd.R_new' (Kd.R_new' (Kd.R_new' (Kd.R_new' (Kd.R_new' (Kd.R_new' (Kd.R_mono (ok' := fun k_ => True) ho0 (fun _ hk_ => trivial)) (ql HO_235000)) (ql HO_239000)) (ql HO_243000)) (ql HO_248000)) (ql HO267)) (ql HO270)) (below_size (hq7 HB GE220 GE221 GE234 GE238 GE242 GE247 GE275)))
     have n7_ := Aside0.mk (bB BK220 hb)
     have n8_ := Aside0.mk (bB BK221 hb)
     have n9_ := Aside0.mk (bB BK234 hb)
     have n10_ := Aside0.mk (bB BK238 hb)
     have n11_ := Aside0.mk (bB BK242 hb)
     have n12_ := Aside0.mk (bB BK247 hb)
     have n13_ := Aside0.mk (bB BK275 hb)
     have n14_ := Aside0.mk (below_step (hq7 HB GE220 GE221 GE234 GE238 GE242 GE247 GE275) hb)
     clear HO_235000
     clear HO_239000
     clear HO_243000
     clear HO_248000
     clear HO267
     clear HO270
     clear BK220
     clear BK221
     clear BK234
     clear BK238
     clear BK242
     clear BK247
     clear BK275
     clear HB
     have HO_235000 := n0_
     have HO_239000 := n1_
     have HO_243000 := n2_
     have HO_248000 := n3_
     have HO267 := n4_
     have HO270 := n5_
     have HO273 := n6_
     have BK220 := n7_
     have BK221 := n8_
     have BK234 := n9_
     have BK238 := n10_
     have BK242 := n11_
     have BK247 := n12_
     have BK275 := n13_
     have HB := n14_
     clear n0_ n1_ n2_ n3_ n4_ n5_ n6_ n7_ n8_ n9_ n10_ n11_ n12_ n13_ n14_
     (try clear hb)
     (try clear hb2)
     (try clear hk)
     (try clear hi)
     (try clear ho0)
     refine hK.out _ _ ⟨(blk_cell BK220.out 0).trans rfl, (blk_cell BK221.out 0).trans rfl⟩ (fun hHeld => ?_)
     clear hK K
     refine norm_ (a' := ?_) ?_ ?_
     rotate_left
     · show Act.put _ (some 99) _ = _
       simp only [Act.put, List.setIfInBounds_toArray, List.set_cons_zero, List.set_cons_succ, i64_w, i32_w]
       rfl
     refine pure_ (i := 5) (N := some 94) (v := ?_) (a' := ?_) #[true, true, true, true, true, true, false, false, true, false, false] rfl rfl (any_of HT_.out (by kernel_rfl)) (fun _ _ _ h => h) (Or.inl ⟨by rfl, ?_⟩) ?_ ?_
     rotate_left
     · intro w'
       first | (go_simp; with_reducible rfl) | (go_simp; unfold Instr.field; go_simp; rfl)
     rotate_left
     · simp only [Act.put, List.setIfInBounds_toArray, List.set_cons_zero, List.set_cons_succ, i64_w, i32_w]
       rfl
     refine pure_ (i := 6) (N := some 100) (v := ?_) (a' := ?_) #[true, true, true, true, true, true, true, false, true, false, false] rfl rfl (any_of HT_.out (by kernel_rfl)) (fun _ _ _ h => h) (Or.inl ⟨by rfl, ?_⟩) ?_ ?_
     rotate_left
     · intro w'
       first | (go_simp; with_reducible rfl) | (go_simp; unfold Instr.field; go_simp; rfl)
     rotate_left
     · simp only [Act.put, List.setIfInBounds_toArray, List.set_cons_zero, List.set_cons_succ, i64_w, i32_w]
       rfl
     refine pure_ (i := 7) (N := some 101) (v := ?_) (a' := ?_) #[true, true, true, true, true, true, true, true, true, false, false] rfl rfl (any_of HT_.out (by kernel_rfl)) (fun _ _ _ h => h) (Or.inl ⟨by rfl, ?_⟩) ?_ ?_
     rotate_left
     · intro w'
       first | (go_simp; with_reducible rfl) | (go_simp; unfold Instr.field; go_simp; rfl)
     rotate_left
     · simp only [Act.put, List.setIfInBounds_toArray, List.set_cons_zero, List.set_cons_succ, i64_w, i32_w]
       rfl
     exact norm_ (by simp only [putAll, Act.put, List.setIfInBounds_toArray, List.set_cons_zero, List.set_cons_succ]) (hCont (.slice Ao189 t265.length co189, .slice Ao190 t268.length co190, v272, gb275) _ ⟨hHeld, (by (with_reducible repeat (first | apply Kd.R_alloc | apply Kd.R_drewN | apply Kd.R_drew)); exact Kd.R_mono HO267.out (fun _ hk => ⟨hk.1.2, ⟨hk.2, ⟨hk.1.1.1.1.1.2, ⟨hk.1.1.1.1.2, ⟨hk.1.1.1.2, hk.1.1.2⟩⟩⟩⟩⟩)), (by (with_reducible repeat (first | apply Kd.R_alloc | apply Kd.R_drewN | apply Kd.R_drew)); exact Kd.R_mono HO270.out (fun _ hk => ⟨hk.1.2, ⟨hk.2, ⟨hk.1.1.1.1.1.2, ⟨hk.1.1.1.1.2, ⟨hk.1.1.1.2, hk.1.1.2⟩⟩⟩⟩⟩)), (by (with_reducible repeat (first | apply Kd.R_alloc | apply Kd.R_drewN | apply Kd.R_drew)); exact Kd.R_mono HO273.out (fun _ hk => ⟨hk.1.2, ⟨hk.2, ⟨hk.1.1.1.1.1.2, ⟨hk.1.1.1.1.2, ⟨hk.1.1.1.2, hk.1.1.2⟩⟩⟩⟩⟩)), (by (with_reducible repeat (first | apply Kd.R_alloc | apply Kd.R_drewN | apply Kd.R_drew)); exact Kd.R_mono HO_235000.out (fun _ hk => ⟨hk.1.1.2, ⟨hk.1.2, ⟨hk.2, ⟨hk.1.1.1.1, ⟨hk.1.1.1.2.1, hk.1.1.1.2.2⟩⟩⟩⟩⟩)), (by (with_reducible repeat (first | apply Kd.R_alloc | apply Kd.R_drewN | apply Kd.R_drew)); exact Kd.R_mono HO_239000.out (fun _ hk => ⟨hk.1.1.2, ⟨hk.1.2, ⟨hk.2, ⟨hk.1.1.1.1, ⟨hk.1.1.1.2.1, hk.1.1.1.2.2⟩⟩⟩⟩⟩)), (by (with_reducible repeat (first | apply Kd.R_alloc | apply Kd.R_drewN | apply Kd.R_drew)); exact Kd.R_mono HO_243000.out (fun _ hk => ⟨hk.1.1.2, ⟨hk.1.2, ⟨hk.2, ⟨hk.1.1.1.1, ⟨hk.1.1.1.2.1, hk.1.1.1.2.2⟩⟩⟩⟩⟩)), (by (with_reducible repeat (first | apply Kd.R_alloc | apply Kd.R_drewN | apply Kd.R_drew)); exact Kd.R_mono HO_248000.out (fun _ hk => ⟨hk.1.1.2, ⟨hk.1.2, ⟨hk.2, ⟨hk.1.1.1.1, ⟨hk.1.1.1.2.1, hk.1.1.1.2.2⟩⟩⟩⟩⟩)), (bq BK220), (bq BK221), (bq BK234), (bq BK238), (bq BK242), (bq BK247), (bq BK275), GW275.out, GE275.out, NB220_275.out, NB275_220.out, NB221_275.out, NB275_221.out, NB234_275.out, NB275_234.out, NB238_275.out, NB275_238.out, NB242_275.out, NB275_242.out, NB247_275.out, NB275_247.out, (hq7 HB GE220 GE221 GE234 GE238 GE242 GE247 GE275)⟩)
   skip
   refine box_step ?hg (N := 15) ?hd (cs := #[.slice none 0 0]) (t := 27) ?hr ?_; (case hd => rfl); (case hg => rfl); (case hr => first | (go_simp; done) | (go_simp; rfl))
   intro gb275 hg w186 hbox hb
   have n0_ := Aside0.mk (qb HO_235000 hb)
   have n1_ := Aside0.mk (qb HO_239000 hb)
   have n2_ := Aside0.mk (qb HO_243000 hb)
   have n3_ := Aside0.mk (qb HO_248000 hb)
   have n4_ := Aside0.mk (bB BK220 hb)
   have n5_ := Aside0.mk (bB BK221 hb)
   have n6_ := Aside0.mk (bB BK234 hb)
   have n7_ := Aside0.mk (bB BK238 hb)
   have n8_ := Aside0.mk (bB BK242 hb)
   have n9_ := Aside0.mk (bB BK247 hb)
   have n10_ := Aside0.mk (below_step (hq6 HB GE220 GE221 GE234 GE238 GE242 GE247) hb)
   have n11_ := Aside0.mk (hbox)
   have n12_ := Aside0.mk (ng hg (hq6 HB GE220 GE221 GE234 GE238 GE242 GE247))
   have n13_ := Aside0.mk (ng hg (hq6 HB GE220 GE221 GE234 GE238 GE242 GE247))
   have n14_ := Aside0.mk (nl hg BK220)
   have n15_ := Aside0.mk (nr hg BK220)
   have n16_ := Aside0.mk (nl hg BK221)
   have n17_ := Aside0.mk (nr hg BK221)
   have n18_ := Aside0.mk (nl hg BK234)
   have n19_ := Aside0.mk (nr hg BK234)
   have n20_ := Aside0.mk (nl hg BK238)
   have n21_ := Aside0.mk (nr hg BK238)
   have n22_ := Aside0.mk (nl hg BK242)
   have n23_ := Aside0.mk (nr hg BK242)
   have n24_ := Aside0.mk (nl hg BK247)
   have n25_ := Aside0.mk (nr hg BK247)
   clear HO_235000
   clear HO_239000
   clear HO_243000
   clear HO_248000
   clear BK220
   clear BK221
   clear BK234
   clear BK238
   clear BK242
   clear BK247
   clear HB
   have HO_235000 := n0_
   have HO_239000 := n1_
   have HO_243000 := n2_
   have HO_248000 := n3_
   have BK220 := n4_
   have BK221 := n5_
   have BK234 := n6_
   have BK238 := n7_
   have BK242 := n8_
   have BK247 := n9_
   have HB := n10_
   have BK275 := n11_
   have GW275 := n12_
   have GE275 := n13_
   have NB220_275 := n14_
   have NB275_220 := n15_
   have NB221_275 := n16_
   have NB275_221 := n17_
   have NB234_275 := n18_
   have NB275_234 := n19_
   have NB238_275 := n20_
   have NB275_238 := n21_
   have NB242_275 := n22_
   have NB275_242 := n23_
   have NB247_275 := n24_
   have NB275_247 := n25_
   clear n0_ n1_ n2_ n3_ n4_ n5_ n6_ n7_ n8_ n9_ n10_ n11_ n12_ n13_ n14_ n15_ n16_ n17_ n18_ n19_ n20_ n21_ n22_ n23_ n24_ n25_
   clear hb hbox hg
   refine hK.out _ _ ⟨(blk_cell BK220.out 0).trans rfl, (blk_cell BK221.out 0).trans rfl⟩ (fun hHeld => ?_)
   clear hK K
   refine norm_ (a' := ?_) ?_ ?_
   rotate_left
   · show Act.put _ (some 15) _ = _
     simp only [Act.put, List.setIfInBounds_toArray, List.set_cons_zero, List.set_cons_succ, i64_w, i32_w]
     rfl
   refine one_ (i := 1) (N := some 96) #[true, true, true, false, false, false, false, false, true, false, false] rfl rfl (one_of HT_.out (by kernel_rfl)) (by decide) (fun K hK => ?_)
   refine goes_ Try.func17 (by kernel_rfl) rfl #[.agg #[.slice A0_0 l0_0.length c0_0]] (by rfl) rfl rfl (by (try simp only [List.map_toArray, List.map_cons, List.map_nil]); first | done | rfl | (simp only [List.length_drop, List.length_take]; rfl)) ?_
   with_reducible refine (laws_toBig.calls kj108 _ _ l0_0 t265 _ ?side1 ?side2 A172.out).mono ?_
   (case side1 => repeat (first | exact (Kd.C_below HR0_0.out HB.out) | (with_reducible refine Kd.C_alloc ?_ _) | (with_reducible refine Kd.C_drewN ?_ _) | (with_reducible refine Kd.C_drew ?_)))
   (case side2 => exact HC0_0.out)
   rintro e w187 ⟨v266, rfl, ho0, hb⟩
   refine ⟨_, rfl, ?_⟩
   have n0_ := Aside0.mk (qe HO_235000 ho0 hb)
   have n1_ := Aside0.mk (qe HO_239000 ho0 hb)
   have n2_ := Aside0.mk (qe HO_243000 ho0 hb)
   have n3_ := Aside0.mk (qe HO_248000 ho0 hb)
   have n4_ := Aside0.mk (Kd.R_lower (Kd.R_new' (Kd.R_new' (Kd.R_new' (Kd.R_new' ho0 (ql HO_235000)) (ql HO_239000)) (ql HO_243000)) (ql HO_248000)) (below_size (hq7 HB GE220 GE221 GE234 GE238 GE242 GE247 GE275)))
   have n5_ := Aside0.mk (bB BK220 hb)
   have n6_ := Aside0.mk (bB BK221 hb)
   have n7_ := Aside0.mk (bB BK234 hb)
   have n8_ := Aside0.mk (bB BK238 hb)
   have n9_ := Aside0.mk (bB BK242 hb)
   have n10_ := Aside0.mk (bB BK247 hb)
   have n11_ := Aside0.mk (bB BK275 hb)
   have n12_ := Aside0.mk (below_step (hq7 HB GE220 GE221 GE234 GE238 GE242 GE247 GE275) hb)
   clear HO_235000
   clear HO_239000
   clear HO_243000
   clear HO_248000
   clear BK220
   clear BK221
   clear BK234
   clear BK238
   clear BK242
   clear BK247
   clear BK275
   clear HB
   have HO_235000 := n0_
   have HO_239000 := n1_
   have HO_243000 := n2_
   have HO_248000 := n3_
   have HO267 := n4_
   have BK220 := n5_
   have BK221 := n6_
   have BK234 := n7_
   have BK238 := n8_
   have BK242 := n9_
   have BK247 := n10_
   have BK275 := n11_
   have HB := n12_
   clear n0_ n1_ n2_ n3_ n4_ n5_ n6_ n7_ n8_ n9_ n10_ n11_ n12_
   (try clear hb)
   (try clear hb2)
   (try clear hk)
   (try clear hi)
   (try clear ho0)
   refine hK.out _ _ ⟨(blk_cell BK220.out 0).trans rfl, (blk_cell BK221.out 0).trans rfl⟩ (fun hHeld => ?_)
   clear hK K
   refine norm_ (a' := ?_) ?_ ?_
   rotate_left
   · show Act.put _ (some 96) _ = _
     simp only [Act.put, List.setIfInBounds_toArray, List.set_cons_zero, List.set_cons_succ, i64_w, i32_w]
     rfl
   refine one_ (i := 3) (N := some 98) #[true, true, true, true, false, false, false, false, true, false, false] rfl rfl (one_of HT_.out (by kernel_rfl)) (by decide) (fun K hK => ?_)
   refine goes_ Try.func17 (by kernel_rfl) rfl #[.agg #[.slice A1_0 l1_0.length c1_0]] (by rfl) rfl rfl (by (try simp only [List.map_toArray, List.map_cons, List.map_nil]); first | done | rfl | (simp only [List.length_drop, List.length_take]; rfl)) ?_
   with_reducible refine (laws_toBig.calls kj108 _ _ l1_0 t268 _ ?side1 ?side2 A173.out).mono ?_
   (case side1 => repeat (first | exact (Kd.C_below HR1_0.out HB.out) | (with_reducible refine Kd.C_alloc ?_ _) | (with_reducible refine Kd.C_drewN ?_ _) | (with_reducible refine Kd.C_drew ?_)))
   (case side2 => exact HC1_0.out)
   rintro e w188 ⟨v269, rfl, ho0, hb⟩
   refine ⟨_, rfl, ?_⟩
   have n0_ := Aside0.mk (qe HO_235000 ho0 hb)
   have n1_ := Aside0.mk (qe HO_239000 ho0 hb)
   have n2_ := Aside0.mk (qe HO_243000 ho0 hb)
   have n3_ := Aside0.mk (qe HO_248000 ho0 hb)
   have n4_ := Aside0.mk (qe HO267 ho0 hb)
   have n5_ := Aside0.mk (Kd.R_lower (Kd.R_new' (Kd.R_new' (Kd.R_new' (Kd.R_new' (Kd.R_new' ho0 (ql HO_235000)) (ql HO_239000)) (ql HO_243000)) (ql HO_248000)) (ql HO267)) (below_size (hq7 HB GE220 GE221 GE234 GE238 GE242 GE247 GE275)))
   have n6_ := Aside0.mk (bB BK220 hb)
   have n7_ := Aside0.mk (bB BK221 hb)
   have n8_ := Aside0.mk (bB BK234 hb)
   have n9_ := Aside0.mk (bB BK238 hb)
   have n10_ := Aside0.mk (bB BK242 hb)
   have n11_ := Aside0.mk (bB BK247 hb)
   have n12_ := Aside0.mk (bB BK275 hb)
   have n13_ := Aside0.mk (below_step (hq7 HB GE220 GE221 GE234 GE238 GE242 GE247 GE275) hb)
   clear HO_235000
   clear HO_239000
   clear HO_243000
   clear HO_248000
   clear HO267
   clear BK220
   clear BK221
   clear BK234
   clear BK238
   clear BK242
   clear BK247
   clear BK275
   clear HB
   have HO_235000 := n0_
   have HO_239000 := n1_
   have HO_243000 := n2_
   have HO_248000 := n3_
   have HO267 := n4_
   have HO270 := n5_
   have BK220 := n6_
   have BK221 := n7_
   have BK234 := n8_
   have BK238 := n9_
   have BK242 := n10_
   have BK247 := n11_
   have BK275 := n12_
   have HB := n13_
   clear n0_ n1_ n2_ n3_ n4_ n5_ n6_ n7_ n8_ n9_ n10_ n11_ n12_ n13_
   (try clear hb)
   (try clear hb2)
   (try clear hk)
   (try clear hi)
   (try clear ho0)
   obtain ⟨Ao189, co189, eo189⟩ := Kd.R_slice HO267.out
   (first | subst eo189 | (injection eo189 with f1_ f2_ f3_; have f4_ := f1_.symm; have f5_ := f3_.symm; clear f1_ f2_ f3_; subst f4_; subst f5_))
   obtain ⟨Ao190, co190, eo190⟩ := Kd.R_slice HO270.out
   (first | subst eo190 | (injection eo190 with f1_ f2_ f3_; have f4_ := f1_.symm; have f5_ := f3_.symm; clear f1_ f2_ f3_; subst f4_; subst f5_))
   refine hK.out _ _ ⟨(blk_cell BK220.out 0).trans rfl, (blk_cell BK221.out 0).trans rfl⟩ (fun hHeld => ?_)
   clear hK K
   refine norm_ (a' := ?_) ?_ ?_
   rotate_left
   · show Act.put _ (some 98) _ = _
     simp only [Act.put, List.setIfInBounds_toArray, List.set_cons_zero, List.set_cons_succ, i64_w, i32_w]
     rfl
   refine one_ (i := 4) (N := some 99) #[true, true, true, true, true, false, false, false, true, false, false] rfl rfl (one_of HT_.out (by kernel_rfl)) (by decide) (fun K hK => ?_)
   refine goes_ Try.func41 (by kernel_rfl) rfl #[.agg #[.slice Ao189 t265.length co189], .agg #[.slice Ao190 t268.length co190]] (by rfl) rfl rfl (by (try simp only [List.map_toArray, List.map_cons, List.map_nil]); first | done | rfl | (simp only [List.length_drop, List.length_take]; rfl)) ?_
   with_reducible refine (impl_HalvesTimes.calls kj108 (fun k_ => some k_ = (.slice Ao189 t265.length co189 : Value).ownBlock) _ _ t265 (fun k_ => some k_ = (.slice Ao190 t268.length co190 : Value).ownBlock) _ _ t268 t271 t274 _ ?side1 ?side2 A174.out).mono ?_
   (case side1 => exact Kd.R_V (Kd.R_tight rfl (Kd.R_types (Kd.R_types (Kd.R_types (Kd.R_types (Kd.R_types (Kd.R_types (Kd.R_types (HO267.out) BK220.out (by decide)) BK221.out (by decide)) BK234.out (by decide)) BK238.out (by decide)) BK242.out (by decide)) BK247.out (by decide)) BK275.out (by decide))))
   (case side2 => exact Kd.R_V (Kd.R_tight rfl (Kd.R_types (Kd.R_types (Kd.R_types (Kd.R_types (Kd.R_types (Kd.R_types (Kd.R_types (HO270.out) BK220.out (by decide)) BK221.out (by decide)) BK234.out (by decide)) BK238.out (by decide)) BK242.out (by decide)) BK247.out (by decide)) BK275.out (by decide))))
   rintro e w191 ⟨v272, rfl, ho0, hb⟩
   refine ⟨_, rfl, ?_⟩
   have n0_ := Aside0.mk (qe HO_235000 ho0 hb)
   have n1_ := Aside0.mk (qe HO_239000 ho0 hb)
   have n2_ := Aside0.mk (qe HO_243000 ho0 hb)
   have n3_ := Aside0.mk (qe HO_248000 ho0 hb)
   have n4_ := Aside0.mk (qe HO267 ho0 hb)
   have n5_ := Aside0.mk (qe HO270 ho0 hb)
   have n6_ := Aside0.mk (Kd.R_lower (Kd.R_new' (Kd.R_new' (Kd.R_new' (Kd.R_new' (Kd.R_new' (Kd.R_new' (Kd.R_mono (ok' := fun k_ => True) ho0 (fun _ hk_ => trivial)) (ql HO_235000)) (ql HO_239000)) (ql HO_243000)) (ql HO_248000)) (ql HO267)) (ql HO270)) (below_size (hq7 HB GE220 GE221 GE234 GE238 GE242 GE247 GE275)))
   have n7_ := Aside0.mk (bB BK220 hb)
   have n8_ := Aside0.mk (bB BK221 hb)
   have n9_ := Aside0.mk (bB BK234 hb)
   have n10_ := Aside0.mk (bB BK238 hb)
   have n11_ := Aside0.mk (bB BK242 hb)
   have n12_ := Aside0.mk (bB BK247 hb)
   have n13_ := Aside0.mk (bB BK275 hb)
   have n14_ := Aside0.mk (below_step (hq7 HB GE220 GE221 GE234 GE238 GE242 GE247 GE275) hb)
   clear HO_235000
   clear HO_239000
   clear HO_243000
   clear HO_248000
   clear HO267
   clear HO270
   clear BK220
   clear BK221
   clear BK234
   clear BK238
   clear BK242
   clear BK247
   clear BK275
   clear HB
   have HO_235000 := n0_
   have HO_239000 := n1_
   have HO_243000 := n2_
   have HO_248000 := n3_
   have HO267 := n4_
   have HO270 := n5_
   have HO273 := n6_
   have BK220 := n7_
   have BK221 := n8_
   have BK234 := n9_
   have BK238 := n10_
   have BK242 := n11_
   have BK247 := n12_
   have BK275 := n13_
   have HB := n14_
   clear n0_ n1_ n2_ n3_ n4_ n5_ n6_ n7_ n8_ n9_ n10_ n11_ n12_ n13_ n14_
   (try clear hb)
   (try clear hb2)
   (try clear hk)
   (try clear hi)
   (try clear ho0)
   refine hK.out _ _ ⟨(blk_cell BK220.out 0).trans rfl, (blk_cell BK221.out 0).trans rfl⟩ (fun hHeld => ?_)
   clear hK K
   refine norm_ (a' := ?_) ?_ ?_
   rotate_left
   · show Act.put _ (some 99) _ = _
     simp only [Act.put, List.setIfInBounds_toArray, List.set_cons_zero, List.set_cons_succ, i64_w, i32_w]
     rfl
   refine pure_ (i := 5) (N := some 94) (v := ?_) (a' := ?_) #[true, true, true, true, true, true, false, false, true, false, false] rfl rfl (any_of HT_.out (by kernel_rfl)) (fun _ _ _ h => h) (Or.inl ⟨by rfl, ?_⟩) ?_ ?_
   rotate_left
   · intro w'
     first | (go_simp; with_reducible rfl) | (go_simp; unfold Instr.field; go_simp; rfl)
   rotate_left
   · simp only [Act.put, List.setIfInBounds_toArray, List.set_cons_zero, List.set_cons_succ, i64_w, i32_w]
     rfl
   refine pure_ (i := 6) (N := some 100) (v := ?_) (a' := ?_) #[true, true, true, true, true, true, true, false, true, false, false] rfl rfl (any_of HT_.out (by kernel_rfl)) (fun _ _ _ h => h) (Or.inl ⟨by rfl, ?_⟩) ?_ ?_
   rotate_left
   · intro w'
     first | (go_simp; with_reducible rfl) | (go_simp; unfold Instr.field; go_simp; rfl)
   rotate_left
   · simp only [Act.put, List.setIfInBounds_toArray, List.set_cons_zero, List.set_cons_succ, i64_w, i32_w]
     rfl
   refine pure_ (i := 7) (N := some 101) (v := ?_) (a' := ?_) #[true, true, true, true, true, true, true, true, true, false, false] rfl rfl (any_of HT_.out (by kernel_rfl)) (fun _ _ _ h => h) (Or.inl ⟨by rfl, ?_⟩) ?_ ?_
   rotate_left
   · intro w'
     first | (go_simp; with_reducible rfl) | (go_simp; unfold Instr.field; go_simp; rfl)
   rotate_left
   · simp only [Act.put, List.setIfInBounds_toArray, List.set_cons_zero, List.set_cons_succ, i64_w, i32_w]
     rfl
   exact norm_ (by simp only [putAll, Act.put, List.setIfInBounds_toArray, List.set_cons_zero, List.set_cons_succ]) (hCont (.slice Ao189 t265.length co189, .slice Ao190 t268.length co190, v272, gb275) _ ⟨hHeld, (by (with_reducible repeat (first | apply Kd.R_alloc | apply Kd.R_drewN | apply Kd.R_drew)); exact Kd.R_mono HO267.out (fun _ hk => ⟨hk.1.2, ⟨hk.2, ⟨hk.1.1.1.1.1.2, ⟨hk.1.1.1.1.2, ⟨hk.1.1.1.2, hk.1.1.2⟩⟩⟩⟩⟩)), (by (with_reducible repeat (first | apply Kd.R_alloc | apply Kd.R_drewN | apply Kd.R_drew)); exact Kd.R_mono HO270.out (fun _ hk => ⟨hk.1.2, ⟨hk.2, ⟨hk.1.1.1.1.1.2, ⟨hk.1.1.1.1.2, ⟨hk.1.1.1.2, hk.1.1.2⟩⟩⟩⟩⟩)), (by (with_reducible repeat (first | apply Kd.R_alloc | apply Kd.R_drewN | apply Kd.R_drew)); exact Kd.R_mono HO273.out (fun _ hk => ⟨hk.1.2, ⟨hk.2, ⟨hk.1.1.1.1.1.2, ⟨hk.1.1.1.1.2, ⟨hk.1.1.1.2, hk.1.1.2⟩⟩⟩⟩⟩)), (by (with_reducible repeat (first | apply Kd.R_alloc | apply Kd.R_drewN | apply Kd.R_drew)); exact Kd.R_mono HO_235000.out (fun _ hk => ⟨hk.1.1.2, ⟨hk.1.2, ⟨hk.2, ⟨hk.1.1.1.1, ⟨hk.1.1.1.2.1, hk.1.1.1.2.2⟩⟩⟩⟩⟩)), (by (with_reducible repeat (first | apply Kd.R_alloc | apply Kd.R_drewN | apply Kd.R_drew)); exact Kd.R_mono HO_239000.out (fun _ hk => ⟨hk.1.1.2, ⟨hk.1.2, ⟨hk.2, ⟨hk.1.1.1.1, ⟨hk.1.1.1.2.1, hk.1.1.1.2.2⟩⟩⟩⟩⟩)), (by (with_reducible repeat (first | apply Kd.R_alloc | apply Kd.R_drewN | apply Kd.R_drew)); exact Kd.R_mono HO_243000.out (fun _ hk => ⟨hk.1.1.2, ⟨hk.1.2, ⟨hk.2, ⟨hk.1.1.1.1, ⟨hk.1.1.1.2.1, hk.1.1.1.2.2⟩⟩⟩⟩⟩)), (by (with_reducible repeat (first | apply Kd.R_alloc | apply Kd.R_drewN | apply Kd.R_drew)); exact Kd.R_mono HO_248000.out (fun _ hk => ⟨hk.1.1.2, ⟨hk.1.2, ⟨hk.2, ⟨hk.1.1.1.1, ⟨hk.1.1.1.2.1, hk.1.1.1.2.2⟩⟩⟩⟩⟩)), (bq BK220), (bq BK221), (bq BK234), (bq BK238), (bq BK242), (bq BK247), (bq BK275), GW275.out, GE275.out, NB220_275.out, NB275_220.out, NB221_275.out, NB275_221.out, NB234_275.out, NB275_234.out, NB238_275.out, NB275_238.out, NB242_275.out, NB275_242.out, NB247_275.out, NB275_247.out, (hq7 HB GE220 GE221 GE234 GE238 GE242 GE247 GE275)⟩)
 rintro ⟨v266, v269, v272, gb275⟩ w192 ⟨hS_, h0_, h1_, h2_, h3_, h4_, h5_, h6_, h7_, h8_, h9_, h10_, h11_, h12_, h13_, h14_, h15_, h16_, h17_, h18_, h19_, h20_, h21_, h22_, h23_, h24_, h25_, h26_, h27_, h28_⟩
 have n0_ : Aside0 (Kd.R (Kd.int .i64) 3 w192 w.heap.size (fun k_ => some k_ ≠ (v269 : Value).ownBlock ∧ some k_ ≠ (v272 : Value).ownBlock ∧ some k_ ≠ (.slice Ao41 t230.length co41 : Value).ownBlock ∧ some k_ ≠ (.slice Ao47 t258.length co47 : Value).ownBlock ∧ some k_ ≠ (.slice Ao56 t260.length co56 : Value).ownBlock ∧ some k_ ≠ (.slice Ao67 t243.length co67 : Value).ownBlock) v266 t265) := ⟨h0_⟩
 have n1_ : Aside0 (Kd.R (Kd.int .i64) 3 w192 w.heap.size (fun k_ => some k_ ≠ (v266 : Value).ownBlock ∧ some k_ ≠ (v272 : Value).ownBlock ∧ some k_ ≠ (.slice Ao41 t230.length co41 : Value).ownBlock ∧ some k_ ≠ (.slice Ao47 t258.length co47 : Value).ownBlock ∧ some k_ ≠ (.slice Ao56 t260.length co56 : Value).ownBlock ∧ some k_ ≠ (.slice Ao67 t243.length co67 : Value).ownBlock) v269 t268) := ⟨h1_⟩
 have n2_ : Aside0 (Kd.R (Kd.int .i64) 3 w192 w.heap.size (fun k_ => some k_ ≠ (v266 : Value).ownBlock ∧ some k_ ≠ (v269 : Value).ownBlock ∧ some k_ ≠ (.slice Ao41 t230.length co41 : Value).ownBlock ∧ some k_ ≠ (.slice Ao47 t258.length co47 : Value).ownBlock ∧ some k_ ≠ (.slice Ao56 t260.length co56 : Value).ownBlock ∧ some k_ ≠ (.slice Ao67 t243.length co67 : Value).ownBlock) v272 t271) := ⟨h2_⟩
 have n3_ : Aside0 (Kd.R (Kd.int .i64) 3 w192 w.heap.size (fun k_ => some k_ ≠ (v266 : Value).ownBlock ∧ some k_ ≠ (v269 : Value).ownBlock ∧ some k_ ≠ (v272 : Value).ownBlock ∧ some k_ ≠ (.slice Ao47 t258.length co47 : Value).ownBlock ∧ some k_ ≠ (.slice Ao56 t260.length co56 : Value).ownBlock ∧ some k_ ≠ (.slice Ao67 t243.length co67 : Value).ownBlock) (.slice Ao41 t230.length co41) t230) := ⟨h3_⟩
 have n4_ : Aside0 (Kd.R (Kd.int .i64) 3 w192 w.heap.size (fun k_ => some k_ ≠ (v266 : Value).ownBlock ∧ some k_ ≠ (v269 : Value).ownBlock ∧ some k_ ≠ (v272 : Value).ownBlock ∧ some k_ ≠ (.slice Ao41 t230.length co41 : Value).ownBlock ∧ some k_ ≠ (.slice Ao56 t260.length co56 : Value).ownBlock ∧ some k_ ≠ (.slice Ao67 t243.length co67 : Value).ownBlock) (.slice Ao47 t258.length co47) t258) := ⟨h4_⟩
 have n5_ : Aside0 (Kd.R (Kd.int .i64) 3 w192 w.heap.size (fun k_ => some k_ ≠ (v266 : Value).ownBlock ∧ some k_ ≠ (v269 : Value).ownBlock ∧ some k_ ≠ (v272 : Value).ownBlock ∧ some k_ ≠ (.slice Ao41 t230.length co41 : Value).ownBlock ∧ some k_ ≠ (.slice Ao47 t258.length co47 : Value).ownBlock ∧ some k_ ≠ (.slice Ao67 t243.length co67 : Value).ownBlock) (.slice Ao56 t260.length co56) t260) := ⟨h5_⟩
 have n6_ : Aside0 (Kd.R (Kd.int .i64) 3 w192 w.heap.size (fun k_ => some k_ ≠ (v266 : Value).ownBlock ∧ some k_ ≠ (v269 : Value).ownBlock ∧ some k_ ≠ (v272 : Value).ownBlock ∧ some k_ ≠ (.slice Ao41 t230.length co41 : Value).ownBlock ∧ some k_ ≠ (.slice Ao47 t258.length co47 : Value).ownBlock ∧ some k_ ≠ (.slice Ao56 t260.length co56 : Value).ownBlock) (.slice Ao67 t243.length co67) t263) := ⟨h6_⟩
 have n7_ : Aside0 (w192.heap[gb220]? = some (.cells #[.slice A0_0 l0_0.length c0_0] 24 (0, 0))) := ⟨h7_⟩
 have n8_ : Aside0 (w192.heap[gb221]? = some (.cells #[.slice A1_0 l1_0.length c1_0] 24 (0, 0))) := ⟨h8_⟩
 have n9_ : Aside0 (w192.heap[gb234]? = some (.cells #[.slice Ao41 t230.length co41] 27 (0, 0))) := ⟨h9_⟩
 have n10_ : Aside0 (w192.heap[gb238]? = some (.cells #[.slice Ao47 t258.length co47] 27 (0, 0))) := ⟨h10_⟩
 have n11_ : Aside0 (w192.heap[gb242]? = some (.cells #[.slice Ao56 t260.length co56] 27 (0, 0))) := ⟨h11_⟩
 have n12_ : Aside0 (w192.heap[gb247]? = some (.cells #[.slice Ao67 t243.length co67] 27 (0, 0))) := ⟨h12_⟩
 have n13_ : Aside0 (w192.heap[gb275]? = some (.cells #[.slice none 0 0] 27 (0, 0))) := ⟨h13_⟩
 have n14_ : Aside0 (w.heap.size ≤ gb275) := ⟨h14_⟩
 have n15_ : Aside0 (w.heap.size ≤ gb275) := ⟨h15_⟩
 have n16_ : Aside0 (gb220 ≠ gb275) := ⟨h16_⟩
 have n17_ : Aside0 (gb275 ≠ gb220) := ⟨h17_⟩
 have n18_ : Aside0 (gb221 ≠ gb275) := ⟨h18_⟩
 have n19_ : Aside0 (gb275 ≠ gb221) := ⟨h19_⟩
 have n20_ : Aside0 (gb234 ≠ gb275) := ⟨h20_⟩
 have n21_ : Aside0 (gb275 ≠ gb234) := ⟨h21_⟩
 have n22_ : Aside0 (gb238 ≠ gb275) := ⟨h22_⟩
 have n23_ : Aside0 (gb275 ≠ gb238) := ⟨h23_⟩
 have n24_ : Aside0 (gb242 ≠ gb275) := ⟨h24_⟩
 have n25_ : Aside0 (gb275 ≠ gb242) := ⟨h25_⟩
 have n26_ : Aside0 (gb247 ≠ gb275) := ⟨h26_⟩
 have n27_ : Aside0 (gb275 ≠ gb247) := ⟨h27_⟩
 have n28_ : Aside0 (Below w.heap.size w w192) := ⟨h28_⟩
 clear HO_235000
 clear HO_239000
 clear HO_243000
 clear HO_248000
 clear BK220
 clear BK221
 clear BK234
 clear BK238
 clear BK242
 clear BK247
 clear HB
 clear h0_ h1_ h2_ h3_ h4_ h5_ h6_ h7_ h8_ h9_ h10_ h11_ h12_ h13_ h14_ h15_ h16_ h17_ h18_ h19_ h20_ h21_ h22_ h23_ h24_ h25_ h26_ h27_ h28_
 have HO267 := n0_
 have HO270 := n1_
 have HO273 := n2_
 have HO_235000 := n3_
 have HO_239000 := n4_
 have HO_243000 := n5_
 have HO_248000 := n6_
 have BK220 := n7_
 have BK221 := n8_
 have BK234 := n9_
 have BK238 := n10_
 have BK242 := n11_
 have BK247 := n12_
 have BK275 := n13_
 have GW275 := n14_
 have GE275 := n15_
 have NB220_275 := n16_
 have NB275_220 := n17_
 have NB221_275 := n18_
 have NB275_221 := n19_
 have NB234_275 := n20_
 have NB275_234 := n21_
 have NB238_275 := n22_
 have NB275_238 := n23_
 have NB242_275 := n24_
 have NB275_242 := n25_
 have NB247_275 := n26_
 have NB275_247 := n27_
 have HB := n28_
 clear n0_ n1_ n2_ n3_ n4_ n5_ n6_ n7_ n8_ n9_ n10_ n11_ n12_ n13_ n14_ n15_ n16_ n17_ n18_ n19_ n20_ n21_ n22_ n23_ n24_ n25_ n26_ n27_ n28_
 have hHeld : w192.cell? ⟨gb220, 0, none⟩ = some (.slice A0_0 l0_0.length c0_0) ∧ w192.cell? ⟨gb221, 0, none⟩ = some (.slice A1_0 l1_0.length c1_0) := hS_
 obtain ⟨Ao193, co193, eo193⟩ := Kd.R_slice HO273.out
 (first | subst eo193 | (injection eo193 with f1_ f2_ f3_; have f4_ := f1_.symm; have f5_ := f3_.symm; clear f1_ f2_ f3_; subst f4_; subst f5_))
 refine norm_ (a' := ?_) ?_ ?_
 rotate_left
 · simp only [putAll, Act.put, List.setIfInBounds_toArray, List.set_cons_zero, List.set_cons_succ]
   rfl
 refine one_ (i := 9) (N := none) #[true, true, true, true, true, true, true, true, true, true, false] rfl rfl (one_of HT_.out (by kernel_rfl)) (by decide) (fun K hK => ?_)
 have hs194 : w192.cell? ⟨gb275, 0, none⟩ = some (.slice none 0 0) := (blk_cell BK275.out 0).trans rfl
 have hfs194 := blk_frozen BK275.out 0
 have hns194_0 := NB220_275.out
 have hns194_1 := NB221_275.out
 have hns194_2 := NB234_275.out
 have hns194_3 := NB238_275.out
 have hns194_4 := NB242_275.out
 have hns194_5 := NB247_275.out
 have hms194_0 := NB275_220.out
 have hms194_1 := NB275_221.out
 have hms194_2 := NB275_234.out
 have hms194_3 := NB275_238.out
 have hms194_4 := NB275_242.out
 have hms194_5 := NB275_247.out
 refine skip_ (w1 := ?_) (by rfl) rfl ?_ ?_
 rotate_left
 · go_simp
   rfl
 refine hK.out _ _ ⟨((cell_far (p := ⟨gb275, _, none⟩) NB220_275.out _).trans (hHeld.1)), ((cell_far (p := ⟨gb275, _, none⟩) NB221_275.out _).trans (hHeld.2))⟩ (fun hHeld => ?_)
 clear hK K
 refine pure_ (i := 10) (N := some 16) (v := ?_) (a' := ?_) #[true, true, true, true, true, true, true, true, true, true, true] rfl rfl (any_of HT_.out (by kernel_rfl)) (fun _ _ _ h => h) (Or.inl ⟨by rfl, ?_⟩) ?_ ?_
 rotate_left
 · intro w'
   first | (go_simp; with_reducible rfl) | (go_simp; unfold Instr.field; go_simp; rfl)
 rotate_left
 · simp only [Act.put, List.setIfInBounds_toArray, List.set_cons_zero, List.set_cons_succ, i64_w, i32_w]
   rfl
 refine done_ (done_of HT_.out (by kernel_rfl)) ?_
 go_upto_region 32 with (fail)
 go_cut [110] (fun v110 wc => ∃ (kq : Nat) (x110_174 : Bool), v110 = .bool x110_174 ∧ Aside0 (laws_FnExactHalvesTimes.j2 kq t262 x110_174 t263 = some true) ∧ Aside0 (kq ≤ kj108) ∧ Aside0 (Kd.R (Kd.int .i64) 3 wc w.heap.size (fun k_ => some k_ ≠ ((.slice Ao47 t258.length co47) : Value).ownBlock ∧ some k_ ≠ ((.slice Ao56 t260.length co56) : Value).ownBlock ∧ some k_ ≠ ((.slice Ao67 t243.length co67) : Value).ownBlock ∧ some k_ ≠ ((.slice Ao193 t271.length co193) : Value).ownBlock) (.slice Ao41 t230.length co41) t230) ∧ Aside0 (Kd.R (Kd.int .i64) 3 wc w.heap.size (fun k_ => some k_ ≠ ((.slice Ao41 t230.length co41) : Value).ownBlock ∧ some k_ ≠ ((.slice Ao56 t260.length co56) : Value).ownBlock ∧ some k_ ≠ ((.slice Ao67 t243.length co67) : Value).ownBlock ∧ some k_ ≠ ((.slice Ao193 t271.length co193) : Value).ownBlock) (.slice Ao47 t258.length co47) t258) ∧ Aside0 (Kd.R (Kd.int .i64) 3 wc w.heap.size (fun k_ => some k_ ≠ ((.slice Ao41 t230.length co41) : Value).ownBlock ∧ some k_ ≠ ((.slice Ao47 t258.length co47) : Value).ownBlock ∧ some k_ ≠ ((.slice Ao67 t243.length co67) : Value).ownBlock ∧ some k_ ≠ ((.slice Ao193 t271.length co193) : Value).ownBlock) (.slice Ao56 t260.length co56) t260) ∧ Aside0 (Kd.R (Kd.int .i64) 3 wc w.heap.size (fun k_ => some k_ ≠ ((.slice Ao41 t230.length co41) : Value).ownBlock ∧ some k_ ≠ ((.slice Ao47 t258.length co47) : Value).ownBlock ∧ some k_ ≠ ((.slice Ao56 t260.length co56) : Value).ownBlock ∧ some k_ ≠ ((.slice Ao193 t271.length co193) : Value).ownBlock) (.slice Ao67 t243.length co67) t263) ∧ Aside0 (Kd.R (Kd.int .i64) 3 wc w.heap.size (fun k_ => some k_ ≠ ((.slice Ao41 t230.length co41) : Value).ownBlock ∧ some k_ ≠ ((.slice Ao47 t258.length co47) : Value).ownBlock ∧ some k_ ≠ ((.slice Ao56 t260.length co56) : Value).ownBlock ∧ some k_ ≠ ((.slice Ao67 t243.length co67) : Value).ownBlock) (.slice Ao193 t271.length co193) t271) ∧ Aside0 (wc.heap[gb220]? = some (.cells #[(.slice A0_0 l0_0.length c0_0)] 24 (0, 0))) ∧ Aside0 (wc.heap[gb221]? = some (.cells #[(.slice A1_0 l1_0.length c1_0)] 24 (0, 0))) ∧ Aside0 (wc.heap[gb234]? = some (.cells #[(.slice Ao41 t230.length co41)] 27 (0, 0))) ∧ Aside0 (wc.heap[gb238]? = some (.cells #[(.slice Ao47 t258.length co47)] 27 (0, 0))) ∧ Aside0 (wc.heap[gb242]? = some (.cells #[(.slice Ao56 t260.length co56)] 27 (0, 0))) ∧ Aside0 (wc.heap[gb247]? = some (.cells #[(.slice Ao67 t243.length co67)] 27 (0, 0))) ∧ Aside0 (wc.heap[gb275]? = some (.cells #[(.slice Ao193 t271.length co193)] 27 (0, 0))) ∧ Aside0 (Below w.heap.size w wc))
 case first =>
   have H := HC175.out
   clear HC175
   replace H := Option.bind_eq_some_iff.mp H
   obtain ⟨t276, A1950, H⟩ := H
   replace H : (if t276 = true then (laws_FnExactHalvesTimes.j2 kj108 t262 (t274 != t233) t263) else (laws_FnExactHalvesTimes.j2 kj108 t262 true t263)) = some true := H
   have A195 := Aside0.mk A1950
   clear A1950
   by_cases c196 : t276 = true
   · subst c196
     have H1 : (laws_FnExactHalvesTimes.j2 kj108 t262 (t274 != t233) t263) = some true := by rw [if_pos rfl] at H; exact H
     clear H
     have H := H1
     clear H1
     have H' := Aside0.mk H
     clear H
     have hnb197 := NB275_220.out
     have hnc197 := NB220_275.out
     have hnb198 := NB275_221.out
     have hnc198 := NB221_275.out
     have hnb199 := NB275_234.out
     have hnc199 := NB234_275.out
     have hnb200 := NB275_238.out
     have hnc200 := NB238_275.out
     have hnb201 := NB275_242.out
     have hnc201 := NB242_275.out
     have hnb202 := NB275_247.out
     have hnc202 := NB247_275.out
     have hcz203_0 : w192.cell? ⟨gb275, 0, none⟩ = some (.slice none 0 0) := (blk_cell BK275.out 0).trans rfl
     have hfz203_0 := blk_frozen BK275.out 0
     have hnb204 := NB234_220.out
     have hnc204 := NB220_234.out
     have hnb205 := NB234_221.out
     have hnc205 := NB221_234.out
     have hnb206 := NB234_238.out
     have hnc206 := NB238_234.out
     have hnb207 := NB234_242.out
     have hnc207 := NB242_234.out
     have hnb208 := NB234_247.out
     have hnc208 := NB247_234.out
     have hcz209_0 : w192.cell? ⟨gb234, 0, none⟩ = some (.slice Ao41 t230.length co41) := (blk_cell BK234.out 0).trans rfl
     have hfz209_0 := blk_frozen BK234.out 0
     go_wp2_with (first | ((with_reducible refine gate_callee (f := 19) rfl ?_); refine goesL_ (some 104) rfl rfl Try.func19 (by kernel_rfl) rfl #[.agg #[.slice Ao193 t271.length co193], .agg #[.slice Ao41 t230.length co41]] rfl (by (try simp only [List.map_toArray, List.map_cons, List.map_nil]); first | done | rfl | (simp only [List.length_drop, List.length_take]; rfl)) ?_; (with_reducible refine (laws_eqBig.calls kj108 _ _ t271 _ _ t230 true _ ?side1 ?side2 ?side3 ?side4 A195.out).mono ?_); (case side1 => refine (Kd.R_reads' (e := 3) (base := w.heap.size) (ok := fun k_ => (some k_ ≠ (v266 : Value).ownBlock ∧ (some k_ ≠ (v269 : Value).ownBlock ∧ (some k_ ≠ (.slice Ao41 t230.length co41 : Value).ownBlock ∧ (some k_ ≠ (.slice Ao47 t258.length co47 : Value).ownBlock ∧ (some k_ ≠ (.slice Ao56 t260.length co56 : Value).ownBlock ∧ some k_ ≠ (.slice Ao67 t243.length co67 : Value).ownBlock)))))) (n := t271.length) (c := co193) ?_).2.2; exact (by (with_reducible repeat (first | apply Kd.R_alloc | apply Kd.R_drewN | apply Kd.R_drew)); exact (Kd.R_mono (Kd.R_far (p := ⟨gb275, 0, none⟩) (Kd.R_types HO273.out BK275.out (by decide)) (fun _ hk => hk.2) (.slice Ao193 t271.length co193)) (fun _ h_ => h_.1)))); (case side2 => exact (Kd.R_reads' HO273.out).2.1); (case side3 => refine (Kd.R_reads' (e := 3) (base := w.heap.size) (ok := fun k_ => (some k_ ≠ (v266 : Value).ownBlock ∧ (some k_ ≠ (v269 : Value).ownBlock ∧ (some k_ ≠ (.slice Ao193 t271.length co193 : Value).ownBlock ∧ (some k_ ≠ (.slice Ao47 t258.length co47 : Value).ownBlock ∧ (some k_ ≠ (.slice Ao56 t260.length co56 : Value).ownBlock ∧ some k_ ≠ (.slice Ao67 t243.length co67 : Value).ownBlock)))))) (n := t230.length) (c := co41) ?_).2.2; exact (by (with_reducible repeat (first | apply Kd.R_alloc | apply Kd.R_drewN | apply Kd.R_drew)); exact (Kd.R_mono (Kd.R_far (p := ⟨gb275, 0, none⟩) (Kd.R_types HO_235000.out BK275.out (by decide)) (fun _ hk => hk.2) (.slice Ao193 t271.length co193)) (fun _ h_ => h_.1)))); (case side4 => exact (Kd.R_reads' HO_235000.out).2.1); rintro e w210 ⟨rfl, hb⟩; refine ⟨_, rfl, ?_⟩; have n0_ := Aside0.mk (Kd.R_below (by (with_reducible repeat (first | apply Kd.R_alloc | apply Kd.R_drewN | apply Kd.R_drew)); exact (Kd.R_mono (Kd.R_far (p := ⟨gb275, 0, none⟩) (Kd.R_types HO_235000.out BK275.out (by decide)) (fun _ hk => hk.2) (.slice Ao193 t271.length co193)) (fun _ h_ => h_.1))) hb); have n1_ := Aside0.mk (Kd.R_below (by (with_reducible repeat (first | apply Kd.R_alloc | apply Kd.R_drewN | apply Kd.R_drew)); exact (Kd.R_mono (Kd.R_far (p := ⟨gb275, 0, none⟩) (Kd.R_types HO_239000.out BK275.out (by decide)) (fun _ hk => hk.2) (.slice Ao193 t271.length co193)) (fun _ h_ => h_.1))) hb); have n2_ := Aside0.mk (Kd.R_below (by (with_reducible repeat (first | apply Kd.R_alloc | apply Kd.R_drewN | apply Kd.R_drew)); exact (Kd.R_mono (Kd.R_far (p := ⟨gb275, 0, none⟩) (Kd.R_types HO_243000.out BK275.out (by decide)) (fun _ hk => hk.2) (.slice Ao193 t271.length co193)) (fun _ h_ => h_.1))) hb); have n3_ := Aside0.mk (Kd.R_below (by (with_reducible repeat (first | apply Kd.R_alloc | apply Kd.R_drewN | apply Kd.R_drew)); exact (Kd.R_mono (Kd.R_far (p := ⟨gb275, 0, none⟩) (Kd.R_types HO_248000.out BK275.out (by decide)) (fun _ hk => hk.2) (.slice Ao193 t271.length co193)) (fun _ h_ => h_.1))) hb); have n4_ := Aside0.mk (Kd.R_below (by (with_reducible repeat (first | apply Kd.R_alloc | apply Kd.R_drewN | apply Kd.R_drew)); exact (Kd.R_mono (Kd.R_far (p := ⟨gb275, 0, none⟩) (Kd.R_types HO267.out BK275.out (by decide)) (fun _ hk => hk.2) (.slice Ao193 t271.length co193)) (fun _ h_ => h_.1))) hb); have n5_ := Aside0.mk (Kd.R_below (by (with_reducible repeat (first | apply Kd.R_alloc | apply Kd.R_drewN | apply Kd.R_drew)); exact (Kd.R_mono (Kd.R_far (p := ⟨gb275, 0, none⟩) (Kd.R_types HO270.out BK275.out (by decide)) (fun _ hk => hk.2) (.slice Ao193 t271.length co193)) (fun _ h_ => h_.1))) hb); have n6_ := Aside0.mk (Kd.R_below (by (with_reducible repeat (first | apply Kd.R_alloc | apply Kd.R_drewN | apply Kd.R_drew)); exact (Kd.R_mono (Kd.R_far (p := ⟨gb275, 0, none⟩) (Kd.R_types HO273.out BK275.out (by decide)) (fun _ hk => hk.2) (.slice Ao193 t271.length co193)) (fun _ h_ => h_.1))) hb); have n7_ := Aside0.mk (blk_below (g := gb220) (o := .cells #[.slice A0_0 l0_0.length c0_0] 24 (0, 0)) (bf NB220_275 BK220) hb); have n8_ := Aside0.mk (blk_below (g := gb221) (o := .cells #[.slice A1_0 l1_0.length c1_0] 24 (0, 0)) (bf NB221_275 BK221) hb); have n9_ := Aside0.mk (blk_below (g := gb234) (o := .cells #[.slice Ao41 t230.length co41] 27 (0, 0)) (bf NB234_275 BK234) hb); have n10_ := Aside0.mk (blk_below (g := gb238) (o := .cells #[.slice Ao47 t258.length co47] 27 (0, 0)) (bf NB238_275 BK238) hb); have n11_ := Aside0.mk (blk_below (g := gb242) (o := .cells #[.slice Ao56 t260.length co56] 27 (0, 0)) (bf NB242_275 BK242) hb); have n12_ := Aside0.mk (blk_below (g := gb247) (o := .cells #[.slice Ao67 t243.length co67] 27 (0, 0)) (bf NB247_275 BK247) hb); have n13_ := Aside0.mk (blk_below (g := gb275) (o := .cells #[.slice Ao193 t271.length co193] 27 (0, 0)) (by (with_reducible repeat (first | refine blk_drewN ?_ _ | refine blk_drew ?_ | refine blk_alloc ?_ _)); refine blk_put (cs := #[.slice none 0 0]) ?_ 0 _ rfl; (with_reducible repeat (first | refine blk_drewN ?_ _ | refine blk_drew ?_ | refine blk_alloc ?_ _)); exact BK275.out) hb); have n14_ := Aside0.mk (below_step (hq7 HB GE220 GE221 GE234 GE238 GE242 GE247 GE275) hb); clear HO_235000; clear HO_239000; clear HO_243000; clear HO_248000; clear HO267; clear HO270; clear HO273; clear BK220; clear BK221; clear BK234; clear BK238; clear BK242; clear BK247; clear BK275; clear HB; have HO_235000 := n0_; have HO_239000 := n1_; have HO_243000 := n2_; have HO_248000 := n3_; have HO267 := n4_; have HO270 := n5_; have HO273 := n6_; have BK220 := n7_; have BK221 := n8_; have BK234 := n9_; have BK238 := n10_; have BK242 := n11_; have BK247 := n12_; have BK275 := n13_; have HB := n14_; clear n0_ n1_ n2_ n3_ n4_ n5_ n6_ n7_ n8_ n9_ n10_ n11_ n12_ n13_ n14_; (try clear hb); (try clear hb2); (try clear hk); (try clear hi)))
     go_meet
     case rel => exact ⟨_, ((t274 != t233)), (by first | rfl | (simp; done) | (simp [*]; done)), H', ⟨by have := HJ24.out; have := HJ108.out; first | omega | exact Nat.le_refl _⟩, ⟨by (try simp only [hl239000_108]); (try simp only [hl243000_108]); (with_reducible repeat (first | apply Kd.R_alloc | apply Kd.R_drewN | apply Kd.R_drew)); exact Kd.R_mono HO_235000.out (fun _ hk => ⟨hk.2.2.2.1, ⟨hk.2.2.2.2.1, ⟨hk.2.2.2.2.2, hk.2.2.1⟩⟩⟩)⟩, ⟨by (try simp only [hl239000_108]); (try simp only [hl243000_108]); (with_reducible repeat (first | apply Kd.R_alloc | apply Kd.R_drewN | apply Kd.R_drew)); exact Kd.R_mono HO_239000.out (fun _ hk => ⟨hk.2.2.2.1, ⟨hk.2.2.2.2.1, ⟨hk.2.2.2.2.2, hk.2.2.1⟩⟩⟩)⟩, ⟨by (try simp only [hl239000_108]); (try simp only [hl243000_108]); (with_reducible repeat (first | apply Kd.R_alloc | apply Kd.R_drewN | apply Kd.R_drew)); exact Kd.R_mono HO_243000.out (fun _ hk => ⟨hk.2.2.2.1, ⟨hk.2.2.2.2.1, ⟨hk.2.2.2.2.2, hk.2.2.1⟩⟩⟩)⟩, ⟨by (try simp only [hl239000_108]); (try simp only [hl243000_108]); (with_reducible repeat (first | apply Kd.R_alloc | apply Kd.R_drewN | apply Kd.R_drew)); exact Kd.R_mono HO_248000.out (fun _ hk => ⟨hk.2.2.2.1, ⟨hk.2.2.2.2.1, ⟨hk.2.2.2.2.2, hk.2.2.1⟩⟩⟩)⟩, ⟨by (try simp only [hl239000_108]); (try simp only [hl243000_108]); (with_reducible repeat (first | apply Kd.R_alloc | apply Kd.R_drewN | apply Kd.R_drew)); exact Kd.R_mono HO273.out (fun _ hk => ⟨hk.2.2.1, ⟨hk.2.2.2.1, ⟨hk.2.2.2.2.1, hk.2.2.2.2.2⟩⟩⟩)⟩, ⟨by (try simp only [hl239000_108]); (try simp only [hl243000_108]); (with_reducible repeat (first | refine blk_drewN ?_ _ | refine blk_drew ?_ | refine blk_alloc ?_ _)); exact BK220.out⟩, ⟨by (try simp only [hl239000_108]); (try simp only [hl243000_108]); (with_reducible repeat (first | refine blk_drewN ?_ _ | refine blk_drew ?_ | refine blk_alloc ?_ _)); exact BK221.out⟩, ⟨by (try simp only [hl239000_108]); (try simp only [hl243000_108]); (with_reducible repeat (first | refine blk_drewN ?_ _ | refine blk_drew ?_ | refine blk_alloc ?_ _)); exact BK234.out⟩, ⟨by (try simp only [hl239000_108]); (try simp only [hl243000_108]); (with_reducible repeat (first | refine blk_drewN ?_ _ | refine blk_drew ?_ | refine blk_alloc ?_ _)); exact BK238.out⟩, ⟨by (try simp only [hl239000_108]); (try simp only [hl243000_108]); (with_reducible repeat (first | refine blk_drewN ?_ _ | refine blk_drew ?_ | refine blk_alloc ?_ _)); exact BK242.out⟩, ⟨by (try simp only [hl239000_108]); (try simp only [hl243000_108]); (with_reducible repeat (first | refine blk_drewN ?_ _ | refine blk_drew ?_ | refine blk_alloc ?_ _)); exact BK247.out⟩, ⟨by (try simp only [hl239000_108]); (try simp only [hl243000_108]); (with_reducible repeat (first | refine blk_drewN ?_ _ | refine blk_drew ?_ | refine blk_alloc ?_ _)); exact BK275.out⟩, ⟨hq7 HB GE220 GE221 GE234 GE238 GE242 GE247 GE275⟩⟩
   replace c196 := Bool.eq_false_iff.mpr c196
   subst c196
   have H1 : (laws_FnExactHalvesTimes.j2 kj108 t262 true t263) = some true := by rw [if_neg (show ¬ (false = true) by decide)] at H; exact H
   clear H
   have H := H1
   clear H1
   have H' := Aside0.mk H
   clear H
   have hnb211 := NB275_220.out
   have hnc211 := NB220_275.out
   have hnb212 := NB275_221.out
   have hnc212 := NB221_275.out
   have hnb213 := NB275_234.out
   have hnc213 := NB234_275.out
   have hnb214 := NB275_238.out
   have hnc214 := NB238_275.out
   have hnb215 := NB275_242.out
   have hnc215 := NB242_275.out
   have hnb216 := NB275_247.out
   have hnc216 := NB247_275.out
   have hcz217_0 : w192.cell? ⟨gb275, 0, none⟩ = some (.slice none 0 0) := (blk_cell BK275.out 0).trans rfl
   have hfz217_0 := blk_frozen BK275.out 0
   have hnb218 := NB234_220.out
   have hnc218 := NB220_234.out
   have hnb219 := NB234_221.out
   have hnc219 := NB221_234.out
   have hnb220 := NB234_238.out
   have hnc220 := NB238_234.out
   have hnb221 := NB234_242.out
   have hnc221 := NB242_234.out
   have hnb222 := NB234_247.out
   have hnc222 := NB247_234.out
   have hcz223_0 : w192.cell? ⟨gb234, 0, none⟩ = some (.slice Ao41 t230.length co41) := (blk_cell BK234.out 0).trans rfl
   have hfz223_0 := blk_frozen BK234.out 0
   go_wp2_with (first | ((with_reducible refine gate_callee (f := 19) rfl ?_); refine goesL_ (some 104) rfl rfl Try.func19 (by kernel_rfl) rfl #[.agg #[.slice Ao193 t271.length co193], .agg #[.slice Ao41 t230.length co41]] rfl (by (try simp only [List.map_toArray, List.map_cons, List.map_nil]); first | done | rfl | (simp only [List.length_drop, List.length_take]; rfl)) ?_; (with_reducible refine (laws_eqBig.calls kj108 _ _ t271 _ _ t230 false _ ?side1 ?side2 ?side3 ?side4 A195.out).mono ?_); (case side1 => refine (Kd.R_reads' (e := 3) (base := w.heap.size) (ok := fun k_ => (some k_ ≠ (v266 : Value).ownBlock ∧ (some k_ ≠ (v269 : Value).ownBlock ∧ (some k_ ≠ (.slice Ao41 t230.length co41 : Value).ownBlock ∧ (some k_ ≠ (.slice Ao47 t258.length co47 : Value).ownBlock ∧ (some k_ ≠ (.slice Ao56 t260.length co56 : Value).ownBlock ∧ some k_ ≠ (.slice Ao67 t243.length co67 : Value).ownBlock)))))) (n := t271.length) (c := co193) ?_).2.2; exact (by (with_reducible repeat (first | apply Kd.R_alloc | apply Kd.R_drewN | apply Kd.R_drew)); exact (Kd.R_mono (Kd.R_far (p := ⟨gb275, 0, none⟩) (Kd.R_types HO273.out BK275.out (by decide)) (fun _ hk => hk.2) (.slice Ao193 t271.length co193)) (fun _ h_ => h_.1)))); (case side2 => exact (Kd.R_reads' HO273.out).2.1); (case side3 => refine (Kd.R_reads' (e := 3) (base := w.heap.size) (ok := fun k_ => (some k_ ≠ (v266 : Value).ownBlock ∧ (some k_ ≠ (v269 : Value).ownBlock ∧ (some k_ ≠ (.slice Ao193 t271.length co193 : Value).ownBlock ∧ (some k_ ≠ (.slice Ao47 t258.length co47 : Value).ownBlock ∧ (some k_ ≠ (.slice Ao56 t260.length co56 : Value).ownBlock ∧ some k_ ≠ (.slice Ao67 t243.length co67 : Value).ownBlock)))))) (n := t230.length) (c := co41) ?_).2.2; exact (by (with_reducible repeat (first | apply Kd.R_alloc | apply Kd.R_drewN | apply Kd.R_drew)); exact (Kd.R_mono (Kd.R_far (p := ⟨gb275, 0, none⟩) (Kd.R_types HO_235000.out BK275.out (by decide)) (fun _ hk => hk.2) (.slice Ao193 t271.length co193)) (fun _ h_ => h_.1)))); (case side4 => exact (Kd.R_reads' HO_235000.out).2.1); rintro e w224 ⟨rfl, hb⟩; refine ⟨_, rfl, ?_⟩; have n0_ := Aside0.mk (Kd.R_below (by (with_reducible repeat (first | apply Kd.R_alloc | apply Kd.R_drewN | apply Kd.R_drew)); exact (Kd.R_mono (Kd.R_far (p := ⟨gb275, 0, none⟩) (Kd.R_types HO_235000.out BK275.out (by decide)) (fun _ hk => hk.2) (.slice Ao193 t271.length co193)) (fun _ h_ => h_.1))) hb); have n1_ := Aside0.mk (Kd.R_below (by (with_reducible repeat (first | apply Kd.R_alloc | apply Kd.R_drewN | apply Kd.R_drew)); exact (Kd.R_mono (Kd.R_far (p := ⟨gb275, 0, none⟩) (Kd.R_types HO_239000.out BK275.out (by decide)) (fun _ hk => hk.2) (.slice Ao193 t271.length co193)) (fun _ h_ => h_.1))) hb); have n2_ := Aside0.mk (Kd.R_below (by (with_reducible repeat (first | apply Kd.R_alloc | apply Kd.R_drewN | apply Kd.R_drew)); exact (Kd.R_mono (Kd.R_far (p := ⟨gb275, 0, none⟩) (Kd.R_types HO_243000.out BK275.out (by decide)) (fun _ hk => hk.2) (.slice Ao193 t271.length co193)) (fun _ h_ => h_.1))) hb); have n3_ := Aside0.mk (Kd.R_below (by (with_reducible repeat (first | apply Kd.R_alloc | apply Kd.R_drewN | apply Kd.R_drew)); exact (Kd.R_mono (Kd.R_far (p := ⟨gb275, 0, none⟩) (Kd.R_types HO_248000.out BK275.out (by decide)) (fun _ hk => hk.2) (.slice Ao193 t271.length co193)) (fun _ h_ => h_.1))) hb); have n4_ := Aside0.mk (Kd.R_below (by (with_reducible repeat (first | apply Kd.R_alloc | apply Kd.R_drewN | apply Kd.R_drew)); exact (Kd.R_mono (Kd.R_far (p := ⟨gb275, 0, none⟩) (Kd.R_types HO267.out BK275.out (by decide)) (fun _ hk => hk.2) (.slice Ao193 t271.length co193)) (fun _ h_ => h_.1))) hb); have n5_ := Aside0.mk (Kd.R_below (by (with_reducible repeat (first | apply Kd.R_alloc | apply Kd.R_drewN | apply Kd.R_drew)); exact (Kd.R_mono (Kd.R_far (p := ⟨gb275, 0, none⟩) (Kd.R_types HO270.out BK275.out (by decide)) (fun _ hk => hk.2) (.slice Ao193 t271.length co193)) (fun _ h_ => h_.1))) hb); have n6_ := Aside0.mk (Kd.R_below (by (with_reducible repeat (first | apply Kd.R_alloc | apply Kd.R_drewN | apply Kd.R_drew)); exact (Kd.R_mono (Kd.R_far (p := ⟨gb275, 0, none⟩) (Kd.R_types HO273.out BK275.out (by decide)) (fun _ hk => hk.2) (.slice Ao193 t271.length co193)) (fun _ h_ => h_.1))) hb); have n7_ := Aside0.mk (blk_below (g := gb220) (o := .cells #[.slice A0_0 l0_0.length c0_0] 24 (0, 0)) (bf NB220_275 BK220) hb); have n8_ := Aside0.mk (blk_below (g := gb221) (o := .cells #[.slice A1_0 l1_0.length c1_0] 24 (0, 0)) (bf NB221_275 BK221) hb); have n9_ := Aside0.mk (blk_below (g := gb234) (o := .cells #[.slice Ao41 t230.length co41] 27 (0, 0)) (bf NB234_275 BK234) hb); have n10_ := Aside0.mk (blk_below (g := gb238) (o := .cells #[.slice Ao47 t258.length co47] 27 (0, 0)) (bf NB238_275 BK238) hb); have n11_ := Aside0.mk (blk_below (g := gb242) (o := .cells #[.slice Ao56 t260.length co56] 27 (0, 0)) (bf NB242_275 BK242) hb); have n12_ := Aside0.mk (blk_below (g := gb247) (o := .cells #[.slice Ao67 t243.length co67] 27 (0, 0)) (bf NB247_275 BK247) hb); have n13_ := Aside0.mk (blk_below (g := gb275) (o := .cells #[.slice Ao193 t271.length co193] 27 (0, 0)) (by (with_reducible repeat (first | refine blk_drewN ?_ _ | refine blk_drew ?_ | refine blk_alloc ?_ _)); refine blk_put (cs := #[.slice none 0 0]) ?_ 0 _ rfl; (with_reducible repeat (first | refine blk_drewN ?_ _ | refine blk_drew ?_ | refine blk_alloc ?_ _)); exact BK275.out) hb); have n14_ := Aside0.mk (below_step (hq7 HB GE220 GE221 GE234 GE238 GE242 GE247 GE275) hb); clear HO_235000; clear HO_239000; clear HO_243000; clear HO_248000; clear HO267; clear HO270; clear HO273; clear BK220; clear BK221; clear BK234; clear BK238; clear BK242; clear BK247; clear BK275; clear HB; have HO_235000 := n0_; have HO_239000 := n1_; have HO_243000 := n2_; have HO_248000 := n3_; have HO267 := n4_; have HO270 := n5_; have HO273 := n6_; have BK220 := n7_; have BK221 := n8_; have BK234 := n9_; have BK238 := n10_; have BK242 := n11_; have BK247 := n12_; have BK275 := n13_; have HB := n14_; clear n0_ n1_ n2_ n3_ n4_ n5_ n6_ n7_ n8_ n9_ n10_ n11_ n12_ n13_ n14_; (try clear hb); (try clear hb2); (try clear hk); (try clear hi)))
   go_meet
   case rel => exact ⟨_, (true), (by first | rfl | (simp; done) | (simp [*]; done)), H', ⟨by have := HJ24.out; have := HJ108.out; first | omega | exact Nat.le_refl _⟩, ⟨by (try simp only [hl239000_108]); (try simp only [hl243000_108]); (with_reducible repeat (first | apply Kd.R_alloc | apply Kd.R_drewN | apply Kd.R_drew)); exact Kd.R_mono HO_235000.out (fun _ hk => ⟨hk.2.2.2.1, ⟨hk.2.2.2.2.1, ⟨hk.2.2.2.2.2, hk.2.2.1⟩⟩⟩)⟩, ⟨by (try simp only [hl239000_108]); (try simp only [hl243000_108]); (with_reducible repeat (first | apply Kd.R_alloc | apply Kd.R_drewN | apply Kd.R_drew)); exact Kd.R_mono HO_239000.out (fun _ hk => ⟨hk.2.2.2.1, ⟨hk.2.2.2.2.1, ⟨hk.2.2.2.2.2, hk.2.2.1⟩⟩⟩)⟩, ⟨by (try simp only [hl239000_108]); (try simp only [hl243000_108]); (with_reducible repeat (first | apply Kd.R_alloc | apply Kd.R_drewN | apply Kd.R_drew)); exact Kd.R_mono HO_243000.out (fun _ hk => ⟨hk.2.2.2.1, ⟨hk.2.2.2.2.1, ⟨hk.2.2.2.2.2, hk.2.2.1⟩⟩⟩)⟩, ⟨by (try simp only [hl239000_108]); (try simp only [hl243000_108]); (with_reducible repeat (first | apply Kd.R_alloc | apply Kd.R_drewN | apply Kd.R_drew)); exact Kd.R_mono HO_248000.out (fun _ hk => ⟨hk.2.2.2.1, ⟨hk.2.2.2.2.1, ⟨hk.2.2.2.2.2, hk.2.2.1⟩⟩⟩)⟩, ⟨by (try simp only [hl239000_108]); (try simp only [hl243000_108]); (with_reducible repeat (first | apply Kd.R_alloc | apply Kd.R_drewN | apply Kd.R_drew)); exact Kd.R_mono HO273.out (fun _ hk => ⟨hk.2.2.1, ⟨hk.2.2.2.1, ⟨hk.2.2.2.2.1, hk.2.2.2.2.2⟩⟩⟩)⟩, ⟨by (try simp only [hl239000_108]); (try simp only [hl243000_108]); (with_reducible repeat (first | refine blk_drewN ?_ _ | refine blk_drew ?_ | refine blk_alloc ?_ _)); exact BK220.out⟩, ⟨by (try simp only [hl239000_108]); (try simp only [hl243000_108]); (with_reducible repeat (first | refine blk_drewN ?_ _ | refine blk_drew ?_ | refine blk_alloc ?_ _)); exact BK221.out⟩, ⟨by (try simp only [hl239000_108]); (try simp only [hl243000_108]); (with_reducible repeat (first | refine blk_drewN ?_ _ | refine blk_drew ?_ | refine blk_alloc ?_ _)); exact BK234.out⟩, ⟨by (try simp only [hl239000_108]); (try simp only [hl243000_108]); (with_reducible repeat (first | refine blk_drewN ?_ _ | refine blk_drew ?_ | refine blk_alloc ?_ _)); exact BK238.out⟩, ⟨by (try simp only [hl239000_108]); (try simp only [hl243000_108]); (with_reducible repeat (first | refine blk_drewN ?_ _ | refine blk_drew ?_ | refine blk_alloc ?_ _)); exact BK242.out⟩, ⟨by (try simp only [hl239000_108]); (try simp only [hl243000_108]); (with_reducible repeat (first | refine blk_drewN ?_ _ | refine blk_drew ?_ | refine blk_alloc ?_ _)); exact BK247.out⟩, ⟨by (try simp only [hl239000_108]); (try simp only [hl243000_108]); (with_reducible repeat (first | refine blk_drewN ?_ _ | refine blk_drew ?_ | refine blk_alloc ?_ _)); exact BK275.out⟩, ⟨hq7 HB GE220 GE221 GE234 GE238 GE242 GE247 GE275⟩⟩
 clear HC175
 try clear c1
 try clear c2
 try clear p2
 try clear c4
 try clear c17
 try clear c19
 try clear c20
 try clear c21
 try clear c22
 try clear c41
 try clear c196
 try clear c197
 try clear c198
 try clear c199
 try clear c200
 try clear c201
 try clear c202
 try clear c204
 try clear c205
 try clear c206
 try clear c207
 try clear c208
 try clear c211
 try clear c212
 try clear c213
 try clear c214
 try clear c215
 try clear c216
 try clear c218
 try clear c219
 try clear c220
 try clear c221
 try clear c222
 try clear hcz203_0
 try clear hcz209_0
 try clear hcz217_0
 try clear hcz223_0
 try clear hfz203_0
 try clear hfz209_0
 try clear hfz217_0
 try clear hfz223_0
 obtain ⟨kq, x110_174, rfl, HA, HJ174, HO_235000, HO_239000, HO_243000, HO_248000, HO_276000, BK220, BK221, BK234, BK238, BK242, BK247, BK275, HB⟩ := hcut
 have hl248000_174 := (Kd.R_reads' HO_248000.out).1
 rw [hl248000_174] at HO_248000
 (try simp only [hl248000_174])
 (try simp only [hl248000_174] at BK220)
 (try simp only [hl248000_174] at BK221)
 (try simp only [hl248000_174] at BK234)
 (try simp only [hl248000_174] at BK238)
 (try simp only [hl248000_174] at BK242)
 (try simp only [hl248000_174] at BK247)
 (try simp only [hl248000_174] at BK275)
 (try simp only [hl248000_174] at HO_235000)
 (try simp only [hl248000_174] at HO_239000)
 (try simp only [hl248000_174] at HO_243000)
 (try simp only [hl248000_174] at HO_276000)
 obtain _ | kj174 := kq
 · exact absurd HA.out (by simp [laws_FnExactHalvesTimes.j2])
 have H := HA.out
 clear HA
 simp only [laws_FnExactHalvesTimes.j2] at H
 by_cases c225 : x110_174 = true
 · subst c225
   have H1 : (some false) = some true := by rw [if_pos rfl] at H; exact H
   clear H
   have H := H1
   clear H1
   cases H
 replace c225 := Bool.eq_false_iff.mpr c225
 subst c225
 have H1 : ((laws_heldBig.f kj174 t263 1).bind fun t277 => (if t277 < 0 then (some false) else (if t277 = t262 then (some true) else (some false)))) = some true := by rw [if_neg (show ¬ (false = true) by decide)] at H; exact H
 clear H
 have H := H1
 clear H1
 replace H := Option.bind_eq_some_iff.mp H
 obtain ⟨t277, A2260, H⟩ := H
 replace H : (if t277 < 0 then (some false) else (if t277 = t262 then (some true) else (some false))) = some true := H
 have A226 := Aside0.mk A2260
 clear A2260
 by_cases c227 : t277 < 0
 · rw [if_pos c227] at H
   have c227b0 : decide (t277 < 0) = true := decide_eq_true c227
   clear c227
   cases H
 rw [if_neg c227] at H
 have c227b0 : decide (t277 < 0) = false := decide_eq_false c227
 clear c227
 by_cases c236 : t277 = t262
 rotate_left
 · rw [if_neg c236] at H
   have c236b0 : (t277 == t262) = false := beq_eq_false_iff_ne.mpr c236
   have c236b1 : (t277 != t262) = true := bne_iff_ne.mpr c236
   cases H
 rw [if_pos c236] at H
 have c236b0 : (t277 == t262) = true := beq_iff_eq.mpr c236
 have c236b1 : (t277 != t262) = false := bne_eq_false_iff_eq.mpr c236
 clear c236
 clear H
 have hnb237 := NB247_220.out
 have hnc237 := NB220_247.out
 have hnb238 := NB247_221.out
 have hnc238 := NB221_247.out
 have hnb239 := NB247_234.out
 have hnc239 := NB234_247.out
 have hnb240 := NB247_238.out
 have hnc240 := NB238_247.out
 have hnb241 := NB247_242.out
 have hnc241 := NB242_247.out
 have hnb242 := NB247_275.out
 have hnc242 := NB275_247.out
 have hcz243_0 : wc.cell? ⟨gb247, 0, none⟩ = some (.slice Ao67 t263.length co67) := (blk_cell BK247.out 0).trans rfl
 have hfz243_0 := blk_frozen BK247.out 0
 go_wp2_with (first | ((with_reducible refine gate_callee (f := 23) rfl ?_); refine goesL_ (some 113) rfl rfl Try.func23 (by kernel_rfl) rfl #[.agg #[.slice Ao67 t263.length co67], .int .i64 1] rfl (by (try simp only [List.map_toArray, List.map_cons, List.map_nil]); first | done | rfl | (simp only [List.length_drop, List.length_take]; rfl)) ?_; (with_reducible refine (laws_heldBig.calls kj174 _ _ t263 1 t277 _ ?side1 ?side2 A226.out).mono ?_); (case side1 => repeat (first | exact (Kd.R_reads' HO_248000.out).2.2 | (with_reducible refine Kd.C_alloc ?_ _) | (with_reducible refine Kd.C_drewN ?_ _) | (with_reducible refine Kd.C_drew ?_))); (case side2 => exact (Kd.R_reads' HO_248000.out).2.1); rintro e w244 ⟨rfl, hb⟩; refine ⟨_, rfl, ?_⟩; have n0_ := Aside0.mk (qb HO_235000 hb); have n1_ := Aside0.mk (qb HO_239000 hb); have n2_ := Aside0.mk (qb HO_243000 hb); have n3_ := Aside0.mk (qb HO_248000 hb); have n4_ := Aside0.mk (qb HO_276000 hb); have n5_ := Aside0.mk (bB BK220 hb); have n6_ := Aside0.mk (bB BK221 hb); have n7_ := Aside0.mk (bB BK234 hb); have n8_ := Aside0.mk (bB BK238 hb); have n9_ := Aside0.mk (bB BK242 hb); have n10_ := Aside0.mk (bB BK247 hb); have n11_ := Aside0.mk (bB BK275 hb); have n12_ := Aside0.mk (below_step (hq7 HB GE220 GE221 GE234 GE238 GE242 GE247 GE275) hb); clear HO_235000; clear HO_239000; clear HO_243000; clear HO_248000; clear HO_276000; clear BK220; clear BK221; clear BK234; clear BK238; clear BK242; clear BK247; clear BK275; clear HB; have HO_235000 := n0_; have HO_239000 := n1_; have HO_243000 := n2_; have HO_248000 := n3_; have HO_276000 := n4_; have BK220 := n5_; have BK221 := n6_; have BK234 := n7_; have BK238 := n8_; have BK242 := n9_; have BK247 := n10_; have BK275 := n11_; have HB := n12_; clear n0_ n1_ n2_ n3_ n4_ n5_ n6_ n7_ n8_ n9_ n10_ n11_ n12_; (try clear hb); (try clear hb2); (try clear hk); (try clear hi)))
 go_ret
 exact ⟨by first | rfl | (simp [errW_none, errW_some] <;> rfl) | (simp [*, errW_none, errW_some] <;> rfl), hq7 HB GE220 GE221 GE234 GE238 GE242 GE247 GE275⟩
end Go.Proofs.Ytcehboknhdmmfaa.QFnExactHalvesTimes
