import Derived.Test.YtoigapileicelaaSqueeze
import Derived.Test.YtoigapileicelaaQFnMixedx0
import Derived.Test.YtoigapileicelaaQFnMixedx1
import Derived.Test.YtoigapileicelaaQFnMixedx2
import Derived.Test.YtoigapileicelaaQFnMixedx3
import Derived.Test.YtoigapileicelaaQFnMixedx4
import Derived.Test.YtoigapileicelaaQFnMixedx5
import Derived.Test.YtoigapileicelaaQFnMixedx6
namespace Go.Proofs.Ytoigapileicelaa.QFnMixed
open Go.RowKit Go.Proofs.YtoigapileicelaaW.PrintWords Go.Proofs.YtoigapileicelaaW.PrintLast Go.Proofs.YtoigapileicelaaW.PrintMore
attribute [local go_sem] max2_int min2_int max_two min_two max_three min_three max_four min_four   -- for this text's walks alone
set_option linter.unusedVariables false
set_option linter.unusedSimpArgs false

/-! ### laws_FnMixed: function 11 -/
mutual
def laws_FnMixed.j0 : Nat → List Int → List Int → Int → Int → Bool → Int → Bool → Option (Bool)
  | 0, _, _, _, _, _, _, _ => none
  | k + 1, x1, x5, x6, x7, x8, x11, x90 => if x90 = true then (some false) else (if x8 = true then ((impl_UnmixBlock.f k x5 x7).bind fun bt300 => ((impl_MixBlock.f k x5 x11).bind fun bt302 => (if bt300.2 = true then (if bt300.1 = x6 then (if bt302.2 = true then (if bt302.1 = x6 then (laws_FnMixed.j1 k x1) else (some false)) else (some false)) else (some false)) else (some false)))) else (laws_FnMixed.j1 k x1))
def laws_FnMixed.j1 : Nat → List Int → Option (Bool)
  | 0, _ => none
  | k + 1, x1 => (spec_DrawMixText.f k x1).bind fun bt304 => ((impl_MixText.f k bt304.1 bt304.2.1 bt304.2.2).bind fun bt309 => ((spec_MixText.f k bt304.1 bt304.2.1 bt304.2.2).bind fun bt311 => ((impl_UnmixText.f k bt304.1 bt304.2.1 bt304.2.2).bind fun bt313 => ((spec_UnmixText.f k bt304.1 bt304.2.1 bt304.2.2).bind fun bt315 => (if (bt309.2 != bt311.2) = true then (laws_FnMixed.j2 k x1 bt304.1 bt304.2.1 bt304.2.2 bt309.1 bt309.2 true) else (if bt309.1.toList = bt311.1.toList then (if (bt313.2 != bt315.2) = true then (laws_FnMixed.j2 k x1 bt304.1 bt304.2.1 bt304.2.2 bt309.1 bt309.2 true) else (laws_FnMixed.j2 k x1 bt304.1 bt304.2.1 bt304.2.2 bt309.1 bt309.2 (bt313.1.toList != bt315.1.toList))) else (laws_FnMixed.j2 k x1 bt304.1 bt304.2.1 bt304.2.2 bt309.1 bt309.2 true)))))))
def laws_FnMixed.j2 : Nat → List Int → List Int → Int → ByteArray → ByteArray → Bool → Bool → Option (Bool)
  | 0, _, _, _, _, _, _, _ => none
  | k + 1, x1, x19, x20, x21, x22, x23, x171 => if x171 = true then (some false) else (if x23 = true then ((impl_UnmixText.f k x19 x20 x22).bind fun bt317 => (if bt317.2 = true then (if bt317.1.toList = x21.toList then (laws_FnMixed.j3 k x1 ((x22.size : Int) != (x21.size : Int))) else (laws_FnMixed.j3 k x1 true)) else (laws_FnMixed.j3 k x1 true))) else ((spec_DrawRoundOf.f x1).bind fun bt325 => ((impl_RoundOf.f bt325.1 bt325.2).bind fun bt327 => ((spec_RoundOf.f bt325.1 bt325.2).bind fun bt329 => (if (bt327.2 == bt329.2) = true then (some (bt327.1 == bt329.1)) else (some false))))))
def laws_FnMixed.j3 : Nat → List Int → Bool → Option (Bool)
  | 0, _, _ => none
  | k + 1, x1, x193 => if x193 = true then (some false) else ((spec_DrawRoundOf.f x1).bind fun bt319 => ((impl_RoundOf.f bt319.1 bt319.2).bind fun bt321 => ((spec_RoundOf.f bt319.1 bt319.2).bind fun bt323 => (if (bt321.2 == bt323.2) = true then (some (bt321.1 == bt323.1)) else (some false)))))
end
def laws_FnMixed.f (k : Nat) (l0 : List Int) (l1 : List Int) : Option (Bool) := if (wrap64 ((l0.length : Int) + (l1.length : Int))) > 1048576 then (some true) else ((spec_DrawMixBlock.f k l0).bind fun bt288 => ((impl_MixBlock.f k bt288.1 bt288.2).bind fun bt292 => ((spec_MixBlock.f k bt288.1 bt288.2).bind fun bt294 => ((impl_UnmixBlock.f k bt288.1 bt288.2).bind fun bt296 => ((spec_UnmixBlock.f k bt288.1 bt288.2).bind fun bt298 => (if (bt292.2 != bt294.2) = true then (laws_FnMixed.j0 k l1 bt288.1 bt288.2 bt292.1 bt292.2 bt296.1 true) else (if bt292.1 = bt294.1 then (if (bt296.2 != bt298.2) = true then (laws_FnMixed.j0 k l1 bt288.1 bt288.2 bt292.1 bt292.2 bt296.1 true) else (laws_FnMixed.j0 k l1 bt288.1 bt288.2 bt292.1 bt292.2 bt296.1 (bt296.1 != bt298.1))) else (laws_FnMixed.j0 k l1 bt288.1 bt288.2 bt292.1 bt292.2 bt296.1 true))))))))
theorem laws_FnMixed.mono_l : ∀ k, (∀ y0 y1 y2 y3 y4 y5 y6, LeO (laws_FnMixed.j0 k y0 y1 y2 y3 y4 y5 y6) (laws_FnMixed.j0 (k + 1) y0 y1 y2 y3 y4 y5 y6)) ∧ (∀ y0, LeO (laws_FnMixed.j1 k y0) (laws_FnMixed.j1 (k + 1) y0)) ∧ (∀ y0 y1 y2 y3 y4 y5 y6, LeO (laws_FnMixed.j2 k y0 y1 y2 y3 y4 y5 y6) (laws_FnMixed.j2 (k + 1) y0 y1 y2 y3 y4 y5 y6)) ∧ (∀ y0 y1, LeO (laws_FnMixed.j3 k y0 y1) (laws_FnMixed.j3 (k + 1) y0 y1))
  | 0 => ⟨fun _ _ _ _ _ _ _ r h => by simp [laws_FnMixed.j0] at h, fun _ r h => by simp [laws_FnMixed.j1] at h, fun _ _ _ _ _ _ _ r h => by simp [laws_FnMixed.j2] at h, fun _ _ r h => by simp [laws_FnMixed.j3] at h⟩
  | k + 1 => by
    obtain ⟨ih0, ih1, ih2, ih3⟩ := laws_FnMixed.mono_l k
    refine ⟨?_, ?_, ?_, ?_⟩
    · intro y0 y1 y2 y3 y4 y5 y6
      unfold laws_FnMixed.j0
      repeat' first
      | (with_reducible exact ih0 _ _ _ _ _ _ _)
      | (with_reducible exact ih1 _)
      | (with_reducible exact ih2 _ _ _ _ _ _ _)
      | (with_reducible exact ih3 _ _)
      | (with_reducible exact impl_MixBlock.mono _ _ _)
      | (with_reducible exact impl_MixText.mono _ _ _ _)
      | (with_reducible exact impl_UnmixBlock.mono _ _ _)
      | (with_reducible exact impl_UnmixText.mono _ _ _ _)
      | (with_reducible exact spec_DrawMixBlock.mono _ _)
      | (with_reducible exact spec_DrawMixText.mono _ _)
      | (with_reducible exact spec_MixBlock.mono _ _ _)
      | (with_reducible exact spec_MixText.mono _ _ _ _)
      | (with_reducible exact spec_UnmixBlock.mono _ _ _)
      | (with_reducible exact spec_UnmixText.mono _ _ _ _)
      | (with_reducible exact LeO.refl _)
      | (with_reducible exact LeO.none _)
      | (with_reducible refine LeO.ite ?_ ?_)
      | (with_reducible refine LeO.bind ?_ (fun _ => ?_))
      | exact ih0 _ _ _ _ _ _ _
      | exact ih1 _
      | exact ih2 _ _ _ _ _ _ _
      | exact ih3 _ _
      | exact impl_MixBlock.mono _ _ _
      | exact impl_MixText.mono _ _ _ _
      | exact impl_UnmixBlock.mono _ _ _
      | exact impl_UnmixText.mono _ _ _ _
      | exact spec_DrawMixBlock.mono _ _
      | exact spec_DrawMixText.mono _ _
      | exact spec_MixBlock.mono _ _ _
      | exact spec_MixText.mono _ _ _ _
      | exact spec_UnmixBlock.mono _ _ _
      | exact spec_UnmixText.mono _ _ _ _
      | exact LeO.none _
      | refine LeO.ite ?_ ?_
      | refine LeO.bind ?_ (fun _ => ?_)
    · intro y0
      unfold laws_FnMixed.j1
      repeat' first
      | (with_reducible exact ih0 _ _ _ _ _ _ _)
      | (with_reducible exact ih1 _)
      | (with_reducible exact ih2 _ _ _ _ _ _ _)
      | (with_reducible exact ih3 _ _)
      | (with_reducible exact impl_MixBlock.mono _ _ _)
      | (with_reducible exact impl_MixText.mono _ _ _ _)
      | (with_reducible exact impl_UnmixBlock.mono _ _ _)
      | (with_reducible exact impl_UnmixText.mono _ _ _ _)
      | (with_reducible exact spec_DrawMixBlock.mono _ _)
      | (with_reducible exact spec_DrawMixText.mono _ _)
      | (with_reducible exact spec_MixBlock.mono _ _ _)
      | (with_reducible exact spec_MixText.mono _ _ _ _)
      | (with_reducible exact spec_UnmixBlock.mono _ _ _)
      | (with_reducible exact spec_UnmixText.mono _ _ _ _)
      | (with_reducible exact LeO.refl _)
      | (with_reducible exact LeO.none _)
      | (with_reducible refine LeO.ite ?_ ?_)
      | (with_reducible refine LeO.bind ?_ (fun _ => ?_))
      | exact ih0 _ _ _ _ _ _ _
      | exact ih1 _
      | exact ih2 _ _ _ _ _ _ _
      | exact ih3 _ _
      | exact impl_MixBlock.mono _ _ _
      | exact impl_MixText.mono _ _ _ _
      | exact impl_UnmixBlock.mono _ _ _
      | exact impl_UnmixText.mono _ _ _ _
      | exact spec_DrawMixBlock.mono _ _
      | exact spec_DrawMixText.mono _ _
      | exact spec_MixBlock.mono _ _ _
      | exact spec_MixText.mono _ _ _ _
      | exact spec_UnmixBlock.mono _ _ _
      | exact spec_UnmixText.mono _ _ _ _
      | exact LeO.none _
      | refine LeO.ite ?_ ?_
      | refine LeO.bind ?_ (fun _ => ?_)
    · intro y0 y1 y2 y3 y4 y5 y6
      unfold laws_FnMixed.j2
      repeat' first
      | (with_reducible exact ih0 _ _ _ _ _ _ _)
      | (with_reducible exact ih1 _)
      | (with_reducible exact ih2 _ _ _ _ _ _ _)
      | (with_reducible exact ih3 _ _)
      | (with_reducible exact impl_MixBlock.mono _ _ _)
      | (with_reducible exact impl_MixText.mono _ _ _ _)
      | (with_reducible exact impl_UnmixBlock.mono _ _ _)
      | (with_reducible exact impl_UnmixText.mono _ _ _ _)
      | (with_reducible exact spec_DrawMixBlock.mono _ _)
      | (with_reducible exact spec_DrawMixText.mono _ _)
      | (with_reducible exact spec_MixBlock.mono _ _ _)
      | (with_reducible exact spec_MixText.mono _ _ _ _)
      | (with_reducible exact spec_UnmixBlock.mono _ _ _)
      | (with_reducible exact spec_UnmixText.mono _ _ _ _)
      | (with_reducible exact LeO.refl _)
      | (with_reducible exact LeO.none _)
      | (with_reducible refine LeO.ite ?_ ?_)
      | (with_reducible refine LeO.bind ?_ (fun _ => ?_))
      | exact ih0 _ _ _ _ _ _ _
      | exact ih1 _
      | exact ih2 _ _ _ _ _ _ _
      | exact ih3 _ _
      | exact impl_MixBlock.mono _ _ _
      | exact impl_MixText.mono _ _ _ _
      | exact impl_UnmixBlock.mono _ _ _
      | exact impl_UnmixText.mono _ _ _ _
      | exact spec_DrawMixBlock.mono _ _
      | exact spec_DrawMixText.mono _ _
      | exact spec_MixBlock.mono _ _ _
      | exact spec_MixText.mono _ _ _ _
      | exact spec_UnmixBlock.mono _ _ _
      | exact spec_UnmixText.mono _ _ _ _
      | exact LeO.none _
      | refine LeO.ite ?_ ?_
      | refine LeO.bind ?_ (fun _ => ?_)
    · intro y0 y1
      unfold laws_FnMixed.j3
      repeat' first
      | (with_reducible exact ih0 _ _ _ _ _ _ _)
      | (with_reducible exact ih1 _)
      | (with_reducible exact ih2 _ _ _ _ _ _ _)
      | (with_reducible exact ih3 _ _)
      | (with_reducible exact impl_MixBlock.mono _ _ _)
      | (with_reducible exact impl_MixText.mono _ _ _ _)
      | (with_reducible exact impl_UnmixBlock.mono _ _ _)
      | (with_reducible exact impl_UnmixText.mono _ _ _ _)
      | (with_reducible exact spec_DrawMixBlock.mono _ _)
      | (with_reducible exact spec_DrawMixText.mono _ _)
      | (with_reducible exact spec_MixBlock.mono _ _ _)
      | (with_reducible exact spec_MixText.mono _ _ _ _)
      | (with_reducible exact spec_UnmixBlock.mono _ _ _)
      | (with_reducible exact spec_UnmixText.mono _ _ _ _)
      | (with_reducible exact LeO.refl _)
      | (with_reducible exact LeO.none _)
      | (with_reducible refine LeO.ite ?_ ?_)
      | (with_reducible refine LeO.bind ?_ (fun _ => ?_))
      | exact ih0 _ _ _ _ _ _ _
      | exact ih1 _
      | exact ih2 _ _ _ _ _ _ _
      | exact ih3 _ _
      | exact impl_MixBlock.mono _ _ _
      | exact impl_MixText.mono _ _ _ _
      | exact impl_UnmixBlock.mono _ _ _
      | exact impl_UnmixText.mono _ _ _ _
      | exact spec_DrawMixBlock.mono _ _
      | exact spec_DrawMixText.mono _ _
      | exact spec_MixBlock.mono _ _ _
      | exact spec_MixText.mono _ _ _ _
      | exact spec_UnmixBlock.mono _ _ _
      | exact spec_UnmixText.mono _ _ _ _
      | exact LeO.none _
      | refine LeO.ite ?_ ?_
      | refine LeO.bind ?_ (fun _ => ?_)
theorem laws_FnMixed.mono : ∀ a0 a1 k, LeO (laws_FnMixed.f k a0 a1) (laws_FnMixed.f (k + 1) a0 a1) := by
  intro a0 a1 k
  obtain ⟨ih0, ih1, ih2, ih3⟩ := laws_FnMixed.mono_l k
  unfold laws_FnMixed.f
  repeat' first
      | (with_reducible exact ih0 _ _ _ _ _ _ _)
      | (with_reducible exact ih1 _)
      | (with_reducible exact ih2 _ _ _ _ _ _ _)
      | (with_reducible exact ih3 _ _)
      | (with_reducible exact impl_MixBlock.mono _ _ _)
      | (with_reducible exact impl_MixText.mono _ _ _ _)
      | (with_reducible exact impl_UnmixBlock.mono _ _ _)
      | (with_reducible exact impl_UnmixText.mono _ _ _ _)
      | (with_reducible exact spec_DrawMixBlock.mono _ _)
      | (with_reducible exact spec_DrawMixText.mono _ _)
      | (with_reducible exact spec_MixBlock.mono _ _ _)
      | (with_reducible exact spec_MixText.mono _ _ _ _)
      | (with_reducible exact spec_UnmixBlock.mono _ _ _)
      | (with_reducible exact spec_UnmixText.mono _ _ _ _)
      | (with_reducible exact LeO.refl _)
      | (with_reducible exact LeO.none _)
      | (with_reducible refine LeO.ite ?_ ?_)
      | (with_reducible refine LeO.bind ?_ (fun _ => ?_))
      | exact ih0 _ _ _ _ _ _ _
      | exact ih1 _
      | exact ih2 _ _ _ _ _ _ _
      | exact ih3 _ _
      | exact impl_MixBlock.mono _ _ _
      | exact impl_MixText.mono _ _ _ _
      | exact impl_UnmixBlock.mono _ _ _
      | exact impl_UnmixText.mono _ _ _ _
      | exact spec_DrawMixBlock.mono _ _
      | exact spec_DrawMixText.mono _ _
      | exact spec_MixBlock.mono _ _ _
      | exact spec_MixText.mono _ _ _ _
      | exact spec_UnmixBlock.mono _ _ _
      | exact spec_UnmixText.mono _ _ _ _
      | exact LeO.none _
      | refine LeO.ite ?_ ?_
      | refine LeO.bind ?_ (fun _ => ?_)
set_option maxHeartbeats 8000000 in
set_option maxRecDepth 100000 in
theorem laws_FnMixed.calls (k : Nat) (A0 : Option Addr) (c0 : Nat) (l0 : List Int) (A1 : Option Addr) (c1 : Nat) (l1 : List Int) (_r : Bool) (w : World) (hr0 : Kd.C (Kd.int .u8) w A0 l0.length l0) (hc0 : l0.length ≤ c0) (hr1 : Kd.C (Kd.int .u8) w A1 l1.length l1) (hc1 : l1.length ≤ c1) (h : laws_FnMixed.f k l0 l1 = some true) :
    Calls Try.prog 11 #[.slice A0 l0.length c0, .slice A1 l1.length c1] w fun e w' => e = .returned (.bool true) ∧ Below w.heap.size w w' := by
 have HR0 := Aside0.mk hr0
 have HC0 := Aside0.mk hc0
 clear hr0 hc0
 have HR1 := Aside0.mk hr1
 have HC1 := Aside0.mk hc1
 clear hr1 hc1
 have HB := Aside0.mk (Below.refl w.heap.size w)
 have H : (if (wrap64 ((l0.length : Int) + (l1.length : Int))) > 1048576 then (some true) else ((spec_DrawMixBlock.f k l0).bind fun bt288 => ((impl_MixBlock.f k bt288.1 bt288.2).bind fun bt292 => ((spec_MixBlock.f k bt288.1 bt288.2).bind fun bt294 => ((impl_UnmixBlock.f k bt288.1 bt288.2).bind fun bt296 => ((spec_UnmixBlock.f k bt288.1 bt288.2).bind fun bt298 => (if (bt292.2 != bt294.2) = true then (laws_FnMixed.j0 k l1 bt288.1 bt288.2 bt292.1 bt292.2 bt296.1 true) else (if bt292.1 = bt294.1 then (if (bt296.2 != bt298.2) = true then (laws_FnMixed.j0 k l1 bt288.1 bt288.2 bt292.1 bt292.2 bt296.1 true) else (laws_FnMixed.j0 k l1 bt288.1 bt288.2 bt292.1 bt292.2 bt296.1 (bt296.1 != bt298.1))) else (laws_FnMixed.j0 k l1 bt288.1 bt288.2 bt292.1 bt292.2 bt296.1 true))))))))) = some true := h
 clear h
 by_cases c3 : (wrap64 ((l0.length : Int) + (l1.length : Int))) > 1048576
 · rw [if_pos c3] at H
   have c3b0 : decide (1048576 < (wrap64 ((l0.length : Int) + (l1.length : Int)))) = true := decide_eq_true c3
   clear c3
   clear H
   go_enter Try.func11, Try.ntmps11
   go_wp2
   go_ret
   exact ⟨by first | rfl | (simp [errW_none, errW_some] <;> rfl) | (simp [*, errW_none, errW_some] <;> rfl), hq HB⟩
 rw [if_neg c3] at H
 have c3b0 : decide (1048576 < (wrap64 ((l0.length : Int) + (l1.length : Int)))) = false := decide_eq_false c3
 clear c3
 replace H := Option.bind_eq_some_iff.mp H
 obtain ⟨⟨t288, t289⟩, A40, H⟩ := H
 replace H : ((impl_MixBlock.f k t288 t289).bind fun bt292 => ((spec_MixBlock.f k t288 t289).bind fun bt294 => ((impl_UnmixBlock.f k t288 t289).bind fun bt296 => ((spec_UnmixBlock.f k t288 t289).bind fun bt298 => (if (bt292.2 != bt294.2) = true then (laws_FnMixed.j0 k l1 t288 t289 bt292.1 bt292.2 bt296.1 true) else (if bt292.1 = bt294.1 then (if (bt296.2 != bt298.2) = true then (laws_FnMixed.j0 k l1 t288 t289 bt292.1 bt292.2 bt296.1 true) else (laws_FnMixed.j0 k l1 t288 t289 bt292.1 bt292.2 bt296.1 (bt296.1 != bt298.1))) else (laws_FnMixed.j0 k l1 t288 t289 bt292.1 bt292.2 bt296.1 true))))))) = some true := H
 have A4 := Aside0.mk A40
 clear A40
 replace H := Option.bind_eq_some_iff.mp H
 obtain ⟨⟨t292, t293⟩, A50, H⟩ := H
 replace H : ((spec_MixBlock.f k t288 t289).bind fun bt294 => ((impl_UnmixBlock.f k t288 t289).bind fun bt296 => ((spec_UnmixBlock.f k t288 t289).bind fun bt298 => (if (t293 != bt294.2) = true then (laws_FnMixed.j0 k l1 t288 t289 t292 t293 bt296.1 true) else (if t292 = bt294.1 then (if (bt296.2 != bt298.2) = true then (laws_FnMixed.j0 k l1 t288 t289 t292 t293 bt296.1 true) else (laws_FnMixed.j0 k l1 t288 t289 t292 t293 bt296.1 (bt296.1 != bt298.1))) else (laws_FnMixed.j0 k l1 t288 t289 t292 t293 bt296.1 true)))))) = some true := H
 have A5 := Aside0.mk A50
 clear A50
 replace H := Option.bind_eq_some_iff.mp H
 obtain ⟨⟨t294, t295⟩, A60, H⟩ := H
 replace H : ((impl_UnmixBlock.f k t288 t289).bind fun bt296 => ((spec_UnmixBlock.f k t288 t289).bind fun bt298 => (if (t293 != t295) = true then (laws_FnMixed.j0 k l1 t288 t289 t292 t293 bt296.1 true) else (if t292 = t294 then (if (bt296.2 != bt298.2) = true then (laws_FnMixed.j0 k l1 t288 t289 t292 t293 bt296.1 true) else (laws_FnMixed.j0 k l1 t288 t289 t292 t293 bt296.1 (bt296.1 != bt298.1))) else (laws_FnMixed.j0 k l1 t288 t289 t292 t293 bt296.1 true))))) = some true := H
 have A6 := Aside0.mk A60
 clear A60
 replace H := Option.bind_eq_some_iff.mp H
 obtain ⟨⟨t296, t297⟩, A70, H⟩ := H
 replace H : ((spec_UnmixBlock.f k t288 t289).bind fun bt298 => (if (t293 != t295) = true then (laws_FnMixed.j0 k l1 t288 t289 t292 t293 t296 true) else (if t292 = t294 then (if (t297 != bt298.2) = true then (laws_FnMixed.j0 k l1 t288 t289 t292 t293 t296 true) else (laws_FnMixed.j0 k l1 t288 t289 t292 t293 t296 (t296 != bt298.1))) else (laws_FnMixed.j0 k l1 t288 t289 t292 t293 t296 true)))) = some true := H
 have A7 := Aside0.mk A70
 clear A70
 replace H := Option.bind_eq_some_iff.mp H
 obtain ⟨⟨t298, t299⟩, A80, H⟩ := H
 replace H : (if (t293 != t295) = true then (laws_FnMixed.j0 k l1 t288 t289 t292 t293 t296 true) else (if t292 = t294 then (if (t297 != t299) = true then (laws_FnMixed.j0 k l1 t288 t289 t292 t293 t296 true) else (laws_FnMixed.j0 k l1 t288 t289 t292 t293 t296 (t296 != t298))) else (laws_FnMixed.j0 k l1 t288 t289 t292 t293 t296 true))) = some true := H
 have A8 := Aside0.mk A80
 clear A80
 have HC9 := Aside0.mk H
 clear H
 go_enter Try.func11, Try.ntmps11
 go_upto_region 8 with (first | ((with_reducible refine gate_callee (f := 40) rfl ?_); refine goesL_ (some 46) rfl rfl Try.func40 (by kernel_rfl) rfl #[.slice A0 l0.length c0] rfl (by (try simp only [List.map_toArray, List.map_cons, List.map_nil]); first | done | rfl | (simp only [List.length_drop, List.length_take]; rfl)) ?_; (with_reducible refine (spec_DrawMixBlock.calls k _ _ l0 t288 t289 _ ?side1 ?side2 A4.out).mono ?_); (case side1 => repeat (first | exact HR0.out | (with_reducible refine Kd.C_alloc ?_ _) | (with_reducible refine Kd.C_drewN ?_ _) | (with_reducible refine Kd.C_drew ?_))); (case side2 => exact HC0.out); rintro e w10 ⟨v290, rfl, ho0, hb⟩; refine ⟨_, rfl, ?_⟩; have HO291 := Aside0.mk (Kd.R_lower ho0 (below_size (hq HB))); replace HB := cs (hq HB) hb; (try clear hb); (try clear hb2); (try clear hk); (try clear hi); (try clear ho0); obtain ⟨Ao11, co11, eo11⟩ := Kd.R_slice HO291.out; subst eo11) | ((with_reducible refine gate_callee (f := 21) rfl ?_); refine goesL_ (some 52) rfl rfl Try.func21 (by kernel_rfl) rfl #[.slice Ao11 t288.length co11, .int .i64 t289] rfl (by (try simp only [List.map_toArray, List.map_cons, List.map_nil]); first | done | rfl | (simp only [List.length_drop, List.length_take]; rfl)) ?_; (with_reducible refine (impl_MixBlock.calls k _ _ t288 t289 t292 t293 _ ?side1 ?side2 A5.out).mono ?_); (case side1 => repeat (first | exact (Kd.R_reads' HO291.out).2.2 | (with_reducible refine Kd.C_alloc ?_ _) | (with_reducible refine Kd.C_drewN ?_ _) | (with_reducible refine Kd.C_drew ?_))); (case side2 => exact (Kd.R_reads' HO291.out).2.1); rintro e w' ⟨rfl, ⟨nd, rfl⟩⟩; refine ⟨_, rfl, ?_⟩) | ((with_reducible refine gate_callee (f := 19) rfl ?_); refine goesL_ (some 58) rfl rfl Try.func19 (by kernel_rfl) rfl #[.slice Ao11 t288.length co11, .int .i64 t289] rfl (by (try simp only [List.map_toArray, List.map_cons, List.map_nil]); first | done | rfl | (simp only [List.length_drop, List.length_take]; rfl)) ?_; (with_reducible refine (spec_MixBlock.calls k _ _ t288 t289 t294 t295 _ ?side1 ?side2 A6.out).mono ?_); (case side1 => repeat (first | exact (Kd.R_reads' HO291.out).2.2 | (with_reducible refine Kd.C_alloc ?_ _) | (with_reducible refine Kd.C_drewN ?_ _) | (with_reducible refine Kd.C_drew ?_))); (case side2 => exact (Kd.R_reads' HO291.out).2.1); rintro e w' ⟨rfl, ⟨nd, rfl⟩⟩; refine ⟨_, rfl, ?_⟩) | ((with_reducible refine gate_callee (f := 24) rfl ?_); refine goesL_ (some 64) rfl rfl Try.func24 (by kernel_rfl) rfl #[.slice Ao11 t288.length co11, .int .i64 t289] rfl (by (try simp only [List.map_toArray, List.map_cons, List.map_nil]); first | done | rfl | (simp only [List.length_drop, List.length_take]; rfl)) ?_; (with_reducible refine (impl_UnmixBlock.calls k _ _ t288 t289 t296 t297 _ ?side1 ?side2 A7.out).mono ?_); (case side1 => repeat (first | exact (Kd.R_reads' HO291.out).2.2 | (with_reducible refine Kd.C_alloc ?_ _) | (with_reducible refine Kd.C_drewN ?_ _) | (with_reducible refine Kd.C_drew ?_))); (case side2 => exact (Kd.R_reads' HO291.out).2.1); rintro e w' ⟨rfl, ⟨nd, rfl⟩⟩; refine ⟨_, rfl, ?_⟩) | ((with_reducible refine gate_callee (f := 23) rfl ?_); refine goesL_ (some 70) rfl rfl Try.func23 (by kernel_rfl) rfl #[.slice Ao11 t288.length co11, .int .i64 t289] rfl (by (try simp only [List.map_toArray, List.map_cons, List.map_nil]); first | done | rfl | (simp only [List.length_drop, List.length_take]; rfl)) ?_; (with_reducible refine (spec_UnmixBlock.calls k _ _ t288 t289 t298 t299 _ ?side1 ?side2 A8.out).mono ?_); (case side1 => repeat (first | exact (Kd.R_reads' HO291.out).2.2 | (with_reducible refine Kd.C_alloc ?_ _) | (with_reducible refine Kd.C_drewN ?_ _) | (with_reducible refine Kd.C_drew ?_))); (case side2 => exact (Kd.R_reads' HO291.out).2.1); rintro e w' ⟨rfl, ⟨nd, rfl⟩⟩; refine ⟨_, rfl, ?_⟩))
 (try simp only [Act.put, List.setIfInBounds_toArray, List.set_cons_zero, List.set_cons_succ])
 go_cut [90] from 38 to 90 (fun v90 wc => ∃ (kq : Nat) (x90_8 : Bool), v90 = .bool x90_8 ∧ Aside0 (laws_FnMixed.j0 kq l1 t288 t289 t292 t293 t296 x90_8 = some true) ∧ Aside0 (kq ≤ k) ∧ Aside0 (Kd.R (Kd.int .i64) 3 wc w.heap.size (fun _ => True) (.slice Ao11 t288.length co11) t288) ∧ Aside0 (Below w.heap.size w wc))
 case first =>
   have H := HC9.out
   clear HC9
   by_cases c12 : (t293 != t295) = true
   · rw [if_pos c12] at H
     have c12b0 : (t293 != t295) = true := c12
     (try (have c12b1 : decide (t293 = t295) = false := by simpa using c12))
     (try (have c12b2 : (t293 == t295) = false := by simpa using c12))
     (try (have c12b3 : ¬ (t293 = t295) := by simpa using c12))
     clear c12
     (first | rw [c12b0] | (simp only [i64_w, i32_w]; rw [c12b0]) | skip)
     have H' := Aside0.mk H
     clear H
     go_wp2
     go_meet
     case rel => exact ⟨_, (true), (by first | rfl | (simp; done) | (simp [*]; done)), H', ⟨by first | omega | exact Nat.le_refl _⟩, ⟨by (with_reducible repeat (first | apply Kd.R_alloc | apply Kd.R_drewN | apply Kd.R_drew)); exact HO291.out⟩, ⟨hq HB⟩⟩
   rw [if_neg c12] at H
   have c12b0 : (t293 != t295) = false := by simpa using c12
   (try (have c12b1 : decide (t293 = t295) = true := by simpa using c12))
   (try (have c12b2 : (t293 == t295) = true := by simpa using c12))
   clear c12
   (first | rw [c12b0] | (simp only [i64_w, i32_w]; rw [c12b0]) | skip)
   by_cases c13 : t292 = t294
   rotate_left
   · rw [if_neg c13] at H
     have c13b0 : (t292 == t294) = false := beq_eq_false_iff_ne.mpr c13
     have c13b1 : (t292 != t294) = true := bne_iff_ne.mpr c13
     have H' := Aside0.mk H
     clear H
     go_wp2
     go_meet
     case rel => exact ⟨_, (true), (by first | rfl | (simp; done) | (simp [*]; done)), H', ⟨by first | omega | exact Nat.le_refl _⟩, ⟨by (with_reducible repeat (first | apply Kd.R_alloc | apply Kd.R_drewN | apply Kd.R_drew)); exact HO291.out⟩, ⟨hq HB⟩⟩
   rw [if_pos c13] at H
   have c13b0 : (t292 == t294) = true := beq_iff_eq.mpr c13
   have c13b1 : (t292 != t294) = false := bne_eq_false_iff_eq.mpr c13
   clear c13
   by_cases c14 : (t297 != t299) = true
   rotate_left
   · rw [if_neg c14] at H
     have c14b0 : (t297 != t299) = false := by simpa using c14
     (try (have c14b1 : decide (t297 = t299) = true := by simpa using c14))
     (try (have c14b2 : (t297 == t299) = true := by simpa using c14))
     clear c14
     have H' := Aside0.mk H
     clear H
     go_wp2
     go_meet
     case rel => exact ⟨_, ((t296 != t298)), (by first | rfl | (simp; done) | (simp [*]; done)), H', ⟨by first | omega | exact Nat.le_refl _⟩, ⟨by (with_reducible repeat (first | apply Kd.R_alloc | apply Kd.R_drewN | apply Kd.R_drew)); exact HO291.out⟩, ⟨hq HB⟩⟩
   rw [if_pos c14] at H
   have c14b0 : (t297 != t299) = true := c14
   (try (have c14b1 : decide (t297 = t299) = false := by simpa using c14))
   (try (have c14b2 : (t297 == t299) = false := by simpa using c14))
   (try (have c14b3 : ¬ (t297 = t299) := by simpa using c14))
   clear c14
   have H' := Aside0.mk H
   clear H
   go_wp2
   go_meet
   case rel => exact ⟨_, (true), (by first | rfl | (simp; done) | (simp [*]; done)), H', ⟨by first | omega | exact Nat.le_refl _⟩, ⟨by (with_reducible repeat (first | apply Kd.R_alloc | apply Kd.R_drewN | apply Kd.R_drew)); exact HO291.out⟩, ⟨hq HB⟩⟩
 clear HC9
 try clear c1
 try clear c2
 try clear p2
 try clear c3
 try clear c3b0
 try clear c4
 try clear p6
 try clear c11
 try clear c12
 try clear c12b0
 try clear c12b1
 try clear c12b2
 try clear c13
 try clear c13b0
 try clear c13b1
 try clear c14
 try clear c14b0
 try clear c14b1
 try clear c14b2
 obtain ⟨kq, x90_8, rfl, HA, HJ8, HO_5, HB⟩ := hcut
 obtain _ | kj8 := kq
 · exact absurd HA.out (by simp [laws_FnMixed.j0])
 have H := HA.out
 clear HA
 simp only [laws_FnMixed.j0] at H
 by_cases c15 : x90_8 = true
 · subst c15
   have H1 : (some false) = some true := by rw [if_pos rfl] at H; exact H
   clear H
   have H := H1
   clear H1
   cases H
 replace c15 := Bool.eq_false_iff.mpr c15
 subst c15
 have H1 : (if t293 = true then ((impl_UnmixBlock.f kj8 t288 t292).bind fun bt300 => ((impl_MixBlock.f kj8 t288 t296).bind fun bt302 => (if bt300.2 = true then (if bt300.1 = t289 then (if bt302.2 = true then (if bt302.1 = t289 then (laws_FnMixed.j1 kj8 l1) else (some false)) else (some false)) else (some false)) else (some false)))) else (laws_FnMixed.j1 kj8 l1)) = some true := by rw [if_neg (show ¬ (false = true) by decide)] at H; exact H
 clear H
 have H := H1
 clear H1
 have HC16 := Aside0.mk H
 clear H
 go_upto_if 91 with (fail)
 go_cut [] from 91 to 119 (fun wc => ∃ (kq : Nat), Aside0 (laws_FnMixed.j1 kq l1 = some true) ∧ Aside0 (kq ≤ kj8) ∧ Aside0 (Below w.heap.size w wc))
 case first =>
   have H := HC16.out
   clear HC16
   by_cases c17 : t293 = true
   rotate_left
   · replace c17 := Bool.eq_false_iff.mpr c17
     subst c17
     have H1 : (laws_FnMixed.j1 kj8 l1) = some true := by rw [if_neg (show ¬ (false = true) by decide)] at H; exact H
     clear H
     have H := H1
     clear H1
     have H' := Aside0.mk H
     clear H
     go_wp2
     go_meet
     case rel => exact ⟨_, H', ⟨by have := HJ8.out; first | omega | exact Nat.le_refl _⟩, ⟨hq HB⟩⟩
   subst c17
   have H1 : ((impl_UnmixBlock.f kj8 t288 t292).bind fun bt300 => ((impl_MixBlock.f kj8 t288 t296).bind fun bt302 => (if bt300.2 = true then (if bt300.1 = t289 then (if bt302.2 = true then (if bt302.1 = t289 then (laws_FnMixed.j1 kj8 l1) else (some false)) else (some false)) else (some false)) else (some false)))) = some true := by rw [if_pos rfl] at H; exact H
   clear H
   have H := H1
   clear H1
   replace H := Option.bind_eq_some_iff.mp H
   obtain ⟨⟨t300, t301⟩, A180, H⟩ := H
   replace H : ((impl_MixBlock.f kj8 t288 t296).bind fun bt302 => (if t301 = true then (if t300 = t289 then (if bt302.2 = true then (if bt302.1 = t289 then (laws_FnMixed.j1 kj8 l1) else (some false)) else (some false)) else (some false)) else (some false))) = some true := H
   have A18 := Aside0.mk A180
   clear A180
   replace H := Option.bind_eq_some_iff.mp H
   obtain ⟨⟨t302, t303⟩, A190, H⟩ := H
   replace H : (if t301 = true then (if t300 = t289 then (if t303 = true then (if t302 = t289 then (laws_FnMixed.j1 kj8 l1) else (some false)) else (some false)) else (some false)) else (some false)) = some true := H
   have A19 := Aside0.mk A190
   clear A190
   by_cases c20 : t301 = true
   rotate_left
   · replace c20 := Bool.eq_false_iff.mpr c20
     subst c20
     have H1 : (some false) = some true := by rw [if_neg (show ¬ (false = true) by decide)] at H; exact H
     clear H
     have H := H1
     clear H1
     cases H
   subst c20
   have H1 : (if t300 = t289 then (if t303 = true then (if t302 = t289 then (laws_FnMixed.j1 kj8 l1) else (some false)) else (some false)) else (some false)) = some true := by rw [if_pos rfl] at H; exact H
   clear H
   have H := H1
   clear H1
   by_cases c21 : t300 = t289
   rotate_left
   · rw [if_neg c21] at H
     have c21b0 : (t300 == t289) = false := beq_eq_false_iff_ne.mpr c21
     have c21b1 : (t300 != t289) = true := bne_iff_ne.mpr c21
     (first | rw [c21b0] | (simp only [i64_w, i32_w]; rw [c21b0]) | skip)
     cases H
   rw [if_pos c21] at H
   have c21b0 : (t300 == t289) = true := beq_iff_eq.mpr c21
   have c21b1 : (t300 != t289) = false := bne_eq_false_iff_eq.mpr c21
   clear c21
   (first | rw [c21b0] | (simp only [i64_w, i32_w]; rw [c21b0]) | skip)
   by_cases c22 : t303 = true
   rotate_left
   · replace c22 := Bool.eq_false_iff.mpr c22
     subst c22
     have H1 : (some false) = some true := by rw [if_neg (show ¬ (false = true) by decide)] at H; exact H
     clear H
     have H := H1
     clear H1
     cases H
   subst c22
   have H1 : (if t302 = t289 then (laws_FnMixed.j1 kj8 l1) else (some false)) = some true := by rw [if_pos rfl] at H; exact H
   clear H
   have H := H1
   clear H1
   by_cases c23 : t302 = t289
   rotate_left
   · rw [if_neg c23] at H
     have c23b0 : (t302 == t289) = false := beq_eq_false_iff_ne.mpr c23
     have c23b1 : (t302 != t289) = true := bne_iff_ne.mpr c23
     cases H
   rw [if_pos c23] at H
   have c23b0 : (t302 == t289) = true := beq_iff_eq.mpr c23
   have c23b1 : (t302 != t289) = false := bne_eq_false_iff_eq.mpr c23
   clear c23
   have H' := Aside0.mk H
   clear H
   go_wp2_with (first | ((with_reducible refine gate_callee (f := 24) rfl ?_); refine goesL_ (some 95) rfl rfl Try.func24 (by kernel_rfl) rfl #[.slice Ao11 t288.length co11, .int .i64 t292] rfl (by (try simp only [List.map_toArray, List.map_cons, List.map_nil]); first | done | rfl | (simp only [List.length_drop, List.length_take]; rfl)) ?_; (with_reducible refine (impl_UnmixBlock.calls kj8 _ _ t288 t292 t300 true _ ?side1 ?side2 A18.out).mono ?_); (case side1 => repeat (first | exact (Kd.R_reads' HO_5.out).2.2 | (with_reducible refine Kd.C_alloc ?_ _) | (with_reducible refine Kd.C_drewN ?_ _) | (with_reducible refine Kd.C_drew ?_))); (case side2 => exact (Kd.R_reads' HO_5.out).2.1); rintro e w' ⟨rfl, ⟨nd, rfl⟩⟩; refine ⟨_, rfl, ?_⟩) | ((with_reducible refine gate_callee (f := 21) rfl ?_); refine goesL_ (some 101) rfl rfl Try.func21 (by kernel_rfl) rfl #[.slice Ao11 t288.length co11, .int .i64 t296] rfl (by (try simp only [List.map_toArray, List.map_cons, List.map_nil]); first | done | rfl | (simp only [List.length_drop, List.length_take]; rfl)) ?_; (with_reducible refine (impl_MixBlock.calls kj8 _ _ t288 t296 t302 true _ ?side1 ?side2 A19.out).mono ?_); (case side1 => repeat (first | exact (Kd.R_reads' HO_5.out).2.2 | (with_reducible refine Kd.C_alloc ?_ _) | (with_reducible refine Kd.C_drewN ?_ _) | (with_reducible refine Kd.C_drew ?_))); (case side2 => exact (Kd.R_reads' HO_5.out).2.1); rintro e w' ⟨rfl, ⟨nd, rfl⟩⟩; refine ⟨_, rfl, ?_⟩))
   go_meet
   case rel => exact ⟨_, H', ⟨by have := HJ8.out; first | omega | exact Nat.le_refl _⟩, ⟨hq HB⟩⟩
 clear HC16
 try clear c1
 try clear c2
 try clear p2
 try clear c3
 try clear c3b0
 try clear c4
 try clear p6
 try clear c11
 try clear c12
 try clear c12b0
 try clear c12b1
 try clear c12b2
 try clear c13
 try clear c13b0
 try clear c13b1
 try clear c14
 try clear c14b0
 try clear c14b1
 try clear c14b2
 try clear c15
 try clear c17
 try clear c19
 try clear c20
 try clear c21
 try clear c21b0
 try clear c21b1
 try clear c22
 try clear c23
 try clear c23b0
 try clear c23b1
 try clear p2
 try clear p6
 obtain ⟨kq, HA, HJ15, HB⟩ := hcut
 obtain _ | kj15 := kq
 · exact absurd HA.out (by simp [laws_FnMixed.j1])
 have H := HA.out
 clear HA
 simp only [laws_FnMixed.j1] at H
 replace H := Option.bind_eq_some_iff.mp H
 obtain ⟨⟨t304, t305, t306⟩, A240, H⟩ := H
 replace H : ((impl_MixText.f kj15 t304 t305 t306).bind fun bt309 => ((spec_MixText.f kj15 t304 t305 t306).bind fun bt311 => ((impl_UnmixText.f kj15 t304 t305 t306).bind fun bt313 => ((spec_UnmixText.f kj15 t304 t305 t306).bind fun bt315 => (if (bt309.2 != bt311.2) = true then (laws_FnMixed.j2 kj15 l1 t304 t305 t306 bt309.1 bt309.2 true) else (if bt309.1.toList = bt311.1.toList then (if (bt313.2 != bt315.2) = true then (laws_FnMixed.j2 kj15 l1 t304 t305 t306 bt309.1 bt309.2 true) else (laws_FnMixed.j2 kj15 l1 t304 t305 t306 bt309.1 bt309.2 (bt313.1.toList != bt315.1.toList))) else (laws_FnMixed.j2 kj15 l1 t304 t305 t306 bt309.1 bt309.2 true))))))) = some true := H
 have A24 := Aside0.mk A240
 clear A240
 replace H := Option.bind_eq_some_iff.mp H
 obtain ⟨⟨t309, t310⟩, A250, H⟩ := H
 replace H : ((spec_MixText.f kj15 t304 t305 t306).bind fun bt311 => ((impl_UnmixText.f kj15 t304 t305 t306).bind fun bt313 => ((spec_UnmixText.f kj15 t304 t305 t306).bind fun bt315 => (if (t310 != bt311.2) = true then (laws_FnMixed.j2 kj15 l1 t304 t305 t306 t309 t310 true) else (if t309.toList = bt311.1.toList then (if (bt313.2 != bt315.2) = true then (laws_FnMixed.j2 kj15 l1 t304 t305 t306 t309 t310 true) else (laws_FnMixed.j2 kj15 l1 t304 t305 t306 t309 t310 (bt313.1.toList != bt315.1.toList))) else (laws_FnMixed.j2 kj15 l1 t304 t305 t306 t309 t310 true)))))) = some true := H
 have A25 := Aside0.mk A250
 clear A250
 replace H := Option.bind_eq_some_iff.mp H
 obtain ⟨⟨t311, t312⟩, A260, H⟩ := H
 replace H : ((impl_UnmixText.f kj15 t304 t305 t306).bind fun bt313 => ((spec_UnmixText.f kj15 t304 t305 t306).bind fun bt315 => (if (t310 != t312) = true then (laws_FnMixed.j2 kj15 l1 t304 t305 t306 t309 t310 true) else (if t309.toList = t311.toList then (if (bt313.2 != bt315.2) = true then (laws_FnMixed.j2 kj15 l1 t304 t305 t306 t309 t310 true) else (laws_FnMixed.j2 kj15 l1 t304 t305 t306 t309 t310 (bt313.1.toList != bt315.1.toList))) else (laws_FnMixed.j2 kj15 l1 t304 t305 t306 t309 t310 true))))) = some true := H
 have A26 := Aside0.mk A260
 clear A260
 replace H := Option.bind_eq_some_iff.mp H
 obtain ⟨⟨t313, t314⟩, A270, H⟩ := H
 replace H : ((spec_UnmixText.f kj15 t304 t305 t306).bind fun bt315 => (if (t310 != t312) = true then (laws_FnMixed.j2 kj15 l1 t304 t305 t306 t309 t310 true) else (if t309.toList = t311.toList then (if (t314 != bt315.2) = true then (laws_FnMixed.j2 kj15 l1 t304 t305 t306 t309 t310 true) else (laws_FnMixed.j2 kj15 l1 t304 t305 t306 t309 t310 (t313.toList != bt315.1.toList))) else (laws_FnMixed.j2 kj15 l1 t304 t305 t306 t309 t310 true)))) = some true := H
 have A27 := Aside0.mk A270
 clear A270
 replace H := Option.bind_eq_some_iff.mp H
 obtain ⟨⟨t315, t316⟩, A280, H⟩ := H
 replace H : (if (t310 != t312) = true then (laws_FnMixed.j2 kj15 l1 t304 t305 t306 t309 t310 true) else (if t309.toList = t311.toList then (if (t314 != t316) = true then (laws_FnMixed.j2 kj15 l1 t304 t305 t306 t309 t310 true) else (laws_FnMixed.j2 kj15 l1 t304 t305 t306 t309 t310 (t313.toList != t315.toList))) else (laws_FnMixed.j2 kj15 l1 t304 t305 t306 t309 t310 true))) = some true := H
 have A28 := Aside0.mk A280
 clear A280
 have HC29 := Aside0.mk H
 clear H
 go_upto_region 20 with (first | ((with_reducible refine gate_callee (f := 41) rfl ?_); refine goesL_ (some 122) rfl rfl Try.func41 (by kernel_rfl) rfl #[.slice A1 l1.length c1] rfl (by (try simp only [List.map_toArray, List.map_cons, List.map_nil]); first | done | rfl | (simp only [List.length_drop, List.length_take]; rfl)) ?_; (with_reducible refine (spec_DrawMixText.calls kj15 _ _ l1 t304 t305 t306 _ ?side1 ?side2 A24.out).mono ?_); (case side1 => repeat (first | exact (Kd.C_below HR1.out HB.out) | (with_reducible refine Kd.C_alloc ?_ _) | (with_reducible refine Kd.C_drewN ?_ _) | (with_reducible refine Kd.C_drew ?_))); (case side2 => exact HC1.out); rintro e w30 ⟨v307, rfl, ho0, hb⟩; refine ⟨_, rfl, ?_⟩; have HO308 := Aside0.mk (Kd.R_lower ho0 (below_size (hq HB))); replace HB := cs (hq HB) hb; (try clear hb); (try clear hb2); (try clear hk); (try clear hi); (try clear ho0); obtain ⟨Ao31, co31, eo31⟩ := Kd.R_slice HO308.out; subst eo31) | ((with_reducible refine gate_callee (f := 30) rfl ?_); refine goesL_ (some 130) rfl rfl Try.func30 (by kernel_rfl) rfl #[.slice Ao31 t304.length co31, .int .i64 t305, .string t306] rfl (by (try simp only [List.map_toArray, List.map_cons, List.map_nil]); first | done | rfl | (simp only [List.length_drop, List.length_take]; rfl)) ?_; (with_reducible refine (impl_MixText.calls kj15 _ _ t304 t305 t306 t309 t310 _ ?side1 ?side2 A25.out).mono ?_); (case side1 => repeat (first | exact (Kd.R_reads' HO308.out).2.2 | (with_reducible refine Kd.C_alloc ?_ _) | (with_reducible refine Kd.C_drewN ?_ _) | (with_reducible refine Kd.C_drew ?_))); (case side2 => exact (Kd.R_reads' HO308.out).2.1); rintro e w32 ⟨rfl, hb⟩; refine ⟨_, rfl, ?_⟩; replace HO308 := cb HO308 hb; replace HB := cs (hq HB) hb; (try clear hb); (try clear hb2); (try clear hk); (try clear hi)) | ((with_reducible refine gate_callee (f := 29) rfl ?_); refine goesL_ (some 137) rfl rfl Try.func29 (by kernel_rfl) rfl #[.slice Ao31 t304.length co31, .int .i64 t305, .string t306] rfl (by (try simp only [List.map_toArray, List.map_cons, List.map_nil]); first | done | rfl | (simp only [List.length_drop, List.length_take]; rfl)) ?_; (with_reducible refine (spec_MixText.calls kj15 _ _ t304 t305 t306 t311 t312 _ ?side1 ?side2 A26.out).mono ?_); (case side1 => repeat (first | exact (Kd.R_reads' HO308.out).2.2 | (with_reducible refine Kd.C_alloc ?_ _) | (with_reducible refine Kd.C_drewN ?_ _) | (with_reducible refine Kd.C_drew ?_))); (case side2 => exact (Kd.R_reads' HO308.out).2.1); rintro e w33 ⟨rfl, hb⟩; refine ⟨_, rfl, ?_⟩; replace HO308 := cb HO308 hb; replace HB := cs (hq HB) hb; (try clear hb); (try clear hb2); (try clear hk); (try clear hi)) | ((with_reducible refine gate_callee (f := 32) rfl ?_); refine goesL_ (some 144) rfl rfl Try.func32 (by kernel_rfl) rfl #[.slice Ao31 t304.length co31, .int .i64 t305, .string t306] rfl (by (try simp only [List.map_toArray, List.map_cons, List.map_nil]); first | done | rfl | (simp only [List.length_drop, List.length_take]; rfl)) ?_; (with_reducible refine (impl_UnmixText.calls kj15 _ _ t304 t305 t306 t313 t314 _ ?side1 ?side2 A27.out).mono ?_); (case side1 => repeat (first | exact (Kd.R_reads' HO308.out).2.2 | (with_reducible refine Kd.C_alloc ?_ _) | (with_reducible refine Kd.C_drewN ?_ _) | (with_reducible refine Kd.C_drew ?_))); (case side2 => exact (Kd.R_reads' HO308.out).2.1); rintro e w34 ⟨rfl, hb⟩; refine ⟨_, rfl, ?_⟩; replace HO308 := cb HO308 hb; replace HB := cs (hq HB) hb; (try clear hb); (try clear hb2); (try clear hk); (try clear hi)) | ((with_reducible refine gate_callee (f := 31) rfl ?_); refine goesL_ (some 151) rfl rfl Try.func31 (by kernel_rfl) rfl #[.slice Ao31 t304.length co31, .int .i64 t305, .string t306] rfl (by (try simp only [List.map_toArray, List.map_cons, List.map_nil]); first | done | rfl | (simp only [List.length_drop, List.length_take]; rfl)) ?_; (with_reducible refine (spec_UnmixText.calls kj15 _ _ t304 t305 t306 t315 t316 _ ?side1 ?side2 A28.out).mono ?_); (case side1 => repeat (first | exact (Kd.R_reads' HO308.out).2.2 | (with_reducible refine Kd.C_alloc ?_ _) | (with_reducible refine Kd.C_drewN ?_ _) | (with_reducible refine Kd.C_drew ?_))); (case side2 => exact (Kd.R_reads' HO308.out).2.1); rintro e w35 ⟨rfl, hb⟩; refine ⟨_, rfl, ?_⟩; replace HO308 := cb HO308 hb; replace HB := cs (hq HB) hb; (try clear hb); (try clear hb2); (try clear hk); (try clear hi)))
 (try simp only [Act.put, List.setIfInBounds_toArray, List.set_cons_zero, List.set_cons_succ])
 go_cut [171] from 120 to 171 (fun v171 wc => ∃ (kq : Nat) (x171_28 : Bool), v171 = .bool x171_28 ∧ Aside0 (laws_FnMixed.j2 kq l1 t304 t305 t306 t309 t310 x171_28 = some true) ∧ Aside0 (kq ≤ kj15) ∧ Aside0 (Kd.R (Kd.int .i64) 3 wc w.heap.size (fun _ => True) (.slice Ao31 t304.length co31) t304) ∧ Aside0 (Below w.heap.size w wc))
 case first =>
   have H := HC29.out
   clear HC29
   by_cases c36 : (t310 != t312) = true
   · rw [if_pos c36] at H
     have c36b0 : (t310 != t312) = true := c36
     (try (have c36b1 : decide (t310 = t312) = false := by simpa using c36))
     (try (have c36b2 : (t310 == t312) = false := by simpa using c36))
     (try (have c36b3 : ¬ (t310 = t312) := by simpa using c36))
     clear c36
     (first | rw [c36b0] | (simp only [i64_w, i32_w]; rw [c36b0]) | skip)
     have H' := Aside0.mk H
     clear H
     go_wp2
     go_meet
     case rel => exact ⟨_, (true), (by first | rfl | (simp; done) | (simp [*]; done)), H', ⟨by have := HJ8.out; have := HJ15.out; first | omega | exact Nat.le_refl _⟩, ⟨by (with_reducible repeat (first | apply Kd.R_alloc | apply Kd.R_drewN | apply Kd.R_drew)); exact HO308.out⟩, ⟨hq HB⟩⟩
   rw [if_neg c36] at H
   have c36b0 : (t310 != t312) = false := by simpa using c36
   (try (have c36b1 : decide (t310 = t312) = true := by simpa using c36))
   (try (have c36b2 : (t310 == t312) = true := by simpa using c36))
   clear c36
   (first | rw [c36b0] | (simp only [i64_w, i32_w]; rw [c36b0]) | skip)
   by_cases c37 : t309.toList = t311.toList
   rotate_left
   · rw [if_neg c37] at H
     have c37b0 : (t309.toList == t311.toList) = false := beq_eq_false_iff_ne.mpr c37
     have c37b1 : (t309.toList != t311.toList) = true := bne_iff_ne.mpr c37
     have H' := Aside0.mk H
     clear H
     go_wp2
     go_meet
     case rel => exact ⟨_, (true), (by first | rfl | (simp; done) | (simp [*]; done)), H', ⟨by have := HJ8.out; have := HJ15.out; first | omega | exact Nat.le_refl _⟩, ⟨by (with_reducible repeat (first | apply Kd.R_alloc | apply Kd.R_drewN | apply Kd.R_drew)); exact HO308.out⟩, ⟨hq HB⟩⟩
   rw [if_pos c37] at H
   have c37b0 : (t309.toList == t311.toList) = true := beq_iff_eq.mpr c37
   have c37b1 : (t309.toList != t311.toList) = false := bne_eq_false_iff_eq.mpr c37
   clear c37
   by_cases c38 : (t314 != t316) = true
   rotate_left
   · rw [if_neg c38] at H
     have c38b0 : (t314 != t316) = false := by simpa using c38
     (try (have c38b1 : decide (t314 = t316) = true := by simpa using c38))
     (try (have c38b2 : (t314 == t316) = true := by simpa using c38))
     clear c38
     have H' := Aside0.mk H
     clear H
     go_wp2
     go_meet
     case rel => exact ⟨_, ((t313.toList != t315.toList)), (by first | rfl | (simp; done) | (simp [*]; done)), H', ⟨by have := HJ8.out; have := HJ15.out; first | omega | exact Nat.le_refl _⟩, ⟨by (with_reducible repeat (first | apply Kd.R_alloc | apply Kd.R_drewN | apply Kd.R_drew)); exact HO308.out⟩, ⟨hq HB⟩⟩
   rw [if_pos c38] at H
   have c38b0 : (t314 != t316) = true := c38
   (try (have c38b1 : decide (t314 = t316) = false := by simpa using c38))
   (try (have c38b2 : (t314 == t316) = false := by simpa using c38))
   (try (have c38b3 : ¬ (t314 = t316) := by simpa using c38))
   clear c38
   have H' := Aside0.mk H
   clear H
   go_wp2
   go_meet
   case rel => exact ⟨_, (true), (by first | rfl | (simp; done) | (simp [*]; done)), H', ⟨by have := HJ8.out; have := HJ15.out; first | omega | exact Nat.le_refl _⟩, ⟨by (with_reducible repeat (first | apply Kd.R_alloc | apply Kd.R_drewN | apply Kd.R_drew)); exact HO308.out⟩, ⟨hq HB⟩⟩
 clear HC29
 try clear c1
 try clear c2
 try clear p2
 try clear c3
 try clear c3b0
 try clear c4
 try clear p6
 try clear c11
 try clear c12
 try clear c12b0
 try clear c12b1
 try clear c12b2
 try clear c13
 try clear c13b0
 try clear c13b1
 try clear c14
 try clear c14b0
 try clear c14b1
 try clear c14b2
 try clear c15
 try clear c17
 try clear c19
 try clear c20
 try clear c21
 try clear c21b0
 try clear c21b1
 try clear c22
 try clear c23
 try clear c23b0
 try clear c23b1
 try clear c24
 try clear c29
 try clear c30
 try clear c31
 try clear c32
 try clear c36
 try clear c36b0
 try clear c36b1
 try clear c36b2
 try clear c37
 try clear c37b0
 try clear c37b1
 try clear c38
 try clear c38b0
 try clear c38b1
 try clear c38b2
 try clear p2
 try clear p6
 obtain ⟨kq, x171_28, rfl, HA, HJ28, HO_19, HB⟩ := hcut
 obtain _ | kj28 := kq
 · exact absurd HA.out (by simp [laws_FnMixed.j2])
 have H := HA.out
 clear HA
 simp only [laws_FnMixed.j2] at H
 by_cases c39 : x171_28 = true
 · subst c39
   have H1 : (some false) = some true := by rw [if_pos rfl] at H; exact H
   clear H
   have H := H1
   clear H1
   cases H
 replace c39 := Bool.eq_false_iff.mpr c39
 subst c39
 have H1 : (if t310 = true then ((impl_UnmixText.f kj28 t304 t305 t309).bind fun bt317 => (if bt317.2 = true then (if bt317.1.toList = t306.toList then (laws_FnMixed.j3 kj28 l1 ((t309.size : Int) != (t306.size : Int))) else (laws_FnMixed.j3 kj28 l1 true)) else (laws_FnMixed.j3 kj28 l1 true))) else ((spec_DrawRoundOf.f l1).bind fun bt325 => ((impl_RoundOf.f bt325.1 bt325.2).bind fun bt327 => ((spec_RoundOf.f bt325.1 bt325.2).bind fun bt329 => (if (bt327.2 == bt329.2) = true then (some (bt327.1 == bt329.1)) else (some false)))))) = some true := by rw [if_neg (show ¬ (false = true) by decide)] at H; exact H
 clear H
 have H := H1
 clear H1
 by_cases c40 : t310 = true
 rotate_left
 · replace c40 := Bool.eq_false_iff.mpr c40
   subst c40
   have H1 : ((spec_DrawRoundOf.f l1).bind fun bt325 => ((impl_RoundOf.f bt325.1 bt325.2).bind fun bt327 => ((spec_RoundOf.f bt325.1 bt325.2).bind fun bt329 => (if (bt327.2 == bt329.2) = true then (some (bt327.1 == bt329.1)) else (some false))))) = some true := by rw [if_neg (show ¬ (false = true) by decide)] at H; exact H
   clear H
   have H := H1
   clear H1
   replace H := Option.bind_eq_some_iff.mp H
   obtain ⟨⟨t325, t326⟩, A530, H⟩ := H
   replace H : ((impl_RoundOf.f t325 t326).bind fun bt327 => ((spec_RoundOf.f t325 t326).bind fun bt329 => (if (bt327.2 == bt329.2) = true then (some (bt327.1 == bt329.1)) else (some false)))) = some true := H
   have A53 := Aside0.mk A530
   clear A530
   replace H := Option.bind_eq_some_iff.mp H
   obtain ⟨⟨t327, t328⟩, A540, H⟩ := H
   replace H : ((spec_RoundOf.f t325 t326).bind fun bt329 => (if (t328 == bt329.2) = true then (some (t327 == bt329.1)) else (some false))) = some true := H
   have A54 := Aside0.mk A540
   clear A540
   replace H := Option.bind_eq_some_iff.mp H
   obtain ⟨⟨t329, t330⟩, A550, H⟩ := H
   replace H : (if (t328 == t330) = true then (some (t327 == t329)) else (some false)) = some true := H
   have A55 := Aside0.mk A550
   clear A550
   by_cases c56 : (t328 == t330) = true
   rotate_left
   · rw [if_neg c56] at H
     have c56b0 : (t328 == t330) = false := by simpa using c56
     (try (have c56b1 : decide (t328 = t330) = false := by simpa using c56))
     (try (have c56b2 : (t328 == t330) = false := by simpa using c56))
     (try (have c56b3 : ¬ (t328 = t330) := by simpa using c56))
     clear c56
     cases H
   rw [if_pos c56] at H
   have c56b0 : (t328 == t330) = true := c56
   (try (have c56b1 : decide (t328 = t330) = true := by simpa using c56))
   (try (have c56b2 : (t328 == t330) = true := by simpa using c56))
   clear c56
   have Hr_ := Option.some.inj H
   clear H
   go_wp2_with (first | ((with_reducible refine gate_callee (f := 42) rfl ?_); refine goesL_ (some 196) rfl rfl Try.func42 (by kernel_rfl) rfl #[.slice A1 l1.length c1] rfl (by (try simp only [List.map_toArray, List.map_cons, List.map_nil]); first | done | rfl | (simp only [List.length_drop, List.length_take]; rfl)) ?_; (with_reducible refine (spec_DrawRoundOf.calls _ _ l1 t325 t326 _ ?side1 ?side2 A53.out).mono ?_); (case side1 => repeat (first | exact (Kd.C_below HR1.out HB.out) | (with_reducible refine Kd.C_alloc ?_ _) | (with_reducible refine Kd.C_drewN ?_ _) | (with_reducible refine Kd.C_drew ?_))); (case side2 => exact HC1.out); rintro e w57 ⟨rfl, hb⟩; refine ⟨_, rfl, ?_⟩; replace HO_19 := cb HO_19 hb; replace HB := cs (hq HB) hb; (try clear hb); (try clear hb2); (try clear hk); (try clear hi)) | ((with_reducible refine gate_callee (f := 16) rfl ?_); refine goesL_ (some 202) rfl rfl Try.func16 (by kernel_rfl) rfl #[.int .i64 t325, .int .i64 t326] rfl (by (try simp only [List.map_toArray, List.map_cons, List.map_nil]); first | done | rfl | (simp only [List.length_drop, List.length_take]; rfl)) ?_; (with_reducible refine (impl_RoundOf.calls t325 t326 t327 t328 _ A54.out).mono ?_); rintro e w' ⟨rfl, ⟨nd, rfl⟩⟩; refine ⟨_, rfl, ?_⟩) | ((with_reducible refine gate_callee (f := 15) rfl ?_); refine goesL_ (some 208) rfl rfl Try.func15 (by kernel_rfl) rfl #[.int .i64 t325, .int .i64 t326] rfl (by (try simp only [List.map_toArray, List.map_cons, List.map_nil]); first | done | rfl | (simp only [List.length_drop, List.length_take]; rfl)) ?_; (with_reducible refine (spec_RoundOf.calls t325 t326 t329 t330 _ A55.out).mono ?_); rintro e w' ⟨rfl, ⟨nd, rfl⟩⟩; refine ⟨_, rfl, ?_⟩))
   go_ret
   exact ⟨by first | rfl | (simp [errW_none, errW_some] <;> rfl) | (simp [*, errW_none, errW_some] <;> rfl), hq HB⟩
 subst c40
 have H1 : ((impl_UnmixText.f kj28 t304 t305 t309).bind fun bt317 => (if bt317.2 = true then (if bt317.1.toList = t306.toList then (laws_FnMixed.j3 kj28 l1 ((t309.size : Int) != (t306.size : Int))) else (laws_FnMixed.j3 kj28 l1 true)) else (laws_FnMixed.j3 kj28 l1 true))) = some true := by rw [if_pos rfl] at H; exact H
 clear H
 have H := H1
 clear H1
 replace H := Option.bind_eq_some_iff.mp H
 obtain ⟨⟨t317, t318⟩, A410, H⟩ := H
 replace H : (if t318 = true then (if t317.toList = t306.toList then (laws_FnMixed.j3 kj28 l1 ((t309.size : Int) != (t306.size : Int))) else (laws_FnMixed.j3 kj28 l1 true)) else (laws_FnMixed.j3 kj28 l1 true)) = some true := H
 have A41 := Aside0.mk A410
 clear A410
 have HC42 := Aside0.mk H
 clear H
 go_upto_region 24 with (first | ((with_reducible refine gate_callee (f := 32) rfl ?_); refine goesL_ (some 177) rfl rfl Try.func32 (by kernel_rfl) rfl #[.slice Ao31 t304.length co31, .int .i64 t305, .string t309] rfl (by (try simp only [List.map_toArray, List.map_cons, List.map_nil]); first | done | rfl | (simp only [List.length_drop, List.length_take]; rfl)) ?_; (with_reducible refine (impl_UnmixText.calls kj28 _ _ t304 t305 t309 t317 t318 _ ?side1 ?side2 A41.out).mono ?_); (case side1 => repeat (first | exact (Kd.R_reads' HO_19.out).2.2 | (with_reducible refine Kd.C_alloc ?_ _) | (with_reducible refine Kd.C_drewN ?_ _) | (with_reducible refine Kd.C_drew ?_))); (case side2 => exact (Kd.R_reads' HO_19.out).2.1); rintro e w43 ⟨rfl, hb⟩; refine ⟨_, rfl, ?_⟩; replace HO_19 := cb HO_19 hb; replace HB := cs (hq HB) hb; (try clear hb); (try clear hb2); (try clear hk); (try clear hi)))
 (try simp only [Act.put, List.setIfInBounds_toArray, List.set_cons_zero, List.set_cons_succ])
 go_cut [193] from 172 to 193 (fun v193 wc => ∃ (kq : Nat) (x193_41 : Bool), v193 = .bool x193_41 ∧ Aside0 (laws_FnMixed.j3 kq l1 x193_41 = some true) ∧ Aside0 (kq ≤ kj28) ∧ Aside0 (Below w.heap.size w wc))
 case first =>
   have H := HC42.out
   clear HC42
   by_cases c44 : t318 = true
   rotate_left
   · replace c44 := Bool.eq_false_iff.mpr c44
     subst c44
     have H1 : (laws_FnMixed.j3 kj28 l1 true) = some true := by rw [if_neg (show ¬ (false = true) by decide)] at H; exact H
     clear H
     have H := H1
     clear H1
     have H' := Aside0.mk H
     clear H
     go_wp2
     go_meet
     case rel => exact ⟨_, (true), (by first | rfl | (simp; done) | (simp [*]; done)), H', ⟨by have := HJ8.out; have := HJ15.out; have := HJ28.out; first | omega | exact Nat.le_refl _⟩, ⟨hq HB⟩⟩
   subst c44
   have H1 : (if t317.toList = t306.toList then (laws_FnMixed.j3 kj28 l1 ((t309.size : Int) != (t306.size : Int))) else (laws_FnMixed.j3 kj28 l1 true)) = some true := by rw [if_pos rfl] at H; exact H
   clear H
   have H := H1
   clear H1
   by_cases c45 : t317.toList = t306.toList
   rotate_left
   · rw [if_neg c45] at H
     have c45b0 : (t317.toList == t306.toList) = false := beq_eq_false_iff_ne.mpr c45
     have c45b1 : (t317.toList != t306.toList) = true := bne_iff_ne.mpr c45
     (first | rw [c45b0] | (simp only [i64_w, i32_w]; rw [c45b0]) | skip)
     have H' := Aside0.mk H
     clear H
     go_wp2
     go_meet
     case rel => exact ⟨_, (true), (by first | rfl | (simp; done) | (simp [*]; done)), H', ⟨by have := HJ8.out; have := HJ15.out; have := HJ28.out; first | omega | exact Nat.le_refl _⟩, ⟨hq HB⟩⟩
   rw [if_pos c45] at H
   have c45b0 : (t317.toList == t306.toList) = true := beq_iff_eq.mpr c45
   have c45b1 : (t317.toList != t306.toList) = false := bne_eq_false_iff_eq.mpr c45
   clear c45
   (first | rw [c45b0] | (simp only [i64_w, i32_w]; rw [c45b0]) | skip)
   have H' := Aside0.mk H
   clear H
   go_wp2
   go_meet
   case rel => exact ⟨_, (((t309.size : Int) != (t306.size : Int))), (by first | rfl | (simp; done) | (simp [*]; done)), H', ⟨by have := HJ8.out; have := HJ15.out; have := HJ28.out; first | omega | exact Nat.le_refl _⟩, ⟨hq HB⟩⟩
 clear HC42
 try clear c1
 try clear c2
 try clear p2
 try clear c3
 try clear c3b0
 try clear c4
 try clear p6
 try clear c11
 try clear c12
 try clear c12b0
 try clear c12b1
 try clear c12b2
 try clear c13
 try clear c13b0
 try clear c13b1
 try clear c14
 try clear c14b0
 try clear c14b1
 try clear c14b2
 try clear c15
 try clear c17
 try clear c19
 try clear c20
 try clear c21
 try clear c21b0
 try clear c21b1
 try clear c22
 try clear c23
 try clear c23b0
 try clear c23b1
 try clear c24
 try clear c29
 try clear c30
 try clear c31
 try clear c32
 try clear c36
 try clear c36b0
 try clear c36b1
 try clear c36b2
 try clear c37
 try clear c37b0
 try clear c37b1
 try clear c38
 try clear c38b0
 try clear c38b1
 try clear c38b2
 try clear c39
 try clear c40
 try clear c41
 try clear c44
 try clear c45
 try clear c45b0
 try clear c45b1
 try clear p2
 try clear p6
 obtain ⟨kq, x193_41, rfl, HA, HJ41, HB⟩ := hcut
 obtain _ | kj41 := kq
 · exact absurd HA.out (by simp [laws_FnMixed.j3])
 have H := HA.out
 clear HA
 simp only [laws_FnMixed.j3] at H
 by_cases c46 : x193_41 = true
 · subst c46
   have H1 : (some false) = some true := by rw [if_pos rfl] at H; exact H
   clear H
   have H := H1
   clear H1
   cases H
 replace c46 := Bool.eq_false_iff.mpr c46
 subst c46
 have H1 : ((spec_DrawRoundOf.f l1).bind fun bt319 => ((impl_RoundOf.f bt319.1 bt319.2).bind fun bt321 => ((spec_RoundOf.f bt319.1 bt319.2).bind fun bt323 => (if (bt321.2 == bt323.2) = true then (some (bt321.1 == bt323.1)) else (some false))))) = some true := by rw [if_neg (show ¬ (false = true) by decide)] at H; exact H
 clear H
 have H := H1
 clear H1
 replace H := Option.bind_eq_some_iff.mp H
 obtain ⟨⟨t319, t320⟩, A470, H⟩ := H
 replace H : ((impl_RoundOf.f t319 t320).bind fun bt321 => ((spec_RoundOf.f t319 t320).bind fun bt323 => (if (bt321.2 == bt323.2) = true then (some (bt321.1 == bt323.1)) else (some false)))) = some true := H
 have A47 := Aside0.mk A470
 clear A470
 replace H := Option.bind_eq_some_iff.mp H
 obtain ⟨⟨t321, t322⟩, A480, H⟩ := H
 replace H : ((spec_RoundOf.f t319 t320).bind fun bt323 => (if (t322 == bt323.2) = true then (some (t321 == bt323.1)) else (some false))) = some true := H
 have A48 := Aside0.mk A480
 clear A480
 replace H := Option.bind_eq_some_iff.mp H
 obtain ⟨⟨t323, t324⟩, A490, H⟩ := H
 replace H : (if (t322 == t324) = true then (some (t321 == t323)) else (some false)) = some true := H
 have A49 := Aside0.mk A490
 clear A490
 by_cases c50 : (t322 == t324) = true
 rotate_left
 · rw [if_neg c50] at H
   have c50b0 : (t322 == t324) = false := by simpa using c50
   (try (have c50b1 : decide (t322 = t324) = false := by simpa using c50))
   (try (have c50b2 : (t322 == t324) = false := by simpa using c50))
   (try (have c50b3 : ¬ (t322 = t324) := by simpa using c50))
   clear c50
   cases H
 rw [if_pos c50] at H
 have c50b0 : (t322 == t324) = true := c50
 (try (have c50b1 : decide (t322 = t324) = true := by simpa using c50))
 (try (have c50b2 : (t322 == t324) = true := by simpa using c50))
 clear c50
 have Hr_ := Option.some.inj H
 clear H
 go_wp2_with (first | ((with_reducible refine gate_callee (f := 42) rfl ?_); refine goesL_ (some 196) rfl rfl Try.func42 (by kernel_rfl) rfl #[.slice A1 l1.length c1] rfl (by (try simp only [List.map_toArray, List.map_cons, List.map_nil]); first | done | rfl | (simp only [List.length_drop, List.length_take]; rfl)) ?_; (with_reducible refine (spec_DrawRoundOf.calls _ _ l1 t319 t320 _ ?side1 ?side2 A47.out).mono ?_); (case side1 => repeat (first | exact (Kd.C_below HR1.out HB.out) | (with_reducible refine Kd.C_alloc ?_ _) | (with_reducible refine Kd.C_drewN ?_ _) | (with_reducible refine Kd.C_drew ?_))); (case side2 => exact HC1.out); rintro e w51 ⟨rfl, hb⟩; refine ⟨_, rfl, ?_⟩; replace HB := cs (hq HB) hb; (try clear hb); (try clear hb2); (try clear hk); (try clear hi)) | ((with_reducible refine gate_callee (f := 16) rfl ?_); refine goesL_ (some 202) rfl rfl Try.func16 (by kernel_rfl) rfl #[.int .i64 t319, .int .i64 t320] rfl (by (try simp only [List.map_toArray, List.map_cons, List.map_nil]); first | done | rfl | (simp only [List.length_drop, List.length_take]; rfl)) ?_; (with_reducible refine (impl_RoundOf.calls t319 t320 t321 t322 _ A48.out).mono ?_); rintro e w' ⟨rfl, ⟨nd, rfl⟩⟩; refine ⟨_, rfl, ?_⟩) | ((with_reducible refine gate_callee (f := 15) rfl ?_); refine goesL_ (some 208) rfl rfl Try.func15 (by kernel_rfl) rfl #[.int .i64 t319, .int .i64 t320] rfl (by (try simp only [List.map_toArray, List.map_cons, List.map_nil]); first | done | rfl | (simp only [List.length_drop, List.length_take]; rfl)) ?_; (with_reducible refine (spec_RoundOf.calls t319 t320 t323 t324 _ A49.out).mono ?_); rintro e w' ⟨rfl, ⟨nd, rfl⟩⟩; refine ⟨_, rfl, ?_⟩))
 go_ret
 exact ⟨by first | rfl | (simp [errW_none, errW_some] <;> rfl) | (simp [*, errW_none, errW_some] <;> rfl), hq HB⟩
/-- THE ONE PURE STATEMENT of laws_FnMixed: yours. -/
def laws_FnMixed.Pure : Prop := ∀ (l0 : List Int) (l1 : List Int), l0.length ≤ maxLen → l0.length * 1 ≤ 140737488351232 → (∀ x ∈ l0, (Lit.int .u8 x).wf = true) → l1.length ≤ maxLen → l1.length * 1 ≤ 140737488351232 → (∀ x ∈ l1, (Lit.int .u8 x).wf = true) → ∃ k, laws_FnMixed.f k l0 l1 = some true
theorem laws_FnMixed.walk (P : laws_FnMixed.Pure) (a0 : Option Addr) (len0 cap0 : Nat) (z0 : List Int) (a1 : Option Addr) (len1 cap1 : Nat) (z1 : List Int) (w : World) (w0 : (a0 = none ∧ len0 = 0 ∧ cap0 = 0 ∧ z0 = []) ∨ ∃ x, a0 = some x ∧ len0 ≤ cap0 ∧ cap0 ≤ maxLen ∧ z0.length = cap0 ∧ (∀ i, i < z0.length → w.cell? (x.add i) = some (.int .u8 (z0.getD i 0))) ∧ ∀ n ∈ z0, (Lit.int .u8 n).wf = true) (y0 : len0 * 1 ≤ 140737488351232) (w1 : (a1 = none ∧ len1 = 0 ∧ cap1 = 0 ∧ z1 = []) ∨ ∃ x, a1 = some x ∧ len1 ≤ cap1 ∧ cap1 ≤ maxLen ∧ z1.length = cap1 ∧ (∀ i, i < z1.length → w.cell? (x.add i) = some (.int .u8 (z1.getD i 0))) ∧ ∀ n ∈ z1, (Lit.int .u8 n).wf = true) (y1 : len1 * 1 ≤ 140737488351232) :
    Calls Try.prog 11 #[.slice a0 len0 cap0, .slice a1 len1 cap1] w fun e w' => e = .returned (.bool true) ∧ Below w.heap.size w w' := by
  obtain ⟨l0, rfl, hr0, hm0, hw0, hc0⟩ := ReadsInt.ofRowC w0
  obtain ⟨l1, rfl, hr1, hm1, hw1, hc1⟩ := ReadsInt.ofRowC w1
  obtain ⟨k, h⟩ := P l0 l1 hm0 y0 hw0 hm1 y1 hw1
  refine (laws_FnMixed.calls k _ _ l0 _ _ l1 true w (Kd.C_of_reads (d := (0 : Int)) (h1 := fun _ => rfl) hr0) hc0 (Kd.C_of_reads (d := (0 : Int)) (h1 := fun _ => rfl) hr1) hc1 h).mono ?_
  rintro e w' ⟨rfl, hd⟩
  exact ⟨rfl, hd⟩

end Go.Proofs.Ytoigapileicelaa.QFnMixed
