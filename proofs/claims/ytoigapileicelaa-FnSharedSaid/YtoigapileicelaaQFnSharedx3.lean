import Derived.Test.YtoigapileicelaaSqueeze
import Derived.Test.YtoigapileicelaaQFnSharedx0
import Derived.Test.YtoigapileicelaaQFnSharedx1
import Derived.Test.YtoigapileicelaaQFnSharedx2
namespace Go.Proofs.Ytoigapileicelaa.QFnShared
open Go.RowKit Go.Proofs.YtoigapileicelaaW.PrintWords Go.Proofs.YtoigapileicelaaW.PrintLast Go.Proofs.YtoigapileicelaaW.PrintMore
attribute [local go_sem] max2_int min2_int max_two min_two max_three min_three max_four min_four   -- for this text's walks alone
set_option linter.unusedVariables false
set_option linter.unusedSimpArgs false

/-! ### laws_FnShared: function 14 -/
mutual
def laws_FnShared.j0 : Nat → List Int → Int → Int → Int → Bool → Int → Bool → Bool → Option (Bool)
  | 0, _, _, _, _, _, _, _, _ => none
  | k + 1, x1, x5, x6, x7, x8, x11, x12, x68 => if x68 = true then (some false) else (if x8 = true then (laws_FnShared.j1 k x1 x5 x6 x7 x11 x12) else (laws_FnShared.j1 k x1 x5 x6 x7 x11 false))
def laws_FnShared.j1 : Nat → List Int → Int → Int → Int → Int → Bool → Option (Bool)
  | 0, _, _, _, _, _, _ => none
  | k + 1, x1, x5, x6, x7, x11, x72 => if x72 = true then ((impl_SharedOf.f k x5 x11).bind fun bt215 => ((impl_SharedOf.f k x6 x7).bind fun bt217 => (if bt215.2 = true then (if bt217.2 = true then (if bt215.1 = bt217.1 then ((impl_IsMember.f k x7).bind fun t219 => (if t219 = true then ((impl_IsMember.f k bt215.1).bind fun t220 => (if t220 = true then (laws_FnShared.j2 k x1) else (some false))) else (some false))) else (some false)) else (some false)) else (some false)))) else (laws_FnShared.j2 k x1)
def laws_FnShared.j2 : Nat → List Int → Option (Bool)
  | 0, _ => none
  | k + 1, x1 => (spec_DrawPowerOf.f x1).bind fun bt221 => ((impl_PowerOf.f k bt221.1 bt221.2).bind fun bt223 => ((spec_PowerOf.f k bt221.1 bt221.2).bind fun bt225 => ((impl_InverseOf.f k bt221.1).bind fun bt227 => ((spec_InverseOf.f k bt221.1).bind fun bt229 => (if (bt223.2 != bt225.2) = true then (laws_FnShared.j3 k x1 bt221.1 bt223.2 true) else (if bt223.1 = bt225.1 then (if (bt227.2 != bt229.2) = true then (laws_FnShared.j3 k x1 bt221.1 bt223.2 true) else (if bt227.1 = bt229.1 then (if bt227.2 = true then (laws_FnShared.j3 k x1 bt221.1 bt223.2 ((Int.tmod (wrap64 (bt221.1 * bt227.1)) 2999) != 1)) else (laws_FnShared.j3 k x1 bt221.1 bt223.2 false)) else (laws_FnShared.j3 k x1 bt221.1 bt223.2 true))) else (laws_FnShared.j3 k x1 bt221.1 bt223.2 true)))))))
def laws_FnShared.j3 : Nat → List Int → Int → Bool → Bool → Option (Bool)
  | 0, _, _, _, _ => none
  | k + 1, x1, x17, x20, x160 => if x160 = true then (some false) else (if x20 = true then ((impl_PowerOf.f k x17 2998).bind fun bt231 => (if bt231.2 = true then (if bt231.1 = 1 then (laws_FnShared.j4 k x1) else (some false)) else (some false))) else (laws_FnShared.j4 k x1))
def laws_FnShared.j4 : Nat → List Int → Option (Bool)
  | 0, _ => none
  | k + 1, x1 => (spec_DrawSharedOf.f k x1).bind fun bt233 => ((impl_SharedOf.f k bt233.1 bt233.2).bind fun bt235 => ((spec_SharedOf.f k bt233.1 bt233.2).bind fun bt237 => ((spec_DrawIsMember.f k x1).bind fun t239 => (if (bt235.2 == bt237.2) = true then (if bt235.1 = bt237.1 then ((impl_IsMember.f k t239).bind fun t240 => ((spec_IsMember.f k t239).bind fun t241 => (some (t240 == t241)))) else (some false)) else (some false)))))
end
def laws_FnShared.f (k : Nat) (l0 : List Int) (l1 : List Int) : Option (Bool) := if (wrap64 ((l0.length : Int) + (l1.length : Int))) > 1048576 then (some true) else ((spec_DrawPublicFor.f l0).bind fun t207 => ((spec_DrawPublicFor.f l1).bind fun t208 => ((impl_PublicFor.f k t207).bind fun bt209 => ((spec_PublicFor.f k t207).bind fun bt211 => ((impl_PublicFor.f k t208).bind fun bt213 => (if (bt209.2 != bt211.2) = true then (laws_FnShared.j0 k l1 t207 t208 bt209.1 bt209.2 bt213.1 bt213.2 true) else (laws_FnShared.j0 k l1 t207 t208 bt209.1 bt209.2 bt213.1 bt213.2 (bt209.1 != bt211.1))))))))
theorem laws_FnShared.mono_l : ∀ k, (∀ y0 y1 y2 y3 y4 y5 y6 y7, LeO (laws_FnShared.j0 k y0 y1 y2 y3 y4 y5 y6 y7) (laws_FnShared.j0 (k + 1) y0 y1 y2 y3 y4 y5 y6 y7)) ∧ (∀ y0 y1 y2 y3 y4 y5, LeO (laws_FnShared.j1 k y0 y1 y2 y3 y4 y5) (laws_FnShared.j1 (k + 1) y0 y1 y2 y3 y4 y5)) ∧ (∀ y0, LeO (laws_FnShared.j2 k y0) (laws_FnShared.j2 (k + 1) y0)) ∧ (∀ y0 y1 y2 y3, LeO (laws_FnShared.j3 k y0 y1 y2 y3) (laws_FnShared.j3 (k + 1) y0 y1 y2 y3)) ∧ (∀ y0, LeO (laws_FnShared.j4 k y0) (laws_FnShared.j4 (k + 1) y0))
  | 0 => ⟨fun _ _ _ _ _ _ _ _ r h => by simp [laws_FnShared.j0] at h, fun _ _ _ _ _ _ r h => by simp [laws_FnShared.j1] at h, fun _ r h => by simp [laws_FnShared.j2] at h, fun _ _ _ _ r h => by simp [laws_FnShared.j3] at h, fun _ r h => by simp [laws_FnShared.j4] at h⟩
  | k + 1 => by
    obtain ⟨ih0, ih1, ih2, ih3, ih4⟩ := laws_FnShared.mono_l k
    refine ⟨?_, ?_, ?_, ?_, ?_⟩
    · intro y0 y1 y2 y3 y4 y5 y6 y7
      unfold laws_FnShared.j0
      repeat' first
      | (with_reducible exact ih0 _ _ _ _ _ _ _ _)
      | (with_reducible exact ih1 _ _ _ _ _ _)
      | (with_reducible exact ih2 _)
      | (with_reducible exact ih3 _ _ _ _)
      | (with_reducible exact ih4 _)
      | (with_reducible exact impl_InverseOf.mono _ _)
      | (with_reducible exact impl_IsMember.mono _ _)
      | (with_reducible exact impl_PowerOf.mono _ _ _)
      | (with_reducible exact impl_PublicFor.mono _ _)
      | (with_reducible exact impl_SharedOf.mono _ _ _)
      | (with_reducible exact spec_DrawIsMember.mono _ _)
      | (with_reducible exact spec_DrawSharedOf.mono _ _)
      | (with_reducible exact spec_InverseOf.mono _ _)
      | (with_reducible exact spec_IsMember.mono _ _)
      | (with_reducible exact spec_PowerOf.mono _ _ _)
      | (with_reducible exact spec_PublicFor.mono _ _)
      | (with_reducible exact spec_SharedOf.mono _ _ _)
      | (with_reducible exact LeO.refl _)
      | (with_reducible exact LeO.none _)
      | (with_reducible refine LeO.ite ?_ ?_)
      | (with_reducible refine LeO.bind ?_ (fun _ => ?_))
      | exact ih0 _ _ _ _ _ _ _ _
      | exact ih1 _ _ _ _ _ _
      | exact ih2 _
      | exact ih3 _ _ _ _
      | exact ih4 _
      | exact impl_InverseOf.mono _ _
      | exact impl_IsMember.mono _ _
      | exact impl_PowerOf.mono _ _ _
      | exact impl_PublicFor.mono _ _
      | exact impl_SharedOf.mono _ _ _
      | exact spec_DrawIsMember.mono _ _
      | exact spec_DrawSharedOf.mono _ _
      | exact spec_InverseOf.mono _ _
      | exact spec_IsMember.mono _ _
      | exact spec_PowerOf.mono _ _ _
      | exact spec_PublicFor.mono _ _
      | exact spec_SharedOf.mono _ _ _
      | exact LeO.none _
      | refine LeO.ite ?_ ?_
      | refine LeO.bind ?_ (fun _ => ?_)
    · intro y0 y1 y2 y3 y4 y5
      unfold laws_FnShared.j1
      repeat' first
      | (with_reducible exact ih0 _ _ _ _ _ _ _ _)
      | (with_reducible exact ih1 _ _ _ _ _ _)
      | (with_reducible exact ih2 _)
      | (with_reducible exact ih3 _ _ _ _)
      | (with_reducible exact ih4 _)
      | (with_reducible exact impl_InverseOf.mono _ _)
      | (with_reducible exact impl_IsMember.mono _ _)
      | (with_reducible exact impl_PowerOf.mono _ _ _)
      | (with_reducible exact impl_PublicFor.mono _ _)
      | (with_reducible exact impl_SharedOf.mono _ _ _)
      | (with_reducible exact spec_DrawIsMember.mono _ _)
      | (with_reducible exact spec_DrawSharedOf.mono _ _)
      | (with_reducible exact spec_InverseOf.mono _ _)
      | (with_reducible exact spec_IsMember.mono _ _)
      | (with_reducible exact spec_PowerOf.mono _ _ _)
      | (with_reducible exact spec_PublicFor.mono _ _)
      | (with_reducible exact spec_SharedOf.mono _ _ _)
      | (with_reducible exact LeO.refl _)
      | (with_reducible exact LeO.none _)
      | (with_reducible refine LeO.ite ?_ ?_)
      | (with_reducible refine LeO.bind ?_ (fun _ => ?_))
      | exact ih0 _ _ _ _ _ _ _ _
      | exact ih1 _ _ _ _ _ _
      | exact ih2 _
      | exact ih3 _ _ _ _
      | exact ih4 _
      | exact impl_InverseOf.mono _ _
      | exact impl_IsMember.mono _ _
      | exact impl_PowerOf.mono _ _ _
      | exact impl_PublicFor.mono _ _
      | exact impl_SharedOf.mono _ _ _
      | exact spec_DrawIsMember.mono _ _
      | exact spec_DrawSharedOf.mono _ _
      | exact spec_InverseOf.mono _ _
      | exact spec_IsMember.mono _ _
      | exact spec_PowerOf.mono _ _ _
      | exact spec_PublicFor.mono _ _
      | exact spec_SharedOf.mono _ _ _
      | exact LeO.none _
      | refine LeO.ite ?_ ?_
      | refine LeO.bind ?_ (fun _ => ?_)
    · intro y0
      unfold laws_FnShared.j2
      repeat' first
      | (with_reducible exact ih0 _ _ _ _ _ _ _ _)
      | (with_reducible exact ih1 _ _ _ _ _ _)
      | (with_reducible exact ih2 _)
      | (with_reducible exact ih3 _ _ _ _)
      | (with_reducible exact ih4 _)
      | (with_reducible exact impl_InverseOf.mono _ _)
      | (with_reducible exact impl_IsMember.mono _ _)
      | (with_reducible exact impl_PowerOf.mono _ _ _)
      | (with_reducible exact impl_PublicFor.mono _ _)
      | (with_reducible exact impl_SharedOf.mono _ _ _)
      | (with_reducible exact spec_DrawIsMember.mono _ _)
      | (with_reducible exact spec_DrawSharedOf.mono _ _)
      | (with_reducible exact spec_InverseOf.mono _ _)
      | (with_reducible exact spec_IsMember.mono _ _)
      | (with_reducible exact spec_PowerOf.mono _ _ _)
      | (with_reducible exact spec_PublicFor.mono _ _)
      | (with_reducible exact spec_SharedOf.mono _ _ _)
      | (with_reducible exact LeO.refl _)
      | (with_reducible exact LeO.none _)
      | (with_reducible refine LeO.ite ?_ ?_)
      | (with_reducible refine LeO.bind ?_ (fun _ => ?_))
      | exact ih0 _ _ _ _ _ _ _ _
      | exact ih1 _ _ _ _ _ _
      | exact ih2 _
      | exact ih3 _ _ _ _
      | exact ih4 _
      | exact impl_InverseOf.mono _ _
      | exact impl_IsMember.mono _ _
      | exact impl_PowerOf.mono _ _ _
      | exact impl_PublicFor.mono _ _
      | exact impl_SharedOf.mono _ _ _
      | exact spec_DrawIsMember.mono _ _
      | exact spec_DrawSharedOf.mono _ _
      | exact spec_InverseOf.mono _ _
      | exact spec_IsMember.mono _ _
      | exact spec_PowerOf.mono _ _ _
      | exact spec_PublicFor.mono _ _
      | exact spec_SharedOf.mono _ _ _
      | exact LeO.none _
      | refine LeO.ite ?_ ?_
      | refine LeO.bind ?_ (fun _ => ?_)
    · intro y0 y1 y2 y3
      unfold laws_FnShared.j3
      repeat' first
      | (with_reducible exact ih0 _ _ _ _ _ _ _ _)
      | (with_reducible exact ih1 _ _ _ _ _ _)
      | (with_reducible exact ih2 _)
      | (with_reducible exact ih3 _ _ _ _)
      | (with_reducible exact ih4 _)
      | (with_reducible exact impl_InverseOf.mono _ _)
      | (with_reducible exact impl_IsMember.mono _ _)
      | (with_reducible exact impl_PowerOf.mono _ _ _)
      | (with_reducible exact impl_PublicFor.mono _ _)
      | (with_reducible exact impl_SharedOf.mono _ _ _)
      | (with_reducible exact spec_DrawIsMember.mono _ _)
      | (with_reducible exact spec_DrawSharedOf.mono _ _)
      | (with_reducible exact spec_InverseOf.mono _ _)
      | (with_reducible exact spec_IsMember.mono _ _)
      | (with_reducible exact spec_PowerOf.mono _ _ _)
      | (with_reducible exact spec_PublicFor.mono _ _)
      | (with_reducible exact spec_SharedOf.mono _ _ _)
      | (with_reducible exact LeO.refl _)
      | (with_reducible exact LeO.none _)
      | (with_reducible refine LeO.ite ?_ ?_)
      | (with_reducible refine LeO.bind ?_ (fun _ => ?_))
      | exact ih0 _ _ _ _ _ _ _ _
      | exact ih1 _ _ _ _ _ _
      | exact ih2 _
      | exact ih3 _ _ _ _
      | exact ih4 _
      | exact impl_InverseOf.mono _ _
      | exact impl_IsMember.mono _ _
      | exact impl_PowerOf.mono _ _ _
      | exact impl_PublicFor.mono _ _
      | exact impl_SharedOf.mono _ _ _
      | exact spec_DrawIsMember.mono _ _
      | exact spec_DrawSharedOf.mono _ _
      | exact spec_InverseOf.mono _ _
      | exact spec_IsMember.mono _ _
      | exact spec_PowerOf.mono _ _ _
      | exact spec_PublicFor.mono _ _
      | exact spec_SharedOf.mono _ _ _
      | exact LeO.none _
      | refine LeO.ite ?_ ?_
      | refine LeO.bind ?_ (fun _ => ?_)
    · intro y0
      unfold laws_FnShared.j4
      repeat' first
      | (with_reducible exact ih0 _ _ _ _ _ _ _ _)
      | (with_reducible exact ih1 _ _ _ _ _ _)
      | (with_reducible exact ih2 _)
      | (with_reducible exact ih3 _ _ _ _)
      | (with_reducible exact ih4 _)
      | (with_reducible exact impl_InverseOf.mono _ _)
      | (with_reducible exact impl_IsMember.mono _ _)
      | (with_reducible exact impl_PowerOf.mono _ _ _)
      | (with_reducible exact impl_PublicFor.mono _ _)
      | (with_reducible exact impl_SharedOf.mono _ _ _)
      | (with_reducible exact spec_DrawIsMember.mono _ _)
      | (with_reducible exact spec_DrawSharedOf.mono _ _)
      | (with_reducible exact spec_InverseOf.mono _ _)
      | (with_reducible exact spec_IsMember.mono _ _)
      | (with_reducible exact spec_PowerOf.mono _ _ _)
      | (with_reducible exact spec_PublicFor.mono _ _)
      | (with_reducible exact spec_SharedOf.mono _ _ _)
      | (with_reducible exact LeO.refl _)
      | (with_reducible exact LeO.none _)
      | (with_reducible refine LeO.ite ?_ ?_)
      | (with_reducible refine LeO.bind ?_ (fun _ => ?_))
      | exact ih0 _ _ _ _ _ _ _ _
      | exact ih1 _ _ _ _ _ _
      | exact ih2 _
      | exact ih3 _ _ _ _
      | exact ih4 _
      | exact impl_InverseOf.mono _ _
      | exact impl_IsMember.mono _ _
      | exact impl_PowerOf.mono _ _ _
      | exact impl_PublicFor.mono _ _
      | exact impl_SharedOf.mono _ _ _
      | exact spec_DrawIsMember.mono _ _
      | exact spec_DrawSharedOf.mono _ _
      | exact spec_InverseOf.mono _ _
      | exact spec_IsMember.mono _ _
      | exact spec_PowerOf.mono _ _ _
      | exact spec_PublicFor.mono _ _
      | exact spec_SharedOf.mono _ _ _
      | exact LeO.none _
      | refine LeO.ite ?_ ?_
      | refine LeO.bind ?_ (fun _ => ?_)
theorem laws_FnShared.mono : ∀ a0 a1 k, LeO (laws_FnShared.f k a0 a1) (laws_FnShared.f (k + 1) a0 a1) := by
  intro a0 a1 k
  obtain ⟨ih0, ih1, ih2, ih3, ih4⟩ := laws_FnShared.mono_l k
  unfold laws_FnShared.f
  repeat' first
      | (with_reducible exact ih0 _ _ _ _ _ _ _ _)
      | (with_reducible exact ih1 _ _ _ _ _ _)
      | (with_reducible exact ih2 _)
      | (with_reducible exact ih3 _ _ _ _)
      | (with_reducible exact ih4 _)
      | (with_reducible exact impl_InverseOf.mono _ _)
      | (with_reducible exact impl_IsMember.mono _ _)
      | (with_reducible exact impl_PowerOf.mono _ _ _)
      | (with_reducible exact impl_PublicFor.mono _ _)
      | (with_reducible exact impl_SharedOf.mono _ _ _)
      | (with_reducible exact spec_DrawIsMember.mono _ _)
      | (with_reducible exact spec_DrawSharedOf.mono _ _)
      | (with_reducible exact spec_InverseOf.mono _ _)
      | (with_reducible exact spec_IsMember.mono _ _)
      | (with_reducible exact spec_PowerOf.mono _ _ _)
      | (with_reducible exact spec_PublicFor.mono _ _)
      | (with_reducible exact spec_SharedOf.mono _ _ _)
      | (with_reducible exact LeO.refl _)
      | (with_reducible exact LeO.none _)
      | (with_reducible refine LeO.ite ?_ ?_)
      | (with_reducible refine LeO.bind ?_ (fun _ => ?_))
      | exact ih0 _ _ _ _ _ _ _ _
      | exact ih1 _ _ _ _ _ _
      | exact ih2 _
      | exact ih3 _ _ _ _
      | exact ih4 _
      | exact impl_InverseOf.mono _ _
      | exact impl_IsMember.mono _ _
      | exact impl_PowerOf.mono _ _ _
      | exact impl_PublicFor.mono _ _
      | exact impl_SharedOf.mono _ _ _
      | exact spec_DrawIsMember.mono _ _
      | exact spec_DrawSharedOf.mono _ _
      | exact spec_InverseOf.mono _ _
      | exact spec_IsMember.mono _ _
      | exact spec_PowerOf.mono _ _ _
      | exact spec_PublicFor.mono _ _
      | exact spec_SharedOf.mono _ _ _
      | exact LeO.none _
      | refine LeO.ite ?_ ?_
      | refine LeO.bind ?_ (fun _ => ?_)
set_option maxHeartbeats 8000000 in
set_option maxRecDepth 100000 in
theorem laws_FnShared.calls (k : Nat) (A0 : Option Addr) (c0 : Nat) (l0 : List Int) (A1 : Option Addr) (c1 : Nat) (l1 : List Int) (_r : Bool) (w : World) (hr0 : Kd.C (Kd.int .u8) w A0 l0.length l0) (hc0 : l0.length ≤ c0) (hr1 : Kd.C (Kd.int .u8) w A1 l1.length l1) (hc1 : l1.length ≤ c1) (h : laws_FnShared.f k l0 l1 = some true) :
    Calls Try.prog 14 #[.slice A0 l0.length c0, .slice A1 l1.length c1] w fun e w' => e = .returned (.bool true) ∧ Below w.heap.size w w' := by
 have HR0 := Aside0.mk hr0
 have HC0 := Aside0.mk hc0
 clear hr0 hc0
 have HR1 := Aside0.mk hr1
 have HC1 := Aside0.mk hc1
 clear hr1 hc1
 have HB := Aside0.mk (Below.refl w.heap.size w)
 have H : (if (wrap64 ((l0.length : Int) + (l1.length : Int))) > 1048576 then (some true) else ((spec_DrawPublicFor.f l0).bind fun t207 => ((spec_DrawPublicFor.f l1).bind fun t208 => ((impl_PublicFor.f k t207).bind fun bt209 => ((spec_PublicFor.f k t207).bind fun bt211 => ((impl_PublicFor.f k t208).bind fun bt213 => (if (bt209.2 != bt211.2) = true then (laws_FnShared.j0 k l1 t207 t208 bt209.1 bt209.2 bt213.1 bt213.2 true) else (laws_FnShared.j0 k l1 t207 t208 bt209.1 bt209.2 bt213.1 bt213.2 (bt209.1 != bt211.1))))))))) = some true := h
 clear h
 by_cases c3 : (wrap64 ((l0.length : Int) + (l1.length : Int))) > 1048576
 · rw [if_pos c3] at H
   have c3b0 : decide (1048576 < (wrap64 ((l0.length : Int) + (l1.length : Int)))) = true := decide_eq_true c3
   clear c3
   clear H
   go_enter Try.func14, Try.ntmps14
   go_wp2
   go_ret
   exact ⟨by first | rfl | (simp [errW_none, errW_some] <;> rfl) | (simp [*, errW_none, errW_some] <;> rfl), hq HB⟩
 rw [if_neg c3] at H
 have c3b0 : decide (1048576 < (wrap64 ((l0.length : Int) + (l1.length : Int)))) = false := decide_eq_false c3
 clear c3
 replace H := Option.bind_eq_some_iff.mp H
 obtain ⟨t207, A40, H⟩ := H
 replace H : ((spec_DrawPublicFor.f l1).bind fun t208 => ((impl_PublicFor.f k t207).bind fun bt209 => ((spec_PublicFor.f k t207).bind fun bt211 => ((impl_PublicFor.f k t208).bind fun bt213 => (if (bt209.2 != bt211.2) = true then (laws_FnShared.j0 k l1 t207 t208 bt209.1 bt209.2 bt213.1 bt213.2 true) else (laws_FnShared.j0 k l1 t207 t208 bt209.1 bt209.2 bt213.1 bt213.2 (bt209.1 != bt211.1))))))) = some true := H
 have A4 := Aside0.mk A40
 clear A40
 replace H := Option.bind_eq_some_iff.mp H
 obtain ⟨t208, A50, H⟩ := H
 replace H : ((impl_PublicFor.f k t207).bind fun bt209 => ((spec_PublicFor.f k t207).bind fun bt211 => ((impl_PublicFor.f k t208).bind fun bt213 => (if (bt209.2 != bt211.2) = true then (laws_FnShared.j0 k l1 t207 t208 bt209.1 bt209.2 bt213.1 bt213.2 true) else (laws_FnShared.j0 k l1 t207 t208 bt209.1 bt209.2 bt213.1 bt213.2 (bt209.1 != bt211.1)))))) = some true := H
 have A5 := Aside0.mk A50
 clear A50
 replace H := Option.bind_eq_some_iff.mp H
 obtain ⟨⟨t209, t210⟩, A60, H⟩ := H
 replace H : ((spec_PublicFor.f k t207).bind fun bt211 => ((impl_PublicFor.f k t208).bind fun bt213 => (if (t210 != bt211.2) = true then (laws_FnShared.j0 k l1 t207 t208 t209 t210 bt213.1 bt213.2 true) else (laws_FnShared.j0 k l1 t207 t208 t209 t210 bt213.1 bt213.2 (t209 != bt211.1))))) = some true := H
 have A6 := Aside0.mk A60
 clear A60
 replace H := Option.bind_eq_some_iff.mp H
 obtain ⟨⟨t211, t212⟩, A70, H⟩ := H
 replace H : ((impl_PublicFor.f k t208).bind fun bt213 => (if (t210 != t212) = true then (laws_FnShared.j0 k l1 t207 t208 t209 t210 bt213.1 bt213.2 true) else (laws_FnShared.j0 k l1 t207 t208 t209 t210 bt213.1 bt213.2 (t209 != t211)))) = some true := H
 have A7 := Aside0.mk A70
 clear A70
 replace H := Option.bind_eq_some_iff.mp H
 obtain ⟨⟨t213, t214⟩, A80, H⟩ := H
 replace H : (if (t210 != t212) = true then (laws_FnShared.j0 k l1 t207 t208 t209 t210 t213 t214 true) else (laws_FnShared.j0 k l1 t207 t208 t209 t210 t213 t214 (t209 != t211))) = some true := H
 have A8 := Aside0.mk A80
 clear A80
 have HC9 := Aside0.mk H
 clear H
 go_enter Try.func14, Try.ntmps14
 go_upto_region 8 with (first | ((with_reducible refine gate_callee (f := 49) rfl ?_); refine goesL_ (some 43) rfl rfl Try.func49 (by kernel_rfl) rfl #[.slice A0 l0.length c0] rfl (by (try simp only [List.map_toArray, List.map_cons, List.map_nil]); first | done | rfl | (simp only [List.length_drop, List.length_take]; rfl)) ?_; (with_reducible refine (spec_DrawPublicFor.calls _ _ l0 t207 _ ?side1 ?side2 A4.out).mono ?_); (case side1 => repeat (first | exact HR0.out | (with_reducible refine Kd.C_alloc ?_ _) | (with_reducible refine Kd.C_drewN ?_ _) | (with_reducible refine Kd.C_drew ?_))); (case side2 => exact HC0.out); rintro e w10 ⟨rfl, hb⟩; refine ⟨_, rfl, ?_⟩; replace HB := cs (hq HB) hb; (try clear hb); (try clear hb2); (try clear hk); (try clear hi)) | ((with_reducible refine gate_callee (f := 49) rfl ?_); refine goesL_ (some 45) rfl rfl Try.func49 (by kernel_rfl) rfl #[.slice A1 l1.length c1] rfl (by (try simp only [List.map_toArray, List.map_cons, List.map_nil]); first | done | rfl | (simp only [List.length_drop, List.length_take]; rfl)) ?_; (with_reducible refine (spec_DrawPublicFor.calls _ _ l1 t208 _ ?side1 ?side2 A5.out).mono ?_); (case side1 => repeat (first | exact (Kd.C_below HR1.out HB.out) | (with_reducible refine Kd.C_alloc ?_ _) | (with_reducible refine Kd.C_drewN ?_ _) | (with_reducible refine Kd.C_drew ?_))); (case side2 => exact HC1.out); rintro e w11 ⟨rfl, hb⟩; refine ⟨_, rfl, ?_⟩; replace HB := cs (hq HB) hb; (try clear hb); (try clear hb2); (try clear hk); (try clear hi)) | ((with_reducible refine gate_callee (f := 50) rfl ?_); refine goesL_ (some 48) rfl rfl Try.func50 (by kernel_rfl) rfl #[.int .i64 t207] rfl (by (try simp only [List.map_toArray, List.map_cons, List.map_nil]); first | done | rfl | (simp only [List.length_drop, List.length_take]; rfl)) ?_; (with_reducible refine (impl_PublicFor.calls k t207 t209 t210 _ A6.out).mono ?_); rintro e w' ⟨rfl, ⟨nd, rfl⟩⟩; refine ⟨_, rfl, ?_⟩) | ((with_reducible refine gate_callee (f := 51) rfl ?_); refine goesL_ (some 53) rfl rfl Try.func51 (by kernel_rfl) rfl #[.int .i64 t207] rfl (by (try simp only [List.map_toArray, List.map_cons, List.map_nil]); first | done | rfl | (simp only [List.length_drop, List.length_take]; rfl)) ?_; (with_reducible refine (spec_PublicFor.calls k t207 t211 t212 _ A7.out).mono ?_); rintro e w' ⟨rfl, ⟨nd, rfl⟩⟩; refine ⟨_, rfl, ?_⟩) | ((with_reducible refine gate_callee (f := 50) rfl ?_); refine goesL_ (some 58) rfl rfl Try.func50 (by kernel_rfl) rfl #[.int .i64 t208] rfl (by (try simp only [List.map_toArray, List.map_cons, List.map_nil]); first | done | rfl | (simp only [List.length_drop, List.length_take]; rfl)) ?_; (with_reducible refine (impl_PublicFor.calls k t208 t213 t214 _ A8.out).mono ?_); rintro e w' ⟨rfl, ⟨nd, rfl⟩⟩; refine ⟨_, rfl, ?_⟩))
 (try simp only [Act.put, List.setIfInBounds_toArray, List.set_cons_zero, List.set_cons_succ])
 go_cut [68] from 36 to 68 (fun v68 wc => ∃ (kq : Nat) (x68_8 : Bool), v68 = .bool x68_8 ∧ Aside0 (laws_FnShared.j0 kq l1 t207 t208 t209 t210 t213 t214 x68_8 = some true) ∧ Aside0 (kq ≤ k) ∧ Aside0 (Below w.heap.size w wc))
 case first =>
   have H := HC9.out
   clear HC9
   by_cases c12 : (t210 != t212) = true
   rotate_left
   · rw [if_neg c12] at H
     have c12b0 : (t210 != t212) = false := by simpa using c12
     (try (have c12b1 : decide (t210 = t212) = true := by simpa using c12))
     (try (have c12b2 : (t210 == t212) = true := by simpa using c12))
     clear c12
     (first | rw [c12b0] | (simp only [i64_w, i32_w]; rw [c12b0]) | skip)
     have H' := Aside0.mk H
     clear H
     go_wp2
     go_meet
     case rel => exact ⟨_, ((t209 != t211)), (by first | rfl | (simp; done) | (simp [*]; done)), H', ⟨by first | omega | exact Nat.le_refl _⟩, ⟨hq HB⟩⟩
   rw [if_pos c12] at H
   have c12b0 : (t210 != t212) = true := c12
   (try (have c12b1 : decide (t210 = t212) = false := by simpa using c12))
   (try (have c12b2 : (t210 == t212) = false := by simpa using c12))
   (try (have c12b3 : ¬ (t210 = t212) := by simpa using c12))
   clear c12
   (first | rw [c12b0] | (simp only [i64_w, i32_w]; rw [c12b0]) | skip)
   have H' := Aside0.mk H
   clear H
   go_wp2
   go_meet
   case rel => exact ⟨_, (true), (by first | rfl | (simp; done) | (simp [*]; done)), H', ⟨by first | omega | exact Nat.le_refl _⟩, ⟨hq HB⟩⟩
 clear HC9
 try clear c1
 try clear p2
 try clear c3
 try clear c3b0
 try clear c4
 try clear c5
 try clear p6
 try clear c12
 try clear c12b0
 try clear c12b1
 try clear c12b2
 obtain ⟨kq, x68_8, rfl, HA, HJ8, HB⟩ := hcut
 obtain _ | kj8 := kq
 · exact absurd HA.out (by simp [laws_FnShared.j0])
 have H := HA.out
 clear HA
 simp only [laws_FnShared.j0] at H
 by_cases c13 : x68_8 = true
 · subst c13
   have H1 : (some false) = some true := by rw [if_pos rfl] at H; exact H
   clear H
   have H := H1
   clear H1
   cases H
 replace c13 := Bool.eq_false_iff.mpr c13
 subst c13
 have H1 : (if t210 = true then (laws_FnShared.j1 kj8 l1 t207 t208 t209 t213 t214) else (laws_FnShared.j1 kj8 l1 t207 t208 t209 t213 false)) = some true := by rw [if_neg (show ¬ (false = true) by decide)] at H; exact H
 clear H
 have H := H1
 clear H1
 have HC14 := Aside0.mk H
 clear H
 go_upto_region 10 with (fail)
 go_cut [72] from 69 to 72 (fun v72 wc => ∃ (kq : Nat) (x72_13 : Bool), v72 = .bool x72_13 ∧ Aside0 (laws_FnShared.j1 kq l1 t207 t208 t209 t213 x72_13 = some true) ∧ Aside0 (kq ≤ kj8) ∧ Aside0 (Below w.heap.size w wc))
 case first =>
   have H := HC14.out
   clear HC14
   by_cases c15 : t210 = true
   · subst c15
     have H1 : (laws_FnShared.j1 kj8 l1 t207 t208 t209 t213 t214) = some true := by rw [if_pos rfl] at H; exact H
     clear H
     have H := H1
     clear H1
     have H' := Aside0.mk H
     clear H
     go_wp2
     go_meet
     case rel => exact ⟨_, (t214), (by first | rfl | (simp; done) | (simp [*]; done)), H', ⟨by have := HJ8.out; first | omega | exact Nat.le_refl _⟩, ⟨hq HB⟩⟩
   replace c15 := Bool.eq_false_iff.mpr c15
   subst c15
   have H1 : (laws_FnShared.j1 kj8 l1 t207 t208 t209 t213 false) = some true := by rw [if_neg (show ¬ (false = true) by decide)] at H; exact H
   clear H
   have H := H1
   clear H1
   have H' := Aside0.mk H
   clear H
   go_wp2
   go_meet
   case rel => exact ⟨_, (false), (by first | rfl | (simp; done) | (simp [*]; done)), H', ⟨by have := HJ8.out; first | omega | exact Nat.le_refl _⟩, ⟨hq HB⟩⟩
 clear HC14
 try clear c1
 try clear p2
 try clear c3
 try clear c3b0
 try clear c4
 try clear c5
 try clear p6
 try clear c12
 try clear c12b0
 try clear c12b1
 try clear c12b2
 try clear c13
 try clear c14
 try clear c15
 try clear p2
 try clear p6
 obtain ⟨kq, x72_13, rfl, HA, HJ13, HB⟩ := hcut
 obtain _ | kj13 := kq
 · exact absurd HA.out (by simp [laws_FnShared.j1])
 have H := HA.out
 clear HA
 simp only [laws_FnShared.j1] at H
 have HC16 := Aside0.mk H
 clear H
 go_upto_if 72 with (fail)
 go_cut [] from 73 to 105 (fun wc => ∃ (kq : Nat), Aside0 (laws_FnShared.j2 kq l1 = some true) ∧ Aside0 (kq ≤ kj13) ∧ Aside0 (Below w.heap.size w wc))
 case first =>
   have H := HC16.out
   clear HC16
   by_cases c17 : x72_13 = true
   rotate_left
   · replace c17 := Bool.eq_false_iff.mpr c17
     subst c17
     have H1 : (laws_FnShared.j2 kj13 l1) = some true := by rw [if_neg (show ¬ (false = true) by decide)] at H; exact H
     clear H
     have H := H1
     clear H1
     have H' := Aside0.mk H
     clear H
     go_wp2
     go_meet
     case rel => exact ⟨_, H', ⟨by have := HJ8.out; have := HJ13.out; first | omega | exact Nat.le_refl _⟩, ⟨hq HB⟩⟩
   subst c17
   have H1 : ((impl_SharedOf.f kj13 t207 t213).bind fun bt215 => ((impl_SharedOf.f kj13 t208 t209).bind fun bt217 => (if bt215.2 = true then (if bt217.2 = true then (if bt215.1 = bt217.1 then ((impl_IsMember.f kj13 t209).bind fun t219 => (if t219 = true then ((impl_IsMember.f kj13 bt215.1).bind fun t220 => (if t220 = true then (laws_FnShared.j2 kj13 l1) else (some false))) else (some false))) else (some false)) else (some false)) else (some false)))) = some true := by rw [if_pos rfl] at H; exact H
   clear H
   have H := H1
   clear H1
   replace H := Option.bind_eq_some_iff.mp H
   obtain ⟨⟨t215, t216⟩, A180, H⟩ := H
   replace H : ((impl_SharedOf.f kj13 t208 t209).bind fun bt217 => (if t216 = true then (if bt217.2 = true then (if t215 = bt217.1 then ((impl_IsMember.f kj13 t209).bind fun t219 => (if t219 = true then ((impl_IsMember.f kj13 t215).bind fun t220 => (if t220 = true then (laws_FnShared.j2 kj13 l1) else (some false))) else (some false))) else (some false)) else (some false)) else (some false))) = some true := H
   have A18 := Aside0.mk A180
   clear A180
   replace H := Option.bind_eq_some_iff.mp H
   obtain ⟨⟨t217, t218⟩, A190, H⟩ := H
   replace H : (if t216 = true then (if t218 = true then (if t215 = t217 then ((impl_IsMember.f kj13 t209).bind fun t219 => (if t219 = true then ((impl_IsMember.f kj13 t215).bind fun t220 => (if t220 = true then (laws_FnShared.j2 kj13 l1) else (some false))) else (some false))) else (some false)) else (some false)) else (some false)) = some true := H
   have A19 := Aside0.mk A190
   clear A190
   by_cases c20 : t216 = true
   rotate_left
   · replace c20 := Bool.eq_false_iff.mpr c20
     subst c20
     have H1 : (some false) = some true := by rw [if_neg (show ¬ (false = true) by decide)] at H; exact H
     clear H
     have H := H1
     clear H1
     cases H
   subst c20
   have H1 : (if t218 = true then (if t215 = t217 then ((impl_IsMember.f kj13 t209).bind fun t219 => (if t219 = true then ((impl_IsMember.f kj13 t215).bind fun t220 => (if t220 = true then (laws_FnShared.j2 kj13 l1) else (some false))) else (some false))) else (some false)) else (some false)) = some true := by rw [if_pos rfl] at H; exact H
   clear H
   have H := H1
   clear H1
   by_cases c21 : t218 = true
   rotate_left
   · replace c21 := Bool.eq_false_iff.mpr c21
     subst c21
     have H1 : (some false) = some true := by rw [if_neg (show ¬ (false = true) by decide)] at H; exact H
     clear H
     have H := H1
     clear H1
     cases H
   subst c21
   have H1 : (if t215 = t217 then ((impl_IsMember.f kj13 t209).bind fun t219 => (if t219 = true then ((impl_IsMember.f kj13 t215).bind fun t220 => (if t220 = true then (laws_FnShared.j2 kj13 l1) else (some false))) else (some false))) else (some false)) = some true := by rw [if_pos rfl] at H; exact H
   clear H
   have H := H1
   clear H1
   by_cases c22 : t215 = t217
   rotate_left
   · rw [if_neg c22] at H
     have c22b0 : (t215 == t217) = false := beq_eq_false_iff_ne.mpr c22
     have c22b1 : (t215 != t217) = true := bne_iff_ne.mpr c22
     (first | rw [c22b0] | (simp only [i64_w, i32_w]; rw [c22b0]) | skip)
     cases H
   rw [if_pos c22] at H
   have c22b0 : (t215 == t217) = true := beq_iff_eq.mpr c22
   have c22b1 : (t215 != t217) = false := bne_eq_false_iff_eq.mpr c22
   clear c22
   (first | rw [c22b0] | (simp only [i64_w, i32_w]; rw [c22b0]) | skip)
   replace H := Option.bind_eq_some_iff.mp H
   obtain ⟨t219, A230, H⟩ := H
   replace H : (if t219 = true then ((impl_IsMember.f kj13 t215).bind fun t220 => (if t220 = true then (laws_FnShared.j2 kj13 l1) else (some false))) else (some false)) = some true := H
   have A23 := Aside0.mk A230
   clear A230
   by_cases c24 : t219 = true
   rotate_left
   · replace c24 := Bool.eq_false_iff.mpr c24
     subst c24
     have H1 : (some false) = some true := by rw [if_neg (show ¬ (false = true) by decide)] at H; exact H
     clear H
     have H := H1
     clear H1
     cases H
   subst c24
   have H1 : ((impl_IsMember.f kj13 t215).bind fun t220 => (if t220 = true then (laws_FnShared.j2 kj13 l1) else (some false))) = some true := by rw [if_pos rfl] at H; exact H
   clear H
   have H := H1
   clear H1
   replace H := Option.bind_eq_some_iff.mp H
   obtain ⟨t220, A250, H⟩ := H
   replace H : (if t220 = true then (laws_FnShared.j2 kj13 l1) else (some false)) = some true := H
   have A25 := Aside0.mk A250
   clear A250
   by_cases c26 : t220 = true
   rotate_left
   · replace c26 := Bool.eq_false_iff.mpr c26
     subst c26
     have H1 : (some false) = some true := by rw [if_neg (show ¬ (false = true) by decide)] at H; exact H
     clear H
     have H := H1
     clear H1
     cases H
   subst c26
   have H1 : (laws_FnShared.j2 kj13 l1) = some true := by rw [if_pos rfl] at H; exact H
   clear H
   have H := H1
   clear H1
   have H' := Aside0.mk H
   clear H
   go_wp2_with (first | ((with_reducible refine gate_callee (f := 52) rfl ?_); refine goesL_ (some 76) rfl rfl Try.func52 (by kernel_rfl) rfl #[.int .i64 t207, .int .i64 t213] rfl (by (try simp only [List.map_toArray, List.map_cons, List.map_nil]); first | done | rfl | (simp only [List.length_drop, List.length_take]; rfl)) ?_; (with_reducible refine (impl_SharedOf.calls kj13 t207 t213 t215 true _ A18.out).mono ?_); rintro e w' ⟨rfl, ⟨nd, rfl⟩⟩; refine ⟨_, rfl, ?_⟩) | ((with_reducible refine gate_callee (f := 52) rfl ?_); refine goesL_ (some 82) rfl rfl Try.func52 (by kernel_rfl) rfl #[.int .i64 t208, .int .i64 t209] rfl (by (try simp only [List.map_toArray, List.map_cons, List.map_nil]); first | done | rfl | (simp only [List.length_drop, List.length_take]; rfl)) ?_; (with_reducible refine (impl_SharedOf.calls kj13 t208 t209 t217 true _ A19.out).mono ?_); rintro e w' ⟨rfl, ⟨nd, rfl⟩⟩; refine ⟨_, rfl, ?_⟩) | (go_at_call 53; (with_reducible refine (impl_IsMember.calls kj13 t209 true _ A23.out).mono ?_); rintro e w' ⟨rfl, ⟨nd, rfl⟩⟩) | (go_at_call 53; (with_reducible refine (impl_IsMember.calls kj13 t215 true _ A25.out).mono ?_); rintro e w' ⟨rfl, ⟨nd, rfl⟩⟩))
   go_meet
   case rel => exact ⟨_, H', ⟨by have := HJ8.out; have := HJ13.out; first | omega | exact Nat.le_refl _⟩, ⟨hq HB⟩⟩
 clear HC16
 try clear c1
 try clear c2
 try clear p2
 try clear c3
 try clear c3b0
 try clear c4
 try clear c5
 try clear p6
 try clear c12
 try clear c12b0
 try clear c12b1
 try clear c12b2
 try clear c13
 try clear c14
 try clear c15
 try clear c17
 try clear c20
 try clear c21
 try clear c22
 try clear c22b0
 try clear c22b1
 try clear c24
 try clear c26
 try clear p2
 try clear p6
 obtain ⟨kq, HA, HJ15, HB⟩ := hcut
 obtain _ | kj15 := kq
 · exact absurd HA.out (by simp [laws_FnShared.j2])
 have H := HA.out
 clear HA
 simp only [laws_FnShared.j2] at H
 replace H := Option.bind_eq_some_iff.mp H
 obtain ⟨⟨t221, t222⟩, A270, H⟩ := H
 replace H : ((impl_PowerOf.f kj15 t221 t222).bind fun bt223 => ((spec_PowerOf.f kj15 t221 t222).bind fun bt225 => ((impl_InverseOf.f kj15 t221).bind fun bt227 => ((spec_InverseOf.f kj15 t221).bind fun bt229 => (if (bt223.2 != bt225.2) = true then (laws_FnShared.j3 kj15 l1 t221 bt223.2 true) else (if bt223.1 = bt225.1 then (if (bt227.2 != bt229.2) = true then (laws_FnShared.j3 kj15 l1 t221 bt223.2 true) else (if bt227.1 = bt229.1 then (if bt227.2 = true then (laws_FnShared.j3 kj15 l1 t221 bt223.2 ((Int.tmod (wrap64 (t221 * bt227.1)) 2999) != 1)) else (laws_FnShared.j3 kj15 l1 t221 bt223.2 false)) else (laws_FnShared.j3 kj15 l1 t221 bt223.2 true))) else (laws_FnShared.j3 kj15 l1 t221 bt223.2 true))))))) = some true := H
 have A27 := Aside0.mk A270
 clear A270
 replace H := Option.bind_eq_some_iff.mp H
 obtain ⟨⟨t223, t224⟩, A280, H⟩ := H
 replace H : ((spec_PowerOf.f kj15 t221 t222).bind fun bt225 => ((impl_InverseOf.f kj15 t221).bind fun bt227 => ((spec_InverseOf.f kj15 t221).bind fun bt229 => (if (t224 != bt225.2) = true then (laws_FnShared.j3 kj15 l1 t221 t224 true) else (if t223 = bt225.1 then (if (bt227.2 != bt229.2) = true then (laws_FnShared.j3 kj15 l1 t221 t224 true) else (if bt227.1 = bt229.1 then (if bt227.2 = true then (laws_FnShared.j3 kj15 l1 t221 t224 ((Int.tmod (wrap64 (t221 * bt227.1)) 2999) != 1)) else (laws_FnShared.j3 kj15 l1 t221 t224 false)) else (laws_FnShared.j3 kj15 l1 t221 t224 true))) else (laws_FnShared.j3 kj15 l1 t221 t224 true)))))) = some true := H
 have A28 := Aside0.mk A280
 clear A280
 replace H := Option.bind_eq_some_iff.mp H
 obtain ⟨⟨t225, t226⟩, A290, H⟩ := H
 replace H : ((impl_InverseOf.f kj15 t221).bind fun bt227 => ((spec_InverseOf.f kj15 t221).bind fun bt229 => (if (t224 != t226) = true then (laws_FnShared.j3 kj15 l1 t221 t224 true) else (if t223 = t225 then (if (bt227.2 != bt229.2) = true then (laws_FnShared.j3 kj15 l1 t221 t224 true) else (if bt227.1 = bt229.1 then (if bt227.2 = true then (laws_FnShared.j3 kj15 l1 t221 t224 ((Int.tmod (wrap64 (t221 * bt227.1)) 2999) != 1)) else (laws_FnShared.j3 kj15 l1 t221 t224 false)) else (laws_FnShared.j3 kj15 l1 t221 t224 true))) else (laws_FnShared.j3 kj15 l1 t221 t224 true))))) = some true := H
 have A29 := Aside0.mk A290
 clear A290
 replace H := Option.bind_eq_some_iff.mp H
 obtain ⟨⟨t227, t228⟩, A300, H⟩ := H
 replace H : ((spec_InverseOf.f kj15 t221).bind fun bt229 => (if (t224 != t226) = true then (laws_FnShared.j3 kj15 l1 t221 t224 true) else (if t223 = t225 then (if (t228 != bt229.2) = true then (laws_FnShared.j3 kj15 l1 t221 t224 true) else (if t227 = bt229.1 then (if t228 = true then (laws_FnShared.j3 kj15 l1 t221 t224 ((Int.tmod (wrap64 (t221 * t227)) 2999) != 1)) else (laws_FnShared.j3 kj15 l1 t221 t224 false)) else (laws_FnShared.j3 kj15 l1 t221 t224 true))) else (laws_FnShared.j3 kj15 l1 t221 t224 true)))) = some true := H
 have A30 := Aside0.mk A300
 clear A300
 replace H := Option.bind_eq_some_iff.mp H
 obtain ⟨⟨t229, t230⟩, A310, H⟩ := H
 replace H : (if (t224 != t226) = true then (laws_FnShared.j3 kj15 l1 t221 t224 true) else (if t223 = t225 then (if (t228 != t230) = true then (laws_FnShared.j3 kj15 l1 t221 t224 true) else (if t227 = t229 then (if t228 = true then (laws_FnShared.j3 kj15 l1 t221 t224 ((Int.tmod (wrap64 (t221 * t227)) 2999) != 1)) else (laws_FnShared.j3 kj15 l1 t221 t224 false)) else (laws_FnShared.j3 kj15 l1 t221 t224 true))) else (laws_FnShared.j3 kj15 l1 t221 t224 true))) = some true := H
 have A31 := Aside0.mk A310
 clear A310
 have HC32 := Aside0.mk H
 clear H
 go_upto_region 20 with (first | ((with_reducible refine gate_callee (f := 54) rfl ?_); refine goesL_ (some 108) rfl rfl Try.func54 (by kernel_rfl) rfl #[.slice A1 l1.length c1] rfl (by (try simp only [List.map_toArray, List.map_cons, List.map_nil]); first | done | rfl | (simp only [List.length_drop, List.length_take]; rfl)) ?_; (with_reducible refine (spec_DrawPowerOf.calls _ _ l1 t221 t222 _ ?side1 ?side2 A27.out).mono ?_); (case side1 => repeat (first | exact (Kd.C_below HR1.out HB.out) | (with_reducible refine Kd.C_alloc ?_ _) | (with_reducible refine Kd.C_drewN ?_ _) | (with_reducible refine Kd.C_drew ?_))); (case side2 => exact HC1.out); rintro e w33 ⟨rfl, hb⟩; refine ⟨_, rfl, ?_⟩; replace HB := cs (hq HB) hb; (try clear hb); (try clear hb2); (try clear hk); (try clear hi)) | ((with_reducible refine gate_callee (f := 55) rfl ?_); refine goesL_ (some 114) rfl rfl Try.func55 (by kernel_rfl) rfl #[.int .i64 t221, .int .i64 t222] rfl (by (try simp only [List.map_toArray, List.map_cons, List.map_nil]); first | done | rfl | (simp only [List.length_drop, List.length_take]; rfl)) ?_; (with_reducible refine (impl_PowerOf.calls kj15 t221 t222 t223 t224 _ A28.out).mono ?_); rintro e w' ⟨rfl, ⟨nd, rfl⟩⟩; refine ⟨_, rfl, ?_⟩) | ((with_reducible refine gate_callee (f := 56) rfl ?_); refine goesL_ (some 120) rfl rfl Try.func56 (by kernel_rfl) rfl #[.int .i64 t221, .int .i64 t222] rfl (by (try simp only [List.map_toArray, List.map_cons, List.map_nil]); first | done | rfl | (simp only [List.length_drop, List.length_take]; rfl)) ?_; (with_reducible refine (spec_PowerOf.calls kj15 t221 t222 t225 t226 _ A29.out).mono ?_); rintro e w' ⟨rfl, ⟨nd, rfl⟩⟩; refine ⟨_, rfl, ?_⟩) | ((with_reducible refine gate_callee (f := 57) rfl ?_); refine goesL_ (some 125) rfl rfl Try.func57 (by kernel_rfl) rfl #[.int .i64 t221] rfl (by (try simp only [List.map_toArray, List.map_cons, List.map_nil]); first | done | rfl | (simp only [List.length_drop, List.length_take]; rfl)) ?_; (with_reducible refine (impl_InverseOf.calls kj15 t221 t227 t228 _ A30.out).mono ?_); rintro e w' ⟨rfl, ⟨nd, rfl⟩⟩; refine ⟨_, rfl, ?_⟩) | ((with_reducible refine gate_callee (f := 58) rfl ?_); refine goesL_ (some 130) rfl rfl Try.func58 (by kernel_rfl) rfl #[.int .i64 t221] rfl (by (try simp only [List.map_toArray, List.map_cons, List.map_nil]); first | done | rfl | (simp only [List.length_drop, List.length_take]; rfl)) ?_; (with_reducible refine (spec_InverseOf.calls kj15 t221 t229 t230 _ A31.out).mono ?_); rintro e w' ⟨rfl, ⟨nd, rfl⟩⟩; refine ⟨_, rfl, ?_⟩))
 (try simp only [Act.put, List.setIfInBounds_toArray, List.set_cons_zero, List.set_cons_succ])
 go_cut [160] from 106 to 160 (fun v160 wc => ∃ (kq : Nat) (x160_31 : Bool), v160 = .bool x160_31 ∧ Aside0 (laws_FnShared.j3 kq l1 t221 t224 x160_31 = some true) ∧ Aside0 (kq ≤ kj15) ∧ Aside0 (Below w.heap.size w wc))
 case first =>
   have H := HC32.out
   clear HC32
   by_cases c34 : (t224 != t226) = true
   · rw [if_pos c34] at H
     have c34b0 : (t224 != t226) = true := c34
     (try (have c34b1 : decide (t224 = t226) = false := by simpa using c34))
     (try (have c34b2 : (t224 == t226) = false := by simpa using c34))
     (try (have c34b3 : ¬ (t224 = t226) := by simpa using c34))
     clear c34
     (first | rw [c34b0] | (simp only [i64_w, i32_w]; rw [c34b0]) | skip)
     have H' := Aside0.mk H
     clear H
     go_wp2
     go_meet
     case rel => exact ⟨_, (true), (by first | rfl | (simp; done) | (simp [*]; done)), H', ⟨by have := HJ8.out; have := HJ13.out; have := HJ15.out; first | omega | exact Nat.le_refl _⟩, ⟨hq HB⟩⟩
   rw [if_neg c34] at H
   have c34b0 : (t224 != t226) = false := by simpa using c34
   (try (have c34b1 : decide (t224 = t226) = true := by simpa using c34))
   (try (have c34b2 : (t224 == t226) = true := by simpa using c34))
   clear c34
   (first | rw [c34b0] | (simp only [i64_w, i32_w]; rw [c34b0]) | skip)
   by_cases c35 : t223 = t225
   rotate_left
   · rw [if_neg c35] at H
     have c35b0 : (t223 == t225) = false := beq_eq_false_iff_ne.mpr c35
     have c35b1 : (t223 != t225) = true := bne_iff_ne.mpr c35
     have H' := Aside0.mk H
     clear H
     go_wp2
     go_meet
     case rel => exact ⟨_, (true), (by first | rfl | (simp; done) | (simp [*]; done)), H', ⟨by have := HJ8.out; have := HJ13.out; have := HJ15.out; first | omega | exact Nat.le_refl _⟩, ⟨hq HB⟩⟩
   rw [if_pos c35] at H
   have c35b0 : (t223 == t225) = true := beq_iff_eq.mpr c35
   have c35b1 : (t223 != t225) = false := bne_eq_false_iff_eq.mpr c35
   clear c35
   by_cases c36 : (t228 != t230) = true
   · rw [if_pos c36] at H
     have c36b0 : (t228 != t230) = true := c36
     (try (have c36b1 : decide (t228 = t230) = false := by simpa using c36))
     (try (have c36b2 : (t228 == t230) = false := by simpa using c36))
     (try (have c36b3 : ¬ (t228 = t230) := by simpa using c36))
     clear c36
     have H' := Aside0.mk H
     clear H
     go_wp2
     go_meet
     case rel => exact ⟨_, (true), (by first | rfl | (simp; done) | (simp [*]; done)), H', ⟨by have := HJ8.out; have := HJ13.out; have := HJ15.out; first | omega | exact Nat.le_refl _⟩, ⟨hq HB⟩⟩
   rw [if_neg c36] at H
   have c36b0 : (t228 != t230) = false := by simpa using c36
   (try (have c36b1 : decide (t228 = t230) = true := by simpa using c36))
   (try (have c36b2 : (t228 == t230) = true := by simpa using c36))
   clear c36
   by_cases c37 : t227 = t229
   rotate_left
   · rw [if_neg c37] at H
     have c37b0 : (t227 == t229) = false := beq_eq_false_iff_ne.mpr c37
     have c37b1 : (t227 != t229) = true := bne_iff_ne.mpr c37
     have H' := Aside0.mk H
     clear H
     go_wp2
     go_meet
     case rel => exact ⟨_, (true), (by first | rfl | (simp; done) | (simp [*]; done)), H', ⟨by have := HJ8.out; have := HJ13.out; have := HJ15.out; first | omega | exact Nat.le_refl _⟩, ⟨hq HB⟩⟩
   rw [if_pos c37] at H
   have c37b0 : (t227 == t229) = true := beq_iff_eq.mpr c37
   have c37b1 : (t227 != t229) = false := bne_eq_false_iff_eq.mpr c37
   clear c37
   by_cases c38 : t228 = true
   · subst c38
     have H1 : (laws_FnShared.j3 kj15 l1 t221 t224 ((Int.tmod (wrap64 (t221 * t227)) 2999) != 1)) = some true := by rw [if_pos rfl] at H; exact H
     clear H
     have H := H1
     clear H1
     have H' := Aside0.mk H
     clear H
     go_wp2
     go_meet
     case rel => exact ⟨_, (((Int.tmod (wrap64 (t221 * t227)) 2999) != 1)), (by first | rfl | (simp; done) | (simp [*]; done)), H', ⟨by have := HJ8.out; have := HJ13.out; have := HJ15.out; first | omega | exact Nat.le_refl _⟩, ⟨hq HB⟩⟩
   replace c38 := Bool.eq_false_iff.mpr c38
   subst c38
   have H1 : (laws_FnShared.j3 kj15 l1 t221 t224 false) = some true := by rw [if_neg (show ¬ (false = true) by decide)] at H; exact H
   clear H
   have H := H1
   clear H1
   have H' := Aside0.mk H
   clear H
   go_wp2
   go_meet
   case rel => exact ⟨_, (false), (by first | rfl | (simp; done) | (simp [*]; done)), H', ⟨by have := HJ8.out; have := HJ13.out; have := HJ15.out; first | omega | exact Nat.le_refl _⟩, ⟨hq HB⟩⟩
 clear HC32
 try clear c1
 try clear c2
 try clear p2
 try clear c3
 try clear c3b0
 try clear c4
 try clear c5
 try clear p6
 try clear c12
 try clear c12b0
 try clear c12b1
 try clear c12b2
 try clear c13
 try clear c14
 try clear c15
 try clear c17
 try clear c20
 try clear c21
 try clear c22
 try clear c22b0
 try clear c22b1
 try clear c24
 try clear c26
 try clear c34
 try clear c34b0
 try clear c34b1
 try clear c34b2
 try clear c35
 try clear c35b0
 try clear c35b1
 try clear c36
 try clear c36b0
 try clear c36b1
 try clear c36b2
 try clear c37
 try clear c37b0
 try clear c37b1
 try clear c38
 try clear p2
 try clear p6
 obtain ⟨kq, x160_31, rfl, HA, HJ31, HB⟩ := hcut
 obtain _ | kj31 := kq
 · exact absurd HA.out (by simp [laws_FnShared.j3])
 have H := HA.out
 clear HA
 simp only [laws_FnShared.j3] at H
 by_cases c39 : x160_31 = true
 · subst c39
   have H1 : (some false) = some true := by rw [if_pos rfl] at H; exact H
   clear H
   have H := H1
   clear H1
   cases H
 replace c39 := Bool.eq_false_iff.mpr c39
 subst c39
 have H1 : (if t224 = true then ((impl_PowerOf.f kj31 t221 2998).bind fun bt231 => (if bt231.2 = true then (if bt231.1 = 1 then (laws_FnShared.j4 kj31 l1) else (some false)) else (some false))) else (laws_FnShared.j4 kj31 l1)) = some true := by rw [if_neg (show ¬ (false = true) by decide)] at H; exact H
 clear H
 have H := H1
 clear H1
 have HC40 := Aside0.mk H
 clear H
 go_upto_if 161 with (fail)
 go_cut [] from 161 to 172 (fun wc => ∃ (kq : Nat), Aside0 (laws_FnShared.j4 kq l1 = some true) ∧ Aside0 (kq ≤ kj31) ∧ Aside0 (Below w.heap.size w wc))
 case first =>
   have H := HC40.out
   clear HC40
   by_cases c41 : t224 = true
   rotate_left
   · replace c41 := Bool.eq_false_iff.mpr c41
     subst c41
     have H1 : (laws_FnShared.j4 kj31 l1) = some true := by rw [if_neg (show ¬ (false = true) by decide)] at H; exact H
     clear H
     have H := H1
     clear H1
     have H' := Aside0.mk H
     clear H
     go_wp2
     go_meet
     case rel => exact ⟨_, H', ⟨by have := HJ8.out; have := HJ13.out; have := HJ15.out; have := HJ31.out; first | omega | exact Nat.le_refl _⟩, ⟨hq HB⟩⟩
   subst c41
   have H1 : ((impl_PowerOf.f kj31 t221 2998).bind fun bt231 => (if bt231.2 = true then (if bt231.1 = 1 then (laws_FnShared.j4 kj31 l1) else (some false)) else (some false))) = some true := by rw [if_pos rfl] at H; exact H
   clear H
   have H := H1
   clear H1
   replace H := Option.bind_eq_some_iff.mp H
   obtain ⟨⟨t231, t232⟩, A420, H⟩ := H
   replace H : (if t232 = true then (if t231 = 1 then (laws_FnShared.j4 kj31 l1) else (some false)) else (some false)) = some true := H
   have A42 := Aside0.mk A420
   clear A420
   by_cases c43 : t232 = true
   rotate_left
   · replace c43 := Bool.eq_false_iff.mpr c43
     subst c43
     have H1 : (some false) = some true := by rw [if_neg (show ¬ (false = true) by decide)] at H; exact H
     clear H
     have H := H1
     clear H1
     cases H
   subst c43
   have H1 : (if t231 = 1 then (laws_FnShared.j4 kj31 l1) else (some false)) = some true := by rw [if_pos rfl] at H; exact H
   clear H
   have H := H1
   clear H1
   by_cases c44 : t231 = 1
   rotate_left
   · rw [if_neg c44] at H
     have c44b0 : (t231 == 1) = false := beq_eq_false_iff_ne.mpr c44
     have c44b1 : (t231 != 1) = true := bne_iff_ne.mpr c44
     (first | rw [c44b0] | (simp only [i64_w, i32_w]; rw [c44b0]) | skip)
     cases H
   rw [if_pos c44] at H
   have c44b0 : (t231 == 1) = true := beq_iff_eq.mpr c44
   have c44b1 : (t231 != 1) = false := bne_eq_false_iff_eq.mpr c44
   clear c44
   (first | rw [c44b0] | (simp only [i64_w, i32_w]; rw [c44b0]) | skip)
   have H' := Aside0.mk H
   clear H
   go_wp2_with (first | ((with_reducible refine gate_callee (f := 55) rfl ?_); refine goesL_ (some 164) rfl rfl Try.func55 (by kernel_rfl) rfl #[.int .i64 t221, .int .i64 2998] rfl (by (try simp only [List.map_toArray, List.map_cons, List.map_nil]); first | done | rfl | (simp only [List.length_drop, List.length_take]; rfl)) ?_; (with_reducible refine (impl_PowerOf.calls kj31 t221 2998 t231 true _ A42.out).mono ?_); rintro e w' ⟨rfl, ⟨nd, rfl⟩⟩; refine ⟨_, rfl, ?_⟩))
   go_meet
   case rel => exact ⟨_, H', ⟨by have := HJ8.out; have := HJ13.out; have := HJ15.out; have := HJ31.out; first | omega | exact Nat.le_refl _⟩, ⟨hq HB⟩⟩
 clear HC40
 try clear c1
 try clear c2
 try clear p2
 try clear c3
 try clear c3b0
 try clear c4
 try clear c5
 try clear p6
 try clear c12
 try clear c12b0
 try clear c12b1
 try clear c12b2
 try clear c13
 try clear c14
 try clear c15
 try clear c17
 try clear c20
 try clear c21
 try clear c22
 try clear c22b0
 try clear c22b1
 try clear c24
 try clear c26
 try clear c34
 try clear c34b0
 try clear c34b1
 try clear c34b2
 try clear c35
 try clear c35b0
 try clear c35b1
 try clear c36
 try clear c36b0
 try clear c36b1
 try clear c36b2
 try clear c37
 try clear c37b0
 try clear c37b1
 try clear c38
 try clear c39
 try clear c41
 try clear c43
 try clear c44
 try clear c44b0
 try clear c44b1
 try clear p2
 try clear p6
 obtain ⟨kq, HA, HJ39, HB⟩ := hcut
 obtain _ | kj39 := kq
 · exact absurd HA.out (by simp [laws_FnShared.j4])
 have H := HA.out
 clear HA
 simp only [laws_FnShared.j4] at H
 replace H := Option.bind_eq_some_iff.mp H
 obtain ⟨⟨t233, t234⟩, A450, H⟩ := H
 replace H : ((impl_SharedOf.f kj39 t233 t234).bind fun bt235 => ((spec_SharedOf.f kj39 t233 t234).bind fun bt237 => ((spec_DrawIsMember.f kj39 l1).bind fun t239 => (if (bt235.2 == bt237.2) = true then (if bt235.1 = bt237.1 then ((impl_IsMember.f kj39 t239).bind fun t240 => ((spec_IsMember.f kj39 t239).bind fun t241 => (some (t240 == t241)))) else (some false)) else (some false))))) = some true := H
 have A45 := Aside0.mk A450
 clear A450
 replace H := Option.bind_eq_some_iff.mp H
 obtain ⟨⟨t235, t236⟩, A460, H⟩ := H
 replace H : ((spec_SharedOf.f kj39 t233 t234).bind fun bt237 => ((spec_DrawIsMember.f kj39 l1).bind fun t239 => (if (t236 == bt237.2) = true then (if t235 = bt237.1 then ((impl_IsMember.f kj39 t239).bind fun t240 => ((spec_IsMember.f kj39 t239).bind fun t241 => (some (t240 == t241)))) else (some false)) else (some false)))) = some true := H
 have A46 := Aside0.mk A460
 clear A460
 replace H := Option.bind_eq_some_iff.mp H
 obtain ⟨⟨t237, t238⟩, A470, H⟩ := H
 replace H : ((spec_DrawIsMember.f kj39 l1).bind fun t239 => (if (t236 == t238) = true then (if t235 = t237 then ((impl_IsMember.f kj39 t239).bind fun t240 => ((spec_IsMember.f kj39 t239).bind fun t241 => (some (t240 == t241)))) else (some false)) else (some false))) = some true := H
 have A47 := Aside0.mk A470
 clear A470
 replace H := Option.bind_eq_some_iff.mp H
 obtain ⟨t239, A480, H⟩ := H
 replace H : (if (t236 == t238) = true then (if t235 = t237 then ((impl_IsMember.f kj39 t239).bind fun t240 => ((spec_IsMember.f kj39 t239).bind fun t241 => (some (t240 == t241)))) else (some false)) else (some false)) = some true := H
 have A48 := Aside0.mk A480
 clear A480
 by_cases c49 : (t236 == t238) = true
 rotate_left
 · rw [if_neg c49] at H
   have c49b0 : (t236 == t238) = false := by simpa using c49
   (try (have c49b1 : decide (t236 = t238) = false := by simpa using c49))
   (try (have c49b2 : (t236 == t238) = false := by simpa using c49))
   (try (have c49b3 : ¬ (t236 = t238) := by simpa using c49))
   clear c49
   cases H
 rw [if_pos c49] at H
 have c49b0 : (t236 == t238) = true := c49
 (try (have c49b1 : decide (t236 = t238) = true := by simpa using c49))
 (try (have c49b2 : (t236 == t238) = true := by simpa using c49))
 clear c49
 by_cases c50 : t235 = t237
 rotate_left
 · rw [if_neg c50] at H
   have c50b0 : (t235 == t237) = false := beq_eq_false_iff_ne.mpr c50
   have c50b1 : (t235 != t237) = true := bne_iff_ne.mpr c50
   cases H
 rw [if_pos c50] at H
 have c50b0 : (t235 == t237) = true := beq_iff_eq.mpr c50
 have c50b1 : (t235 != t237) = false := bne_eq_false_iff_eq.mpr c50
 clear c50
 replace H := Option.bind_eq_some_iff.mp H
 obtain ⟨t240, A510, H⟩ := H
 replace H : ((spec_IsMember.f kj39 t239).bind fun t241 => (some (t240 == t241))) = some true := H
 have A51 := Aside0.mk A510
 clear A510
 replace H := Option.bind_eq_some_iff.mp H
 obtain ⟨t241, A520, H⟩ := H
 replace H : (some (t240 == t241)) = some true := H
 have A52 := Aside0.mk A520
 clear A520
 have Hr_ := Option.some.inj H
 clear H
 go_wp2_with (first | ((with_reducible refine gate_callee (f := 59) rfl ?_); refine goesL_ (some 175) rfl rfl Try.func59 (by kernel_rfl) rfl #[.slice A1 l1.length c1] rfl (by (try simp only [List.map_toArray, List.map_cons, List.map_nil]); first | done | rfl | (simp only [List.length_drop, List.length_take]; rfl)) ?_; (with_reducible refine (spec_DrawSharedOf.calls kj39 _ _ l1 t233 t234 _ ?side1 ?side2 A45.out).mono ?_); (case side1 => repeat (first | exact (Kd.C_below HR1.out HB.out) | (with_reducible refine Kd.C_alloc ?_ _) | (with_reducible refine Kd.C_drewN ?_ _) | (with_reducible refine Kd.C_drew ?_))); (case side2 => exact HC1.out); rintro e w53 ⟨rfl, hb⟩; refine ⟨_, rfl, ?_⟩; replace HB := cs (hq HB) hb; (try clear hb); (try clear hb2); (try clear hk); (try clear hi)) | ((with_reducible refine gate_callee (f := 52) rfl ?_); refine goesL_ (some 181) rfl rfl Try.func52 (by kernel_rfl) rfl #[.int .i64 t233, .int .i64 t234] rfl (by (try simp only [List.map_toArray, List.map_cons, List.map_nil]); first | done | rfl | (simp only [List.length_drop, List.length_take]; rfl)) ?_; (with_reducible refine (impl_SharedOf.calls kj39 t233 t234 t235 t236 _ A46.out).mono ?_); rintro e w' ⟨rfl, ⟨nd, rfl⟩⟩; refine ⟨_, rfl, ?_⟩) | ((with_reducible refine gate_callee (f := 60) rfl ?_); refine goesL_ (some 187) rfl rfl Try.func60 (by kernel_rfl) rfl #[.int .i64 t233, .int .i64 t234] rfl (by (try simp only [List.map_toArray, List.map_cons, List.map_nil]); first | done | rfl | (simp only [List.length_drop, List.length_take]; rfl)) ?_; (with_reducible refine (spec_SharedOf.calls kj39 t233 t234 t237 t238 _ A47.out).mono ?_); rintro e w' ⟨rfl, ⟨nd, rfl⟩⟩; refine ⟨_, rfl, ?_⟩) | ((with_reducible refine gate_callee (f := 61) rfl ?_); refine goesL_ (some 191) rfl rfl Try.func61 (by kernel_rfl) rfl #[.slice A1 l1.length c1] rfl (by (try simp only [List.map_toArray, List.map_cons, List.map_nil]); first | done | rfl | (simp only [List.length_drop, List.length_take]; rfl)) ?_; (with_reducible refine (spec_DrawIsMember.calls kj39 _ _ l1 t239 _ ?side1 ?side2 A48.out).mono ?_); (case side1 => repeat (first | exact (Kd.C_below HR1.out (hq HB)) | (with_reducible refine Kd.C_alloc ?_ _) | (with_reducible refine Kd.C_drewN ?_ _) | (with_reducible refine Kd.C_drew ?_))); (case side2 => exact HC1.out); rintro e w54 ⟨rfl, hb⟩; refine ⟨_, rfl, ?_⟩; replace HB := cs (hq HB) hb; (try clear hb); (try clear hb2); (try clear hk); (try clear hi)) | (go_at_call 53; (with_reducible refine (impl_IsMember.calls kj39 t239 t240 _ A51.out).mono ?_); rintro e w' ⟨rfl, ⟨nd, rfl⟩⟩) | (go_at_call 62; (with_reducible refine (spec_IsMember.calls kj39 t239 t241 _ A52.out).mono ?_); rintro e w' ⟨rfl, ⟨nd, rfl⟩⟩))
 go_ret
 exact ⟨by first | rfl | (simp [errW_none, errW_some] <;> rfl) | (simp [*, errW_none, errW_some] <;> rfl), hq HB⟩
/-- THE ONE PURE STATEMENT of laws_FnShared: yours. -/
def laws_FnShared.Pure : Prop := ∀ (l0 : List Int) (l1 : List Int), l0.length ≤ maxLen → l0.length * 1 ≤ 140737488351232 → (∀ x ∈ l0, (Lit.int .u8 x).wf = true) → l1.length ≤ maxLen → l1.length * 1 ≤ 140737488351232 → (∀ x ∈ l1, (Lit.int .u8 x).wf = true) → ∃ k, laws_FnShared.f k l0 l1 = some true
theorem laws_FnShared.walk (P : laws_FnShared.Pure) (a0 : Option Addr) (len0 cap0 : Nat) (z0 : List Int) (a1 : Option Addr) (len1 cap1 : Nat) (z1 : List Int) (w : World) (w0 : (a0 = none ∧ len0 = 0 ∧ cap0 = 0 ∧ z0 = []) ∨ ∃ x, a0 = some x ∧ len0 ≤ cap0 ∧ cap0 ≤ maxLen ∧ z0.length = cap0 ∧ (∀ i, i < z0.length → w.cell? (x.add i) = some (.int .u8 (z0.getD i 0))) ∧ ∀ n ∈ z0, (Lit.int .u8 n).wf = true) (y0 : len0 * 1 ≤ 140737488351232) (w1 : (a1 = none ∧ len1 = 0 ∧ cap1 = 0 ∧ z1 = []) ∨ ∃ x, a1 = some x ∧ len1 ≤ cap1 ∧ cap1 ≤ maxLen ∧ z1.length = cap1 ∧ (∀ i, i < z1.length → w.cell? (x.add i) = some (.int .u8 (z1.getD i 0))) ∧ ∀ n ∈ z1, (Lit.int .u8 n).wf = true) (y1 : len1 * 1 ≤ 140737488351232) :
    Calls Try.prog 14 #[.slice a0 len0 cap0, .slice a1 len1 cap1] w fun e w' => e = .returned (.bool true) ∧ Below w.heap.size w w' := by
  obtain ⟨l0, rfl, hr0, hm0, hw0, hc0⟩ := ReadsInt.ofRowC w0
  obtain ⟨l1, rfl, hr1, hm1, hw1, hc1⟩ := ReadsInt.ofRowC w1
  obtain ⟨k, h⟩ := P l0 l1 hm0 y0 hw0 hm1 y1 hw1
  refine (laws_FnShared.calls k _ _ l0 _ _ l1 true w (Kd.C_of_reads (d := (0 : Int)) (h1 := fun _ => rfl) hr0) hc0 (Kd.C_of_reads (d := (0 : Int)) (h1 := fun _ => rfl) hr1) hc1 h).mono ?_
  rintro e w' ⟨rfl, hd⟩
  exact ⟨rfl, hd⟩

end Go.Proofs.Ytoigapileicelaa.QFnShared
