import Derived.Test.YtadooofomkdaoaaQFnExactPolyThroughx0
import Derived.Test.YtadooofomkdaoaaQFnExactPolyThroughx2
import Derived.Test.YtadooofomkdaoaaQFnExactPolyThroughx3
namespace Go.Proofs.Ytadooofomkdaoaa.QFnExactPolyThrough
open Go.RowKit Go.Proofs.YtadooofomkdaoaaW.PrintWords Go.Proofs.YtadooofomkdaoaaW.PrintLast Go.Proofs.YtadooofomkdaoaaW.PrintMore
attribute [local go_sem] max2_int min2_int max_two min_two max_three min_three max_four min_four   -- for this text's walks alone
set_option linter.unusedVariables false
set_option linter.unusedSimpArgs false

/-! ### spec_PolyThrough: function 71 -/
mutual
def spec_PolyThrough.l0 : Nat → List Int → List Int → List Int → List Int → Int → Int → Option (List Int × Bool)
  | 0, _, _, _, _, _, _ => none
  | k + 1, x4, x5, x6, x29, x30, x31 => if x31 < x30 then (if 0 ≤ x31 then (if x31 < (x29.length : Int) then (spec_PolyThrough.l1 k x4 x5 x6 x31 (rd x29 x31) (([1] : List Int)) 1 x29 x30 x31 x4 (x4.length : Int) 0) else (none)) else (none)) else (some (x6, true))
def spec_PolyThrough.l1 : Nat → List Int → List Int → List Int → Int → Int → List Int → Int → List Int → Int → Int → List Int → Int → Int → Option (List Int × Bool)
  | 0, _, _, _, _, _, _, _, _, _, _, _, _, _ => none
  | k + 1, x4, x5, x6, x7, x8, x9, x10, x29, x30, x31, x37, x38, x39 => if x39 < x38 then (if 0 ≤ x39 then (if x39 < (x37.length : Int) then (if x39 = x7 then (spec_PolyThrough.l1 k x4 x5 x6 x7 x8 x9 x10 x29 x30 x31 x37 x38 (wrap64 (x39 + 1))) else (if 0 ≤ (wrap64 ((x9.length : Int) + 1)) then (if (wrap64 ((x9.length : Int) + 1) : Int).toNat ≤ 35184372088832 then (spec_PolyThrough.l2 k x4 x5 x6 x7 x8 x10 (rd x37 x39) (List.replicate (wrap64 ((x9.length : Int) + 1) : Int).toNat 0) x29 x30 x31 x37 x38 x39 x9 (x9.length : Int) 0) else (none)) else (none))) else (none)) else (none)) else (spec_PolyThrough.l3 k x4 x5 x6 x7 x10 x29 x30 x31 x9 (x9.length : Int) 0)
def spec_PolyThrough.l2 : Nat → List Int → List Int → List Int → Int → Int → Int → Int → List Int → List Int → Int → Int → List Int → Int → Int → List Int → Int → Int → Option (List Int × Bool)
  | 0, _, _, _, _, _, _, _, _, _, _, _, _, _, _, _, _, _ => none
  | k + 1, x4, x5, x6, x7, x8, x10, x12, x13, x29, x30, x31, x37, x38, x39, x51, x52, x53 => if x53 < x52 then (if 0 ≤ x53 then (if x53 < (x51.length : Int) then (if x53 < (x13.length : Int) then ((spec_l5Mod.f (wrap64 ((rd x13 x53) + (wrap64 ((rd x51 x53) * x12))))).bind fun t166 => ((some (x13.set (x53 : Int).toNat t166 : List Int)).bind fun y167 => (if 0 ≤ (wrap64 (x53 + 1)) then (if (wrap64 (x53 + 1)) < (x13.length : Int) then ((spec_l5Mod.f (wrap64 ((rd y167 (wrap64 (x53 + 1))) - (rd x51 x53)))).bind fun t169 => (spec_PolyThrough.l2 k x4 x5 x6 x7 x8 x10 x12 (y167.set ((wrap64 (x53 + 1)) : Int).toNat t169) x29 x30 x31 x37 x38 x39 x51 x52 (wrap64 (x53 + 1)))) else (none)) else (none)))) else (none)) else (none)) else (none)) else ((spec_l5Mod.f (wrap64 (x12 - x8))).bind fun t171 => (spec_PolyThrough.l1 k x4 x5 x6 x7 x8 x13 (Int.tmod (wrap64 (x10 * t171)) 1499) x29 x30 x31 x37 x38 (wrap64 (x39 + 1))))
def spec_PolyThrough.l3 : Nat → List Int → List Int → List Int → Int → Int → List Int → Int → Int → List Int → Int → Int → Option (List Int × Bool)
  | 0, _, _, _, _, _, _, _, _, _, _, _ => none
  | k + 1, x4, x5, x6, x7, x10, x29, x30, x31, x92, x93, x94 => if x94 < x93 then (if 0 ≤ x94 then (if x94 < (x92.length : Int) then (if x94 < (x6.length : Int) then (if 0 ≤ x7 then (if x7 < (x5.length : Int) then ((spec_l5Inverse.f k x10).bind fun t175 => (spec_PolyThrough.l3 k x4 x5 (x6.set (x94 : Int).toNat (Int.tmod (wrap64 ((rd x6 x94) + (wrap64 ((Int.tmod (wrap64 ((rd x92 x94) * (rd x5 x7))) 1499) * t175)))) 1499)) x7 x10 x29 x30 x31 x92 x93 (wrap64 (x94 + 1)))) else (none)) else (none)) else (none)) else (none)) else (none)) else (spec_PolyThrough.l0 k x4 x5 x6 x29 x30 (wrap64 (x31 + 1)))
end
def spec_PolyThrough.f (k : Nat) (l0 : List (S70)) : Option (List Int × Bool) := (spec_l5Parts.f k l0).bind fun t146 => (if t146 = true then ((spec_l5Split.f k l0).bind fun bt147 => (if 0 ≤ (l0.length : Int) then (if ((l0.length : Int) : Int).toNat ≤ 35184372088832 then (spec_PolyThrough.l0 k bt147.1 bt147.2 (List.replicate ((l0.length : Int) : Int).toNat 0) bt147.1 (bt147.1.length : Int) 0) else (none)) else (none))) else (some (([] : List Int), false)))
theorem spec_PolyThrough.mono_l : ∀ k, (∀ y0 y1 y2 y3 y4 y5, LeO (spec_PolyThrough.l0 k y0 y1 y2 y3 y4 y5) (spec_PolyThrough.l0 (k + 1) y0 y1 y2 y3 y4 y5)) ∧ (∀ y0 y1 y2 y3 y4 y5 y6 y7 y8 y9 y10 y11 y12, LeO (spec_PolyThrough.l1 k y0 y1 y2 y3 y4 y5 y6 y7 y8 y9 y10 y11 y12) (spec_PolyThrough.l1 (k + 1) y0 y1 y2 y3 y4 y5 y6 y7 y8 y9 y10 y11 y12)) ∧ (∀ y0 y1 y2 y3 y4 y5 y6 y7 y8 y9 y10 y11 y12 y13 y14 y15 y16, LeO (spec_PolyThrough.l2 k y0 y1 y2 y3 y4 y5 y6 y7 y8 y9 y10 y11 y12 y13 y14 y15 y16) (spec_PolyThrough.l2 (k + 1) y0 y1 y2 y3 y4 y5 y6 y7 y8 y9 y10 y11 y12 y13 y14 y15 y16)) ∧ (∀ y0 y1 y2 y3 y4 y5 y6 y7 y8 y9 y10, LeO (spec_PolyThrough.l3 k y0 y1 y2 y3 y4 y5 y6 y7 y8 y9 y10) (spec_PolyThrough.l3 (k + 1) y0 y1 y2 y3 y4 y5 y6 y7 y8 y9 y10))
  | 0 => ⟨fun _ _ _ _ _ _ r h => by simp [spec_PolyThrough.l0] at h, fun _ _ _ _ _ _ _ _ _ _ _ _ _ r h => by simp [spec_PolyThrough.l1] at h, fun _ _ _ _ _ _ _ _ _ _ _ _ _ _ _ _ _ r h => by simp [spec_PolyThrough.l2] at h, fun _ _ _ _ _ _ _ _ _ _ _ r h => by simp [spec_PolyThrough.l3] at h⟩
  | k + 1 => by
    obtain ⟨ih0, ih1, ih2, ih3⟩ := spec_PolyThrough.mono_l k
    refine ⟨?_, ?_, ?_, ?_⟩
    · intro y0 y1 y2 y3 y4 y5
      unfold spec_PolyThrough.l0
      repeat' first
      | (with_reducible exact ih0 _ _ _ _ _ _)
      | (with_reducible exact ih1 _ _ _ _ _ _ _ _ _ _ _ _ _)
      | (with_reducible exact ih2 _ _ _ _ _ _ _ _ _ _ _ _ _ _ _ _ _)
      | (with_reducible exact ih3 _ _ _ _ _ _ _ _ _ _ _)
      | (with_reducible exact spec_l5Inverse.mono _ _)
      | (with_reducible exact spec_l5Parts.mono _ _)
      | (with_reducible exact spec_l5Split.mono _ _)
      | (with_reducible exact LeO.refl _)
      | (with_reducible exact LeO.none _)
      | (with_reducible refine LeO.ite ?_ ?_)
      | (with_reducible refine LeO.bind ?_ (fun _ => ?_))
      | exact ih0 _ _ _ _ _ _
      | exact ih1 _ _ _ _ _ _ _ _ _ _ _ _ _
      | exact ih2 _ _ _ _ _ _ _ _ _ _ _ _ _ _ _ _ _
      | exact ih3 _ _ _ _ _ _ _ _ _ _ _
      | exact spec_l5Inverse.mono _ _
      | exact spec_l5Parts.mono _ _
      | exact spec_l5Split.mono _ _
      | exact LeO.none _
      | refine LeO.ite ?_ ?_
      | refine LeO.bind ?_ (fun _ => ?_)
    · intro y0 y1 y2 y3 y4 y5 y6 y7 y8 y9 y10 y11 y12
      unfold spec_PolyThrough.l1
      repeat' first
      | (with_reducible exact ih0 _ _ _ _ _ _)
      | (with_reducible exact ih1 _ _ _ _ _ _ _ _ _ _ _ _ _)
      | (with_reducible exact ih2 _ _ _ _ _ _ _ _ _ _ _ _ _ _ _ _ _)
      | (with_reducible exact ih3 _ _ _ _ _ _ _ _ _ _ _)
      | (with_reducible exact spec_l5Inverse.mono _ _)
      | (with_reducible exact spec_l5Parts.mono _ _)
      | (with_reducible exact spec_l5Split.mono _ _)
      | (with_reducible exact LeO.refl _)
      | (with_reducible exact LeO.none _)
      | (with_reducible refine LeO.ite ?_ ?_)
      | (with_reducible refine LeO.bind ?_ (fun _ => ?_))
      | exact ih0 _ _ _ _ _ _
      | exact ih1 _ _ _ _ _ _ _ _ _ _ _ _ _
      | exact ih2 _ _ _ _ _ _ _ _ _ _ _ _ _ _ _ _ _
      | exact ih3 _ _ _ _ _ _ _ _ _ _ _
      | exact spec_l5Inverse.mono _ _
      | exact spec_l5Parts.mono _ _
      | exact spec_l5Split.mono _ _
      | exact LeO.none _
      | refine LeO.ite ?_ ?_
      | refine LeO.bind ?_ (fun _ => ?_)
    · intro y0 y1 y2 y3 y4 y5 y6 y7 y8 y9 y10 y11 y12 y13 y14 y15 y16
      unfold spec_PolyThrough.l2
      repeat' first
      | (with_reducible exact ih0 _ _ _ _ _ _)
      | (with_reducible exact ih1 _ _ _ _ _ _ _ _ _ _ _ _ _)
      | (with_reducible exact ih2 _ _ _ _ _ _ _ _ _ _ _ _ _ _ _ _ _)
      | (with_reducible exact ih3 _ _ _ _ _ _ _ _ _ _ _)
      | (with_reducible exact spec_l5Inverse.mono _ _)
      | (with_reducible exact spec_l5Parts.mono _ _)
      | (with_reducible exact spec_l5Split.mono _ _)
      | (with_reducible exact LeO.refl _)
      | (with_reducible exact LeO.none _)
      | (with_reducible refine LeO.ite ?_ ?_)
      | (with_reducible refine LeO.bind ?_ (fun _ => ?_))
      | exact ih0 _ _ _ _ _ _
      | exact ih1 _ _ _ _ _ _ _ _ _ _ _ _ _
      | exact ih2 _ _ _ _ _ _ _ _ _ _ _ _ _ _ _ _ _
      | exact ih3 _ _ _ _ _ _ _ _ _ _ _
      | exact spec_l5Inverse.mono _ _
      | exact spec_l5Parts.mono _ _
      | exact spec_l5Split.mono _ _
      | exact LeO.none _
      | refine LeO.ite ?_ ?_
      | refine LeO.bind ?_ (fun _ => ?_)
    · intro y0 y1 y2 y3 y4 y5 y6 y7 y8 y9 y10
      unfold spec_PolyThrough.l3
      repeat' first
      | (with_reducible exact ih0 _ _ _ _ _ _)
      | (with_reducible exact ih1 _ _ _ _ _ _ _ _ _ _ _ _ _)
      | (with_reducible exact ih2 _ _ _ _ _ _ _ _ _ _ _ _ _ _ _ _ _)
      | (with_reducible exact ih3 _ _ _ _ _ _ _ _ _ _ _)
      | (with_reducible exact spec_l5Inverse.mono _ _)
      | (with_reducible exact spec_l5Parts.mono _ _)
      | (with_reducible exact spec_l5Split.mono _ _)
      | (with_reducible exact LeO.refl _)
      | (with_reducible exact LeO.none _)
      | (with_reducible refine LeO.ite ?_ ?_)
      | (with_reducible refine LeO.bind ?_ (fun _ => ?_))
      | exact ih0 _ _ _ _ _ _
      | exact ih1 _ _ _ _ _ _ _ _ _ _ _ _ _
      | exact ih2 _ _ _ _ _ _ _ _ _ _ _ _ _ _ _ _ _
      | exact ih3 _ _ _ _ _ _ _ _ _ _ _
      | exact spec_l5Inverse.mono _ _
      | exact spec_l5Parts.mono _ _
      | exact spec_l5Split.mono _ _
      | exact LeO.none _
      | refine LeO.ite ?_ ?_
      | refine LeO.bind ?_ (fun _ => ?_)
theorem spec_PolyThrough.mono : ∀ a0 k, LeO (spec_PolyThrough.f k a0) (spec_PolyThrough.f (k + 1) a0) := by
  intro a0 k
  obtain ⟨ih0, ih1, ih2, ih3⟩ := spec_PolyThrough.mono_l k
  unfold spec_PolyThrough.f
  repeat' first
      | (with_reducible exact ih0 _ _ _ _ _ _)
      | (with_reducible exact ih1 _ _ _ _ _ _ _ _ _ _ _ _ _)
      | (with_reducible exact ih2 _ _ _ _ _ _ _ _ _ _ _ _ _ _ _ _ _)
      | (with_reducible exact ih3 _ _ _ _ _ _ _ _ _ _ _)
      | (with_reducible exact spec_l5Inverse.mono _ _)
      | (with_reducible exact spec_l5Parts.mono _ _)
      | (with_reducible exact spec_l5Split.mono _ _)
      | (with_reducible exact LeO.refl _)
      | (with_reducible exact LeO.none _)
      | (with_reducible refine LeO.ite ?_ ?_)
      | (with_reducible refine LeO.bind ?_ (fun _ => ?_))
      | exact ih0 _ _ _ _ _ _
      | exact ih1 _ _ _ _ _ _ _ _ _ _ _ _ _
      | exact ih2 _ _ _ _ _ _ _ _ _ _ _ _ _ _ _ _ _
      | exact ih3 _ _ _ _ _ _ _ _ _ _ _
      | exact spec_l5Inverse.mono _ _
      | exact spec_l5Parts.mono _ _
      | exact spec_l5Split.mono _ _
      | exact LeO.none _
      | refine LeO.ite ?_ ?_
      | refine LeO.bind ?_ (fun _ => ?_)
def spec_PolyThrough.T27 : Bool × List (List Nat × List Nat) := (true, [([], []), ([], []), ([], []), ([], []), ([2, 3], [2, 3]), ([4], [4]), ([], []), ([], []), ([], []), ([7, 8], [7, 8]), ([9], [9]), ([6, 10], [6, 10]), ([11], [11]), ([], []), ([13], [13]), ([12, 14], [12, 14]), ([5, 15], [5, 15]), ([16], [16]), ([0, 1, 0, 1, 2, 3, 4, 5, 6, 7, 8, 9, 10, 11, 12, 13, 14, 15, 16, 17], [0, 1]), ([18, 17, 14, 0, 1, 2, 3, 4, 5, 6, 7, 8, 9, 10, 11, 12, 13, 14, 15, 16, 17], [17, 18])])
def spec_PolyThrough.B27 : List Nat := [0, 0, 0, 0, 12, 28, 0, 0, 0, 384, 896, 1984, 4032, 0, 8192, 32704, 65532, 131068, 262143, 524287]
theorem spec_PolyThrough.tab27 : rtab .any (opsOf Try.f71 27) = spec_PolyThrough.T27 := by kernel_rfl
theorem spec_PolyThrough.bits27 : waitsOk spec_PolyThrough.T27.2 spec_PolyThrough.B27 = true := by kernel_rfl
set_option maxHeartbeats 8000000 in
set_option maxRecDepth 100000 in
theorem spec_PolyThrough.calls (k : Nat) (A0 : Option Addr) (c0 : Nat) (l0 : List (S70)) (r1 : List Int) (r2 : Bool) (w : World) (hr0 : Kd.C k70 w A0 l0.length l0) (hc0 : l0.length ≤ c0) (h : spec_PolyThrough.f k l0 = some (r1, r2)) :
    Calls Try.prog 71 #[.slice A0 l0.length c0] w fun e w' => ∃ v0_ : Value, e = .returned (.tuple #[v0_, .bool r2]) ∧ Kd.R (Kd.int .i64) 3 w' w.heap.size (fun _ => True) v0_ r1 ∧ Below w.heap.size w w' := by
  have HR0 := Aside0.mk hr0
  have HC0 := Aside0.mk hc0
  clear hr0 hc0
  have HB := Aside0.mk (Below.refl w.heap.size w)
  have H : ((spec_l5Parts.f k l0).bind fun t146 => (if t146 = true then ((spec_l5Split.f k l0).bind fun bt147 => (if 0 ≤ (l0.length : Int) then (if ((l0.length : Int) : Int).toNat ≤ 35184372088832 then (spec_PolyThrough.l0 k bt147.1 bt147.2 (List.replicate ((l0.length : Int) : Int).toNat 0) bt147.1 (bt147.1.length : Int) 0) else (none)) else (none))) else (some (([] : List Int), false)))) = some (r1, r2) := h
  clear h
  replace H := Option.bind_eq_some_iff.mp H
  obtain ⟨t146, A20, H⟩ := H
  replace H : (if t146 = true then ((spec_l5Split.f k l0).bind fun bt147 => (if 0 ≤ (l0.length : Int) then (if ((l0.length : Int) : Int).toNat ≤ 35184372088832 then (spec_PolyThrough.l0 k bt147.1 bt147.2 (List.replicate ((l0.length : Int) : Int).toNat 0) bt147.1 (bt147.1.length : Int) 0) else (none)) else (none))) else (some (([] : List Int), false))) = some (r1, r2) := H
  have A2 := Aside0.mk A20
  clear A20
  by_cases c3 : t146 = true
  · subst c3
    have H1 : ((spec_l5Split.f k l0).bind fun bt147 => (if 0 ≤ (l0.length : Int) then (if ((l0.length : Int) : Int).toNat ≤ 35184372088832 then (spec_PolyThrough.l0 k bt147.1 bt147.2 (List.replicate ((l0.length : Int) : Int).toNat 0) bt147.1 (bt147.1.length : Int) 0) else (none)) else (none))) = some (r1, r2) := by rw [if_pos rfl] at H; exact H
    clear H
    have H := H1
    clear H1
    replace H := Option.bind_eq_some_iff.mp H
    obtain ⟨⟨t147, t148⟩, A40, H⟩ := H
    replace H : (if 0 ≤ (l0.length : Int) then (if ((l0.length : Int) : Int).toNat ≤ 35184372088832 then (spec_PolyThrough.l0 k t147 t148 (List.replicate ((l0.length : Int) : Int).toNat 0) t147 (t147.length : Int) 0) else (none)) else (none)) = some (r1, r2) := H
    have A4 := Aside0.mk A40
    clear A40
    by_cases c5 : 0 ≤ (l0.length : Int)
    · rw [if_pos c5] at H
      have c5b0 := eq_true c5
      have c5b1 : decide (0 ≤ (l0.length : Int)) = true := decide_eq_true c5
      clear c5
      by_cases c6 : ((l0.length : Int) : Int).toNat ≤ 35184372088832
      · rw [if_pos c6] at H
        have c6b0 := eq_true c6
        have c6b1 : decide (((l0.length : Int) : Int).toNat ≤ 35184372088832) = true := decide_eq_true c6
        clear c6
        obtain ⟨y153, hy153⟩ : ∃ y_ : List Int, y_ = (List.replicate ((l0.length : Int) : Int).toNat 0) := ⟨_, rfl⟩
        replace H : (spec_PolyThrough.l0 k t147 t148 y153 t147 (t147.length : Int) 0) = some (r1, r2) := by first | (rw [hy153]; with_reducible exact H) | (have H2_ := (Option.bind_some _ _).symm.trans H; rw [hy153]; with_reducible exact H2_) | (have H2_ := (Option.bind_some _ _).symm.trans H; with_reducible exact H2_) | with_reducible exact H | (rw [hy153]; exact H) | exact H
        have Ny153 := Aside0.mk hy153
        clear hy153
        have H' := Aside0.mk H
        clear H
        go_enter Try.func71, Try.ntmps71
        go_wp2_with (first | ((with_reducible refine gate_callee (f := 115) rfl ?_); refine goesL_ (some 19) rfl rfl Try.func115 (by kernel_rfl) rfl #[.slice A0 l0.length c0] rfl (by (try simp only [List.map_toArray, List.map_cons, List.map_nil]); first | done | rfl | (simp only [List.length_drop, List.length_take]; rfl)) ?_; (with_reducible refine (spec_l5Parts.calls k _ _ l0 true _ ?side1 ?side2 A2.out).mono ?_); (case side1 => repeat (first | exact HR0.out | (with_reducible refine Kd.C_alloc ?_ _) | (with_reducible refine Kd.C_drewN ?_ _) | (with_reducible refine Kd.C_drew ?_))); (case side2 => exact HC0.out); rintro e w7 ⟨rfl, hb⟩; refine ⟨_, rfl, ?_⟩; have n0_ := Aside0.mk (below_step (by repeat (first | (with_reducible first | exact HB.out | apply below_alloc | apply pw_below_drewN | apply below_drew1) | exact HB.out)) hb); clear HB; have HB := n0_; clear n0_; (try clear hb); (try clear hb2); (try clear hk); (try clear hi)) | ((with_reducible refine gate_callee (f := 123) rfl ?_); refine goesL_ (some 23) rfl rfl Try.func123 (by kernel_rfl) rfl #[.slice A0 l0.length c0] rfl (by (try simp only [List.map_toArray, List.map_cons, List.map_nil]); first | done | rfl | (simp only [List.length_drop, List.length_take]; rfl)) ?_; (with_reducible refine (spec_l5Split.calls k _ _ l0 t147 t148 _ ?side1 ?side2 A4.out).mono ?_); (case side1 => repeat (first | exact (Kd.C_below HR0.out HB.out) | (with_reducible refine Kd.C_alloc ?_ _) | (with_reducible refine Kd.C_drewN ?_ _) | (with_reducible refine Kd.C_drew ?_))); (case side2 => exact HC0.out); rintro e w8 ⟨v149, v151, rfl, ho0, ho1, hb⟩; refine ⟨_, rfl, ?_⟩; have n0_ := Aside0.mk (Kd.R_lower ho0 (below_size (by repeat (first | (with_reducible first | exact HB.out | apply below_alloc | apply pw_below_drewN | apply below_drew1) | exact HB.out)))); have n1_ := Aside0.mk (Kd.R_lower ho1 (below_size (by repeat (first | (with_reducible first | exact HB.out | apply below_alloc | apply pw_below_drewN | apply below_drew1) | exact HB.out)))); have n2_ := Aside0.mk (below_step (by repeat (first | (with_reducible first | exact HB.out | apply below_alloc | apply pw_below_drewN | apply below_drew1) | exact HB.out)) hb); clear HB; have HO150 := n0_; have HO152 := n1_; have HB := n2_; clear n0_ n1_ n2_; (try clear hb); (try clear hb2); (try clear hk); (try clear hi); (try clear ho0); (try clear ho1)) | ((with_reducible refine gate_dst (N := 28) rfl ?_); refine Kd.R_make (Kd.int .i64) _ 3 rfl (N := 28) rfl 23 _ _ rfl (l0.length : Int) rfl rfl Try.underlying23 (.int .i64 0) 8 info3 rfl (by decide) (by omega) 0 (ok := fun _ => True) (okp := fun _ => True) rfl (fun _ hk => hk) trivial (of_decide_eq_true (by first | (with_reducible assumption) | assumption)) (Nat.le_trans (Nat.mul_le_mul_right _ (of_decide_eq_true (by first | (with_reducible assumption) | assumption) : (l0.length : Int).toNat ≤ 35184372088832)) (by omega)) (Below.refl _ _) (Nat.le_refl _) ?_; intro v154 w9 ho10 hb hg_ hnew_; clear hg_ hnew_; (first | rw [← Ny153.out] at ho10 | (simp only [Int.reduceToNat] at ho10; rw [← Ny153.out] at ho10)); have n0_ := Aside0.mk (Kd.R_elder' (by (with_reducible repeat (first | apply Kd.R_alloc | apply Kd.R_drewN | apply Kd.R_drew)); exact HO150.out) (Kd.R_base ho10) hb); have n1_ := Aside0.mk (Kd.R_elder' (by (with_reducible repeat (first | apply Kd.R_alloc | apply Kd.R_drewN | apply Kd.R_drew)); exact HO152.out) (Kd.R_base ho10) hb); have n2_ := Aside0.mk (Kd.R_lower (Kd.R_new' (Kd.R_new' ho10 (Kd.R_lt (by (with_reducible repeat (first | apply Kd.R_alloc | apply Kd.R_drewN | apply Kd.R_drew)); exact HO150.out))) (Kd.R_lt (by (with_reducible repeat (first | apply Kd.R_alloc | apply Kd.R_drewN | apply Kd.R_drew)); exact HO152.out))) (below_size (by repeat (first | (with_reducible first | exact HB.out | apply below_alloc | apply pw_below_drewN | apply below_drew1) | exact HB.out)))); have n3_ := Aside0.mk (below_step (by repeat (first | (with_reducible first | exact HB.out | apply below_alloc | apply pw_below_drewN | apply below_drew1) | exact HB.out)) hb); clear HO150; clear HO152; clear HB; have HO150 := n0_; have HO152 := n1_; have HO155 := n2_; have HB := n3_; clear n0_ n1_ n2_ n3_; clear hb ho10; obtain ⟨Ao11, co11, eo11⟩ := Kd.R_slice HO150.out; subst eo11))
        go_loopg [31] k (fun kq v31 w' => ∃ (x4_1 : List Int) (x5_1 : List Int) (x6_1 : List Int) (x29_1 : List Int) (x31_1 : Int), v31 = .int .i64 x31_1 ∧ Aside0 (spec_PolyThrough.l0 kq x4_1 x5_1 x6_1 x29_1 (t147.length : Int) x31_1 = some (r1, r2)) ∧ Aside0 (kq ≤ k) ∧ Aside0 (Kd.R (Kd.int .i64) 3 w' w.heap.size (fun k_ => some k_ ≠ (v151 : Value).ownBlock ∧ some k_ ≠ (v154 : Value).ownBlock) (.slice Ao11 t147.length co11) x4_1) ∧ Aside0 (Kd.R (Kd.int .i64) 3 w' w.heap.size (fun k_ => some k_ ≠ ((.slice Ao11 t147.length co11) : Value).ownBlock ∧ some k_ ≠ (v154 : Value).ownBlock ∧ some k_ ≠ ((.slice Ao11 t147.length co11) : Value).ownBlock) v151 x5_1) ∧ Aside0 (Kd.R (Kd.int .i64) 3 w' w.heap.size (fun k_ => some k_ ≠ ((.slice Ao11 t147.length co11) : Value).ownBlock ∧ some k_ ≠ (v151 : Value).ownBlock ∧ some k_ ≠ ((.slice Ao11 t147.length co11) : Value).ownBlock) v154 x6_1) ∧ Aside0 (Kd.R (Kd.int .i64) 3 w' w.heap.size (fun k_ => some k_ ≠ (v151 : Value).ownBlock ∧ some k_ ≠ (v154 : Value).ownBlock) (.slice Ao11 t147.length co11) x29_1) ∧ Aside0 (Below w.heap.size w w'))
        case atStart => exact ⟨(t147), (t148), (y153), (t147), (0), (by first | rfl | (simp; done) | (simp [*]; done)), H', ⟨Nat.le_refl _⟩, ⟨by (with_reducible repeat (first | apply Kd.R_alloc | apply Kd.R_drewN | apply Kd.R_drew)); exact HO150.out⟩, ⟨by (with_reducible repeat (first | apply Kd.R_alloc | apply Kd.R_drewN | apply Kd.R_drew)); exact Kd.R_mono HO152.out (fun _ hk => ⟨hk.1, ⟨hk.2, hk.1⟩⟩)⟩, ⟨by (with_reducible repeat (first | apply Kd.R_alloc | apply Kd.R_drewN | apply Kd.R_drew)); exact Kd.R_mono HO155.out (fun _ hk => ⟨hk.1.2, ⟨hk.2, hk.1.2⟩⟩)⟩, ⟨by (with_reducible repeat (first | apply Kd.R_alloc | apply Kd.R_drewN | apply Kd.R_drew)); exact HO150.out⟩, ⟨by repeat (first | (with_reducible first | exact HB.out | apply below_alloc | apply pw_below_drewN | apply below_drew1) | exact HB.out)⟩⟩
        case round =>
          clear H'
          try clear c1
          try clear p2
          try clear c3
          try clear c5
          try clear c5b0
          try clear c5b1
          try clear c6
          try clear c6b0
          try clear c6b1
          try clear c7
          try clear c11
          obtain ⟨x4_1, x5_1, x6_1, x29_1, x31_1, rfl, HA, HK1, HO_4, HO_5, HO_6, HO_29, HB⟩ := hrel
          have hl4_1 := (Kd.R_reads' HO_4.out).1
          rw [hl4_1] at HO_4
          (try simp only [hl4_1])
          (try simp only [hl4_1] at HO_5)
          (try simp only [hl4_1] at HO_6)
          (try simp only [hl4_1] at HO_29)
          have hl29_1 := (Kd.R_reads' HO_29.out).1
          rw [hl29_1] at HO_29
          (try simp only [hl29_1])
          (try simp only [hl29_1] at HO_4)
          (try simp only [hl29_1] at HO_5)
          (try simp only [hl29_1] at HO_6)
          cases gk with
          | zero => exact absurd HA.out (by simp [spec_PolyThrough.l0])
          | succ k1 =>
            have H := HA.out
            clear HA
            simp only [spec_PolyThrough.l0] at H
            by_cases c12 : x31_1 < (t147.length : Int)
            · rw [if_pos c12] at H
              have c12b0 : decide (x31_1 < (t147.length : Int)) = true := decide_eq_true c12
              clear c12
              by_cases c13 : 0 ≤ x31_1
              · rw [if_pos c13] at H
                have c13b0 : decide (0 ≤ x31_1) = true := decide_eq_true c13
                clear c13
                by_cases c14 : x31_1 < (x29_1.length : Int)
                · rw [if_pos c14] at H
                  have c14b0 : decide (x31_1 < (x29_1.length : Int)) = true := decide_eq_true c14
                  clear c14
                  obtain ⟨y157, hy157⟩ : ∃ y_ : List Int, y_ = (([1] : List Int)) := ⟨_, rfl⟩
                  replace H : (spec_PolyThrough.l1 k1 x4_1 x5_1 x6_1 x31_1 (rd x29_1 x31_1) y157 1 x29_1 (t147.length : Int) x31_1 x4_1 (x4_1.length : Int) 0) = some (r1, r2) := by first | (rw [hy157]; with_reducible exact H) | (have H2_ := (Option.bind_some _ _).symm.trans H; rw [hy157]; with_reducible exact H2_) | (have H2_ := (Option.bind_some _ _).symm.trans H; with_reducible exact H2_) | with_reducible exact H | (rw [hy157]; exact H) | exact H
                  have Ny157 := Aside0.mk hy157
                  clear hy157
                  have H' := Aside0.mk H
                  clear H
                  have p156 : 0 ≤ (x31_1 : Int) := of_decide_eq_true (by first | (with_reducible assumption) | assumption)
                  have q156 : x31_1 < (x29_1.length : Int) := of_decide_eq_true (by first | (with_reducible assumption) | assumption)
                  obtain ⟨ad156, e156, hx156_0⟩ := Kd.at_int (Kd.R_reads' HO_29.out).2.2 x31_1 p156 q156
                  cases e156
                  replace p156 := eq_true p156
                  replace q156 := eq_true q156
                  go_wp2_with (first | ((with_reducible refine gate_dst (N := 36) rfl ?_); refine Kd.R_lit (Kd.int .i64) _ 3 ?hg (N := 36) ?hd (xs := ([1] : List Int)) (inner := [.int .i64 1]) (ok := fun _ => True) (okp := fun _ => True) ?hr ?hp (fun _ hk => hk) trivial (Below.refl _ _) (Nat.le_refl _) (by simp) ?_; (case hd => rfl); (case hg => rfl); (case hr => first | (go_simp; done) | (go_simp; rfl)); (case hp => exact (Reps.one (show Kd.M (Kd.int .i64) _ _ _ 1 [.int .i64 1] from rfl) (Reps.none _ _))); intro v158 w15 ho16 hb hg_ hnew_; clear hg_ hnew_; (first | rw [← Ny157.out] at ho16 | (simp only [Int.reduceToNat] at ho16; rw [← Ny157.out] at ho16)); have n0_ := Aside0.mk (Kd.R_elder' (by (with_reducible repeat (first | apply Kd.R_alloc | apply Kd.R_drewN | apply Kd.R_drew)); exact HO_4.out) (Kd.R_base ho16) hb); have n1_ := Aside0.mk (Kd.R_elder' (by (with_reducible repeat (first | apply Kd.R_alloc | apply Kd.R_drewN | apply Kd.R_drew)); exact HO_5.out) (Kd.R_base ho16) hb); have n2_ := Aside0.mk (Kd.R_elder' (by (with_reducible repeat (first | apply Kd.R_alloc | apply Kd.R_drewN | apply Kd.R_drew)); exact HO_6.out) (Kd.R_base ho16) hb); have n3_ := Aside0.mk (Kd.R_elder' (by (with_reducible repeat (first | apply Kd.R_alloc | apply Kd.R_drewN | apply Kd.R_drew)); exact HO_29.out) (Kd.R_base ho16) hb); have n4_ := Aside0.mk (Kd.R_lower (Kd.R_new' (Kd.R_new' (Kd.R_new' (Kd.R_new' ho16 (Kd.R_lt (by (with_reducible repeat (first | apply Kd.R_alloc | apply Kd.R_drewN | apply Kd.R_drew)); exact HO_4.out))) (Kd.R_lt (by (with_reducible repeat (first | apply Kd.R_alloc | apply Kd.R_drewN | apply Kd.R_drew)); exact HO_5.out))) (Kd.R_lt (by (with_reducible repeat (first | apply Kd.R_alloc | apply Kd.R_drewN | apply Kd.R_drew)); exact HO_6.out))) (Kd.R_lt (by (with_reducible repeat (first | apply Kd.R_alloc | apply Kd.R_drewN | apply Kd.R_drew)); exact HO_29.out))) (below_size (by repeat (first | (with_reducible first | exact HB.out | apply below_alloc | apply pw_below_drewN | apply below_drew1) | exact HB.out)))); have n5_ := Aside0.mk (below_step (by repeat (first | (with_reducible first | exact HB.out | apply below_alloc | apply pw_below_drewN | apply below_drew1) | exact HB.out)) hb); clear HO_4; clear HO_5; clear HO_6; clear HO_29; clear HB; have HO_4 := n0_; have HO_5 := n1_; have HO_6 := n2_; have HO_29 := n3_; have HO159 := n4_; have HB := n5_; clear n0_ n1_ n2_ n3_ n4_ n5_; clear hb ho16))
                  go_loopg [9, 10, 39] k1 (fun kq v9 v10 v39 w' => ∃ (x4_2 : List Int) (x5_2 : List Int) (x6_2 : List Int) (x9_2 : List Int) (x10_2 : Int) (x29_2 : List Int) (x37_2 : List Int) (x39_2 : Int), v10 = .int .i64 x10_2 ∧ v39 = .int .i64 x39_2 ∧ Aside0 (spec_PolyThrough.l1 kq x4_2 x5_2 x6_2 x31_1 (rd x29_1 x31_1) x9_2 x10_2 x29_2 (t147.length : Int) x31_1 x37_2 (x4_1.length : Int) x39_2 = some (r1, r2)) ∧ Aside0 (kq ≤ k1) ∧ Aside0 (Kd.R (Kd.int .i64) 3 w' w.heap.size (fun k_ => some k_ ≠ (v151 : Value).ownBlock ∧ some k_ ≠ (v154 : Value).ownBlock ∧ some k_ ≠ (v9 : Value).ownBlock) (.slice (some ad156) x29_1.length co11) x4_2) ∧ Aside0 (Kd.R (Kd.int .i64) 3 w' w.heap.size (fun k_ => some k_ ≠ ((.slice (some ad156) x29_1.length co11) : Value).ownBlock ∧ some k_ ≠ (v154 : Value).ownBlock ∧ some k_ ≠ (v9 : Value).ownBlock ∧ some k_ ≠ ((.slice (some ad156) x29_1.length co11) : Value).ownBlock ∧ some k_ ≠ ((.slice (some ad156) x29_1.length co11) : Value).ownBlock) v151 x5_2) ∧ Aside0 (Kd.R (Kd.int .i64) 3 w' w.heap.size (fun k_ => some k_ ≠ ((.slice (some ad156) x29_1.length co11) : Value).ownBlock ∧ some k_ ≠ (v151 : Value).ownBlock ∧ some k_ ≠ (v9 : Value).ownBlock ∧ some k_ ≠ ((.slice (some ad156) x29_1.length co11) : Value).ownBlock ∧ some k_ ≠ ((.slice (some ad156) x29_1.length co11) : Value).ownBlock) v154 x6_2) ∧ Aside0 (Kd.R (Kd.int .i64) 3 w' w.heap.size (fun k_ => some k_ ≠ ((.slice (some ad156) x29_1.length co11) : Value).ownBlock ∧ some k_ ≠ (v151 : Value).ownBlock ∧ some k_ ≠ (v154 : Value).ownBlock ∧ some k_ ≠ ((.slice (some ad156) x29_1.length co11) : Value).ownBlock ∧ some k_ ≠ ((.slice (some ad156) x29_1.length co11) : Value).ownBlock) v9 x9_2) ∧ Aside0 (Kd.R (Kd.int .i64) 3 w' w.heap.size (fun k_ => some k_ ≠ (v151 : Value).ownBlock ∧ some k_ ≠ (v154 : Value).ownBlock ∧ some k_ ≠ (v9 : Value).ownBlock) (.slice (some ad156) x29_1.length co11) x29_2) ∧ Aside0 (Kd.R (Kd.int .i64) 3 w' w.heap.size (fun k_ => some k_ ≠ (v151 : Value).ownBlock ∧ some k_ ≠ (v154 : Value).ownBlock ∧ some k_ ≠ (v9 : Value).ownBlock) (.slice (some ad156) x29_1.length co11) x37_2) ∧ Aside0 (Below w.heap.size w w'))
                  case atStart => exact ⟨(x4_1), (x5_1), (x6_1), (y157), (1), (x29_1), (x4_1), (0), (by first | rfl | (simp; done) | (simp [*]; done)), (by first | rfl | (simp; done) | (simp [*]; done)), H', ⟨Nat.le_refl _⟩, ⟨by (try simp only [hl4_1]); (try simp only [hl29_1]); (with_reducible repeat (first | apply Kd.R_alloc | apply Kd.R_drewN | apply Kd.R_drew)); exact Kd.R_mono HO_4.out (fun _ hk => ⟨hk.1.1, ⟨hk.1.2, hk.2⟩⟩)⟩, ⟨by (try simp only [hl4_1]); (try simp only [hl29_1]); (with_reducible repeat (first | apply Kd.R_alloc | apply Kd.R_drewN | apply Kd.R_drew)); exact Kd.R_mono HO_5.out (fun _ hk => ⟨hk.1.1, ⟨hk.1.2.1, ⟨hk.2, ⟨hk.1.2.2, hk.1.1⟩⟩⟩⟩)⟩, ⟨by (try simp only [hl4_1]); (try simp only [hl29_1]); (with_reducible repeat (first | apply Kd.R_alloc | apply Kd.R_drewN | apply Kd.R_drew)); exact Kd.R_mono HO_6.out (fun _ hk => ⟨hk.1.1, ⟨hk.1.2.1, ⟨hk.2, ⟨hk.1.2.2, hk.1.1⟩⟩⟩⟩)⟩, ⟨by (try simp only [hl4_1]); (try simp only [hl29_1]); (with_reducible repeat (first | apply Kd.R_alloc | apply Kd.R_drewN | apply Kd.R_drew)); exact Kd.R_mono HO159.out (fun _ hk => ⟨hk.1.1.1.2, ⟨hk.1.1.2, ⟨hk.1.2, ⟨hk.2, hk.1.1.1.2⟩⟩⟩⟩)⟩, ⟨by (try simp only [hl4_1]); (try simp only [hl29_1]); (with_reducible repeat (first | apply Kd.R_alloc | apply Kd.R_drewN | apply Kd.R_drew)); exact Kd.R_mono HO_29.out (fun _ hk => ⟨hk.1.1, ⟨hk.1.2, hk.2⟩⟩)⟩, ⟨by (try simp only [hl4_1]); (try simp only [hl29_1]); (with_reducible repeat (first | apply Kd.R_alloc | apply Kd.R_drewN | apply Kd.R_drew)); exact Kd.R_mono HO_4.out (fun _ hk => ⟨hk.1.1, ⟨hk.1.2, hk.2⟩⟩)⟩, ⟨by repeat (first | (with_reducible first | exact HB.out | apply below_alloc | apply pw_below_drewN | apply below_drew1) | exact HB.out)⟩⟩
                  case round =>
                    clear H'
                    try clear c1
                    try clear p1
                    try clear q1
                    try clear hx1
                    try clear p2
                    try clear c3
                    try clear c5
                    try clear c5b0
                    try clear c5b1
                    try clear c6
                    try clear c6b0
                    try clear c6b1
                    try clear c7
                    try clear c11
                    try clear c12
                    try clear c12b0
                    try clear c13
                    try clear c13b0
                    try clear c14
                    try clear c14b0
                    try clear p15
                    try clear q15
                    try clear hx15
                    try clear hx156_0
                    try clear p156
                    try clear p2
                    try clear q156
                    obtain ⟨x4_2, x5_2, x6_2, x9_2, x10_2, x29_2, x37_2, x39_2, rfl, rfl, HA, HK2, HO_4, HO_5, HO_6, HO_9, HO_29, HO_37, HB⟩ := hrel
                    have hl4_2 := (Kd.R_reads' HO_4.out).1
                    rw [hl4_2] at HO_4
                    (try simp only [hl4_2])
                    (try simp only [hl4_2] at HO_5)
                    (try simp only [hl4_2] at HO_6)
                    (try simp only [hl4_2] at HO_9)
                    (try simp only [hl4_2] at HO_29)
                    (try simp only [hl4_2] at HO_37)
                    have hl29_2 := (Kd.R_reads' HO_29.out).1
                    rw [hl29_2] at HO_29
                    (try simp only [hl29_2])
                    (try simp only [hl29_2] at HO_4)
                    (try simp only [hl29_2] at HO_5)
                    (try simp only [hl29_2] at HO_6)
                    (try simp only [hl29_2] at HO_9)
                    (try simp only [hl29_2] at HO_37)
                    have hl37_2 := (Kd.R_reads' HO_37.out).1
                    rw [hl37_2] at HO_37
                    (try simp only [hl37_2])
                    (try simp only [hl37_2] at HO_4)
                    (try simp only [hl37_2] at HO_5)
                    (try simp only [hl37_2] at HO_6)
                    (try simp only [hl37_2] at HO_9)
                    (try simp only [hl37_2] at HO_29)
                    cases gk with
                    | zero => exact absurd HA.out (by simp [spec_PolyThrough.l1])
                    | succ k2 =>
                      have H := HA.out
                      clear HA
                      simp only [spec_PolyThrough.l1] at H
                      by_cases c17 : x39_2 < (x4_1.length : Int)
                      · rw [if_pos c17] at H
                        have c17b0 : decide (x39_2 < (x4_1.length : Int)) = true := decide_eq_true c17
                        clear c17
                        by_cases c18 : 0 ≤ x39_2
                        · rw [if_pos c18] at H
                          have c18b0 : decide (0 ≤ x39_2) = true := decide_eq_true c18
                          clear c18
                          by_cases c19 : x39_2 < (x37_2.length : Int)
                          · rw [if_pos c19] at H
                            have c19b0 : decide (x39_2 < (x37_2.length : Int)) = true := decide_eq_true c19
                            clear c19
                            by_cases c20 : x39_2 = x31_1
                            · rw [if_pos c20] at H
                              have c20b0 : (x39_2 == x31_1) = true := beq_iff_eq.mpr c20
                              have c20b1 : (x39_2 != x31_1) = false := bne_eq_false_iff_eq.mpr c20
                              clear c20
                              have H' := Aside0.mk H
                              clear H
                              have p160 : 0 ≤ (x39_2 : Int) := of_decide_eq_true (by first | (with_reducible assumption) | assumption)
                              have q160 : x39_2 < (x37_2.length : Int) := of_decide_eq_true (by first | (with_reducible assumption) | assumption)
                              obtain ⟨ad160, e160, hx160_0⟩ := Kd.at_int (Kd.R_reads' HO_37.out).2.2 x39_2 p160 q160
                              obtain rfl : ad156 = ad160 := (by injection e160)
                              replace p160 := eq_true p160
                              replace q160 := eq_true q160
                              go_wp2
                              (try simp only [← hl4_2, ← hl29_2, ← hl37_2])
                              go_roundg k2
                              case measure => have := HK1.out; have := HK2.out; omega
                              case rel => exact ⟨(x4_2), (x5_2), (x6_2), (x9_2), (x10_2), (x29_2), (x37_2), (wrap64 (x39_2 + 1)), (by first | rfl | (simp; done) | (simp [*]; done)), (by first | rfl | (simp; done) | (simp [*]; done)), H', ⟨by have := HK1.out; have := HK2.out; omega⟩, ⟨by (try simp only [hl4_1]); (try simp only [hl29_1]); (try simp only [hl4_2]); (try simp only [hl29_2]); (try simp only [hl37_2]); (with_reducible repeat (first | apply Kd.R_alloc | apply Kd.R_drewN | apply Kd.R_drew)); exact HO_4.out⟩, ⟨by (try simp only [hl4_1]); (try simp only [hl29_1]); (try simp only [hl4_2]); (try simp only [hl29_2]); (try simp only [hl37_2]); (with_reducible repeat (first | apply Kd.R_alloc | apply Kd.R_drewN | apply Kd.R_drew)); exact HO_5.out⟩, ⟨by (try simp only [hl4_1]); (try simp only [hl29_1]); (try simp only [hl4_2]); (try simp only [hl29_2]); (try simp only [hl37_2]); (with_reducible repeat (first | apply Kd.R_alloc | apply Kd.R_drewN | apply Kd.R_drew)); exact HO_6.out⟩, ⟨by (try simp only [hl4_1]); (try simp only [hl29_1]); (try simp only [hl4_2]); (try simp only [hl29_2]); (try simp only [hl37_2]); (with_reducible repeat (first | apply Kd.R_alloc | apply Kd.R_drewN | apply Kd.R_drew)); exact HO_9.out⟩, ⟨by (try simp only [hl4_1]); (try simp only [hl29_1]); (try simp only [hl4_2]); (try simp only [hl29_2]); (try simp only [hl37_2]); (with_reducible repeat (first | apply Kd.R_alloc | apply Kd.R_drewN | apply Kd.R_drew)); exact HO_29.out⟩, ⟨by (try simp only [hl4_1]); (try simp only [hl29_1]); (try simp only [hl4_2]); (try simp only [hl29_2]); (try simp only [hl37_2]); (with_reducible repeat (first | apply Kd.R_alloc | apply Kd.R_drewN | apply Kd.R_drew)); exact HO_37.out⟩, ⟨by repeat (first | (with_reducible first | exact HB.out | apply below_alloc | apply pw_below_drewN | apply below_drew1) | exact HB.out)⟩⟩
                            · rw [if_neg c20] at H
                              have c20b0 : (x39_2 == x31_1) = false := beq_eq_false_iff_ne.mpr c20
                              have c20b1 : (x39_2 != x31_1) = true := bne_iff_ne.mpr c20
                              obtain ⟨ji21, hji21⟩ : ∃ j_ : Int, (wrap64 ((x9_2.length : Int) + 1)) = j_ := ⟨_, rfl⟩
                              replace H : (if 0 ≤ (ji21) then (if (ji21 : Int).toNat ≤ 35184372088832 then (spec_PolyThrough.l2 k2 x4_2 x5_2 x6_2 x31_1 (rd x29_1 x31_1) x10_2 (rd x37_2 x39_2) (List.replicate (ji21 : Int).toNat 0) x29_2 (t147.length : Int) x31_1 x37_2 (x4_1.length : Int) x39_2 x9_2 (x9_2.length : Int) 0) else (none)) else (none)) = some (r1, r2) := by first | (rw [hji21] at H; exact H) | (simp only [hji21] at H ⊢; exact H)
                              have hji21w : (IntKind.i64.wrap ((x9_2.length : Int) + 1)) = ji21 := (i64_w _).trans hji21
                              by_cases c22 : 0 ≤ (ji21)
                              · rw [if_pos c22] at H
                                have c22b0 := eq_true c22
                                have c22b1 : decide (0 ≤ (ji21)) = true := decide_eq_true c22
                                clear c22
                                by_cases c23 : (ji21 : Int).toNat ≤ 35184372088832
                                · rw [if_pos c23] at H
                                  have c23b0 := eq_true c23
                                  have c23b1 : decide ((ji21 : Int).toNat ≤ 35184372088832) = true := decide_eq_true c23
                                  clear c23
                                  obtain ⟨y161, hy161⟩ : ∃ y_ : List Int, y_ = (List.replicate (ji21 : Int).toNat 0) := ⟨_, rfl⟩
                                  replace H : (spec_PolyThrough.l2 k2 x4_2 x5_2 x6_2 x31_1 (rd x29_1 x31_1) x10_2 (rd x37_2 x39_2) y161 x29_2 (t147.length : Int) x31_1 x37_2 (x4_1.length : Int) x39_2 x9_2 (x9_2.length : Int) 0) = some (r1, r2) := by first | (rw [hy161]; with_reducible exact H) | (have H2_ := (Option.bind_some _ _).symm.trans H; rw [hy161]; with_reducible exact H2_) | (have H2_ := (Option.bind_some _ _).symm.trans H; with_reducible exact H2_) | with_reducible exact H | (rw [hy161]; exact H) | exact H
                                  have Ny161 := Aside0.mk hy161
                                  clear hy161
                                  have H' := Aside0.mk H
                                  clear H
                                  have p160 : 0 ≤ (x39_2 : Int) := of_decide_eq_true (by first | (with_reducible assumption) | assumption)
                                  have q160 : x39_2 < (x37_2.length : Int) := of_decide_eq_true (by first | (with_reducible assumption) | assumption)
                                  obtain ⟨ad160, e160, hx160_0⟩ := Kd.at_int (Kd.R_reads' HO_37.out).2.2 x39_2 p160 q160
                                  obtain rfl : ad156 = ad160 := (by injection e160)
                                  replace p160 := eq_true p160
                                  replace q160 := eq_true q160
                                  obtain ⟨Ao24, co24, eo24⟩ := Kd.R_slice HO_9.out
                                  subst eo24
                                  go_wp2_with (first | ((with_reducible refine gate_dst (N := 50) rfl ?_); refine Kd.R_make (Kd.int .i64) _ 3 rfl (N := 50) rfl 23 _ _ rfl ji21 rfl rfl Try.underlying23 (.int .i64 0) 8 info3 rfl (by decide) (by omega) 0 (ok := fun _ => True) (okp := fun _ => True) rfl (fun _ hk => hk) trivial (of_decide_eq_true (by first | (with_reducible assumption) | assumption)) (Nat.le_trans (Nat.mul_le_mul_right _ (of_decide_eq_true (by first | (with_reducible assumption) | assumption) : ji21.toNat ≤ 35184372088832)) (by omega)) (Below.refl _ _) (Nat.le_refl _) ?_; intro v162 w25 ho26 hb hg_ hnew_; clear hg_ hnew_; (first | rw [← Ny161.out] at ho26 | (simp only [Int.reduceToNat] at ho26; rw [← Ny161.out] at ho26)); have n0_ := Aside0.mk (Kd.R_elder' (by (with_reducible repeat (first | apply Kd.R_alloc | apply Kd.R_drewN | apply Kd.R_drew)); exact HO_4.out) (Kd.R_base ho26) hb); have n1_ := Aside0.mk (Kd.R_elder' (by (with_reducible repeat (first | apply Kd.R_alloc | apply Kd.R_drewN | apply Kd.R_drew)); exact HO_5.out) (Kd.R_base ho26) hb); have n2_ := Aside0.mk (Kd.R_elder' (by (with_reducible repeat (first | apply Kd.R_alloc | apply Kd.R_drewN | apply Kd.R_drew)); exact HO_6.out) (Kd.R_base ho26) hb); have n3_ := Aside0.mk (Kd.R_elder' (by (with_reducible repeat (first | apply Kd.R_alloc | apply Kd.R_drewN | apply Kd.R_drew)); exact HO_9.out) (Kd.R_base ho26) hb); have n4_ := Aside0.mk (Kd.R_elder' (by (with_reducible repeat (first | apply Kd.R_alloc | apply Kd.R_drewN | apply Kd.R_drew)); exact HO_29.out) (Kd.R_base ho26) hb); have n5_ := Aside0.mk (Kd.R_elder' (by (with_reducible repeat (first | apply Kd.R_alloc | apply Kd.R_drewN | apply Kd.R_drew)); exact HO_37.out) (Kd.R_base ho26) hb); have n6_ := Aside0.mk (Kd.R_lower (Kd.R_new' (Kd.R_new' (Kd.R_new' (Kd.R_new' (Kd.R_new' (Kd.R_new' ho26 (Kd.R_lt (by (with_reducible repeat (first | apply Kd.R_alloc | apply Kd.R_drewN | apply Kd.R_drew)); exact HO_4.out))) (Kd.R_lt (by (with_reducible repeat (first | apply Kd.R_alloc | apply Kd.R_drewN | apply Kd.R_drew)); exact HO_5.out))) (Kd.R_lt (by (with_reducible repeat (first | apply Kd.R_alloc | apply Kd.R_drewN | apply Kd.R_drew)); exact HO_6.out))) (Kd.R_lt (by (with_reducible repeat (first | apply Kd.R_alloc | apply Kd.R_drewN | apply Kd.R_drew)); exact HO_9.out))) (Kd.R_lt (by (with_reducible repeat (first | apply Kd.R_alloc | apply Kd.R_drewN | apply Kd.R_drew)); exact HO_29.out))) (Kd.R_lt (by (with_reducible repeat (first | apply Kd.R_alloc | apply Kd.R_drewN | apply Kd.R_drew)); exact HO_37.out))) (below_size (by repeat (first | (with_reducible first | exact HB.out | apply below_alloc | apply pw_below_drewN | apply below_drew1) | exact HB.out)))); have n7_ := Aside0.mk (below_step (by repeat (first | (with_reducible first | exact HB.out | apply below_alloc | apply pw_below_drewN | apply below_drew1) | exact HB.out)) hb); clear HO_4; clear HO_5; clear HO_6; clear HO_9; clear HO_29; clear HO_37; clear HB; have HO_4 := n0_; have HO_5 := n1_; have HO_6 := n2_; have HO_9 := n3_; have HO_29 := n4_; have HO_37 := n5_; have HO163 := n6_; have HB := n7_; clear n0_ n1_ n2_ n3_ n4_ n5_ n6_ n7_; clear hb ho26))
                                  go_loopg [53] k2 (fun kq v53 w' => ∃ (x13_3 : List Int) (x53_3 : Int), v53 = .int .i64 x53_3 ∧ Aside0 (spec_PolyThrough.l2 kq x4_2 x5_2 x6_2 x31_1 (rd x29_1 x31_1) x10_2 (rd x37_2 x39_2) x13_3 x29_2 (t147.length : Int) x31_1 x37_2 (x4_1.length : Int) x39_2 x9_2 (x9_2.length : Int) x53_3 = some (r1, r2)) ∧ Aside0 (kq ≤ k2) ∧ Aside0 (Kd.R (Kd.int .i64) 3 w' w.heap.size (fun k_ => some k_ ≠ (v151 : Value).ownBlock ∧ some k_ ≠ (v154 : Value).ownBlock ∧ some k_ ≠ (v162 : Value).ownBlock ∧ some k_ ≠ ((.slice Ao24 x9_2.length co24) : Value).ownBlock) (.slice (some ad156) x37_2.length co11) x4_2) ∧ Aside0 (Kd.R (Kd.int .i64) 3 w' w.heap.size (fun k_ => some k_ ≠ ((.slice (some ad156) x37_2.length co11) : Value).ownBlock ∧ some k_ ≠ (v154 : Value).ownBlock ∧ some k_ ≠ (v162 : Value).ownBlock ∧ some k_ ≠ ((.slice (some ad156) x37_2.length co11) : Value).ownBlock ∧ some k_ ≠ ((.slice (some ad156) x37_2.length co11) : Value).ownBlock ∧ some k_ ≠ ((.slice Ao24 x9_2.length co24) : Value).ownBlock) v151 x5_2) ∧ Aside0 (Kd.R (Kd.int .i64) 3 w' w.heap.size (fun k_ => some k_ ≠ ((.slice (some ad156) x37_2.length co11) : Value).ownBlock ∧ some k_ ≠ (v151 : Value).ownBlock ∧ some k_ ≠ (v162 : Value).ownBlock ∧ some k_ ≠ ((.slice (some ad156) x37_2.length co11) : Value).ownBlock ∧ some k_ ≠ ((.slice (some ad156) x37_2.length co11) : Value).ownBlock ∧ some k_ ≠ ((.slice Ao24 x9_2.length co24) : Value).ownBlock) v154 x6_2) ∧ Aside0 (Kd.R (Kd.int .i64) 3 w' w.heap.size (fun k_ => some k_ ≠ ((.slice (some ad156) x37_2.length co11) : Value).ownBlock ∧ some k_ ≠ (v151 : Value).ownBlock ∧ some k_ ≠ (v154 : Value).ownBlock ∧ some k_ ≠ ((.slice (some ad156) x37_2.length co11) : Value).ownBlock ∧ some k_ ≠ ((.slice (some ad156) x37_2.length co11) : Value).ownBlock ∧ some k_ ≠ ((.slice Ao24 x9_2.length co24) : Value).ownBlock) v162 x13_3) ∧ Aside0 (Kd.R (Kd.int .i64) 3 w' w.heap.size (fun k_ => some k_ ≠ (v151 : Value).ownBlock ∧ some k_ ≠ (v154 : Value).ownBlock ∧ some k_ ≠ (v162 : Value).ownBlock ∧ some k_ ≠ ((.slice Ao24 x9_2.length co24) : Value).ownBlock) (.slice (some ad156) x37_2.length co11) x29_2) ∧ Aside0 (Kd.R (Kd.int .i64) 3 w' w.heap.size (fun k_ => some k_ ≠ (v151 : Value).ownBlock ∧ some k_ ≠ (v154 : Value).ownBlock ∧ some k_ ≠ (v162 : Value).ownBlock ∧ some k_ ≠ ((.slice Ao24 x9_2.length co24) : Value).ownBlock) (.slice (some ad156) x37_2.length co11) x37_2) ∧ Aside0 (Kd.R (Kd.int .i64) 3 w' w.heap.size (fun k_ => some k_ ≠ ((.slice (some ad156) x37_2.length co11) : Value).ownBlock ∧ some k_ ≠ (v151 : Value).ownBlock ∧ some k_ ≠ (v154 : Value).ownBlock ∧ some k_ ≠ (v162 : Value).ownBlock ∧ some k_ ≠ ((.slice (some ad156) x37_2.length co11) : Value).ownBlock ∧ some k_ ≠ ((.slice (some ad156) x37_2.length co11) : Value).ownBlock) (.slice Ao24 x9_2.length co24) x9_2) ∧ Aside0 (Below w.heap.size w w'))
                                  case atStart => exact ⟨(y161), (0), (by first | rfl | (simp; done) | (simp [*]; done)), H', ⟨Nat.le_refl _⟩, ⟨by (try simp only [hl4_1]); (try simp only [hl29_1]); (try simp only [hl4_2]); (try simp only [hl29_2]); (try simp only [hl37_2]); (with_reducible repeat (first | apply Kd.R_alloc | apply Kd.R_drewN | apply Kd.R_drew)); exact Kd.R_mono HO_4.out (fun _ hk => ⟨hk.1.1, ⟨hk.1.2.1, ⟨hk.2, hk.1.2.2⟩⟩⟩)⟩, ⟨by (try simp only [hl4_1]); (try simp only [hl29_1]); (try simp only [hl4_2]); (try simp only [hl29_2]); (try simp only [hl37_2]); (with_reducible repeat (first | apply Kd.R_alloc | apply Kd.R_drewN | apply Kd.R_drew)); exact Kd.R_mono HO_5.out (fun _ hk => ⟨hk.1.1, ⟨hk.1.2.1, ⟨hk.2, ⟨hk.1.2.2.2.1, ⟨hk.1.2.2.2.2, hk.1.2.2.1⟩⟩⟩⟩⟩)⟩, ⟨by (try simp only [hl4_1]); (try simp only [hl29_1]); (try simp only [hl4_2]); (try simp only [hl29_2]); (try simp only [hl37_2]); (with_reducible repeat (first | apply Kd.R_alloc | apply Kd.R_drewN | apply Kd.R_drew)); exact Kd.R_mono HO_6.out (fun _ hk => ⟨hk.1.1, ⟨hk.1.2.1, ⟨hk.2, ⟨hk.1.2.2.2.1, ⟨hk.1.2.2.2.2, hk.1.2.2.1⟩⟩⟩⟩⟩)⟩, ⟨by (try simp only [hl4_1]); (try simp only [hl29_1]); (try simp only [hl4_2]); (try simp only [hl29_2]); (try simp only [hl37_2]); (with_reducible repeat (first | apply Kd.R_alloc | apply Kd.R_drewN | apply Kd.R_drew)); exact Kd.R_mono HO163.out (fun _ hk => ⟨hk.1.1.1.1.1.2, ⟨hk.1.1.1.1.2, ⟨hk.1.1.1.2, ⟨hk.1.2, ⟨hk.2, hk.1.1.2⟩⟩⟩⟩⟩)⟩, ⟨by (try simp only [hl4_1]); (try simp only [hl29_1]); (try simp only [hl4_2]); (try simp only [hl29_2]); (try simp only [hl37_2]); (with_reducible repeat (first | apply Kd.R_alloc | apply Kd.R_drewN | apply Kd.R_drew)); exact Kd.R_mono HO_29.out (fun _ hk => ⟨hk.1.1, ⟨hk.1.2.1, ⟨hk.2, hk.1.2.2⟩⟩⟩)⟩, ⟨by (try simp only [hl4_1]); (try simp only [hl29_1]); (try simp only [hl4_2]); (try simp only [hl29_2]); (try simp only [hl37_2]); (with_reducible repeat (first | apply Kd.R_alloc | apply Kd.R_drewN | apply Kd.R_drew)); exact Kd.R_mono HO_37.out (fun _ hk => ⟨hk.1.1, ⟨hk.1.2.1, ⟨hk.2, hk.1.2.2⟩⟩⟩)⟩, ⟨by (try simp only [hl4_1]); (try simp only [hl29_1]); (try simp only [hl4_2]); (try simp only [hl29_2]); (try simp only [hl37_2]); (with_reducible repeat (first | apply Kd.R_alloc | apply Kd.R_drewN | apply Kd.R_drew)); exact Kd.R_mono HO_9.out (fun _ hk => ⟨hk.1.1, ⟨hk.1.2.1, ⟨hk.1.2.2.1, ⟨hk.2, ⟨hk.1.2.2.2.1, hk.1.2.2.2.2⟩⟩⟩⟩⟩)⟩, ⟨by repeat (first | (with_reducible first | exact HB.out | apply below_alloc | apply pw_below_drewN | apply below_drew1) | exact HB.out)⟩⟩
                                  case round =>
                                    clear H'
                                    try clear c1
                                    try clear p1
                                    try clear q1
                                    try clear hx1
                                    try clear c2
                                    try clear p2
                                    try clear c3
                                    try clear c5
                                    try clear c5b0
                                    try clear c5b1
                                    try clear c6
                                    try clear c6b0
                                    try clear c6b1
                                    try clear p6
                                    try clear c7
                                    try clear c11
                                    try clear c12
                                    try clear c12b0
                                    try clear c13
                                    try clear c13b0
                                    try clear c14
                                    try clear c14b0
                                    try clear p15
                                    try clear q15
                                    try clear hx15
                                    try clear p16
                                    try clear q16
                                    try clear hx16
                                    try clear c17
                                    try clear c17b0
                                    try clear c18
                                    try clear c18b0
                                    try clear c19
                                    try clear c19b0
                                    try clear c20
                                    try clear c20b0
                                    try clear c20b1
                                    try clear c22
                                    try clear c22b0
                                    try clear c22b1
                                    try clear c23
                                    try clear c23b0
                                    try clear c23b1
                                    try clear hx156_0
                                    try clear hx160_0
                                    try clear p1
                                    try clear p15
                                    try clear p156
                                    try clear p160
                                    try clear p2
                                    try clear q1
                                    try clear q15
                                    try clear q156
                                    try clear q160
                                    obtain ⟨x13_3, x53_3, rfl, HA, HK3, HO_4, HO_5, HO_6, HO_13, HO_29, HO_37, HO_51, HB⟩ := hrel
                                    cases gk with
                                    | zero => exact absurd HA.out (by simp [spec_PolyThrough.l2])
                                    | succ k3 =>
                                      have H := HA.out
                                      clear HA
                                      simp only [spec_PolyThrough.l2] at H
                                      by_cases c27 : x53_3 < (x9_2.length : Int)
                                      · rw [if_pos c27] at H
                                        have c27b0 : decide (x53_3 < (x9_2.length : Int)) = true := decide_eq_true c27
                                        clear c27
                                        by_cases c28 : 0 ≤ x53_3
                                        · rw [if_pos c28] at H
                                          have c28b0 : decide (0 ≤ x53_3) = true := decide_eq_true c28
                                          clear c28
                                          by_cases c29 : x53_3 < (x9_2.length : Int)
                                          · rw [if_pos c29] at H
                                            have c29b0 : decide (x53_3 < (x9_2.length : Int)) = true := decide_eq_true c29
                                            clear c29
                                            by_cases c30 : x53_3 < (x13_3.length : Int)
                                            · rw [if_pos c30] at H
                                              have c30b0 : decide (x53_3 < (x13_3.length : Int)) = true := decide_eq_true c30
                                              clear c30
                                              replace H := Option.bind_eq_some_iff.mp H
                                              obtain ⟨t166, A310, H⟩ := H
                                              replace H : ((some (x13_3.set (x53_3 : Int).toNat t166 : List Int)).bind fun y167 => (if 0 ≤ (wrap64 (x53_3 + 1)) then (if (wrap64 (x53_3 + 1)) < (x13_3.length : Int) then ((spec_l5Mod.f (wrap64 ((rd y167 (wrap64 (x53_3 + 1))) - (rd x9_2 x53_3)))).bind fun t169 => (spec_PolyThrough.l2 k3 x4_2 x5_2 x6_2 x31_1 (rd x29_1 x31_1) x10_2 (rd x37_2 x39_2) (y167.set ((wrap64 (x53_3 + 1)) : Int).toNat t169) x29_2 (t147.length : Int) x31_1 x37_2 (x4_1.length : Int) x39_2 x9_2 (x9_2.length : Int) (wrap64 (x53_3 + 1)))) else (none)) else (none))) = some (r1, r2) := H
                                              have A31 := Aside0.mk A310
                                              clear A310
                                              obtain ⟨y167, hy167⟩ : ∃ y_ : List Int, y_ = (x13_3.set (x53_3 : Int).toNat t166) := ⟨_, rfl⟩
                                              replace H : (if 0 ≤ (wrap64 (x53_3 + 1)) then (if (wrap64 (x53_3 + 1)) < (x13_3.length : Int) then ((spec_l5Mod.f (wrap64 ((rd y167 (wrap64 (x53_3 + 1))) - (rd x9_2 x53_3)))).bind fun t169 => (spec_PolyThrough.l2 k3 x4_2 x5_2 x6_2 x31_1 (rd x29_1 x31_1) x10_2 (rd x37_2 x39_2) (y167.set ((wrap64 (x53_3 + 1)) : Int).toNat t169) x29_2 (t147.length : Int) x31_1 x37_2 (x4_1.length : Int) x39_2 x9_2 (x9_2.length : Int) (wrap64 (x53_3 + 1)))) else (none)) else (none)) = some (r1, r2) := by first | (rw [hy167]; with_reducible exact H) | (have H2_ := (Option.bind_some _ _).symm.trans H; rw [hy167]; with_reducible exact H2_) | (have H2_ := (Option.bind_some _ _).symm.trans H; with_reducible exact H2_) | with_reducible exact H | (rw [hy167]; exact H) | exact H
                                              have Ny167 := Aside0.mk hy167
                                              clear hy167
                                              obtain ⟨ji33, hji33⟩ : ∃ j_ : Int, (wrap64 (x53_3 + 1)) = j_ := ⟨_, rfl⟩
                                              replace H : (if 0 ≤ (ji33) then (if (ji33) < (x13_3.length : Int) then ((spec_l5Mod.f (wrap64 ((rd y167 (ji33)) - (rd x9_2 x53_3)))).bind fun t169 => (spec_PolyThrough.l2 k3 x4_2 x5_2 x6_2 x31_1 (rd x29_1 x31_1) x10_2 (rd x37_2 x39_2) (y167.set ((ji33) : Int).toNat t169) x29_2 (t147.length : Int) x31_1 x37_2 (x4_1.length : Int) x39_2 x9_2 (x9_2.length : Int) ji33)) else (none)) else (none)) = some (r1, r2) := by first | (rw [hji33] at H; exact H) | (simp only [hji33] at H ⊢; exact H)
                                              (try rw [hji33] at A31)
                                              have hji33w : (IntKind.i64.wrap (x53_3 + 1)) = ji33 := (i64_w _).trans hji33
                                              by_cases c34 : 0 ≤ (ji33)
                                              · rw [if_pos c34] at H
                                                have c34b0 : decide (0 ≤ (ji33)) = true := decide_eq_true c34
                                                clear c34
                                                by_cases c35 : (ji33) < (x13_3.length : Int)
                                                · rw [if_pos c35] at H
                                                  have c35b0 : decide ((ji33) < (x13_3.length : Int)) = true := decide_eq_true c35
                                                  clear c35
                                                  replace H := Option.bind_eq_some_iff.mp H
                                                  obtain ⟨t169, A360, H⟩ := H
                                                  replace H : (spec_PolyThrough.l2 k3 x4_2 x5_2 x6_2 x31_1 (rd x29_1 x31_1) x10_2 (rd x37_2 x39_2) (y167.set ((ji33) : Int).toNat t169) x29_2 (t147.length : Int) x31_1 x37_2 (x4_1.length : Int) x39_2 x9_2 (x9_2.length : Int) ji33) = some (r1, r2) := H
                                                  have A36 := Aside0.mk A360
                                                  clear A360
                                                  obtain ⟨y170, hy170⟩ : ∃ y_ : List Int, y_ = (y167.set ((ji33) : Int).toNat t169) := ⟨_, rfl⟩
                                                  replace H : (spec_PolyThrough.l2 k3 x4_2 x5_2 x6_2 x31_1 (rd x29_1 x31_1) x10_2 (rd x37_2 x39_2) y170 x29_2 (t147.length : Int) x31_1 x37_2 (x4_1.length : Int) x39_2 x9_2 (x9_2.length : Int) ji33) = some (r1, r2) := by first | (rw [hy170]; with_reducible exact H) | (have H2_ := (Option.bind_some _ _).symm.trans H; rw [hy170]; with_reducible exact H2_) | (have H2_ := (Option.bind_some _ _).symm.trans H; with_reducible exact H2_) | with_reducible exact H | (rw [hy170]; exact H) | exact H
                                                  have Ny170 := Aside0.mk hy170
                                                  clear hy170
                                                  have H' := Aside0.mk H
                                                  clear H
                                                  have p164 : 0 ≤ (x53_3 : Int) := of_decide_eq_true (by first | (with_reducible assumption) | assumption)
                                                  have q164 : x53_3 < (x9_2.length : Int) := of_decide_eq_true (by first | (with_reducible assumption) | assumption)
                                                  obtain ⟨ad164, e164, hx164_0⟩ := Kd.at_int (Kd.R_reads' HO_51.out).2.2 x53_3 p164 q164
                                                  cases e164
                                                  replace p164 := eq_true p164
                                                  replace q164 := eq_true q164
                                                  obtain ⟨Ao38, co38, eo38⟩ := Kd.R_slice HO_13.out
                                                  subst eo38
                                                  have p165 : 0 ≤ (x53_3 : Int) := of_decide_eq_true (by first | (with_reducible assumption) | assumption)
                                                  have q165 : x53_3 < (x13_3.length : Int) := of_decide_eq_true (by first | (with_reducible assumption) | assumption)
                                                  obtain ⟨ad165, e165, hx165_0⟩ := Kd.at_int (Kd.R_reads' HO_13.out).2.2 x53_3 p165 q165
                                                  cases e165
                                                  replace p165 := eq_true p165
                                                  replace q165 := eq_true q165
                                                  go_wp2_with (first | ((with_reducible refine gate_callee (f := 127) rfl ?_); refine goesL_ (some 68) rfl rfl Try.func127 (by kernel_rfl) rfl #[.int .i64 (wrap64 ((rd x13_3 x53_3) + (wrap64 ((rd x9_2 x53_3) * (rd x37_2 x39_2)))))] rfl (by (try simp only [List.map_toArray, List.map_cons, List.map_nil]); first | done | rfl | (simp only [List.length_drop, List.length_take]; rfl)) ?_; (with_reducible refine (spec_l5Mod.calls (wrap64 ((rd x13_3 x53_3) + (wrap64 ((rd x9_2 x53_3) * (rd x37_2 x39_2))))) t166 _ A31.out).mono ?_); rintro e w' ⟨rfl, ⟨nd, rfl⟩⟩; refine ⟨_, rfl, ?_⟩; (try (rw [drewN_self wr]; generalize hq_ : World.drewN wr _ = wr; have n0_ : Aside0 (Kd.R (Kd.int .i64) 3 wr w.heap.size (fun k_ => (some k_ ≠ (.slice (some ad156) x37_2.length co11 : Value).ownBlock ∧ (some k_ ≠ (v151 : Value).ownBlock ∧ (some k_ ≠ (v154 : Value).ownBlock ∧ (some k_ ≠ (.slice (some ad156) x37_2.length co11 : Value).ownBlock ∧ (some k_ ≠ (.slice (some ad156) x37_2.length co11 : Value).ownBlock ∧ some k_ ≠ (.slice (some ad164) x9_2.length co24 : Value).ownBlock)))))) (.slice (some ad165) x13_3.length co38) x13_3) := ⟨by rw [← hq_]; exact (by (with_reducible repeat (first | apply Kd.R_alloc | apply Kd.R_drewN | apply Kd.R_drew)); exact HO_13.out)⟩; have n1_ : Aside0 (Kd.R (Kd.int .i64) 3 wr w.heap.size (fun k_ => (some k_ ≠ (v151 : Value).ownBlock ∧ (some k_ ≠ (v154 : Value).ownBlock ∧ (some k_ ≠ (.slice (some ad165) x13_3.length co38 : Value).ownBlock ∧ some k_ ≠ (.slice (some ad164) x9_2.length co24 : Value).ownBlock)))) (.slice (some ad156) x37_2.length co11) x29_2) := ⟨by rw [← hq_]; exact (by (with_reducible repeat (first | apply Kd.R_alloc | apply Kd.R_drewN | apply Kd.R_drew)); exact HO_29.out)⟩; have n2_ : Aside0 (Kd.R (Kd.int .i64) 3 wr w.heap.size (fun k_ => (some k_ ≠ (v151 : Value).ownBlock ∧ (some k_ ≠ (v154 : Value).ownBlock ∧ (some k_ ≠ (.slice (some ad165) x13_3.length co38 : Value).ownBlock ∧ some k_ ≠ (.slice (some ad164) x9_2.length co24 : Value).ownBlock)))) (.slice (some ad156) x37_2.length co11) x37_2) := ⟨by rw [← hq_]; exact (by (with_reducible repeat (first | apply Kd.R_alloc | apply Kd.R_drewN | apply Kd.R_drew)); exact HO_37.out)⟩; have n3_ : Aside0 (Kd.R (Kd.int .i64) 3 wr w.heap.size (fun k_ => (some k_ ≠ (v151 : Value).ownBlock ∧ (some k_ ≠ (v154 : Value).ownBlock ∧ (some k_ ≠ (.slice (some ad165) x13_3.length co38 : Value).ownBlock ∧ some k_ ≠ (.slice (some ad164) x9_2.length co24 : Value).ownBlock)))) (.slice (some ad156) x37_2.length co11) x4_2) := ⟨by rw [← hq_]; exact (by (with_reducible repeat (first | apply Kd.R_alloc | apply Kd.R_drewN | apply Kd.R_drew)); exact HO_4.out)⟩; have n4_ : Aside0 (Kd.R (Kd.int .i64) 3 wr w.heap.size (fun k_ => (some k_ ≠ (.slice (some ad156) x37_2.length co11 : Value).ownBlock ∧ (some k_ ≠ (v154 : Value).ownBlock ∧ (some k_ ≠ (.slice (some ad165) x13_3.length co38 : Value).ownBlock ∧ (some k_ ≠ (.slice (some ad156) x37_2.length co11 : Value).ownBlock ∧ (some k_ ≠ (.slice (some ad156) x37_2.length co11 : Value).ownBlock ∧ some k_ ≠ (.slice (some ad164) x9_2.length co24 : Value).ownBlock)))))) v151 x5_2) := ⟨by rw [← hq_]; exact (by (with_reducible repeat (first | apply Kd.R_alloc | apply Kd.R_drewN | apply Kd.R_drew)); exact HO_5.out)⟩; have n5_ : Aside0 (Kd.R (Kd.int .i64) 3 wr w.heap.size (fun k_ => (some k_ ≠ (.slice (some ad156) x37_2.length co11 : Value).ownBlock ∧ (some k_ ≠ (v151 : Value).ownBlock ∧ (some k_ ≠ (v154 : Value).ownBlock ∧ (some k_ ≠ (.slice (some ad165) x13_3.length co38 : Value).ownBlock ∧ (some k_ ≠ (.slice (some ad156) x37_2.length co11 : Value).ownBlock ∧ some k_ ≠ (.slice (some ad156) x37_2.length co11 : Value).ownBlock)))))) (.slice (some ad164) x9_2.length co24) x9_2) := ⟨by rw [← hq_]; exact (by (with_reducible repeat (first | apply Kd.R_alloc | apply Kd.R_drewN | apply Kd.R_drew)); exact HO_51.out)⟩; have n6_ : Aside0 (Kd.R (Kd.int .i64) 3 wr w.heap.size (fun k_ => (some k_ ≠ (.slice (some ad156) x37_2.length co11 : Value).ownBlock ∧ (some k_ ≠ (v151 : Value).ownBlock ∧ (some k_ ≠ (.slice (some ad165) x13_3.length co38 : Value).ownBlock ∧ (some k_ ≠ (.slice (some ad156) x37_2.length co11 : Value).ownBlock ∧ (some k_ ≠ (.slice (some ad156) x37_2.length co11 : Value).ownBlock ∧ some k_ ≠ (.slice (some ad164) x9_2.length co24 : Value).ownBlock)))))) v154 x6_2) := ⟨by rw [← hq_]; exact (by (with_reducible repeat (first | apply Kd.R_alloc | apply Kd.R_drewN | apply Kd.R_drew)); exact HO_6.out)⟩; have n7_ : Aside0 (Below w.heap.size w wr) := ⟨by rw [← hq_]; exact (by repeat (first | (with_reducible first | exact HB.out | apply below_alloc | apply pw_below_drewN | apply below_drew1) | exact HB.out))⟩; clear HO_13 HO_29 HO_37 HO_4 HO_5 HO_51 HO_6 HB hq_; have HO_13 := n0_; have HO_29 := n1_; have HO_37 := n2_; have HO_4 := n3_; have HO_5 := n4_; have HO_51 := n5_; have HO_6 := n6_; have HB := n7_; clear n0_ n1_ n2_ n3_ n4_ n5_ n6_ n7_)); have p32 : 0 ≤ (x53_3 : Int) := of_decide_eq_true (by first | (with_reducible assumption) | assumption); have q32 : (x53_3 : Int) < ((x13_3.length : Int) : Int) := of_decide_eq_true (by first | (with_reducible assumption) | assumption); obtain ⟨go32, co32, eo32, gb32, gl32, cl32, HG32⟩ := Kd.R_form HO_13.out (by omega); (first | cases eo32 | (injection eo32 with ea_ en_ ec_; (first | subst ea_ | (injection ea_ with ea_; subst ea_)); subst ec_; clear en_)); have GB32 := Aside0.mk gb32; have GG32 := Aside0.mk HG32; clear gb32 gl32 HG32; (first | simp only [add_plain] at hx165_0 | skip); obtain ⟨hx32_0, hf32_0⟩ := Kd.R_celln 0 HO_13.out (x53_3 : Int) p32 q32; replace p32 := eq_true p32; replace q32 := eq_true q32; obtain ⟨hy39_, hz39_⟩ := Kd.R_celln 0 HO_13.out (x53_3 : Int) (of_decide_eq_true (by first | (with_reducible assumption) | assumption)) (of_decide_eq_true (by first | (with_reducible assumption) | assumption)); have HP39 := Kd.R_putg HO_13.out (x53_3 : Int) t166) | ((with_reducible refine gate_store (t := 3) (p := 69) rfl ?_); refine store_event (t := 3) (p := 69) (v := ?vo_w40) (w1 := (wr.setCell ⟨go32, (x53_3 : Int).toNat, none⟩ (.int .i64 t166))) ?hg ?ho ?hn ?hr ?_; (case ho => rfl); (case hg => rfl); (case hn => rfl); (case hr => first | (go_simp; done) | (go_simp; rfl)); intro w40 hw; have hg : wr.grownBy w40 (some go32) := (by rw [hw]; exact HP39.2); have hp_ : Kd.R (Kd.int .i64) 3 w40 w.heap.size (fun k_ => some k_ ≠ (.slice (some ad156) x37_2.length co11 : Value).ownBlock ∧ some k_ ≠ (v151 : Value).ownBlock ∧ some k_ ≠ (v154 : Value).ownBlock ∧ some k_ ≠ (.slice (some ad156) x37_2.length co11 : Value).ownBlock ∧ some k_ ≠ (.slice (some ad156) x37_2.length co11 : Value).ownBlock ∧ some k_ ≠ (.slice (some ad164) x9_2.length co24 : Value).ownBlock) (.slice (some ⟨go32, 0, none⟩) x13_3.length co38) y167 := (by rw [hw, Ny167.out]; exact HP39.1); clear HP39; have n0_ := Aside0.mk (Kd.R_after (v := (.slice (some ⟨go32, 0, none⟩) x13_3.length co38)) (v1 := (.slice (some ⟨go32, 0, none⟩) x13_3.length co38)) (ok := (fun k_ => some k_ ≠ (v151 : Value).ownBlock ∧ some k_ ≠ (v154 : Value).ownBlock ∧ some k_ ≠ (.slice (some ad164) x9_2.length co24 : Value).ownBlock)) (by (with_reducible repeat (first | apply Kd.R_alloc | apply Kd.R_drewN | apply Kd.R_drew)); exact Kd.R_mono HO_4.out (fun _ hk => ⟨⟨hk.1, ⟨hk.2.1, hk.2.2.2⟩⟩, hk.2.2.1⟩)) hg (.inl rfl)); have n1_ := Aside0.mk (Kd.R_after (v := (.slice (some ⟨go32, 0, none⟩) x13_3.length co38)) (v1 := (.slice (some ⟨go32, 0, none⟩) x13_3.length co38)) (ok := (fun k_ => some k_ ≠ (.slice (some ad156) x37_2.length co11 : Value).ownBlock ∧ some k_ ≠ (v154 : Value).ownBlock ∧ some k_ ≠ (.slice (some ad156) x37_2.length co11 : Value).ownBlock ∧ some k_ ≠ (.slice (some ad156) x37_2.length co11 : Value).ownBlock ∧ some k_ ≠ (.slice (some ad164) x9_2.length co24 : Value).ownBlock)) (by (with_reducible repeat (first | apply Kd.R_alloc | apply Kd.R_drewN | apply Kd.R_drew)); exact Kd.R_mono HO_5.out (fun _ hk => ⟨⟨hk.1, ⟨hk.2.1, ⟨hk.2.2.2.1, ⟨hk.2.2.2.2.1, hk.2.2.2.2.2⟩⟩⟩⟩, hk.2.2.1⟩)) hg (.inl rfl)); have n2_ := Aside0.mk (Kd.R_after (v := (.slice (some ⟨go32, 0, none⟩) x13_3.length co38)) (v1 := (.slice (some ⟨go32, 0, none⟩) x13_3.length co38)) (ok := (fun k_ => some k_ ≠ (.slice (some ad156) x37_2.length co11 : Value).ownBlock ∧ some k_ ≠ (v151 : Value).ownBlock ∧ some k_ ≠ (.slice (some ad156) x37_2.length co11 : Value).ownBlock ∧ some k_ ≠ (.slice (some ad156) x37_2.length co11 : Value).ownBlock ∧ some k_ ≠ (.slice (some ad164) x9_2.length co24 : Value).ownBlock)) (by (with_reducible repeat (first | apply Kd.R_alloc | apply Kd.R_drewN | apply Kd.R_drew)); exact Kd.R_mono HO_6.out (fun _ hk => ⟨⟨hk.1, ⟨hk.2.1, ⟨hk.2.2.2.1, ⟨hk.2.2.2.2.1, hk.2.2.2.2.2⟩⟩⟩⟩, hk.2.2.1⟩)) hg (.inl rfl)); have n3_ := Aside0.mk (hp_); have n4_ := Aside0.mk (Kd.R_after (v := (.slice (some ⟨go32, 0, none⟩) x13_3.length co38)) (v1 := (.slice (some ⟨go32, 0, none⟩) x13_3.length co38)) (ok := (fun k_ => some k_ ≠ (v151 : Value).ownBlock ∧ some k_ ≠ (v154 : Value).ownBlock ∧ some k_ ≠ (.slice (some ad164) x9_2.length co24 : Value).ownBlock)) (by (with_reducible repeat (first | apply Kd.R_alloc | apply Kd.R_drewN | apply Kd.R_drew)); exact Kd.R_mono HO_29.out (fun _ hk => ⟨⟨hk.1, ⟨hk.2.1, hk.2.2.2⟩⟩, hk.2.2.1⟩)) hg (.inl rfl)); have n5_ := Aside0.mk (Kd.R_after (v := (.slice (some ⟨go32, 0, none⟩) x13_3.length co38)) (v1 := (.slice (some ⟨go32, 0, none⟩) x13_3.length co38)) (ok := (fun k_ => some k_ ≠ (v151 : Value).ownBlock ∧ some k_ ≠ (v154 : Value).ownBlock ∧ some k_ ≠ (.slice (some ad164) x9_2.length co24 : Value).ownBlock)) (by (with_reducible repeat (first | apply Kd.R_alloc | apply Kd.R_drewN | apply Kd.R_drew)); exact Kd.R_mono HO_37.out (fun _ hk => ⟨⟨hk.1, ⟨hk.2.1, hk.2.2.2⟩⟩, hk.2.2.1⟩)) hg (.inl rfl)); have n6_ := Aside0.mk (Kd.R_after (v := (.slice (some ⟨go32, 0, none⟩) x13_3.length co38)) (v1 := (.slice (some ⟨go32, 0, none⟩) x13_3.length co38)) (ok := (fun k_ => some k_ ≠ (.slice (some ad156) x37_2.length co11 : Value).ownBlock ∧ some k_ ≠ (v151 : Value).ownBlock ∧ some k_ ≠ (v154 : Value).ownBlock ∧ some k_ ≠ (.slice (some ad156) x37_2.length co11 : Value).ownBlock ∧ some k_ ≠ (.slice (some ad156) x37_2.length co11 : Value).ownBlock)) (by (with_reducible repeat (first | apply Kd.R_alloc | apply Kd.R_drewN | apply Kd.R_drew)); exact Kd.R_mono HO_51.out (fun _ hk => ⟨⟨hk.1, ⟨hk.2.1, ⟨hk.2.2.1, ⟨hk.2.2.2.2.1, hk.2.2.2.2.2⟩⟩⟩⟩, hk.2.2.2.1⟩)) hg (.inl rfl)); have n7_ := Aside0.mk ((by rw [hw]; exact below_set (HB.out) GB32.out : Below w.heap.size w w40)); clear HO_4; clear HO_5; clear HO_6; clear HO_13; clear HO_29; clear HO_37; clear HO_51; clear HB; have HO_4 := n0_; have HO_5 := n1_; have HO_6 := n2_; have HO_13 := n3_; have HO_29 := n4_; have HO_37 := n5_; have HO_51 := n6_; have HB := n7_; clear n0_ n1_ n2_ n3_ n4_ n5_ n6_ n7_; clear hg hw hp_; have p168 : 0 ≤ ((ji33) : Int) := of_decide_eq_true (by first | (with_reducible assumption) | assumption); have q168 : (ji33) < (y167.length : Int) := (by have h_ : ((ji33) : Int) < ((x13_3.length : Int) : Int) := of_decide_eq_true (by first | (with_reducible assumption) | assumption); first | (have e_ := (Kd.R_reads' HO_13.out).1; omega) | simpa only [Ny167.out, List.length_set] using h_); have ql168 : (((ji33) : Int) < ((x13_3.length : Int) : Int)) = True := eq_true (of_decide_eq_true (by first | (with_reducible assumption) | assumption)); obtain ⟨ad168, e168, hx168_0⟩ := Kd.at_int (Kd.R_reads' HO_13.out).2.2 (ji33) p168 q168; obtain rfl : (⟨go32, 0, none⟩ : Addr) = ad168 := (by injection e168); (first | simp only [add_plain] at hx168_0 | simp only [add_at] at hx168_0 | simp only [Addr.add, Nat.zero_add] at hx168_0 | skip); replace p168 := eq_true p168; replace q168 := eq_true q168) | ((with_reducible refine gate_callee (f := 127) rfl ?_); refine goesL_ (some 80) rfl rfl Try.func127 (by kernel_rfl) rfl #[.int .i64 (wrap64 ((rd y167 (ji33)) - (rd x9_2 x53_3)))] rfl (by (try simp only [List.map_toArray, List.map_cons, List.map_nil]); first | done | (simp only [hji33]; rfl) | rfl | (simp only [List.length_drop, List.length_take]; rfl)) ?_; (with_reducible refine (spec_l5Mod.calls (wrap64 ((rd y167 (ji33)) - (rd x9_2 x53_3))) t169 _ A36.out).mono ?_); rintro e w' ⟨rfl, ⟨nd, rfl⟩⟩; refine ⟨_, rfl, ?_⟩; (try (rw [drewN_self w40]; generalize hq_ : World.drewN w40 _ = w40; have n0_ : Aside0 (Kd.R (Kd.int .i64) 3 w40 w.heap.size (fun k_ => (some k_ ≠ (.slice (some ad156) x37_2.length co11 : Value).ownBlock ∧ (some k_ ≠ (v151 : Value).ownBlock ∧ (some k_ ≠ (v154 : Value).ownBlock ∧ (some k_ ≠ (.slice (some ad156) x37_2.length co11 : Value).ownBlock ∧ (some k_ ≠ (.slice (some ad156) x37_2.length co11 : Value).ownBlock ∧ some k_ ≠ (.slice (some ad164) x9_2.length co24 : Value).ownBlock)))))) (.slice (some ⟨go32, 0, none⟩) x13_3.length co38) y167) := ⟨by rw [← hq_]; exact (by (with_reducible repeat (first | apply Kd.R_alloc | apply Kd.R_drewN | apply Kd.R_drew)); exact HO_13.out)⟩; have n1_ : Aside0 (Kd.R (Kd.int .i64) 3 w40 w.heap.size (fun k_ => ((some k_ ≠ (v151 : Value).ownBlock ∧ (some k_ ≠ (v154 : Value).ownBlock ∧ some k_ ≠ (.slice (some ad164) x9_2.length co24 : Value).ownBlock)) ∧ some k_ ≠ (.slice (some ⟨go32, 0, none⟩) x13_3.length co38 : Value).ownBlock)) (.slice (some ad156) x37_2.length co11) x29_2) := ⟨by rw [← hq_]; exact (by (with_reducible repeat (first | apply Kd.R_alloc | apply Kd.R_drewN | apply Kd.R_drew)); exact HO_29.out)⟩; have n2_ : Aside0 (Kd.R (Kd.int .i64) 3 w40 w.heap.size (fun k_ => ((some k_ ≠ (v151 : Value).ownBlock ∧ (some k_ ≠ (v154 : Value).ownBlock ∧ some k_ ≠ (.slice (some ad164) x9_2.length co24 : Value).ownBlock)) ∧ some k_ ≠ (.slice (some ⟨go32, 0, none⟩) x13_3.length co38 : Value).ownBlock)) (.slice (some ad156) x37_2.length co11) x37_2) := ⟨by rw [← hq_]; exact (by (with_reducible repeat (first | apply Kd.R_alloc | apply Kd.R_drewN | apply Kd.R_drew)); exact HO_37.out)⟩; have n3_ : Aside0 (Kd.R (Kd.int .i64) 3 w40 w.heap.size (fun k_ => ((some k_ ≠ (v151 : Value).ownBlock ∧ (some k_ ≠ (v154 : Value).ownBlock ∧ some k_ ≠ (.slice (some ad164) x9_2.length co24 : Value).ownBlock)) ∧ some k_ ≠ (.slice (some ⟨go32, 0, none⟩) x13_3.length co38 : Value).ownBlock)) (.slice (some ad156) x37_2.length co11) x4_2) := ⟨by rw [← hq_]; exact (by (with_reducible repeat (first | apply Kd.R_alloc | apply Kd.R_drewN | apply Kd.R_drew)); exact HO_4.out)⟩; have n4_ : Aside0 (Kd.R (Kd.int .i64) 3 w40 w.heap.size (fun k_ => ((some k_ ≠ (.slice (some ad156) x37_2.length co11 : Value).ownBlock ∧ (some k_ ≠ (v154 : Value).ownBlock ∧ (some k_ ≠ (.slice (some ad156) x37_2.length co11 : Value).ownBlock ∧ (some k_ ≠ (.slice (some ad156) x37_2.length co11 : Value).ownBlock ∧ some k_ ≠ (.slice (some ad164) x9_2.length co24 : Value).ownBlock)))) ∧ some k_ ≠ (.slice (some ⟨go32, 0, none⟩) x13_3.length co38 : Value).ownBlock)) v151 x5_2) := ⟨by rw [← hq_]; exact (by (with_reducible repeat (first | apply Kd.R_alloc | apply Kd.R_drewN | apply Kd.R_drew)); exact HO_5.out)⟩; have n5_ : Aside0 (Kd.R (Kd.int .i64) 3 w40 w.heap.size (fun k_ => ((some k_ ≠ (.slice (some ad156) x37_2.length co11 : Value).ownBlock ∧ (some k_ ≠ (v151 : Value).ownBlock ∧ (some k_ ≠ (v154 : Value).ownBlock ∧ (some k_ ≠ (.slice (some ad156) x37_2.length co11 : Value).ownBlock ∧ some k_ ≠ (.slice (some ad156) x37_2.length co11 : Value).ownBlock)))) ∧ some k_ ≠ (.slice (some ⟨go32, 0, none⟩) x13_3.length co38 : Value).ownBlock)) (.slice (some ad164) x9_2.length co24) x9_2) := ⟨by rw [← hq_]; exact (by (with_reducible repeat (first | apply Kd.R_alloc | apply Kd.R_drewN | apply Kd.R_drew)); exact HO_51.out)⟩; have n6_ : Aside0 (Kd.R (Kd.int .i64) 3 w40 w.heap.size (fun k_ => ((some k_ ≠ (.slice (some ad156) x37_2.length co11 : Value).ownBlock ∧ (some k_ ≠ (v151 : Value).ownBlock ∧ (some k_ ≠ (.slice (some ad156) x37_2.length co11 : Value).ownBlock ∧ (some k_ ≠ (.slice (some ad156) x37_2.length co11 : Value).ownBlock ∧ some k_ ≠ (.slice (some ad164) x9_2.length co24 : Value).ownBlock)))) ∧ some k_ ≠ (.slice (some ⟨go32, 0, none⟩) x13_3.length co38 : Value).ownBlock)) v154 x6_2) := ⟨by rw [← hq_]; exact (by (with_reducible repeat (first | apply Kd.R_alloc | apply Kd.R_drewN | apply Kd.R_drew)); exact HO_6.out)⟩; have n7_ : Aside0 (Below w.heap.size w w40) := ⟨by rw [← hq_]; exact (by repeat (first | (with_reducible first | exact HB.out | apply below_alloc | apply pw_below_drewN | apply below_drew1) | exact HB.out))⟩; clear HO_13 HO_29 HO_37 HO_4 HO_5 HO_51 HO_6 HB hq_; have HO_13 := n0_; have HO_29 := n1_; have HO_37 := n2_; have HO_4 := n3_; have HO_5 := n4_; have HO_51 := n5_; have HO_6 := n6_; have HB := n7_; clear n0_ n1_ n2_ n3_ n4_ n5_ n6_ n7_)); have p37 : 0 ≤ ((ji33) : Int) := of_decide_eq_true (by first | (with_reducible assumption) | assumption); have q37 : ((ji33) : Int) < ((x13_3.length : Int) : Int) := of_decide_eq_true (by first | (with_reducible assumption) | assumption); obtain ⟨hx37_0, hf37_0⟩ := Kd.R_celln 0 HO_13.out ((ji33) : Int) p37 q37; replace p37 := eq_true p37; replace q37 := eq_true q37; obtain ⟨hy41_, hz41_⟩ := Kd.R_celln 0 HO_13.out ((ji33) : Int) (of_decide_eq_true (by first | (with_reducible assumption) | assumption)) (of_decide_eq_true (by first | (with_reducible assumption) | assumption)); have HP41 := Kd.R_putg HO_13.out ((ji33) : Int) t169) | ((with_reducible refine gate_store (t := 3) (p := 81) rfl ?_); refine store_event (t := 3) (p := 81) (v := ?vo_w42) (w1 := (w40.setCell ⟨go32, ((ji33) : Int).toNat, none⟩ (.int .i64 t169))) ?hg ?ho ?hn ?hr ?_; (case ho => rfl); (case hg => rfl); (case hn => rfl); (case hr => first | (go_simp; done) | (go_simp; rfl)); intro w42 hw; have hg : w40.grownBy w42 (some go32) := (by rw [hw]; exact HP41.2); have hp_ : Kd.R (Kd.int .i64) 3 w42 w.heap.size (fun k_ => some k_ ≠ (.slice (some ad156) x37_2.length co11 : Value).ownBlock ∧ some k_ ≠ (v151 : Value).ownBlock ∧ some k_ ≠ (v154 : Value).ownBlock ∧ some k_ ≠ (.slice (some ad156) x37_2.length co11 : Value).ownBlock ∧ some k_ ≠ (.slice (some ad156) x37_2.length co11 : Value).ownBlock ∧ some k_ ≠ (.slice (some ad164) x9_2.length co24 : Value).ownBlock) (.slice (some ⟨go32, 0, none⟩) x13_3.length co38) y170 := (by rw [hw, Ny170.out]; exact HP41.1); clear HP41; have n0_ := Aside0.mk (Kd.R_after (v := (.slice (some ⟨go32, 0, none⟩) x13_3.length co38)) (v1 := (.slice (some ⟨go32, 0, none⟩) x13_3.length co38)) (ok := (fun k_ => some k_ ≠ (v151 : Value).ownBlock ∧ some k_ ≠ (v154 : Value).ownBlock ∧ some k_ ≠ (.slice (some ad164) x9_2.length co24 : Value).ownBlock)) (by (with_reducible repeat (first | apply Kd.R_alloc | apply Kd.R_drewN | apply Kd.R_drew)); exact HO_4.out) hg (.inl rfl)); have n1_ := Aside0.mk (Kd.R_after (v := (.slice (some ⟨go32, 0, none⟩) x13_3.length co38)) (v1 := (.slice (some ⟨go32, 0, none⟩) x13_3.length co38)) (ok := (fun k_ => some k_ ≠ (.slice (some ad156) x37_2.length co11 : Value).ownBlock ∧ some k_ ≠ (v154 : Value).ownBlock ∧ some k_ ≠ (.slice (some ad156) x37_2.length co11 : Value).ownBlock ∧ some k_ ≠ (.slice (some ad156) x37_2.length co11 : Value).ownBlock ∧ some k_ ≠ (.slice (some ad164) x9_2.length co24 : Value).ownBlock)) (by (with_reducible repeat (first | apply Kd.R_alloc | apply Kd.R_drewN | apply Kd.R_drew)); exact HO_5.out) hg (.inl rfl)); have n2_ := Aside0.mk (Kd.R_after (v := (.slice (some ⟨go32, 0, none⟩) x13_3.length co38)) (v1 := (.slice (some ⟨go32, 0, none⟩) x13_3.length co38)) (ok := (fun k_ => some k_ ≠ (.slice (some ad156) x37_2.length co11 : Value).ownBlock ∧ some k_ ≠ (v151 : Value).ownBlock ∧ some k_ ≠ (.slice (some ad156) x37_2.length co11 : Value).ownBlock ∧ some k_ ≠ (.slice (some ad156) x37_2.length co11 : Value).ownBlock ∧ some k_ ≠ (.slice (some ad164) x9_2.length co24 : Value).ownBlock)) (by (with_reducible repeat (first | apply Kd.R_alloc | apply Kd.R_drewN | apply Kd.R_drew)); exact HO_6.out) hg (.inl rfl)); have n3_ := Aside0.mk (hp_); have n4_ := Aside0.mk (Kd.R_after (v := (.slice (some ⟨go32, 0, none⟩) x13_3.length co38)) (v1 := (.slice (some ⟨go32, 0, none⟩) x13_3.length co38)) (ok := (fun k_ => some k_ ≠ (v151 : Value).ownBlock ∧ some k_ ≠ (v154 : Value).ownBlock ∧ some k_ ≠ (.slice (some ad164) x9_2.length co24 : Value).ownBlock)) (by (with_reducible repeat (first | apply Kd.R_alloc | apply Kd.R_drewN | apply Kd.R_drew)); exact HO_29.out) hg (.inl rfl)); have n5_ := Aside0.mk (Kd.R_after (v := (.slice (some ⟨go32, 0, none⟩) x13_3.length co38)) (v1 := (.slice (some ⟨go32, 0, none⟩) x13_3.length co38)) (ok := (fun k_ => some k_ ≠ (v151 : Value).ownBlock ∧ some k_ ≠ (v154 : Value).ownBlock ∧ some k_ ≠ (.slice (some ad164) x9_2.length co24 : Value).ownBlock)) (by (with_reducible repeat (first | apply Kd.R_alloc | apply Kd.R_drewN | apply Kd.R_drew)); exact HO_37.out) hg (.inl rfl)); have n6_ := Aside0.mk (Kd.R_after (v := (.slice (some ⟨go32, 0, none⟩) x13_3.length co38)) (v1 := (.slice (some ⟨go32, 0, none⟩) x13_3.length co38)) (ok := (fun k_ => some k_ ≠ (.slice (some ad156) x37_2.length co11 : Value).ownBlock ∧ some k_ ≠ (v151 : Value).ownBlock ∧ some k_ ≠ (v154 : Value).ownBlock ∧ some k_ ≠ (.slice (some ad156) x37_2.length co11 : Value).ownBlock ∧ some k_ ≠ (.slice (some ad156) x37_2.length co11 : Value).ownBlock)) (by (with_reducible repeat (first | apply Kd.R_alloc | apply Kd.R_drewN | apply Kd.R_drew)); exact HO_51.out) hg (.inl rfl)); have n7_ := Aside0.mk ((by rw [hw]; exact below_set (HB.out) GB32.out : Below w.heap.size w w42)); clear HO_4; clear HO_5; clear HO_6; clear HO_13; clear HO_29; clear HO_37; clear HO_51; clear HB; have HO_4 := n0_; have HO_5 := n1_; have HO_6 := n2_; have HO_13 := n3_; have HO_29 := n4_; have HO_37 := n5_; have HO_51 := n6_; have HB := n7_; clear n0_ n1_ n2_ n3_ n4_ n5_ n6_ n7_; clear hg hw hp_))
                                                  go_roundg k3
                                                  case measure => have := HK1.out; have := HK2.out; have := HK3.out; omega
                                                  case rel => exact ⟨(y170), (ji33), (by first | rfl | (simp; done) | (simp only [← hji33] <;> (first | rfl | simp)) | (simp [*]; done)), H', ⟨by have := HK1.out; have := HK2.out; have := HK3.out; omega⟩, ⟨by (try simp only [hl4_1]); (try simp only [hl29_1]); (try simp only [hl4_2]); (try simp only [hl29_2]); (try simp only [hl37_2]); (with_reducible repeat (first | apply Kd.R_alloc | apply Kd.R_drewN | apply Kd.R_drew)); exact Kd.R_mono HO_4.out (fun _ hk => ⟨hk.1.1, ⟨hk.1.2.1, ⟨hk.2, hk.1.2.2⟩⟩⟩)⟩, ⟨by (try simp only [hl4_1]); (try simp only [hl29_1]); (try simp only [hl4_2]); (try simp only [hl29_2]); (try simp only [hl37_2]); (with_reducible repeat (first | apply Kd.R_alloc | apply Kd.R_drewN | apply Kd.R_drew)); exact Kd.R_mono HO_5.out (fun _ hk => ⟨hk.1.1, ⟨hk.1.2.1, ⟨hk.2, ⟨hk.1.2.2.1, ⟨hk.1.2.2.2.1, hk.1.2.2.2.2⟩⟩⟩⟩⟩)⟩, ⟨by (try simp only [hl4_1]); (try simp only [hl29_1]); (try simp only [hl4_2]); (try simp only [hl29_2]); (try simp only [hl37_2]); (with_reducible repeat (first | apply Kd.R_alloc | apply Kd.R_drewN | apply Kd.R_drew)); exact Kd.R_mono HO_6.out (fun _ hk => ⟨hk.1.1, ⟨hk.1.2.1, ⟨hk.2, ⟨hk.1.2.2.1, ⟨hk.1.2.2.2.1, hk.1.2.2.2.2⟩⟩⟩⟩⟩)⟩, ⟨by (try simp only [hl4_1]); (try simp only [hl29_1]); (try simp only [hl4_2]); (try simp only [hl29_2]); (try simp only [hl37_2]); (with_reducible repeat (first | apply Kd.R_alloc | apply Kd.R_drewN | apply Kd.R_drew)); exact HO_13.out⟩, ⟨by (try simp only [hl4_1]); (try simp only [hl29_1]); (try simp only [hl4_2]); (try simp only [hl29_2]); (try simp only [hl37_2]); (with_reducible repeat (first | apply Kd.R_alloc | apply Kd.R_drewN | apply Kd.R_drew)); exact Kd.R_mono HO_29.out (fun _ hk => ⟨hk.1.1, ⟨hk.1.2.1, ⟨hk.2, hk.1.2.2⟩⟩⟩)⟩, ⟨by (try simp only [hl4_1]); (try simp only [hl29_1]); (try simp only [hl4_2]); (try simp only [hl29_2]); (try simp only [hl37_2]); (with_reducible repeat (first | apply Kd.R_alloc | apply Kd.R_drewN | apply Kd.R_drew)); exact Kd.R_mono HO_37.out (fun _ hk => ⟨hk.1.1, ⟨hk.1.2.1, ⟨hk.2, hk.1.2.2⟩⟩⟩)⟩, ⟨by (try simp only [hl4_1]); (try simp only [hl29_1]); (try simp only [hl4_2]); (try simp only [hl29_2]); (try simp only [hl37_2]); (with_reducible repeat (first | apply Kd.R_alloc | apply Kd.R_drewN | apply Kd.R_drew)); exact Kd.R_mono HO_51.out (fun _ hk => ⟨hk.1.1, ⟨hk.1.2.1, ⟨hk.1.2.2.1, ⟨hk.2, ⟨hk.1.2.2.2.1, hk.1.2.2.2.2⟩⟩⟩⟩⟩)⟩, ⟨by repeat (first | (with_reducible first | exact HB.out | apply below_alloc | apply pw_below_drewN | apply below_drew1) | exact HB.out)⟩⟩
                                                · rw [if_neg c35] at H
                                                  exact absurd H (by simp)
                                              · rw [if_neg c34] at H
                                                exact absurd H (by simp)
                                            · rw [if_neg c30] at H
                                              exact absurd H (by simp)
                                          · rw [if_neg c29] at H
                                            exact absurd H (by simp)
                                        · rw [if_neg c28] at H
                                          exact absurd H (by simp)
                                      · rw [if_neg c27] at H
                                        have c27b0 : decide (x53_3 < (x9_2.length : Int)) = false := decide_eq_false c27
                                        have c27z := c27b0
                                        (try simp only [hl4_1] at c27z)
                                        (try simp only [hl29_1] at c27z)
                                        (try simp only [hl4_2] at c27z)
                                        (try simp only [hl29_2] at c27z)
                                        (try simp only [hl37_2] at c27z)
                                        clear c27
                                        replace H := Option.bind_eq_some_iff.mp H
                                        obtain ⟨t171, A430, H⟩ := H
                                        replace H : (spec_PolyThrough.l1 k3 x4_2 x5_2 x6_2 x31_1 (rd x29_1 x31_1) x13_3 (Int.tmod (wrap64 (x10_2 * t171)) 1499) x29_2 (t147.length : Int) x31_1 x37_2 (x4_1.length : Int) (wrap64 (x39_2 + 1))) = some (r1, r2) := H
                                        have A43 := Aside0.mk A430
                                        clear A430
                                        have H' := Aside0.mk H
                                        clear H
                                        go_wp2_with (first | ((with_reducible refine gate_callee (f := 127) rfl ?_); refine goesL_ (some 88) rfl rfl Try.func127 (by kernel_rfl) rfl #[.int .i64 (wrap64 ((rd x37_2 x39_2) - (rd x29_1 x31_1)))] rfl (by (try simp only [List.map_toArray, List.map_cons, List.map_nil]); first | done | rfl | (simp only [List.length_drop, List.length_take]; rfl)) ?_; (with_reducible refine (spec_l5Mod.calls (wrap64 ((rd x37_2 x39_2) - (rd x29_1 x31_1))) t171 _ A43.out).mono ?_); rintro e w' ⟨rfl, ⟨nd, rfl⟩⟩; refine ⟨_, rfl, ?_⟩))
                                        (try simp only [← hl4_2, ← hl29_2, ← hl37_2])
                                        go_roundg k3
                                        case measure => have := HK1.out; have := HK2.out; have := HK3.out; omega
                                        case rel => exact ⟨(x4_2), (x5_2), (x6_2), (x13_3), (Int.tmod (wrap64 (x10_2 * t171)) 1499), (x29_2), (x37_2), (wrap64 (x39_2 + 1)), (by first | rfl | (simp; done) | (simp [*]; done)), (by first | rfl | (simp; done) | (simp [*]; done)), H', ⟨by have := HK1.out; have := HK2.out; have := HK3.out; omega⟩, ⟨by (try simp only [hl4_1]); (try simp only [hl29_1]); (try simp only [hl4_2]); (try simp only [hl29_2]); (try simp only [hl37_2]); (with_reducible repeat (first | apply Kd.R_alloc | apply Kd.R_drewN | apply Kd.R_drew)); exact Kd.R_mono HO_4.out (fun _ hk => ⟨hk.1, ⟨hk.2.1, hk.2.2.1⟩⟩)⟩, ⟨by (try simp only [hl4_1]); (try simp only [hl29_1]); (try simp only [hl4_2]); (try simp only [hl29_2]); (try simp only [hl37_2]); (with_reducible repeat (first | apply Kd.R_alloc | apply Kd.R_drewN | apply Kd.R_drew)); exact Kd.R_mono HO_5.out (fun _ hk => ⟨hk.1, ⟨hk.2.1, ⟨hk.2.2.1, ⟨hk.2.2.2.1, hk.2.2.2.2.1⟩⟩⟩⟩)⟩, ⟨by (try simp only [hl4_1]); (try simp only [hl29_1]); (try simp only [hl4_2]); (try simp only [hl29_2]); (try simp only [hl37_2]); (with_reducible repeat (first | apply Kd.R_alloc | apply Kd.R_drewN | apply Kd.R_drew)); exact Kd.R_mono HO_6.out (fun _ hk => ⟨hk.1, ⟨hk.2.1, ⟨hk.2.2.1, ⟨hk.2.2.2.1, hk.2.2.2.2.1⟩⟩⟩⟩)⟩, ⟨by (try simp only [hl4_1]); (try simp only [hl29_1]); (try simp only [hl4_2]); (try simp only [hl29_2]); (try simp only [hl37_2]); (with_reducible repeat (first | apply Kd.R_alloc | apply Kd.R_drewN | apply Kd.R_drew)); exact Kd.R_mono HO_13.out (fun _ hk => ⟨hk.1, ⟨hk.2.1, ⟨hk.2.2.1, ⟨hk.2.2.2.1, hk.2.2.2.2.1⟩⟩⟩⟩)⟩, ⟨by (try simp only [hl4_1]); (try simp only [hl29_1]); (try simp only [hl4_2]); (try simp only [hl29_2]); (try simp only [hl37_2]); (with_reducible repeat (first | apply Kd.R_alloc | apply Kd.R_drewN | apply Kd.R_drew)); exact Kd.R_mono HO_29.out (fun _ hk => ⟨hk.1, ⟨hk.2.1, hk.2.2.1⟩⟩)⟩, ⟨by (try simp only [hl4_1]); (try simp only [hl29_1]); (try simp only [hl4_2]); (try simp only [hl29_2]); (try simp only [hl37_2]); (with_reducible repeat (first | apply Kd.R_alloc | apply Kd.R_drewN | apply Kd.R_drew)); exact Kd.R_mono HO_37.out (fun _ hk => ⟨hk.1, ⟨hk.2.1, hk.2.2.1⟩⟩)⟩, ⟨by repeat (first | (with_reducible first | exact HB.out | apply below_alloc | apply pw_below_drewN | apply below_drew1) | exact HB.out)⟩⟩
                                · rw [if_neg c23] at H
                                  exact absurd H (by simp)
                              · rw [if_neg c22] at H
                                exact absurd H (by simp)
                          · rw [if_neg c19] at H
                            exact absurd H (by simp)
                        · rw [if_neg c18] at H
                          exact absurd H (by simp)
                      · rw [if_neg c17] at H
                        have c17b0 : decide (x39_2 < (x4_1.length : Int)) = false := decide_eq_false c17
                        have c17z := c17b0
                        (try simp only [hl4_1] at c17z)
                        (try simp only [hl29_1] at c17z)
                        (try simp only [hl4_2] at c17z)
                        (try simp only [hl29_2] at c17z)
                        (try simp only [hl37_2] at c17z)
                        clear c17
                        have H' := Aside0.mk H
                        clear H
                        obtain ⟨Ao44, co44, eo44⟩ := Kd.R_slice HO_9.out
                        subst eo44
                        go_wp2
                        go_loopg [94] k2 (fun kq v94 w' => ∃ (x6_3 : List Int) (x94_3 : Int), v94 = .int .i64 x94_3 ∧ Aside0 (spec_PolyThrough.l3 kq x4_2 x5_2 x6_3 x31_1 x10_2 x29_2 (t147.length : Int) x31_1 x9_2 (x9_2.length : Int) x94_3 = some (r1, r2)) ∧ Aside0 (kq ≤ k2) ∧ Aside0 (Kd.R (Kd.int .i64) 3 w' w.heap.size (fun k_ => some k_ ≠ (v151 : Value).ownBlock ∧ some k_ ≠ (v154 : Value).ownBlock ∧ some k_ ≠ ((.slice Ao44 x9_2.length co44) : Value).ownBlock) (.slice (some ad156) x37_2.length co11) x4_2) ∧ Aside0 (Kd.R (Kd.int .i64) 3 w' w.heap.size (fun k_ => some k_ ≠ ((.slice (some ad156) x37_2.length co11) : Value).ownBlock ∧ some k_ ≠ (v154 : Value).ownBlock ∧ some k_ ≠ ((.slice (some ad156) x37_2.length co11) : Value).ownBlock ∧ some k_ ≠ ((.slice Ao44 x9_2.length co44) : Value).ownBlock) v151 x5_2) ∧ Aside0 (Kd.R (Kd.int .i64) 3 w' w.heap.size (fun k_ => some k_ ≠ ((.slice (some ad156) x37_2.length co11) : Value).ownBlock ∧ some k_ ≠ (v151 : Value).ownBlock ∧ some k_ ≠ ((.slice (some ad156) x37_2.length co11) : Value).ownBlock ∧ some k_ ≠ ((.slice Ao44 x9_2.length co44) : Value).ownBlock) v154 x6_3) ∧ Aside0 (Kd.R (Kd.int .i64) 3 w' w.heap.size (fun k_ => some k_ ≠ (v151 : Value).ownBlock ∧ some k_ ≠ (v154 : Value).ownBlock ∧ some k_ ≠ ((.slice Ao44 x9_2.length co44) : Value).ownBlock) (.slice (some ad156) x37_2.length co11) x29_2) ∧ Aside0 (Kd.R (Kd.int .i64) 3 w' w.heap.size (fun k_ => some k_ ≠ ((.slice (some ad156) x37_2.length co11) : Value).ownBlock ∧ some k_ ≠ (v151 : Value).ownBlock ∧ some k_ ≠ (v154 : Value).ownBlock ∧ some k_ ≠ ((.slice (some ad156) x37_2.length co11) : Value).ownBlock) (.slice Ao44 x9_2.length co44) x9_2) ∧ Aside0 (Below w.heap.size w w'))
                        case atStart => exact ⟨(x6_2), (0), (by first | rfl | (simp; done) | (simp [*]; done)), H', ⟨Nat.le_refl _⟩, ⟨by (try simp only [hl4_1]); (try simp only [hl29_1]); (try simp only [hl4_2]); (try simp only [hl29_2]); (try simp only [hl37_2]); (with_reducible repeat (first | apply Kd.R_alloc | apply Kd.R_drewN | apply Kd.R_drew)); exact HO_4.out⟩, ⟨by (try simp only [hl4_1]); (try simp only [hl29_1]); (try simp only [hl4_2]); (try simp only [hl29_2]); (try simp only [hl37_2]); (with_reducible repeat (first | apply Kd.R_alloc | apply Kd.R_drewN | apply Kd.R_drew)); exact Kd.R_mono HO_5.out (fun _ hk => ⟨hk.1, ⟨hk.2.1, ⟨hk.2.2.2.1, hk.2.2.1⟩⟩⟩)⟩, ⟨by (try simp only [hl4_1]); (try simp only [hl29_1]); (try simp only [hl4_2]); (try simp only [hl29_2]); (try simp only [hl37_2]); (with_reducible repeat (first | apply Kd.R_alloc | apply Kd.R_drewN | apply Kd.R_drew)); exact Kd.R_mono HO_6.out (fun _ hk => ⟨hk.1, ⟨hk.2.1, ⟨hk.2.2.2.1, hk.2.2.1⟩⟩⟩)⟩, ⟨by (try simp only [hl4_1]); (try simp only [hl29_1]); (try simp only [hl4_2]); (try simp only [hl29_2]); (try simp only [hl37_2]); (with_reducible repeat (first | apply Kd.R_alloc | apply Kd.R_drewN | apply Kd.R_drew)); exact HO_29.out⟩, ⟨by (try simp only [hl4_1]); (try simp only [hl29_1]); (try simp only [hl4_2]); (try simp only [hl29_2]); (try simp only [hl37_2]); (with_reducible repeat (first | apply Kd.R_alloc | apply Kd.R_drewN | apply Kd.R_drew)); exact Kd.R_mono HO_9.out (fun _ hk => ⟨hk.1, ⟨hk.2.1, ⟨hk.2.2.1, hk.2.2.2.1⟩⟩⟩)⟩, ⟨by repeat (first | (with_reducible first | exact HB.out | apply below_alloc | apply pw_below_drewN | apply below_drew1) | exact HB.out)⟩⟩
                        case round =>
                          clear H'
                          try clear c1
                          try clear p1
                          try clear q1
                          try clear hx1
                          try clear c2
                          try clear p2
                          try clear c3
                          try clear p3
                          try clear q3
                          try clear hx3
                          try clear hf3
                          try clear c5
                          try clear c5b0
                          try clear c5b1
                          try clear c6
                          try clear c6b0
                          try clear c6b1
                          try clear p6
                          try clear c7
                          try clear c11
                          try clear c12
                          try clear c12b0
                          try clear c13
                          try clear c13b0
                          try clear c14
                          try clear c14b0
                          try clear p15
                          try clear q15
                          try clear hx15
                          try clear p16
                          try clear q16
                          try clear hx16
                          try clear c17
                          try clear c17b0
                          try clear c18
                          try clear c18b0
                          try clear c19
                          try clear c19b0
                          try clear c20
                          try clear c20b0
                          try clear c20b1
                          try clear c22
                          try clear c22b0
                          try clear c22b1
                          try clear c23
                          try clear c23b0
                          try clear c23b1
                          try clear c27
                          try clear c27b0
                          try clear c28
                          try clear c28b0
                          try clear c29
                          try clear c29b0
                          try clear c30
                          try clear c30b0
                          try clear p32
                          try clear q32
                          try clear hx32
                          try clear hf32
                          try clear c34
                          try clear c34b0
                          try clear c35
                          try clear c35b0
                          try clear p37
                          try clear q37
                          try clear hx37
                          try clear hf37
                          try clear hx156_0
                          try clear hx160_0
                          try clear hx164_0
                          try clear hx165_0
                          try clear hx168_0
                          try clear hx32_0
                          try clear hx37_0
                          try clear p1
                          try clear p15
                          try clear p156
                          try clear p16
                          try clear p160
                          try clear p164
                          try clear p165
                          try clear p168
                          try clear p2
                          try clear p32
                          try clear p37
                          try clear p6
                          try clear q1
                          try clear q15
                          try clear q156
                          try clear q16
                          try clear q160
                          try clear q164
                          try clear q165
                          try clear q168
                          try clear q32
                          try clear q37
                          obtain ⟨x6_3, x94_3, rfl, HA, HK3, HO_4, HO_5, HO_6, HO_29, HO_92, HB⟩ := hrel
                          cases gk with
                          | zero => exact absurd HA.out (by simp [spec_PolyThrough.l3])
                          | succ k3 =>
                            have H := HA.out
                            clear HA
                            simp only [spec_PolyThrough.l3] at H
                            by_cases c45 : x94_3 < (x9_2.length : Int)
                            · rw [if_pos c45] at H
                              have c45b0 : decide (x94_3 < (x9_2.length : Int)) = true := decide_eq_true c45
                              clear c45
                              by_cases c46 : 0 ≤ x94_3
                              · rw [if_pos c46] at H
                                have c46b0 : decide (0 ≤ x94_3) = true := decide_eq_true c46
                                clear c46
                                by_cases c47 : x94_3 < (x9_2.length : Int)
                                · rw [if_pos c47] at H
                                  have c47b0 : decide (x94_3 < (x9_2.length : Int)) = true := decide_eq_true c47
                                  clear c47
                                  by_cases c48 : x94_3 < (x6_3.length : Int)
                                  · rw [if_pos c48] at H
                                    have c48b0 : decide (x94_3 < (x6_3.length : Int)) = true := decide_eq_true c48
                                    clear c48
                                    by_cases c49 : 0 ≤ x31_1
                                    · rw [if_pos c49] at H
                                      have c49b0 : decide (0 ≤ x31_1) = true := decide_eq_true c49
                                      clear c49
                                      by_cases c50 : x31_1 < (x5_2.length : Int)
                                      · rw [if_pos c50] at H
                                        have c50b0 : decide (x31_1 < (x5_2.length : Int)) = true := decide_eq_true c50
                                        clear c50
                                        replace H := Option.bind_eq_some_iff.mp H
                                        obtain ⟨t175, A510, H⟩ := H
                                        replace H : (spec_PolyThrough.l3 k3 x4_2 x5_2 (x6_3.set (x94_3 : Int).toNat (Int.tmod (wrap64 ((rd x6_3 x94_3) + (wrap64 ((Int.tmod (wrap64 ((rd x9_2 x94_3) * (rd x5_2 x31_1))) 1499) * t175)))) 1499)) x31_1 x10_2 x29_2 (t147.length : Int) x31_1 x9_2 (x9_2.length : Int) (wrap64 (x94_3 + 1))) = some (r1, r2) := H
                                        have A51 := Aside0.mk A510
                                        clear A510
                                        obtain ⟨y176, hy176⟩ : ∃ y_ : List Int, y_ = (x6_3.set (x94_3 : Int).toNat (Int.tmod (wrap64 ((rd x6_3 x94_3) + (wrap64 ((Int.tmod (wrap64 ((rd x9_2 x94_3) * (rd x5_2 x31_1))) 1499) * t175)))) 1499)) := ⟨_, rfl⟩
                                        replace H : (spec_PolyThrough.l3 k3 x4_2 x5_2 y176 x31_1 x10_2 x29_2 (t147.length : Int) x31_1 x9_2 (x9_2.length : Int) (wrap64 (x94_3 + 1))) = some (r1, r2) := by first | (rw [hy176]; with_reducible exact H) | (have H2_ := (Option.bind_some _ _).symm.trans H; rw [hy176]; with_reducible exact H2_) | (have H2_ := (Option.bind_some _ _).symm.trans H; with_reducible exact H2_) | with_reducible exact H | (rw [hy176]; exact H) | exact H
                                        have Ny176 := Aside0.mk hy176
                                        clear hy176
                                        have H' := Aside0.mk H
                                        clear H
                                        have p172 : 0 ≤ (x94_3 : Int) := of_decide_eq_true (by first | (with_reducible assumption) | assumption)
                                        have q172 : x94_3 < (x9_2.length : Int) := of_decide_eq_true (by first | (with_reducible assumption) | assumption)
                                        obtain ⟨ad172, e172, hx172_0⟩ := Kd.at_int (Kd.R_reads' HO_92.out).2.2 x94_3 p172 q172
                                        cases e172
                                        replace p172 := eq_true p172
                                        replace q172 := eq_true q172
                                        try go_wp2
                                        have n0_ := Aside0.mk (Kd.R_drew HO_4.out)
                                        have n1_ := Aside0.mk (Kd.R_drew HO_5.out)
                                        have n2_ := Aside0.mk (Kd.R_drew HO_6.out)
                                        have n3_ := Aside0.mk (Kd.R_drew HO_29.out)
                                        have n4_ := Aside0.mk (Kd.R_drew HO_92.out)
                                        have n5_ := Aside0.mk (below_drew1 HB.out)
                                        clear HO_4
                                        clear HO_5
                                        clear HO_6
                                        clear HO_29
                                        clear HO_92
                                        clear HB
                                        have HO_4 := n0_
                                        have HO_5 := n1_
                                        have HO_6 := n2_
                                        have HO_29 := n3_
                                        have HO_92 := n4_
                                        have HB := n5_
                                        clear n0_ n1_ n2_ n3_ n4_ n5_
                                        obtain ⟨Ao54, co54, eo54⟩ := Kd.R_slice HO_6.out
                                        (first | subst eo54 | (injection eo54 with f1_ f2_ f3_; have f4_ := f1_.symm; have f5_ := f3_.symm; clear f1_ f2_ f3_; subst f4_; subst f5_))
                                        have p173 : 0 ≤ (x94_3 : Int) := of_decide_eq_true (by first | (with_reducible assumption) | assumption)
                                        have q173 : x94_3 < (x6_3.length : Int) := of_decide_eq_true (by first | (with_reducible assumption) | assumption)
                                        obtain ⟨ad173, e173, hx173_0⟩ := Kd.at_int (Kd.R_reads' HO_6.out).2.2 x94_3 p173 q173
                                        cases e173
                                        replace p173 := eq_true p173
                                        replace q173 := eq_true q173
                                        obtain ⟨Ao55, co55, eo55⟩ := Kd.R_slice HO_5.out
                                        (first | subst eo55 | (injection eo55 with f1_ f2_ f3_; have f4_ := f1_.symm; have f5_ := f3_.symm; clear f1_ f2_ f3_; subst f4_; subst f5_))
                                        have p174 : 0 ≤ (x31_1 : Int) := of_decide_eq_true (by first | (with_reducible assumption) | assumption)
                                        have q174 : x31_1 < (x5_2.length : Int) := of_decide_eq_true (by first | (with_reducible assumption) | assumption)
                                        obtain ⟨ad174, e174, hx174_0⟩ := Kd.at_int (Kd.R_reads' HO_5.out).2.2 x31_1 p174 q174
                                        cases e174
                                        replace p174 := eq_true p174
                                        replace q174 := eq_true q174
                                        refine start_ (n := 20) (S := fun w' => w'.cell? (ad173.add (x94_3).toNat) = some (.int .i64 (rd x6_3 x94_3)) ∧ w'.cell? (ad174.add (x31_1).toNat) = some (.int .i64 (rd x5_2 x31_1))) (ds := [19]) #[false, false, false, false, false, false, false, false, false, false, false, false, false, false, false, false, false, false, false, false] (by kernel_rfl) rfl rfl ⟨hx173_0, hx174_0⟩ (fun hHeld => ?_); refine with_tabW spec_PolyThrough.tab27 spec_PolyThrough.bits27 (fun HT_ HW_ => ?_)
                                        generalize wr.drew = w53 at HO_4 HO_5 HO_6 HO_29 HO_92 HB hx173_0 hx174_0 hHeld ⊢
                                        refine pure_ (i := 0) (N := some 99) (v := ?_) (a' := ?_) #[true, false, false, false, false, false, false, false, false, false, false, false, false, false, false, false, false, false, false, false] rfl rfl (any_of HT_.out (by kernel_rfl)) (fun _ _ _ h => h) (Or.inl ⟨by rfl, ?_⟩) ?_ ?_
                                        rotate_left
                                        · intro w'
                                          first | (go_simp; with_reducible rfl) | (go_simp; unfold Instr.field; go_simp; rfl)
                                        rotate_left
                                        · simp only [Act.put, List.setIfInBounds_toArray, List.set_cons_zero, List.set_cons_succ, i64_w, i32_w]
                                          rfl
                                        refine pure_ (i := 1) (N := some 100) (v := ?_) (a' := ?_) #[true, true, false, false, false, false, false, false, false, false, false, false, false, false, false, false, false, false, false, false] rfl rfl (any_of HT_.out (by kernel_rfl)) (fun _ _ _ h => h) (Or.inl ⟨by rfl, ?_⟩) ?_ ?_
                                        rotate_left
                                        · intro w'
                                          first | (go_simp; with_reducible rfl) | (go_simp; unfold Instr.field; go_simp; rfl)
                                        rotate_left
                                        · simp only [Act.put, List.setIfInBounds_toArray, List.set_cons_zero, List.set_cons_succ, i64_w, i32_w]
                                          rfl
                                        refine pure_ (i := 2) (N := some 101) (v := ?_) (a' := ?_) #[true, true, true, false, false, false, false, false, false, false, false, false, false, false, false, false, false, false, false, false] rfl rfl (any_of HT_.out (by kernel_rfl)) (fun _ _ _ h => h) (Or.inl ⟨by rfl, ?_⟩) ?_ ?_
                                        rotate_left
                                        · intro w'
                                          first | (go_simp; with_reducible rfl) | (go_simp; unfold Instr.field; go_simp; rfl)
                                        rotate_left
                                        · simp only [Act.put, List.setIfInBounds_toArray, List.set_cons_zero, List.set_cons_succ, i64_w, i32_w]
                                          rfl
                                        refine pure_ (i := 3) (N := some 102) (v := ?_) (a' := ?_) #[true, true, true, true, false, false, false, false, false, false, false, false, false, false, false, false, false, false, false, false] rfl rfl (any_of HT_.out (by kernel_rfl)) (fun _ _ _ h => h) (Or.inl ⟨by rfl, ?_⟩) ?_ ?_
                                        rotate_left
                                        · intro w'
                                          first | (go_simp; with_reducible rfl) | (go_simp; unfold Instr.field; go_simp; rfl)
                                        rotate_left
                                        · simp only [Act.put, List.setIfInBounds_toArray, List.set_cons_zero, List.set_cons_succ, i64_w, i32_w]
                                          rfl
                                        refine pure_ (i := 4) (N := some 103) (v := ?_) (a' := ?_) #[true, true, true, true, true, false, false, false, false, false, false, false, false, false, false, false, false, false, false, false] rfl rfl (any_of HT_.out (by kernel_rfl)) (fun _ _ _ h => h) (Or.inl ⟨by rfl, ?_⟩) ?_ ?_
                                        rotate_left
                                        · intro w'
                                          first | (go_simp; with_reducible rfl) | (go_simp; unfold Instr.field; go_simp; rfl)
                                        rotate_left
                                        · simp only [Act.put, List.setIfInBounds_toArray, List.set_cons_zero, List.set_cons_succ, i64_w, i32_w]
                                          rfl
                                        refine pure_ (i := 6) (N := some 105) (v := ?_) (a' := ?_) #[true, true, true, true, true, false, true, false, false, false, false, false, false, false, false, false, false, false, false, false] rfl rfl (any_of HT_.out (by kernel_rfl)) (fun _ _ _ h => h) (Or.inl ⟨by rfl, ?_⟩) ?_ ?_
                                        rotate_left
                                        · intro w'
                                          first | (go_simp; with_reducible rfl) | (go_simp; unfold Instr.field; go_simp; rfl)
                                        rotate_left
                                        · simp only [Act.put, List.setIfInBounds_toArray, List.set_cons_zero, List.set_cons_succ, i64_w, i32_w]
                                          rfl
                                        refine pure_ (i := 7) (N := some 106) (v := ?_) (a' := ?_) #[true, true, true, true, true, false, true, true, false, false, false, false, false, false, false, false, false, false, false, false] rfl rfl (any_of HT_.out (by kernel_rfl)) (fun _ _ _ h => h) (Or.inl ⟨by rfl, ?_⟩) ?_ ?_
                                        rotate_left
                                        · intro w'
                                          first | (go_simp; with_reducible rfl) | (go_simp; unfold Instr.field; go_simp; rfl)
                                        rotate_left
                                        · simp only [Act.put, List.setIfInBounds_toArray, List.set_cons_zero, List.set_cons_succ, i64_w, i32_w]
                                          rfl
                                        refine pure_ (i := 8) (N := some 107) (v := ?_) (a' := ?_) #[true, true, true, true, true, false, true, true, true, false, false, false, false, false, false, false, false, false, false, false] rfl rfl (any_of HT_.out (by kernel_rfl)) (fun _ _ _ h => h) (Or.inl ⟨by rfl, ?_⟩) ?_ ?_
                                        rotate_left
                                        · intro w'
                                          first | (go_simp; with_reducible rfl) | (go_simp; unfold Instr.field; go_simp; rfl)
                                        rotate_left
                                        · simp only [Act.put, List.setIfInBounds_toArray, List.set_cons_zero, List.set_cons_succ, i64_w, i32_w]
                                          rfl
                                        refine pure_ (i := 9) (N := some 108) (v := ?_) (a' := ?_) #[true, true, true, true, true, false, true, true, true, true, false, false, false, false, false, false, false, false, false, false] rfl rfl (any_of HT_.out (by kernel_rfl)) (fun _ _ _ h => h) (Or.inl ⟨by rfl, ?_⟩) ?_ ?_
                                        rotate_left
                                        · intro w'
                                          first | (go_simp; with_reducible rfl) | (go_simp; unfold Instr.field; go_simp; rfl)
                                        rotate_left
                                        · simp only [Act.put, List.setIfInBounds_toArray, List.set_cons_zero, List.set_cons_succ, i64_w, i32_w]
                                          rfl
                                        refine pure_ (i := 13) (N := some 112) (v := ?_) (a' := ?_) #[true, true, true, true, true, false, true, true, true, true, false, false, false, true, false, false, false, false, false, false] rfl rfl (any_of HT_.out (by kernel_rfl)) (fun _ _ _ h => h) (Or.inl ⟨by rfl, ?_⟩) ?_ ?_
                                        rotate_left
                                        · intro w'
                                          first | (go_simp; with_reducible rfl) | (go_simp; unfold Instr.field; go_simp; rfl)
                                        rotate_left
                                        · simp only [Act.put, List.setIfInBounds_toArray, List.set_cons_zero, List.set_cons_succ, i64_w, i32_w]
                                          rfl
                                        refine take_ (i := 5) (N := some 104) (v := ?_) (a' := ?_) #[true, true, true, true, true, true, true, true, true, true, false, false, false, true, false, false, false, false, false, false] rfl rfl (take_ofW HT_.out HW_.out (by kernel_rfl)) (fun _ _ _ h => h) (Or.inl ⟨by rfl, ?_⟩) hHeld ?_ ?_
                                        rotate_left
                                        · rintro w' ⟨s0, s1⟩
                                          go_simp
                                          with_reducible rfl
                                        rotate_left
                                        · simp only [Act.put, List.setIfInBounds_toArray, List.set_cons_zero, List.set_cons_succ, i64_w, i32_w]
                                          rfl
                                        refine take_ (i := 10) (N := some 109) (v := ?_) (a' := ?_) #[true, true, true, true, true, true, true, true, true, true, true, false, false, true, false, false, false, false, false, false] rfl rfl (take_ofW HT_.out HW_.out (by kernel_rfl)) (fun _ _ _ h => h) (Or.inl ⟨by rfl, ?_⟩) hHeld ?_ ?_
                                        rotate_left
                                        · rintro w' ⟨s0, s1⟩
                                          go_simp
                                          with_reducible rfl
                                        rotate_left
                                        · simp only [Act.put, List.setIfInBounds_toArray, List.set_cons_zero, List.set_cons_succ, i64_w, i32_w]
                                          rfl
                                        refine pure_ (i := 11) (N := some 110) (v := ?_) (a' := ?_) #[true, true, true, true, true, true, true, true, true, true, true, true, false, true, false, false, false, false, false, false] rfl rfl (any_of HT_.out (by kernel_rfl)) (fun _ _ _ h => h) (Or.inl ⟨by rfl, ?_⟩) ?_ ?_
                                        rotate_left
                                        · intro w'
                                          first | (go_simp; with_reducible rfl) | (go_simp; unfold Instr.field; go_simp; rfl)
                                        rotate_left
                                        · simp only [Act.put, List.setIfInBounds_toArray, List.set_cons_zero, List.set_cons_succ, i64_w, i32_w]
                                          rfl
                                        refine pure_ (i := 12) (N := some 111) (v := ?_) (a' := ?_) #[true, true, true, true, true, true, true, true, true, true, true, true, true, true, false, false, false, false, false, false] rfl rfl (any_of HT_.out (by kernel_rfl)) (fun _ _ _ h => h) (Or.inl ⟨by rfl, ?_⟩) ?_ ?_
                                        rotate_left
                                        · intro w'
                                          first | (go_simp; with_reducible rfl) | (go_simp; unfold Instr.field; go_simp; rfl)
                                        rotate_left
                                        · simp only [Act.put, List.setIfInBounds_toArray, List.set_cons_zero, List.set_cons_succ, i64_w, i32_w]
                                          rfl
                                        refine one_ (i := 14) (N := some 113) #[true, true, true, true, true, true, true, true, true, true, true, true, true, true, true, false, false, false, false, false] rfl rfl (one_of HT_.out (by kernel_rfl)) (by decide) (fun K hK => ?_)
                                        refine goes_ Try.func128 (by kernel_rfl) rfl #[.int .i64 x10_2] (by rfl) rfl rfl (by (try simp only [List.map_toArray, List.map_cons, List.map_nil]); first | done | rfl | (simp only [List.length_drop, List.length_take]; rfl)) ?_
                                        with_reducible refine (spec_l5Inverse.calls k3 x10_2 t175 _ A51.out).mono ?_
                                        rintro e w' ⟨rfl, ⟨nd, rfl⟩⟩
                                        refine ⟨_, rfl, ?_⟩
                                        have p52 : 0 ≤ (x94_3 : Int) := of_decide_eq_true (by first | (with_reducible assumption) | assumption)
                                        have q52 : (x94_3 : Int) < ((x6_3.length : Int) : Int) := of_decide_eq_true (by first | (with_reducible assumption) | assumption)
                                        obtain ⟨go52, co52, eo52, gb52, gl52, cl52, HG52⟩ := Kd.R_form HO_6.out (by omega)
                                        (first | cases eo52 | (injection eo52 with ea_ en_ ec_; (first | subst ea_ | (injection ea_ with ea_; subst ea_)); subst ec_; clear en_))
                                        have GB52 := Aside0.mk gb52
                                        have GG52 := Aside0.mk HG52
                                        clear gb52 gl52 HG52
                                        (first | simp only [add_plain] at hx173_0 | skip)
                                        obtain ⟨hx52_0, hf52_0⟩ := Kd.R_celln 0 HO_6.out (x94_3 : Int) p52 q52
                                        replace p52 := eq_true p52
                                        replace q52 := eq_true q52
                                        have HP56 := Kd.R_putn HO_6.out (x94_3 : Int) (Int.tmod (wrap64 ((rd x6_3 x94_3) + (wrap64 ((Int.tmod (wrap64 ((rd x9_2 x94_3) * (rd x5_2 x31_1))) 1499) * t175)))) 1499)
                                        rw [← Ny176.out] at HP56
                                        have HQ56 := Aside0.mk HP56
                                        clear HP56
                                        refine hK.out _ _ ⟨hHeld.1, hHeld.2⟩ (fun hHeld => ?_)
                                        clear hK K
                                        refine norm_ (a' := ?_) ?_ ?_
                                        rotate_left
                                        · show Act.put _ (some 113) _ = _
                                          simp only [Act.put, List.setIfInBounds_toArray, List.set_cons_zero, List.set_cons_succ, i64_w, i32_w]
                                          rfl
                                        refine pure_ (i := 15) (N := some 114) (v := ?_) (a' := ?_) #[true, true, true, true, true, true, true, true, true, true, true, true, true, true, true, true, false, false, false, false] rfl rfl (any_of HT_.out (by kernel_rfl)) (fun _ _ _ h => h) (Or.inl ⟨by rfl, ?_⟩) ?_ ?_
                                        rotate_left
                                        · intro w'
                                          first | (go_simp; with_reducible rfl) | (go_simp; unfold Instr.field; go_simp; rfl)
                                        rotate_left
                                        · simp only [Act.put, List.setIfInBounds_toArray, List.set_cons_zero, List.set_cons_succ, i64_w, i32_w]
                                          rfl
                                        refine pure_ (i := 16) (N := some 115) (v := ?_) (a' := ?_) #[true, true, true, true, true, true, true, true, true, true, true, true, true, true, true, true, true, false, false, false] rfl rfl (any_of HT_.out (by kernel_rfl)) (fun _ _ _ h => h) (Or.inl ⟨by rfl, ?_⟩) ?_ ?_
                                        rotate_left
                                        · intro w'
                                          first | (go_simp; with_reducible rfl) | (go_simp; unfold Instr.field; go_simp; rfl)
                                        rotate_left
                                        · simp only [Act.put, List.setIfInBounds_toArray, List.set_cons_zero, List.set_cons_succ, i64_w, i32_w]
                                          rfl
                                        refine pure_ (i := 17) (N := some 116) (v := ?_) (a' := ?_) #[true, true, true, true, true, true, true, true, true, true, true, true, true, true, true, true, true, true, false, false] rfl rfl (any_of HT_.out (by kernel_rfl)) (fun _ _ _ h => h) (Or.inl ⟨by rfl, ?_⟩) ?_ ?_
                                        rotate_left
                                        · intro w'
                                          first | (go_simp; with_reducible rfl) | (go_simp; unfold Instr.field; go_simp; rfl)
                                        rotate_left
                                        · simp only [Act.put, List.setIfInBounds_toArray, List.set_cons_zero, List.set_cons_succ, i64_w, i32_w]
                                          rfl
                                        refine pure_ (i := 18) (N := some 117) (v := ?_) (a' := ?_) #[true, true, true, true, true, true, true, true, true, true, true, true, true, true, true, true, true, true, true, false] rfl rfl (any_of HT_.out (by kernel_rfl)) (fun _ _ _ h => h) (Or.inl ⟨by rfl, ?_⟩) ?_ ?_
                                        rotate_left
                                        · intro w'
                                          first | (go_simp; with_reducible rfl) | (go_simp; unfold Instr.field; go_simp; rfl)
                                        rotate_left
                                        · simp only [Act.put, List.setIfInBounds_toArray, List.set_cons_zero, List.set_cons_succ, i64_w, i32_w]
                                          rfl
                                        refine last_ (i := 19) (N := none) #[true, true, true, true, true, true, true, true, true, true, true, true, true, true, true, true, true, true, true, true] rfl rfl (one_of HT_.out (by kernel_rfl)) (by decide) (fun K hK => ?_)
                                        refine skip_ (w1 := ?_) (by rfl) rfl ?_ ?_
                                        rotate_left
                                        · go_simp
                                          rfl
                                        refine hK.out _ _ ?_
                                        clear hK K
                                        refine done_ (done_of HT_.out (by kernel_rfl)) ?_
                                        try go_wp2
                                        go_roundg k3
                                        case measure => have := HK1.out; have := HK2.out; have := HK3.out; omega
                                        case rel => exact ⟨(y176), (wrap64 (x94_3 + 1)), (by first | rfl | (simp; done) | (simp [*]; done)), H', ⟨by have := HK1.out; have := HK2.out; have := HK3.out; omega⟩, ⟨by (try simp only [hl4_1]); (try simp only [hl29_1]); (try simp only [hl4_2]); (try simp only [hl29_2]); (try simp only [hl37_2]); (with_reducible repeat (first | apply Kd.R_alloc | apply Kd.R_drewN | apply Kd.R_drew)); exact Kd.R_mono (Kd.R_far (p := ⟨go52, (x94_3 : Int).toNat, none⟩) (Kd.R_mono HO_4.out (fun k_ hk => (⟨hk, fun e_ => hk.2.1 (by rw [e_]; rfl)⟩ : _ ∧ k_ ≠ go52))) (fun _ hk => hk.2) (.int .i64 (Int.tmod (wrap64 ((rd x6_3 x94_3) + (wrap64 ((Int.tmod (wrap64 ((rd x9_2 x94_3) * (rd x5_2 x31_1))) 1499) * t175)))) 1499))) (fun _ hk => ⟨hk.1.1, ⟨hk.1.2.1, hk.1.2.2⟩⟩)⟩, ⟨by (try simp only [hl4_1]); (try simp only [hl29_1]); (try simp only [hl4_2]); (try simp only [hl29_2]); (try simp only [hl37_2]); (with_reducible repeat (first | apply Kd.R_alloc | apply Kd.R_drewN | apply Kd.R_drew)); exact Kd.R_mono (Kd.R_far (p := ⟨go52, (x94_3 : Int).toNat, none⟩) (Kd.R_mono HO_5.out (fun k_ hk => (⟨hk, fun e_ => hk.2.1 (by rw [e_]; rfl)⟩ : _ ∧ k_ ≠ go52))) (fun _ hk => hk.2) (.int .i64 (Int.tmod (wrap64 ((rd x6_3 x94_3) + (wrap64 ((Int.tmod (wrap64 ((rd x9_2 x94_3) * (rd x5_2 x31_1))) 1499) * t175)))) 1499))) (fun _ hk => ⟨hk.1.1, ⟨hk.1.2.1, ⟨hk.1.2.2.1, hk.1.2.2.2⟩⟩⟩)⟩, ⟨by (try simp only [hl4_1]); (try simp only [hl29_1]); (try simp only [hl4_2]); (try simp only [hl29_2]); (try simp only [hl37_2]); (with_reducible repeat (first | apply Kd.R_alloc | apply Kd.R_drewN | apply Kd.R_drew)); exact HQ56.out⟩, ⟨by (try simp only [hl4_1]); (try simp only [hl29_1]); (try simp only [hl4_2]); (try simp only [hl29_2]); (try simp only [hl37_2]); (with_reducible repeat (first | apply Kd.R_alloc | apply Kd.R_drewN | apply Kd.R_drew)); exact Kd.R_mono (Kd.R_far (p := ⟨go52, (x94_3 : Int).toNat, none⟩) (Kd.R_mono HO_29.out (fun k_ hk => (⟨hk, fun e_ => hk.2.1 (by rw [e_]; rfl)⟩ : _ ∧ k_ ≠ go52))) (fun _ hk => hk.2) (.int .i64 (Int.tmod (wrap64 ((rd x6_3 x94_3) + (wrap64 ((Int.tmod (wrap64 ((rd x9_2 x94_3) * (rd x5_2 x31_1))) 1499) * t175)))) 1499))) (fun _ hk => ⟨hk.1.1, ⟨hk.1.2.1, hk.1.2.2⟩⟩)⟩, ⟨by (try simp only [hl4_1]); (try simp only [hl29_1]); (try simp only [hl4_2]); (try simp only [hl29_2]); (try simp only [hl37_2]); (with_reducible repeat (first | apply Kd.R_alloc | apply Kd.R_drewN | apply Kd.R_drew)); exact Kd.R_mono (Kd.R_far (p := ⟨go52, (x94_3 : Int).toNat, none⟩) (Kd.R_mono HO_92.out (fun k_ hk => (⟨hk, fun e_ => hk.2.2.1 (by rw [e_]; rfl)⟩ : _ ∧ k_ ≠ go52))) (fun _ hk => hk.2) (.int .i64 (Int.tmod (wrap64 ((rd x6_3 x94_3) + (wrap64 ((Int.tmod (wrap64 ((rd x9_2 x94_3) * (rd x5_2 x31_1))) 1499) * t175)))) 1499))) (fun _ hk => ⟨hk.1.1, ⟨hk.1.2.1, ⟨hk.1.2.2.1, hk.1.2.2.2⟩⟩⟩)⟩, ⟨by repeat (first | (with_reducible first | exact HB.out | apply below_alloc | apply pw_below_drewN | apply below_drew1 | refine below_set ?_ GB52.out) | exact HB.out)⟩⟩
                                      · rw [if_neg c50] at H
                                        exact absurd H (by simp)
                                    · rw [if_neg c49] at H
                                      exact absurd H (by simp)
                                  · rw [if_neg c48] at H
                                    exact absurd H (by simp)
                                · rw [if_neg c47] at H
                                  exact absurd H (by simp)
                              · rw [if_neg c46] at H
                                exact absurd H (by simp)
                            · rw [if_neg c45] at H
                              have c45b0 : decide (x94_3 < (x9_2.length : Int)) = false := decide_eq_false c45
                              have c45z := c45b0
                              (try simp only [hl4_1] at c45z)
                              (try simp only [hl29_1] at c45z)
                              (try simp only [hl4_2] at c45z)
                              (try simp only [hl29_2] at c45z)
                              (try simp only [hl37_2] at c45z)
                              clear c45
                              have H' := Aside0.mk H
                              clear H
                              go_wp2
                              (try simp only [← hl4_1, ← hl29_1, ← hl4_2, ← hl29_2, ← hl37_2])
                              go_roundg k3
                              case measure => have := HK1.out; have := HK2.out; have := HK3.out; omega
                              case rel => exact ⟨(x4_2), (x5_2), (x6_3), (x29_2), (wrap64 (x31_1 + 1)), (by first | rfl | (simp; done) | (simp [*]; done)), H', ⟨by have := HK1.out; have := HK2.out; have := HK3.out; omega⟩, ⟨by (try simp only [hl4_1]); (try simp only [hl29_1]); (try simp only [hl4_2]); (try simp only [hl29_2]); (try simp only [hl37_2]); (with_reducible repeat (first | apply Kd.R_alloc | apply Kd.R_drewN | apply Kd.R_drew)); exact Kd.R_mono HO_4.out (fun _ hk => ⟨hk.1, hk.2.1⟩)⟩, ⟨by (try simp only [hl4_1]); (try simp only [hl29_1]); (try simp only [hl4_2]); (try simp only [hl29_2]); (try simp only [hl37_2]); (with_reducible repeat (first | apply Kd.R_alloc | apply Kd.R_drewN | apply Kd.R_drew)); exact Kd.R_mono HO_5.out (fun _ hk => ⟨hk.1, ⟨hk.2.1, hk.2.2.1⟩⟩)⟩, ⟨by (try simp only [hl4_1]); (try simp only [hl29_1]); (try simp only [hl4_2]); (try simp only [hl29_2]); (try simp only [hl37_2]); (with_reducible repeat (first | apply Kd.R_alloc | apply Kd.R_drewN | apply Kd.R_drew)); exact Kd.R_mono HO_6.out (fun _ hk => ⟨hk.1, ⟨hk.2.1, hk.2.2.1⟩⟩)⟩, ⟨by (try simp only [hl4_1]); (try simp only [hl29_1]); (try simp only [hl4_2]); (try simp only [hl29_2]); (try simp only [hl37_2]); (with_reducible repeat (first | apply Kd.R_alloc | apply Kd.R_drewN | apply Kd.R_drew)); exact Kd.R_mono HO_29.out (fun _ hk => ⟨hk.1, hk.2.1⟩)⟩, ⟨by repeat (first | (with_reducible first | exact HB.out | apply below_alloc | apply pw_below_drewN | apply below_drew1) | exact HB.out)⟩⟩
                · rw [if_neg c14] at H
                  exact absurd H (by simp)
              · rw [if_neg c13] at H
                exact absurd H (by simp)
            · rw [if_neg c12] at H
              have c12b0 : decide (x31_1 < (t147.length : Int)) = false := decide_eq_false c12
              have c12z := c12b0
              (try simp only [hl4_1] at c12z)
              (try simp only [hl29_1] at c12z)
              clear c12
              simp only [Option.some.injEq, Prod.mk.injEq] at H
              obtain ⟨rfl, rfl⟩ := H
              go_wp2
              go_ret2
              exact ⟨_, by first | rfl | (simp [errW_none, errW_some] <;> rfl) | (simp [*, errW_none, errW_some] <;> rfl), by (with_reducible repeat (first | apply Kd.R_alloc | apply Kd.R_drewN | apply Kd.R_drew)); exact Kd.R_mono HO_6.out (fun _ hk => trivial), by repeat (first | (with_reducible first | exact HB.out | apply below_alloc | apply pw_below_drewN | apply below_drew1) | exact HB.out)⟩
      · rw [if_neg c6] at H
        exact absurd H (by simp)
    · rw [if_neg c5] at H
      exact absurd H (by simp)
  · replace c3 := Bool.eq_false_iff.mpr c3
    subst c3
    have H1 : (some (([] : List Int), false)) = some (r1, r2) := by rw [if_neg (show ¬ (false = true) by decide)] at H; exact H
    clear H
    have H := H1
    clear H1
    simp only [Option.some.injEq, Prod.mk.injEq] at H
    obtain ⟨rfl, rfl⟩ := H
    go_enter Try.func71, Try.ntmps71
    go_wp2_with (first | ((with_reducible refine gate_callee (f := 115) rfl ?_); refine goesL_ (some 19) rfl rfl Try.func115 (by kernel_rfl) rfl #[.slice A0 l0.length c0] rfl (by (try simp only [List.map_toArray, List.map_cons, List.map_nil]); first | done | rfl | (simp only [List.length_drop, List.length_take]; rfl)) ?_; (with_reducible refine (spec_l5Parts.calls k _ _ l0 false _ ?side1 ?side2 A2.out).mono ?_); (case side1 => repeat (first | exact HR0.out | (with_reducible refine Kd.C_alloc ?_ _) | (with_reducible refine Kd.C_drewN ?_ _) | (with_reducible refine Kd.C_drew ?_))); (case side2 => exact HC0.out); rintro e w57 ⟨rfl, hb⟩; refine ⟨_, rfl, ?_⟩; have n0_ := Aside0.mk (below_step (by repeat (first | (with_reducible first | exact HB.out | apply below_alloc | apply pw_below_drewN | apply below_drew1) | exact HB.out)) hb); clear HB; have HB := n0_; clear n0_; (try clear hb); (try clear hb2); (try clear hk); (try clear hi)))
    go_ret2
    exact ⟨_, by first | rfl | (simp [errW_none, errW_some] <;> rfl) | (simp [*, errW_none, errW_some] <;> rfl), by first | exact Kd.R_nil _ _ _ _ _ | exact Kd.R_nil _ _ _ 0 _ | exact Kd.N_nil _ _ _ _ _ | exact Kd.V_nil _ _ _ _ _ | exact Kd.Q_nil _ _ _ _ _ | exact Kd.S_nil _ _ _ _ _, by repeat (first | (with_reducible first | exact HB.out | apply below_alloc | apply pw_below_drewN | apply below_drew1) | exact HB.out)⟩

end Go.Proofs.Ytadooofomkdaoaa.QFnExactPolyThrough
