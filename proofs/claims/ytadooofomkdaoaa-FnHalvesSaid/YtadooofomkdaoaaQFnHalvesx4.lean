import Derived.Test.YtadooofomkdaoaaSqueez2
import Derived.Test.YtadooofomkdaoaaQFnHalvesx0
import Derived.Test.YtadooofomkdaoaaQFnHalvesx1
import Derived.Test.YtadooofomkdaoaaQFnHalvesx2
import Derived.Test.YtadooofomkdaoaaQFnHalvesx3
namespace Go.Proofs.Ytadooofomkdaoaa.QFnHalves
open Go.RowKit Go.Proofs.YtadooofomkdaoaaW.PrintWords Go.Proofs.YtadooofomkdaoaaW.PrintLast Go.Proofs.YtadooofomkdaoaaW.PrintMore
attribute [local go_sem] max2_int min2_int max_two min_two max_three min_three max_four min_four   -- for this text's walks alone
set_option linter.unusedVariables false
set_option linter.unusedSimpArgs false

/-! ### impl_power2: function 99 -/
def impl_power2.f (a0 : Int) : Option (List Int) := if 0 ≤ (wrap64 ((wrap64 (Int.tdiv a0 16)) + 1)) then (if (wrap64 ((wrap64 (Int.tdiv a0 16)) + 1) : Int).toNat ≤ 35184372088832 then ((some (List.replicate (wrap64 ((wrap64 (Int.tdiv a0 16)) + 1) : Int).toNat 0 : List Int)).bind fun y256 => (if 0 ≤ (Int.tmod a0 16) then (if 0 ≤ (wrap64 (Int.tdiv a0 16)) then (if (wrap64 (Int.tdiv a0 16)) < (y256.length : Int) then (some (y256.set ((wrap64 (Int.tdiv a0 16)) : Int).toNat (shl .i64 1 (Int.tmod a0 16)))) else (none)) else (none)) else (none))) else (none)) else (none)
set_option maxHeartbeats 8000000 in
set_option maxRecDepth 100000 in
theorem impl_power2.calls (a0 : Int) (r : List Int) (w : World) (h : impl_power2.f a0 = some r) :
    Calls Try.prog 99 #[.int .i64 a0] w fun e w' => ∃ v0_ : Value, e = .returned (v0_) ∧ Kd.R (Kd.int .i64) 3 w' w.heap.size (fun _ => True) v0_ r ∧ Below w.heap.size w w' := by
 have HB := Aside0.mk (Below.refl w.heap.size w)
 have H : (if 0 ≤ (wrap64 ((wrap64 (Int.tdiv a0 16)) + 1)) then (if (wrap64 ((wrap64 (Int.tdiv a0 16)) + 1) : Int).toNat ≤ 35184372088832 then ((some (List.replicate (wrap64 ((wrap64 (Int.tdiv a0 16)) + 1) : Int).toNat 0 : List Int)).bind fun y256 => (if 0 ≤ (Int.tmod a0 16) then (if 0 ≤ (wrap64 (Int.tdiv a0 16)) then (if (wrap64 (Int.tdiv a0 16)) < (y256.length : Int) then (some (y256.set ((wrap64 (Int.tdiv a0 16)) : Int).toNat (shl .i64 1 (Int.tmod a0 16)))) else (none)) else (none)) else (none))) else (none)) else (none)) = some r := h
 clear h; obtain ⟨ji2, hji2⟩ : ∃ j_ : Int, (wrap64 ((wrap64 (Int.tdiv a0 16)) + 1)) = j_ := ⟨_, rfl⟩
 replace H : (if 0 ≤ (ji2) then (if (ji2 : Int).toNat ≤ 35184372088832 then ((some (List.replicate (ji2 : Int).toNat 0 : List Int)).bind fun y256 => (if 0 ≤ (Int.tmod a0 16) then (if 0 ≤ (wrap64 (Int.tdiv a0 16)) then (if (wrap64 (Int.tdiv a0 16)) < (y256.length : Int) then (some (y256.set ((wrap64 (Int.tdiv a0 16)) : Int).toNat (shl .i64 1 (Int.tmod a0 16)))) else (none)) else (none)) else (none))) else (none)) else (none)) = some r := by first | (rw [hji2] at H; exact H) | (simp only [hji2] at H ⊢; exact H)
 have hji2w : (IntKind.i64.wrap ((wrap64 (Int.tdiv a0 16)) + 1)) = ji2 := (i64_w _).trans hji2
 by_cases c3 : 0 ≤ (ji2)
 rotate_left
 · rw [if_neg c3] at H
   exact absurd H (by simp)

 rw [if_pos c3] at H; have c3b0 := eq_true c3
 have c3b1 : decide (0 ≤ (ji2)) = true := decide_eq_true c3
 clear c3
 by_cases c4 : (ji2 : Int).toNat ≤ 35184372088832
 rotate_left
 · rw [if_neg c4] at H
   exact absurd H (by simp)
 rw [if_pos c4] at H; have c4b0 := eq_true c4
 have c4b1 : decide ((ji2 : Int).toNat ≤ 35184372088832) = true := decide_eq_true c4
 clear c4; obtain ⟨y256, hy256⟩ : ∃ y_ : List Int, y_ = (List.replicate (ji2 : Int).toNat 0) := ⟨_, rfl⟩
 replace H : (if 0 ≤ (Int.tmod a0 16) then (if 0 ≤ (wrap64 (Int.tdiv a0 16)) then (if (wrap64 (Int.tdiv a0 16)) < (y256.length : Int) then (some (y256.set ((wrap64 (Int.tdiv a0 16)) : Int).toNat (shl .i64 1 (Int.tmod a0 16)))) else (none)) else (none)) else (none)) = some r := by first | (rw [hy256]; with_reducible exact H) | (have H2_ := (Option.bind_some _ _).symm.trans H; rw [hy256]; with_reducible exact H2_) | (have H2_ := (Option.bind_some _ _).symm.trans H; with_reducible exact H2_) | with_reducible exact H | (rw [hy256]; exact H) | exact H
 have Ny256 := Aside0.mk hy256; clear hy256; obtain ⟨ji5, hji5⟩ : ∃ j_ : Int, (Int.tmod a0 16) = j_ := ⟨_, rfl⟩
 replace H : (if 0 ≤ (ji5) then (if 0 ≤ (wrap64 (Int.tdiv a0 16)) then (if (wrap64 (Int.tdiv a0 16)) < (y256.length : Int) then (some (y256.set ((wrap64 (Int.tdiv a0 16)) : Int).toNat (shl .i64 1 (ji5)))) else (none)) else (none)) else (none)) = some r := by first | (rw [hji5] at H; exact H) | (simp only [hji5] at H ⊢; exact H)
 by_cases c6 : 0 ≤ (ji5)
 rotate_left
 · rw [if_neg c6] at H
   exact absurd H (by simp)
 rw [if_pos c6] at H; have c6b0 := eq_true c6
 have c6b1 : decide (0 ≤ (ji5)) = true := decide_eq_true c6
 clear c6; obtain ⟨ji7, hji7⟩ : ∃ j_ : Int, (shl .i64 1 (ji5)) = j_ := ⟨_, rfl⟩
 replace H : (if 0 ≤ (wrap64 (Int.tdiv a0 16)) then (if (wrap64 (Int.tdiv a0 16)) < (y256.length : Int) then (some (y256.set ((wrap64 (Int.tdiv a0 16)) : Int).toNat (ji7))) else (none)) else (none)) = some r := by first | (rw [hji7] at H; exact H) | (simp only [hji7] at H ⊢; exact H)
 have hji7_ : (IntKind.i64.wrap (1 * 2 ^ min (ji5).toNat 64)) = ji7 := hji7
 have hji7z : (ji5) ≤ 64 → (IntKind.i64.wrap (1 * 2 ^ (ji5).toNat)) = ji7 := shl_small hji7
 have hji7u : (IntKind.i64.wrap (2 ^ min (ji5).toNat 64)) = ji7 := by have h_ := hji7_; rw [Int.one_mul] at h_; exact h_
 have hji7v : (ji5) ≤ 64 → (IntKind.i64.wrap (2 ^ (ji5).toNat)) = ji7 := fun hle_ => by have h_ := hji7z hle_; rw [Int.one_mul] at h_; exact h_
 have hji7y : (wrap64 (1 * 2 ^ min (ji5).toNat 64)) = ji7 := (i64_w _).symm.trans hji7_
 have hji7x : (ji5) ≤ 64 → (wrap64 (1 * 2 ^ (ji5).toNat)) = ji7 := fun h_ => (i64_w _).symm.trans (hji7z h_)
 obtain ⟨ji8, hji8⟩ : ∃ j_ : Int, (wrap64 (Int.tdiv a0 16)) = j_ := ⟨_, rfl⟩
 have hji2_ji8 : (wrap64 ((ji8) + 1)) = ji2 := by rw [← hji8]; exact hji2
 replace H : (if 0 ≤ (ji8) then (if (ji8) < (y256.length : Int) then (some (y256.set ((ji8) : Int).toNat (ji7))) else (none)) else (none)) = some r := by first | (rw [hji8] at H; exact H) | (simp only [hji8] at H ⊢; exact H)
 have hji8w : (IntKind.i64.wrap (Int.tdiv a0 16)) = ji8 := (i64_w _).trans hji8
 by_cases c9 : 0 ≤ (ji8)
 rotate_left
 · rw [if_neg c9] at H
   exact absurd H (by simp)
 rw [if_pos c9] at H
 have c9b0 : decide (0 ≤ (ji8)) = true := decide_eq_true c9
 clear c9
 by_cases c10 : (ji8) < (y256.length : Int)
 rotate_left
 · rw [if_neg c10] at H
   exact absurd H (by simp)
 rw [if_pos c10] at H
 have c10b0 : decide ((ji8) < (y256.length : Int)) = true := decide_eq_true c10
 clear c10; obtain ⟨y259, hy259⟩ : ∃ y_ : List Int, y_ = (y256.set ((ji8) : Int).toNat (ji7)) := ⟨_, rfl⟩
 replace H : (some y259) = some r := by first | (rw [hy259]; with_reducible exact H) | (have H2_ := (Option.bind_some _ _).symm.trans H; rw [hy259]; with_reducible exact H2_) | (have H2_ := (Option.bind_some _ _).symm.trans H; with_reducible exact H2_) | with_reducible exact H | (rw [hy259]; exact H) | exact H
 have Ny259 := Aside0.mk hy259; clear hy259; obtain rfl := Option.some.inj H
 go_enter Try.func99, Try.ntmps99
 go_wp2_with (first | ((with_reducible refine gate_dst (N := 7) rfl ?_); refine Kd.R_make (Kd.int .i64) _ 3 rfl (N := 7) rfl 23 _ _ rfl ji2 (by first | rfl | exact congrArg (Value.int .i64) hji2_ji8) (by first | rfl | exact congrArg (Value.int .i64) hji2_ji8) Try.underlying23 (.int .i64 0) 8 info3 rfl (by decide) (by omega) 0 (ok := fun _ => True) (okp := fun _ => True) rfl (fun _ hk => hk) trivial (of_decide_eq_true (by first | (with_reducible assumption) | assumption)) (Nat.le_trans (Nat.mul_le_mul_right _ (of_decide_eq_true (by first | (with_reducible assumption) | assumption) : ji2.toNat ≤ 35184372088832)) (by omega)) (Below.refl _ _) (Nat.le_refl _) ?_; intro v257 w12 ho13 hb hg_ hnew_; clear hg_ hnew_; (first | rw [← Ny256.out] at ho13 | (simp only [Int.reduceToNat] at ho13; rw [← Ny256.out] at ho13)); have HO258 := Aside0.mk (Kd.R_lower ho13 (below_size (hq HB))); replace HB := cs (hq HB) hb; clear hb ho13; have p11 : 0 ≤ ((ji8) : Int) := of_decide_eq_true (by first | (with_reducible assumption) | assumption); have q11 : ((ji8) : Int) < ((y256.length : Int) : Int) := of_decide_eq_true (by first | (with_reducible assumption) | assumption); obtain ⟨go11, co11, eo11, gb11, gl11, cl11, HG11⟩ := Kd.R_form HO258.out (by omega); (first | cases eo11 | (injection eo11 with ea_ en_ ec_; (first | subst ea_ | (injection ea_ with ea_; subst ea_)); subst ec_; clear en_)); have GB11 := Aside0.mk gb11; have GG11 := Aside0.mk HG11; clear gb11 gl11 HG11; obtain ⟨hx11_0, hf11_0⟩ := Kd.R_celln 0 HO258.out ((ji8) : Int) p11 q11; replace p11 := eq_true p11; replace q11 := eq_true q11; obtain ⟨hy14_, hz14_⟩ := Kd.R_celln 0 HO258.out ((ji8) : Int) (of_decide_eq_true (by first | (with_reducible assumption) | assumption)) (of_decide_eq_true (by first | (with_reducible assumption) | assumption)); have HP14 := Kd.R_putg HO258.out ((ji8) : Int) ji7) | ((with_reducible refine gate_store (t := 3) (p := 14) rfl ?_); refine store_event (t := 3) (p := 14) (v := ?vo_w15) (w1 := (w12.setCell ⟨go11, ((ji8) : Int).toNat, none⟩ (.int .i64 ji7))) ?hg ?ho ?hn ?hr ?_; (case ho => rfl); (case hg => rfl); (case hn => rfl); (case hr => first | (go_simp; done) | (go_simp; rfl)); intro w15 hw; have hg : w12.grownBy w15 (some go11) := (by rw [hw]; exact HP14.2); have hp_ : Kd.R (Kd.int .i64) 3 w15 w.heap.size (fun _ => True) (.slice (some ⟨go11, 0, none⟩) y256.length co11) y259 := (by rw [hw, Ny259.out]; exact HP14.1); clear HP14; replace HO258 := Aside0.mk (hp_); replace HB := Aside0.mk ((by rw [hw]; exact below_set (HB.out) GB11.out : Below w.heap.size w w15)); clear hg hw hp_))
 go_ret
 exact ⟨_, by first | rfl | (simp [errW_none, errW_some] <;> rfl) | (simp only [← hji2, ← hji5, ← hji7, ← hji8]; first | rfl | (simp [errW_none, errW_some] <;> rfl)) | (simp [*, errW_none, errW_some] <;> rfl), by (with_reducible repeat (first | apply Kd.R_alloc | apply Kd.R_drewN | apply Kd.R_drew)); exact HO258.out, hq HB⟩
/-! ### impl_ShiftBig: function 31 -/
def impl_ShiftBig.j0 : Nat → Int → Bool → List Int → Option (List Int × Bool)
  | 0, _, _, _ => none
  | k + 1, x1, x15, x261000 => if x15 = true then (some (([] : List Int), false)) else (if x1 < 0 then ((impl_power2.f (wrap64 (-x1))).bind fun t264 => ((impl_divide.f k x261000 t264).bind fun bt267 => (some (bt267.1, true)))) else ((impl_power2.f x1).bind fun t273 => ((impl_times.f k x261000 t273).bind fun t276 => ((impl_told.f k t276).bind fun bt279 => (some (bt279.1, bt279.2))))))
def impl_ShiftBig.f (k : Nat) (l0_0 : List Int) (a1 : Int) : Option (List Int × Bool) := (impl_GoodBig.f k l0_0).bind fun t262 => (if t262 = true then ((impl_within.f a1 (-96) 96).bind fun t263 => (impl_ShiftBig.j0 k a1 (!t263) l0_0)) else (impl_ShiftBig.j0 k a1 true l0_0))
def impl_ShiftBig.T4 : Bool × List (List Nat × List Nat) := (true, [([], []), ([0], [0]), ([], []), ([2], [2]), ([3], [3]), ([1, 4, 4], [1, 4]), ([5], [5]), ([6], [6]), ([6], [6]), ([7, 5, 0, 1, 2, 3, 4, 5, 6, 7], [7]), ([8, 9, 0, 1, 2, 3, 4, 5, 6, 7, 8, 9], [8])])
def impl_ShiftBig.B4 : List Nat := [0, 1, 0, 4, 12, 31, 63, 127, 127, 255, 1023]
theorem impl_ShiftBig.tab4 : rtab .any (opsOf Try.f31 4) = impl_ShiftBig.T4 := by kernel_rfl
theorem impl_ShiftBig.bits4 : waitsOk impl_ShiftBig.T4.2 impl_ShiftBig.B4 = true := by kernel_rfl
def impl_ShiftBig.T6 : Bool × List (List Nat × List Nat) := (true, [([], []), ([0], [0]), ([], []), ([2], [2]), ([1, 3, 3], [1, 3]), ([4, 4], [4]), ([5], [5]), ([5], [5]), ([6, 5, 0, 1, 2, 3, 4, 5, 6, 7], [6]), ([7, 8, 0, 1, 2, 3, 4, 5, 6, 7, 8], [7])])
def impl_ShiftBig.B6 : List Nat := [0, 1, 0, 4, 15, 31, 63, 63, 255, 511]
theorem impl_ShiftBig.tab6 : rtab .any (opsOf Try.f31 6) = impl_ShiftBig.T6 := by kernel_rfl
theorem impl_ShiftBig.bits6 : waitsOk impl_ShiftBig.T6.2 impl_ShiftBig.B6 = true := by kernel_rfl
set_option maxHeartbeats 8000000 in
set_option maxRecDepth 100000 in
theorem impl_ShiftBig.calls (k : Nat) (A0_0 : Option Addr) (c0_0 : Nat) (l0_0 : List Int) (a1 : Int) (r1 : List Int) (r2 : Bool) (w : World) (hr0_0 : Kd.C (Kd.int .i64) w A0_0 l0_0.length l0_0) (hc0_0 : l0_0.length ≤ c0_0) (h : impl_ShiftBig.f k l0_0 a1 = some (r1, r2)) :
    Calls Try.prog 31 #[.agg #[.slice A0_0 l0_0.length c0_0], .int .i64 a1] w fun e w' => ∃ v0_ : Value, e = .returned (.tuple #[.agg #[v0_], .bool r2]) ∧ Kd.R (Kd.int .i64) 3 w' w.heap.size (fun _ => True) v0_ r1 ∧ Below w.heap.size w w' := by
 have hu25 := Try.underlying25; have HR0_0 := Aside0.mk hr0_0; have HC0_0 := Aside0.mk hc0_0; clear hr0_0 hc0_0; have HB := Aside0.mk (Below.refl w.heap.size w)
 have H : ((impl_GoodBig.f k l0_0).bind fun t262 => (if t262 = true then ((impl_within.f a1 (-96) 96).bind fun t263 => (impl_ShiftBig.j0 k a1 (!t263) l0_0)) else (impl_ShiftBig.j0 k a1 true l0_0))) = some (r1, r2) := h
 clear h; have HC3 := Aside0.mk H; clear H
 go_enter Try.func31, Try.ntmps31
 go_upto_region 1 with (first | ((with_reducible refine gate_dst (N := 2) rfl ?_); refine bX #[.slice A0_0 l0_0.length c0_0] 25 ?_; intro gb260 hg w4 hbox hb; have n0_ := cs (hq HB) hb; have BK260 := Aside0.mk (hbox); have GW260 := cg hg (hq HB); have GE260 := cg hg (hq HB); replace HB := n0_; clear n0_; clear hb hbox hg) | ((with_reducible refine gate_dst (N := 4) rfl ?_); refine bX #[.slice none 0 0] 25 ?_; intro gb261 hg w5 hbox hb; have n0_ := cB BK260 hb; have n1_ := cs (hq1 HB GE260) hb; have BK261 := Aside0.mk (hbox); have GW261 := cg hg (hq1 HB GE260); have GE261 := cg hg (hq1 HB GE260); have NB260_261 := cl hg BK260; have NB261_260 := cr hg BK260; replace BK260 := n0_; replace HB := n1_; clear n0_ n1_; clear hb hbox hg))
 (try simp only [Act.put, List.setIfInBounds_toArray, List.set_cons_zero, List.set_cons_succ])
 go_cut [15] (fun v15 wc => ∃ (kq : Nat) (x15_2 : Bool), v15 = .bool x15_2 ∧ Aside0 (impl_ShiftBig.j0 kq a1 x15_2 l0_0 = some (r1, r2)) ∧ Aside0 (kq ≤ k) ∧ Aside0 (wc.heap[gb260]? = some (.cells #[(.slice A0_0 l0_0.length c0_0)] 25 (0, 0))) ∧ Aside0 (wc.heap[gb261]? = some (.cells #[(.slice none 0 0)] 25 (0, 0))) ∧ Aside0 (Below w.heap.size w wc))
 case first =>
   have H := HC3.out; clear HC3; replace H := Option.bind_eq_some_iff.mp H; obtain ⟨t262, A60, H⟩ := H; (try dsimp only at H); have A6 := Aside0.mk A60; clear A60
   by_cases c7 : t262 = true
   rotate_left
   · replace c7 := Bool.eq_false_iff.mpr c7
     subst c7
     have H1 : (impl_ShiftBig.j0 k a1 true l0_0) = some (r1, r2) := by rw [if_neg (show ¬ (false = true) by decide)] at H; exact H
     clear H; have H := H1; clear H1
     have H' := Aside0.mk H
     clear H; have hnb12 := NB260_261.out; have hnc12 := NB261_260.out
     have hcz13_0 : w5.cell? ⟨gb260, 0, none⟩ = some (.slice A0_0 l0_0.length c0_0) := (blk_cell BK260.out 0).trans rfl
     have hfz13_0 := blk_frozen BK260.out 0
     go_wp2_with (first | ((with_reducible refine gate_callee (f := 19) rfl ?_); refine gC (some 9) Try.func19 #[.agg #[.slice A0_0 l0_0.length c0_0]] ?_; (with_reducible refine (impl_GoodBig.calls k _ _ l0_0 false _ ?side1 ?side2 A6.out).mono ?_); (case side1 => exact cq (Kd.C_below HR0_0.out HB.out)); (case side2 => exact HC0_0.out); rintro e w14 ⟨rfl, hb⟩; refine ⟨_, rfl, ?_⟩; replace BK260 := cB BK260 hb; replace BK261 := cB BK261 hb; replace HB := cs (hq2 HB GE260 GE261) hb; (try clear hb); (try clear hb2); (try clear hk); (try clear hi)))
     go_meet
     case rel => exact ⟨_, (true), (by first | rfl | (simp; done) | (simp [*]; done)), H', ⟨by first | omega | exact Nat.le_refl _⟩, ⟨by (with_reducible repeat (first | refine blk_drewN ?_ _ | refine blk_drew ?_ | refine blk_alloc ?_ _)); exact BK260.out⟩, ⟨by (with_reducible repeat (first | refine blk_drewN ?_ _ | refine blk_drew ?_ | refine blk_alloc ?_ _)); exact BK261.out⟩, ⟨hq2 HB GE260 GE261⟩⟩
   subst c7
   have H1 : ((impl_within.f a1 (-96) 96).bind fun t263 => (impl_ShiftBig.j0 k a1 (!t263) l0_0)) = some (r1, r2) := by rw [if_pos rfl] at H; exact H
   clear H; have H := H1; clear H1; replace H := Option.bind_eq_some_iff.mp H; obtain ⟨t263, A80, H⟩ := H; (try dsimp only at H); have A8 := Aside0.mk A80; clear A80
   have H' := Aside0.mk H
   clear H; have hnb9 := NB260_261.out; have hnc9 := NB261_260.out
   have hcz10_0 : w5.cell? ⟨gb260, 0, none⟩ = some (.slice A0_0 l0_0.length c0_0) := (blk_cell BK260.out 0).trans rfl
   have hfz10_0 := blk_frozen BK260.out 0
   go_wp2_with (first | ((with_reducible refine gate_callee (f := 19) rfl ?_); refine gC (some 9) Try.func19 #[.agg #[.slice A0_0 l0_0.length c0_0]] ?_; (with_reducible refine (impl_GoodBig.calls k _ _ l0_0 true _ ?side1 ?side2 A6.out).mono ?_); (case side1 => exact cq (Kd.C_below HR0_0.out HB.out)); (case side2 => exact HC0_0.out); rintro e w11 ⟨rfl, hb⟩; refine ⟨_, rfl, ?_⟩; replace BK260 := cB BK260 hb; replace BK261 := cB BK261 hb; replace HB := cs (hq2 HB GE260 GE261) hb; (try clear hb); (try clear hb2); (try clear hk); (try clear hi)) | (go_at_call 93; (with_reducible refine (impl_within.calls a1 (-96) 96 t263 _ A8.out).mono ?_); rintro e w' ⟨rfl, ⟨nd, rfl⟩⟩))
   go_meet
   case rel => exact ⟨_, (!t263), (by first | rfl | (simp; done) | (simp [*]; done)), H', ⟨by first | omega | exact Nat.le_refl _⟩, ⟨by (with_reducible repeat (first | refine blk_drewN ?_ _ | refine blk_drew ?_ | refine blk_alloc ?_ _)); exact BK260.out⟩, ⟨by (with_reducible repeat (first | refine blk_drewN ?_ _ | refine blk_drew ?_ | refine blk_alloc ?_ _)); exact BK261.out⟩, ⟨hq2 HB GE260 GE261⟩⟩
 clear HC3; (try clear c1); (try clear p2); (try clear c3); (try clear c7); (try clear c9); (try clear c12); (try clear hcz10_0); (try clear hcz13_0); (try clear hfz10_0); (try clear hfz13_0); obtain ⟨kq, x15_2, rfl, HA, HJ2, BK260, BK261, HB⟩ := hcut; obtain _ | kj2 := kq
 · exact absurd HA.out (by simp [impl_ShiftBig.j0])
 have H := HA.out; clear HA
 simp only [impl_ShiftBig.j0] at H
 by_cases c15 : x15_2 = true
 · subst c15
   have H1 : (some (([] : List Int), false)) = some (r1, r2) := by rw [if_pos rfl] at H; exact H
   clear H; have H := H1; clear H1
   simp only [Option.some.injEq, Prod.mk.injEq] at H
   obtain ⟨rfl, rfl⟩ := H; have hnb16 := NB261_260.out; have hnc16 := NB260_261.out
   have hcz17_0 : wc.cell? ⟨gb261, 0, none⟩ = some (.slice none 0 0) := (blk_cell BK261.out 0).trans rfl
   have hfz17_0 := blk_frozen BK261.out 0
   go_wp2
   refine bodyPost_ret (results_ct rfl _ _ gb261 25 #[.slice none 0 0] (0, 0) _ rfl (by (with_reducible repeat (first | refine blk_drewN ?_ _ | refine blk_drew ?_ | refine blk_alloc ?_ _)); refine blk_put (cs := #[.slice none 0 0]) ?_ 0 _ rfl; (with_reducible repeat (first | refine blk_drewN ?_ _ | refine blk_drew ?_ | refine blk_alloc ?_ _)); exact BK261.out) Try.underlying25 rfl (by kernel_rfl)) rfl ?_
   exact ⟨_, by first | rfl | (simp <;> rfl) | (simp [*] <;> rfl), by first | exact Kd.R_nil _ _ _ _ _ | exact Kd.R_nil _ _ _ 0 _ | exact Kd.N_nil _ _ _ _ _ | exact Kd.V_nil _ _ _ _ _ | exact Kd.Q_nil _ _ _ _ _ | exact Kd.S_nil _ _ _ _ _, hq2 HB GE260 GE261⟩
 replace c15 := Bool.eq_false_iff.mpr c15; subst c15
 have H1 : (if a1 < 0 then ((impl_power2.f (wrap64 (-a1))).bind fun t264 => ((impl_divide.f kj2 l0_0 t264).bind fun bt267 => (some (bt267.1, true)))) else ((impl_power2.f a1).bind fun t273 => ((impl_times.f kj2 l0_0 t273).bind fun t276 => ((impl_told.f kj2 t276).bind fun bt279 => (some (bt279.1, bt279.2)))))) = some (r1, r2) := by rw [if_neg (show ¬ (false = true) by decide)] at H; exact H
 clear H; have H := H1; clear H1
 by_cases c18 : a1 < 0
 · rw [if_pos c18] at H
   have c18b0 : decide (a1 < 0) = true := decide_eq_true c18
   clear c18; replace H := Option.bind_eq_some_iff.mp H; obtain ⟨t264, A190, H⟩ := H; (try dsimp only at H); have A19 := Aside0.mk A190; clear A190; replace H := Option.bind_eq_some_iff.mp H; obtain ⟨⟨t267, t268⟩, A200, H⟩ := H; (try dsimp only at H); have A20 := Aside0.mk A200; clear A200
   simp only [Option.some.injEq, Prod.mk.injEq] at H
   obtain ⟨rfl, rfl⟩ := H
   try go_wp2
   replace BK260 := Aside0.mk (blk_drew BK260.out); replace BK261 := Aside0.mk (blk_drew BK261.out); replace HB := Aside0.mk (below_drew1 HB.out)
   refine start_ (n := 11) (S := fun w' => w'.cell? ⟨gb260, 0, none⟩ = some (.slice A0_0 l0_0.length c0_0)) (ds := []) #[false, false, false, false, false, false, false, false, false, false, false] (by kernel_rfl) rfl rfl ((blk_cell BK260.out 0).trans rfl) (fun hHeld => ?_); refine with_tabW impl_ShiftBig.tab4 impl_ShiftBig.bits4 (fun HT_ HW_ => ?_)
   generalize wc.drew = w21 at BK260 BK261 HB hHeld ⊢
   refine pz (a' := ?_) 0 20 ?_ (bz 11 1) rfl rfl HT_ (Or.inl ⟨by rfl, ?_⟩) ?_ ?_
   rotate_left
   · intro w'
     first | (go_simp; with_reducible rfl) | (go_simp; unfold Instr.field; go_simp; rfl)
   rotate_left
   · simp only [Act.put, List.setIfInBounds_toArray, List.set_cons_zero, List.set_cons_succ, i64_w, i32_w]
     rfl
   refine pz (a' := ?_) 2 22 ?_ (bz 11 5) rfl rfl HT_ (Or.inl ⟨by rfl, ?_⟩) ?_ ?_
   rotate_left
   · intro w'
     first | (go_simp; with_reducible rfl) | (go_simp; unfold Instr.field; go_simp; rfl)
   rotate_left
   · simp only [Act.put, List.setIfInBounds_toArray, List.set_cons_zero, List.set_cons_succ, i64_w, i32_w]
     rfl
   refine pz (a' := ?_) 3 23 ?_ (bz 11 13) rfl rfl HT_ (Or.inl ⟨by rfl, ?_⟩) ?_ ?_
   rotate_left
   · intro w'
     first | (go_simp; with_reducible rfl) | (go_simp; unfold Instr.field; go_simp; rfl)
   rotate_left
   · simp only [Act.put, List.setIfInBounds_toArray, List.set_cons_zero, List.set_cons_succ, i64_w, i32_w]
     rfl
   refine take_ (i := 1) (N := some 21) (v := ?_) (a' := ?_) (bz 11 15) rfl rfl (take_ofW HT_.out HW_.out (by kernel_rfl)) (fun _ _ _ h => h) (Or.inl ⟨by rfl, ?_⟩) hHeld ?_ ?_
   rotate_left
   · intro w' s0
     go_simp
     with_reducible rfl
   rotate_left
   · simp only [Act.put, List.setIfInBounds_toArray, List.set_cons_zero, List.set_cons_succ, i64_w, i32_w]
     rfl
   refine one_ (i := 4) (N := some 24) (bz 11 31) rfl rfl (one_of HT_.out (by kernel_rfl)) (by decide) (fun K hK => ?_)
   refine goes_ Try.func99 (by kernel_rfl) rfl #[.int .i64 (wrap64 (-a1))] (by rfl) rfl rfl (by (try simp only [List.map_toArray, List.map_cons, List.map_nil]); first | done | rfl | (simp only [List.length_drop, List.length_take]; rfl)) ?_
   with_reducible refine (impl_power2.calls (wrap64 (-a1)) t264 _ A19.out).mono ?_
   rintro e w22 ⟨v265, rfl, ho0, hb⟩
   refine ⟨_, rfl, ?_⟩; have HO266 := Aside0.mk (Kd.R_lower ho0 (below_size (hq2 HB GE260 GE261))); replace BK260 := cB BK260 hb; replace BK261 := cB BK261 hb; replace HB := cs (hq2 HB GE260 GE261) hb; (try clear hb); (try clear hb2); (try clear hk); (try clear hi); (try clear ho0); obtain ⟨Ao23, co23, eo23⟩ := Kd.R_slice HO266.out
   (first | subst eo23 | (injection eo23 with f1_ f2_ f3_; have f4_ := f1_.symm; have f5_ := f3_.symm; clear f1_ f2_ f3_; subst f4_; subst f5_))
   refine hK.out _ _ ((blk_cell BK260.out 0).trans rfl) (fun hHeld => ?_)
   clear hK K
   refine norm_ (a' := ?_) ?_ ?_
   rotate_left
   · show Act.put _ (some 24) _ = _
     simp only [Act.put, List.setIfInBounds_toArray, List.set_cons_zero, List.set_cons_succ, i64_w, i32_w]
     rfl
   refine one_ (i := 5) (N := some 25) (bz 11 63) rfl rfl (one_of HT_.out (by kernel_rfl)) (by decide) (fun K hK => ?_)
   refine goes_ Try.func80 (by kernel_rfl) rfl #[.slice A0_0 l0_0.length c0_0, .slice Ao23 t264.length co23] (by rfl) rfl rfl (by (try simp only [List.map_toArray, List.map_cons, List.map_nil]); first | done | rfl | (simp only [List.length_drop, List.length_take]; rfl)) ?_
   with_reducible refine (impl_divide.calls kj2 _ _ l0_0 _ _ t264 t267 t268 _ ?side1 ?side2 ?side3 ?side4 A20.out).mono ?_
   (case side1 => exact cq (Kd.C_below HR0_0.out HB.out))
   (case side2 => exact HC0_0.out)
   (case side3 => exact cq ((Kd.R_reads' HO266.out).2.2))
   (case side4 => exact (Kd.R_reads' HO266.out).2.1)
   rintro e w24 ⟨v269, v271, rfl, ho0, ho1, hb⟩
   refine ⟨_, rfl, ?_⟩
   have n0_ := Aside0.mk (Kd.R_mono (Kd.R_told (Kd.R_told (Kd.R_old (rq HO266) hb) (Kd.R_base ho0)) (Kd.R_base ho1)) (fun _ h_ => h_.1))
   have HO270 := Aside0.mk (Kd.R_lower (Kd.R_new' ho0 (ql HO266)) (below_size (hq2 HB GE260 GE261))); have HO272 := Aside0.mk (Kd.R_lower (Kd.R_new' ho1 (ql HO266)) (below_size (hq2 HB GE260 GE261))); replace BK260 := cB BK260 hb; replace BK261 := cB BK261 hb; replace HB := cs (hq2 HB GE260 GE261) hb; replace HO266 := n0_; clear n0_; (try clear hb); (try clear hb2); (try clear hk); (try clear hi); (try clear ho0); (try clear ho1)
   refine hK.out _ _ ((blk_cell BK260.out 0).trans rfl) (fun hHeld => ?_)
   clear hK K
   refine norm_ (a' := ?_) ?_ ?_
   rotate_left
   · show Act.put _ (some 25) _ = _
     simp only [Act.put, List.setIfInBounds_toArray, List.set_cons_zero, List.set_cons_succ, i64_w, i32_w]
     rfl
   refine pz (a' := ?_) 6 19 ?_ (bz 11 127) rfl rfl HT_ (Or.inl ⟨by rfl, ?_⟩) ?_ ?_
   rotate_left
   · intro w'
     first | (go_simp; with_reducible rfl) | (go_simp; unfold Instr.field; go_simp; rfl)
   rotate_left
   · simp only [Act.put, List.setIfInBounds_toArray, List.set_cons_zero, List.set_cons_succ, i64_w, i32_w]
     rfl
   refine pz (a' := ?_) 7 26 ?_ (bz 11 255) rfl rfl HT_ (Or.inl ⟨by rfl, ?_⟩) ?_ ?_
   rotate_left
   · intro w'
     first | (go_simp; with_reducible rfl) | (go_simp; unfold Instr.field; go_simp; rfl)
   rotate_left
   · simp only [Act.put, List.setIfInBounds_toArray, List.set_cons_zero, List.set_cons_succ, i64_w, i32_w]
     rfl
   refine pz (a' := ?_) 8 27 ?_ (bz 11 511) rfl rfl HT_ (Or.inl ⟨by rfl, ?_⟩) ?_ ?_
   rotate_left
   · intro w'
     first | (go_simp; with_reducible rfl) | (go_simp; unfold Instr.field; go_simp; rfl)
   rotate_left
   · simp only [Act.put, List.setIfInBounds_toArray, List.set_cons_zero, List.set_cons_succ, i64_w, i32_w]
     rfl
   refine pz (a' := ?_) 9 6 ?_ (bz 11 1023) rfl rfl HT_ (Or.inl ⟨by rfl, ?_⟩) ?_ ?_
   rotate_left
   · intro w'
     first | (go_simp; with_reducible rfl) | (go_simp; unfold Instr.field; go_simp; rfl)
   rotate_left
   · simp only [Act.put, List.setIfInBounds_toArray, List.set_cons_zero, List.set_cons_succ, i64_w, i32_w]
     rfl
   refine pz (a' := ?_) 10 7 ?_ (bz 11 2047) rfl rfl HT_ (Or.inl ⟨by rfl, ?_⟩) ?_ ?_
   rotate_left
   · intro w'
     first | (go_simp; with_reducible rfl) | (go_simp; unfold Instr.field; go_simp; rfl)
   rotate_left
   · simp only [Act.put, List.setIfInBounds_toArray, List.set_cons_zero, List.set_cons_succ, i64_w, i32_w]
     rfl
   refine done_ (done_of HT_.out (by kernel_rfl)) ?_
   obtain ⟨Ao25, co25, eo25⟩ := Kd.R_slice HO270.out; subst eo25; have hnb26 := NB261_260.out; have hnc26 := NB260_261.out
   have hcz27_0 : w24.cell? ⟨gb261, 0, none⟩ = some (.slice none 0 0) := (blk_cell BK261.out 0).trans rfl
   have hfz27_0 := blk_frozen BK261.out 0
   try go_wp2
   refine bodyPost_ret (results_ct rfl _ _ gb261 25 #[.slice Ao25 t267.length co25] (0, 0) _ rfl (by (with_reducible repeat (first | refine blk_drewN ?_ _ | refine blk_drew ?_ | refine blk_alloc ?_ _)); refine blk_put (cs := #[.slice none 0 0]) ?_ 0 _ rfl; (with_reducible repeat (first | refine blk_drewN ?_ _ | refine blk_drew ?_ | refine blk_alloc ?_ _)); exact BK261.out) Try.underlying25 rfl (by kernel_rfl)) rfl ?_
   exact ⟨_, by first | rfl | (simp <;> rfl) | (simp [*] <;> rfl), by (with_reducible repeat (first | apply Kd.R_alloc | apply Kd.R_drewN | apply Kd.R_drew)); exact Kd.R_mono (Kd.R_far (p := ⟨gb261, 0, none⟩) (Kd.R_types HO270.out BK261.out (by decide)) (fun _ hk => hk.2) (.slice Ao25 t267.length co25)) (fun _ hk => trivial), hq2 HB GE260 GE261⟩
 rw [if_neg c18] at H
 have c18b0 : decide (a1 < 0) = false := decide_eq_false c18
 clear c18; replace H := Option.bind_eq_some_iff.mp H; obtain ⟨t273, A280, H⟩ := H; (try dsimp only at H); have A28 := Aside0.mk A280; clear A280; replace H := Option.bind_eq_some_iff.mp H; obtain ⟨t276, A290, H⟩ := H; (try dsimp only at H); have A29 := Aside0.mk A290; clear A290; replace H := Option.bind_eq_some_iff.mp H; obtain ⟨⟨t279, t282⟩, A300, H⟩ := H; (try dsimp only at H); have A30 := Aside0.mk A300; clear A300
 simp only [Option.some.injEq, Prod.mk.injEq] at H
 obtain ⟨rfl, rfl⟩ := H
 try go_wp2
 replace BK260 := Aside0.mk (blk_drew BK260.out); replace BK261 := Aside0.mk (blk_drew BK261.out); replace HB := Aside0.mk (below_drew1 HB.out)
 refine start_ (n := 10) (S := fun w' => w'.cell? ⟨gb260, 0, none⟩ = some (.slice A0_0 l0_0.length c0_0)) (ds := []) #[false, false, false, false, false, false, false, false, false, false] (by kernel_rfl) rfl rfl ((blk_cell BK260.out 0).trans rfl) (fun hHeld => ?_); refine with_tabW impl_ShiftBig.tab6 impl_ShiftBig.bits6 (fun HT_ HW_ => ?_)
 generalize wc.drew = w31 at BK260 BK261 HB hHeld ⊢
 refine pz (a' := ?_) 0 30 ?_ (bz 10 1) rfl rfl HT_ (Or.inl ⟨by rfl, ?_⟩) ?_ ?_
 rotate_left
 · intro w'
   first | (go_simp; with_reducible rfl) | (go_simp; unfold Instr.field; go_simp; rfl)
 rotate_left
 · simp only [Act.put, List.setIfInBounds_toArray, List.set_cons_zero, List.set_cons_succ, i64_w, i32_w]
   rfl
 refine pz (a' := ?_) 2 32 ?_ (bz 10 5) rfl rfl HT_ (Or.inl ⟨by rfl, ?_⟩) ?_ ?_
 rotate_left
 · intro w'
   first | (go_simp; with_reducible rfl) | (go_simp; unfold Instr.field; go_simp; rfl)
 rotate_left
 · simp only [Act.put, List.setIfInBounds_toArray, List.set_cons_zero, List.set_cons_succ, i64_w, i32_w]
   rfl
 refine take_ (i := 1) (N := some 31) (v := ?_) (a' := ?_) (bz 10 7) rfl rfl (take_ofW HT_.out HW_.out (by kernel_rfl)) (fun _ _ _ h => h) (Or.inl ⟨by rfl, ?_⟩) hHeld ?_ ?_
 rotate_left
 · intro w' s0
   go_simp
   with_reducible rfl
 rotate_left
 · simp only [Act.put, List.setIfInBounds_toArray, List.set_cons_zero, List.set_cons_succ, i64_w, i32_w]
   rfl
 refine one_ (i := 3) (N := some 33) (bz 10 15) rfl rfl (one_of HT_.out (by kernel_rfl)) (by decide) (fun K hK => ?_)
 refine goes_ Try.func99 (by kernel_rfl) rfl #[.int .i64 a1] (by rfl) rfl rfl (by (try simp only [List.map_toArray, List.map_cons, List.map_nil]); first | done | rfl | (simp only [List.length_drop, List.length_take]; rfl)) ?_
 with_reducible refine (impl_power2.calls a1 t273 _ A28.out).mono ?_
 rintro e w32 ⟨v274, rfl, ho0, hb⟩
 refine ⟨_, rfl, ?_⟩; have HO275 := Aside0.mk (Kd.R_lower ho0 (below_size (hq2 HB GE260 GE261))); replace BK260 := cB BK260 hb; replace BK261 := cB BK261 hb; replace HB := cs (hq2 HB GE260 GE261) hb; (try clear hb); (try clear hb2); (try clear hk); (try clear hi); (try clear ho0); obtain ⟨Ao33, co33, eo33⟩ := Kd.R_slice HO275.out
 (first | subst eo33 | (injection eo33 with f1_ f2_ f3_; have f4_ := f1_.symm; have f5_ := f3_.symm; clear f1_ f2_ f3_; subst f4_; subst f5_))
 refine hK.out _ _ ((blk_cell BK260.out 0).trans rfl) (fun hHeld => ?_)
 clear hK K
 refine norm_ (a' := ?_) ?_ ?_
 rotate_left
 · show Act.put _ (some 33) _ = _
   simp only [Act.put, List.setIfInBounds_toArray, List.set_cons_zero, List.set_cons_succ, i64_w, i32_w]
   rfl
 refine one_ (i := 4) (N := some 34) (bz 10 31) rfl rfl (one_of HT_.out (by kernel_rfl)) (by decide) (fun K hK => ?_)
 refine goes_ Try.func87 (by kernel_rfl) rfl #[.slice A0_0 l0_0.length c0_0, .slice Ao33 t273.length co33] (by rfl) rfl rfl (by (try simp only [List.map_toArray, List.map_cons, List.map_nil]); first | done | rfl | (simp only [List.length_drop, List.length_take]; rfl)) ?_
 with_reducible refine (impl_times.calls kj2 _ _ l0_0 _ _ t273 t276 _ ?side1 ?side2 ?side3 ?side4 A29.out).mono ?_
 (case side1 => exact cq (Kd.C_below HR0_0.out HB.out))
 (case side2 => exact HC0_0.out)
 (case side3 => exact cq ((Kd.R_reads' HO275.out).2.2))
 (case side4 => exact (Kd.R_reads' HO275.out).2.1)
 rintro e w34 ⟨v277, rfl, ho0, hb⟩
 refine ⟨_, rfl, ?_⟩; have n0_ := ce HO275 ho0 hb; have HO278 := Aside0.mk (Kd.R_lower (Kd.R_new' ho0 (ql HO275)) (below_size (hq2 HB GE260 GE261))); replace BK260 := cB BK260 hb; replace BK261 := cB BK261 hb; replace HB := cs (hq2 HB GE260 GE261) hb; replace HO275 := n0_; clear n0_; (try clear hb); (try clear hb2); (try clear hk); (try clear hi); (try clear ho0); obtain ⟨Ao35, co35, eo35⟩ := Kd.R_slice HO278.out
 (first | subst eo35 | (injection eo35 with f1_ f2_ f3_; have f4_ := f1_.symm; have f5_ := f3_.symm; clear f1_ f2_ f3_; subst f4_; subst f5_))
 refine hK.out _ _ ((blk_cell BK260.out 0).trans rfl) (fun hHeld => ?_)
 clear hK K
 refine norm_ (a' := ?_) ?_ ?_
 rotate_left
 · show Act.put _ (some 34) _ = _
   simp only [Act.put, List.setIfInBounds_toArray, List.set_cons_zero, List.set_cons_succ, i64_w, i32_w]
   rfl
 refine one_ (i := 5) (N := some 35) (bz 10 63) rfl rfl (one_of HT_.out (by kernel_rfl)) (by decide) (fun K hK => ?_)
 refine goes_ Try.func75 (by kernel_rfl) rfl #[.slice Ao35 t276.length co35] (by rfl) rfl rfl (by (try simp only [List.map_toArray, List.map_cons, List.map_nil]); first | done | rfl | (simp only [List.length_drop, List.length_take]; rfl)) ?_
 with_reducible refine (impl_told.calls kj2 (fun k_ => some k_ = (.slice Ao35 t276.length co35 : Value).ownBlock) (.slice Ao35 t276.length co35) t276 t279 t282 w _ ?side1 ?side2 A30.out).mono ?_
 (case side1 => repeat (first | (with_reducible first | exact HB.out | apply below_alloc | apply pw_below_drewN | apply below_drew1 | refine below_set ?_ GE260.out | refine below_set ?_ GE261.out) | exact HB.out))
 (case side2 => exact Kd.R_tight rfl HO278.out)
 rintro e w36 ⟨v280, rfl, ho0, hb, hkp⟩
 refine ⟨_, rfl, ?_⟩
 replace BK260 := Aside0.mk (blk_kept (bq BK260) hkp (fun hs_ => (fun e_ => (Kd.R_ne HO278.out BK260.out (by decide)) e_) hs_))
 replace BK261 := Aside0.mk (blk_kept (bq BK261) hkp (fun hs_ => (fun e_ => (Kd.R_ne HO278.out BK261.out (by decide)) e_) hs_))
 have n2_ := Aside0.mk (Kd.R_mono (ok' := fun k_ => some k_ ≠ (v280 : Value).ownBlock) (Kd.R_keptB (HO275.out) hkp (fun k_ hk_ hs_ => (hk_.2) hs_)) (fun k_ hk_ => fun e_ => Or.elim (ho0.1 k_ e_.symm) (fun hs_ => hk_.2.1 hs_) (fun hn_ => Nat.not_le.2 hk_.2.2 hn_)))
 have HO281 := Aside0.mk (Kd.R_mono (ok' := fun k_ => some k_ ≠ (.slice Ao33 t273.length co33 : Value).ownBlock) ho0 (fun k_ hk_ => Or.elim hk_ (fun hs_ => fun e_ => (((HO275.out).1 k_ e_.symm).2) hs_) (fun hn_ => (Kd.fresh' (ql HO275) k_ hn_))))
 replace HB := Aside0.mk (hb); replace HO275 := n2_; clear n2_ HO278; (try clear hb); (try clear hkp); (try clear ho0); obtain ⟨Ao37, co37, eo37⟩ := Kd.R_slice HO281.out
 (first | subst eo37 | (injection eo37 with f1_ f2_ f3_; have f4_ := f1_.symm; have f5_ := f3_.symm; clear f1_ f2_ f3_; subst f4_; subst f5_))
 refine hK.out _ _ ((blk_cell BK260.out 0).trans rfl) (fun hHeld => ?_)
 clear hK K
 refine norm_ (a' := ?_) ?_ ?_
 rotate_left
 · show Act.put _ (some 35) _ = _
   simp only [Act.put, List.setIfInBounds_toArray, List.set_cons_zero, List.set_cons_succ, i64_w, i32_w]
   rfl
 refine pz (a' := ?_) 6 36 ?_ (bz 10 127) rfl rfl HT_ (Or.inl ⟨by rfl, ?_⟩) ?_ ?_
 rotate_left
 · intro w'
   first | (go_simp; with_reducible rfl) | (go_simp; unfold Instr.field; go_simp; rfl)
 rotate_left
 · simp only [Act.put, List.setIfInBounds_toArray, List.set_cons_zero, List.set_cons_succ, i64_w, i32_w]
   rfl
 refine pz (a' := ?_) 7 37 ?_ (bz 10 255) rfl rfl HT_ (Or.inl ⟨by rfl, ?_⟩) ?_ ?_
 rotate_left
 · intro w'
   first | (go_simp; with_reducible rfl) | (go_simp; unfold Instr.field; go_simp; rfl)
 rotate_left
 · simp only [Act.put, List.setIfInBounds_toArray, List.set_cons_zero, List.set_cons_succ, i64_w, i32_w]
   rfl
 refine one_ (i := 8) (N := none) (bz 10 511) rfl rfl (one_of HT_.out (by kernel_rfl)) (by decide) (fun K hK => ?_)
 have hs38 : w36.cell? ⟨gb261, 0, none⟩ = some (.slice none 0 0) := (blk_cell BK261.out 0).trans rfl
 have hfs38 := blk_frozen BK261.out 0; have hns38_0 := NB260_261.out; have hms38_0 := NB261_260.out
 refine skip_ (w1 := ?_) (by rfl) rfl ?_ ?_
 rotate_left
 · go_simp
   rfl
 refine hK.out _ _ (((cell_far (p := ⟨gb261, _, none⟩) NB260_261.out _).trans (hHeld))) (fun hHeld => ?_)
 clear hK K
 refine pz (a' := ?_) 9 5 ?_ (bz 10 1023) rfl rfl HT_ (Or.inl ⟨by rfl, ?_⟩) ?_ ?_
 rotate_left
 · intro w'
   first | (go_simp; with_reducible rfl) | (go_simp; unfold Instr.field; go_simp; rfl)
 rotate_left
 · simp only [Act.put, List.setIfInBounds_toArray, List.set_cons_zero, List.set_cons_succ, i64_w, i32_w]
   rfl
 refine done_ (done_of HT_.out (by kernel_rfl)) ?_
 try go_wp2
 refine bodyPost_ret (results_ct rfl _ _ gb261 25 #[.slice Ao37 t279.length co37] (0, 0) _ rfl (by (with_reducible repeat (first | refine blk_drewN ?_ _ | refine blk_drew ?_ | refine blk_alloc ?_ _)); refine blk_put (cs := #[.slice none 0 0]) ?_ 0 _ rfl; (with_reducible repeat (first | refine blk_drewN ?_ _ | refine blk_drew ?_ | refine blk_alloc ?_ _)); exact BK261.out) Try.underlying25 rfl (by kernel_rfl)) rfl ?_
 exact ⟨_, by first | rfl | (simp <;> rfl) | (simp [*] <;> rfl), by (with_reducible repeat (first | apply Kd.R_alloc | apply Kd.R_drewN | apply Kd.R_drew)); exact Kd.R_mono (Kd.R_far (p := ⟨gb261, 0, none⟩) (Kd.R_types HO281.out BK261.out (by decide)) (fun _ hk => hk.2) (.slice Ao37 t279.length co37)) (fun _ hk => trivial), hq2 HB GE260 GE261⟩

/-! ### spec_l1In: function 95 -/
def spec_l1In.f (a0 : Int) (a1 : Int) (a2 : Int) : Option (Bool) := if a0 ≥ a1 then (some (decide (a0 ≤ a2))) else (some false)
set_option maxHeartbeats 8000000 in
set_option maxRecDepth 100000 in
theorem spec_l1In.calls (a0 : Int) (a1 : Int) (a2 : Int) (r : Bool) (w : World) (h : spec_l1In.f a0 a1 a2 = some r) :
    Calls Try.prog 95 #[.int .i64 a0, .int .i64 a1, .int .i64 a2] w fun e w' => e = .returned (.bool r) ∧ Drawn0 w w' := by
 have H : (if a0 ≥ a1 then (some (decide (a0 ≤ a2))) else (some false)) = some r := h
 clear h
 by_cases c4 : a0 ≥ a1
 · rw [if_pos c4] at H
   have c4b0 : decide (a1 ≤ a0) = true := decide_eq_true c4
   clear c4; obtain rfl := Option.some.inj H
   go_enter Try.func95, Try.ntmps95
   go_wp2
   go_ret
   exact ⟨by first | rfl | (simp; done) | (simp [*]; done), by repeat (first | exact Drawn0.refl _ | apply Drawn0.step)⟩
 rw [if_neg c4] at H
 have c4b0 : decide (a1 ≤ a0) = false := decide_eq_false c4
 clear c4; obtain rfl := Option.some.inj H
 go_enter Try.func95, Try.ntmps95
 go_wp2
 go_ret
 exact ⟨by first | rfl | (simp; done) | (simp [*]; done), by repeat (first | exact Drawn0.refl _ | apply Drawn0.step)⟩

/-! ### spec_l1All: function 84 -/
def spec_l1All.l0 : Nat → Int → Int → List Int → Int → Int → Option (Bool)
  | 0, _, _, _, _, _ => none
  | k + 1, x1, x2, x9, x10, x11 => if x11 < x10 then (if 0 ≤ x11 then (if x11 < (x9.length : Int) then ((spec_l1In.f (rd x9 x11) x1 x2).bind fun t284 => (if t284 = true then (spec_l1All.l0 k x1 x2 x9 x10 (wrap64 (x11 + 1))) else (some false))) else (none)) else (none)) else (some true)
def spec_l1All.f (k : Nat) (l0 : List Int) (a1 : Int) (a2 : Int) : Option (Bool) := spec_l1All.l0 k a1 a2 l0 (l0.length : Int) 0
set_option maxHeartbeats 8000000 in
set_option maxRecDepth 100000 in
theorem spec_l1All.calls (k : Nat) (A0 : Option Addr) (c0 : Nat) (l0 : List Int) (a1 : Int) (a2 : Int) (r : Bool) (w : World) (hr0 : Kd.C (Kd.int .i64) w A0 l0.length l0) (hc0 : l0.length ≤ c0) (h : spec_l1All.f k l0 a1 a2 = some r) :
    Calls Try.prog 84 #[.slice A0 l0.length c0, .int .i64 a1, .int .i64 a2] w fun e w' => e = .returned (.bool r) ∧ Drawn0 w w' := by
 have HR0 := Aside0.mk hr0; have HC0 := Aside0.mk hc0; clear hr0 hc0
 have H : (spec_l1All.l0 k a1 a2 l0 (l0.length : Int) 0) = some r := h
 clear h
 have H' := Aside0.mk H
 clear H
 go_enter Try.func84, Try.ntmps84
 go_wp2
 go_loopg [11] k (fun kq v11 w' => ∃ (x11_1 : Int), v11 = .int .i64 x11_1 ∧ Aside0 (spec_l1All.l0 kq a1 a2 l0 (l0.length : Int) x11_1 = some r) ∧ Aside0 (kq ≤ k) ∧ Drawn0 w w')
 case atStart => exact ⟨(0), (by first | rfl | (simp; done) | (simp [*]; done)), H', ⟨Nat.le_refl _⟩, by repeat (first | exact Drawn0.refl _ | apply Drawn0.step)⟩
 case round =>
   clear H'
   (try clear p2); obtain ⟨x11_1, rfl, HA, HK1, ⟨m1, rfl⟩⟩ := hrel
   cases gk with
   | zero => exact absurd HA.out (by simp [spec_l1All.l0])
   | succ k1 =>
     have H := HA.out; clear HA
     simp only [spec_l1All.l0] at H
     by_cases c4 : x11_1 < (l0.length : Int)
     · rw [if_pos c4] at H
       have c4b0 : decide (x11_1 < (l0.length : Int)) = true := decide_eq_true c4
       clear c4
       by_cases c5 : 0 ≤ x11_1
       · rw [if_pos c5] at H
         have c5b0 : decide (0 ≤ x11_1) = true := decide_eq_true c5
         clear c5
         by_cases c6 : x11_1 < (l0.length : Int)
         · rw [if_pos c6] at H
           have c6b0 : decide (x11_1 < (l0.length : Int)) = true := decide_eq_true c6
           clear c6; replace H := Option.bind_eq_some_iff.mp H; obtain ⟨t284, A70, H⟩ := H; (try dsimp only at H); have A7 := Aside0.mk A70; clear A70
           by_cases c8 : t284 = true
           · subst c8
             have H1 : (spec_l1All.l0 k1 a1 a2 l0 (l0.length : Int) (wrap64 (x11_1 + 1))) = some r := by rw [if_pos rfl] at H; exact H
             clear H; have H := H1; clear H1
             have H' := Aside0.mk H
             clear H
             have p283 : 0 ≤ (x11_1 : Int) := of_decide_eq_true (by first | (with_reducible assumption) | assumption)
             have q283 : x11_1 < (l0.length : Int) := of_decide_eq_true (by first | (with_reducible assumption) | assumption)
             obtain ⟨ad283, e283, hx283_0⟩ := Kd.at_int HR0.out x11_1 p283 q283
             cases e283
             replace p283 := eq_true p283; replace q283 := eq_true q283
             go_wp2_with (first | ((with_reducible refine gate_callee (f := 95) rfl ?_); refine gC (some 18) Try.func95 #[.int .i64 (rd l0 x11_1), .int .i64 a1, .int .i64 a2] ?_; (with_reducible refine (spec_l1In.calls (rd l0 x11_1) a1 a2 true _ A7.out).mono ?_); rintro e w' ⟨rfl, ⟨nd, rfl⟩⟩; refine ⟨_, rfl, ?_⟩))
             go_roundg k1
             case measure => have := HK1.out; omega
             case rel => exact ⟨(wrap64 (x11_1 + 1)), (by first | rfl | (simp; done) | (simp [*]; done)), H', ⟨by have := HK1.out; omega⟩, by repeat (first | exact Drawn0.refl _ | apply Drawn0.step)⟩
           · replace c8 := Bool.eq_false_iff.mpr c8
             subst c8
             have H1 : (some false) = some r := by rw [if_neg (show ¬ (false = true) by decide)] at H; exact H
             clear H; have H := H1; clear H1; obtain rfl := Option.some.inj H
             have p283 : 0 ≤ (x11_1 : Int) := of_decide_eq_true (by first | (with_reducible assumption) | assumption)
             have q283 : x11_1 < (l0.length : Int) := of_decide_eq_true (by first | (with_reducible assumption) | assumption)
             obtain ⟨ad283, e283, hx283_0⟩ := Kd.at_int HR0.out x11_1 p283 q283
             cases e283
             replace p283 := eq_true p283; replace q283 := eq_true q283
             go_wp2_with (first | ((with_reducible refine gate_callee (f := 95) rfl ?_); refine gC (some 18) Try.func95 #[.int .i64 (rd l0 x11_1), .int .i64 a1, .int .i64 a2] ?_; (with_reducible refine (spec_l1In.calls (rd l0 x11_1) a1 a2 false _ A7.out).mono ?_); rintro e w' ⟨rfl, ⟨nd, rfl⟩⟩; refine ⟨_, rfl, ?_⟩))
             go_ret
             exact ⟨by first | rfl | (simp; done) | (simp [*]; done), by repeat (first | exact Drawn0.refl _ | apply Drawn0.step)⟩
         · rw [if_neg c6] at H
           exact absurd H (by simp)
       · rw [if_neg c5] at H
         exact absurd H (by simp)
     · rw [if_neg c4] at H
       have c4b0 : decide (x11_1 < (l0.length : Int)) = false := decide_eq_false c4
       clear c4; obtain rfl := Option.some.inj H
       go_wp2
       go_ret
       exact ⟨by first | rfl | (simp; done) | (simp [*]; done), by repeat (first | exact Drawn0.refl _ | apply Drawn0.step)⟩

/-! ### spec_GoodBig: function 20 -/
def spec_GoodBig.f (k : Nat) (l0_0 : List Int) : Option (Bool) := if (l0_0.length : Int) ≤ 6 then ((spec_l1All.f k l0_0 0 65535).bind fun t286 => (if t286 = true then (if (l0_0.length : Int) = 0 then (some true) else (if 0 ≤ (wrap64 ((l0_0.length : Int) - 1)) then (if (wrap64 ((l0_0.length : Int) - 1)) < (l0_0.length : Int) then (some ((rd l0_0 (wrap64 ((l0_0.length : Int) - 1))) != 0)) else (none)) else (none))) else (some false))) else (some false)
set_option maxHeartbeats 8000000 in
set_option maxRecDepth 100000 in
theorem spec_GoodBig.calls (k : Nat) (A0_0 : Option Addr) (c0_0 : Nat) (l0_0 : List Int) (r : Bool) (w : World) (hr0_0 : Kd.C (Kd.int .i64) w A0_0 l0_0.length l0_0) (hc0_0 : l0_0.length ≤ c0_0) (h : spec_GoodBig.f k l0_0 = some r) :
    Calls Try.prog 20 #[.agg #[.slice A0_0 l0_0.length c0_0]] w fun e w' => e = .returned (.bool r) ∧ Below w.heap.size w w' := by
 have hu25 := Try.underlying25; have HR0_0 := Aside0.mk hr0_0; have HC0_0 := Aside0.mk hc0_0; clear hr0_0 hc0_0; have HB := Aside0.mk (Below.refl w.heap.size w)
 have H : (if (l0_0.length : Int) ≤ 6 then ((spec_l1All.f k l0_0 0 65535).bind fun t286 => (if t286 = true then (if (l0_0.length : Int) = 0 then (some true) else (if 0 ≤ (wrap64 ((l0_0.length : Int) - 1)) then (if (wrap64 ((l0_0.length : Int) - 1)) < (l0_0.length : Int) then (some ((rd l0_0 (wrap64 ((l0_0.length : Int) - 1))) != 0)) else (none)) else (none))) else (some false))) else (some false)) = some r := h
 clear h
 by_cases c2 : (l0_0.length : Int) ≤ 6
 rotate_left
 · rw [if_neg c2] at H
   have c2b0 : decide ((l0_0.length : Int) ≤ 6) = false := decide_eq_false c2
   have c2b1 : decide (l0_0.length ≤ 6) = false := decide_eq_false (by omega)
   clear c2; obtain rfl := Option.some.inj H
   go_enter Try.func20, Try.ntmps20
   go_wp2_with (first | ((with_reducible refine gate_dst (N := 1) rfl ?_); refine bX #[.slice A0_0 l0_0.length c0_0] 25 ?_; intro gb285 hg w15 hbox hb; have n0_ := cs (hq HB) hb; have BK285 := Aside0.mk (hbox); have GW285 := cg hg (hq HB); have GE285 := cg hg (hq HB); replace HB := n0_; clear n0_; clear hb hbox hg; have hcz16_0 : w15.cell? ⟨gb285, 0, none⟩ = some (.slice A0_0 l0_0.length c0_0) := (blk_cell BK285.out 0).trans rfl; have hfz16_0 := blk_frozen BK285.out 0))
   go_ret
   exact ⟨by first | rfl | (simp <;> rfl) | (simp [*] <;> rfl), hq1 HB GE285⟩

 rw [if_pos c2] at H
 have c2b0 : decide ((l0_0.length : Int) ≤ 6) = true := decide_eq_true c2
 have c2b1 : decide (l0_0.length ≤ 6) = true := decide_eq_true (by omega)
 clear c2; replace H := Option.bind_eq_some_iff.mp H; obtain ⟨t286, A30, H⟩ := H; (try dsimp only at H); have A3 := Aside0.mk A30; clear A30
 by_cases c4 : t286 = true
 rotate_left
 · replace c4 := Bool.eq_false_iff.mpr c4
   subst c4
   have H1 : (some false) = some r := by rw [if_neg (show ¬ (false = true) by decide)] at H; exact H
   clear H; have H := H1; clear H1; obtain rfl := Option.some.inj H
   go_enter Try.func20, Try.ntmps20
   go_wp2_with (first | ((with_reducible refine gate_dst (N := 1) rfl ?_); refine bX #[.slice A0_0 l0_0.length c0_0] 25 ?_; intro gb285 hg w13 hbox hb; have n0_ := cs (hq HB) hb; have BK285 := Aside0.mk (hbox); have GW285 := cg hg (hq HB); have GE285 := cg hg (hq HB); replace HB := n0_; clear n0_; clear hb hbox hg; have hcz14_0 : w13.cell? ⟨gb285, 0, none⟩ = some (.slice A0_0 l0_0.length c0_0) := (blk_cell BK285.out 0).trans rfl; have hfz14_0 := blk_frozen BK285.out 0) | (go_at_call 84; (with_reducible refine (spec_l1All.calls k _ _ l0_0 0 65535 false _ ?side1 ?side2 A3.out).mono ?_); (case side1 => exact cq (Kd.C_below HR0_0.out HB.out)); (case side2 => exact HC0_0.out); rintro e w' ⟨rfl, ⟨nd, rfl⟩⟩))
   go_ret
   exact ⟨by first | rfl | (simp <;> rfl) | (simp [*] <;> rfl), hq1 HB GE285⟩
 subst c4
 have H1 : (if (l0_0.length : Int) = 0 then (some true) else (if 0 ≤ (wrap64 ((l0_0.length : Int) - 1)) then (if (wrap64 ((l0_0.length : Int) - 1)) < (l0_0.length : Int) then (some ((rd l0_0 (wrap64 ((l0_0.length : Int) - 1))) != 0)) else (none)) else (none))) = some r := by rw [if_pos rfl] at H; exact H
 clear H; have H := H1; clear H1
 by_cases c5 : (l0_0.length : Int) = 0
 · rw [if_pos c5] at H
   have c5b0 : ((l0_0.length : Int) == 0) = true := beq_iff_eq.mpr c5
   have c5b1 : ((l0_0.length : Int) != 0) = false := bne_eq_false_iff_eq.mpr c5
   clear c5; obtain rfl := Option.some.inj H
   go_enter Try.func20, Try.ntmps20
   go_wp2_with (first | ((with_reducible refine gate_dst (N := 1) rfl ?_); refine bX #[.slice A0_0 l0_0.length c0_0] 25 ?_; intro gb285 hg w6 hbox hb; have n0_ := cs (hq HB) hb; have BK285 := Aside0.mk (hbox); have GW285 := cg hg (hq HB); have GE285 := cg hg (hq HB); replace HB := n0_; clear n0_; clear hb hbox hg; have hcz7_0 : w6.cell? ⟨gb285, 0, none⟩ = some (.slice A0_0 l0_0.length c0_0) := (blk_cell BK285.out 0).trans rfl; have hfz7_0 := blk_frozen BK285.out 0) | (go_at_call 84; (with_reducible refine (spec_l1All.calls k _ _ l0_0 0 65535 true _ ?side1 ?side2 A3.out).mono ?_); (case side1 => exact cq (Kd.C_below HR0_0.out HB.out)); (case side2 => exact HC0_0.out); rintro e w' ⟨rfl, ⟨nd, rfl⟩⟩))
   go_ret
   exact ⟨by first | rfl | (simp <;> rfl) | (simp [*] <;> rfl), hq1 HB GE285⟩
 rw [if_neg c5] at H
 have c5b0 : ((l0_0.length : Int) == 0) = false := beq_eq_false_iff_ne.mpr c5
 have c5b1 : ((l0_0.length : Int) != 0) = true := bne_iff_ne.mpr c5
 have c5b2 : ¬ (l0_0 = []) := fun h_ => c5 (by rw [h_]; rfl)
 obtain ⟨ji8, hji8⟩ : ∃ j_ : Int, (wrap64 ((l0_0.length : Int) - 1)) = j_ := ⟨_, rfl⟩
 replace H : (if 0 ≤ (ji8) then (if (ji8) < (l0_0.length : Int) then (some ((rd l0_0 (ji8)) != 0)) else (none)) else (none)) = some r := by first | (rw [hji8] at H; exact H) | (simp only [hji8] at H ⊢; exact H)
 (try rw [hji8] at A3)
 have hji8w : (IntKind.i64.wrap ((l0_0.length : Int) - 1)) = ji8 := (i64_w _).trans hji8
 by_cases c9 : 0 ≤ (ji8)
 rotate_left
 · rw [if_neg c9] at H
   exact absurd H (by simp)
 rw [if_pos c9] at H
 have c9b0 : decide (0 ≤ (ji8)) = true := decide_eq_true c9
 clear c9
 by_cases c10 : (ji8) < (l0_0.length : Int)
 rotate_left
 · rw [if_neg c10] at H
   exact absurd H (by simp)
 rw [if_pos c10] at H
 have c10b0 : decide ((ji8) < (l0_0.length : Int)) = true := decide_eq_true c10
 clear c10; obtain rfl := Option.some.inj H
 go_enter Try.func20, Try.ntmps20
 go_wp2_with (first | ((with_reducible refine gate_dst (N := 1) rfl ?_); refine bX #[.slice A0_0 l0_0.length c0_0] 25 ?_; intro gb285 hg w11 hbox hb; have n0_ := cs (hq HB) hb; have BK285 := Aside0.mk (hbox); have GW285 := cg hg (hq HB); have GE285 := cg hg (hq HB); replace HB := n0_; clear n0_; clear hb hbox hg; have hcz12_0 : w11.cell? ⟨gb285, 0, none⟩ = some (.slice A0_0 l0_0.length c0_0) := (blk_cell BK285.out 0).trans rfl; have hfz12_0 := blk_frozen BK285.out 0) | (go_at_call 84; (with_reducible refine (spec_l1All.calls k _ _ l0_0 0 65535 true _ ?side1 ?side2 A3.out).mono ?_); (case side1 => exact cq (Kd.C_below HR0_0.out HB.out)); (case side2 => exact HC0_0.out); rintro e w' ⟨rfl, ⟨nd, rfl⟩⟩; have p287 : 0 ≤ ((ji8) : Int) := of_decide_eq_true (by first | (with_reducible assumption) | assumption); have q287 : (ji8) < (l0_0.length : Int) := of_decide_eq_true (by first | (with_reducible assumption) | assumption); obtain ⟨ad287, e287, hx287_0⟩ := Kd.at_int HR0_0.out (ji8) p287 q287; cases e287; replace hx287_0 := (HB.out.cell (World.block_lt_of_cell? w _ hx287_0)).trans hx287_0; replace p287 := eq_true p287; replace q287 := eq_true q287))
 go_ret
 exact ⟨by first | rfl | (simp [errW_none, errW_some] <;> rfl) | (simp only [← hji8]; first | rfl | (simp [errW_none, errW_some] <;> rfl)) | (simp [*, errW_none, errW_some] <;> rfl), hq1 HB GE285⟩
end Go.Proofs.Ytadooofomkdaoaa.QFnHalves
