import Derived.Test.YtadooofomkdaoaaSqueez2
import Derived.Test.YtadooofomkdaoaaQFnLimbsx0
import Derived.Test.YtadooofomkdaoaaQFnLimbsx1
import Derived.Test.YtadooofomkdaoaaQFnLimbsx2
import Derived.Test.YtadooofomkdaoaaQFnLimbsx4
import Derived.Test.YtadooofomkdaoaaQFnLimbsx5
import Derived.Test.YtadooofomkdaoaaQFnLimbsx11
namespace Go.Proofs.Ytadooofomkdaoaa.QFnLimbs
open Go.RowKit Go.Proofs.YtadooofomkdaoaaW.PrintWords Go.Proofs.YtadooofomkdaoaaW.PrintLast Go.Proofs.YtadooofomkdaoaaW.PrintMore
attribute [local go_sem] max2_int min2_int max_two min_two max_three min_three max_four min_four   -- for this text's walks alone
set_option linter.unusedVariables false
set_option linter.unusedSimpArgs false

/-! ### spec_OfDigits: function 29 -/
mutual
def spec_OfDigits.j0 : Nat → ByteArray → Bool → Option (List Int × Bool)
  | 0, _, _ => none
  | k + 1, x0, x19 => if x19 = true then (some (([] : List Int), false)) else (spec_OfDigits.l0 k x0 ([] : List Int) 0)
def spec_OfDigits.l0 : Nat → ByteArray → List Int → Int → Option (List Int × Bool)
  | 0, _, _, _ => none
  | k + 1, x0, x4, x5 => if x5 < (x0.size : Int) then (if 0 ≤ x5 then (if (bt x0 x5) < 48 then (spec_OfDigits.j2 k x0 x4 x5 true) else (spec_OfDigits.j2 k x0 x4 x5 (decide ((bt x0 x5) > 57)))) else (none)) else ((spec_l1Tell.f k x4).bind fun bt571 => (some (bt571.1, bt571.2)))
def spec_OfDigits.j2 : Nat → ByteArray → List Int → Int → Bool → Option (List Int × Bool)
  | 0, _, _, _, _ => none
  | k + 1, x0, x4, x5, x36 => if x36 = true then (some (([] : List Int), false)) else ((spec_l1Times.f k x4 (([10] : List Int))).bind fun t578 => (if 0 ≤ x5 then (if x5 < (x0.size : Int) then ((spec_l1Of.f k (((bt x0 x5) - 48) % 256)).bind fun t581 => ((spec_l1Add.f k t578 t581).bind fun t584 => (spec_OfDigits.l0 k x0 t584 (wrap64 (x5 + 1))))) else (none)) else (none)))
end
def spec_OfDigits.f (k : Nat) (a0 : ByteArray) : Option (List Int × Bool) := (spec_l1In.f (a0.size : Int) 1 30).bind fun t570 => (if t570 = true then (if 0 < (a0.size : Int) then (if (bt a0 0) = 48 then (spec_OfDigits.j0 k a0 (decide ((a0.size : Int) > 1))) else (spec_OfDigits.j0 k a0 false)) else (none)) else (spec_OfDigits.j0 k a0 true))
def spec_OfDigits.T9 : Bool × List (List Nat × List Nat) := (true, [([], []), ([], []), ([0, 1], [0, 1]), ([], []), ([], []), ([3, 4], [3, 4]), ([5], [5]), ([6], [6]), ([7, 2], [7]), ([2, 8, 8], [2, 8]), ([9, 9, 0, 1, 2, 3, 4, 5, 6, 7, 8, 9], [0, 9])])
def spec_OfDigits.B9 : List Nat := [0, 0, 3, 0, 0, 24, 56, 120, 255, 511, 1023]
theorem spec_OfDigits.tab9 : rtab .any (opsOf Try.f29 9) = spec_OfDigits.T9 := by kernel_rfl
theorem spec_OfDigits.bits9 : waitsOk spec_OfDigits.T9.2 spec_OfDigits.B9 = true := by kernel_rfl
set_option maxHeartbeats 8000000 in
set_option maxRecDepth 100000 in
theorem spec_OfDigits.calls (k : Nat) (a0 : ByteArray) (r1 : List Int) (r2 : Bool) (w : World) (h : spec_OfDigits.f k a0 = some (r1, r2)) :
    Calls Try.prog 29 #[.string a0] w fun e w' => ∃ v0_ : Value, e = .returned (.tuple #[.agg #[v0_], .bool r2]) ∧ Kd.R (Kd.int .i64) 3 w' w.heap.size (fun _ => True) v0_ r1 ∧ Below w.heap.size w w' := by
 have hu25 := Try.underlying25; have HB := Aside0.mk (Below.refl w.heap.size w)
 have H : ((spec_l1In.f (a0.size : Int) 1 30).bind fun t570 => (if t570 = true then (if 0 < (a0.size : Int) then (if (bt a0 0) = 48 then (spec_OfDigits.j0 k a0 (decide ((a0.size : Int) > 1))) else (spec_OfDigits.j0 k a0 false)) else (none)) else (spec_OfDigits.j0 k a0 true))) = some (r1, r2) := h
 clear h; have HC2 := Aside0.mk H; clear H
 go_enter Try.func29, Try.ntmps29
 go_upto_region 1 with (first | ((with_reducible refine gate_dst (N := 2) rfl ?_); (try (refine gate_guard (by rfl) ?_; dsimp only)); refine bX #[.slice none 0 0] 25 ?_; intro gb569 hg w3 hbox hb; have n0_ := cs (hq HB) hb; have BK569 := Aside0.mk (hbox); have GW569 := cg hg (hq HB); have GE569 := cg hg (hq HB); replace HB := n0_; clear n0_; clear hb hbox hg))
 (try simp only [Act.put, List.setIfInBounds_toArray, List.set_cons_zero, List.set_cons_succ])
 go_cut [19] (fun v19 wc => ∃ (kq : Nat) (x19_1 : Bool), v19 = .bool x19_1 ∧ Aside0 (spec_OfDigits.j0 kq a0 x19_1 = some (r1, r2)) ∧ Aside0 (kq ≤ k) ∧ Aside0 (wc.heap[gb569]? = some (.cells #[(.slice none 0 0)] 25 (0, 0))) ∧ Aside0 (Below w.heap.size w wc))
 case first =>
   have H := HC2.out; clear HC2; replace H := Option.bind_eq_some_iff.mp H; obtain ⟨t570, A40, H⟩ := H; (try dsimp only at H); have A4 := Aside0.mk A40; clear A40
   by_cases c5 : t570 = true
   rotate_left
   · replace c5 := Bool.eq_false_iff.mpr c5
     subst c5
     have H1 : (spec_OfDigits.j0 k a0 true) = some (r1, r2) := by rw [if_neg (show ¬ (false = true) by decide)] at H; exact H
     clear H; have H := H1; clear H1
     have H' := Aside0.mk H
     clear H
     go_wp2_with (first | ((with_reducible refine gate_callee (f := 95) rfl ?_); refine gC (some 8) Try.func95 #[.int .i64 (a0.size : Int), .int .i64 1, .int .i64 30] ?_; (with_reducible refine (spec_l1In.calls (a0.size : Int) 1 30 false _ A4.out).mono ?_); rintro e w' ⟨rfl, ⟨nd, rfl⟩⟩; refine ⟨_, rfl, ?_⟩))
     go_meet
     case rel => exact ⟨_, (true), (by first | rfl | (simp; done) | (simp [*]; done)), H', ⟨by first | omega | exact Nat.le_refl _⟩, ⟨by (with_reducible repeat (first | refine blk_drewN ?_ _ | refine blk_drew ?_ | refine blk_alloc ?_ _)); exact BK569.out⟩, ⟨hq1 HB GE569⟩⟩
   subst c5
   have H1 : (if 0 < (a0.size : Int) then (if (bt a0 0) = 48 then (spec_OfDigits.j0 k a0 (decide ((a0.size : Int) > 1))) else (spec_OfDigits.j0 k a0 false)) else (none)) = some (r1, r2) := by rw [if_pos rfl] at H; exact H
   clear H; have H := H1; clear H1
   by_cases c6 : 0 < (a0.size : Int)
   rotate_left
   · rw [if_neg c6] at H
     exact absurd H (by simp)
   rw [if_pos c6] at H
   have c6b0 : decide (0 < (a0.size : Int)) = true := decide_eq_true c6
   have c6b1 : decide (0 < a0.size) = true := decide_eq_true (by omega)
   clear c6
   (first | rw [c6b0] | (simp only [i64_w, i32_w]; rw [c6b0]) | skip)
   by_cases c8 : (bt a0 0) = 48
   rotate_left
   · rw [if_neg c8] at H
     have c8b0 : ((bt a0 0) == 48) = false := beq_eq_false_iff_ne.mpr c8
     have c8b1 : ((bt a0 0) != 48) = true := bne_iff_ne.mpr c8
     have H' := Aside0.mk H
     clear H
     go_wp2_with (first | ((with_reducible refine gate_callee (f := 95) rfl ?_); refine gC (some 8) Try.func95 #[.int .i64 (a0.size : Int), .int .i64 1, .int .i64 30] ?_; (with_reducible refine (spec_l1In.calls (a0.size : Int) 1 30 true _ A4.out).mono ?_); rintro e w' ⟨rfl, ⟨nd, rfl⟩⟩; refine ⟨_, rfl, ?_⟩; have p7 : 0 ≤ (0 : Int) := (by omega); have q7 : 0 < a0.size := (by have : (0 : Int) < (a0.size : Int) := of_decide_eq_true (by first | (with_reducible assumption) | assumption); omega); have hx7 : ∀ h : 0 < a0.size, ((a0[0]'h).toNat : Int) = bt a0 0 := bt_at a0 0; clear p7; have qi7 : (0 < (a0.size : Int)) = True := eq_true (of_decide_eq_true (by first | (with_reducible assumption) | assumption)); replace q7 := eq_true q7))
     go_meet
     case rel => exact ⟨_, (false), (by first | rfl | (simp; done) | (simp [*]; done)), H', ⟨by first | omega | exact Nat.le_refl _⟩, ⟨by (with_reducible repeat (first | refine blk_drewN ?_ _ | refine blk_drew ?_ | refine blk_alloc ?_ _)); exact BK569.out⟩, ⟨hq1 HB GE569⟩⟩
   rw [if_pos c8] at H
   have c8b0 : ((bt a0 0) == 48) = true := beq_iff_eq.mpr c8
   have c8b1 : ((bt a0 0) != 48) = false := bne_eq_false_iff_eq.mpr c8
   clear c8
   have H' := Aside0.mk H
   clear H
   go_wp2_with (first | ((with_reducible refine gate_callee (f := 95) rfl ?_); refine gC (some 8) Try.func95 #[.int .i64 (a0.size : Int), .int .i64 1, .int .i64 30] ?_; (with_reducible refine (spec_l1In.calls (a0.size : Int) 1 30 true _ A4.out).mono ?_); rintro e w' ⟨rfl, ⟨nd, rfl⟩⟩; refine ⟨_, rfl, ?_⟩; have p7 : 0 ≤ (0 : Int) := (by omega); have q7 : 0 < a0.size := (by have : (0 : Int) < (a0.size : Int) := of_decide_eq_true (by first | (with_reducible assumption) | assumption); omega); have hx7 : ∀ h : 0 < a0.size, ((a0[0]'h).toNat : Int) = bt a0 0 := bt_at a0 0; clear p7; have qi7 : (0 < (a0.size : Int)) = True := eq_true (of_decide_eq_true (by first | (with_reducible assumption) | assumption)); replace q7 := eq_true q7))
   go_meet
   case rel => exact ⟨_, (decide ((a0.size : Int) > 1)), (by first | rfl | (simp; done) | (simp [*]; done)), H', ⟨by first | omega | exact Nat.le_refl _⟩, ⟨by (with_reducible repeat (first | refine blk_drewN ?_ _ | refine blk_drew ?_ | refine blk_alloc ?_ _)); exact BK569.out⟩, ⟨hq1 HB GE569⟩⟩
 clear HC2; (try clear c2); (try clear p2); (try clear c5); (try clear c6); (try clear c6b0); (try clear c6b1); (try clear p7); (try clear q7); (try clear hx7); (try clear qi7); (try clear c8); (try clear c8b0); (try clear c8b1); (try clear p7); (try clear q7); obtain ⟨kq, x19_1, rfl, HA, HJ1, BK569, HB⟩ := hcut; obtain _ | kj1 := kq
 · exact absurd HA.out (by simp [spec_OfDigits.j0])
 have H := HA.out; clear HA
 simp only [spec_OfDigits.j0] at H
 by_cases c9 : x19_1 = true
 · subst c9
   have H1 : (some (([] : List Int), false)) = some (r1, r2) := by rw [if_pos rfl] at H; exact H
   clear H; have H := H1; clear H1
   simp only [Option.some.injEq, Prod.mk.injEq] at H
   obtain ⟨rfl, rfl⟩ := H
   have hcz10_0 : wc.cell? ⟨gb569, 0, none⟩ = some (.slice none 0 0) := (blk_cell BK569.out 0).trans rfl
   have hfz10_0 := blk_frozen BK569.out 0
   go_wp2
   refine bodyPost_ret (results_ct rfl _ _ gb569 25 #[.slice none 0 0] (0, 0) _ rfl (by (with_reducible repeat (first | refine blk_drewN ?_ _ | refine blk_drew ?_ | refine blk_alloc ?_ _)); refine blk_put (cs := #[.slice none 0 0]) ?_ 0 _ rfl; (with_reducible repeat (first | refine blk_drewN ?_ _ | refine blk_drew ?_ | refine blk_alloc ?_ _)); exact BK569.out) Try.underlying25 rfl (by kernel_rfl)) rfl ?_
   exact ⟨_, by first | rfl | (simp <;> rfl) | (simp [*] <;> rfl), by first | exact Kd.R_nil _ _ _ _ _ | exact Kd.R_nil _ _ _ 0 _ | exact Kd.N_nil _ _ _ _ _ | exact Kd.V_nil _ _ _ _ _ | exact Kd.Q_nil _ _ _ _ _ | exact Kd.S_nil _ _ _ _ _, hq1 HB GE569⟩
 replace c9 := Bool.eq_false_iff.mpr c9; subst c9
 have H1 : (spec_OfDigits.l0 kj1 a0 ([] : List Int) 0) = some (r1, r2) := by rw [if_neg (show ¬ (false = true) by decide)] at H; exact H
 clear H; have H := H1; clear H1
 have H' := Aside0.mk H
 clear H
 go_wp2
 go_loopg [4, 5] kj1 (fun kq v4 v5 w' => ∃ (x4_2 : List Int) (x5_2 : Int), v5 = .int .i64 x5_2 ∧ Aside0 (spec_OfDigits.l0 kq a0 x4_2 x5_2 = some (r1, r2)) ∧ Aside0 (kq ≤ kj1) ∧ Aside0 (Kd.V (Kd.int .i64) 3 w' w.heap.size (fun k_ => k_ ≠ gb569) v4 x4_2) ∧ Aside0 (w'.heap[gb569]? = some (.cells #[(.slice none 0 0)] 25 (0, 0))) ∧ Aside0 (Below w.heap.size w w'))
 case atStart => exact ⟨(([] : List Int)), (0), (by first | rfl | (simp; done) | (simp [*]; done)), H', ⟨Nat.le_refl _⟩, ⟨Kd.R_V (by first | exact Kd.R_nil _ _ _ _ _ | exact Kd.R_nil _ _ _ 0 _ | exact Kd.N_nil _ _ _ _ _ | exact Kd.V_nil _ _ _ _ _ | exact Kd.Q_nil _ _ _ _ _ | exact Kd.S_nil _ _ _ _ _)⟩, ⟨by (with_reducible repeat (first | refine blk_drewN ?_ _ | refine blk_drew ?_ | refine blk_alloc ?_ _)); exact BK569.out⟩, ⟨hq1 HB GE569⟩⟩
 case round =>
   clear H'
   (try clear c2); (try clear p2); (try clear c5); (try clear c6); (try clear c6b0); (try clear c6b1); (try clear p7); (try clear q7); (try clear hx7); (try clear qi7); (try clear c8); (try clear c8b0); (try clear c8b1); (try clear c9); (try clear hcz10_0); (try clear hfz10_0); (try clear p2); (try clear p7); (try clear q7); obtain ⟨x4_2, x5_2, rfl, HA, HK2, HO_4, BK569, HB⟩ := hrel
   cases gk with
   | zero => exact absurd HA.out (by simp [spec_OfDigits.l0])
   | succ k2 =>
     have H := HA.out; clear HA
     simp only [spec_OfDigits.l0] at H
     by_cases c11 : x5_2 < (a0.size : Int)
     · rw [if_pos c11] at H
       have c11b0 : decide (x5_2 < (a0.size : Int)) = true := decide_eq_true c11
       clear c11; have HC12 := Aside0.mk H; clear H
       go_upto_region 7 with (fail)
       go_cut [36] (fun v36 wc => ∃ (kq : Nat) (x36_11 : Bool), v36 = .bool x36_11 ∧ Aside0 (spec_OfDigits.j2 kq a0 x4_2 x5_2 x36_11 = some (r1, r2)) ∧ Aside0 (kq ≤ k2) ∧ Aside0 (Kd.V (Kd.int .i64) 3 wc w.heap.size (fun k_ => k_ ≠ gb569) u4 x4_2) ∧ Aside0 (wc.heap[gb569]? = some (.cells #[(.slice none 0 0)] 25 (0, 0))) ∧ Aside0 (Below w.heap.size w wc))
       case first =>
         have H := HC12.out; clear HC12
         by_cases c13 : 0 ≤ x5_2
         · rw [if_pos c13] at H
           have c13b0 : decide (0 ≤ x5_2) = true := decide_eq_true c13
           clear c13
           (first | rw [c13b0] | (simp only [i64_w, i32_w]; rw [c13b0]) | skip)
           by_cases c15 : (bt a0 x5_2) < 48
           · rw [if_pos c15] at H
             have c15b0 : decide ((bt a0 x5_2) < 48) = true := decide_eq_true c15
             clear c15
             have H' := Aside0.mk H
             clear H
             have p14 : 0 ≤ (x5_2 : Int) := of_decide_eq_true (by first | (with_reducible assumption) | assumption)
             have q14 : x5_2 < (a0.size : Int) := of_decide_eq_true (by first | (with_reducible assumption) | assumption)
             have hx14 := bt_at a0 x5_2; replace p14 := eq_true p14; replace q14 := eq_true q14
             go_wp2
             go_meet
             case rel => exact ⟨_, (true), (by first | rfl | (simp; done) | (simp [*]; done)), H', ⟨by have := HJ1.out; have := HK2.out; first | omega | exact Nat.le_refl _⟩, ⟨by (with_reducible repeat (first | apply Kd.V_alloc | apply Kd.V_drewN | apply Kd.V_drew)); exact HO_4.out⟩, ⟨by (with_reducible repeat (first | refine blk_drewN ?_ _ | refine blk_drew ?_ | refine blk_alloc ?_ _)); exact BK569.out⟩, ⟨hq1 HB GE569⟩⟩
           · rw [if_neg c15] at H
             have c15b0 : decide ((bt a0 x5_2) < 48) = false := decide_eq_false c15
             clear c15
             have H' := Aside0.mk H
             clear H
             have p14 : 0 ≤ (x5_2 : Int) := of_decide_eq_true (by first | (with_reducible assumption) | assumption)
             have q14 : x5_2 < (a0.size : Int) := of_decide_eq_true (by first | (with_reducible assumption) | assumption)
             have hx14 := bt_at a0 x5_2; replace p14 := eq_true p14; replace q14 := eq_true q14
             have p16 : 0 ≤ (x5_2 : Int) := of_decide_eq_true (by first | (with_reducible assumption) | assumption)
             have q16 : x5_2 < (a0.size : Int) := of_decide_eq_true (by first | (with_reducible assumption) | assumption)
             have hx16 := bt_at a0 x5_2; replace p16 := eq_true p16; replace q16 := eq_true q16
             go_wp2
             go_meet
             case rel => exact ⟨_, (decide ((bt a0 x5_2) > 57)), (by first | rfl | (simp; done) | (simp [*]; done)), H', ⟨by have := HJ1.out; have := HK2.out; first | omega | exact Nat.le_refl _⟩, ⟨by (with_reducible repeat (first | apply Kd.V_alloc | apply Kd.V_drewN | apply Kd.V_drew)); exact HO_4.out⟩, ⟨by (with_reducible repeat (first | refine blk_drewN ?_ _ | refine blk_drew ?_ | refine blk_alloc ?_ _)); exact BK569.out⟩, ⟨hq1 HB GE569⟩⟩
         · rw [if_neg c13] at H
           exact absurd H (by simp)
       case rest =>
         clear HC12; (try clear c1); (try clear p1); (try clear q1); (try clear hx1); (try clear c2); (try clear p2); (try clear c5); (try clear c6); (try clear c6b0); (try clear c6b1); (try clear p7); (try clear q7); (try clear hx7); (try clear qi7); (try clear c8); (try clear c8b0); (try clear c8b1); (try clear c9); (try clear c11); (try clear c11b0); (try clear c13); (try clear c13b0); (try clear p14); (try clear q14); (try clear hx14); (try clear c15); (try clear c15b0); (try clear p16); (try clear q16); (try clear hx16); (try clear hcz10_0); (try clear hfz10_0); (try clear p14); (try clear p16); (try clear p2); (try clear p7); (try clear q14); (try clear q16); (try clear q7); obtain ⟨kq, x36_11, rfl, HA, HJ11, HO_4, BK569, HB⟩ := hcut
         cases kq with
         | zero => exact absurd HA.out (by simp [spec_OfDigits.j2])
         | succ kj11 =>
           have H := HA.out; clear HA
           simp only [spec_OfDigits.j2] at H
           by_cases c17 : x36_11 = true
           · subst c17
             have H1 : (some (([] : List Int), false)) = some (r1, r2) := by rw [if_pos rfl] at H; exact H
             clear H; have H := H1; clear H1
             simp only [Option.some.injEq, Prod.mk.injEq] at H
             obtain ⟨rfl, rfl⟩ := H
             have hcz18_0 : wc.cell? ⟨gb569, 0, none⟩ = some (.slice none 0 0) := (blk_cell BK569.out 0).trans rfl
             have hfz18_0 := blk_frozen BK569.out 0
             go_wp2
             refine bodyPost_ret (results_ct rfl _ _ gb569 25 #[.slice none 0 0] (0, 0) _ rfl (by (with_reducible repeat (first | refine blk_drewN ?_ _ | refine blk_drew ?_ | refine blk_alloc ?_ _)); refine blk_put (cs := #[.slice none 0 0]) ?_ 0 _ rfl; (with_reducible repeat (first | refine blk_drewN ?_ _ | refine blk_drew ?_ | refine blk_alloc ?_ _)); exact BK569.out) Try.underlying25 rfl (by kernel_rfl)) rfl ?_
             exact ⟨_, by first | rfl | (simp <;> rfl) | (simp [*] <;> rfl), by first | exact Kd.R_nil _ _ _ _ _ | exact Kd.R_nil _ _ _ 0 _ | exact Kd.N_nil _ _ _ _ _ | exact Kd.V_nil _ _ _ _ _ | exact Kd.Q_nil _ _ _ _ _ | exact Kd.S_nil _ _ _ _ _, hq1 HB GE569⟩
           · replace c17 := Bool.eq_false_iff.mpr c17
             subst c17
             have H1 : ((spec_l1Times.f kj11 x4_2 (([10] : List Int))).bind fun t578 => (if 0 ≤ x5_2 then (if x5_2 < (a0.size : Int) then ((spec_l1Of.f kj11 (((bt a0 x5_2) - 48) % 256)).bind fun t581 => ((spec_l1Add.f kj11 t578 t581).bind fun t584 => (spec_OfDigits.l0 kj11 a0 t584 (wrap64 (x5_2 + 1))))) else (none)) else (none))) = some (r1, r2) := by rw [if_neg (show ¬ (false = true) by decide)] at H; exact H
             clear H; have H := H1; clear H1; obtain ⟨y575, hy575⟩ : ∃ y_ : List Int, y_ = (([10] : List Int)) := ⟨_, rfl⟩
             replace H : ((spec_l1Times.f kj11 x4_2 y575).bind fun t578 => (if 0 ≤ x5_2 then (if x5_2 < (a0.size : Int) then ((spec_l1Of.f kj11 (((bt a0 x5_2) - 48) % 256)).bind fun t581 => ((spec_l1Add.f kj11 t578 t581).bind fun t584 => (spec_OfDigits.l0 kj11 a0 t584 (wrap64 (x5_2 + 1))))) else (none)) else (none))) = some (r1, r2) := by first | (rw [hy575]; with_reducible exact H) | (have H2_ := (Option.bind_some _ _).symm.trans H; rw [hy575]; with_reducible exact H2_) | (have H2_ := (Option.bind_some _ _).symm.trans H; with_reducible exact H2_) | with_reducible exact H | (rw [hy575]; exact H) | exact H
             have Ny575 := Aside0.mk hy575; clear hy575; replace H := Option.bind_eq_some_iff.mp H; obtain ⟨t578, A190, H⟩ := H; (try dsimp only at H); have A19 := Aside0.mk A190; clear A190
             by_cases c20 : 0 ≤ x5_2
             · rw [if_pos c20] at H
               have c20b0 : decide (0 ≤ x5_2) = true := decide_eq_true c20
               clear c20
               by_cases c21 : x5_2 < (a0.size : Int)
               · rw [if_pos c21] at H
                 have c21b0 : decide (x5_2 < (a0.size : Int)) = true := decide_eq_true c21
                 clear c21; replace H := Option.bind_eq_some_iff.mp H; obtain ⟨t581, A230, H⟩ := H; (try dsimp only at H); have A23 := Aside0.mk A230; clear A230; replace H := Option.bind_eq_some_iff.mp H; obtain ⟨t584, A240, H⟩ := H; (try dsimp only at H); have A24 := Aside0.mk A240; clear A240
                 have H' := Aside0.mk H
                 clear H
                 try go_wp2
                 replace HO_4 := Aside0.mk (Kd.V_drew HO_4.out); replace BK569 := Aside0.mk (blk_drew BK569.out); replace HB := Aside0.mk (below_drew1 HB.out)
                 have p22 : 0 ≤ (x5_2 : Int) := of_decide_eq_true (by first | (with_reducible assumption) | assumption)
                 have q22 : x5_2 < (a0.size : Int) := of_decide_eq_true (by first | (with_reducible assumption) | assumption)
                 have hx22 := bt_at a0 x5_2; replace p22 := eq_true p22; replace q22 := eq_true q22
                 refine start_ (n := 11) (S := fun w' => True) (ds := []) #[false, false, false, false, false, false, false, false, false, false, false] (by kernel_rfl) rfl rfl trivial (fun hHeld => ?_); refine with_tabW spec_OfDigits.tab9 spec_OfDigits.bits9 (fun HT_ HW_ => ?_)
                 generalize wc.drew = w25 at HO_4 BK569 HB hHeld ⊢
                 refine pure_ (i := 0) (N := some 38) (v := ?_) (a' := ?_) #[true, false, false, false, false, false, false, false, false, false, false] rfl rfl (any_of HT_.out (by kernel_rfl)) (fun _ _ _ h => h) (Or.inl ⟨by rfl, ?_⟩) ?_ ?_
                 rotate_left
                 · intro w'
                   first | (go_simp; with_reducible rfl) | (go_simp; unfold Instr.field; go_simp; rfl)
                 rotate_left
                 · simp only [Act.put, List.setIfInBounds_toArray, List.set_cons_zero, List.set_cons_succ, i64_w, i32_w]
                   rfl
                 refine pure_ (i := 3) (N := some 41) (v := ?_) (a' := ?_) #[true, false, false, true, false, false, false, false, false, false, false] rfl rfl (any_of HT_.out (by kernel_rfl)) (fun _ _ _ h => h) (Or.inl ⟨by rfl, ?_⟩) ?_ ?_
                 rotate_left
                 · intro w'
                   first | (go_simp; with_reducible rfl) | (go_simp; unfold Instr.field; go_simp; rfl)
                 rotate_left
                 · simp only [Act.put, List.setIfInBounds_toArray, List.set_cons_zero, List.set_cons_succ, i64_w, i32_w]
                   rfl
                 refine pure_ (i := 4) (N := some 42) (v := ?_) (a' := ?_) #[true, false, false, true, true, false, false, false, false, false, false] rfl rfl (any_of HT_.out (by kernel_rfl)) (fun _ _ _ h => h) (Or.inl ⟨by rfl, ?_⟩) ?_ ?_
                 rotate_left
                 · intro w'
                   first | (go_simp; with_reducible rfl) | (go_simp; unfold Instr.field; go_simp; rfl)
                 rotate_left
                 · simp only [Act.put, List.setIfInBounds_toArray, List.set_cons_zero, List.set_cons_succ, i64_w, i32_w]
                   rfl
                 refine take_ (i := 5) (N := some 43) (v := ?_) (a' := ?_) #[true, false, false, true, true, true, false, false, false, false, false] rfl rfl (take_ofW HT_.out HW_.out (by kernel_rfl)) (fun _ _ _ h => h) (Or.inl ⟨by rfl, ?_⟩) hHeld ?_ ?_
                 rotate_left
                 · intro w' _
                   go_simp
                   with_reducible rfl
                 rotate_left
                 · simp only [Act.put, List.setIfInBounds_toArray, List.set_cons_zero, List.set_cons_succ, i64_w, i32_w]
                   rfl
                 refine pure_ (i := 6) (N := some 44) (v := ?_) (a' := ?_) #[true, false, false, true, true, true, true, false, false, false, false] rfl rfl (any_of HT_.out (by kernel_rfl)) (fun _ _ _ h => h) (Or.inl ⟨by rfl, ?_⟩) ?_ ?_
                 rotate_left
                 · intro w'
                   first | (go_simp; with_reducible rfl) | (go_simp; unfold Instr.field; go_simp; rfl)
                 rotate_left
                 · simp only [Act.put, List.setIfInBounds_toArray, List.set_cons_zero, List.set_cons_succ, i64_w, i32_w]
                   rfl
                 refine pure_ (i := 7) (N := some 45) (v := ?_) (a' := ?_) #[true, false, false, true, true, true, true, true, false, false, false] rfl rfl (any_of HT_.out (by kernel_rfl)) (fun _ _ _ h => h) (Or.inl ⟨by rfl, ?_⟩) ?_ ?_
                 rotate_left
                 · intro w'
                   first | (go_simp; with_reducible rfl) | (go_simp; unfold Instr.field; go_simp; rfl)
                 rotate_left
                 · simp only [Act.put, List.setIfInBounds_toArray, List.set_cons_zero, List.set_cons_succ, i64_w, i32_w]
                   rfl
                 refine one_ (i := 1) (N := some 39) #[true, true, false, true, true, true, true, true, false, false, false] rfl rfl (one_of HT_.out (by kernel_rfl)) (by decide) (fun K hK => ?_)
                 refine Kd.R_lit_step (Kd.int .i64) _ 3 ?hg (N := 39) ?hd (xs := ([10] : List Int)) (inner := [.int .i64 10]) (ok := fun _ => True) (okp := fun _ => True) ?hr ?hp (fun _ hk => hk) trivial (Below.refl _ _) (Nat.le_refl _) (by simp) ?_; (case hd => rfl); (case hg => rfl); (case hr => first | (go_simp; done) | (go_simp; rfl)); (case hp => exact (Reps.one (show Kd.M (Kd.int .i64) _ _ _ 10 [.int .i64 10] from rfl) (Reps.none _ _)))
                 intro v576 w26 ho27 hb hg_ hnew_
                 clear hg_ hnew_
                 (first | rw [← Ny575.out] at ho27 | (simp only [Int.reduceToNat] at ho27; rw [← Ny575.out] at ho27))
                 replace HO_4 := Aside0.mk (vb HO_4 ho27 hb); have HO577 := Aside0.mk (Kd.R_lower ho27 (below_size (hq1 HB GE569))); replace BK569 := cB BK569 hb; replace HB := cs (hq1 HB GE569) hb; clear hb ho27; obtain ⟨Ao28, co28, eo28⟩ := Kd.V_slice HO_4.out
                 (first | subst eo28 | (injection eo28 with f1_ f2_ f3_; have f4_ := f1_.symm; have f5_ := f3_.symm; clear f1_ f2_ f3_; subst f4_; subst f5_))
                 obtain ⟨Ao29, co29, eo29⟩ := Kd.R_slice HO577.out
                 (first | subst eo29 | (injection eo29 with f1_ f2_ f3_; have f4_ := f1_.symm; have f5_ := f3_.symm; clear f1_ f2_ f3_; subst f4_; subst f5_))
                 refine hK.out _ _ trivial (fun hHeld => ?_)
                 clear hK K
                 refine norm_ (a' := ?_) ?_ ?_
                 rotate_left
                 · show Act.put _ (some 39) _ = _
                   simp only [Act.put, List.setIfInBounds_toArray, List.set_cons_zero, List.set_cons_succ, i64_w, i32_w]
                   rfl
                 refine one_ (i := 2) (N := some 40) #[true, true, true, true, true, true, true, true, false, false, false] rfl rfl (one_of HT_.out (by kernel_rfl)) (by decide) (fun K hK => ?_)
                 refine goes_ Try.func96 (by kernel_rfl) rfl #[.slice Ao28 x4_2.length co28, .slice Ao29 y575.length co29] (by rfl) rfl rfl (by (try simp only [List.map_toArray, List.map_cons, List.map_nil]); first | done | rfl | (simp only [List.length_drop, List.length_take]; rfl)) ?_
                 with_reducible refine (spec_l1Times.calls kj11 _ _ x4_2 _ _ y575 t578 _ ?side1 ?side2 ?side3 ?side4 A19.out).mono ?_
                 (case side1 => exact cq ((Kd.V_reads' HO_4.out).2.2))
                 (case side2 => exact (Kd.V_reads' HO_4.out).2.1)
                 (case side3 => exact cq ((Kd.R_reads' HO577.out).2.2))
                 (case side4 => exact (Kd.R_reads' HO577.out).2.1)
                 rintro e w30 ⟨v579, rfl, ho0, hb⟩
                 refine ⟨_, rfl, ?_⟩; replace HO_4 := Aside0.mk (Kd.V_below (vq HO_4) hb); have n1_ := cb HO577 hb
                 have HO580 := Aside0.mk (Kd.V_lower (Kd.V_mono (ok' := fun k_ => some k_ ≠ (.slice Ao29 y575.length co29 : Value).ownBlock ∧ k_ ≠ gb569) ho0 (fun k_ hk_ => ⟨(Kd.fresh' (ql HO577) k_ hk_), (Kd.freshB (g := gb569) (o := .cells #[.slice none 0 0] 25 (0, 0)) (bq BK569) k_ hk_)⟩)) (below_size (hq1 HB GE569)))
                 replace BK569 := cB BK569 hb; replace HB := cs (hq1 HB GE569) hb; replace HO577 := n1_; clear n1_; (try clear hb); (try clear hb2); (try clear hk); (try clear hi); (try clear ho0)
                 refine hK.out _ _ trivial (fun hHeld => ?_)
                 clear hK K
                 refine norm_ (a' := ?_) ?_ ?_
                 rotate_left
                 · show Act.put _ (some 40) _ = _
                   simp only [Act.put, List.setIfInBounds_toArray, List.set_cons_zero, List.set_cons_succ, i64_w, i32_w]
                   rfl
                 refine one_ (i := 8) (N := some 46) #[true, true, true, true, true, true, true, true, true, false, false] rfl rfl (one_of HT_.out (by kernel_rfl)) (by decide) (fun K hK => ?_)
                 refine goes_ Try.func97 (by kernel_rfl) rfl #[.int .i64 (((bt a0 x5_2) - 48) % 256)] (by rfl) rfl rfl (by (try simp only [List.map_toArray, List.map_cons, List.map_nil]); first | done | rfl | (simp only [List.length_drop, List.length_take]; rfl) | (refine Eq.trans (b := #[Value.int .i64 (wrap64 (IntKind.u8.wrap ((bt a0 x5_2) - 48)))]) rfl ?_; rw [Go.IntKind.wrap_u8, show wrap64 (((bt a0 x5_2) - 48) % 256) = ((bt a0 x5_2) - 48) % 256 by unfold wrap64; omega])) ?_
                 with_reducible refine (spec_l1Of.calls kj11 (((bt a0 x5_2) - 48) % 256) t581 _ A23.out).mono ?_
                 rintro e w31 ⟨v582, rfl, ho0, hb⟩
                 refine ⟨_, rfl, ?_⟩; replace HO_4 := Aside0.mk (vb HO_4 ho0 hb); have n1_ := ce HO577 ho0 hb; replace HO580 := Aside0.mk (vb HO580 ho0 hb); have HO583 := Aside0.mk (Kd.R_lower (Kd.R_new' ho0 (ql HO577)) (below_size (hq1 HB GE569))); replace BK569 := cB BK569 hb; replace HB := cs (hq1 HB GE569) hb; replace HO577 := n1_; clear n1_; (try clear hb); (try clear hb2); (try clear hk); (try clear hi); (try clear ho0); obtain ⟨Ao32, co32, eo32⟩ := Kd.V_slice HO580.out
                 (first | subst eo32 | (injection eo32 with f1_ f2_ f3_; have f4_ := f1_.symm; have f5_ := f3_.symm; clear f1_ f2_ f3_; subst f4_; subst f5_))
                 obtain ⟨Ao33, co33, eo33⟩ := Kd.R_slice HO583.out
                 (first | subst eo33 | (injection eo33 with f1_ f2_ f3_; have f4_ := f1_.symm; have f5_ := f3_.symm; clear f1_ f2_ f3_; subst f4_; subst f5_))
                 refine hK.out _ _ trivial (fun hHeld => ?_)
                 clear hK K
                 refine norm_ (a' := ?_) ?_ ?_
                 rotate_left
                 · show Act.put _ (some 46) _ = _
                   simp only [Act.put, List.setIfInBounds_toArray, List.set_cons_zero, List.set_cons_succ, i64_w, i32_w]
                   rfl
                 refine one_ (i := 9) (N := some 47) #[true, true, true, true, true, true, true, true, true, true, false] rfl rfl (one_of HT_.out (by kernel_rfl)) (by decide) (fun K hK => ?_)
                 refine goes_ Try.func79 (by kernel_rfl) rfl #[.slice Ao32 t578.length co32, .slice Ao33 t581.length co33] (by rfl) rfl rfl (by (try simp only [List.map_toArray, List.map_cons, List.map_nil]); first | done | rfl | (simp only [List.length_drop, List.length_take]; rfl)) ?_
                 with_reducible refine (spec_l1Add.calls kj11 _ _ t578 _ _ t581 t584 _ ?side1 ?side2 ?side3 ?side4 A24.out).mono ?_
                 (case side1 => exact cq ((Kd.V_reads' HO580.out).2.2))
                 (case side2 => exact (Kd.V_reads' HO580.out).2.1)
                 (case side3 => exact cq ((Kd.R_reads' HO583.out).2.2))
                 (case side4 => exact (Kd.R_reads' HO583.out).2.1)
                 rintro e w34 ⟨v585, rfl, ho0, hb⟩
                 refine ⟨_, rfl, ?_⟩; replace HO_4 := Aside0.mk (Kd.V_below (vq HO_4) hb); have n1_ := cb HO577 hb; replace HO580 := Aside0.mk (Kd.V_below (vq HO580) hb); have n3_ := cb HO583 hb
                 have HO586 := Aside0.mk (Kd.V_lower (Kd.V_mono (ok' := fun k_ => some k_ ≠ (.slice Ao29 y575.length co29 : Value).ownBlock ∧ some k_ ≠ (.slice Ao33 t581.length co33 : Value).ownBlock ∧ k_ ≠ gb569) ho0 (fun k_ hk_ => ⟨(Kd.fresh' (ql HO577) k_ hk_), (Kd.fresh' (ql HO583) k_ hk_), (Kd.freshB (g := gb569) (o := .cells #[.slice none 0 0] 25 (0, 0)) (bq BK569) k_ hk_)⟩)) (below_size (hq1 HB GE569)))
                 replace BK569 := cB BK569 hb; replace HB := cs (hq1 HB GE569) hb; replace HO577 := n1_; replace HO583 := n3_; clear n1_ n3_; (try clear hb); (try clear hb2); (try clear hk); (try clear hi); (try clear ho0)
                 refine hK.out _ _ trivial (fun hHeld => ?_)
                 clear hK K
                 refine norm_ (a' := ?_) ?_ ?_
                 rotate_left
                 · show Act.put _ (some 47) _ = _
                   simp only [Act.put, List.setIfInBounds_toArray, List.set_cons_zero, List.set_cons_succ, i64_w, i32_w]
                   rfl
                 refine pure_ (i := 10) (N := some 4) (v := ?_) (a' := ?_) #[true, true, true, true, true, true, true, true, true, true, true] rfl rfl (any_of HT_.out (by kernel_rfl)) (fun _ _ _ h => h) (Or.inl ⟨by rfl, ?_⟩) ?_ ?_
                 rotate_left
                 · intro w'
                   first | (go_simp; with_reducible rfl) | (go_simp; unfold Instr.field; go_simp; rfl)
                 rotate_left
                 · simp only [Act.put, List.setIfInBounds_toArray, List.set_cons_zero, List.set_cons_succ, i64_w, i32_w]
                   rfl
                 refine done_ (done_of HT_.out (by kernel_rfl)) ?_
                 try go_wp2
                 go_roundg kj11
                 case measure => have := HJ1.out; have := HK2.out; have := HJ11.out; omega
                 case rel => exact ⟨(t584), (wrap64 (x5_2 + 1)), (by first | rfl | (simp; done) | (simp [*]; done)), H', ⟨by have := HJ1.out; have := HK2.out; have := HJ11.out; omega⟩, ⟨by (with_reducible repeat (first | apply Kd.V_alloc | apply Kd.V_drewN | apply Kd.V_drew)); exact Kd.V_mono HO586.out (fun _ hk => hk.2.2)⟩, ⟨by (with_reducible repeat (first | refine blk_drewN ?_ _ | refine blk_drew ?_ | refine blk_alloc ?_ _)); exact BK569.out⟩, ⟨hq1 HB GE569⟩⟩
               · rw [if_neg c21] at H
                 exact absurd H (by simp)
             · rw [if_neg c20] at H
               exact absurd H (by simp)
     · rw [if_neg c11] at H
       have c11b0 : decide (x5_2 < (a0.size : Int)) = false := decide_eq_false c11
       clear c11; replace H := Option.bind_eq_some_iff.mp H; obtain ⟨⟨t571, t574⟩, A350, H⟩ := H; (try dsimp only at H); have A35 := Aside0.mk A350; clear A350
       simp only [Option.some.injEq, Prod.mk.injEq] at H
       obtain ⟨rfl, rfl⟩ := H; obtain ⟨Ao36, co36, eo36⟩ := Kd.V_slice HO_4.out; subst eo36
       go_wp2_with (first | ((with_reducible refine gate_callee (f := 78) rfl ?_); refine gC (some 49) Try.func78 #[.slice Ao36 x4_2.length co36] ?_; (with_reducible refine (spec_l1Tell.calls k2 _ _ x4_2 t571 t574 _ ?side1 ?side2 A35.out).mono ?_); (case side1 => exact cq ((Kd.V_reads' HO_4.out).2.2)); (case side2 => exact (Kd.V_reads' HO_4.out).2.1); rintro e w37 ⟨v572, rfl, ho0, hb⟩; refine ⟨_, rfl, ?_⟩; replace HO_4 := Aside0.mk (vb HO_4 ho0 hb); have HO573 := Aside0.mk (Kd.R_lower ho0 (below_size (hq1 HB GE569))); replace BK569 := cB BK569 hb; replace HB := cs (hq1 HB GE569) hb; (try clear hb); (try clear hb2); (try clear hk); (try clear hi); (try clear ho0); obtain ⟨Ao38, co38, eo38⟩ := Kd.R_slice HO573.out; subst eo38; have hcz39_0 : w37.cell? ⟨gb569, 0, none⟩ = some (.slice none 0 0) := (blk_cell BK569.out 0).trans rfl; have hfz39_0 := blk_frozen BK569.out 0))
       refine bodyPost_ret (results_ct rfl _ _ gb569 25 #[.slice Ao38 t571.length co38] (0, 0) _ rfl (by (with_reducible repeat (first | refine blk_drewN ?_ _ | refine blk_drew ?_ | refine blk_alloc ?_ _)); refine blk_put (cs := #[.slice none 0 0]) ?_ 0 _ rfl; (with_reducible repeat (first | refine blk_drewN ?_ _ | refine blk_drew ?_ | refine blk_alloc ?_ _)); exact BK569.out) Try.underlying25 rfl (by kernel_rfl)) rfl ?_
       exact ⟨_, by first | rfl | (simp <;> rfl) | (simp [*] <;> rfl), by (with_reducible repeat (first | apply Kd.R_alloc | apply Kd.R_drewN | apply Kd.R_drew)); exact Kd.R_mono (Kd.R_far (p := ⟨gb569, 0, none⟩) (Kd.R_types HO573.out BK569.out (by decide)) (fun _ hk => hk.2) (.slice Ao38 t571.length co38)) (fun _ hk => trivial), hq1 HB GE569⟩

/-! ### spec_DrawShiftBig: function 30 -/
def spec_DrawShiftBig.f (k : Nat) (l0 : List Int) : Option (List Int × Int) := (spec_l1Cur_big.f k l0 0 0).bind fun bt589 => ((spec_l1Cur_among.f l0 bt589.2.1 bt589.2.2 (([(-97), (-96), (-17), (-1), 0, 1, 5, 16, 40, 96, 97] : List Int))).bind fun bt597 => (some (bt589.1, bt597.1)))
set_option maxHeartbeats 8000000 in
set_option maxRecDepth 100000 in
theorem spec_DrawShiftBig.calls (k : Nat) (A0 : Option Addr) (c0 : Nat) (l0 : List Int) (r1 : List Int) (r2 : Int) (w : World) (hr0 : Kd.C (Kd.int .u8) w A0 l0.length l0) (hc0 : l0.length ≤ c0) (h : spec_DrawShiftBig.f k l0 = some (r1, r2)) :
    Calls Try.prog 30 #[.slice A0 l0.length c0] w fun e w' => ∃ v0_ : Value, e = .returned (.tuple #[.agg #[v0_], .int .i64 r2]) ∧ Kd.R (Kd.int .i64) 3 w' w.heap.size (fun _ => True) v0_ r1 ∧ Below w.heap.size w w' := by
 have hu25 := Try.underlying25; have hu78 := Try.underlying78; have HR0 := Aside0.mk hr0; have HC0 := Aside0.mk hc0; clear hr0 hc0; have HB := Aside0.mk (Below.refl w.heap.size w)
 have H : ((spec_l1Cur_big.f k l0 0 0).bind fun bt589 => ((spec_l1Cur_among.f l0 bt589.2.1 bt589.2.2 (([(-97), (-96), (-17), (-1), 0, 1, 5, 16, 40, 96, 97] : List Int))).bind fun bt597 => (some (bt589.1, bt597.1)))) = some (r1, r2) := h
 clear h; replace H := Option.bind_eq_some_iff.mp H; obtain ⟨⟨t589, t592, t593⟩, A20, H⟩ := H; (try dsimp only at H); have A2 := Aside0.mk A20; clear A20; obtain ⟨y594, hy594⟩ : ∃ y_ : List Int, y_ = (([(-97), (-96), (-17), (-1), 0, 1, 5, 16, 40, 96, 97] : List Int)) := ⟨_, rfl⟩
 replace H : ((spec_l1Cur_among.f l0 t592 t593 y594).bind fun bt597 => (some (t589, bt597.1))) = some (r1, r2) := by first | (rw [hy594]; with_reducible exact H) | (have H2_ := (Option.bind_some _ _).symm.trans H; rw [hy594]; with_reducible exact H2_) | (have H2_ := (Option.bind_some _ _).symm.trans H; with_reducible exact H2_) | with_reducible exact H | (rw [hy594]; exact H) | exact H
 have Ny594 := Aside0.mk hy594; clear hy594; replace H := Option.bind_eq_some_iff.mp H; obtain ⟨⟨t597, t598, t599⟩, A30, H⟩ := H; (try dsimp only at H); have A3 := Aside0.mk A30; clear A30
 simp only [Option.some.injEq, Prod.mk.injEq] at H
 obtain ⟨rfl, rfl⟩ := H
 go_enter Try.func30, Try.ntmps30
 go_wp2_with (first | ((with_reducible refine gate_dst (N := 2) rfl ?_); refine bX #[.slice none 0 0] 25 ?_; intro gb587 hg w4 hbox hb; have n0_ := cs (hq HB) hb; have BK587 := Aside0.mk (hbox); have GW587 := cg hg (hq HB); have GE587 := cg hg (hq HB); replace HB := n0_; clear n0_; clear hb hbox hg) | ((with_reducible refine gate_dst (N := 7) rfl ?_); refine bX #[.slice A0 l0.length c0, .int .i64 0, .int .u64 0] 78 ?_; intro gb588 hg w5 hbox hb; have n0_ := cB BK587 hb; have n1_ := cs (hq1 HB GE587) hb; have GW588 := cg hg (hq1 HB GE587); have GE588 := cg hg (hq1 HB GE587); have NB587_588 := cl hg BK587; have NB588_587 := cr hg BK587; have HI588 := Aside0.mk ((⟨_, _, hbox, (by rw [hg]; exact (below_size (hq1 HB GE587))), HR0.out⟩ : IsS78 w w5 gb588 l0 0 0)); replace BK587 := n0_; replace HB := n1_; clear n0_ n1_; clear hb hbox hg) | ((with_reducible refine gate_callee (f := 73) rfl ?_); refine gC (some 9) Try.func73 #[.pointer (some ⟨gb588, 0, none⟩)] ?_; (with_reducible refine (spec_l1Cur_big.calls k gb588 l0 0 0 t589 t592 t593 w _ ?side1 ?side2 A2.out).mono ?_); (case side1 => repeat (first | (with_reducible first | exact HI588.out | apply IsS78.alloc | apply IsS78.drewN | apply IsS78.drew | apply IsS78.set_1 | apply IsS78.set_2 | refine IsS78.far ?_ NB588_587.out _) | exact HI588.out)); (case side2 => repeat (first | (with_reducible first | exact HB.out | apply below_alloc | apply pw_below_drewN | apply below_drew1 | refine below_set ?_ (IsS78.ge HI588.out) | refine below_set ?_ GE587.out) | exact HB.out)); rintro e w6 ⟨v590, rfl, ho0, hi, hb, hk⟩; refine ⟨_, rfl, ?_⟩; replace BK587 := Aside0.mk (KeepBut.blk hk (g' := gb587) (o := .cells #[.slice none 0 0] 25 (0, 0)) (bq BK587) NB587_588.out (by simp)); have HO591 := Aside0.mk (Kd.R_lower ho0 (below_size (by repeat (first | (with_reducible first | exact HB.out | apply below_alloc | apply pw_below_drewN | apply below_drew1 | refine below_set ?_ (IsS78.ge HI588.out) | refine below_set ?_ GE587.out) | exact HB.out)))); replace HB := Aside0.mk (hb); replace HI588 := Aside0.mk (hi); (try clear hb); (try clear hb2); (try clear hk); (try clear hi); (try clear ho0)) | ((with_reducible refine gate_dst (N := 11) rfl ?_); refine Kd.R_lit (Kd.int .i64) _ 3 ?hg (N := 11) ?hd (xs := ([(-97), (-96), (-17), (-1), 0, 1, 5, 16, 40, 96, 97] : List Int)) (inner := [.int .i64 (-97), .int .i64 (-96), .int .i64 (-17), .int .i64 (-1), .int .i64 0, .int .i64 1, .int .i64 5, .int .i64 16, .int .i64 40, .int .i64 96, .int .i64 97]) (ok := fun _ => True) (okp := fun _ => True) ?hr ?hp (fun _ hk => hk) trivial (Below.refl _ _) (Nat.le_refl _) (by simp) ?_; (case hd => rfl); (case hg => rfl); (case hr => first | (go_simp; done) | (go_simp; rfl)); (case hp => exact (Reps.one (show Kd.M (Kd.int .i64) _ _ _ (-97) [.int .i64 (-97)] from rfl) (Reps.one (show Kd.M (Kd.int .i64) _ _ _ (-96) [.int .i64 (-96)] from rfl) (Reps.one (show Kd.M (Kd.int .i64) _ _ _ (-17) [.int .i64 (-17)] from rfl) (Reps.one (show Kd.M (Kd.int .i64) _ _ _ (-1) [.int .i64 (-1)] from rfl) (Reps.one (show Kd.M (Kd.int .i64) _ _ _ 0 [.int .i64 0] from rfl) (Reps.one (show Kd.M (Kd.int .i64) _ _ _ 1 [.int .i64 1] from rfl) (Reps.one (show Kd.M (Kd.int .i64) _ _ _ 5 [.int .i64 5] from rfl) (Reps.one (show Kd.M (Kd.int .i64) _ _ _ 16 [.int .i64 16] from rfl) (Reps.one (show Kd.M (Kd.int .i64) _ _ _ 40 [.int .i64 40] from rfl) (Reps.one (show Kd.M (Kd.int .i64) _ _ _ 96 [.int .i64 96] from rfl) (Reps.one (show Kd.M (Kd.int .i64) _ _ _ 97 [.int .i64 97] from rfl) (Reps.none _ _))))))))))))); intro v595 w7 ho8 hb hg_ hnew_; clear hg_ hnew_; (first | rw [← Ny594.out] at ho8 | (simp only [Int.reduceToNat] at ho8; rw [← Ny594.out] at ho8)); have n0_ := ce HO591 ho8 hb; have HO596 := Aside0.mk (Kd.R_lower (Kd.R_new' ho8 (ql HO591)) (below_size (by repeat (first | (with_reducible first | exact HB.out | apply below_alloc | apply pw_below_drewN | apply below_drew1 | refine below_set ?_ (IsS78.ge HI588.out) | refine below_set ?_ GE587.out) | exact HB.out)))); replace BK587 := cB BK587 hb; have n3_ := Aside0.mk (IsS78.below (by repeat (first | (with_reducible first | exact HI588.out | apply IsS78.alloc | apply IsS78.drewN | apply IsS78.drew | apply IsS78.set_1 | apply IsS78.set_2 | refine IsS78.far ?_ NB588_587.out _) | exact HI588.out)) hb); replace HB := Aside0.mk (below_step (by repeat (first | (with_reducible first | exact HB.out | apply below_alloc | apply pw_below_drewN | apply below_drew1 | refine below_set ?_ (IsS78.ge HI588.out) | refine below_set ?_ GE587.out) | exact HB.out)) hb); replace HO591 := n0_; replace HI588 := n3_; clear n0_ n3_; clear hb ho8; obtain ⟨Ao9, co9, eo9⟩ := Kd.R_slice HO596.out; subst eo9) | ((with_reducible refine gate_callee (f := 98) rfl ?_); refine gC (some 12) Try.func98 #[.pointer (some ⟨gb588, 0, none⟩), .slice Ao9 y594.length co9] ?_; (with_reducible refine (spec_l1Cur_among.calls gb588 l0 t592 t593 _ _ y594 t597 t598 t599 w _ ?side1 ?side2 ?side3 ?side4 ?side5 A3.out).mono ?_); (case side1 => repeat (first | (with_reducible first | exact HI588.out | apply IsS78.alloc | apply IsS78.drewN | apply IsS78.drew | apply IsS78.set_1 | apply IsS78.set_2 | refine IsS78.far ?_ NB588_587.out _) | exact HI588.out)); (case side2 => repeat (first | (with_reducible first | exact HB.out | apply below_alloc | apply pw_below_drewN | apply below_drew1 | refine below_set ?_ (IsS78.ge HI588.out) | refine below_set ?_ GE587.out) | exact HB.out)); (case side3 => exact cq ((Kd.R_reads' HO596.out).2.2)); (case side4 => exact (Kd.R_reads' HO596.out).2.1); (case side5 => exact far_slice (IsS78.own_ne HI588.out HO596.out (by decide))); rintro e w10 ⟨rfl, hi, hb, hk⟩; refine ⟨_, rfl, ?_⟩; replace BK587 := Aside0.mk (KeepBut.blk hk (g' := gb587) (o := .cells #[.slice none 0 0] 25 (0, 0)) (bq BK587) NB587_588.out (by simp)); replace HO591 := Aside0.mk (Kd.R_mono (Kd.R_keep (IsS78.apart (show IsS78 w _ gb588 l0 t592 t593 from by repeat (first | (with_reducible first | exact HI588.out | apply IsS78.alloc | apply IsS78.drewN | apply IsS78.drew | apply IsS78.set_1 | apply IsS78.set_2 | refine IsS78.far ?_ NB588_587.out _) | exact HI588.out)) (rq HO591) (by decide)) hk (fun _ h => h.2)) (fun _ h => h.1)); replace HO596 := Aside0.mk (Kd.R_mono (Kd.R_keep (IsS78.apart (show IsS78 w _ gb588 l0 t592 t593 from by repeat (first | (with_reducible first | exact HI588.out | apply IsS78.alloc | apply IsS78.drewN | apply IsS78.drew | apply IsS78.set_1 | apply IsS78.set_2 | refine IsS78.far ?_ NB588_587.out _) | exact HI588.out)) (rq HO596) (by decide)) hk (fun _ h => h.2)) (fun _ h => h.1)); replace HB := Aside0.mk (hb); replace HI588 := Aside0.mk (hi); (try clear hb); (try clear hb2); (try clear hk); (try clear hi); obtain ⟨Ao11, co11, eo11⟩ := Kd.R_slice HO591.out; subst eo11; have hnb12 := NB587_588.out; have hnc12 := NB588_587.out; have hcz13_0 : w10.cell? ⟨gb587, 0, none⟩ = some (.slice none 0 0) := (blk_cell BK587.out 0).trans rfl; have hfz13_0 := blk_frozen BK587.out 0))
 refine bodyPost_ret (results_ct rfl _ _ gb587 25 #[.slice Ao11 t589.length co11] (0, 0) _ rfl (by (with_reducible repeat (first | refine blk_drewN ?_ _ | refine blk_drew ?_ | refine blk_alloc ?_ _)); refine blk_put (cs := #[.slice none 0 0]) ?_ 0 _ rfl; (with_reducible repeat (first | refine blk_drewN ?_ _ | refine blk_drew ?_ | refine blk_alloc ?_ _)); exact BK587.out) Try.underlying25 rfl (by kernel_rfl)) rfl ?_
 exact ⟨_, by first | rfl | (simp <;> rfl) | (simp [*] <;> rfl), by (with_reducible repeat (first | apply Kd.R_alloc | apply Kd.R_drewN | apply Kd.R_drew)); exact Kd.R_mono (Kd.R_far (p := ⟨gb587, 0, none⟩) (Kd.R_types HO591.out BK587.out (by decide)) (fun _ hk => hk.2) (.slice Ao11 t589.length co11)) (fun _ hk => trivial), by repeat (first | (with_reducible first | exact HB.out | apply below_alloc | apply pw_below_drewN | apply below_drew1 | refine below_set ?_ (IsS78.ge HI588.out) | refine below_set ?_ GE587.out) | exact HB.out)⟩

/-! ### impl_power2: function 99 -/
def impl_power2.f (a0 : Int) : Option (List Int) := if 0 ≤ (wrap64 ((wrap64 (Int.tdiv a0 16)) + 1)) then (if (wrap64 ((wrap64 (Int.tdiv a0 16)) + 1) : Int).toNat ≤ 35184372088832 then ((some (List.replicate (wrap64 ((wrap64 (Int.tdiv a0 16)) + 1) : Int).toNat 0 : List Int)).bind fun y600 => (if 0 ≤ (Int.tmod a0 16) then (if 0 ≤ (wrap64 (Int.tdiv a0 16)) then (if (wrap64 (Int.tdiv a0 16)) < (y600.length : Int) then (some (y600.set ((wrap64 (Int.tdiv a0 16)) : Int).toNat (shl .i64 1 (Int.tmod a0 16)))) else (none)) else (none)) else (none))) else (none)) else (none)
set_option maxHeartbeats 8000000 in
set_option maxRecDepth 100000 in
theorem impl_power2.calls (a0 : Int) (r : List Int) (w : World) (h : impl_power2.f a0 = some r) :
    Calls Try.prog 99 #[.int .i64 a0] w fun e w' => ∃ v0_ : Value, e = .returned (v0_) ∧ Kd.R (Kd.int .i64) 3 w' w.heap.size (fun _ => True) v0_ r ∧ Below w.heap.size w w' := by
 have HB := Aside0.mk (Below.refl w.heap.size w)
 have H : (if 0 ≤ (wrap64 ((wrap64 (Int.tdiv a0 16)) + 1)) then (if (wrap64 ((wrap64 (Int.tdiv a0 16)) + 1) : Int).toNat ≤ 35184372088832 then ((some (List.replicate (wrap64 ((wrap64 (Int.tdiv a0 16)) + 1) : Int).toNat 0 : List Int)).bind fun y600 => (if 0 ≤ (Int.tmod a0 16) then (if 0 ≤ (wrap64 (Int.tdiv a0 16)) then (if (wrap64 (Int.tdiv a0 16)) < (y600.length : Int) then (some (y600.set ((wrap64 (Int.tdiv a0 16)) : Int).toNat (shl .i64 1 (Int.tmod a0 16)))) else (none)) else (none)) else (none))) else (none)) else (none)) = some r := h
 clear h; obtain ⟨ji2, hji2⟩ : ∃ j_ : Int, (wrap64 ((wrap64 (Int.tdiv a0 16)) + 1)) = j_ := ⟨_, rfl⟩
 replace H : (if 0 ≤ (ji2) then (if (ji2 : Int).toNat ≤ 35184372088832 then ((some (List.replicate (ji2 : Int).toNat 0 : List Int)).bind fun y600 => (if 0 ≤ (Int.tmod a0 16) then (if 0 ≤ (wrap64 (Int.tdiv a0 16)) then (if (wrap64 (Int.tdiv a0 16)) < (y600.length : Int) then (some (y600.set ((wrap64 (Int.tdiv a0 16)) : Int).toNat (shl .i64 1 (Int.tmod a0 16)))) else (none)) else (none)) else (none))) else (none)) else (none)) = some r := by first | (rw [hji2] at H; exact H) | (simp only [hji2] at H ⊢; exact H)
 have hji2w : (IntKind.i64.wrap ((wrap64 (Int.tdiv a0 16)) + 1)) = ji2 := (i64_w _).trans hji2
 by_cases c3 : 0 ≤ (ji2)
 rotate_left
 · rw [if_neg c3] at H
   exact absurd H (by simp)

 rw [if_pos c3] at H; have c3b0 := eq_true c3
 have c3b1 : decide (0 ≤ (ji2)) = true := decide_eq_true c3
 clear c3
 by_cases c4 : (ji2 : Int).toNat ≤ 35184372088832
 rotate_left
 · rw [if_neg c4] at H
   exact absurd H (by simp)
 rw [if_pos c4] at H; have c4b0 := eq_true c4
 have c4b1 : decide ((ji2 : Int).toNat ≤ 35184372088832) = true := decide_eq_true c4
 clear c4; obtain ⟨y600, hy600⟩ : ∃ y_ : List Int, y_ = (List.replicate (ji2 : Int).toNat 0) := ⟨_, rfl⟩
 replace H : (if 0 ≤ (Int.tmod a0 16) then (if 0 ≤ (wrap64 (Int.tdiv a0 16)) then (if (wrap64 (Int.tdiv a0 16)) < (y600.length : Int) then (some (y600.set ((wrap64 (Int.tdiv a0 16)) : Int).toNat (shl .i64 1 (Int.tmod a0 16)))) else (none)) else (none)) else (none)) = some r := by first | (rw [hy600]; with_reducible exact H) | (have H2_ := (Option.bind_some _ _).symm.trans H; rw [hy600]; with_reducible exact H2_) | (have H2_ := (Option.bind_some _ _).symm.trans H; with_reducible exact H2_) | with_reducible exact H | (rw [hy600]; exact H) | exact H
 have Ny600 := Aside0.mk hy600; clear hy600; obtain ⟨ji5, hji5⟩ : ∃ j_ : Int, (Int.tmod a0 16) = j_ := ⟨_, rfl⟩
 replace H : (if 0 ≤ (ji5) then (if 0 ≤ (wrap64 (Int.tdiv a0 16)) then (if (wrap64 (Int.tdiv a0 16)) < (y600.length : Int) then (some (y600.set ((wrap64 (Int.tdiv a0 16)) : Int).toNat (shl .i64 1 (ji5)))) else (none)) else (none)) else (none)) = some r := by first | (rw [hji5] at H; exact H) | (simp only [hji5] at H ⊢; exact H)
 by_cases c6 : 0 ≤ (ji5)
 rotate_left
 · rw [if_neg c6] at H
   exact absurd H (by simp)
 rw [if_pos c6] at H; have c6b0 := eq_true c6
 have c6b1 : decide (0 ≤ (ji5)) = true := decide_eq_true c6
 clear c6; obtain ⟨ji7, hji7⟩ : ∃ j_ : Int, (shl .i64 1 (ji5)) = j_ := ⟨_, rfl⟩
 replace H : (if 0 ≤ (wrap64 (Int.tdiv a0 16)) then (if (wrap64 (Int.tdiv a0 16)) < (y600.length : Int) then (some (y600.set ((wrap64 (Int.tdiv a0 16)) : Int).toNat (ji7))) else (none)) else (none)) = some r := by first | (rw [hji7] at H; exact H) | (simp only [hji7] at H ⊢; exact H)
 have hji7_ : (IntKind.i64.wrap (1 * 2 ^ min (ji5).toNat 64)) = ji7 := hji7
 have hji7z : (ji5) ≤ 64 → (IntKind.i64.wrap (1 * 2 ^ (ji5).toNat)) = ji7 := shl_small hji7
 have hji7u : (IntKind.i64.wrap (2 ^ min (ji5).toNat 64)) = ji7 := by have h_ := hji7_; rw [Int.one_mul] at h_; exact h_
 have hji7v : (ji5) ≤ 64 → (IntKind.i64.wrap (2 ^ (ji5).toNat)) = ji7 := fun hle_ => by have h_ := hji7z hle_; rw [Int.one_mul] at h_; exact h_
 have hji7y : (wrap64 (1 * 2 ^ min (ji5).toNat 64)) = ji7 := (i64_w _).symm.trans hji7_
 have hji7x : (ji5) ≤ 64 → (wrap64 (1 * 2 ^ (ji5).toNat)) = ji7 := fun h_ => (i64_w _).symm.trans (hji7z h_)
 obtain ⟨ji8, hji8⟩ : ∃ j_ : Int, (wrap64 (Int.tdiv a0 16)) = j_ := ⟨_, rfl⟩
 have hji2_ji8 : (wrap64 ((ji8) + 1)) = ji2 := by rw [← hji8]; exact hji2
 replace H : (if 0 ≤ (ji8) then (if (ji8) < (y600.length : Int) then (some (y600.set ((ji8) : Int).toNat (ji7))) else (none)) else (none)) = some r := by first | (rw [hji8] at H; exact H) | (simp only [hji8] at H ⊢; exact H)
 have hji8w : (IntKind.i64.wrap (Int.tdiv a0 16)) = ji8 := (i64_w _).trans hji8
 by_cases c9 : 0 ≤ (ji8)
 rotate_left
 · rw [if_neg c9] at H
   exact absurd H (by simp)
 rw [if_pos c9] at H
 have c9b0 : decide (0 ≤ (ji8)) = true := decide_eq_true c9
 clear c9
 by_cases c10 : (ji8) < (y600.length : Int)
 rotate_left
 · rw [if_neg c10] at H
   exact absurd H (by simp)
 rw [if_pos c10] at H
 have c10b0 : decide ((ji8) < (y600.length : Int)) = true := decide_eq_true c10
 clear c10; obtain ⟨y603, hy603⟩ : ∃ y_ : List Int, y_ = (y600.set ((ji8) : Int).toNat (ji7)) := ⟨_, rfl⟩
 replace H : (some y603) = some r := by first | (rw [hy603]; with_reducible exact H) | (have H2_ := (Option.bind_some _ _).symm.trans H; rw [hy603]; with_reducible exact H2_) | (have H2_ := (Option.bind_some _ _).symm.trans H; with_reducible exact H2_) | with_reducible exact H | (rw [hy603]; exact H) | exact H
 have Ny603 := Aside0.mk hy603; clear hy603; obtain rfl := Option.some.inj H
 go_enter Try.func99, Try.ntmps99
 go_wp2_with (first | ((with_reducible refine gate_dst (N := 7) rfl ?_); refine Kd.R_make (Kd.int .i64) _ 3 rfl (N := 7) rfl 23 _ _ rfl ji2 (by first | rfl | exact congrArg (Value.int .i64) hji2_ji8) (by first | rfl | exact congrArg (Value.int .i64) hji2_ji8) Try.underlying23 (.int .i64 0) 8 info3 rfl (by decide) (by omega) 0 (ok := fun _ => True) (okp := fun _ => True) rfl (fun _ hk => hk) trivial (of_decide_eq_true (by first | (with_reducible assumption) | assumption)) (Nat.le_trans (Nat.mul_le_mul_right _ (of_decide_eq_true (by first | (with_reducible assumption) | assumption) : ji2.toNat ≤ 35184372088832)) (by omega)) (Below.refl _ _) (Nat.le_refl _) ?_; intro v601 w12 ho13 hb hg_ hnew_; clear hg_ hnew_; (first | rw [← Ny600.out] at ho13 | (simp only [Int.reduceToNat] at ho13; rw [← Ny600.out] at ho13)); have HO602 := Aside0.mk (Kd.R_lower ho13 (below_size (hq HB))); replace HB := cs (hq HB) hb; clear hb ho13; have p11 : 0 ≤ ((ji8) : Int) := of_decide_eq_true (by first | (with_reducible assumption) | assumption); have q11 : ((ji8) : Int) < ((y600.length : Int) : Int) := of_decide_eq_true (by first | (with_reducible assumption) | assumption); obtain ⟨go11, co11, eo11, gb11, gl11, cl11, HG11⟩ := Kd.R_form HO602.out (by omega); (first | cases eo11 | (injection eo11 with ea_ en_ ec_; (first | subst ea_ | (injection ea_ with ea_; subst ea_)); subst ec_; clear en_)); have GB11 := Aside0.mk gb11; have GG11 := Aside0.mk HG11; clear gb11 gl11 HG11; obtain ⟨hx11_0, hf11_0⟩ := Kd.R_celln 0 HO602.out ((ji8) : Int) p11 q11; replace p11 := eq_true p11; replace q11 := eq_true q11; obtain ⟨hy14_, hz14_⟩ := Kd.R_celln 0 HO602.out ((ji8) : Int) (of_decide_eq_true (by first | (with_reducible assumption) | assumption)) (of_decide_eq_true (by first | (with_reducible assumption) | assumption)); have HP14 := Kd.R_putg HO602.out ((ji8) : Int) ji7) | ((with_reducible refine gate_store (t := 3) (p := 14) rfl ?_); refine store_event (t := 3) (p := 14) (v := ?vo_w15) (w1 := (w12.setCell ⟨go11, ((ji8) : Int).toNat, none⟩ (.int .i64 ji7))) ?hg ?ho ?hn ?hr ?_; (case ho => rfl); (case hg => rfl); (case hn => rfl); (case hr => first | (go_simp; done) | (go_simp; rfl)); intro w15 hw; have hg : w12.grownBy w15 (some go11) := (by rw [hw]; exact HP14.2); have hp_ : Kd.R (Kd.int .i64) 3 w15 w.heap.size (fun _ => True) (.slice (some ⟨go11, 0, none⟩) y600.length co11) y603 := (by rw [hw, Ny603.out]; exact HP14.1); clear HP14; replace HO602 := Aside0.mk (hp_); replace HB := Aside0.mk ((by rw [hw]; exact below_set (HB.out) GB11.out : Below w.heap.size w w15)); clear hg hw hp_))
 go_ret
 exact ⟨_, by first | rfl | (simp [errW_none, errW_some] <;> rfl) | (simp only [← hji2, ← hji5, ← hji7, ← hji8]; first | rfl | (simp [errW_none, errW_some] <;> rfl)) | (simp [*, errW_none, errW_some] <;> rfl), by (with_reducible repeat (first | apply Kd.R_alloc | apply Kd.R_drewN | apply Kd.R_drew)); exact HO602.out, hq HB⟩
end Go.Proofs.Ytadooofomkdaoaa.QFnLimbs
