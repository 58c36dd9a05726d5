import Derived.Test.YtadooofomkdaoaaSqueez2
import Derived.Test.YtadooofomkdaoaaQFnHalvesx0
import Derived.Test.YtadooofomkdaoaaQFnHalvesx5
import Derived.Test.YtadooofomkdaoaaQFnHalvesx6
namespace Go.Proofs.Ytadooofomkdaoaa.QFnHalves
open Go.RowKit Go.Proofs.YtadooofomkdaoaaW.PrintWords Go.Proofs.YtadooofomkdaoaaW.PrintLast Go.Proofs.YtadooofomkdaoaaW.PrintMore
attribute [local go_sem] max2_int min2_int max_two min_two max_three min_three max_four min_four   -- for this text's walks alone
set_option linter.unusedVariables false
set_option linter.unusedSimpArgs false

/-! ### spec_l1Times: function 96 -/
mutual
def spec_l1Times.l0 : Nat → List Int → List Int → List Int → Int → Int → Option (List Int)
  | 0, _, _, _, _, _ => none
  | k + 1, x1, x5, x18, x19, x20 => if x20 < x19 then (if 0 ≤ x20 then (if x20 < (x18.length : Int) then (spec_l1Times.l1 k x1 x5 x20 (rd x18 x20) 0 x18 x19 x20 x1 (x1.length : Int) 0) else (none)) else (none)) else ((spec_l1Trim.f k x5).bind fun t407 => (some t407))
def spec_l1Times.l1 : Nat → List Int → List Int → Int → Int → Int → List Int → Int → Int → List Int → Int → Int → Option (List Int)
  | 0, _, _, _, _, _, _, _, _, _, _, _ => none
  | k + 1, x1, x5, x6, x7, x8, x18, x19, x20, x25, x26, x27 => if x27 < x26 then (if 0 ≤ x27 then (if x27 < (x25.length : Int) then (if 0 ≤ (wrap64 (x6 + x27)) then (if (wrap64 (x6 + x27)) < (x5.length : Int) then (spec_l1Times.l1 k x1 (x5.set ((wrap64 (x6 + x27)) : Int).toNat (Int.tmod (wrap64 ((wrap64 ((rd x5 (wrap64 (x6 + x27))) + (wrap64 (x7 * (rd x25 x27))))) + x8)) 65536)) x6 x7 (wrap64 (Int.tdiv (wrap64 ((wrap64 ((rd x5 (wrap64 (x6 + x27))) + (wrap64 (x7 * (rd x25 x27))))) + x8)) 65536)) x18 x19 x20 x25 x26 (wrap64 (x27 + 1))) else (none)) else (none)) else (none)) else (none)) else (if 0 ≤ (wrap64 (x6 + (x1.length : Int))) then (if (wrap64 (x6 + (x1.length : Int))) < (x5.length : Int) then (spec_l1Times.l0 k x1 (x5.set ((wrap64 (x6 + (x1.length : Int))) : Int).toNat (wrap64 ((rd x5 (wrap64 (x6 + (x1.length : Int)))) + x8))) x18 x19 (wrap64 (x20 + 1))) else (none)) else (none))
end
def spec_l1Times.f (k : Nat) (l0 : List Int) (l1 : List Int) : Option (List Int) := if 0 ≤ (wrap64 ((l0.length : Int) + (l1.length : Int))) then (if (wrap64 ((l0.length : Int) + (l1.length : Int)) : Int).toNat ≤ 35184372088832 then (spec_l1Times.l0 k l1 (List.replicate (wrap64 ((l0.length : Int) + (l1.length : Int)) : Int).toNat 0) l0 (l0.length : Int) 0) else (none)) else (none)
set_option maxHeartbeats 8000000 in
set_option maxRecDepth 100000 in
theorem spec_l1Times.calls (k : Nat) (A0 : Option Addr) (c0 : Nat) (l0 : List Int) (A1 : Option Addr) (c1 : Nat) (l1 : List Int) (r : List Int) (w : World) (hr0 : Kd.C (Kd.int .i64) w A0 l0.length l0) (hc0 : l0.length ≤ c0) (hr1 : Kd.C (Kd.int .i64) w A1 l1.length l1) (hc1 : l1.length ≤ c1) (h : spec_l1Times.f k l0 l1 = some r) :
    Calls Try.prog 96 #[.slice A0 l0.length c0, .slice A1 l1.length c1] w fun e w' => ∃ v0_ : Value, e = .returned (v0_) ∧ Kd.V (Kd.int .i64) 3 w' w.heap.size (fun k_ => (w.heap.size ≤ k_)) v0_ r ∧ Below w.heap.size w w' := by
 have HR0 := Aside0.mk hr0; have HC0 := Aside0.mk hc0; clear hr0 hc0; have HR1 := Aside0.mk hr1; have HC1 := Aside0.mk hc1; clear hr1 hc1; have HB := Aside0.mk (Below.refl w.heap.size w)
 have H : (if 0 ≤ (wrap64 ((l0.length : Int) + (l1.length : Int))) then (if (wrap64 ((l0.length : Int) + (l1.length : Int)) : Int).toNat ≤ 35184372088832 then (spec_l1Times.l0 k l1 (List.replicate (wrap64 ((l0.length : Int) + (l1.length : Int)) : Int).toNat 0) l0 (l0.length : Int) 0) else (none)) else (none)) = some r := h
 clear h; obtain ⟨ji3, hji3⟩ : ∃ j_ : Int, (wrap64 ((l0.length : Int) + (l1.length : Int))) = j_ := ⟨_, rfl⟩
 replace H : (if 0 ≤ (ji3) then (if (ji3 : Int).toNat ≤ 35184372088832 then (spec_l1Times.l0 k l1 (List.replicate (ji3 : Int).toNat 0) l0 (l0.length : Int) 0) else (none)) else (none)) = some r := by first | (rw [hji3] at H; exact H) | (simp only [hji3] at H ⊢; exact H)
 have hji3w : (IntKind.i64.wrap ((l0.length : Int) + (l1.length : Int))) = ji3 := (i64_w _).trans hji3
 by_cases c4 : 0 ≤ (ji3)
 rotate_left
 · rw [if_neg c4] at H
   exact absurd H (by simp)

 rw [if_pos c4] at H; have c4b0 := eq_true c4
 have c4b1 : decide (0 ≤ (ji3)) = true := decide_eq_true c4
 clear c4
 by_cases c5 : (ji3 : Int).toNat ≤ 35184372088832
 rotate_left
 · rw [if_neg c5] at H
   exact absurd H (by simp)
 rw [if_pos c5] at H; have c5b0 := eq_true c5
 have c5b1 : decide ((ji3 : Int).toNat ≤ 35184372088832) = true := decide_eq_true c5
 clear c5; obtain ⟨y404, hy404⟩ : ∃ y_ : List Int, y_ = (List.replicate (ji3 : Int).toNat 0) := ⟨_, rfl⟩
 replace H : (spec_l1Times.l0 k l1 y404 l0 (l0.length : Int) 0) = some r := by first | (rw [hy404]; with_reducible exact H) | (have H2_ := (Option.bind_some _ _).symm.trans H; rw [hy404]; with_reducible exact H2_) | (have H2_ := (Option.bind_some _ _).symm.trans H; with_reducible exact H2_) | with_reducible exact H | (rw [hy404]; exact H) | exact H
 have Ny404 := Aside0.mk hy404; clear hy404
 have H' := Aside0.mk H
 clear H
 go_enter Try.func96, Try.ntmps96
 go_wp2_with (first | ((with_reducible refine gate_dst (N := 17) rfl ?_); refine Kd.R_make (Kd.int .i64) _ 3 rfl (N := 17) rfl 23 _ _ rfl ji3 rfl rfl Try.underlying23 (.int .i64 0) 8 info3 rfl (by decide) (by omega) 0 (ok := fun _ => True) (okp := fun _ => True) rfl (fun _ hk => hk) trivial (of_decide_eq_true (by first | (with_reducible assumption) | assumption)) (Nat.le_trans (Nat.mul_le_mul_right _ (of_decide_eq_true (by first | (with_reducible assumption) | assumption) : ji3.toNat ≤ 35184372088832)) (by omega)) (Below.refl _ _) (Nat.le_refl _) ?_; intro v405 w6 ho7 hb hg_ hnew_; clear hg_ hnew_; (first | rw [← Ny404.out] at ho7 | (simp only [Int.reduceToNat] at ho7; rw [← Ny404.out] at ho7)); have HO406 := Aside0.mk (Kd.R_lower (Kd.R_newM (M := fun k_ => (w.heap.size ≤ k_)) ho7 (below_size (hq HB)) (fun k_ h_ => h_)) (below_size (hq HB))); replace HB := cs (hq HB) hb; clear hb ho7))
 go_loopg [20] k (fun kq v20 w' => ∃ (x5_1 : List Int) (x20_1 : Int), v20 = .int .i64 x20_1 ∧ Aside0 (spec_l1Times.l0 kq l1 x5_1 l0 (l0.length : Int) x20_1 = some r) ∧ Aside0 (kq ≤ k) ∧ Aside0 (Kd.R (Kd.int .i64) 3 w' w.heap.size (fun k_ => (w.heap.size ≤ k_)) v405 x5_1) ∧ Aside0 (Below w.heap.size w w'))
 case atStart => exact ⟨(y404), (0), (by first | rfl | (simp; done) | (simp [*]; done)), H', ⟨Nat.le_refl _⟩, ⟨by (with_reducible repeat (first | apply Kd.R_alloc | apply Kd.R_drewN | apply Kd.R_drew)); exact Kd.R_mono HO406.out (fun _ hk => hk.1)⟩, ⟨hq HB⟩⟩
 case round =>
   clear H'
   (try clear c1); (try clear p2); (try clear c4); (try clear c4b0); (try clear c4b1); (try clear c5); (try clear c5b0); (try clear c5b1); (try clear p6); obtain ⟨x5_1, x20_1, rfl, HA, HK1, HO_5, HB⟩ := hrel
   cases gk with
   | zero => exact absurd HA.out (by simp [spec_l1Times.l0])
   | succ k1 =>
     have H := HA.out; clear HA
     simp only [spec_l1Times.l0] at H
     by_cases c8 : x20_1 < (l0.length : Int)
     · rw [if_pos c8] at H
       have c8b0 : decide (x20_1 < (l0.length : Int)) = true := decide_eq_true c8
       clear c8
       by_cases c9 : 0 ≤ x20_1
       · rw [if_pos c9] at H
         have c9b0 : decide (0 ≤ x20_1) = true := decide_eq_true c9
         clear c9
         by_cases c10 : x20_1 < (l0.length : Int)
         · rw [if_pos c10] at H
           have c10b0 : decide (x20_1 < (l0.length : Int)) = true := decide_eq_true c10
           clear c10
           have H' := Aside0.mk H
           clear H
           have p410 : 0 ≤ (x20_1 : Int) := of_decide_eq_true (by first | (with_reducible assumption) | assumption)
           have q410 : x20_1 < (l0.length : Int) := of_decide_eq_true (by first | (with_reducible assumption) | assumption)
           obtain ⟨ad410, e410, hx410_0⟩ := Kd.at_int HR0.out x20_1 p410 q410
           cases e410
           replace hx410_0 := (HB.out.cell (World.block_lt_of_cell? w _ hx410_0)).trans hx410_0; replace p410 := eq_true p410; replace q410 := eq_true q410
           go_wp2
           go_loopg [8, 27] k1 (fun kq v8 v27 w' => ∃ (x5_2 : List Int) (x8_2 : Int) (x27_2 : Int), v8 = .int .i64 x8_2 ∧ v27 = .int .i64 x27_2 ∧ Aside0 (spec_l1Times.l1 kq l1 x5_2 x20_1 (rd l0 x20_1) x8_2 l0 (l0.length : Int) x20_1 l1 (l1.length : Int) x27_2 = some r) ∧ Aside0 (kq ≤ k1) ∧ Aside0 (Kd.R (Kd.int .i64) 3 w' w.heap.size (fun k_ => (w.heap.size ≤ k_)) v405 x5_2) ∧ Aside0 (Below w.heap.size w w'))
           case atStart => exact ⟨(x5_1), (0), (0), (by first | rfl | (simp; done) | (simp [*]; done)), (by first | rfl | (simp; done) | (simp [*]; done)), H', ⟨Nat.le_refl _⟩, ⟨by (with_reducible repeat (first | apply Kd.R_alloc | apply Kd.R_drewN | apply Kd.R_drew)); exact HO_5.out⟩, ⟨hq HB⟩⟩
           case round =>
             clear H'
             (try clear c1); (try clear p2); (try clear c4); (try clear c4b0); (try clear c4b1); (try clear p4); (try clear q4); (try clear hx4); (try clear c5); (try clear c5b0); (try clear c5b1); (try clear p6); (try clear c8); (try clear c8b0); (try clear c9); (try clear c9b0); (try clear c10); (try clear c10b0); (try clear hx410_0); (try clear p2); (try clear p410); (try clear p6); (try clear q410); obtain ⟨x5_2, x8_2, x27_2, rfl, rfl, HA, HK2, HO_5, HB⟩ := hrel
             cases gk with
             | zero => exact absurd HA.out (by simp [spec_l1Times.l1])
             | succ k2 =>
               have H := HA.out; clear HA
               simp only [spec_l1Times.l1] at H
               by_cases c11 : x27_2 < (l1.length : Int)
               · rw [if_pos c11] at H
                 have c11b0 : decide (x27_2 < (l1.length : Int)) = true := decide_eq_true c11
                 clear c11
                 by_cases c12 : 0 ≤ x27_2
                 · rw [if_pos c12] at H
                   have c12b0 : decide (0 ≤ x27_2) = true := decide_eq_true c12
                   clear c12
                   by_cases c13 : x27_2 < (l1.length : Int)
                   · rw [if_pos c13] at H
                     have c13b0 : decide (x27_2 < (l1.length : Int)) = true := decide_eq_true c13
                     clear c13; obtain ⟨ji14, hji14⟩ : ∃ j_ : Int, (wrap64 (x20_1 + x27_2)) = j_ := ⟨_, rfl⟩
                     replace H : (if 0 ≤ (ji14) then (if (ji14) < (x5_2.length : Int) then (spec_l1Times.l1 k2 l1 (x5_2.set ((ji14) : Int).toNat (Int.tmod (wrap64 ((wrap64 ((rd x5_2 (ji14)) + (wrap64 ((rd l0 x20_1) * (rd l1 x27_2))))) + x8_2)) 65536)) x20_1 (rd l0 x20_1) (wrap64 (Int.tdiv (wrap64 ((wrap64 ((rd x5_2 (ji14)) + (wrap64 ((rd l0 x20_1) * (rd l1 x27_2))))) + x8_2)) 65536)) l0 (l0.length : Int) x20_1 l1 (l1.length : Int) (wrap64 (x27_2 + 1))) else (none)) else (none)) = some r := by first | (rw [hji14] at H; exact H) | (simp only [hji14] at H ⊢; exact H)
                     have hji14w : (IntKind.i64.wrap (x20_1 + x27_2)) = ji14 := (i64_w _).trans hji14
                     by_cases c15 : 0 ≤ (ji14)
                     · rw [if_pos c15] at H
                       have c15b0 : decide (0 ≤ (ji14)) = true := decide_eq_true c15
                       clear c15
                       by_cases c16 : (ji14) < (x5_2.length : Int)
                       · rw [if_pos c16] at H
                         have c16b0 : decide ((ji14) < (x5_2.length : Int)) = true := decide_eq_true c16
                         clear c16; obtain ⟨y413, hy413⟩ : ∃ y_ : List Int, y_ = (x5_2.set ((ji14) : Int).toNat (Int.tmod (wrap64 ((wrap64 ((rd x5_2 (ji14)) + (wrap64 ((rd l0 x20_1) * (rd l1 x27_2))))) + x8_2)) 65536)) := ⟨_, rfl⟩
                         replace H : (spec_l1Times.l1 k2 l1 y413 x20_1 (rd l0 x20_1) (wrap64 (Int.tdiv (wrap64 ((wrap64 ((rd x5_2 (ji14)) + (wrap64 ((rd l0 x20_1) * (rd l1 x27_2))))) + x8_2)) 65536)) l0 (l0.length : Int) x20_1 l1 (l1.length : Int) (wrap64 (x27_2 + 1))) = some r := by first | (rw [hy413]; with_reducible exact H) | (have H2_ := (Option.bind_some _ _).symm.trans H; rw [hy413]; with_reducible exact H2_) | (have H2_ := (Option.bind_some _ _).symm.trans H; with_reducible exact H2_) | with_reducible exact H | (rw [hy413]; exact H) | exact H
                         have Ny413 := Aside0.mk hy413; clear hy413
                         have H' := Aside0.mk H
                         clear H
                         have p411 : 0 ≤ (x27_2 : Int) := of_decide_eq_true (by first | (with_reducible assumption) | assumption)
                         have q411 : x27_2 < (l1.length : Int) := of_decide_eq_true (by first | (with_reducible assumption) | assumption)
                         obtain ⟨ad411, e411, hx411_0⟩ := Kd.at_int HR1.out x27_2 p411 q411
                         cases e411
                         replace hx411_0 := (HB.out.cell (World.block_lt_of_cell? w _ hx411_0)).trans hx411_0; replace p411 := eq_true p411; replace q411 := eq_true q411; obtain ⟨Ao18, co18, eo18⟩ := Kd.R_slice HO_5.out; subst eo18
                         have p412 : 0 ≤ ((ji14) : Int) := of_decide_eq_true (by first | (with_reducible assumption) | assumption)
                         have q412 : (ji14) < (x5_2.length : Int) := of_decide_eq_true (by first | (with_reducible assumption) | assumption)
                         obtain ⟨ad412, e412, hx412_0⟩ := Kd.at_int (Kd.R_reads' HO_5.out).2.2 (ji14) p412 q412
                         cases e412
                         replace p412 := eq_true p412; replace q412 := eq_true q412
                         have p17 : 0 ≤ ((ji14) : Int) := of_decide_eq_true (by first | (with_reducible assumption) | assumption)
                         have q17 : ((ji14) : Int) < ((x5_2.length : Int) : Int) := of_decide_eq_true (by first | (with_reducible assumption) | assumption)
                         obtain ⟨go17, co17, eo17, gb17, gl17, cl17, HG17⟩ := Kd.R_form HO_5.out (by omega)
                         (first | cases eo17 | (injection eo17 with ea_ en_ ec_; (first | subst ea_ | (injection ea_ with ea_; subst ea_)); subst ec_; clear en_))
                         have GB17 := Aside0.mk gb17; have GG17 := Aside0.mk HG17; clear gb17 gl17 HG17
                         (first | simp only [add_plain] at hx412_0 | skip)
                         obtain ⟨hx17_0, hf17_0⟩ := Kd.R_celln 0 HO_5.out ((ji14) : Int) p17 q17; replace p17 := eq_true p17; replace q17 := eq_true q17; have HP19 := Kd.R_putg HO_5.out ((ji14) : Int) (Int.tmod (wrap64 ((wrap64 ((rd x5_2 (ji14)) + (wrap64 ((rd l0 x20_1) * (rd l1 x27_2))))) + x8_2)) 65536)
                         go_wp2_with (first | ((with_reducible refine gate_store (t := 3) (p := 50) rfl ?_); refine store_event (t := 3) (p := 50) (v := ?vo_w20) (w1 := (wr.setCell ⟨go17, ((ji14) : Int).toNat, none⟩ (.int .i64 (Int.tmod (wrap64 ((wrap64 ((rd x5_2 (ji14)) + (wrap64 ((rd l0 x20_1) * (rd l1 x27_2))))) + x8_2)) 65536)))) ?hg ?ho ?hn ?hr ?_; (case ho => rfl); (case hg => rfl); (case hn => rfl); (case hr => first | (go_simp; done) | (go_simp; rfl)); intro w20 hw; have hg : wr.grownBy w20 (some go17) := (by rw [hw]; exact HP19.2); have hp_ : Kd.R (Kd.int .i64) 3 w20 w.heap.size (fun k_ => (w.heap.size ≤ k_)) (.slice (some ⟨go17, 0, none⟩) x5_2.length co18) y413 := (by rw [hw, Ny413.out]; exact HP19.1); clear HP19; replace HO_5 := Aside0.mk (hp_); replace HB := Aside0.mk ((by rw [hw]; exact below_set (HB.out) GB17.out : Below w.heap.size w w20)); clear hg hw hp_))
                         go_roundg k2
                         case measure => have := HK1.out; have := HK2.out; omega
                         case rel => exact ⟨(y413), (wrap64 (Int.tdiv (wrap64 ((wrap64 ((rd x5_2 (ji14)) + (wrap64 ((rd l0 x20_1) * (rd l1 x27_2))))) + x8_2)) 65536)), (wrap64 (x27_2 + 1)), (by first | rfl | (simp; done) | (simp only [← hji14] <;> (first | rfl | simp)) | (simp [*]; done)), (by first | rfl | (simp; done) | (simp [*]; done)), H', ⟨by have := HK1.out; have := HK2.out; omega⟩, ⟨by (with_reducible repeat (first | apply Kd.R_alloc | apply Kd.R_drewN | apply Kd.R_drew)); exact HO_5.out⟩, ⟨hq HB⟩⟩
                       · rw [if_neg c16] at H
                         exact absurd H (by simp)
                     · rw [if_neg c15] at H
                       exact absurd H (by simp)
                   · rw [if_neg c13] at H
                     exact absurd H (by simp)
                 · rw [if_neg c12] at H
                   exact absurd H (by simp)
               · rw [if_neg c11] at H
                 have c11b0 : decide (x27_2 < (l1.length : Int)) = false := decide_eq_false c11
                 clear c11; obtain ⟨ji21, hji21⟩ : ∃ j_ : Int, (wrap64 (x20_1 + (l1.length : Int))) = j_ := ⟨_, rfl⟩
                 replace H : (if 0 ≤ (ji21) then (if (ji21) < (x5_2.length : Int) then (spec_l1Times.l0 k2 l1 (x5_2.set ((ji21) : Int).toNat (wrap64 ((rd x5_2 (ji21)) + x8_2))) l0 (l0.length : Int) (wrap64 (x20_1 + 1))) else (none)) else (none)) = some r := by first | (rw [hji21] at H; exact H) | (simp only [hji21] at H ⊢; exact H)
                 have hji21w : (IntKind.i64.wrap (x20_1 + (l1.length : Int))) = ji21 := (i64_w _).trans hji21
                 by_cases c22 : 0 ≤ (ji21)
                 · rw [if_pos c22] at H
                   have c22b0 : decide (0 ≤ (ji21)) = true := decide_eq_true c22
                   clear c22
                   by_cases c23 : (ji21) < (x5_2.length : Int)
                   · rw [if_pos c23] at H
                     have c23b0 : decide ((ji21) < (x5_2.length : Int)) = true := decide_eq_true c23
                     clear c23; obtain ⟨y415, hy415⟩ : ∃ y_ : List Int, y_ = (x5_2.set ((ji21) : Int).toNat (wrap64 ((rd x5_2 (ji21)) + x8_2))) := ⟨_, rfl⟩
                     replace H : (spec_l1Times.l0 k2 l1 y415 l0 (l0.length : Int) (wrap64 (x20_1 + 1))) = some r := by first | (rw [hy415]; with_reducible exact H) | (have H2_ := (Option.bind_some _ _).symm.trans H; rw [hy415]; with_reducible exact H2_) | (have H2_ := (Option.bind_some _ _).symm.trans H; with_reducible exact H2_) | with_reducible exact H | (rw [hy415]; exact H) | exact H
                     have Ny415 := Aside0.mk hy415; clear hy415
                     have H' := Aside0.mk H
                     clear H; obtain ⟨Ao25, co25, eo25⟩ := Kd.R_slice HO_5.out; subst eo25
                     have p414 : 0 ≤ ((ji21) : Int) := of_decide_eq_true (by first | (with_reducible assumption) | assumption)
                     have q414 : (ji21) < (x5_2.length : Int) := of_decide_eq_true (by first | (with_reducible assumption) | assumption)
                     obtain ⟨ad414, e414, hx414_0⟩ := Kd.at_int (Kd.R_reads' HO_5.out).2.2 (ji21) p414 q414
                     cases e414
                     replace p414 := eq_true p414; replace q414 := eq_true q414
                     have p24 : 0 ≤ ((ji21) : Int) := of_decide_eq_true (by first | (with_reducible assumption) | assumption)
                     have q24 : ((ji21) : Int) < ((x5_2.length : Int) : Int) := of_decide_eq_true (by first | (with_reducible assumption) | assumption)
                     obtain ⟨go24, co24, eo24, gb24, gl24, cl24, HG24⟩ := Kd.R_form HO_5.out (by omega)
                     (first | cases eo24 | (injection eo24 with ea_ en_ ec_; (first | subst ea_ | (injection ea_ with ea_; subst ea_)); subst ec_; clear en_))
                     have GB24 := Aside0.mk gb24; have GG24 := Aside0.mk HG24; clear gb24 gl24 HG24
                     (first | simp only [add_plain] at hx414_0 | skip)
                     obtain ⟨hx24_0, hf24_0⟩ := Kd.R_celln 0 HO_5.out ((ji21) : Int) p24 q24; replace p24 := eq_true p24; replace q24 := eq_true q24; have HP26 := Kd.R_putg HO_5.out ((ji21) : Int) (wrap64 ((rd x5_2 (ji21)) + x8_2))
                     go_wp2_with (first | ((with_reducible refine gate_store (t := 3) (p := 63) rfl ?_); refine store_event (t := 3) (p := 63) (v := ?vo_w27) (w1 := (wr.setCell ⟨go24, ((ji21) : Int).toNat, none⟩ (.int .i64 (wrap64 ((rd x5_2 (ji21)) + x8_2))))) ?hg ?ho ?hn ?hr ?_; (case ho => rfl); (case hg => rfl); (case hn => rfl); (case hr => first | (go_simp; done) | (go_simp; rfl)); intro w27 hw; have hg : wr.grownBy w27 (some go24) := (by rw [hw]; exact HP26.2); have hp_ : Kd.R (Kd.int .i64) 3 w27 w.heap.size (fun k_ => (w.heap.size ≤ k_)) (.slice (some ⟨go24, 0, none⟩) x5_2.length co25) y415 := (by rw [hw, Ny415.out]; exact HP26.1); clear HP26; replace HO_5 := Aside0.mk (hp_); replace HB := Aside0.mk ((by rw [hw]; exact below_set (HB.out) GB24.out : Below w.heap.size w w27)); clear hg hw hp_))
                     go_roundg k2
                     case measure => have := HK1.out; have := HK2.out; omega
                     case rel => exact ⟨(y415), (wrap64 (x20_1 + 1)), (by first | rfl | (simp; done) | (simp [*]; done)), H', ⟨by have := HK1.out; have := HK2.out; omega⟩, ⟨by (with_reducible repeat (first | apply Kd.R_alloc | apply Kd.R_drewN | apply Kd.R_drew)); exact HO_5.out⟩, ⟨hq HB⟩⟩
                   · rw [if_neg c23] at H
                     exact absurd H (by simp)
                 · rw [if_neg c22] at H
                   exact absurd H (by simp)
         · rw [if_neg c10] at H
           exact absurd H (by simp)
       · rw [if_neg c9] at H
         exact absurd H (by simp)
     · rw [if_neg c8] at H
       have c8b0 : decide (x20_1 < (l0.length : Int)) = false := decide_eq_false c8
       clear c8; replace H := Option.bind_eq_some_iff.mp H; obtain ⟨t407, A280, H⟩ := H; (try dsimp only at H); have A28 := Aside0.mk A280; clear A280; obtain rfl := Option.some.inj H; obtain ⟨Ao29, co29, eo29⟩ := Kd.R_slice HO_5.out; subst eo29
       go_wp2_with (first | ((with_reducible refine gate_callee (f := 131) rfl ?_); refine gC (some 66) Try.func131 #[.slice Ao29 x5_1.length co29] ?_; (with_reducible refine (spec_l1Trim.calls k1 (fun k_ => some k_ = (.slice Ao29 x5_1.length co29 : Value).ownBlock) _ _ x5_1 t407 _ ?side1 A28.out).mono ?_); (case side1 => exact Kd.R_V (Kd.R_tight rfl (HO_5.out))); rintro e w30 ⟨v408, rfl, ho0, hb⟩; refine ⟨_, rfl, ?_⟩; have n0_ := cb HO_5 hb; have HO409 := Aside0.mk (Kd.V_lower (Kd.V_mono (ok' := fun k_ => (w.heap.size ≤ k_)) ho0 (fun k_ hk_ => Or.elim hk_ (fun hs_ => ((HO_5.out).1 k_ hs_.symm)) (fun hn_ => (Nat.le_trans (below_size (hq HB)) hn_)))) (below_size (hq HB))); replace HB := cs (hq HB) hb; replace HO_5 := n0_; clear n0_; (try clear hb); (try clear hb2); (try clear hk); (try clear hi); (try clear ho0)))
       go_ret
       exact ⟨_, by first | rfl | (simp [errW_none, errW_some] <;> rfl) | (simp only [← hji3]; first | rfl | (simp [errW_none, errW_some] <;> rfl)) | (simp [*, errW_none, errW_some] <;> rfl), by (with_reducible repeat (first | apply Kd.V_alloc | apply Kd.V_drewN | apply Kd.V_drew)); exact HO409.out, hq HB⟩
/-! ### spec_HalvesTimes: function 38 -/
def spec_HalvesTimes.j0 : Nat → Bool → List Int → List Int → Option (List Int × Bool)
  | 0, _, _, _ => none
  | k + 1, x21, x417000, x418000 => if x21 = true then (some (([] : List Int), false)) else ((spec_l1Times.f k x417000 x418000).bind fun t420 => ((spec_l1Tell.f k t420).bind fun bt423 => (some (bt423.1, bt423.2))))
def spec_HalvesTimes.f (k : Nat) (l0_0 : List Int) (l1_0 : List Int) : Option (List Int × Bool) := (spec_l1Both.f k l0_0 l1_0).bind fun t419 => (if t419 = true then (if (l0_0.length : Int) > 3 then (spec_HalvesTimes.j0 k true l0_0 l1_0) else (spec_HalvesTimes.j0 k (decide ((l1_0.length : Int) > 3)) l0_0 l1_0)) else (spec_HalvesTimes.j0 k true l0_0 l1_0))
set_option maxHeartbeats 8000000 in
set_option maxRecDepth 100000 in
theorem spec_HalvesTimes.calls (k : Nat) (A0_0 : Option Addr) (c0_0 : Nat) (l0_0 : List Int) (A1_0 : Option Addr) (c1_0 : Nat) (l1_0 : List Int) (r1 : List Int) (r2 : Bool) (w : World) (hr0_0 : Kd.C (Kd.int .i64) w A0_0 l0_0.length l0_0) (hc0_0 : l0_0.length ≤ c0_0) (hr1_0 : Kd.C (Kd.int .i64) w A1_0 l1_0.length l1_0) (hc1_0 : l1_0.length ≤ c1_0) (h : spec_HalvesTimes.f k l0_0 l1_0 = some (r1, r2)) :
    Calls Try.prog 38 #[.agg #[.slice A0_0 l0_0.length c0_0], .agg #[.slice A1_0 l1_0.length c1_0]] w fun e w' => ∃ v0_ : Value, e = .returned (.tuple #[.agg #[v0_], .bool r2]) ∧ Kd.R (Kd.int .i64) 3 w' w.heap.size (fun _ => True) v0_ r1 ∧ Below w.heap.size w w' := by
 have hu25 := Try.underlying25; have HR0_0 := Aside0.mk hr0_0; have HC0_0 := Aside0.mk hc0_0; clear hr0_0 hc0_0; have HR1_0 := Aside0.mk hr1_0; have HC1_0 := Aside0.mk hc1_0; clear hr1_0 hc1_0; have HB := Aside0.mk (Below.refl w.heap.size w)
 have H : ((spec_l1Both.f k l0_0 l1_0).bind fun t419 => (if t419 = true then (if (l0_0.length : Int) > 3 then (spec_HalvesTimes.j0 k true l0_0 l1_0) else (spec_HalvesTimes.j0 k (decide ((l1_0.length : Int) > 3)) l0_0 l1_0)) else (spec_HalvesTimes.j0 k true l0_0 l1_0))) = some (r1, r2) := h
 clear h; have HC3 := Aside0.mk H; clear H
 go_enter Try.func38, Try.ntmps38
 go_upto_region 1 with (first | ((with_reducible refine gate_dst (N := 2) rfl ?_); (try (refine gate_guard (by rfl) ?_; dsimp only)); refine bX #[.slice A0_0 l0_0.length c0_0] 25 ?_; intro gb416 hg w4 hbox hb; have n0_ := cs (hq HB) hb; have BK416 := Aside0.mk (hbox); have GW416 := cg hg (hq HB); have GE416 := cg hg (hq HB); replace HB := n0_; clear n0_; clear hb hbox hg) | ((with_reducible refine gate_dst (N := 3) rfl ?_); (try (refine gate_guard (by rfl) ?_; dsimp only)); refine bX #[.slice A1_0 l1_0.length c1_0] 25 ?_; intro gb417 hg w5 hbox hb; have n0_ := cB BK416 hb; have n1_ := cs (hq1 HB GE416) hb; have BK417 := Aside0.mk (hbox); have GW417 := cg hg (hq1 HB GE416); have GE417 := cg hg (hq1 HB GE416); have NB416_417 := cl hg BK416; have NB417_416 := cr hg BK416; replace BK416 := n0_; replace HB := n1_; clear n0_ n1_; clear hb hbox hg) | ((with_reducible refine gate_dst (N := 4) rfl ?_); (try (refine gate_guard (by rfl) ?_; dsimp only)); refine bX #[.slice none 0 0] 25 ?_; intro gb418 hg w6 hbox hb; have n0_ := cB BK416 hb; have n1_ := cB BK417 hb; have n2_ := cs (hq2 HB GE416 GE417) hb; have BK418 := Aside0.mk (hbox); have GW418 := cg hg (hq2 HB GE416 GE417); have GE418 := cg hg (hq2 HB GE416 GE417); have NB416_418 := cl hg BK416; have NB418_416 := cr hg BK416; have NB417_418 := cl hg BK417; have NB418_417 := cr hg BK417; replace BK416 := n0_; replace BK417 := n1_; replace HB := n2_; clear n0_ n1_ n2_; clear hb hbox hg))
 (try simp only [Act.put, List.setIfInBounds_toArray, List.set_cons_zero, List.set_cons_succ])
 go_cut [21] (fun v21 wc => ∃ (kq : Nat) (x21_2 : Bool), v21 = .bool x21_2 ∧ Aside0 (spec_HalvesTimes.j0 kq x21_2 l0_0 l1_0 = some (r1, r2)) ∧ Aside0 (kq ≤ k) ∧ Aside0 (wc.heap[gb416]? = some (.cells #[(.slice A0_0 l0_0.length c0_0)] 25 (0, 0))) ∧ Aside0 (wc.heap[gb417]? = some (.cells #[(.slice A1_0 l1_0.length c1_0)] 25 (0, 0))) ∧ Aside0 (wc.heap[gb418]? = some (.cells #[(.slice none 0 0)] 25 (0, 0))) ∧ Aside0 (Below w.heap.size w wc))
 case first =>
   have H := HC3.out; clear HC3; replace H := Option.bind_eq_some_iff.mp H; obtain ⟨t419, A70, H⟩ := H; (try dsimp only at H); have A7 := Aside0.mk A70; clear A70
   by_cases c8 : t419 = true
   rotate_left
   · replace c8 := Bool.eq_false_iff.mpr c8
     subst c8
     have H1 : (spec_HalvesTimes.j0 k true l0_0 l1_0) = some (r1, r2) := by rw [if_neg (show ¬ (false = true) by decide)] at H; exact H
     clear H; have H := H1; clear H1
     have H' := Aside0.mk H
     clear H; have hnb25 := NB416_417.out; have hnc25 := NB417_416.out; have hnb26 := NB416_418.out; have hnc26 := NB418_416.out
     have hcz27_0 : w6.cell? ⟨gb416, 0, none⟩ = some (.slice A0_0 l0_0.length c0_0) := (blk_cell BK416.out 0).trans rfl
     have hfz27_0 := blk_frozen BK416.out 0; have hnb28 := NB417_418.out; have hnc28 := NB418_417.out
     have hcz29_0 : w6.cell? ⟨gb417, 0, none⟩ = some (.slice A1_0 l1_0.length c1_0) := (blk_cell BK417.out 0).trans rfl
     have hfz29_0 := blk_frozen BK417.out 0
     go_wp2_with (first | ((with_reducible refine gate_callee (f := 77) rfl ?_); refine gC (some 8) Try.func77 #[.agg #[.slice A0_0 l0_0.length c0_0], .agg #[.slice A1_0 l1_0.length c1_0]] ?_; (with_reducible refine (spec_l1Both.calls k _ _ l0_0 _ _ l1_0 false _ ?side1 ?side2 ?side3 ?side4 A7.out).mono ?_); (case side1 => exact cq (Kd.C_below HR0_0.out HB.out)); (case side2 => exact HC0_0.out); (case side3 => exact cq (Kd.C_below HR1_0.out HB.out)); (case side4 => exact HC1_0.out); rintro e w30 ⟨rfl, hb⟩; refine ⟨_, rfl, ?_⟩; replace BK416 := cB BK416 hb; replace BK417 := cB BK417 hb; replace BK418 := cB BK418 hb; replace HB := cs (hq3 HB GE416 GE417 GE418) hb; (try clear hb); (try clear hb2); (try clear hk); (try clear hi)))
     go_meet
     case rel => exact ⟨_, (true), (by first | rfl | (simp; done) | (simp [*]; done)), H', ⟨by first | omega | exact Nat.le_refl _⟩, ⟨by (with_reducible repeat (first | refine blk_drewN ?_ _ | refine blk_drew ?_ | refine blk_alloc ?_ _)); exact BK416.out⟩, ⟨by (with_reducible repeat (first | refine blk_drewN ?_ _ | refine blk_drew ?_ | refine blk_alloc ?_ _)); exact BK417.out⟩, ⟨by (with_reducible repeat (first | refine blk_drewN ?_ _ | refine blk_drew ?_ | refine blk_alloc ?_ _)); exact BK418.out⟩, ⟨hq3 HB GE416 GE417 GE418⟩⟩
   subst c8
   have H1 : (if (l0_0.length : Int) > 3 then (spec_HalvesTimes.j0 k true l0_0 l1_0) else (spec_HalvesTimes.j0 k (decide ((l1_0.length : Int) > 3)) l0_0 l1_0)) = some (r1, r2) := by rw [if_pos rfl] at H; exact H
   clear H; have H := H1; clear H1
   by_cases c9 : (l0_0.length : Int) > 3
   · rw [if_pos c9] at H
     have c9b0 : decide (3 < (l0_0.length : Int)) = true := decide_eq_true c9
     have c9b1 : decide (3 < l0_0.length) = true := decide_eq_true (by omega)
     clear c9
     (first | rw [c9b0] | (simp only [i64_w, i32_w]; rw [c9b0]) | skip)
     have H' := Aside0.mk H
     clear H; have hnb10 := NB416_417.out; have hnc10 := NB417_416.out; have hnb11 := NB416_418.out; have hnc11 := NB418_416.out
     have hcz12_0 : w6.cell? ⟨gb416, 0, none⟩ = some (.slice A0_0 l0_0.length c0_0) := (blk_cell BK416.out 0).trans rfl
     have hfz12_0 := blk_frozen BK416.out 0; have hnb13 := NB417_418.out; have hnc13 := NB418_417.out
     have hcz14_0 : w6.cell? ⟨gb417, 0, none⟩ = some (.slice A1_0 l1_0.length c1_0) := (blk_cell BK417.out 0).trans rfl
     have hfz14_0 := blk_frozen BK417.out 0
     go_wp2_with (first | ((with_reducible refine gate_callee (f := 77) rfl ?_); refine gC (some 8) Try.func77 #[.agg #[.slice A0_0 l0_0.length c0_0], .agg #[.slice A1_0 l1_0.length c1_0]] ?_; (with_reducible refine (spec_l1Both.calls k _ _ l0_0 _ _ l1_0 true _ ?side1 ?side2 ?side3 ?side4 A7.out).mono ?_); (case side1 => exact cq (Kd.C_below HR0_0.out HB.out)); (case side2 => exact HC0_0.out); (case side3 => exact cq (Kd.C_below HR1_0.out HB.out)); (case side4 => exact HC1_0.out); rintro e w15 ⟨rfl, hb⟩; refine ⟨_, rfl, ?_⟩; replace BK416 := cB BK416 hb; replace BK417 := cB BK417 hb; replace BK418 := cB BK418 hb; replace HB := cs (hq3 HB GE416 GE417 GE418) hb; (try clear hb); (try clear hb2); (try clear hk); (try clear hi); have hcz16_0 : w15.cell? ⟨gb416, 0, none⟩ = some (.slice A0_0 l0_0.length c0_0) := (blk_cell BK416.out 0).trans rfl; have hfz16_0 := blk_frozen BK416.out 0))
     go_meet
     case rel => exact ⟨_, (true), (by first | rfl | (simp; done) | (simp [*]; done)), H', ⟨by first | omega | exact Nat.le_refl _⟩, ⟨by (with_reducible repeat (first | refine blk_drewN ?_ _ | refine blk_drew ?_ | refine blk_alloc ?_ _)); exact BK416.out⟩, ⟨by (with_reducible repeat (first | refine blk_drewN ?_ _ | refine blk_drew ?_ | refine blk_alloc ?_ _)); exact BK417.out⟩, ⟨by (with_reducible repeat (first | refine blk_drewN ?_ _ | refine blk_drew ?_ | refine blk_alloc ?_ _)); exact BK418.out⟩, ⟨hq3 HB GE416 GE417 GE418⟩⟩
   rw [if_neg c9] at H
   have c9b0 : decide (3 < (l0_0.length : Int)) = false := decide_eq_false c9
   have c9b1 : decide (3 < l0_0.length) = false := decide_eq_false (by omega)
   clear c9
   (first | rw [c9b0] | (simp only [i64_w, i32_w]; rw [c9b0]) | skip)
   have H' := Aside0.mk H
   clear H; have hnb17 := NB416_417.out; have hnc17 := NB417_416.out; have hnb18 := NB416_418.out; have hnc18 := NB418_416.out
   have hcz19_0 : w6.cell? ⟨gb416, 0, none⟩ = some (.slice A0_0 l0_0.length c0_0) := (blk_cell BK416.out 0).trans rfl
   have hfz19_0 := blk_frozen BK416.out 0; have hnb20 := NB417_418.out; have hnc20 := NB418_417.out
   have hcz21_0 : w6.cell? ⟨gb417, 0, none⟩ = some (.slice A1_0 l1_0.length c1_0) := (blk_cell BK417.out 0).trans rfl
   have hfz21_0 := blk_frozen BK417.out 0
   go_wp2_with (first | ((with_reducible refine gate_callee (f := 77) rfl ?_); refine gC (some 8) Try.func77 #[.agg #[.slice A0_0 l0_0.length c0_0], .agg #[.slice A1_0 l1_0.length c1_0]] ?_; (with_reducible refine (spec_l1Both.calls k _ _ l0_0 _ _ l1_0 true _ ?side1 ?side2 ?side3 ?side4 A7.out).mono ?_); (case side1 => exact cq (Kd.C_below HR0_0.out HB.out)); (case side2 => exact HC0_0.out); (case side3 => exact cq (Kd.C_below HR1_0.out HB.out)); (case side4 => exact HC1_0.out); rintro e w22 ⟨rfl, hb⟩; refine ⟨_, rfl, ?_⟩; replace BK416 := cB BK416 hb; replace BK417 := cB BK417 hb; replace BK418 := cB BK418 hb; replace HB := cs (hq3 HB GE416 GE417 GE418) hb; (try clear hb); (try clear hb2); (try clear hk); (try clear hi); have hcz23_0 : w22.cell? ⟨gb416, 0, none⟩ = some (.slice A0_0 l0_0.length c0_0) := (blk_cell BK416.out 0).trans rfl; have hfz23_0 := blk_frozen BK416.out 0; have hcz24_0 : w22.cell? ⟨gb417, 0, none⟩ = some (.slice A1_0 l1_0.length c1_0) := (blk_cell BK417.out 0).trans rfl; have hfz24_0 := blk_frozen BK417.out 0))
   go_meet
   case rel => exact ⟨_, (decide ((l1_0.length : Int) > 3)), (by first | rfl | (simp; done) | (simp [*]; done)), H', ⟨by first | omega | exact Nat.le_refl _⟩, ⟨by (with_reducible repeat (first | refine blk_drewN ?_ _ | refine blk_drew ?_ | refine blk_alloc ?_ _)); exact BK416.out⟩, ⟨by (with_reducible repeat (first | refine blk_drewN ?_ _ | refine blk_drew ?_ | refine blk_alloc ?_ _)); exact BK417.out⟩, ⟨by (with_reducible repeat (first | refine blk_drewN ?_ _ | refine blk_drew ?_ | refine blk_alloc ?_ _)); exact BK418.out⟩, ⟨hq3 HB GE416 GE417 GE418⟩⟩
 clear HC3; (try clear c1); (try clear c2); (try clear p2); (try clear c3); (try clear c7); (try clear c8); (try clear c9); (try clear c9b0); (try clear c9b1); (try clear c10); (try clear c11); (try clear c13); (try clear c17); (try clear c18); (try clear c20); (try clear c25); (try clear c26); (try clear c28); (try clear hcz12_0); (try clear hcz14_0); (try clear hcz16_0); (try clear hcz19_0); (try clear hcz21_0); (try clear hcz23_0); (try clear hcz24_0); (try clear hcz27_0); (try clear hcz29_0); (try clear hfz12_0); (try clear hfz14_0); (try clear hfz16_0); (try clear hfz19_0); (try clear hfz21_0); (try clear hfz23_0); (try clear hfz24_0); (try clear hfz27_0); (try clear hfz29_0); obtain ⟨kq, x21_2, rfl, HA, HJ2, BK416, BK417, BK418, HB⟩ := hcut; obtain _ | kj2 := kq
 · exact absurd HA.out (by simp [spec_HalvesTimes.j0])
 have H := HA.out; clear HA
 simp only [spec_HalvesTimes.j0] at H
 by_cases c31 : x21_2 = true
 · subst c31
   have H1 : (some (([] : List Int), false)) = some (r1, r2) := by rw [if_pos rfl] at H; exact H
   clear H; have H := H1; clear H1
   simp only [Option.some.injEq, Prod.mk.injEq] at H
   obtain ⟨rfl, rfl⟩ := H; have hnb32 := NB418_416.out; have hnc32 := NB416_418.out; have hnb33 := NB418_417.out; have hnc33 := NB417_418.out
   have hcz34_0 : wc.cell? ⟨gb418, 0, none⟩ = some (.slice none 0 0) := (blk_cell BK418.out 0).trans rfl
   have hfz34_0 := blk_frozen BK418.out 0
   go_wp2
   refine bodyPost_ret (results_ct rfl _ _ gb418 25 #[.slice none 0 0] (0, 0) _ rfl (by (with_reducible repeat (first | refine blk_drewN ?_ _ | refine blk_drew ?_ | refine blk_alloc ?_ _)); refine blk_put (cs := #[.slice none 0 0]) ?_ 0 _ rfl; (with_reducible repeat (first | refine blk_drewN ?_ _ | refine blk_drew ?_ | refine blk_alloc ?_ _)); exact BK418.out) Try.underlying25 rfl (by kernel_rfl)) rfl ?_
   exact ⟨_, by first | rfl | (simp <;> rfl) | (simp [*] <;> rfl), by first | exact Kd.R_nil _ _ _ _ _ | exact Kd.R_nil _ _ _ 0 _ | exact Kd.N_nil _ _ _ _ _ | exact Kd.V_nil _ _ _ _ _ | exact Kd.Q_nil _ _ _ _ _ | exact Kd.S_nil _ _ _ _ _, hq3 HB GE416 GE417 GE418⟩
 replace c31 := Bool.eq_false_iff.mpr c31; subst c31
 have H1 : ((spec_l1Times.f kj2 l0_0 l1_0).bind fun t420 => ((spec_l1Tell.f kj2 t420).bind fun bt423 => (some (bt423.1, bt423.2)))) = some (r1, r2) := by rw [if_neg (show ¬ (false = true) by decide)] at H; exact H
 clear H; have H := H1; clear H1; replace H := Option.bind_eq_some_iff.mp H; obtain ⟨t420, A350, H⟩ := H; (try dsimp only at H); have A35 := Aside0.mk A350; clear A350; replace H := Option.bind_eq_some_iff.mp H; obtain ⟨⟨t423, t426⟩, A360, H⟩ := H; (try dsimp only at H); have A36 := Aside0.mk A360; clear A360
 simp only [Option.some.injEq, Prod.mk.injEq] at H
 obtain ⟨rfl, rfl⟩ := H; have hnb37 := NB416_417.out; have hnc37 := NB417_416.out; have hnb38 := NB416_418.out; have hnc38 := NB418_416.out
 have hcz39_0 : wc.cell? ⟨gb416, 0, none⟩ = some (.slice A0_0 l0_0.length c0_0) := (blk_cell BK416.out 0).trans rfl
 have hfz39_0 := blk_frozen BK416.out 0; have hnb40 := NB417_418.out; have hnc40 := NB418_417.out
 have hcz41_0 : wc.cell? ⟨gb417, 0, none⟩ = some (.slice A1_0 l1_0.length c1_0) := (blk_cell BK417.out 0).trans rfl
 have hfz41_0 := blk_frozen BK417.out 0
 go_wp2_with (first | ((with_reducible refine gate_callee (f := 96) rfl ?_); refine gC (some 27) Try.func96 #[.slice A0_0 l0_0.length c0_0, .slice A1_0 l1_0.length c1_0] ?_; (with_reducible refine (spec_l1Times.calls kj2 _ _ l0_0 _ _ l1_0 t420 _ ?side1 ?side2 ?side3 ?side4 A35.out).mono ?_); (case side1 => exact cq (Kd.C_below HR0_0.out HB.out)); (case side2 => exact HC0_0.out); (case side3 => exact cq (Kd.C_below HR1_0.out HB.out)); (case side4 => exact HC1_0.out); rintro e w42 ⟨v421, rfl, ho0, hb⟩; refine ⟨_, rfl, ?_⟩; have HO422 := Aside0.mk (Kd.V_lower (Kd.V_mono (ok' := fun k_ => k_ ≠ gb416 ∧ k_ ≠ gb417 ∧ k_ ≠ gb418) ho0 (fun k_ hk_ => ⟨(Kd.freshB (g := gb416) (o := .cells #[.slice A0_0 l0_0.length c0_0] 25 (0, 0)) (bq BK416) k_ hk_), (Kd.freshB (g := gb417) (o := .cells #[.slice A1_0 l1_0.length c1_0] 25 (0, 0)) (bq BK417) k_ hk_), (Kd.freshB (g := gb418) (o := .cells #[.slice none 0 0] 25 (0, 0)) (bq BK418) k_ hk_)⟩)) (below_size (hq3 HB GE416 GE417 GE418))); replace BK416 := cB BK416 hb; replace BK417 := cB BK417 hb; replace BK418 := cB BK418 hb; replace HB := cs (hq3 HB GE416 GE417 GE418) hb; (try clear hb); (try clear hb2); (try clear hk); (try clear hi); (try clear ho0); obtain ⟨Ao43, co43, eo43⟩ := Kd.V_slice HO422.out; subst eo43) | ((with_reducible refine gate_callee (f := 78) rfl ?_); refine gC (some 28) Try.func78 #[.slice Ao43 t420.length co43] ?_; (with_reducible refine (spec_l1Tell.calls kj2 _ _ t420 t423 t426 _ ?side1 ?side2 A36.out).mono ?_); (case side1 => exact cq ((Kd.V_reads' HO422.out).2.2)); (case side2 => exact (Kd.V_reads' HO422.out).2.1); rintro e w44 ⟨v424, rfl, ho0, hb⟩; refine ⟨_, rfl, ?_⟩; replace HO422 := Aside0.mk (vb HO422 ho0 hb); have HO425 := Aside0.mk (Kd.R_lower ho0 (below_size (hq3 HB GE416 GE417 GE418))); replace BK416 := cB BK416 hb; replace BK417 := cB BK417 hb; replace BK418 := cB BK418 hb; replace HB := cs (hq3 HB GE416 GE417 GE418) hb; (try clear hb); (try clear hb2); (try clear hk); (try clear hi); (try clear ho0); obtain ⟨Ao45, co45, eo45⟩ := Kd.R_slice HO425.out; subst eo45; have hcz46_0 : w44.cell? ⟨gb418, 0, none⟩ = some (.slice none 0 0) := (blk_cell BK418.out 0).trans rfl; have hfz46_0 := blk_frozen BK418.out 0))
 refine bodyPost_ret (results_ct rfl _ _ gb418 25 #[.slice Ao45 t423.length co45] (0, 0) _ rfl (by (with_reducible repeat (first | refine blk_drewN ?_ _ | refine blk_drew ?_ | refine blk_alloc ?_ _)); refine blk_put (cs := #[.slice none 0 0]) ?_ 0 _ rfl; (with_reducible repeat (first | refine blk_drewN ?_ _ | refine blk_drew ?_ | refine blk_alloc ?_ _)); exact BK418.out) Try.underlying25 rfl (by kernel_rfl)) rfl ?_
 exact ⟨_, by first | rfl | (simp <;> rfl) | (simp [*] <;> rfl), by (with_reducible repeat (first | apply Kd.R_alloc | apply Kd.R_drewN | apply Kd.R_drew)); exact Kd.R_mono (Kd.R_far (p := ⟨gb418, 0, none⟩) (Kd.R_types HO425.out BK418.out (by decide)) (fun _ hk => hk.2) (.slice Ao45 t423.length co45)) (fun _ hk => trivial), hq3 HB GE416 GE417 GE418⟩

/-! ### spec_TimesBig: function 39 -/
def spec_TimesBig.f (k : Nat) (l0_0 : List Int) (l1_0 : List Int) : Option (List Int × Bool) := (spec_l1Both.f k l0_0 l1_0).bind fun t430 => (if t430 = true then ((spec_l1Times.f k l0_0 l1_0).bind fun t431 => ((spec_l1Tell.f k t431).bind fun bt434 => (some (bt434.1, bt434.2)))) else (some (([] : List Int), false)))
set_option maxHeartbeats 8000000 in
set_option maxRecDepth 100000 in
theorem spec_TimesBig.calls (k : Nat) (A0_0 : Option Addr) (c0_0 : Nat) (l0_0 : List Int) (A1_0 : Option Addr) (c1_0 : Nat) (l1_0 : List Int) (r1 : List Int) (r2 : Bool) (w : World) (hr0_0 : Kd.C (Kd.int .i64) w A0_0 l0_0.length l0_0) (hc0_0 : l0_0.length ≤ c0_0) (hr1_0 : Kd.C (Kd.int .i64) w A1_0 l1_0.length l1_0) (hc1_0 : l1_0.length ≤ c1_0) (h : spec_TimesBig.f k l0_0 l1_0 = some (r1, r2)) :
    Calls Try.prog 39 #[.agg #[.slice A0_0 l0_0.length c0_0], .agg #[.slice A1_0 l1_0.length c1_0]] w fun e w' => ∃ v0_ : Value, e = .returned (.tuple #[.agg #[v0_], .bool r2]) ∧ Kd.R (Kd.int .i64) 3 w' w.heap.size (fun _ => True) v0_ r1 ∧ Below w.heap.size w w' := by
 have hu25 := Try.underlying25; have HR0_0 := Aside0.mk hr0_0; have HC0_0 := Aside0.mk hc0_0; clear hr0_0 hc0_0; have HR1_0 := Aside0.mk hr1_0; have HC1_0 := Aside0.mk hc1_0; clear hr1_0 hc1_0; have HB := Aside0.mk (Below.refl w.heap.size w)
 have H : ((spec_l1Both.f k l0_0 l1_0).bind fun t430 => (if t430 = true then ((spec_l1Times.f k l0_0 l1_0).bind fun t431 => ((spec_l1Tell.f k t431).bind fun bt434 => (some (bt434.1, bt434.2)))) else (some (([] : List Int), false)))) = some (r1, r2) := h
 clear h; replace H := Option.bind_eq_some_iff.mp H; obtain ⟨t430, A30, H⟩ := H; (try dsimp only at H); have A3 := Aside0.mk A30; clear A30
 by_cases c4 : t430 = true
 rotate_left
 · replace c4 := Bool.eq_false_iff.mpr c4
   subst c4
   have H1 : (some (([] : List Int), false)) = some (r1, r2) := by rw [if_neg (show ¬ (false = true) by decide)] at H; exact H
   clear H; have H := H1; clear H1
   simp only [Option.some.injEq, Prod.mk.injEq] at H
   obtain ⟨rfl, rfl⟩ := H
   go_enter Try.func39, Try.ntmps39
   go_wp2_with (first | ((with_reducible refine gate_dst (N := 2) rfl ?_); refine bX #[.slice A0_0 l0_0.length c0_0] 25 ?_; intro gb427 hg w23 hbox hb; have n0_ := cs (hq HB) hb; have BK427 := Aside0.mk (hbox); have GW427 := cg hg (hq HB); have GE427 := cg hg (hq HB); replace HB := n0_; clear n0_; clear hb hbox hg) | ((with_reducible refine gate_dst (N := 3) rfl ?_); refine bX #[.slice A1_0 l1_0.length c1_0] 25 ?_; intro gb428 hg w24 hbox hb; have n0_ := cB BK427 hb; have n1_ := cs (hq1 HB GE427) hb; have BK428 := Aside0.mk (hbox); have GW428 := cg hg (hq1 HB GE427); have GE428 := cg hg (hq1 HB GE427); have NB427_428 := cl hg BK427; have NB428_427 := cr hg BK427; replace BK427 := n0_; replace HB := n1_; clear n0_ n1_; clear hb hbox hg) | ((with_reducible refine gate_dst (N := 4) rfl ?_); refine bX #[.slice none 0 0] 25 ?_; intro gb429 hg w25 hbox hb; have n0_ := cB BK427 hb; have n1_ := cB BK428 hb; have n2_ := cs (hq2 HB GE427 GE428) hb; have BK429 := Aside0.mk (hbox); have GW429 := cg hg (hq2 HB GE427 GE428); have GE429 := cg hg (hq2 HB GE427 GE428); have NB427_429 := cl hg BK427; have NB429_427 := cr hg BK427; have NB428_429 := cl hg BK428; have NB429_428 := cr hg BK428; replace BK427 := n0_; replace BK428 := n1_; replace HB := n2_; clear n0_ n1_ n2_; clear hb hbox hg; have hnb26 := NB427_428.out; have hnc26 := NB428_427.out; have hnb27 := NB427_429.out; have hnc27 := NB429_427.out; have hcz28_0 : w25.cell? ⟨gb427, 0, none⟩ = some (.slice A0_0 l0_0.length c0_0) := (blk_cell BK427.out 0).trans rfl; have hfz28_0 := blk_frozen BK427.out 0; have hnb29 := NB428_429.out; have hnc29 := NB429_428.out; have hcz30_0 : w25.cell? ⟨gb428, 0, none⟩ = some (.slice A1_0 l1_0.length c1_0) := (blk_cell BK428.out 0).trans rfl; have hfz30_0 := blk_frozen BK428.out 0) | ((with_reducible refine gate_callee (f := 77) rfl ?_); refine gC (some 8) Try.func77 #[.agg #[.slice A0_0 l0_0.length c0_0], .agg #[.slice A1_0 l1_0.length c1_0]] ?_; (with_reducible refine (spec_l1Both.calls k _ _ l0_0 _ _ l1_0 false _ ?side1 ?side2 ?side3 ?side4 A3.out).mono ?_); (case side1 => exact cq (Kd.C_below HR0_0.out HB.out)); (case side2 => exact HC0_0.out); (case side3 => exact cq (Kd.C_below HR1_0.out HB.out)); (case side4 => exact HC1_0.out); rintro e w31 ⟨rfl, hb⟩; refine ⟨_, rfl, ?_⟩; replace BK427 := cB BK427 hb; replace BK428 := cB BK428 hb; replace BK429 := cB BK429 hb; replace HB := cs (hq3 HB GE427 GE428 GE429) hb; (try clear hb); (try clear hb2); (try clear hk); (try clear hi); have hcz32_0 : w31.cell? ⟨gb429, 0, none⟩ = some (.slice none 0 0) := (blk_cell BK429.out 0).trans rfl; have hfz32_0 := blk_frozen BK429.out 0))
   refine bodyPost_ret (results_ct rfl _ _ gb429 25 #[.slice none 0 0] (0, 0) _ rfl (by (with_reducible repeat (first | refine blk_drewN ?_ _ | refine blk_drew ?_ | refine blk_alloc ?_ _)); refine blk_put (cs := #[.slice none 0 0]) ?_ 0 _ rfl; (with_reducible repeat (first | refine blk_drewN ?_ _ | refine blk_drew ?_ | refine blk_alloc ?_ _)); exact BK429.out) Try.underlying25 rfl (by kernel_rfl)) rfl ?_
   exact ⟨_, by first | rfl | (simp <;> rfl) | (simp [*] <;> rfl), by first | exact Kd.R_nil _ _ _ _ _ | exact Kd.R_nil _ _ _ 0 _ | exact Kd.N_nil _ _ _ _ _ | exact Kd.V_nil _ _ _ _ _ | exact Kd.Q_nil _ _ _ _ _ | exact Kd.S_nil _ _ _ _ _, hq3 HB GE427 GE428 GE429⟩

 subst c4
 have H1 : ((spec_l1Times.f k l0_0 l1_0).bind fun t431 => ((spec_l1Tell.f k t431).bind fun bt434 => (some (bt434.1, bt434.2)))) = some (r1, r2) := by rw [if_pos rfl] at H; exact H
 clear H; have H := H1; clear H1; replace H := Option.bind_eq_some_iff.mp H; obtain ⟨t431, A50, H⟩ := H; (try dsimp only at H); have A5 := Aside0.mk A50; clear A50; replace H := Option.bind_eq_some_iff.mp H; obtain ⟨⟨t434, t437⟩, A60, H⟩ := H; (try dsimp only at H); have A6 := Aside0.mk A60; clear A60
 simp only [Option.some.injEq, Prod.mk.injEq] at H
 obtain ⟨rfl, rfl⟩ := H
 go_enter Try.func39, Try.ntmps39
 go_wp2_with (first | ((with_reducible refine gate_dst (N := 2) rfl ?_); refine bX #[.slice A0_0 l0_0.length c0_0] 25 ?_; intro gb427 hg w7 hbox hb; have n0_ := cs (hq HB) hb; have BK427 := Aside0.mk (hbox); have GW427 := cg hg (hq HB); have GE427 := cg hg (hq HB); replace HB := n0_; clear n0_; clear hb hbox hg) | ((with_reducible refine gate_dst (N := 3) rfl ?_); refine bX #[.slice A1_0 l1_0.length c1_0] 25 ?_; intro gb428 hg w8 hbox hb; have n0_ := cB BK427 hb; have n1_ := cs (hq1 HB GE427) hb; have BK428 := Aside0.mk (hbox); have GW428 := cg hg (hq1 HB GE427); have GE428 := cg hg (hq1 HB GE427); have NB427_428 := cl hg BK427; have NB428_427 := cr hg BK427; replace BK427 := n0_; replace HB := n1_; clear n0_ n1_; clear hb hbox hg) | ((with_reducible refine gate_dst (N := 4) rfl ?_); refine bX #[.slice none 0 0] 25 ?_; intro gb429 hg w9 hbox hb; have n0_ := cB BK427 hb; have n1_ := cB BK428 hb; have n2_ := cs (hq2 HB GE427 GE428) hb; have BK429 := Aside0.mk (hbox); have GW429 := cg hg (hq2 HB GE427 GE428); have GE429 := cg hg (hq2 HB GE427 GE428); have NB427_429 := cl hg BK427; have NB429_427 := cr hg BK427; have NB428_429 := cl hg BK428; have NB429_428 := cr hg BK428; replace BK427 := n0_; replace BK428 := n1_; replace HB := n2_; clear n0_ n1_ n2_; clear hb hbox hg; have hnb10 := NB427_428.out; have hnc10 := NB428_427.out; have hnb11 := NB427_429.out; have hnc11 := NB429_427.out; have hcz12_0 : w9.cell? ⟨gb427, 0, none⟩ = some (.slice A0_0 l0_0.length c0_0) := (blk_cell BK427.out 0).trans rfl; have hfz12_0 := blk_frozen BK427.out 0; have hnb13 := NB428_429.out; have hnc13 := NB429_428.out; have hcz14_0 : w9.cell? ⟨gb428, 0, none⟩ = some (.slice A1_0 l1_0.length c1_0) := (blk_cell BK428.out 0).trans rfl; have hfz14_0 := blk_frozen BK428.out 0) | ((with_reducible refine gate_callee (f := 77) rfl ?_); refine gC (some 8) Try.func77 #[.agg #[.slice A0_0 l0_0.length c0_0], .agg #[.slice A1_0 l1_0.length c1_0]] ?_; (with_reducible refine (spec_l1Both.calls k _ _ l0_0 _ _ l1_0 true _ ?side1 ?side2 ?side3 ?side4 A3.out).mono ?_); (case side1 => exact cq (Kd.C_below HR0_0.out HB.out)); (case side2 => exact HC0_0.out); (case side3 => exact cq (Kd.C_below HR1_0.out HB.out)); (case side4 => exact HC1_0.out); rintro e w15 ⟨rfl, hb⟩; refine ⟨_, rfl, ?_⟩; replace BK427 := cB BK427 hb; replace BK428 := cB BK428 hb; replace BK429 := cB BK429 hb; replace HB := cs (hq3 HB GE427 GE428 GE429) hb; (try clear hb); (try clear hb2); (try clear hk); (try clear hi); have hcz16_0 : w15.cell? ⟨gb427, 0, none⟩ = some (.slice A0_0 l0_0.length c0_0) := (blk_cell BK427.out 0).trans rfl; have hfz16_0 := blk_frozen BK427.out 0; have hcz17_0 : w15.cell? ⟨gb428, 0, none⟩ = some (.slice A1_0 l1_0.length c1_0) := (blk_cell BK428.out 0).trans rfl; have hfz17_0 := blk_frozen BK428.out 0) | ((with_reducible refine gate_callee (f := 96) rfl ?_); refine gC (some 15) Try.func96 #[.slice A0_0 l0_0.length c0_0, .slice A1_0 l1_0.length c1_0] ?_; (with_reducible refine (spec_l1Times.calls k _ _ l0_0 _ _ l1_0 t431 _ ?side1 ?side2 ?side3 ?side4 A5.out).mono ?_); (case side1 => exact cq (Kd.C_below HR0_0.out HB.out)); (case side2 => exact HC0_0.out); (case side3 => exact cq (Kd.C_below HR1_0.out HB.out)); (case side4 => exact HC1_0.out); rintro e w18 ⟨v432, rfl, ho0, hb⟩; refine ⟨_, rfl, ?_⟩; have HO433 := Aside0.mk (Kd.V_lower (Kd.V_mono (ok' := fun k_ => k_ ≠ gb427 ∧ k_ ≠ gb428 ∧ k_ ≠ gb429) ho0 (fun k_ hk_ => ⟨(Kd.freshB (g := gb427) (o := .cells #[.slice A0_0 l0_0.length c0_0] 25 (0, 0)) (bq BK427) k_ hk_), (Kd.freshB (g := gb428) (o := .cells #[.slice A1_0 l1_0.length c1_0] 25 (0, 0)) (bq BK428) k_ hk_), (Kd.freshB (g := gb429) (o := .cells #[.slice none 0 0] 25 (0, 0)) (bq BK429) k_ hk_)⟩)) (below_size (hq3 HB GE427 GE428 GE429))); replace BK427 := cB BK427 hb; replace BK428 := cB BK428 hb; replace BK429 := cB BK429 hb; replace HB := cs (hq3 HB GE427 GE428 GE429) hb; (try clear hb); (try clear hb2); (try clear hk); (try clear hi); (try clear ho0); obtain ⟨Ao19, co19, eo19⟩ := Kd.V_slice HO433.out; subst eo19) | ((with_reducible refine gate_callee (f := 78) rfl ?_); refine gC (some 16) Try.func78 #[.slice Ao19 t431.length co19] ?_; (with_reducible refine (spec_l1Tell.calls k _ _ t431 t434 t437 _ ?side1 ?side2 A6.out).mono ?_); (case side1 => exact cq ((Kd.V_reads' HO433.out).2.2)); (case side2 => exact (Kd.V_reads' HO433.out).2.1); rintro e w20 ⟨v435, rfl, ho0, hb⟩; refine ⟨_, rfl, ?_⟩; replace HO433 := Aside0.mk (vb HO433 ho0 hb); have HO436 := Aside0.mk (Kd.R_lower ho0 (below_size (hq3 HB GE427 GE428 GE429))); replace BK427 := cB BK427 hb; replace BK428 := cB BK428 hb; replace BK429 := cB BK429 hb; replace HB := cs (hq3 HB GE427 GE428 GE429) hb; (try clear hb); (try clear hb2); (try clear hk); (try clear hi); (try clear ho0); obtain ⟨Ao21, co21, eo21⟩ := Kd.R_slice HO436.out; subst eo21; have hcz22_0 : w20.cell? ⟨gb429, 0, none⟩ = some (.slice none 0 0) := (blk_cell BK429.out 0).trans rfl; have hfz22_0 := blk_frozen BK429.out 0))
 refine bodyPost_ret (results_ct rfl _ _ gb429 25 #[.slice Ao21 t434.length co21] (0, 0) _ rfl (by (with_reducible repeat (first | refine blk_drewN ?_ _ | refine blk_drew ?_ | refine blk_alloc ?_ _)); refine blk_put (cs := #[.slice none 0 0]) ?_ 0 _ rfl; (with_reducible repeat (first | refine blk_drewN ?_ _ | refine blk_drew ?_ | refine blk_alloc ?_ _)); exact BK429.out) Try.underlying25 rfl (by kernel_rfl)) rfl ?_
 exact ⟨_, by first | rfl | (simp <;> rfl) | (simp [*] <;> rfl), by (with_reducible repeat (first | apply Kd.R_alloc | apply Kd.R_drewN | apply Kd.R_drew)); exact Kd.R_mono (Kd.R_far (p := ⟨gb429, 0, none⟩) (Kd.R_types HO436.out BK429.out (by decide)) (fun _ hk => hk.2) (.slice Ao21 t434.length co21)) (fun _ hk => trivial), hq3 HB GE427 GE428 GE429⟩
/-! ### spec_l1Of: function 97 -/
def spec_l1Of.l0 : Nat → Int → List Int → Option (List Int)
  | 0, _, _ => none
  | k + 1, x0, x3 => if x0 > 0 then (if x3.length < 17592186044416 then (spec_l1Of.l0 k (wrap64 (Int.tdiv x0 65536)) (x3 ++ [Int.tmod x0 65536])) else (none)) else (some x3)
def spec_l1Of.f (k : Nat) (a0 : Int) : Option (List Int) := spec_l1Of.l0 k a0 ([] : List Int)
set_option maxHeartbeats 8000000 in
set_option maxRecDepth 100000 in
theorem spec_l1Of.calls (k : Nat) (a0 : Int) (r : List Int) (w : World) (h : spec_l1Of.f k a0 = some r) :
    Calls Try.prog 97 #[.int .i64 a0] w fun e w' => ∃ v0_ : Value, e = .returned (v0_) ∧ Kd.R (Kd.int .i64) 3 w' w.heap.size (fun _ => True) v0_ r ∧ Below w.heap.size w w' := by
 have HB := Aside0.mk (Below.refl w.heap.size w)
 have H : (spec_l1Of.l0 k a0 ([] : List Int)) = some r := h
 clear h
 have H' := Aside0.mk H
 clear H
 go_enter Try.func97, Try.ntmps97
 go_wp2
 go_loopg [0, 3] k (fun kq v0 v3 w' => ∃ (x0_1 : Int) (x3_1 : List Int), v0 = .int .i64 x0_1 ∧ Aside0 (spec_l1Of.l0 kq x0_1 x3_1 = some r) ∧ Aside0 (kq ≤ k) ∧ Aside0 (Kd.R (Kd.int .i64) 3 w' w.heap.size (fun _ => True) v3 x3_1) ∧ Aside0 (Below w.heap.size w w'))
 case atStart => exact ⟨(a0), (([] : List Int)), (by first | rfl | (simp; done) | (simp [*]; done)), H', ⟨Nat.le_refl _⟩, ⟨by first | exact Kd.R_nil _ _ _ _ _ | exact Kd.R_nil _ _ _ 0 _ | exact Kd.N_nil _ _ _ _ _ | exact Kd.V_nil _ _ _ _ _ | exact Kd.Q_nil _ _ _ _ _ | exact Kd.S_nil _ _ _ _ _⟩, ⟨hq HB⟩⟩
 case round =>
   clear H'
   obtain ⟨x0_1, x3_1, rfl, HA, HK1, HO_3, HB⟩ := hrel
   cases gk with
   | zero => exact absurd HA.out (by simp [spec_l1Of.l0])
   | succ k1 =>
     have H := HA.out; clear HA
     simp only [spec_l1Of.l0] at H
     by_cases c2 : x0_1 > 0
     · rw [if_pos c2] at H
       have c2b0 : decide (0 < x0_1) = true := decide_eq_true c2
       clear c2
       by_cases c3 : x3_1.length < 17592186044416
       · rw [if_pos c3] at H
         have LMc3 := Aside0.mk c3; clear c3; obtain ⟨y438, hy438⟩ : ∃ y_ : List Int, y_ = (x3_1 ++ [Int.tmod x0_1 65536]) := ⟨_, rfl⟩
         replace H : (spec_l1Of.l0 k1 (wrap64 (Int.tdiv x0_1 65536)) y438) = some r := by first | (rw [hy438]; with_reducible exact H) | (have H2_ := (Option.bind_some _ _).symm.trans H; rw [hy438]; with_reducible exact H2_) | (have H2_ := (Option.bind_some _ _).symm.trans H; with_reducible exact H2_) | with_reducible exact H | (rw [hy438]; exact H) | exact H
         have Ny438 := Aside0.mk hy438; clear hy438
         have H' := Aside0.mk H
         clear H
         go_wp2_with (first | ((with_reducible refine gate_builtin (b := .append) (xs := #[.tmp 8, .tmp 11]) rfl ?_); at_builtin; refine Kd.R_append (Kd.int .i64) (w0 := w) w.heap.size rfl (.tmp 8) (.tmp 11) 23 3 (.int .i64 0) 8 rfl Try.underlying23 info3 rfl (by decide) (by omega) u3 x3_1 (Int.tmod x0_1 65536) [.int .i64 (Int.tmod x0_1 65536)] (fun _ => True) (fun _ => False) rfl rfl ?aP (fun _ hk => hk.elim) ?aF ?aO ?aB ?aS ?aL ?_; (case aP => exact rfl); (case aB => exact (hq HB)); (case aF => exact (fun _ _ => trivial)); (case aO => exact (rq HO_3)); (case aS => exact (below_size (hq HB))); (case aL => have := LMc3.out; omega); intro v439 w4 ho hb hg hat; rw [← Ny438.out] at ho; replace HB := Aside0.mk (hb); have HO440 := Aside0.mk (ho); clear HO_3; clear ho hb hg hat))
         go_roundg k1
         case measure => have := HK1.out; omega
         case rel => exact ⟨(wrap64 (Int.tdiv x0_1 65536)), (y438), (by first | rfl | (simp; done) | (simp [*]; done)), H', ⟨by have := HK1.out; omega⟩, ⟨by (with_reducible repeat (first | apply Kd.R_alloc | apply Kd.R_drewN | apply Kd.R_drew)); exact HO440.out⟩, ⟨hq HB⟩⟩
       · rw [if_neg c3] at H
         exact absurd H (by simp)
     · rw [if_neg c2] at H
       have c2b0 : decide (0 < x0_1) = false := decide_eq_false c2
       clear c2; obtain rfl := Option.some.inj H
       go_wp2
       go_ret
       exact ⟨_, by first | rfl | (simp <;> rfl) | (simp [*] <;> rfl), by (with_reducible repeat (first | apply Kd.R_alloc | apply Kd.R_drewN | apply Kd.R_drew)); exact HO_3.out, hq HB⟩

/-! ### spec_BigOf: function 35 -/
def spec_BigOf.f (k : Nat) (a0 : Int) : Option (List Int × Bool) := if a0 < 0 then (some (([] : List Int), false)) else ((spec_l1Of.f k a0).bind fun t442 => ((spec_l1Tell.f k t442).bind fun bt445 => (some (bt445.1, bt445.2))))
set_option maxHeartbeats 8000000 in
set_option maxRecDepth 100000 in
theorem spec_BigOf.calls (k : Nat) (a0 : Int) (r1 : List Int) (r2 : Bool) (w : World) (h : spec_BigOf.f k a0 = some (r1, r2)) :
    Calls Try.prog 35 #[.int .i64 a0] w fun e w' => ∃ v0_ : Value, e = .returned (.tuple #[.agg #[v0_], .bool r2]) ∧ Kd.R (Kd.int .i64) 3 w' w.heap.size (fun _ => True) v0_ r1 ∧ Below w.heap.size w w' := by
 have hu25 := Try.underlying25; have HB := Aside0.mk (Below.refl w.heap.size w)
 have H : (if a0 < 0 then (some (([] : List Int), false)) else ((spec_l1Of.f k a0).bind fun t442 => ((spec_l1Tell.f k t442).bind fun bt445 => (some (bt445.1, bt445.2))))) = some (r1, r2) := h
 clear h
 by_cases c2 : a0 < 0
 · rw [if_pos c2] at H
   have c2b0 : decide (a0 < 0) = true := decide_eq_true c2
   clear c2
   simp only [Option.some.injEq, Prod.mk.injEq] at H
   obtain ⟨rfl, rfl⟩ := H
   go_enter Try.func35, Try.ntmps35
   go_wp2_with (first | ((with_reducible refine gate_dst (N := 2) rfl ?_); refine bX #[.slice none 0 0] 25 ?_; intro gb441 hg w3 hbox hb; have n0_ := cs (hq HB) hb; have BK441 := Aside0.mk (hbox); have GW441 := cg hg (hq HB); have GE441 := cg hg (hq HB); replace HB := n0_; clear n0_; clear hb hbox hg; have hcz4_0 : w3.cell? ⟨gb441, 0, none⟩ = some (.slice none 0 0) := (blk_cell BK441.out 0).trans rfl; have hfz4_0 := blk_frozen BK441.out 0))
   refine bodyPost_ret (results_ct rfl _ _ gb441 25 #[.slice none 0 0] (0, 0) _ rfl (by (with_reducible repeat (first | refine blk_drewN ?_ _ | refine blk_drew ?_ | refine blk_alloc ?_ _)); refine blk_put (cs := #[.slice none 0 0]) ?_ 0 _ rfl; (with_reducible repeat (first | refine blk_drewN ?_ _ | refine blk_drew ?_ | refine blk_alloc ?_ _)); exact BK441.out) Try.underlying25 rfl (by kernel_rfl)) rfl ?_
   exact ⟨_, by first | rfl | (simp <;> rfl) | (simp [*] <;> rfl), by first | exact Kd.R_nil _ _ _ _ _ | exact Kd.R_nil _ _ _ 0 _ | exact Kd.N_nil _ _ _ _ _ | exact Kd.V_nil _ _ _ _ _ | exact Kd.Q_nil _ _ _ _ _ | exact Kd.S_nil _ _ _ _ _, hq1 HB GE441⟩
 rw [if_neg c2] at H
 have c2b0 : decide (a0 < 0) = false := decide_eq_false c2
 clear c2; replace H := Option.bind_eq_some_iff.mp H; obtain ⟨t442, A50, H⟩ := H; (try dsimp only at H); have A5 := Aside0.mk A50; clear A50; replace H := Option.bind_eq_some_iff.mp H; obtain ⟨⟨t445, t448⟩, A60, H⟩ := H; (try dsimp only at H); have A6 := Aside0.mk A60; clear A60
 simp only [Option.some.injEq, Prod.mk.injEq] at H
 obtain ⟨rfl, rfl⟩ := H
 go_enter Try.func35, Try.ntmps35
 go_wp2_with (first | ((with_reducible refine gate_dst (N := 2) rfl ?_); refine bX #[.slice none 0 0] 25 ?_; intro gb441 hg w7 hbox hb; have n0_ := cs (hq HB) hb; have BK441 := Aside0.mk (hbox); have GW441 := cg hg (hq HB); have GE441 := cg hg (hq HB); replace HB := n0_; clear n0_; clear hb hbox hg) | ((with_reducible refine gate_callee (f := 97) rfl ?_); refine gC (some 8) Try.func97 #[.int .i64 a0] ?_; (with_reducible refine (spec_l1Of.calls k a0 t442 _ A5.out).mono ?_); rintro e w8 ⟨v443, rfl, ho0, hb⟩; refine ⟨_, rfl, ?_⟩; have HO444 := Aside0.mk (Kd.R_lower ho0 (below_size (hq1 HB GE441))); replace BK441 := cB BK441 hb; replace HB := cs (hq1 HB GE441) hb; (try clear hb); (try clear hb2); (try clear hk); (try clear hi); (try clear ho0); obtain ⟨Ao9, co9, eo9⟩ := Kd.R_slice HO444.out; subst eo9) | ((with_reducible refine gate_callee (f := 78) rfl ?_); refine gC (some 9) Try.func78 #[.slice Ao9 t442.length co9] ?_; (with_reducible refine (spec_l1Tell.calls k _ _ t442 t445 t448 _ ?side1 ?side2 A6.out).mono ?_); (case side1 => exact cq ((Kd.R_reads' HO444.out).2.2)); (case side2 => exact (Kd.R_reads' HO444.out).2.1); rintro e w10 ⟨v446, rfl, ho0, hb⟩; refine ⟨_, rfl, ?_⟩; have n0_ := ce HO444 ho0 hb; have HO447 := Aside0.mk (Kd.R_lower (Kd.R_new' ho0 (ql HO444)) (below_size (hq1 HB GE441))); replace BK441 := cB BK441 hb; replace HB := cs (hq1 HB GE441) hb; replace HO444 := n0_; clear n0_; (try clear hb); (try clear hb2); (try clear hk); (try clear hi); (try clear ho0); obtain ⟨Ao11, co11, eo11⟩ := Kd.R_slice HO447.out; subst eo11; have hcz12_0 : w10.cell? ⟨gb441, 0, none⟩ = some (.slice none 0 0) := (blk_cell BK441.out 0).trans rfl; have hfz12_0 := blk_frozen BK441.out 0))
 refine bodyPost_ret (results_ct rfl _ _ gb441 25 #[.slice Ao11 t445.length co11] (0, 0) _ rfl (by (with_reducible repeat (first | refine blk_drewN ?_ _ | refine blk_drew ?_ | refine blk_alloc ?_ _)); refine blk_put (cs := #[.slice none 0 0]) ?_ 0 _ rfl; (with_reducible repeat (first | refine blk_drewN ?_ _ | refine blk_drew ?_ | refine blk_alloc ?_ _)); exact BK441.out) Try.underlying25 rfl (by kernel_rfl)) rfl ?_
 exact ⟨_, by first | rfl | (simp <;> rfl) | (simp [*] <;> rfl), by (with_reducible repeat (first | apply Kd.R_alloc | apply Kd.R_drewN | apply Kd.R_drew)); exact Kd.R_mono (Kd.R_far (p := ⟨gb441, 0, none⟩) (Kd.R_types HO447.out BK441.out (by decide)) (fun _ hk => hk.2) (.slice Ao11 t445.length co11)) (fun _ hk => trivial), hq1 HB GE441⟩

end Go.Proofs.Ytadooofomkdaoaa.QFnHalves
