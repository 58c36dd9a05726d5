import Derived.Test.YtadooofomkdaoaaSqueez2
import Derived.Test.YtadooofomkdaoaaQFnLimbsx0
import Derived.Test.YtadooofomkdaoaaQFnLimbsx3
import Derived.Test.YtadooofomkdaoaaQFnLimbsx4
namespace Go.Proofs.Ytadooofomkdaoaa.QFnLimbs
open Go.RowKit Go.Proofs.YtadooofomkdaoaaW.PrintWords Go.Proofs.YtadooofomkdaoaaW.PrintLast Go.Proofs.YtadooofomkdaoaaW.PrintMore
attribute [local go_sem] max2_int min2_int max_two min_two max_three min_three max_four min_four   -- for this text's walks alone
set_option linter.unusedVariables false
set_option linter.unusedSimpArgs false

/-! ### impl_divide: function 80 -/
mutual
def impl_divide.l0 : Nat → List Int → List Int → List Int → List Int → Int → Option (List Int × List Int)
  | 0, _, _, _, _, _ => none
  | k + 1, x0, x1, x6, x7, x8 => if x8 ≥ 0 then ((impl_sum.f k x7 x7).bind fun t311 => (if 0 ≤ (wrap64 (Int.tdiv x8 16)) then (if (wrap64 (Int.tdiv x8 16)) < (x0.length : Int) then (if 0 ≤ (Int.tmod x8 16) then (if (Go.bits .and .i64 (shr .i64 (rd x0 (wrap64 (Int.tdiv x8 16))) (Int.tmod x8 16)) 1) = 1 then ((impl_sum.f k t311 (([1] : List Int))).bind fun t318 => (impl_divide.j1 k x0 x1 x6 t318 x8)) else (impl_divide.j1 k x0 x1 x6 t311 x8)) else (none)) else (none)) else (none))) else ((impl_trimmed.f k x6).bind fun t308 => (some (t308, x7)))
def impl_divide.j1 : Nat → List Int → List Int → List Int → List Int → Int → Option (List Int × List Int)
  | 0, _, _, _, _, _ => none
  | k + 1, x0, x1, x6, x7, x8 => (impl_compare.f k x7 x1).bind fun t321 => (if t321 ≥ 0 then ((impl_less.f k x7 x1).bind fun t322 => (if 0 ≤ (wrap64 (Int.tdiv x8 16)) then (if (wrap64 (Int.tdiv x8 16)) < (x6.length : Int) then (if 0 ≤ (Int.tmod x8 16) then (impl_divide.l0 k x0 x1 (x6.set ((wrap64 (Int.tdiv x8 16)) : Int).toNat (Go.bits .or .i64 (rd x6 (wrap64 (Int.tdiv x8 16))) (shl .i64 1 (Int.tmod x8 16)))) t322 (wrap64 (x8 - 1))) else (none)) else (none)) else (none))) else (impl_divide.l0 k x0 x1 x6 x7 (wrap64 (x8 - 1))))
end
def impl_divide.f (k : Nat) (l0 : List Int) (l1 : List Int) : Option (List Int × List Int) := if 0 ≤ (l0.length : Int) then (if ((l0.length : Int) : Int).toNat ≤ 35184372088832 then (impl_divide.l0 k l0 l1 (List.replicate ((l0.length : Int) : Int).toNat 0) (([] : List Int)) (wrap64 ((wrap64 (16 * (l0.length : Int))) - 1))) else (none)) else (none)
def impl_divide.T10 : Bool × List (List Nat × List Nat) := (true, [([], []), ([], []), ([1], [1]), ([0, 2], [0, 2]), ([3], [3]), ([], []), ([5], [5]), ([6], [6]), ([4, 7], [4, 7]), ([0, 2, 0, 1, 2, 3, 4, 5, 6, 7, 8], [0, 2]), ([9, 8, 0, 1, 2, 3, 4, 5, 6, 7, 8], [8, 9])])
def impl_divide.B10 : List Nat := [0, 0, 2, 7, 15, 0, 32, 96, 255, 511, 1023]
theorem impl_divide.tab10 : rtab .any (opsOf Try.f80 10) = impl_divide.T10 := by kernel_rfl
theorem impl_divide.bits10 : waitsOk impl_divide.T10.2 impl_divide.B10 = true := by kernel_rfl
set_option maxHeartbeats 8000000 in
set_option maxRecDepth 100000 in
theorem impl_divide.calls (k : Nat) (A0 : Option Addr) (c0 : Nat) (l0 : List Int) (A1 : Option Addr) (c1 : Nat) (l1 : List Int) (r1 : List Int) (r2 : List Int) (w : World) (hr0 : Kd.C (Kd.int .i64) w A0 l0.length l0) (hc0 : l0.length ≤ c0) (hr1 : Kd.C (Kd.int .i64) w A1 l1.length l1) (hc1 : l1.length ≤ c1) (h : impl_divide.f k l0 l1 = some (r1, r2)) :
    Calls Try.prog 80 #[.slice A0 l0.length c0, .slice A1 l1.length c1] w fun e w' => ∃ v0_ v1_ : Value, e = .returned (.tuple #[v0_, v1_]) ∧ Kd.R (Kd.int .i64) 3 w' w.heap.size (fun k_ => some k_ ≠ (v1_ : Value).ownBlock) v0_ r1 ∧ Kd.R (Kd.int .i64) 3 w' w.heap.size (fun k_ => some k_ ≠ (v0_ : Value).ownBlock) v1_ r2 ∧ Below w.heap.size w w' := by
 have HR0 := Aside0.mk hr0; have HC0 := Aside0.mk hc0; clear hr0 hc0; have HR1 := Aside0.mk hr1; have HC1 := Aside0.mk hc1; clear hr1 hc1; have HB := Aside0.mk (Below.refl w.heap.size w)
 have H : (if 0 ≤ (l0.length : Int) then (if ((l0.length : Int) : Int).toNat ≤ 35184372088832 then (impl_divide.l0 k l0 l1 (List.replicate ((l0.length : Int) : Int).toNat 0) (([] : List Int)) (wrap64 ((wrap64 (16 * (l0.length : Int))) - 1))) else (none)) else (none)) = some (r1, r2) := h
 clear h
 by_cases c3 : 0 ≤ (l0.length : Int)
 rotate_left
 · rw [if_neg c3] at H
   exact absurd H (by simp)

 rw [if_pos c3] at H; have c3b0 := eq_true c3
 have c3b1 : decide (0 ≤ (l0.length : Int)) = true := decide_eq_true c3
 clear c3
 by_cases c4 : ((l0.length : Int) : Int).toNat ≤ 35184372088832
 rotate_left
 · rw [if_neg c4] at H
   exact absurd H (by simp)
 rw [if_pos c4] at H; have c4b0 := eq_true c4
 have c4b1 : decide (((l0.length : Int) : Int).toNat ≤ 35184372088832) = true := decide_eq_true c4
 clear c4; obtain ⟨y302, hy302⟩ : ∃ y_ : List Int, y_ = (List.replicate ((l0.length : Int) : Int).toNat 0) := ⟨_, rfl⟩
 replace H : (impl_divide.l0 k l0 l1 y302 (([] : List Int)) (wrap64 ((wrap64 (16 * (l0.length : Int))) - 1))) = some (r1, r2) := by first | (rw [hy302]; with_reducible exact H) | (have H2_ := (Option.bind_some _ _).symm.trans H; rw [hy302]; with_reducible exact H2_) | (have H2_ := (Option.bind_some _ _).symm.trans H; with_reducible exact H2_) | with_reducible exact H | (rw [hy302]; exact H) | exact H
 have Ny302 := Aside0.mk hy302; clear hy302; obtain ⟨y305, hy305⟩ : ∃ y_ : List Int, y_ = (([] : List Int)) := ⟨_, rfl⟩
 replace H : (impl_divide.l0 k l0 l1 y302 y305 (wrap64 ((wrap64 (16 * (l0.length : Int))) - 1))) = some (r1, r2) := by first | (rw [hy305]; with_reducible exact H) | (have H2_ := (Option.bind_some _ _).symm.trans H; rw [hy305]; with_reducible exact H2_) | (have H2_ := (Option.bind_some _ _).symm.trans H; with_reducible exact H2_) | with_reducible exact H | (rw [hy305]; exact H) | exact H
 have Ny305 := Aside0.mk hy305; clear hy305
 have H' := Aside0.mk H
 clear H
 go_enter Try.func80, Try.ntmps80
 go_wp2_with (first | ((with_reducible refine gate_dst (N := 11) rfl ?_); refine Kd.R_make (Kd.int .i64) _ 3 rfl (N := 11) rfl 23 _ _ rfl (l0.length : Int) rfl rfl Try.underlying23 (.int .i64 0) 8 info3 rfl (by decide) (by omega) 0 (ok := fun _ => True) (okp := fun _ => True) rfl (fun _ hk => hk) trivial (of_decide_eq_true (by first | (with_reducible assumption) | assumption)) (Nat.le_trans (Nat.mul_le_mul_right _ (of_decide_eq_true (by first | (with_reducible assumption) | assumption) : (l0.length : Int).toNat ≤ 35184372088832)) (by omega)) (Below.refl _ _) (Nat.le_refl _) ?_; intro v303 w5 ho6 hb hg_ hnew_; clear hg_ hnew_; (first | rw [← Ny302.out] at ho6 | (simp only [Int.reduceToNat] at ho6; rw [← Ny302.out] at ho6)); have HO304 := Aside0.mk (Kd.R_lower ho6 (below_size (hq HB))); replace HB := cs (hq HB) hb; clear hb ho6) | ((with_reducible refine gate_dst (N := 12) rfl ?_); refine Kd.R_lit (Kd.int .i64) _ 3 ?hg (N := 12) ?hd (xs := ([] : List Int)) (inner := []) (ok := fun _ => True) (okp := fun _ => True) ?hr ?hp (fun _ hk => hk) trivial (Below.refl _ _) (Nat.le_refl _) (by simp) ?_; (case hd => rfl); (case hg => rfl); (case hr => first | (go_simp; done) | (go_simp; rfl)); (case hp => exact (Reps.none _ _)); intro v306 w7 ho8 hb hg_ hnew_; clear hg_ hnew_; (first | rw [← Ny305.out] at ho8 | (simp only [Int.reduceToNat] at ho8; rw [← Ny305.out] at ho8)); have n0_ := ce HO304 ho8 hb; have HO307 := Aside0.mk (Kd.R_lower (Kd.R_new' ho8 (ql HO304)) (below_size (hq HB))); replace HB := cs (hq HB) hb; replace HO304 := n0_; clear n0_; clear hb ho8))
 go_loopg [7, 8] k (fun kq v7 v8 w' => ∃ (x6_1 : List Int) (x7_1 : List Int) (x8_1 : Int), v8 = .int .i64 x8_1 ∧ Aside0 (impl_divide.l0 kq l0 l1 x6_1 x7_1 x8_1 = some (r1, r2)) ∧ Aside0 (kq ≤ k) ∧ Aside0 (Kd.R (Kd.int .i64) 3 w' w.heap.size (fun k_ => some k_ ≠ (v7 : Value).ownBlock) v303 x6_1) ∧ Aside0 (Kd.R (Kd.int .i64) 3 w' w.heap.size (fun k_ => some k_ ≠ (v303 : Value).ownBlock) v7 x7_1) ∧ Aside0 (Below w.heap.size w w'))
 case atStart => exact ⟨(y302), (y305), (wrap64 ((wrap64 (16 * (l0.length : Int))) - 1)), (by first | rfl | (simp; done) | (simp [*]; done)), H', ⟨Nat.le_refl _⟩, ⟨by (with_reducible repeat (first | apply Kd.R_alloc | apply Kd.R_drewN | apply Kd.R_drew)); exact Kd.R_mono HO304.out (fun _ hk => hk.2)⟩, ⟨by (with_reducible repeat (first | apply Kd.R_alloc | apply Kd.R_drewN | apply Kd.R_drew)); exact Kd.R_mono HO307.out (fun _ hk => hk.2)⟩, ⟨hq HB⟩⟩
 case round =>
   clear H'
   (try clear c1); (try clear p2); (try clear c3); (try clear c3b0); (try clear c3b1); (try clear c4); (try clear c4b0); (try clear c4b1); (try clear p6); (try clear c8); obtain ⟨x6_1, x7_1, x8_1, rfl, HA, HK1, HO_6, HO_7, HB⟩ := hrel
   cases gk with
   | zero => exact absurd HA.out (by simp [impl_divide.l0])
   | succ k1 =>
     have H := HA.out; clear HA
     simp only [impl_divide.l0] at H
     by_cases c9 : x8_1 ≥ 0
     · rw [if_pos c9] at H
       have c9b0 : decide (0 ≤ x8_1) = true := decide_eq_true c9
       clear c9; replace H := Option.bind_eq_some_iff.mp H; obtain ⟨t311, A100, H⟩ := H; (try dsimp only at H); have A10 := Aside0.mk A100; clear A100; obtain ⟨ji11, hji11⟩ : ∃ j_ : Int, (wrap64 (Int.tdiv x8_1 16)) = j_ := ⟨_, rfl⟩
       replace H : (if 0 ≤ (ji11) then (if (ji11) < (l0.length : Int) then (if 0 ≤ (Int.tmod x8_1 16) then (if (Go.bits .and .i64 (shr .i64 (rd l0 (ji11)) (Int.tmod x8_1 16)) 1) = 1 then ((impl_sum.f k1 t311 (([1] : List Int))).bind fun t318 => (impl_divide.j1 k1 l0 l1 x6_1 t318 x8_1)) else (impl_divide.j1 k1 l0 l1 x6_1 t311 x8_1)) else (none)) else (none)) else (none)) = some (r1, r2) := by first | (rw [hji11] at H; exact H) | (simp only [hji11] at H ⊢; exact H)
       (try rw [hji11] at A10)
       have hji11w : (IntKind.i64.wrap (Int.tdiv x8_1 16)) = ji11 := (i64_w _).trans hji11
       by_cases c12 : 0 ≤ (ji11)
       · rw [if_pos c12] at H
         have c12b0 : decide (0 ≤ (ji11)) = true := decide_eq_true c12
         clear c12
         by_cases c13 : (ji11) < (l0.length : Int)
         · rw [if_pos c13] at H
           have c13b0 : decide ((ji11) < (l0.length : Int)) = true := decide_eq_true c13
           clear c13; obtain ⟨ji14, hji14⟩ : ∃ j_ : Int, (Int.tmod x8_1 16) = j_ := ⟨_, rfl⟩
           replace H : (if 0 ≤ (ji14) then (if (Go.bits .and .i64 (shr .i64 (rd l0 (ji11)) (ji14)) 1) = 1 then ((impl_sum.f k1 t311 (([1] : List Int))).bind fun t318 => (impl_divide.j1 k1 l0 l1 x6_1 t318 x8_1)) else (impl_divide.j1 k1 l0 l1 x6_1 t311 x8_1)) else (none)) = some (r1, r2) := by first | (rw [hji14] at H; exact H) | (simp only [hji14] at H ⊢; exact H)
           (try rw [hji14] at A10)
           by_cases c15 : 0 ≤ (ji14)
           · rw [if_pos c15] at H
             have c15b0 := eq_true c15
             have c15b1 : decide (0 ≤ (ji14)) = true := decide_eq_true c15
             clear c15; obtain ⟨ji16, hji16⟩ : ∃ j_ : Int, (shr .i64 (rd l0 (ji11)) (ji14)) = j_ := ⟨_, rfl⟩
             replace H : (if (Go.bits .and .i64 (ji16) 1) = 1 then ((impl_sum.f k1 t311 (([1] : List Int))).bind fun t318 => (impl_divide.j1 k1 l0 l1 x6_1 t318 x8_1)) else (impl_divide.j1 k1 l0 l1 x6_1 t311 x8_1)) = some (r1, r2) := by first | (rw [hji16] at H; exact H) | (simp only [hji16] at H ⊢; exact H)
             (try rw [hji16] at A10)
             have hji16_ : ((rd l0 (ji11)) / 2 ^ min (ji14).toNat 64) = ji16 := hji16
             have hji16z : (ji14) ≤ 64 → ((rd l0 (ji11)) / 2 ^ (ji14).toNat) = ji16 := shr_small hji16
             have HC17 := Aside0.mk H; clear H; obtain ⟨Ao18, co18, eo18⟩ := Kd.R_slice HO_7.out; subst eo18
             go_upto_if 33 with (first | ((with_reducible refine gate_callee (f := 76) rfl ?_); refine gC (some 23) Try.func76 #[.slice Ao18 x7_1.length co18, .slice Ao18 x7_1.length co18] ?_; (with_reducible refine (impl_sum.calls k1 _ _ x7_1 _ _ x7_1 t311 _ ?side1 ?side2 ?side3 ?side4 A10.out).mono ?_); (case side1 => exact cq ((Kd.R_reads' HO_7.out).2.2)); (case side2 => exact (Kd.R_reads' HO_7.out).2.1); (case side3 => exact cq ((Kd.R_reads' HO_7.out).2.2)); (case side4 => exact (Kd.R_reads' HO_7.out).2.1); rintro e w19 ⟨v312, rfl, ho0, hb⟩; refine ⟨_, rfl, ?_⟩; have n0_ := ce HO_6 ho0 hb; have n1_ := ce HO_7 ho0 hb; have HO313 := Aside0.mk (Kd.R_lower (Kd.R_new' (Kd.R_new' ho0 (ql HO_6)) (ql HO_7)) (below_size (hq HB))); replace HB := cs (hq HB) hb; replace HO_6 := n0_; replace HO_7 := n1_; clear n0_ n1_; (try clear hb); (try clear hb2); (try clear hk); (try clear hi); (try clear ho0); have p314 : 0 ≤ ((ji11) : Int) := of_decide_eq_true (by first | (with_reducible assumption) | assumption); have q314 : (ji11) < (l0.length : Int) := of_decide_eq_true (by first | (with_reducible assumption) | assumption); obtain ⟨ad314, e314, hx314_0⟩ := Kd.at_int HR0.out (ji11) p314 q314; cases e314; replace hx314_0 := (HB.out.cell (World.block_lt_of_cell? w _ hx314_0)).trans hx314_0; replace p314 := eq_true p314; replace q314 := eq_true q314))
             (try simp only [Act.put, List.setIfInBounds_toArray, List.set_cons_zero, List.set_cons_succ])
             go_cut [7] (fun v7 wc => ∃ (kq : Nat) (x7_16 : List Int), Aside0 (impl_divide.j1 kq l0 l1 x6_1 x7_16 x8_1 = some (r1, r2)) ∧ Aside0 (kq ≤ k1) ∧ Aside0 (Kd.R (Kd.int .i64) 3 wc w.heap.size (fun k_ => some k_ ≠ (v7 : Value).ownBlock) v303 x6_1) ∧ Aside0 (Kd.R (Kd.int .i64) 3 wc w.heap.size (fun k_ => some k_ ≠ (v303 : Value).ownBlock) v7 x7_16) ∧ Aside0 (Below w.heap.size w wc))
             case first =>
               have H := HC17.out; clear HC17
               by_cases c20 : (Go.bits .and .i64 (ji16) 1) = 1
               · rw [if_pos c20] at H
                 have c20b0 : ((Go.bits .and .i64 (ji16) 1) == 1) = true := beq_iff_eq.mpr c20
                 have c20b1 : ((Go.bits .and .i64 (ji16) 1) != 1) = false := bne_eq_false_iff_eq.mpr c20
                 clear c20
                 (first | rw [c20b0] | (simp only [i64_w, i32_w]; rw [c20b0]) | skip)
                 obtain ⟨y315, hy315⟩ : ∃ y_ : List Int, y_ = (([1] : List Int)) := ⟨_, rfl⟩
                 replace H : ((impl_sum.f k1 t311 y315).bind fun t318 => (impl_divide.j1 k1 l0 l1 x6_1 t318 x8_1)) = some (r1, r2) := by first | (rw [hy315]; with_reducible exact H) | (have H2_ := (Option.bind_some _ _).symm.trans H; rw [hy315]; with_reducible exact H2_) | (have H2_ := (Option.bind_some _ _).symm.trans H; with_reducible exact H2_) | with_reducible exact H | (rw [hy315]; exact H) | exact H
                 have Ny315 := Aside0.mk hy315; clear hy315; replace H := Option.bind_eq_some_iff.mp H; obtain ⟨t318, A210, H⟩ := H; (try dsimp only at H); have A21 := Aside0.mk A210; clear A210
                 have H' := Aside0.mk H
                 clear H
                 go_wp2_with (first | ((with_reducible refine gate_dst (N := 35) rfl ?_); refine Kd.R_lit (Kd.int .i64) _ 3 ?hg (N := 35) ?hd (xs := ([1] : List Int)) (inner := [.int .i64 1]) (ok := fun _ => True) (okp := fun _ => True) ?hr ?hp (fun _ hk => hk) trivial (Below.refl _ _) (Nat.le_refl _) (by simp) ?_; (case hd => rfl); (case hg => rfl); (case hr => first | (go_simp; done) | (go_simp; rfl)); (case hp => exact (Reps.one (show Kd.M (Kd.int .i64) _ _ _ 1 [.int .i64 1] from rfl) (Reps.none _ _))); intro v316 w22 ho23 hb hg_ hnew_; clear hg_ hnew_; (first | rw [← Ny315.out] at ho23 | (simp only [Int.reduceToNat] at ho23; rw [← Ny315.out] at ho23)); have n0_ := ce HO_6 ho23 hb; have n1_ := ce HO_7 ho23 hb; have n2_ := ce HO313 ho23 hb; have HO317 := Aside0.mk (Kd.R_lower (Kd.R_new' (Kd.R_new' (Kd.R_new' ho23 (ql HO_6)) (ql HO_7)) (ql HO313)) (below_size (hq HB))); replace HB := cs (hq HB) hb; replace HO_6 := n0_; replace HO_7 := n1_; replace HO313 := n2_; clear n0_ n1_ n2_; clear hb ho23; obtain ⟨Ao24, co24, eo24⟩ := Kd.R_slice HO313.out; subst eo24; obtain ⟨Ao25, co25, eo25⟩ := Kd.R_slice HO317.out; subst eo25) | ((with_reducible refine gate_callee (f := 76) rfl ?_); refine gC (some 36) Try.func76 #[.slice Ao24 t311.length co24, .slice Ao25 y315.length co25] ?_; (with_reducible refine (impl_sum.calls k1 _ _ t311 _ _ y315 t318 _ ?side1 ?side2 ?side3 ?side4 A21.out).mono ?_); (case side1 => exact cq ((Kd.R_reads' HO313.out).2.2)); (case side2 => exact (Kd.R_reads' HO313.out).2.1); (case side3 => exact cq ((Kd.R_reads' HO317.out).2.2)); (case side4 => exact (Kd.R_reads' HO317.out).2.1); rintro e w26 ⟨v319, rfl, ho0, hb⟩; refine ⟨_, rfl, ?_⟩; have n0_ := ce HO_6 ho0 hb; have n1_ := ce HO_7 ho0 hb; have n2_ := ce HO313 ho0 hb; have n3_ := ce HO317 ho0 hb; have HO320 := Aside0.mk (Kd.R_lower (Kd.R_new' (Kd.R_new' (Kd.R_new' (Kd.R_new' ho0 (ql HO_6)) (ql HO_7)) (ql HO313)) (ql HO317)) (below_size (hq HB))); replace HB := cs (hq HB) hb; replace HO_6 := n0_; replace HO_7 := n1_; replace HO313 := n2_; replace HO317 := n3_; clear n0_ n1_ n2_ n3_; (try clear hb); (try clear hb2); (try clear hk); (try clear hi); (try clear ho0)))
                 go_meet
                 case rel => exact ⟨_, (t318), H', ⟨by have := HK1.out; first | omega | exact Nat.le_refl _⟩, ⟨by (with_reducible repeat (first | apply Kd.R_alloc | apply Kd.R_drewN | apply Kd.R_drew)); exact Kd.R_mono HO_6.out (fun _ hk => hk.2)⟩, ⟨by (with_reducible repeat (first | apply Kd.R_alloc | apply Kd.R_drewN | apply Kd.R_drew)); exact Kd.R_mono HO320.out (fun _ hk => hk.1.1.1.2)⟩, ⟨hq HB⟩⟩
               · rw [if_neg c20] at H
                 have c20b0 : ((Go.bits .and .i64 (ji16) 1) == 1) = false := beq_eq_false_iff_ne.mpr c20
                 have c20b1 : ((Go.bits .and .i64 (ji16) 1) != 1) = true := bne_iff_ne.mpr c20
                 (first | rw [c20b0] | (simp only [i64_w, i32_w]; rw [c20b0]) | skip)
                 have H' := Aside0.mk H
                 clear H
                 go_wp2
                 go_meet
                 case rel => exact ⟨_, (t311), H', ⟨by have := HK1.out; first | omega | exact Nat.le_refl _⟩, ⟨by (with_reducible repeat (first | apply Kd.R_alloc | apply Kd.R_drewN | apply Kd.R_drew)); exact Kd.R_mono HO_6.out (fun _ hk => hk.2)⟩, ⟨by (with_reducible repeat (first | apply Kd.R_alloc | apply Kd.R_drewN | apply Kd.R_drew)); exact Kd.R_mono HO313.out (fun _ hk => hk.1.2)⟩, ⟨hq HB⟩⟩
             case rest =>
               clear HC17; (try clear c1); (try clear c2); (try clear p2); (try clear c3); (try clear c3b0); (try clear c3b1); (try clear p3); (try clear q3); (try clear hx3); (try clear c4); (try clear c4b0); (try clear c4b1); (try clear p6); (try clear c7); (try clear c8); (try clear c9); (try clear c9b0); (try clear c12); (try clear c12b0); (try clear c13); (try clear c13b0); (try clear c15); (try clear c15b0); (try clear c15b1); (try clear c20); (try clear c20b0); (try clear c20b1); (try clear hx314_0); (try clear p2); (try clear p314); (try clear p6); (try clear q314); obtain ⟨kq, x7_16, HA, HJ16, HO_6, HO_7, HB⟩ := hcut
               cases kq with
               | zero => exact absurd HA.out (by simp [impl_divide.j1])
               | succ kj16 =>
                 have H := HA.out; clear HA
                 simp only [impl_divide.j1] at H
                 replace H := Option.bind_eq_some_iff.mp H; obtain ⟨t321, A270, H⟩ := H; (try dsimp only at H); have A27 := Aside0.mk A270; clear A270
                 by_cases c28 : t321 ≥ 0
                 · rw [if_pos c28] at H
                   have c28b0 : decide (0 ≤ t321) = true := decide_eq_true c28
                   clear c28; replace H := Option.bind_eq_some_iff.mp H; obtain ⟨t322, A290, H⟩ := H; (try dsimp only at H); have A29 := Aside0.mk A290; clear A290
                   have hji30 : (wrap64 (Int.tdiv x8_1 16)) = ji11 := hji11
                   replace H : (if 0 ≤ (ji11) then (if (ji11) < (x6_1.length : Int) then (if 0 ≤ (Int.tmod x8_1 16) then (impl_divide.l0 kj16 l0 l1 (x6_1.set ((ji11) : Int).toNat (Go.bits .or .i64 (rd x6_1 (ji11)) (shl .i64 1 (Int.tmod x8_1 16)))) t322 (wrap64 (x8_1 - 1))) else (none)) else (none)) else (none)) = some (r1, r2) := by first | (rw [hji30] at H; exact H) | (simp only [hji30] at H ⊢; exact H)
                   (try rw [hji30] at A27)
                   (try rw [hji30] at A29)
                   have hji30w : (IntKind.i64.wrap (Int.tdiv x8_1 16)) = ji11 := (i64_w _).trans hji30
                   by_cases c31 : 0 ≤ (ji11)
                   · rw [if_pos c31] at H
                     have c31b0 : decide (0 ≤ (ji11)) = true := decide_eq_true c31
                     clear c31
                     by_cases c32 : (ji11) < (x6_1.length : Int)
                     · rw [if_pos c32] at H
                       have c32b0 : decide ((ji11) < (x6_1.length : Int)) = true := decide_eq_true c32
                       clear c32
                       have hji33 : (Int.tmod x8_1 16) = ji14 := hji14
                       replace H : (if 0 ≤ (ji14) then (impl_divide.l0 kj16 l0 l1 (x6_1.set ((ji11) : Int).toNat (Go.bits .or .i64 (rd x6_1 (ji11)) (shl .i64 1 (ji14)))) t322 (wrap64 (x8_1 - 1))) else (none)) = some (r1, r2) := by first | (rw [hji33] at H; exact H) | (simp only [hji33] at H ⊢; exact H)
                       (try rw [hji33] at A27)
                       (try rw [hji33] at A29)
                       by_cases c34 : 0 ≤ (ji14)
                       · rw [if_pos c34] at H
                         have c34b0 := eq_true c34
                         have c34b1 : decide (0 ≤ (ji14)) = true := decide_eq_true c34
                         clear c34; obtain ⟨ji35, hji35⟩ : ∃ j_ : Int, (shl .i64 1 (ji14)) = j_ := ⟨_, rfl⟩
                         replace H : (impl_divide.l0 kj16 l0 l1 (x6_1.set ((ji11) : Int).toNat (Go.bits .or .i64 (rd x6_1 (ji11)) (ji35))) t322 (wrap64 (x8_1 - 1))) = some (r1, r2) := by first | (rw [hji35] at H; exact H) | (simp only [hji35] at H ⊢; exact H)
                         (try rw [hji35] at A27)
                         (try rw [hji35] at A29)
                         have hji35_ : (IntKind.i64.wrap (1 * 2 ^ min (ji14).toNat 64)) = ji35 := hji35
                         have hji35z : (ji14) ≤ 64 → (IntKind.i64.wrap (1 * 2 ^ (ji14).toNat)) = ji35 := shl_small hji35
                         have hji35u : (IntKind.i64.wrap (2 ^ min (ji14).toNat 64)) = ji35 := by have h_ := hji35_; rw [Int.one_mul] at h_; exact h_
                         have hji35v : (ji14) ≤ 64 → (IntKind.i64.wrap (2 ^ (ji14).toNat)) = ji35 := fun hle_ => by have h_ := hji35z hle_; rw [Int.one_mul] at h_; exact h_
                         have hji35y : (wrap64 (1 * 2 ^ min (ji14).toNat 64)) = ji35 := (i64_w _).symm.trans hji35_
                         have hji35x : (ji14) ≤ 64 → (wrap64 (1 * 2 ^ (ji14).toNat)) = ji35 := fun h_ => (i64_w _).symm.trans (hji35z h_)
                         obtain ⟨y326, hy326⟩ : ∃ y_ : List Int, y_ = (x6_1.set ((ji11) : Int).toNat (Go.bits .or .i64 (rd x6_1 (ji11)) (ji35))) := ⟨_, rfl⟩
                         replace H : (impl_divide.l0 kj16 l0 l1 y326 t322 (wrap64 (x8_1 - 1))) = some (r1, r2) := by first | (rw [hy326]; with_reducible exact H) | (have H2_ := (Option.bind_some _ _).symm.trans H; rw [hy326]; with_reducible exact H2_) | (have H2_ := (Option.bind_some _ _).symm.trans H; with_reducible exact H2_) | with_reducible exact H | (rw [hy326]; exact H) | exact H
                         have Ny326 := Aside0.mk hy326; clear hy326
                         have H' := Aside0.mk H
                         clear H; obtain ⟨Ao37, co37, eo37⟩ := Kd.R_slice HO_7.out; subst eo37
                         try go_wp2_with (first | ((with_reducible refine gate_callee (f := 85) rfl ?_); refine gC (some 39) Try.func85 #[.slice Ao37 x7_16.length co37, .slice A1 l1.length c1] ?_; (with_reducible refine (impl_compare.calls kj16 _ _ x7_16 _ _ l1 t321 _ ?side1 ?side2 ?side3 ?side4 A27.out).mono ?_); (case side1 => exact cq ((Kd.R_reads' HO_7.out).2.2)); (case side2 => exact (Kd.R_reads' HO_7.out).2.1); (case side3 => exact cq (Kd.C_below HR1.out HB.out)); (case side4 => exact HC1.out); rintro e w' ⟨rfl, ⟨nd, rfl⟩⟩; refine ⟨_, rfl, ?_⟩; (try (rw [drewN_self wc]; generalize hq_ : World.drewN wc _ = wc; have n0_ : Aside0 (Kd.R (Kd.int .i64) 3 wc w.heap.size (fun k_ => some k_ ≠ (.slice Ao37 x7_16.length co37 : Value).ownBlock) v303 x6_1) := ⟨by rw [← hq_]; exact (rq HO_6)⟩; have n1_ : Aside0 (Kd.R (Kd.int .i64) 3 wc w.heap.size (fun k_ => some k_ ≠ (v303 : Value).ownBlock) (.slice Ao37 x7_16.length co37) x7_16) := ⟨by rw [← hq_]; exact (rq HO_7)⟩; have n2_ : Aside0 (Below w.heap.size w wc) := ⟨by rw [← hq_]; exact (hq HB)⟩; clear HO_6 HO_7 HB hq_; have HO_6 := n0_; have HO_7 := n1_; have HB := n2_; clear n0_ n1_ n2_))) | ((with_reducible refine gate_callee (f := 86) rfl ?_); refine gC (some 43) Try.func86 #[.slice Ao37 x7_16.length co37, .slice A1 l1.length c1] ?_; (with_reducible refine (impl_less.calls kj16 _ _ x7_16 _ _ l1 t322 _ ?side1 ?side2 ?side3 ?side4 A29.out).mono ?_); (case side1 => exact cq ((Kd.R_reads' HO_7.out).2.2)); (case side2 => exact (Kd.R_reads' HO_7.out).2.1); (case side3 => exact cq (Kd.C_below HR1.out HB.out)); (case side4 => exact HC1.out); rintro e w38 ⟨v323, rfl, ho0, hb⟩; refine ⟨_, rfl, ?_⟩; have n0_ := ce HO_6 ho0 hb; have n1_ := ce HO_7 ho0 hb; have HO324 := Aside0.mk (Kd.R_lower (Kd.R_new' (Kd.R_new' ho0 (ql HO_6)) (ql HO_7)) (below_size (hq HB))); replace HB := cs (hq HB) hb; replace HO_6 := n0_; replace HO_7 := n1_; clear n0_ n1_; (try clear hb); (try clear hb2); (try clear hk); (try clear hi); (try clear ho0)))
                         replace HO_6 := Aside0.mk (Kd.R_drew HO_6.out); replace HO_7 := Aside0.mk (Kd.R_drew HO_7.out); replace HO324 := Aside0.mk (Kd.R_drew HO324.out); replace HB := Aside0.mk (below_drew1 HB.out); obtain ⟨Ao40, co40, eo40⟩ := Kd.R_slice HO_6.out
                         (first | subst eo40 | (injection eo40 with f1_ f2_ f3_; have f4_ := f1_.symm; have f5_ := f3_.symm; clear f1_ f2_ f3_; subst f4_; subst f5_))
                         have p325 : 0 ≤ ((ji11) : Int) := of_decide_eq_true (by first | (with_reducible assumption) | assumption)
                         have q325 : (ji11) < (x6_1.length : Int) := of_decide_eq_true (by first | (with_reducible assumption) | assumption)
                         obtain ⟨ad325, e325, hx325_0⟩ := Kd.at_int (Kd.R_reads' HO_6.out).2.2 (ji11) p325 q325
                         cases e325
                         replace p325 := eq_true p325; replace q325 := eq_true q325
                         have p36 : 0 ≤ ((ji11) : Int) := of_decide_eq_true (by first | (with_reducible assumption) | assumption)
                         have q36 : ((ji11) : Int) < ((x6_1.length : Int) : Int) := of_decide_eq_true (by first | (with_reducible assumption) | assumption)
                         obtain ⟨go36, co36, eo36, gb36, gl36, cl36, HG36⟩ := Kd.R_form HO_6.out (by omega)
                         (first | cases eo36 | (injection eo36 with ea_ en_ ec_; (first | subst ea_ | (injection ea_ with ea_; subst ea_)); subst ec_; clear en_))
                         have GB36 := Aside0.mk gb36; have GG36 := Aside0.mk HG36; clear gb36 gl36 HG36
                         (first | simp only [add_plain] at hx325_0 | skip)
                         obtain ⟨hx36_0, hf36_0⟩ := Kd.R_celln 0 HO_6.out ((ji11) : Int) p36 q36; replace p36 := eq_true p36; replace q36 := eq_true q36; have HP41 := Kd.R_putn HO_6.out ((ji11) : Int) (Go.bits .or .i64 (rd x6_1 (ji11)) (ji35))
                         rw [← Ny326.out] at HP41
                         have HQ41 := Aside0.mk HP41; clear HP41
                         refine start_ (n := 11) (S := fun w' => w'.cell? ⟨go36, ((ji11)).toNat, none⟩ = some (.int .i64 (rd x6_1 (ji11)))) (ds := [10]) #[false, false, false, false, false, false, false, false, false, false, false] (by kernel_rfl) rfl rfl (hx325_0) (fun hHeld => ?_); refine with_tabW impl_divide.tab10 impl_divide.bits10 (fun HT_ HW_ => ?_)
                         generalize w38.drew = w39 at HO_6 HO_7 HO324 HB GG36 HQ41 hf36_0 hx325_0 hx36_0 hHeld ⊢
                         refine pure_ (i := 0) (N := some 44) (v := ?_) (a' := ?_) #[true, false, false, false, false, false, false, false, false, false, false] rfl rfl (any_of HT_.out (by kernel_rfl)) (fun _ _ _ h => h) (Or.inl ⟨by rfl, ?_⟩) ?_ ?_
                         rotate_left
                         · intro w'
                           first | (go_simp; with_reducible rfl) | (go_simp; unfold Instr.field; go_simp; rfl)
                         rotate_left
                         · simp only [Act.put, List.setIfInBounds_toArray, List.set_cons_zero, List.set_cons_succ, i64_w, i32_w]
                           rfl
                         refine pure_ (i := 1) (N := some 45) (v := ?_) (a' := ?_) #[true, true, false, false, false, false, false, false, false, false, false] rfl rfl (any_of HT_.out (by kernel_rfl)) (fun _ _ _ h => h) (Or.inl ⟨by rfl, ?_⟩) ?_ ?_
                         rotate_left
                         · intro w'
                           first | (go_simp; with_reducible rfl) | (go_simp; unfold Instr.field; go_simp; rfl)
                         rotate_left
                         · simp only [Act.put, List.setIfInBounds_toArray, List.set_cons_zero, List.set_cons_succ, i64_w, i32_w]
                           rfl
                         refine pure_ (i := 2) (N := some 46) (v := ?_) (a' := ?_) #[true, true, true, false, false, false, false, false, false, false, false] rfl rfl (any_of HT_.out (by kernel_rfl)) (fun _ _ _ h => h) (Or.inl ⟨by rfl, ?_⟩) ?_ ?_
                         rotate_left
                         · intro w'
                           first | (go_simp; with_reducible rfl) | (go_simp; unfold Instr.field; go_simp; rfl)
                         rotate_left
                         · simp only [Act.put, List.setIfInBounds_toArray, List.set_cons_zero, List.set_cons_succ, i64_w, i32_w]
                           rfl
                         refine pure_ (i := 3) (N := some 47) (v := ?_) (a' := ?_) #[true, true, true, true, false, false, false, false, false, false, false] rfl rfl (any_of HT_.out (by kernel_rfl)) (fun _ _ _ h => h) (Or.inl ⟨by rfl, ?_⟩) ?_ ?_
                         rotate_left
                         · intro w'
                           first | (go_simp; with_reducible rfl) | (go_simp; unfold Instr.field; go_simp; rfl)
                         rotate_left
                         · simp only [Act.put, List.setIfInBounds_toArray, List.set_cons_zero, List.set_cons_succ, i64_w, i32_w]
                           rfl
                         refine pure_ (i := 5) (N := some 49) (v := ?_) (a' := ?_) #[true, true, true, true, false, true, false, false, false, false, false] rfl rfl (any_of HT_.out (by kernel_rfl)) (fun _ _ _ h => h) (Or.inl ⟨by rfl, ?_⟩) ?_ ?_
                         rotate_left
                         · intro w'
                           first | (go_simp; with_reducible rfl) | (go_simp; unfold Instr.field; go_simp; rfl)
                         rotate_left
                         · simp only [Act.put, List.setIfInBounds_toArray, List.set_cons_zero, List.set_cons_succ, i64_w, i32_w]
                           rfl
                         refine pure_ (i := 6) (N := some 50) (v := ?_) (a' := ?_) #[true, true, true, true, false, true, true, false, false, false, false] rfl rfl (any_of HT_.out (by kernel_rfl)) (fun _ _ _ h => h) (Or.inl ⟨by rfl, ?_⟩) ?_ ?_
                         rotate_left
                         · intro w'
                           first | (go_simp; with_reducible rfl) | (go_simp; unfold Instr.field; go_simp; rfl)
                         rotate_left
                         · simp only [Act.put, List.setIfInBounds_toArray, List.set_cons_zero, List.set_cons_succ, i64_w, i32_w]
                           rfl
                         refine pure_ (i := 7) (N := some 51) (v := ?_) (a' := ?_) #[true, true, true, true, false, true, true, true, false, false, false] rfl rfl (any_of HT_.out (by kernel_rfl)) (fun _ _ _ h => h) (Or.inl ⟨by rfl, ?_⟩) ?_ ?_
                         rotate_left
                         · intro w'
                           first | (go_simp; with_reducible rfl) | (go_simp; unfold Instr.field; go_simp; rfl)
                         rotate_left
                         · simp only [Act.put, List.setIfInBounds_toArray, List.set_cons_zero, List.set_cons_succ, i64_w, i32_w]
                           rfl
                         refine take_ (i := 4) (N := some 48) (v := ?_) (a' := ?_) #[true, true, true, true, true, true, true, true, false, false, false] rfl rfl (take_ofW HT_.out HW_.out (by kernel_rfl)) (fun _ _ _ h => h) (Or.inl ⟨by rfl, ?_⟩) hHeld ?_ ?_
                         rotate_left
                         · intro w' s0
                           go_simp
                           with_reducible rfl
                         rotate_left
                         · simp only [Act.put, List.setIfInBounds_toArray, List.set_cons_zero, List.set_cons_succ, i64_w, i32_w]
                           rfl
                         refine pure_ (i := 8) (N := some 52) (v := ?_) (a' := ?_) #[true, true, true, true, true, true, true, true, true, false, false] rfl rfl (any_of HT_.out (by kernel_rfl)) (fun _ _ _ h => h) (Or.inl ⟨by rfl, ?_⟩) ?_ ?_
                         rotate_left
                         · intro w'
                           first | (go_simp; with_reducible rfl) | (go_simp; unfold Instr.field; go_simp; rfl)
                         rotate_left
                         · simp only [Act.put, List.setIfInBounds_toArray, List.set_cons_zero, List.set_cons_succ, i64_w, i32_w]
                           rfl
                         refine pure_ (i := 9) (N := some 53) (v := ?_) (a' := ?_) #[true, true, true, true, true, true, true, true, true, true, false] rfl rfl (any_of HT_.out (by kernel_rfl)) (fun _ _ _ h => h) (Or.inl ⟨by rfl, ?_⟩) ?_ ?_
                         rotate_left
                         · intro w'
                           first | (go_simp; with_reducible rfl) | (go_simp; unfold Instr.field; go_simp; rfl)
                         rotate_left
                         · simp only [Act.put, List.setIfInBounds_toArray, List.set_cons_zero, List.set_cons_succ, i64_w, i32_w]
                           rfl
                         refine last_ (i := 10) (N := none) #[true, true, true, true, true, true, true, true, true, true, true] rfl rfl (one_of HT_.out (by kernel_rfl)) (by decide) (fun K hK => ?_)
                         refine skip_ (w1 := ?_) (by rfl) rfl ?_ ?_
                         rotate_left
                         · go_simp
                           rfl
                         refine hK.out _ _ ?_
                         clear hK K
                         refine done_ (done_of HT_.out (by kernel_rfl)) ?_
                         try go_wp2
                         go_roundg kj16
                         case measure => have := HK1.out; have := HJ16.out; omega
                         case rel => exact ⟨(y326), (t322), (wrap64 (x8_1 - 1)), (by first | rfl | (simp; done) | (simp [*]; done)), H', ⟨by have := HK1.out; have := HJ16.out; omega⟩, ⟨by (with_reducible repeat (first | apply Kd.R_alloc | apply Kd.R_drewN | apply Kd.R_drew)); exact Kd.R_mono HQ41.out (fun _ hk => hk.2)⟩, ⟨by (with_reducible repeat (first | apply Kd.R_alloc | apply Kd.R_drewN | apply Kd.R_drew)); exact Kd.R_mono (Kd.R_far (p := ⟨go36, ((ji11) : Int).toNat, none⟩) (Kd.R_mono HO324.out (fun k_ hk => (⟨hk, fun e_ => hk.1.2 (by rw [e_]; rfl)⟩ : _ ∧ k_ ≠ go36))) (fun _ hk => hk.2) (.int .i64 (Go.bits .or .i64 (rd x6_1 (ji11)) (ji35)))) (fun _ hk => hk.1.1.2)⟩, ⟨hq1 HB GB36⟩⟩
                       · rw [if_neg c34] at H
                         exact absurd H (by simp)
                     · rw [if_neg c32] at H
                       exact absurd H (by simp)
                   · rw [if_neg c31] at H
                     exact absurd H (by simp)
                 · rw [if_neg c28] at H
                   have c28b0 : decide (0 ≤ t321) = false := decide_eq_false c28
                   clear c28
                   have H' := Aside0.mk H
                   clear H; obtain ⟨Ao42, co42, eo42⟩ := Kd.R_slice HO_7.out; subst eo42
                   go_wp2_with (first | ((with_reducible refine gate_callee (f := 85) rfl ?_); refine gC (some 39) Try.func85 #[.slice Ao42 x7_16.length co42, .slice A1 l1.length c1] ?_; (with_reducible refine (impl_compare.calls kj16 _ _ x7_16 _ _ l1 t321 _ ?side1 ?side2 ?side3 ?side4 A27.out).mono ?_); (case side1 => exact cq ((Kd.R_reads' HO_7.out).2.2)); (case side2 => exact (Kd.R_reads' HO_7.out).2.1); (case side3 => exact cq (Kd.C_below HR1.out HB.out)); (case side4 => exact HC1.out); rintro e w' ⟨rfl, ⟨nd, rfl⟩⟩; refine ⟨_, rfl, ?_⟩))
                   go_roundg kj16
                   case measure => have := HK1.out; have := HJ16.out; omega
                   case rel => exact ⟨(x6_1), (x7_16), (wrap64 (x8_1 - 1)), (by first | rfl | (simp; done) | (simp [*]; done)), H', ⟨by have := HK1.out; have := HJ16.out; omega⟩, ⟨by (with_reducible repeat (first | apply Kd.R_alloc | apply Kd.R_drewN | apply Kd.R_drew)); exact HO_6.out⟩, ⟨by (with_reducible repeat (first | apply Kd.R_alloc | apply Kd.R_drewN | apply Kd.R_drew)); exact HO_7.out⟩, ⟨hq HB⟩⟩
           · rw [if_neg c15] at H
             exact absurd H (by simp)
         · rw [if_neg c13] at H
           exact absurd H (by simp)
       · rw [if_neg c12] at H
         exact absurd H (by simp)
     · rw [if_neg c9] at H
       have c9b0 : decide (0 ≤ x8_1) = false := decide_eq_false c9
       clear c9; replace H := Option.bind_eq_some_iff.mp H; obtain ⟨t308, A430, H⟩ := H; (try dsimp only at H); have A43 := Aside0.mk A430; clear A430
       simp only [Option.some.injEq, Prod.mk.injEq] at H
       obtain ⟨rfl, rfl⟩ := H; obtain ⟨Ao44, co44, eo44⟩ := Kd.R_slice HO_6.out; subst eo44
       go_wp2_with (first | ((with_reducible refine gate_callee (f := 130) rfl ?_); refine gC (some 55) Try.func130 #[.slice Ao44 x6_1.length co44] ?_; (with_reducible refine (impl_trimmed.calls k1 (fun k_ => some k_ = (.slice Ao44 x6_1.length co44 : Value).ownBlock) (.slice Ao44 x6_1.length co44) x6_1 t308 w _ ?side1 ?side2 A43.out).mono ?_); (case side1 => repeat (first | (with_reducible first | exact HB.out | apply below_alloc | apply pw_below_drewN | apply below_drew1) | exact HB.out)); (case side2 => exact Kd.R_tight rfl HO_6.out); rintro e w45 ⟨v309, rfl, ho0, hb, hkp⟩; refine ⟨_, rfl, ?_⟩; have n0_ := Aside0.mk (Kd.R_mono (ok' := fun k_ => some k_ ≠ (v309 : Value).ownBlock) (Kd.R_keptB (HO_7.out) hkp (fun k_ hk_ hs_ => (hk_) hs_)) (fun k_ hk_ => fun e_ => Or.elim (ho0.1 k_ e_.symm) (fun hs_ => hk_.2.1 hs_) (fun hn_ => Nat.not_le.2 hk_.2.2 hn_))); have HO310 := Aside0.mk (Kd.R_mono (ok' := fun k_ => some k_ ≠ (u7 : Value).ownBlock) ho0 (fun k_ hk_ => Or.elim hk_ (fun hs_ => fun e_ => (((HO_7.out).1 k_ e_.symm)) hs_) (fun hn_ => (Kd.fresh' (ql HO_7) k_ hn_)))); replace HB := Aside0.mk (hb); replace HO_7 := n0_; clear n0_ HO_6; (try clear hb); (try clear hkp); (try clear ho0)))
       go_ret2
       exact ⟨_, _, by first | rfl | (simp <;> rfl) | (simp [*] <;> rfl), by (with_reducible repeat (first | apply Kd.R_alloc | apply Kd.R_drewN | apply Kd.R_drew)); exact HO310.out, by (with_reducible repeat (first | apply Kd.R_alloc | apply Kd.R_drewN | apply Kd.R_drew)); exact HO_7.out, hq HB⟩
/-! ### impl_DivBig: function 16 -/
def impl_DivBig.f (k : Nat) (l0_0 : List Int) (l1_0 : List Int) : Option (List Int × List Int × Bool) := (impl_areBigs.f k (([(⟨l0_0⟩ : S25), (⟨l1_0⟩ : S25)] : List (S25)))).bind fun t334 => (if t334 = true then (if (l1_0.length : Int) = 0 then (some (([] : List Int), ([] : List Int), false)) else ((impl_divide.f k l0_0 l1_0).bind fun bt335 => (some (bt335.1, bt335.2, true)))) else (some (([] : List Int), ([] : List Int), false)))
set_option maxHeartbeats 8000000 in
set_option maxRecDepth 100000 in
theorem impl_DivBig.calls (k : Nat) (P0_0_ : Nat → Prop) (A0_0 : Option Addr) (c0_0 : Nat) (l0_0 : List Int) (P1_0_ : Nat → Prop) (A1_0 : Option Addr) (c1_0 : Nat) (l1_0 : List Int) (r1 : List Int) (r2 : List Int) (r3 : Bool) (w : World) (hs0_0 : Kd.V (Kd.int .i64) 3 w w.heap.size (fun k_ => P0_0_ k_) (.slice A0_0 l0_0.length c0_0) l0_0) (hs1_0 : Kd.V (Kd.int .i64) 3 w w.heap.size (fun k_ => P1_0_ k_) (.slice A1_0 l1_0.length c1_0) l1_0) (h : impl_DivBig.f k l0_0 l1_0 = some (r1, r2, r3)) :
    Calls Try.prog 16 #[.agg #[.slice A0_0 l0_0.length c0_0], .agg #[.slice A1_0 l1_0.length c1_0]] w fun e w' => ∃ v0_ v1_ : Value, e = .returned (.tuple #[.agg #[v0_], .agg #[v1_], .bool r3]) ∧ Kd.R (Kd.int .i64) 3 w' w.heap.size (fun k_ => (w.heap.size ≤ k_) ∧ some k_ ≠ (v1_ : Value).ownBlock) v0_ r1 ∧ Kd.R (Kd.int .i64) 3 w' w.heap.size (fun k_ => (w.heap.size ≤ k_) ∧ some k_ ≠ (v0_ : Value).ownBlock) v1_ r2 ∧ Below w.heap.size w w' := by
 have hu25 := Try.underlying25
 have HO0_0 := Aside0.mk (show Kd.V (Kd.int .i64) 3 w w.heap.size (fun k_ => ((P0_0_ k_ ∨ P1_0_ k_) ∨ w.heap.size ≤ k_)) (.slice A0_0 l0_0.length c0_0) l0_0 from Kd.V_mono hs0_0 (fun k_ hk => .inl (.inl hk)))
 have HO1_0 := Aside0.mk (show Kd.V (Kd.int .i64) 3 w w.heap.size (fun k_ => ((P0_0_ k_ ∨ P1_0_ k_) ∨ w.heap.size ≤ k_)) (.slice A1_0 l1_0.length c1_0) l1_0 from Kd.V_mono hs1_0 (fun k_ hk => .inl (.inr hk)))
 have HB := Aside0.mk (Below.refl w.heap.size w)
 have H : ((impl_areBigs.f k (([(⟨l0_0⟩ : S25), (⟨l1_0⟩ : S25)] : List (S25)))).bind fun t334 => (if t334 = true then (if (l1_0.length : Int) = 0 then (some (([] : List Int), ([] : List Int), false)) else ((impl_divide.f k l0_0 l1_0).bind fun bt335 => (some (bt335.1, bt335.2, true)))) else (some (([] : List Int), ([] : List Int), false)))) = some (r1, r2, r3) := h
 clear h; obtain ⟨y331, hy331⟩ : ∃ y_ : List (S25), y_ = (([(⟨l0_0⟩ : S25), (⟨l1_0⟩ : S25)] : List (S25))) := ⟨_, rfl⟩
 replace H : ((impl_areBigs.f k y331).bind fun t334 => (if t334 = true then (if (l1_0.length : Int) = 0 then (some (([] : List Int), ([] : List Int), false)) else ((impl_divide.f k l0_0 l1_0).bind fun bt335 => (some (bt335.1, bt335.2, true)))) else (some (([] : List Int), ([] : List Int), false)))) = some (r1, r2, r3) := by first | (rw [hy331]; with_reducible exact H) | (have H2_ := (Option.bind_some _ _).symm.trans H; rw [hy331]; with_reducible exact H2_) | (have H2_ := (Option.bind_some _ _).symm.trans H; with_reducible exact H2_) | with_reducible exact H | (rw [hy331]; exact H) | exact H
 have Ny331 := Aside0.mk hy331; clear hy331; replace H := Option.bind_eq_some_iff.mp H; obtain ⟨t334, A30, H⟩ := H; (try dsimp only at H); have A3 := Aside0.mk A30; clear A30
 by_cases c4 : t334 = true
 rotate_left
 · replace c4 := Bool.eq_false_iff.mpr c4
   subst c4
   have H1 : (some (([] : List Int), ([] : List Int), false)) = some (r1, r2, r3) := by rw [if_neg (show ¬ (false = true) by decide)] at H; exact H
   clear H; have H := H1; clear H1
   simp only [Option.some.injEq, Prod.mk.injEq] at H
   obtain ⟨rfl, rfl, rfl⟩ := H
   go_enter Try.func16, Try.ntmps16
   go_wp2_with (first | ((with_reducible refine gate_dst (N := 2) rfl ?_); (try (refine gate_guard (by rfl) ?_; dsimp only)); refine bX #[.slice A0_0 l0_0.length c0_0] 25 ?_; intro gb327 hg w49 hbox hb; replace HO0_0 := Aside0.mk (ve HO0_0 gb327 hg hb); replace HO1_0 := Aside0.mk (ve HO1_0 gb327 hg hb); have n2_ := cs (hq HB) hb; have BK327 := Aside0.mk (hbox); have GW327 := cg hg (hq HB); have GE327 := cg hg (hq HB); replace HB := n2_; clear n2_; clear hb hbox hg) | ((with_reducible refine gate_dst (N := 3) rfl ?_); (try (refine gate_guard (by rfl) ?_; dsimp only)); refine bX #[.slice A1_0 l1_0.length c1_0] 25 ?_; intro gb328 hg w50 hbox hb; replace HO0_0 := Aside0.mk (ve HO0_0 gb328 hg hb); replace HO1_0 := Aside0.mk (ve HO1_0 gb328 hg hb); have n2_ := cB BK327 hb; have n3_ := cs (hq1 HB GE327) hb; have BK328 := Aside0.mk (hbox); have GW328 := cg hg (hq1 HB GE327); have GE328 := cg hg (hq1 HB GE327); have NB327_328 := cl hg BK327; have NB328_327 := cr hg BK327; replace BK327 := n2_; replace HB := n3_; clear n2_ n3_; clear hb hbox hg) | ((with_reducible refine gate_dst (N := 4) rfl ?_); (try (refine gate_guard (by rfl) ?_; dsimp only)); refine bX #[.slice none 0 0] 25 ?_; intro gb329 hg w51 hbox hb; replace HO0_0 := Aside0.mk (ve HO0_0 gb329 hg hb); replace HO1_0 := Aside0.mk (ve HO1_0 gb329 hg hb); have n2_ := cB BK327 hb; have n3_ := cB BK328 hb; have n4_ := cs (hq2 HB GE327 GE328) hb; have BK329 := Aside0.mk (hbox); have GW329 := cg hg (hq2 HB GE327 GE328); have GE329 := cg hg (hq2 HB GE327 GE328); have NB327_329 := cl hg BK327; have NB329_327 := cr hg BK327; have NB328_329 := cl hg BK328; have NB329_328 := cr hg BK328; replace BK327 := n2_; replace BK328 := n3_; replace HB := n4_; clear n2_ n3_ n4_; clear hb hbox hg) | ((with_reducible refine gate_dst (N := 5) rfl ?_); (try (refine gate_guard (by rfl) ?_; dsimp only)); refine bX #[.slice none 0 0] 25 ?_; intro gb330 hg w52 hbox hb; replace HO0_0 := Aside0.mk (ve HO0_0 gb330 hg hb); replace HO1_0 := Aside0.mk (ve HO1_0 gb330 hg hb); have n2_ := cB BK327 hb; have n3_ := cB BK328 hb; have n4_ := cB BK329 hb; have n5_ := cs (hq3 HB GE327 GE328 GE329) hb; have BK330 := Aside0.mk (hbox); have GW330 := cg hg (hq3 HB GE327 GE328 GE329); have GE330 := cg hg (hq3 HB GE327 GE328 GE329); have NB327_330 := cl hg BK327; have NB330_327 := cr hg BK327; have NB328_330 := cl hg BK328; have NB330_328 := cr hg BK328; have NB329_330 := cl hg BK329; have NB330_329 := cr hg BK329; replace BK327 := n2_; replace BK328 := n3_; replace BK329 := n4_; replace HB := n5_; clear n2_ n3_ n4_ n5_; clear hb hbox hg; have hnb53 := NB327_328.out; have hnc53 := NB328_327.out; have hnb54 := NB327_329.out; have hnc54 := NB329_327.out; have hnb55 := NB327_330.out; have hnc55 := NB330_327.out; have hcz56_0 : w52.cell? ⟨gb327, 0, none⟩ = some (.slice A0_0 l0_0.length c0_0) := (blk_cell BK327.out 0).trans rfl; have hfz56_0 := blk_frozen BK327.out 0; have hnb57 := NB328_329.out; have hnc57 := NB329_328.out; have hnb58 := NB328_330.out; have hnc58 := NB330_328.out; have hcz59_0 : w52.cell? ⟨gb328, 0, none⟩ = some (.slice A1_0 l1_0.length c1_0) := (blk_cell BK328.out 0).trans rfl; have hfz59_0 := blk_frozen BK328.out 0) | ((with_reducible refine gate_dst (N := 11) rfl ?_); (try (refine gate_guard (by rfl) ?_; dsimp only)); refine Kd.N_lit k25 _ 25 ?hg (N' := 11) ?hd (xs := ([(⟨l0_0⟩ : S25), (⟨l1_0⟩ : S25)] : List (S25))) (inner := [.slice A0_0 l0_0.length c0_0, .slice A1_0 l1_0.length c1_0]) (ok := (fun k_ => ((P0_0_ k_ ∨ P1_0_ k_) ∨ w.heap.size ≤ k_) ∧ k_ ≠ gb327 ∧ k_ ≠ gb328 ∧ k_ ≠ gb329 ∧ k_ ≠ gb330)) (okp := (fun k_ => ((P0_0_ k_ ∨ P1_0_ k_) ∨ w.heap.size ≤ k_) ∧ k_ ≠ gb327 ∧ k_ ≠ gb328 ∧ k_ ≠ gb329 ∧ k_ ≠ gb330)) ?hr ?hp (fun _ hk => hk) ((show ∀ k_, w52.heap.size ≤ k_ → (fun k_ => ((P0_0_ k_ ∨ P1_0_ k_) ∨ w.heap.size ≤ k_) ∧ k_ ≠ gb327 ∧ k_ ≠ gb328 ∧ k_ ≠ gb329 ∧ k_ ≠ gb330) k_ from fun k_ hk => ⟨(.inr (Nat.le_trans (below_size (hq4 HB GE327 GE328 GE329 GE330)) hk)), Kd.freshB (g := gb327) (o := .cells #[.slice A0_0 l0_0.length c0_0] 25 (0, 0)) (bq BK327) k_ hk, Kd.freshB (g := gb328) (o := .cells #[.slice A1_0 l1_0.length c1_0] 25 (0, 0)) (bq BK328) k_ hk, Kd.freshB (g := gb329) (o := .cells #[.slice none 0 0] 25 (0, 0)) (bq BK329) k_ hk, Kd.freshB (g := gb330) (o := .cells #[.slice none 0 0] 25 (0, 0)) (bq BK330) k_ hk⟩) _ (Nat.le_refl _)) (Below.refl _ _) (Nat.le_refl _) (by simp) ?_; (case hd => rfl); (case hg => rfl); (case hr => first | (go_simp; done) | (go_simp; rfl)); (case hp => exact (Reps.one (show Kd.FK k25 _ _ (⟨l0_0⟩ : S25) [.slice A0_0 l0_0.length c0_0] from (k25_mkF _ _ (⟨l0_0⟩ : S25) (Kd.V_reads' (Kd.V_mono (ok' := (fun k_ => ((P0_0_ k_ ∨ P1_0_ k_) ∨ w.heap.size ≤ k_) ∧ k_ ≠ gb327 ∧ k_ ≠ gb328 ∧ k_ ≠ gb329 ∧ k_ ≠ gb330)) (HO0_0.out) (fun k_ hk => ⟨hk.1.1.1.1, ⟨hk.1.1.1.2, ⟨hk.1.1.2, ⟨hk.1.2, hk.2⟩⟩⟩⟩))).2.1 (Kd.V_F (Kd.V_mono (ok' := (fun k_ => ((P0_0_ k_ ∨ P1_0_ k_) ∨ w.heap.size ≤ k_) ∧ k_ ≠ gb327 ∧ k_ ≠ gb328 ∧ k_ ≠ gb329 ∧ k_ ≠ gb330)) (HO0_0.out) (fun k_ hk => ⟨hk.1.1.1.1, ⟨hk.1.1.1.2, ⟨hk.1.1.2, ⟨hk.1.2, hk.2⟩⟩⟩⟩))))) (Reps.one (show Kd.FK k25 _ _ (⟨l1_0⟩ : S25) [.slice A1_0 l1_0.length c1_0] from (k25_mkF _ _ (⟨l1_0⟩ : S25) (Kd.V_reads' (Kd.V_mono (ok' := (fun k_ => ((P0_0_ k_ ∨ P1_0_ k_) ∨ w.heap.size ≤ k_) ∧ k_ ≠ gb327 ∧ k_ ≠ gb328 ∧ k_ ≠ gb329 ∧ k_ ≠ gb330)) (HO1_0.out) (fun k_ hk => ⟨hk.1.1.1.1, ⟨hk.1.1.1.2, ⟨hk.1.1.2, ⟨hk.1.2, hk.2⟩⟩⟩⟩))).2.1 (Kd.V_F (Kd.V_mono (ok' := (fun k_ => ((P0_0_ k_ ∨ P1_0_ k_) ∨ w.heap.size ≤ k_) ∧ k_ ≠ gb327 ∧ k_ ≠ gb328 ∧ k_ ≠ gb329 ∧ k_ ≠ gb330)) (HO1_0.out) (fun k_ hk => ⟨hk.1.1.1.1, ⟨hk.1.1.1.2, ⟨hk.1.1.2, ⟨hk.1.2, hk.2⟩⟩⟩⟩))))) (Reps.none _ _)))); intro v332 w60 ho61 hb hg_ hnew_; clear hg_ hnew_; (first | rw [← Ny331.out] at ho61 | (simp only [Int.reduceToNat] at ho61; rw [← Ny331.out] at ho61)); replace HO0_0 := Aside0.mk (Kd.V_elder' (vq HO0_0) (Kd.N_base ho61) hb); replace HO1_0 := Aside0.mk (Kd.V_elder' (vq HO1_0) (Kd.N_base ho61) hb); have HO333 := Aside0.mk (Kd.N_lower ho61 (below_size (hq4 HB GE327 GE328 GE329 GE330))); replace BK327 := cB BK327 hb; replace BK328 := cB BK328 hb; replace BK329 := cB BK329 hb; replace BK330 := cB BK330 hb; replace HB := cs (hq4 HB GE327 GE328 GE329 GE330) hb; clear hb ho61; obtain ⟨Ao62, co62, eo62⟩ := Kd.N_slice HO333.out; subst eo62) | ((with_reducible refine gate_callee (f := 74) rfl ?_); refine gC (some 12) Try.func74 #[.slice Ao62 y331.length co62] ?_; (with_reducible refine (impl_areBigs.calls k _ _ y331 false _ ?side1 ?side2 A3.out).mono ?_); (case side1 => exact cq ((Kd.N_reads' HO333.out).2.2)); (case side2 => exact (Kd.N_reads' HO333.out).2.1); rintro e w63 ⟨rfl, hb⟩; refine ⟨_, rfl, ?_⟩; replace HO0_0 := Aside0.mk (Kd.V_below (vq HO0_0) hb); replace HO1_0 := Aside0.mk (Kd.V_below (vq HO1_0) hb); replace HO333 := Aside0.mk (Kd.N_below (by (with_reducible repeat (first | apply Kd.N_alloc | apply Kd.N_drewN | apply Kd.N_drew)); exact HO333.out) hb); replace BK327 := cB BK327 hb; replace BK328 := cB BK328 hb; replace BK329 := cB BK329 hb; replace BK330 := cB BK330 hb; replace HB := cs (hq4 HB GE327 GE328 GE329 GE330) hb; (try clear hb); (try clear hb2); (try clear hk); (try clear hi); have hnb64 := NB329_330.out; have hnc64 := NB330_329.out; have hcz65_0 : w63.cell? ⟨gb329, 0, none⟩ = some (.slice none 0 0) := (blk_cell BK329.out 0).trans rfl; have hfz65_0 := blk_frozen BK329.out 0; have hcz66_0 : w63.cell? ⟨gb330, 0, none⟩ = some (.slice none 0 0) := (blk_cell BK330.out 0).trans rfl; have hfz66_0 := blk_frozen BK330.out 0))
   refine bodyPost_ret (results_list (rs := [.cell 4 25, .cell 5 25, .tmp 6]) rfl (by simp) (.cell gb329 25 #[.slice none 0 0] (0, 0) _ rfl (by (with_reducible repeat (first | refine blk_drewN ?_ _ | refine blk_drew ?_ | refine blk_alloc ?_ _)); refine blk_far ?_ NB329_330.out _; (with_reducible repeat (first | refine blk_drewN ?_ _ | refine blk_drew ?_ | refine blk_alloc ?_ _)); refine blk_put (cs := #[.slice none 0 0]) ?_ 0 _ rfl; (with_reducible repeat (first | refine blk_drewN ?_ _ | refine blk_drew ?_ | refine blk_alloc ?_ _)); exact BK329.out) Try.underlying25 rfl (by kernel_rfl) (.cell gb330 25 #[.slice none 0 0] (0, 0) _ rfl (by (with_reducible repeat (first | refine blk_drewN ?_ _ | refine blk_drew ?_ | refine blk_alloc ?_ _)); refine blk_put (cs := #[.slice none 0 0]) ?_ 0 _ rfl; (with_reducible repeat (first | refine blk_drewN ?_ _ | refine blk_drew ?_ | refine blk_alloc ?_ _)); refine blk_far ?_ NB330_329.out _; (with_reducible repeat (first | refine blk_drewN ?_ _ | refine blk_drew ?_ | refine blk_alloc ?_ _)); exact BK330.out) Try.underlying25 rfl (by kernel_rfl) (.tmp .nil)))) rfl ?_
   exact ⟨_, _, by first | rfl | (simp <;> rfl) | (simp [*] <;> rfl), by first | exact Kd.R_nil _ _ _ _ _ | exact Kd.R_nil _ _ _ 0 _ | exact Kd.N_nil _ _ _ _ _ | exact Kd.V_nil _ _ _ _ _ | exact Kd.Q_nil _ _ _ _ _ | exact Kd.S_nil _ _ _ _ _, by first | exact Kd.R_nil _ _ _ _ _ | exact Kd.R_nil _ _ _ 0 _ | exact Kd.N_nil _ _ _ _ _ | exact Kd.V_nil _ _ _ _ _ | exact Kd.Q_nil _ _ _ _ _ | exact Kd.S_nil _ _ _ _ _, hq4 HB GE327 GE328 GE329 GE330⟩

 subst c4
 have H1 : (if (l1_0.length : Int) = 0 then (some (([] : List Int), ([] : List Int), false)) else ((impl_divide.f k l0_0 l1_0).bind fun bt335 => (some (bt335.1, bt335.2, true)))) = some (r1, r2, r3) := by rw [if_pos rfl] at H; exact H
 clear H; have H := H1; clear H1
 by_cases c5 : (l1_0.length : Int) = 0
 · rw [if_pos c5] at H
   have c5b0 : ((l1_0.length : Int) == 0) = true := beq_iff_eq.mpr c5
   have c5b1 : ((l1_0.length : Int) != 0) = false := bne_eq_false_iff_eq.mpr c5
   clear c5
   simp only [Option.some.injEq, Prod.mk.injEq] at H
   obtain ⟨rfl, rfl, rfl⟩ := H
   go_enter Try.func16, Try.ntmps16
   go_wp2_with (first | ((with_reducible refine gate_dst (N := 2) rfl ?_); (try (refine gate_guard (by rfl) ?_; dsimp only)); refine bX #[.slice A0_0 l0_0.length c0_0] 25 ?_; intro gb327 hg w6 hbox hb; replace HO0_0 := Aside0.mk (ve HO0_0 gb327 hg hb); replace HO1_0 := Aside0.mk (ve HO1_0 gb327 hg hb); have n2_ := cs (hq HB) hb; have BK327 := Aside0.mk (hbox); have GW327 := cg hg (hq HB); have GE327 := cg hg (hq HB); replace HB := n2_; clear n2_; clear hb hbox hg) | ((with_reducible refine gate_dst (N := 3) rfl ?_); (try (refine gate_guard (by rfl) ?_; dsimp only)); refine bX #[.slice A1_0 l1_0.length c1_0] 25 ?_; intro gb328 hg w7 hbox hb; replace HO0_0 := Aside0.mk (ve HO0_0 gb328 hg hb); replace HO1_0 := Aside0.mk (ve HO1_0 gb328 hg hb); have n2_ := cB BK327 hb; have n3_ := cs (hq1 HB GE327) hb; have BK328 := Aside0.mk (hbox); have GW328 := cg hg (hq1 HB GE327); have GE328 := cg hg (hq1 HB GE327); have NB327_328 := cl hg BK327; have NB328_327 := cr hg BK327; replace BK327 := n2_; replace HB := n3_; clear n2_ n3_; clear hb hbox hg) | ((with_reducible refine gate_dst (N := 4) rfl ?_); (try (refine gate_guard (by rfl) ?_; dsimp only)); refine bX #[.slice none 0 0] 25 ?_; intro gb329 hg w8 hbox hb; replace HO0_0 := Aside0.mk (ve HO0_0 gb329 hg hb); replace HO1_0 := Aside0.mk (ve HO1_0 gb329 hg hb); have n2_ := cB BK327 hb; have n3_ := cB BK328 hb; have n4_ := cs (hq2 HB GE327 GE328) hb; have BK329 := Aside0.mk (hbox); have GW329 := cg hg (hq2 HB GE327 GE328); have GE329 := cg hg (hq2 HB GE327 GE328); have NB327_329 := cl hg BK327; have NB329_327 := cr hg BK327; have NB328_329 := cl hg BK328; have NB329_328 := cr hg BK328; replace BK327 := n2_; replace BK328 := n3_; replace HB := n4_; clear n2_ n3_ n4_; clear hb hbox hg) | ((with_reducible refine gate_dst (N := 5) rfl ?_); (try (refine gate_guard (by rfl) ?_; dsimp only)); refine bX #[.slice none 0 0] 25 ?_; intro gb330 hg w9 hbox hb; replace HO0_0 := Aside0.mk (ve HO0_0 gb330 hg hb); replace HO1_0 := Aside0.mk (ve HO1_0 gb330 hg hb); have n2_ := cB BK327 hb; have n3_ := cB BK328 hb; have n4_ := cB BK329 hb; have n5_ := cs (hq3 HB GE327 GE328 GE329) hb; have BK330 := Aside0.mk (hbox); have GW330 := cg hg (hq3 HB GE327 GE328 GE329); have GE330 := cg hg (hq3 HB GE327 GE328 GE329); have NB327_330 := cl hg BK327; have NB330_327 := cr hg BK327; have NB328_330 := cl hg BK328; have NB330_328 := cr hg BK328; have NB329_330 := cl hg BK329; have NB330_329 := cr hg BK329; replace BK327 := n2_; replace BK328 := n3_; replace BK329 := n4_; replace HB := n5_; clear n2_ n3_ n4_ n5_; clear hb hbox hg; have hnb10 := NB327_328.out; have hnc10 := NB328_327.out; have hnb11 := NB327_329.out; have hnc11 := NB329_327.out; have hnb12 := NB327_330.out; have hnc12 := NB330_327.out; have hcz13_0 : w9.cell? ⟨gb327, 0, none⟩ = some (.slice A0_0 l0_0.length c0_0) := (blk_cell BK327.out 0).trans rfl; have hfz13_0 := blk_frozen BK327.out 0; have hnb14 := NB328_329.out; have hnc14 := NB329_328.out; have hnb15 := NB328_330.out; have hnc15 := NB330_328.out; have hcz16_0 : w9.cell? ⟨gb328, 0, none⟩ = some (.slice A1_0 l1_0.length c1_0) := (blk_cell BK328.out 0).trans rfl; have hfz16_0 := blk_frozen BK328.out 0) | ((with_reducible refine gate_dst (N := 11) rfl ?_); (try (refine gate_guard (by rfl) ?_; dsimp only)); refine Kd.N_lit k25 _ 25 ?hg (N' := 11) ?hd (xs := ([(⟨l0_0⟩ : S25), (⟨l1_0⟩ : S25)] : List (S25))) (inner := [.slice A0_0 l0_0.length c0_0, .slice A1_0 l1_0.length c1_0]) (ok := (fun k_ => ((P0_0_ k_ ∨ P1_0_ k_) ∨ w.heap.size ≤ k_) ∧ k_ ≠ gb327 ∧ k_ ≠ gb328 ∧ k_ ≠ gb329 ∧ k_ ≠ gb330)) (okp := (fun k_ => ((P0_0_ k_ ∨ P1_0_ k_) ∨ w.heap.size ≤ k_) ∧ k_ ≠ gb327 ∧ k_ ≠ gb328 ∧ k_ ≠ gb329 ∧ k_ ≠ gb330)) ?hr ?hp (fun _ hk => hk) ((show ∀ k_, w9.heap.size ≤ k_ → (fun k_ => ((P0_0_ k_ ∨ P1_0_ k_) ∨ w.heap.size ≤ k_) ∧ k_ ≠ gb327 ∧ k_ ≠ gb328 ∧ k_ ≠ gb329 ∧ k_ ≠ gb330) k_ from fun k_ hk => ⟨(.inr (Nat.le_trans (below_size (hq4 HB GE327 GE328 GE329 GE330)) hk)), Kd.freshB (g := gb327) (o := .cells #[.slice A0_0 l0_0.length c0_0] 25 (0, 0)) (bq BK327) k_ hk, Kd.freshB (g := gb328) (o := .cells #[.slice A1_0 l1_0.length c1_0] 25 (0, 0)) (bq BK328) k_ hk, Kd.freshB (g := gb329) (o := .cells #[.slice none 0 0] 25 (0, 0)) (bq BK329) k_ hk, Kd.freshB (g := gb330) (o := .cells #[.slice none 0 0] 25 (0, 0)) (bq BK330) k_ hk⟩) _ (Nat.le_refl _)) (Below.refl _ _) (Nat.le_refl _) (by simp) ?_; (case hd => rfl); (case hg => rfl); (case hr => first | (go_simp; done) | (go_simp; rfl)); (case hp => exact (Reps.one (show Kd.FK k25 _ _ (⟨l0_0⟩ : S25) [.slice A0_0 l0_0.length c0_0] from (k25_mkF _ _ (⟨l0_0⟩ : S25) (Kd.V_reads' (Kd.V_mono (ok' := (fun k_ => ((P0_0_ k_ ∨ P1_0_ k_) ∨ w.heap.size ≤ k_) ∧ k_ ≠ gb327 ∧ k_ ≠ gb328 ∧ k_ ≠ gb329 ∧ k_ ≠ gb330)) (HO0_0.out) (fun k_ hk => ⟨hk.1.1.1.1, ⟨hk.1.1.1.2, ⟨hk.1.1.2, ⟨hk.1.2, hk.2⟩⟩⟩⟩))).2.1 (Kd.V_F (Kd.V_mono (ok' := (fun k_ => ((P0_0_ k_ ∨ P1_0_ k_) ∨ w.heap.size ≤ k_) ∧ k_ ≠ gb327 ∧ k_ ≠ gb328 ∧ k_ ≠ gb329 ∧ k_ ≠ gb330)) (HO0_0.out) (fun k_ hk => ⟨hk.1.1.1.1, ⟨hk.1.1.1.2, ⟨hk.1.1.2, ⟨hk.1.2, hk.2⟩⟩⟩⟩))))) (Reps.one (show Kd.FK k25 _ _ (⟨l1_0⟩ : S25) [.slice A1_0 l1_0.length c1_0] from (k25_mkF _ _ (⟨l1_0⟩ : S25) (Kd.V_reads' (Kd.V_mono (ok' := (fun k_ => ((P0_0_ k_ ∨ P1_0_ k_) ∨ w.heap.size ≤ k_) ∧ k_ ≠ gb327 ∧ k_ ≠ gb328 ∧ k_ ≠ gb329 ∧ k_ ≠ gb330)) (HO1_0.out) (fun k_ hk => ⟨hk.1.1.1.1, ⟨hk.1.1.1.2, ⟨hk.1.1.2, ⟨hk.1.2, hk.2⟩⟩⟩⟩))).2.1 (Kd.V_F (Kd.V_mono (ok' := (fun k_ => ((P0_0_ k_ ∨ P1_0_ k_) ∨ w.heap.size ≤ k_) ∧ k_ ≠ gb327 ∧ k_ ≠ gb328 ∧ k_ ≠ gb329 ∧ k_ ≠ gb330)) (HO1_0.out) (fun k_ hk => ⟨hk.1.1.1.1, ⟨hk.1.1.1.2, ⟨hk.1.1.2, ⟨hk.1.2, hk.2⟩⟩⟩⟩))))) (Reps.none _ _)))); intro v332 w17 ho18 hb hg_ hnew_; clear hg_ hnew_; (first | rw [← Ny331.out] at ho18 | (simp only [Int.reduceToNat] at ho18; rw [← Ny331.out] at ho18)); replace HO0_0 := Aside0.mk (Kd.V_elder' (vq HO0_0) (Kd.N_base ho18) hb); replace HO1_0 := Aside0.mk (Kd.V_elder' (vq HO1_0) (Kd.N_base ho18) hb); have HO333 := Aside0.mk (Kd.N_lower ho18 (below_size (hq4 HB GE327 GE328 GE329 GE330))); replace BK327 := cB BK327 hb; replace BK328 := cB BK328 hb; replace BK329 := cB BK329 hb; replace BK330 := cB BK330 hb; replace HB := cs (hq4 HB GE327 GE328 GE329 GE330) hb; clear hb ho18; obtain ⟨Ao19, co19, eo19⟩ := Kd.N_slice HO333.out; subst eo19) | ((with_reducible refine gate_callee (f := 74) rfl ?_); refine gC (some 12) Try.func74 #[.slice Ao19 y331.length co19] ?_; (with_reducible refine (impl_areBigs.calls k _ _ y331 true _ ?side1 ?side2 A3.out).mono ?_); (case side1 => exact cq ((Kd.N_reads' HO333.out).2.2)); (case side2 => exact (Kd.N_reads' HO333.out).2.1); rintro e w20 ⟨rfl, hb⟩; refine ⟨_, rfl, ?_⟩; replace HO0_0 := Aside0.mk (Kd.V_below (vq HO0_0) hb); replace HO1_0 := Aside0.mk (Kd.V_below (vq HO1_0) hb); replace HO333 := Aside0.mk (Kd.N_below (by (with_reducible repeat (first | apply Kd.N_alloc | apply Kd.N_drewN | apply Kd.N_drew)); exact HO333.out) hb); replace BK327 := cB BK327 hb; replace BK328 := cB BK328 hb; replace BK329 := cB BK329 hb; replace BK330 := cB BK330 hb; replace HB := cs (hq4 HB GE327 GE328 GE329 GE330) hb; (try clear hb); (try clear hb2); (try clear hk); (try clear hi); have hcz21_0 : w20.cell? ⟨gb328, 0, none⟩ = some (.slice A1_0 l1_0.length c1_0) := (blk_cell BK328.out 0).trans rfl; have hfz21_0 := blk_frozen BK328.out 0; have hnb22 := NB329_330.out; have hnc22 := NB330_329.out; have hcz23_0 : w20.cell? ⟨gb329, 0, none⟩ = some (.slice none 0 0) := (blk_cell BK329.out 0).trans rfl; have hfz23_0 := blk_frozen BK329.out 0; have hcz24_0 : w20.cell? ⟨gb330, 0, none⟩ = some (.slice none 0 0) := (blk_cell BK330.out 0).trans rfl; have hfz24_0 := blk_frozen BK330.out 0))
   refine bodyPost_ret (results_list (rs := [.cell 4 25, .cell 5 25, .tmp 6]) rfl (by simp) (.cell gb329 25 #[.slice none 0 0] (0, 0) _ rfl (by (with_reducible repeat (first | refine blk_drewN ?_ _ | refine blk_drew ?_ | refine blk_alloc ?_ _)); refine blk_far ?_ NB329_330.out _; (with_reducible repeat (first | refine blk_drewN ?_ _ | refine blk_drew ?_ | refine blk_alloc ?_ _)); refine blk_put (cs := #[.slice none 0 0]) ?_ 0 _ rfl; (with_reducible repeat (first | refine blk_drewN ?_ _ | refine blk_drew ?_ | refine blk_alloc ?_ _)); exact BK329.out) Try.underlying25 rfl (by kernel_rfl) (.cell gb330 25 #[.slice none 0 0] (0, 0) _ rfl (by (with_reducible repeat (first | refine blk_drewN ?_ _ | refine blk_drew ?_ | refine blk_alloc ?_ _)); refine blk_put (cs := #[.slice none 0 0]) ?_ 0 _ rfl; (with_reducible repeat (first | refine blk_drewN ?_ _ | refine blk_drew ?_ | refine blk_alloc ?_ _)); refine blk_far ?_ NB330_329.out _; (with_reducible repeat (first | refine blk_drewN ?_ _ | refine blk_drew ?_ | refine blk_alloc ?_ _)); exact BK330.out) Try.underlying25 rfl (by kernel_rfl) (.tmp .nil)))) rfl ?_
   exact ⟨_, _, by first | rfl | (simp <;> rfl) | (simp [*] <;> rfl), by first | exact Kd.R_nil _ _ _ _ _ | exact Kd.R_nil _ _ _ 0 _ | exact Kd.N_nil _ _ _ _ _ | exact Kd.V_nil _ _ _ _ _ | exact Kd.Q_nil _ _ _ _ _ | exact Kd.S_nil _ _ _ _ _, by first | exact Kd.R_nil _ _ _ _ _ | exact Kd.R_nil _ _ _ 0 _ | exact Kd.N_nil _ _ _ _ _ | exact Kd.V_nil _ _ _ _ _ | exact Kd.Q_nil _ _ _ _ _ | exact Kd.S_nil _ _ _ _ _, hq4 HB GE327 GE328 GE329 GE330⟩
 rw [if_neg c5] at H
 have c5b0 : ((l1_0.length : Int) == 0) = false := beq_eq_false_iff_ne.mpr c5
 have c5b1 : ((l1_0.length : Int) != 0) = true := bne_iff_ne.mpr c5
 have c5b2 : ¬ (l1_0 = []) := fun h_ => c5 (by rw [h_]; rfl)
 replace H := Option.bind_eq_some_iff.mp H; obtain ⟨⟨t335, t336⟩, A250, H⟩ := H; (try dsimp only at H); have A25 := Aside0.mk A250; clear A250
 simp only [Option.some.injEq, Prod.mk.injEq] at H
 obtain ⟨rfl, rfl, rfl⟩ := H
 go_enter Try.func16, Try.ntmps16
 go_wp2_with (first | ((with_reducible refine gate_dst (N := 2) rfl ?_); (try (refine gate_guard (by rfl) ?_; dsimp only)); refine bX #[.slice A0_0 l0_0.length c0_0] 25 ?_; intro gb327 hg w26 hbox hb; replace HO0_0 := Aside0.mk (ve HO0_0 gb327 hg hb); replace HO1_0 := Aside0.mk (ve HO1_0 gb327 hg hb); have n2_ := cs (hq HB) hb; have BK327 := Aside0.mk (hbox); have GW327 := cg hg (hq HB); have GE327 := cg hg (hq HB); replace HB := n2_; clear n2_; clear hb hbox hg) | ((with_reducible refine gate_dst (N := 3) rfl ?_); (try (refine gate_guard (by rfl) ?_; dsimp only)); refine bX #[.slice A1_0 l1_0.length c1_0] 25 ?_; intro gb328 hg w27 hbox hb; replace HO0_0 := Aside0.mk (ve HO0_0 gb328 hg hb); replace HO1_0 := Aside0.mk (ve HO1_0 gb328 hg hb); have n2_ := cB BK327 hb; have n3_ := cs (hq1 HB GE327) hb; have BK328 := Aside0.mk (hbox); have GW328 := cg hg (hq1 HB GE327); have GE328 := cg hg (hq1 HB GE327); have NB327_328 := cl hg BK327; have NB328_327 := cr hg BK327; replace BK327 := n2_; replace HB := n3_; clear n2_ n3_; clear hb hbox hg) | ((with_reducible refine gate_dst (N := 4) rfl ?_); (try (refine gate_guard (by rfl) ?_; dsimp only)); refine bX #[.slice none 0 0] 25 ?_; intro gb329 hg w28 hbox hb; replace HO0_0 := Aside0.mk (ve HO0_0 gb329 hg hb); replace HO1_0 := Aside0.mk (ve HO1_0 gb329 hg hb); have n2_ := cB BK327 hb; have n3_ := cB BK328 hb; have n4_ := cs (hq2 HB GE327 GE328) hb; have BK329 := Aside0.mk (hbox); have GW329 := cg hg (hq2 HB GE327 GE328); have GE329 := cg hg (hq2 HB GE327 GE328); have NB327_329 := cl hg BK327; have NB329_327 := cr hg BK327; have NB328_329 := cl hg BK328; have NB329_328 := cr hg BK328; replace BK327 := n2_; replace BK328 := n3_; replace HB := n4_; clear n2_ n3_ n4_; clear hb hbox hg) | ((with_reducible refine gate_dst (N := 5) rfl ?_); (try (refine gate_guard (by rfl) ?_; dsimp only)); refine bX #[.slice none 0 0] 25 ?_; intro gb330 hg w29 hbox hb; replace HO0_0 := Aside0.mk (ve HO0_0 gb330 hg hb); replace HO1_0 := Aside0.mk (ve HO1_0 gb330 hg hb); have n2_ := cB BK327 hb; have n3_ := cB BK328 hb; have n4_ := cB BK329 hb; have n5_ := cs (hq3 HB GE327 GE328 GE329) hb; have BK330 := Aside0.mk (hbox); have GW330 := cg hg (hq3 HB GE327 GE328 GE329); have GE330 := cg hg (hq3 HB GE327 GE328 GE329); have NB327_330 := cl hg BK327; have NB330_327 := cr hg BK327; have NB328_330 := cl hg BK328; have NB330_328 := cr hg BK328; have NB329_330 := cl hg BK329; have NB330_329 := cr hg BK329; replace BK327 := n2_; replace BK328 := n3_; replace BK329 := n4_; replace HB := n5_; clear n2_ n3_ n4_ n5_; clear hb hbox hg; have hnb30 := NB327_328.out; have hnc30 := NB328_327.out; have hnb31 := NB327_329.out; have hnc31 := NB329_327.out; have hnb32 := NB327_330.out; have hnc32 := NB330_327.out; have hcz33_0 : w29.cell? ⟨gb327, 0, none⟩ = some (.slice A0_0 l0_0.length c0_0) := (blk_cell BK327.out 0).trans rfl; have hfz33_0 := blk_frozen BK327.out 0; have hnb34 := NB328_329.out; have hnc34 := NB329_328.out; have hnb35 := NB328_330.out; have hnc35 := NB330_328.out; have hcz36_0 : w29.cell? ⟨gb328, 0, none⟩ = some (.slice A1_0 l1_0.length c1_0) := (blk_cell BK328.out 0).trans rfl; have hfz36_0 := blk_frozen BK328.out 0) | ((with_reducible refine gate_dst (N := 11) rfl ?_); (try (refine gate_guard (by rfl) ?_; dsimp only)); refine Kd.N_lit k25 _ 25 ?hg (N' := 11) ?hd (xs := ([(⟨l0_0⟩ : S25), (⟨l1_0⟩ : S25)] : List (S25))) (inner := [.slice A0_0 l0_0.length c0_0, .slice A1_0 l1_0.length c1_0]) (ok := (fun k_ => ((P0_0_ k_ ∨ P1_0_ k_) ∨ w.heap.size ≤ k_) ∧ k_ ≠ gb327 ∧ k_ ≠ gb328 ∧ k_ ≠ gb329 ∧ k_ ≠ gb330)) (okp := (fun k_ => ((P0_0_ k_ ∨ P1_0_ k_) ∨ w.heap.size ≤ k_) ∧ k_ ≠ gb327 ∧ k_ ≠ gb328 ∧ k_ ≠ gb329 ∧ k_ ≠ gb330)) ?hr ?hp (fun _ hk => hk) ((show ∀ k_, w29.heap.size ≤ k_ → (fun k_ => ((P0_0_ k_ ∨ P1_0_ k_) ∨ w.heap.size ≤ k_) ∧ k_ ≠ gb327 ∧ k_ ≠ gb328 ∧ k_ ≠ gb329 ∧ k_ ≠ gb330) k_ from fun k_ hk => ⟨(.inr (Nat.le_trans (below_size (hq4 HB GE327 GE328 GE329 GE330)) hk)), Kd.freshB (g := gb327) (o := .cells #[.slice A0_0 l0_0.length c0_0] 25 (0, 0)) (bq BK327) k_ hk, Kd.freshB (g := gb328) (o := .cells #[.slice A1_0 l1_0.length c1_0] 25 (0, 0)) (bq BK328) k_ hk, Kd.freshB (g := gb329) (o := .cells #[.slice none 0 0] 25 (0, 0)) (bq BK329) k_ hk, Kd.freshB (g := gb330) (o := .cells #[.slice none 0 0] 25 (0, 0)) (bq BK330) k_ hk⟩) _ (Nat.le_refl _)) (Below.refl _ _) (Nat.le_refl _) (by simp) ?_; (case hd => rfl); (case hg => rfl); (case hr => first | (go_simp; done) | (go_simp; rfl)); (case hp => exact (Reps.one (show Kd.FK k25 _ _ (⟨l0_0⟩ : S25) [.slice A0_0 l0_0.length c0_0] from (k25_mkF _ _ (⟨l0_0⟩ : S25) (Kd.V_reads' (Kd.V_mono (ok' := (fun k_ => ((P0_0_ k_ ∨ P1_0_ k_) ∨ w.heap.size ≤ k_) ∧ k_ ≠ gb327 ∧ k_ ≠ gb328 ∧ k_ ≠ gb329 ∧ k_ ≠ gb330)) (HO0_0.out) (fun k_ hk => ⟨hk.1.1.1.1, ⟨hk.1.1.1.2, ⟨hk.1.1.2, ⟨hk.1.2, hk.2⟩⟩⟩⟩))).2.1 (Kd.V_F (Kd.V_mono (ok' := (fun k_ => ((P0_0_ k_ ∨ P1_0_ k_) ∨ w.heap.size ≤ k_) ∧ k_ ≠ gb327 ∧ k_ ≠ gb328 ∧ k_ ≠ gb329 ∧ k_ ≠ gb330)) (HO0_0.out) (fun k_ hk => ⟨hk.1.1.1.1, ⟨hk.1.1.1.2, ⟨hk.1.1.2, ⟨hk.1.2, hk.2⟩⟩⟩⟩))))) (Reps.one (show Kd.FK k25 _ _ (⟨l1_0⟩ : S25) [.slice A1_0 l1_0.length c1_0] from (k25_mkF _ _ (⟨l1_0⟩ : S25) (Kd.V_reads' (Kd.V_mono (ok' := (fun k_ => ((P0_0_ k_ ∨ P1_0_ k_) ∨ w.heap.size ≤ k_) ∧ k_ ≠ gb327 ∧ k_ ≠ gb328 ∧ k_ ≠ gb329 ∧ k_ ≠ gb330)) (HO1_0.out) (fun k_ hk => ⟨hk.1.1.1.1, ⟨hk.1.1.1.2, ⟨hk.1.1.2, ⟨hk.1.2, hk.2⟩⟩⟩⟩))).2.1 (Kd.V_F (Kd.V_mono (ok' := (fun k_ => ((P0_0_ k_ ∨ P1_0_ k_) ∨ w.heap.size ≤ k_) ∧ k_ ≠ gb327 ∧ k_ ≠ gb328 ∧ k_ ≠ gb329 ∧ k_ ≠ gb330)) (HO1_0.out) (fun k_ hk => ⟨hk.1.1.1.1, ⟨hk.1.1.1.2, ⟨hk.1.1.2, ⟨hk.1.2, hk.2⟩⟩⟩⟩))))) (Reps.none _ _)))); intro v332 w37 ho38 hb hg_ hnew_; clear hg_ hnew_; (first | rw [← Ny331.out] at ho38 | (simp only [Int.reduceToNat] at ho38; rw [← Ny331.out] at ho38)); replace HO0_0 := Aside0.mk (Kd.V_elder' (vq HO0_0) (Kd.N_base ho38) hb); replace HO1_0 := Aside0.mk (Kd.V_elder' (vq HO1_0) (Kd.N_base ho38) hb); have HO333 := Aside0.mk (Kd.N_lower ho38 (below_size (hq4 HB GE327 GE328 GE329 GE330))); replace BK327 := cB BK327 hb; replace BK328 := cB BK328 hb; replace BK329 := cB BK329 hb; replace BK330 := cB BK330 hb; replace HB := cs (hq4 HB GE327 GE328 GE329 GE330) hb; clear hb ho38; obtain ⟨Ao39, co39, eo39⟩ := Kd.N_slice HO333.out; subst eo39) | ((with_reducible refine gate_callee (f := 74) rfl ?_); refine gC (some 12) Try.func74 #[.slice Ao39 y331.length co39] ?_; (with_reducible refine (impl_areBigs.calls k _ _ y331 true _ ?side1 ?side2 A3.out).mono ?_); (case side1 => exact cq ((Kd.N_reads' HO333.out).2.2)); (case side2 => exact (Kd.N_reads' HO333.out).2.1); rintro e w40 ⟨rfl, hb⟩; refine ⟨_, rfl, ?_⟩; replace HO0_0 := Aside0.mk (Kd.V_below (vq HO0_0) hb); replace HO1_0 := Aside0.mk (Kd.V_below (vq HO1_0) hb); replace HO333 := Aside0.mk (Kd.N_below (by (with_reducible repeat (first | apply Kd.N_alloc | apply Kd.N_drewN | apply Kd.N_drew)); exact HO333.out) hb); replace BK327 := cB BK327 hb; replace BK328 := cB BK328 hb; replace BK329 := cB BK329 hb; replace BK330 := cB BK330 hb; replace HB := cs (hq4 HB GE327 GE328 GE329 GE330) hb; (try clear hb); (try clear hb2); (try clear hk); (try clear hi); have hcz41_0 : w40.cell? ⟨gb328, 0, none⟩ = some (.slice A1_0 l1_0.length c1_0) := (blk_cell BK328.out 0).trans rfl; have hfz41_0 := blk_frozen BK328.out 0; have hcz42_0 : w40.cell? ⟨gb327, 0, none⟩ = some (.slice A0_0 l0_0.length c0_0) := (blk_cell BK327.out 0).trans rfl; have hfz42_0 := blk_frozen BK327.out 0) | ((with_reducible refine gate_callee (f := 80) rfl ?_); refine gC (some 27) Try.func80 #[.slice A0_0 l0_0.length c0_0, .slice A1_0 l1_0.length c1_0] ?_; (with_reducible refine (impl_divide.calls k _ _ l0_0 _ _ l1_0 t335 t336 _ ?side1 ?side2 ?side3 ?side4 A25.out).mono ?_); (case side1 => exact cq ((Kd.V_reads' HO0_0.out).2.2)); (case side2 => exact (Kd.V_reads' HO0_0.out).2.1); (case side3 => exact cq ((Kd.V_reads' HO1_0.out).2.2)); (case side4 => exact (Kd.V_reads' HO1_0.out).2.1); rintro e w43 ⟨v337, v339, rfl, ho0, ho1, hb⟩; refine ⟨_, rfl, ?_⟩; replace HO0_0 := Aside0.mk (Kd.V_mono (Kd.V_told (Kd.V_told (Kd.V_old (vq HO0_0) hb) (Kd.R_base ho0)) (Kd.R_base ho1)) (fun _ h_ => h_.1)); replace HO1_0 := Aside0.mk (Kd.V_mono (Kd.V_told (Kd.V_told (Kd.V_old (vq HO1_0) hb) (Kd.R_base ho0)) (Kd.R_base ho1)) (fun _ h_ => h_.1)); replace HO333 := Aside0.mk (Kd.N_mono (Kd.N_told (Kd.N_told (Kd.N_old (by (with_reducible repeat (first | apply Kd.N_alloc | apply Kd.N_drewN | apply Kd.N_drew)); exact HO333.out) hb) (Kd.R_base ho0)) (Kd.R_base ho1)) (fun _ h_ => h_.1)); have HO338 := Aside0.mk (Kd.R_lower (Kd.R_newM (M := fun k_ => (w.heap.size ≤ k_)) ho0 (below_size (hq4 HB GE327 GE328 GE329 GE330)) (fun k_ h_ => h_)) (below_size (hq4 HB GE327 GE328 GE329 GE330))); have HO340 := Aside0.mk (Kd.R_lower (Kd.R_newM (M := fun k_ => (w.heap.size ≤ k_)) ho1 (below_size (hq4 HB GE327 GE328 GE329 GE330)) (fun k_ h_ => h_)) (below_size (hq4 HB GE327 GE328 GE329 GE330))); replace BK327 := cB BK327 hb; replace BK328 := cB BK328 hb; replace BK329 := cB BK329 hb; replace BK330 := cB BK330 hb; replace HB := cs (hq4 HB GE327 GE328 GE329 GE330) hb; (try clear hb); (try clear hb2); (try clear hk); (try clear hi); (try clear ho0); (try clear ho1); obtain ⟨Ao44, co44, eo44⟩ := Kd.R_slice HO338.out; subst eo44; obtain ⟨Ao45, co45, eo45⟩ := Kd.R_slice HO340.out; subst eo45; have hnb46 := NB329_330.out; have hnc46 := NB330_329.out; have hcz47_0 : w43.cell? ⟨gb329, 0, none⟩ = some (.slice none 0 0) := (blk_cell BK329.out 0).trans rfl; have hfz47_0 := blk_frozen BK329.out 0; have hcz48_0 : w43.cell? ⟨gb330, 0, none⟩ = some (.slice none 0 0) := (blk_cell BK330.out 0).trans rfl; have hfz48_0 := blk_frozen BK330.out 0))
 refine bodyPost_ret (results_list (rs := [.cell 4 25, .cell 5 25, .tmp 6]) rfl (by simp) (.cell gb329 25 #[.slice Ao44 t335.length co44] (0, 0) _ rfl (by (with_reducible repeat (first | refine blk_drewN ?_ _ | refine blk_drew ?_ | refine blk_alloc ?_ _)); refine blk_far ?_ NB329_330.out _; (with_reducible repeat (first | refine blk_drewN ?_ _ | refine blk_drew ?_ | refine blk_alloc ?_ _)); refine blk_put (cs := #[.slice none 0 0]) ?_ 0 _ rfl; (with_reducible repeat (first | refine blk_drewN ?_ _ | refine blk_drew ?_ | refine blk_alloc ?_ _)); exact BK329.out) Try.underlying25 rfl (by kernel_rfl) (.cell gb330 25 #[.slice Ao45 t336.length co45] (0, 0) _ rfl (by (with_reducible repeat (first | refine blk_drewN ?_ _ | refine blk_drew ?_ | refine blk_alloc ?_ _)); refine blk_put (cs := #[.slice none 0 0]) ?_ 0 _ rfl; (with_reducible repeat (first | refine blk_drewN ?_ _ | refine blk_drew ?_ | refine blk_alloc ?_ _)); refine blk_far ?_ NB330_329.out _; (with_reducible repeat (first | refine blk_drewN ?_ _ | refine blk_drew ?_ | refine blk_alloc ?_ _)); exact BK330.out) Try.underlying25 rfl (by kernel_rfl) (.tmp .nil)))) rfl ?_
 exact ⟨_, _, by first | rfl | (simp <;> rfl) | (simp [*] <;> rfl), by (with_reducible repeat (first | apply Kd.R_alloc | apply Kd.R_drewN | apply Kd.R_drew)); exact Kd.R_mono (Kd.R_far (p := ⟨gb330, 0, none⟩) (Kd.R_far (p := ⟨gb329, 0, none⟩) (Kd.R_types (Kd.R_types HO338.out BK329.out (by decide)) BK330.out (by decide)) (fun _ hk => hk.1.2) (.slice Ao44 t335.length co44)) (fun _ hk => hk.2) (.slice Ao45 t336.length co45)) (fun _ hk => ⟨hk.1.1.1, hk.1.1.2⟩), by (with_reducible repeat (first | apply Kd.R_alloc | apply Kd.R_drewN | apply Kd.R_drew)); exact Kd.R_mono (Kd.R_far (p := ⟨gb330, 0, none⟩) (Kd.R_far (p := ⟨gb329, 0, none⟩) (Kd.R_types (Kd.R_types HO340.out BK329.out (by decide)) BK330.out (by decide)) (fun _ hk => hk.1.2) (.slice Ao44 t335.length co44)) (fun _ hk => hk.2) (.slice Ao45 t336.length co45)) (fun _ hk => ⟨hk.1.1.1, hk.1.1.2⟩), hq4 HB GE327 GE328 GE329 GE330⟩
/-! ### spec_l1Of: function 97 -/
def spec_l1Of.l0 : Nat → Int → List Int → Option (List Int)
  | 0, _, _ => none
  | k + 1, x0, x3 => if x0 > 0 then (if x3.length < 17592186044416 then (spec_l1Of.l0 k (wrap64 (Int.tdiv x0 65536)) (x3 ++ [Int.tmod x0 65536])) else (none)) else (some x3)
def spec_l1Of.f (k : Nat) (a0 : Int) : Option (List Int) := spec_l1Of.l0 k a0 ([] : List Int)
set_option maxHeartbeats 8000000 in
set_option maxRecDepth 100000 in
theorem spec_l1Of.calls (k : Nat) (a0 : Int) (r : List Int) (w : World) (h : spec_l1Of.f k a0 = some r) :
    Calls Try.prog 97 #[.int .i64 a0] w fun e w' => ∃ v0_ : Value, e = .returned (v0_) ∧ Kd.R (Kd.int .i64) 3 w' w.heap.size (fun _ => True) v0_ r ∧ Below w.heap.size w w' := by
 have HB := Aside0.mk (Below.refl w.heap.size w)
 have H : (spec_l1Of.l0 k a0 ([] : List Int)) = some r := h
 clear h
 have H' := Aside0.mk H
 clear H
 go_enter Try.func97, Try.ntmps97
 go_wp2
 go_loopg [0, 3] k (fun kq v0 v3 w' => ∃ (x0_1 : Int) (x3_1 : List Int), v0 = .int .i64 x0_1 ∧ Aside0 (spec_l1Of.l0 kq x0_1 x3_1 = some r) ∧ Aside0 (kq ≤ k) ∧ Aside0 (Kd.R (Kd.int .i64) 3 w' w.heap.size (fun _ => True) v3 x3_1) ∧ Aside0 (Below w.heap.size w w'))
 case atStart => exact ⟨(a0), (([] : List Int)), (by first | rfl | (simp; done) | (simp [*]; done)), H', ⟨Nat.le_refl _⟩, ⟨by first | exact Kd.R_nil _ _ _ _ _ | exact Kd.R_nil _ _ _ 0 _ | exact Kd.N_nil _ _ _ _ _ | exact Kd.V_nil _ _ _ _ _ | exact Kd.Q_nil _ _ _ _ _ | exact Kd.S_nil _ _ _ _ _⟩, ⟨hq HB⟩⟩
 case round =>
   clear H'
   obtain ⟨x0_1, x3_1, rfl, HA, HK1, HO_3, HB⟩ := hrel
   cases gk with
   | zero => exact absurd HA.out (by simp [spec_l1Of.l0])
   | succ k1 =>
     have H := HA.out; clear HA
     simp only [spec_l1Of.l0] at H
     by_cases c2 : x0_1 > 0
     · rw [if_pos c2] at H
       have c2b0 : decide (0 < x0_1) = true := decide_eq_true c2
       clear c2
       by_cases c3 : x3_1.length < 17592186044416
       · rw [if_pos c3] at H
         have LMc3 := Aside0.mk c3; clear c3; obtain ⟨y341, hy341⟩ : ∃ y_ : List Int, y_ = (x3_1 ++ [Int.tmod x0_1 65536]) := ⟨_, rfl⟩
         replace H : (spec_l1Of.l0 k1 (wrap64 (Int.tdiv x0_1 65536)) y341) = some r := by first | (rw [hy341]; with_reducible exact H) | (have H2_ := (Option.bind_some _ _).symm.trans H; rw [hy341]; with_reducible exact H2_) | (have H2_ := (Option.bind_some _ _).symm.trans H; with_reducible exact H2_) | with_reducible exact H | (rw [hy341]; exact H) | exact H
         have Ny341 := Aside0.mk hy341; clear hy341
         have H' := Aside0.mk H
         clear H
         go_wp2_with (first | ((with_reducible refine gate_builtin (b := .append) (xs := #[.tmp 8, .tmp 11]) rfl ?_); at_builtin; refine Kd.R_append (Kd.int .i64) (w0 := w) w.heap.size rfl (.tmp 8) (.tmp 11) 23 3 (.int .i64 0) 8 rfl Try.underlying23 info3 rfl (by decide) (by omega) u3 x3_1 (Int.tmod x0_1 65536) [.int .i64 (Int.tmod x0_1 65536)] (fun _ => True) (fun _ => False) rfl rfl ?aP (fun _ hk => hk.elim) ?aF ?aO ?aB ?aS ?aL ?_; (case aP => exact rfl); (case aB => exact (hq HB)); (case aF => exact (fun _ _ => trivial)); (case aO => exact (rq HO_3)); (case aS => exact (below_size (hq HB))); (case aL => have := LMc3.out; omega); intro v342 w4 ho hb hg hat; rw [← Ny341.out] at ho; replace HB := Aside0.mk (hb); have HO343 := Aside0.mk (ho); clear HO_3; clear ho hb hg hat))
         go_roundg k1
         case measure => have := HK1.out; omega
         case rel => exact ⟨(wrap64 (Int.tdiv x0_1 65536)), (y341), (by first | rfl | (simp; done) | (simp [*]; done)), H', ⟨by have := HK1.out; omega⟩, ⟨by (with_reducible repeat (first | apply Kd.R_alloc | apply Kd.R_drewN | apply Kd.R_drew)); exact HO343.out⟩, ⟨hq HB⟩⟩
       · rw [if_neg c3] at H
         exact absurd H (by simp)
     · rw [if_neg c2] at H
       have c2b0 : decide (0 < x0_1) = false := decide_eq_false c2
       clear c2; obtain rfl := Option.some.inj H
       go_wp2
       go_ret
       exact ⟨_, by first | rfl | (simp <;> rfl) | (simp [*] <;> rfl), by (with_reducible repeat (first | apply Kd.R_alloc | apply Kd.R_drewN | apply Kd.R_drew)); exact HO_3.out, hq HB⟩

/-! ### spec_l1Twice: function 100 -/
def spec_l1Twice.f (k : Nat) (l0 : List Int) (a1 : Int) : Option (List Int) := (spec_l1Add.f k l0 l0).bind fun t344 => ((spec_l1Of.f k a1).bind fun t347 => ((spec_l1Add.f k t344 t347).bind fun t350 => (some t350)))
set_option maxHeartbeats 8000000 in
set_option maxRecDepth 100000 in
theorem spec_l1Twice.calls (k : Nat) (A0 : Option Addr) (c0 : Nat) (l0 : List Int) (a1 : Int) (r : List Int) (w : World) (hr0 : Kd.C (Kd.int .i64) w A0 l0.length l0) (hc0 : l0.length ≤ c0) (h : spec_l1Twice.f k l0 a1 = some r) :
    Calls Try.prog 100 #[.slice A0 l0.length c0, .int .i64 a1] w fun e w' => ∃ v0_ : Value, e = .returned (v0_) ∧ Kd.V (Kd.int .i64) 3 w' w.heap.size (fun k_ => (w.heap.size ≤ k_)) v0_ r ∧ Below w.heap.size w w' := by
 have HR0 := Aside0.mk hr0; have HC0 := Aside0.mk hc0; clear hr0 hc0; have HB := Aside0.mk (Below.refl w.heap.size w)
 have H : ((spec_l1Add.f k l0 l0).bind fun t344 => ((spec_l1Of.f k a1).bind fun t347 => ((spec_l1Add.f k t344 t347).bind fun t350 => (some t350)))) = some r := h
 clear h; replace H := Option.bind_eq_some_iff.mp H; obtain ⟨t344, A30, H⟩ := H; (try dsimp only at H); have A3 := Aside0.mk A30; clear A30; replace H := Option.bind_eq_some_iff.mp H; obtain ⟨t347, A40, H⟩ := H; (try dsimp only at H); have A4 := Aside0.mk A40; clear A40; replace H := Option.bind_eq_some_iff.mp H; obtain ⟨t350, A50, H⟩ := H; (try dsimp only at H); have A5 := Aside0.mk A50; clear A50; obtain rfl := Option.some.inj H
 go_enter Try.func100, Try.ntmps100
 go_wp2_with (first | ((with_reducible refine gate_callee (f := 79) rfl ?_); refine gC (some 7) Try.func79 #[.slice A0 l0.length c0, .slice A0 l0.length c0] ?_; (with_reducible refine (spec_l1Add.calls k _ _ l0 _ _ l0 t344 _ ?side1 ?side2 ?side3 ?side4 A3.out).mono ?_); (case side1 => exact cq HR0.out); (case side2 => exact HC0.out); (case side3 => exact cq HR0.out); (case side4 => exact HC0.out); rintro e w6 ⟨v345, rfl, ho0, hb⟩; refine ⟨_, rfl, ?_⟩; have HO346 := Aside0.mk (Kd.V_lower (Kd.V_mono (ok' := fun k_ => (w.heap.size ≤ k_)) ho0 (fun k_ hk_ => (Nat.le_trans (below_size (hq HB)) hk_))) (below_size (hq HB))); replace HB := cs (hq HB) hb; (try clear hb); (try clear hb2); (try clear hk); (try clear hi); (try clear ho0)) | ((with_reducible refine gate_callee (f := 97) rfl ?_); refine gC (some 9) Try.func97 #[.int .i64 a1] ?_; (with_reducible refine (spec_l1Of.calls k a1 t347 _ A4.out).mono ?_); rintro e w7 ⟨v348, rfl, ho0, hb⟩; refine ⟨_, rfl, ?_⟩; replace HO346 := Aside0.mk (vb HO346 ho0 hb); have HO349 := Aside0.mk (Kd.R_lower (Kd.R_newM (M := fun k_ => (w.heap.size ≤ k_)) ho0 (below_size (hq HB)) (fun k_ h_ => h_)) (below_size (hq HB))); replace HB := cs (hq HB) hb; (try clear hb); (try clear hb2); (try clear hk); (try clear hi); (try clear ho0); obtain ⟨Ao8, co8, eo8⟩ := Kd.V_slice HO346.out; subst eo8; obtain ⟨Ao9, co9, eo9⟩ := Kd.R_slice HO349.out; subst eo9) | ((with_reducible refine gate_callee (f := 79) rfl ?_); refine gC (some 10) Try.func79 #[.slice Ao8 t344.length co8, .slice Ao9 t347.length co9] ?_; (with_reducible refine (spec_l1Add.calls k _ _ t344 _ _ t347 t350 _ ?side1 ?side2 ?side3 ?side4 A5.out).mono ?_); (case side1 => exact cq ((Kd.V_reads' HO346.out).2.2)); (case side2 => exact (Kd.V_reads' HO346.out).2.1); (case side3 => exact cq ((Kd.R_reads' HO349.out).2.2)); (case side4 => exact (Kd.R_reads' HO349.out).2.1); rintro e w10 ⟨v351, rfl, ho0, hb⟩; refine ⟨_, rfl, ?_⟩; replace HO346 := Aside0.mk (Kd.V_below (vq HO346) hb); have n1_ := cb HO349 hb; have HO352 := Aside0.mk (Kd.V_lower (Kd.V_mono (ok' := fun k_ => (w.heap.size ≤ k_) ∧ some k_ ≠ (.slice Ao9 t347.length co9 : Value).ownBlock) ho0 (fun k_ hk_ => ⟨(Nat.le_trans (below_size (hq HB)) hk_), (Kd.fresh' (ql HO349) k_ hk_)⟩)) (below_size (hq HB))); replace HB := cs (hq HB) hb; replace HO349 := n1_; clear n1_; (try clear hb); (try clear hb2); (try clear hk); (try clear hi); (try clear ho0)))
 go_ret
 exact ⟨_, by first | rfl | (simp <;> rfl) | (simp [*] <;> rfl), by (with_reducible repeat (first | apply Kd.V_alloc | apply Kd.V_drewN | apply Kd.V_drew)); exact Kd.V_mono HO352.out (fun _ hk => hk.1), hq HB⟩

end Go.Proofs.Ytadooofomkdaoaa.QFnLimbs
