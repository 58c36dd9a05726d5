import Derived.Test.YtadooofomkdaoaaSqueez2
import Derived.Test.YtadooofomkdaoaaQFnLimbsx0
import Derived.Test.YtadooofomkdaoaaQFnLimbsx1
import Derived.Test.YtadooofomkdaoaaQFnLimbsx2
namespace Go.Proofs.Ytadooofomkdaoaa.QFnLimbs
open Go.RowKit Go.Proofs.YtadooofomkdaoaaW.PrintWords Go.Proofs.YtadooofomkdaoaaW.PrintLast Go.Proofs.YtadooofomkdaoaaW.PrintMore
attribute [local go_sem] max2_int min2_int max_two min_two max_three min_three max_four min_four   -- for this text's walks alone
set_option linter.unusedVariables false
set_option linter.unusedSimpArgs false

/-! ### impl_areBigs: function 74 -/
def impl_areBigs.l0 : Nat → List (S25) → Int → Int → Option (Bool)
  | 0, _, _, _ => none
  | k + 1, x5, x6, x7 => if x7 < x6 then (if 0 ≤ x7 then (if x7 < (x5.length : Int) then ((impl_GoodBig.f k ((rd_T25 x5 x7).f0)).bind fun t203 => (if t203 = true then (impl_areBigs.l0 k x5 x6 (wrap64 (x7 + 1))) else (some false))) else (none)) else (none)) else (some true)
def impl_areBigs.f (k : Nat) (l0 : List (S25)) : Option (Bool) := impl_areBigs.l0 k l0 (l0.length : Int) 0
set_option maxHeartbeats 8000000 in
set_option maxRecDepth 100000 in
theorem impl_areBigs.calls (k : Nat) (A0 : Option Addr) (c0 : Nat) (l0 : List (S25)) (r : Bool) (w : World) (hr0 : Kd.C k25 w A0 l0.length l0) (hc0 : l0.length ≤ c0) (h : impl_areBigs.f k l0 = some r) :
    Calls Try.prog 74 #[.slice A0 l0.length c0] w fun e w' => e = .returned (.bool r) ∧ Below w.heap.size w w' := by
 have hu25 := Try.underlying25; have HR0 := Aside0.mk hr0; have HC0 := Aside0.mk hc0; clear hr0 hc0; have HB := Aside0.mk (Below.refl w.heap.size w)
 have H : (impl_areBigs.l0 k l0 (l0.length : Int) 0) = some r := h
 clear h
 have H' := Aside0.mk H
 clear H
 go_enter Try.func74, Try.ntmps74
 go_wp2
 go_loopg [7] k (fun kq v7 w' => ∃ (x7_1 : Int), v7 = .int .i64 x7_1 ∧ Aside0 (impl_areBigs.l0 kq l0 (l0.length : Int) x7_1 = some r) ∧ Aside0 (kq ≤ k) ∧ Aside0 (Below w.heap.size w w'))
 case atStart => exact ⟨(0), (by first | rfl | (simp; done) | (simp [*]; done)), H', ⟨Nat.le_refl _⟩, ⟨hq HB⟩⟩
 case round =>
   clear H'
   obtain ⟨x7_1, rfl, HA, HK1, HB⟩ := hrel
   cases gk with
   | zero => exact absurd HA.out (by simp [impl_areBigs.l0])
   | succ k1 =>
     have H := HA.out; clear HA
     simp only [impl_areBigs.l0] at H
     by_cases c2 : x7_1 < (l0.length : Int)
     · rw [if_pos c2] at H
       have c2b0 : decide (x7_1 < (l0.length : Int)) = true := decide_eq_true c2
       clear c2
       by_cases c3 : 0 ≤ x7_1
       · rw [if_pos c3] at H
         have c3b0 : decide (0 ≤ x7_1) = true := decide_eq_true c3
         clear c3
         by_cases c4 : x7_1 < (l0.length : Int)
         · rw [if_pos c4] at H
           have c4b0 : decide (x7_1 < (l0.length : Int)) = true := decide_eq_true c4
           clear c4; replace H := Option.bind_eq_some_iff.mp H; obtain ⟨t203, A50, H⟩ := H; (try dsimp only at H); have A5 := Aside0.mk A50; clear A50
           by_cases c6 : t203 = true
           · subst c6
             have H1 : (impl_areBigs.l0 k1 l0 (l0.length : Int) (wrap64 (x7_1 + 1))) = some r := by rw [if_pos rfl] at H; exact H
             clear H; have H := H1; clear H1
             have H' := Aside0.mk H
             clear H
             have p201 : 0 ≤ (x7_1 : Int) := of_decide_eq_true (by first | (with_reducible assumption) | assumption)
             have q201 : x7_1 < (l0.length : Int) := of_decide_eq_true (by first | (with_reducible assumption) | assumption)
             obtain ⟨ad201, A201_0, c201_0, e201, hx201_0, hl201_0, hi201_0⟩ := at_T25 HR0.out x7_1 p201 q201
             cases e201
             replace hx201_0 := (HB.out.cell (World.block_lt_of_cell? w _ hx201_0)).trans hx201_0; have HR201_0 := Aside0.mk hi201_0; have HC201_0 := Aside0.mk hl201_0; clear hi201_0 hl201_0; replace p201 := eq_true p201; replace q201 := eq_true q201
             go_wp2_with (first | ((with_reducible refine gate_dst (N := 4) rfl ?_); refine bX #[.slice none 0 0] 25 ?_; intro gb202 hg w7 hbox hb; have n0_ := cs (hq HB) hb; have BK202 := Aside0.mk (hbox); have GW202 := cg hg (hq HB); have GE202 := cg hg (hq HB); replace HB := n0_; clear n0_; clear hb hbox hg; have hcz8_0 : w7.cell? ⟨gb202, 0, none⟩ = some (.slice none 0 0) := (blk_cell BK202.out 0).trans rfl; have hfz8_0 := blk_frozen BK202.out 0) | ((with_reducible refine gate_callee (f := 19) rfl ?_); refine gC (some 12) Try.func19 #[.agg #[.slice A201_0 ((rd_T25 l0 x7_1).f0).length c201_0]] ?_; (with_reducible refine (impl_GoodBig.calls k1 _ _ ((rd_T25 l0 x7_1).f0) true _ ?side1 ?side2 A5.out).mono ?_); (case side1 => exact Kd.C_below HR201_0.out (hq1 HB GE202)); (case side2 => exact HC201_0.out); rintro e w9 ⟨rfl, hb⟩; refine ⟨_, rfl, ?_⟩; replace BK202 := Aside0.mk (blk_below (g := gb202) (o := .cells #[.slice A201_0 ((rd_T25 l0 x7_1).f0).length c201_0] 25 (0, 0)) (by (with_reducible repeat (first | refine blk_drewN ?_ _ | refine blk_drew ?_ | refine blk_alloc ?_ _)); refine blk_put (cs := #[.slice none 0 0]) ?_ 0 _ rfl; (with_reducible repeat (first | refine blk_drewN ?_ _ | refine blk_drew ?_ | refine blk_alloc ?_ _)); exact BK202.out) hb); replace HB := cs (hq1 HB GE202) hb; (try clear hb); (try clear hb2); (try clear hk); (try clear hi)))
             go_roundg k1
             case measure => have := HK1.out; omega
             case rel => exact ⟨(wrap64 (x7_1 + 1)), (by first | rfl | (simp; done) | (simp [*]; done)), H', ⟨by have := HK1.out; omega⟩, ⟨hq1 HB GE202⟩⟩
           · replace c6 := Bool.eq_false_iff.mpr c6
             subst c6
             have H1 : (some false) = some r := by rw [if_neg (show ¬ (false = true) by decide)] at H; exact H
             clear H; have H := H1; clear H1; obtain rfl := Option.some.inj H
             have p201 : 0 ≤ (x7_1 : Int) := of_decide_eq_true (by first | (with_reducible assumption) | assumption)
             have q201 : x7_1 < (l0.length : Int) := of_decide_eq_true (by first | (with_reducible assumption) | assumption)
             obtain ⟨ad201, A201_0, c201_0, e201, hx201_0, hl201_0, hi201_0⟩ := at_T25 HR0.out x7_1 p201 q201
             cases e201
             replace hx201_0 := (HB.out.cell (World.block_lt_of_cell? w _ hx201_0)).trans hx201_0; have HR201_0 := Aside0.mk hi201_0; have HC201_0 := Aside0.mk hl201_0; clear hi201_0 hl201_0; replace p201 := eq_true p201; replace q201 := eq_true q201
             go_wp2_with (first | ((with_reducible refine gate_dst (N := 4) rfl ?_); refine bX #[.slice none 0 0] 25 ?_; intro gb202 hg w10 hbox hb; have n0_ := cs (hq HB) hb; have BK202 := Aside0.mk (hbox); have GW202 := cg hg (hq HB); have GE202 := cg hg (hq HB); replace HB := n0_; clear n0_; clear hb hbox hg; have hcz11_0 : w10.cell? ⟨gb202, 0, none⟩ = some (.slice none 0 0) := (blk_cell BK202.out 0).trans rfl; have hfz11_0 := blk_frozen BK202.out 0) | ((with_reducible refine gate_callee (f := 19) rfl ?_); refine gC (some 12) Try.func19 #[.agg #[.slice A201_0 ((rd_T25 l0 x7_1).f0).length c201_0]] ?_; (with_reducible refine (impl_GoodBig.calls k1 _ _ ((rd_T25 l0 x7_1).f0) false _ ?side1 ?side2 A5.out).mono ?_); (case side1 => exact Kd.C_below HR201_0.out (hq1 HB GE202)); (case side2 => exact HC201_0.out); rintro e w12 ⟨rfl, hb⟩; refine ⟨_, rfl, ?_⟩; replace BK202 := Aside0.mk (blk_below (g := gb202) (o := .cells #[.slice A201_0 ((rd_T25 l0 x7_1).f0).length c201_0] 25 (0, 0)) (by (with_reducible repeat (first | refine blk_drewN ?_ _ | refine blk_drew ?_ | refine blk_alloc ?_ _)); refine blk_put (cs := #[.slice none 0 0]) ?_ 0 _ rfl; (with_reducible repeat (first | refine blk_drewN ?_ _ | refine blk_drew ?_ | refine blk_alloc ?_ _)); exact BK202.out) hb); replace HB := cs (hq1 HB GE202) hb; (try clear hb); (try clear hb2); (try clear hk); (try clear hi)))
             go_ret
             exact ⟨by first | rfl | (simp <;> rfl) | (simp [*] <;> rfl), hq1 HB GE202⟩
         · rw [if_neg c4] at H
           exact absurd H (by simp)
       · rw [if_neg c3] at H
         exact absurd H (by simp)
     · rw [if_neg c2] at H
       have c2b0 : decide (x7_1 < (l0.length : Int)) = false := decide_eq_false c2
       clear c2; obtain rfl := Option.some.inj H
       go_wp2
       go_ret
       exact ⟨by first | rfl | (simp <;> rfl) | (simp [*] <;> rfl), hq HB⟩

/-! ### impl_trimmed: function 130 -/
def impl_trimmed.l0 : Nat → List Int → Int → Option (List Int)
  | 0, _, _ => none
  | k + 1, x0, x3 => if x3 > 0 then (if 0 ≤ (wrap64 (x3 - 1)) then (if (wrap64 (x3 - 1)) < (x0.length : Int) then (if (rd x0 (wrap64 (x3 - 1))) = 0 then (impl_trimmed.l0 k x0 (wrap64 (x3 - 1))) else (if 0 ≤ x3 then (if x3 ≤ (x0.length : Int) then (some (x0.take (x3 : Int).toNat)) else (none)) else (none))) else (none)) else (none)) else (if 0 ≤ x3 then (if x3 ≤ (x0.length : Int) then (some (x0.take (x3 : Int).toNat)) else (none)) else (none))
def impl_trimmed.f (k : Nat) (l0 : List Int) : Option (List Int) := impl_trimmed.l0 k l0 (l0.length : Int)
set_option maxHeartbeats 8000000 in
set_option maxRecDepth 100000 in
theorem impl_trimmed.calls (k : Nat) (P0_ : Nat → Prop) (u9000_ : Value) (l0 : List Int) (r : List Int) (w0 w : World) (hB : Below w0.heap.size w0 w) (ho0 : Kd.R (Kd.int .i64) 3 w w0.heap.size P0_ u9000_ l0) (h : impl_trimmed.f k l0 = some r) :
    Calls Try.prog 130 #[u9000_] w fun e w' => ∃ v0_ : Value, e = .returned (v0_) ∧ Kd.R (Kd.int .i64) 3 w' w0.heap.size (fun k_ => (P0_ k_ ∨ w.heap.size ≤ k_)) v0_ r ∧ Below w0.heap.size w0 w' ∧ Kept w w' (fun k_ => P0_ k_) := by
 have HO0 := Aside0.mk (show Kd.R (Kd.int .i64) 3 w w0.heap.size (fun k_ => (P0_ k_ ∨ w.heap.size ≤ k_)) u9000_ l0 from Kd.R_mono ho0 (fun k_ hk => (.inl hk)))
 have HK := Aside0.mk (Kept.refl w (fun k_ => P0_ k_))
 have HW0 := Aside0.mk hB.size; have HB := Aside0.mk hB; clear hB
 have H : (impl_trimmed.l0 k l0 (l0.length : Int)) = some r := h
 clear h
 have H' := Aside0.mk H
 clear H; obtain ⟨Ao2, co2, eo2⟩ := Kd.R_slice HO0.out; subst eo2
 go_enter Try.func130, Try.ntmps130
 go_wp2
 go_loopg [3] k (fun kq v3 w' => ∃ (x3_1 : Int), v3 = .int .i64 x3_1 ∧ Aside0 (impl_trimmed.l0 kq l0 x3_1 = some r) ∧ Aside0 (kq ≤ k) ∧ Aside0 (Kd.R (Kd.int .i64) 3 w' w0.heap.size (fun k_ => (P0_ k_ ∨ w.heap.size ≤ k_)) (.slice Ao2 l0.length co2) l0) ∧ Aside0 (Kept w w' (fun k_ => P0_ k_)) ∧ Aside0 (Below w0.heap.size w0 w'))
 case atStart => exact ⟨((l0.length : Int)), (by first | rfl | (simp; done) | (simp [*]; done)), H', ⟨Nat.le_refl _⟩, ⟨by (with_reducible repeat (first | apply Kd.R_alloc | apply Kd.R_drewN | apply Kd.R_drew)); exact HO0.out⟩, ⟨by repeat (first | (with_reducible first | exact HK.out | apply Kept.alloc | apply Kept.drewN | apply Kept.drew) | exact HK.out)⟩, ⟨hq HB⟩⟩
 case round =>
   clear H'
   (try clear c1); (try clear p2); obtain ⟨x3_1, rfl, HA, HK1, HO_0, HK, HB⟩ := hrel
   cases gk with
   | zero => exact absurd HA.out (by simp [impl_trimmed.l0])
   | succ k1 =>
     have H := HA.out; clear HA
     simp only [impl_trimmed.l0] at H
     by_cases c3 : x3_1 > 0
     · rw [if_pos c3] at H
       have c3b0 : decide (0 < x3_1) = true := decide_eq_true c3
       clear c3; obtain ⟨ji4, hji4⟩ : ∃ j_ : Int, (wrap64 (x3_1 - 1)) = j_ := ⟨_, rfl⟩
       replace H : (if 0 ≤ (ji4) then (if (ji4) < (l0.length : Int) then (if (rd l0 (ji4)) = 0 then (impl_trimmed.l0 k1 l0 ji4) else (if 0 ≤ x3_1 then (if x3_1 ≤ (l0.length : Int) then (some (l0.take (x3_1 : Int).toNat)) else (none)) else (none))) else (none)) else (none)) = some r := by first | (rw [hji4] at H; exact H) | (simp only [hji4] at H ⊢; exact H)
       have hji4w : (IntKind.i64.wrap (x3_1 - 1)) = ji4 := (i64_w _).trans hji4
       by_cases c5 : 0 ≤ (ji4)
       · rw [if_pos c5] at H
         have c5b0 : decide (0 ≤ (ji4)) = true := decide_eq_true c5
         clear c5
         by_cases c6 : (ji4) < (l0.length : Int)
         · rw [if_pos c6] at H
           have c6b0 : decide ((ji4) < (l0.length : Int)) = true := decide_eq_true c6
           clear c6
           by_cases c7 : (rd l0 (ji4)) = 0
           · rw [if_pos c7] at H
             have c7b0 : ((rd l0 (ji4)) == 0) = true := beq_iff_eq.mpr c7
             have c7b1 : ((rd l0 (ji4)) != 0) = false := bne_eq_false_iff_eq.mpr c7
             clear c7
             have H' := Aside0.mk H
             clear H
             have p204 : 0 ≤ ((ji4) : Int) := of_decide_eq_true (by first | (with_reducible assumption) | assumption)
             have q204 : (ji4) < (l0.length : Int) := of_decide_eq_true (by first | (with_reducible assumption) | assumption)
             obtain ⟨ad204, e204, hx204_0⟩ := Kd.at_int (Kd.R_reads' HO_0.out).2.2 (ji4) p204 q204
             cases e204
             replace p204 := eq_true p204; replace q204 := eq_true q204
             go_wp2
             go_roundg k1
             case measure => have := HK1.out; omega
             case rel => exact ⟨(ji4), (by first | rfl | (simp; done) | (simp only [← hji4] <;> (first | rfl | simp)) | (simp [*]; done)), H', ⟨by have := HK1.out; omega⟩, ⟨by (with_reducible repeat (first | apply Kd.R_alloc | apply Kd.R_drewN | apply Kd.R_drew)); exact HO_0.out⟩, ⟨by repeat (first | (with_reducible first | exact HK.out | apply Kept.alloc | apply Kept.drewN | apply Kept.drew) | exact HK.out)⟩, ⟨hq HB⟩⟩
           · rw [if_neg c7] at H
             have c7b0 : ((rd l0 (ji4)) == 0) = false := beq_eq_false_iff_ne.mpr c7
             have c7b1 : ((rd l0 (ji4)) != 0) = true := bne_iff_ne.mpr c7
             by_cases c8 : 0 ≤ x3_1
             · rw [if_pos c8] at H
               have c8b0 := eq_true c8
               have c8b1 : decide (0 ≤ x3_1) = true := decide_eq_true c8
               clear c8
               by_cases c9 : x3_1 ≤ (l0.length : Int)
               · rw [if_pos c9] at H
                 have c9b0 := eq_true c9
                 have c9b1 : decide (x3_1 ≤ (l0.length : Int)) = true := decide_eq_true c9
                 clear c9; obtain ⟨y205, hy205⟩ : ∃ y_ : List Int, y_ = (l0.take (x3_1 : Int).toNat) := ⟨_, rfl⟩
                 replace H : (some y205) = some r := by first | (rw [hy205]; with_reducible exact H) | (have H2_ := (Option.bind_some _ _).symm.trans H; rw [hy205]; with_reducible exact H2_) | (have H2_ := (Option.bind_some _ _).symm.trans H; with_reducible exact H2_) | with_reducible exact H | (rw [hy205]; exact H) | exact H
                 have Ny205 := Aside0.mk hy205; clear hy205; obtain rfl := Option.some.inj H
                 have p204 : 0 ≤ ((ji4) : Int) := of_decide_eq_true (by first | (with_reducible assumption) | assumption)
                 have q204 : (ji4) < (l0.length : Int) := of_decide_eq_true (by first | (with_reducible assumption) | assumption)
                 obtain ⟨ad204, e204, hx204_0⟩ := Kd.at_int (Kd.R_reads' HO_0.out).2.2 (ji4) p204 q204
                 cases e204
                 replace p204 := eq_true p204; replace q204 := eq_true q204
                 have q10 : (x3_1 : Int) ≤ ((l0.length : Int) : Int) := of_decide_eq_true (by first | (with_reducible assumption) | assumption)
                 obtain ⟨i010, hi010, _, hsz10, _⟩ := info_parts info3; have hcut10 := cut_to (P := Try.prog) 23 3 .i64 Try.underlying23 hi010 (some ad204) l0.length co2 x3_1 (of_decide_eq_true (by first | (with_reducible assumption) | assumption)) q10 (Kd.R_reads' HO_0.out).2.1; have hr10 := Kd.R_take (m := (x3_1 : Int).toNat) HO_0.out (by omega)
                 have hy10 : y205.length = (x3_1 : Int).toNat := (by rw [Ny205.out, List.length_take]; omega)
                 rw [← Ny205.out] at hr10
                 rw [← hy10] at hr10 hcut10
                 clear hy10 hi010 hsz10 HO_0; have HO207 := Aside0.mk hr10; clear hr10; replace q10 := eq_true q10
                 go_wp2
                 go_ret
                 exact ⟨_, by first | rfl | (simp [errW_none, errW_some] <;> rfl) | (simp only [← hji4]; first | rfl | (simp [errW_none, errW_some] <;> rfl)) | (simp [*, errW_none, errW_some] <;> rfl), by (with_reducible repeat (first | apply Kd.R_alloc | apply Kd.R_drewN | apply Kd.R_drew)); exact HO207.out, hq HB, by repeat (first | (with_reducible first | exact HK.out | apply Kept.alloc | apply Kept.drewN | apply Kept.drew) | exact HK.out)⟩
               · rw [if_neg c9] at H
                 exact absurd H (by simp)
             · rw [if_neg c8] at H
               exact absurd H (by simp)
         · rw [if_neg c6] at H
           exact absurd H (by simp)
       · rw [if_neg c5] at H
         exact absurd H (by simp)
     · rw [if_neg c3] at H
       have c3b0 : decide (0 < x3_1) = false := decide_eq_false c3
       clear c3
       by_cases c11 : 0 ≤ x3_1
       · rw [if_pos c11] at H
         have c11b0 := eq_true c11
         have c11b1 : decide (0 ≤ x3_1) = true := decide_eq_true c11
         clear c11
         by_cases c12 : x3_1 ≤ (l0.length : Int)
         · rw [if_pos c12] at H
           have c12b0 := eq_true c12
           have c12b1 : decide (x3_1 ≤ (l0.length : Int)) = true := decide_eq_true c12
           clear c12; obtain ⟨y208, hy208⟩ : ∃ y_ : List Int, y_ = (l0.take (x3_1 : Int).toNat) := ⟨_, rfl⟩
           replace H : (some y208) = some r := by first | (rw [hy208]; with_reducible exact H) | (have H2_ := (Option.bind_some _ _).symm.trans H; rw [hy208]; with_reducible exact H2_) | (have H2_ := (Option.bind_some _ _).symm.trans H; with_reducible exact H2_) | with_reducible exact H | (rw [hy208]; exact H) | exact H
           have Ny208 := Aside0.mk hy208; clear hy208; obtain rfl := Option.some.inj H
           have q13 : (x3_1 : Int) ≤ ((l0.length : Int) : Int) := of_decide_eq_true (by first | (with_reducible assumption) | assumption)
           obtain ⟨i013, hi013, _, hsz13, _⟩ := info_parts info3; have hcut13 := cut_to (P := Try.prog) 23 3 .i64 Try.underlying23 hi013 Ao2 l0.length co2 x3_1 (of_decide_eq_true (by first | (with_reducible assumption) | assumption)) q13 (Kd.R_reads' HO_0.out).2.1; have hr13 := Kd.R_take (m := (x3_1 : Int).toNat) HO_0.out (by omega)
           have hy13 : y208.length = (x3_1 : Int).toNat := (by rw [Ny208.out, List.length_take]; omega)
           rw [← Ny208.out] at hr13
           rw [← hy13] at hr13 hcut13
           clear hy13 hi013 hsz13 HO_0; have HO210 := Aside0.mk hr13; clear hr13; replace q13 := eq_true q13
           go_wp2
           go_ret
           exact ⟨_, by first | rfl | (simp <;> rfl) | (simp [*] <;> rfl), by (with_reducible repeat (first | apply Kd.R_alloc | apply Kd.R_drewN | apply Kd.R_drew)); exact HO210.out, hq HB, by repeat (first | (with_reducible first | exact HK.out | apply Kept.alloc | apply Kept.drewN | apply Kept.drew) | exact HK.out)⟩
         · rw [if_neg c12] at H
           exact absurd H (by simp)
       · rw [if_neg c11] at H
         exact absurd H (by simp)

/-! ### impl_told: function 75 -/
def impl_told.f (k : Nat) (l0 : List Int) : Option (List Int × Bool) := (impl_trimmed.f k l0).bind fun t212 => (if (t212.length : Int) > 6 then (some (([] : List Int), false)) else (some (t212, true)))
set_option maxHeartbeats 8000000 in
set_option maxRecDepth 100000 in
theorem impl_told.calls (k : Nat) (P0_ : Nat → Prop) (u9000_ : Value) (l0 : List Int) (r1 : List Int) (r2 : Bool) (w0 w : World) (hB : Below w0.heap.size w0 w) (ho0 : Kd.R (Kd.int .i64) 3 w w0.heap.size P0_ u9000_ l0) (h : impl_told.f k l0 = some (r1, r2)) :
    Calls Try.prog 75 #[u9000_] w fun e w' => ∃ v0_ : Value, e = .returned (.tuple #[.agg #[v0_], .bool r2]) ∧ Kd.R (Kd.int .i64) 3 w' w0.heap.size (fun k_ => (P0_ k_ ∨ w.heap.size ≤ k_)) v0_ r1 ∧ Below w0.heap.size w0 w' ∧ Kept w w' (fun k_ => P0_ k_) := by
 have hu25 := Try.underlying25
 have HO0 := Aside0.mk (show Kd.R (Kd.int .i64) 3 w w0.heap.size (fun k_ => (P0_ k_ ∨ w.heap.size ≤ k_)) u9000_ l0 from Kd.R_mono ho0 (fun k_ hk => (.inl hk)))
 have HK := Aside0.mk (Kept.refl w (fun k_ => P0_ k_))
 have HW0 := Aside0.mk hB.size; have HB := Aside0.mk hB; clear hB
 have H : ((impl_trimmed.f k l0).bind fun t212 => (if (t212.length : Int) > 6 then (some (([] : List Int), false)) else (some (t212, true)))) = some (r1, r2) := h
 clear h; replace H := Option.bind_eq_some_iff.mp H; obtain ⟨t212, A20, H⟩ := H; (try dsimp only at H); have A2 := Aside0.mk A20; clear A20
 by_cases c3 : (t212.length : Int) > 6
 · rw [if_pos c3] at H
   have c3b0 : decide (6 < (t212.length : Int)) = true := decide_eq_true c3
   have c3b1 : decide (6 < t212.length) = true := decide_eq_true (by omega)
   clear c3
   simp only [Option.some.injEq, Prod.mk.injEq] at H
   obtain ⟨rfl, rfl⟩ := H
   go_enter Try.func75, Try.ntmps75
   go_wp2_with (first | ((with_reducible refine gate_dst (N := 2) rfl ?_); refine bX #[.slice none 0 0] 25 ?_; intro gb211 hg w4 hbox hb; replace HO0 := cb HO0 hb; have n1_ := Aside0.mk (Kept.below (S := (fun k_ => P0_ k_)) (by repeat (first | (with_reducible first | exact HK.out | apply Kept.alloc | apply Kept.drewN | apply Kept.drew) | exact HK.out)) hb); have n2_ := cs (hq HB) hb; have BK211 := Aside0.mk (hbox); have GW211 := Aside0.mk ((by rw [hg]; exact (by first | exact HK.out.1 | exact (show Kept w _ (fun k_ => P0_ k_) from by repeat (first | (with_reducible first | exact HK.out | apply Kept.alloc | apply Kept.drewN | apply Kept.drew) | exact HK.out)).1) : w.heap.size ≤ gb211)); have GE211 := Aside0.mk ((by rw [hg]; exact (below_size (hq HB)) : w0.heap.size ≤ gb211)); replace HK := n1_; replace HB := n2_; clear n1_ n2_; clear hb hbox hg; obtain ⟨Ao5, co5, eo5⟩ := Kd.R_slice HO0.out; subst eo5) | ((with_reducible refine gate_callee (f := 130) rfl ?_); refine gC (some 5) Try.func130 #[.slice Ao5 l0.length co5] ?_; (with_reducible refine (impl_trimmed.calls k (fun k_ => some k_ = (.slice Ao5 l0.length co5 : Value).ownBlock) (.slice Ao5 l0.length co5) l0 t212 w0 _ ?side1 ?side2 A2.out).mono ?_); (case side1 => repeat (first | (with_reducible first | exact HB.out | apply below_alloc | apply pw_below_drewN | apply below_drew1 | refine below_set ?_ GE211.out) | exact HB.out)); (case side2 => exact Kd.R_tight rfl HO0.out); rintro e w6 ⟨v213, rfl, ho0, hb, hkp⟩; refine ⟨_, rfl, ?_⟩; replace BK211 := Aside0.mk (blk_kept (bq BK211) hkp (fun hs_ => (fun e_ => (Kd.R_ne HO0.out BK211.out (by decide)) e_) hs_)); have HO214 := Aside0.mk (Kd.R_mono (ok' := fun k_ => (P0_ k_ ∨ w.heap.size ≤ k_)) ho0 (fun k_ hk_ => Or.elim hk_ (fun hs_ => (HO0.out.1 k_ (hs_).symm)) (fun hn_ => (.inr (Nat.le_trans (by first | exact HK.out.1 | exact (show Kept w _ (fun k_ => P0_ k_) from by repeat (first | (with_reducible first | exact HK.out | apply Kept.alloc | apply Kept.drewN | apply Kept.drew | refine Kept.setCell ?_ (.inr GW211.out) _) | exact HK.out)).1) hn_))))); replace HK := Aside0.mk (Kept.then_ (S := (fun k_ => P0_ k_)) (by repeat (first | (with_reducible first | exact HK.out | apply Kept.alloc | apply Kept.drewN | apply Kept.drew | refine Kept.setCell ?_ (.inr GW211.out) _) | exact HK.out)) hkp (fun k_ hs_ => (fun e_ => (HO0.out.1 k_ e_.symm)) hs_)); replace HB := Aside0.mk (hb); clear HO0; (try clear hb); (try clear hkp); (try clear ho0); obtain ⟨Ao7, co7, eo7⟩ := Kd.R_slice HO214.out; subst eo7; have hcz8_0 : w6.cell? ⟨gb211, 0, none⟩ = some (.slice none 0 0) := (blk_cell BK211.out 0).trans rfl; have hfz8_0 := blk_frozen BK211.out 0))
   refine bodyPost_ret (results_ct rfl _ _ gb211 25 #[.slice none 0 0] (0, 0) _ rfl (by (with_reducible repeat (first | refine blk_drewN ?_ _ | refine blk_drew ?_ | refine blk_alloc ?_ _)); refine blk_put (cs := #[.slice none 0 0]) ?_ 0 _ rfl; (with_reducible repeat (first | refine blk_drewN ?_ _ | refine blk_drew ?_ | refine blk_alloc ?_ _)); exact BK211.out) Try.underlying25 rfl (by kernel_rfl)) rfl ?_
   exact ⟨_, by first | rfl | (simp <;> rfl) | (simp [*] <;> rfl), by first | exact Kd.R_nil _ _ _ _ _ | exact Kd.R_nil _ _ _ 0 _ | exact Kd.N_nil _ _ _ _ _ | exact Kd.V_nil _ _ _ _ _ | exact Kd.Q_nil _ _ _ _ _ | exact Kd.S_nil _ _ _ _ _, hq1 HB GE211, by repeat (first | (with_reducible first | exact HK.out | apply Kept.alloc | apply Kept.drewN | apply Kept.drew | refine Kept.setCell ?_ (.inr GW211.out) _) | exact HK.out)⟩
 rw [if_neg c3] at H
 have c3b0 : decide (6 < (t212.length : Int)) = false := decide_eq_false c3
 have c3b1 : decide (6 < t212.length) = false := decide_eq_false (by omega)
 clear c3
 simp only [Option.some.injEq, Prod.mk.injEq] at H
 obtain ⟨rfl, rfl⟩ := H
 go_enter Try.func75, Try.ntmps75
 go_wp2_with (first | ((with_reducible refine gate_dst (N := 2) rfl ?_); refine bX #[.slice none 0 0] 25 ?_; intro gb211 hg w9 hbox hb; replace HO0 := cb HO0 hb; have n1_ := Aside0.mk (Kept.below (S := (fun k_ => P0_ k_)) (by repeat (first | (with_reducible first | exact HK.out | apply Kept.alloc | apply Kept.drewN | apply Kept.drew) | exact HK.out)) hb); have n2_ := cs (hq HB) hb; have BK211 := Aside0.mk (hbox); have GW211 := Aside0.mk ((by rw [hg]; exact (by first | exact HK.out.1 | exact (show Kept w _ (fun k_ => P0_ k_) from by repeat (first | (with_reducible first | exact HK.out | apply Kept.alloc | apply Kept.drewN | apply Kept.drew) | exact HK.out)).1) : w.heap.size ≤ gb211)); have GE211 := Aside0.mk ((by rw [hg]; exact (below_size (hq HB)) : w0.heap.size ≤ gb211)); replace HK := n1_; replace HB := n2_; clear n1_ n2_; clear hb hbox hg; obtain ⟨Ao10, co10, eo10⟩ := Kd.R_slice HO0.out; subst eo10) | ((with_reducible refine gate_callee (f := 130) rfl ?_); refine gC (some 5) Try.func130 #[.slice Ao10 l0.length co10] ?_; (with_reducible refine (impl_trimmed.calls k (fun k_ => some k_ = (.slice Ao10 l0.length co10 : Value).ownBlock) (.slice Ao10 l0.length co10) l0 t212 w0 _ ?side1 ?side2 A2.out).mono ?_); (case side1 => repeat (first | (with_reducible first | exact HB.out | apply below_alloc | apply pw_below_drewN | apply below_drew1 | refine below_set ?_ GE211.out) | exact HB.out)); (case side2 => exact Kd.R_tight rfl HO0.out); rintro e w11 ⟨v213, rfl, ho0, hb, hkp⟩; refine ⟨_, rfl, ?_⟩; replace BK211 := Aside0.mk (blk_kept (bq BK211) hkp (fun hs_ => (fun e_ => (Kd.R_ne HO0.out BK211.out (by decide)) e_) hs_)); have HO214 := Aside0.mk (Kd.R_mono (ok' := fun k_ => (P0_ k_ ∨ w.heap.size ≤ k_)) ho0 (fun k_ hk_ => Or.elim hk_ (fun hs_ => (HO0.out.1 k_ (hs_).symm)) (fun hn_ => (.inr (Nat.le_trans (by first | exact HK.out.1 | exact (show Kept w _ (fun k_ => P0_ k_) from by repeat (first | (with_reducible first | exact HK.out | apply Kept.alloc | apply Kept.drewN | apply Kept.drew | refine Kept.setCell ?_ (.inr GW211.out) _) | exact HK.out)).1) hn_))))); replace HK := Aside0.mk (Kept.then_ (S := (fun k_ => P0_ k_)) (by repeat (first | (with_reducible first | exact HK.out | apply Kept.alloc | apply Kept.drewN | apply Kept.drew | refine Kept.setCell ?_ (.inr GW211.out) _) | exact HK.out)) hkp (fun k_ hs_ => (fun e_ => (HO0.out.1 k_ e_.symm)) hs_)); replace HB := Aside0.mk (hb); clear HO0; (try clear hb); (try clear hkp); (try clear ho0); obtain ⟨Ao12, co12, eo12⟩ := Kd.R_slice HO214.out; subst eo12; have hcz13_0 : w11.cell? ⟨gb211, 0, none⟩ = some (.slice none 0 0) := (blk_cell BK211.out 0).trans rfl; have hfz13_0 := blk_frozen BK211.out 0))
 refine bodyPost_ret (results_ct rfl _ _ gb211 25 #[.slice Ao12 t212.length co12] (0, 0) _ rfl (by (with_reducible repeat (first | refine blk_drewN ?_ _ | refine blk_drew ?_ | refine blk_alloc ?_ _)); refine blk_put (cs := #[.slice none 0 0]) ?_ 0 _ rfl; (with_reducible repeat (first | refine blk_drewN ?_ _ | refine blk_drew ?_ | refine blk_alloc ?_ _)); exact BK211.out) Try.underlying25 rfl (by kernel_rfl)) rfl ?_
 exact ⟨_, by first | rfl | (simp <;> rfl) | (simp [*] <;> rfl), by (with_reducible repeat (first | apply Kd.R_alloc | apply Kd.R_drewN | apply Kd.R_drew)); exact Kd.R_mono (Kd.R_far (p := ⟨gb211, 0, none⟩) (Kd.R_types HO214.out BK211.out (by decide)) (fun _ hk => hk.2) (.slice Ao12 t212.length co12)) (fun _ hk => hk.1), hq1 HB GE211, by repeat (first | (with_reducible first | exact HK.out | apply Kept.alloc | apply Kept.drewN | apply Kept.drew | refine Kept.setCell ?_ (.inr GW211.out) _) | exact HK.out)⟩

/-! ### impl_sum: function 76 -/
def impl_sum.l0 : Nat → List Int → List Int → List Int → Int → Int → Int → Option (List Int)
  | 0, _, _, _, _, _, _ => none
  | k + 1, x0, x1, x5, x6, x14, x15 => if x15 < x14 then (if x15 < (x0.length : Int) then (if 0 ≤ x15 then (if x15 < (x1.length : Int) then (if x5.length < 17592186044416 then (impl_sum.l0 k x0 x1 (x5 ++ [Int.tmod (wrap64 ((wrap64 (x6 + (rd x0 x15))) + (rd x1 x15))) 65536]) (wrap64 (Int.tdiv (wrap64 ((wrap64 (x6 + (rd x0 x15))) + (rd x1 x15))) 65536)) x14 (wrap64 (x15 + 1))) else (none)) else (if x5.length < 17592186044416 then (impl_sum.l0 k x0 x1 (x5 ++ [Int.tmod (wrap64 (x6 + (rd x0 x15))) 65536]) (wrap64 (Int.tdiv (wrap64 (x6 + (rd x0 x15))) 65536)) x14 (wrap64 (x15 + 1))) else (none))) else (none)) else (if x15 < (x1.length : Int) then (if 0 ≤ x15 then (if x5.length < 17592186044416 then (impl_sum.l0 k x0 x1 (x5 ++ [Int.tmod (wrap64 (x6 + (rd x1 x15))) 65536]) (wrap64 (Int.tdiv (wrap64 (x6 + (rd x1 x15))) 65536)) x14 (wrap64 (x15 + 1))) else (none)) else (none)) else (if x5.length < 17592186044416 then (impl_sum.l0 k x0 x1 (x5 ++ [Int.tmod x6 65536]) (wrap64 (Int.tdiv x6 65536)) x14 (wrap64 (x15 + 1))) else (none)))) else ((impl_trimmed.f k x5).bind fun t218 => (some t218))
def impl_sum.f (k : Nat) (l0 : List Int) (l1 : List Int) : Option (List Int) := impl_sum.l0 k l0 l1 (([] : List Int)) 0 (wrap64 ((mx (l0.length : Int) (l1.length : Int)) + 1)) 0
set_option maxHeartbeats 8000000 in
set_option maxRecDepth 100000 in
theorem impl_sum.calls (k : Nat) (A0 : Option Addr) (c0 : Nat) (l0 : List Int) (A1 : Option Addr) (c1 : Nat) (l1 : List Int) (r : List Int) (w : World) (hr0 : Kd.C (Kd.int .i64) w A0 l0.length l0) (hc0 : l0.length ≤ c0) (hr1 : Kd.C (Kd.int .i64) w A1 l1.length l1) (hc1 : l1.length ≤ c1) (h : impl_sum.f k l0 l1 = some r) :
    Calls Try.prog 76 #[.slice A0 l0.length c0, .slice A1 l1.length c1] w fun e w' => ∃ v0_ : Value, e = .returned (v0_) ∧ Kd.R (Kd.int .i64) 3 w' w.heap.size (fun _ => True) v0_ r ∧ Below w.heap.size w w' := by
 have HR0 := Aside0.mk hr0; have HC0 := Aside0.mk hc0; clear hr0 hc0; have HR1 := Aside0.mk hr1; have HC1 := Aside0.mk hc1; clear hr1 hc1; have HB := Aside0.mk (Below.refl w.heap.size w)
 have H : (impl_sum.l0 k l0 l1 (([] : List Int)) 0 (wrap64 ((mx (l0.length : Int) (l1.length : Int)) + 1)) 0) = some r := h
 clear h; obtain ⟨y215, hy215⟩ : ∃ y_ : List Int, y_ = (([] : List Int)) := ⟨_, rfl⟩
 replace H : (impl_sum.l0 k l0 l1 y215 0 (wrap64 ((mx (l0.length : Int) (l1.length : Int)) + 1)) 0) = some r := by first | (rw [hy215]; with_reducible exact H) | (have H2_ := (Option.bind_some _ _).symm.trans H; rw [hy215]; with_reducible exact H2_) | (have H2_ := (Option.bind_some _ _).symm.trans H; with_reducible exact H2_) | with_reducible exact H | (rw [hy215]; exact H) | exact H
 have Ny215 := Aside0.mk hy215; clear hy215; obtain ⟨ji3, hji3⟩ : ∃ j_ : Int, (mx (l0.length : Int) (l1.length : Int)) = j_ := ⟨_, rfl⟩
 replace H : (impl_sum.l0 k l0 l1 y215 0 (wrap64 ((ji3) + 1)) 0) = some r := by first | (rw [hji3] at H; exact H) | (simp only [hji3] at H ⊢; exact H)
 (try (have hji3l : 0 ≤ ji3 := by (rw [← hji3]; unfold mx; (repeat' split) <;> omega)))
 (try (have hji3m : 0 ≤ ji3 := by omega))
 have hji3_ : (if (l0.length : Int) < (l1.length : Int) then (l1.length : Int) else (l0.length : Int)) = ji3 := hji3
 have hji3n : (if l0.length < l1.length then (l1.length : Int) else (l0.length : Int)) = ji3 := by rw [← hji3]; unfold mx; split <;> split <;> omega
 have H' := Aside0.mk H
 clear H
 go_enter Try.func76, Try.ntmps76
 go_wp2_with (first | ((with_reducible refine gate_dst (N := 8) rfl ?_); refine Kd.R_lit (Kd.int .i64) _ 3 ?hg (N := 8) ?hd (xs := ([] : List Int)) (inner := []) (ok := fun _ => True) (okp := fun _ => True) ?hr ?hp (fun _ hk => hk) trivial (Below.refl _ _) (Nat.le_refl _) (by simp) ?_; (case hd => rfl); (case hg => rfl); (case hr => first | (go_simp; done) | (go_simp; rfl)); (case hp => exact (Reps.none _ _)); intro v216 w4 ho5 hb hg_ hnew_; clear hg_ hnew_; (first | rw [← Ny215.out] at ho5 | (simp only [Int.reduceToNat] at ho5; rw [← Ny215.out] at ho5)); have HO217 := Aside0.mk (Kd.R_lower ho5 (below_size (hq HB))); replace HB := cs (hq HB) hb; clear hb ho5))
 go_loopg [5, 6, 15] k (fun kq v5 v6 v15 w' => ∃ (x5_1 : List Int) (x6_1 : Int) (x15_1 : Int), v6 = .int .i64 x6_1 ∧ v15 = .int .i64 x15_1 ∧ Aside0 (impl_sum.l0 kq l0 l1 x5_1 x6_1 (wrap64 ((ji3) + 1)) x15_1 = some r) ∧ Aside0 (kq ≤ k) ∧ Aside0 (Kd.R (Kd.int .i64) 3 w' w.heap.size (fun _ => True) v5 x5_1) ∧ Aside0 (Below w.heap.size w w'))
 case atStart => exact ⟨(y215), (0), (0), (by first | rfl | (simp; done) | (simp [*]; done)), (by first | rfl | (simp; done) | (simp [*]; done)), H', ⟨Nat.le_refl _⟩, ⟨by (with_reducible repeat (first | apply Kd.R_alloc | apply Kd.R_drewN | apply Kd.R_drew)); exact HO217.out⟩, ⟨hq HB⟩⟩
 case round =>
   clear H'
   (try clear c1); (try clear p2); obtain ⟨x5_1, x6_1, x15_1, rfl, rfl, HA, HK1, HO_5, HB⟩ := hrel
   cases gk with
   | zero => exact absurd HA.out (by simp [impl_sum.l0])
   | succ k1 =>
     have H := HA.out; clear HA
     simp only [impl_sum.l0] at H
     by_cases c6 : x15_1 < (wrap64 ((ji3) + 1))
     · rw [if_pos c6] at H
       have c6b0 : decide (x15_1 < (wrap64 ((ji3) + 1))) = true := decide_eq_true c6
       clear c6
       by_cases c7 : x15_1 < (l0.length : Int)
       · rw [if_pos c7] at H
         have c7b0 : decide (x15_1 < (l0.length : Int)) = true := decide_eq_true c7
         clear c7
         by_cases c8 : 0 ≤ x15_1
         · rw [if_pos c8] at H
           have c8b0 : decide (0 ≤ x15_1) = true := decide_eq_true c8
           clear c8
           by_cases c9 : x15_1 < (l1.length : Int)
           · rw [if_pos c9] at H
             have c9b0 : decide (x15_1 < (l1.length : Int)) = true := decide_eq_true c9
             clear c9
             by_cases c10 : x5_1.length < 17592186044416
             · rw [if_pos c10] at H
               have LMc10 := Aside0.mk c10; clear c10; obtain ⟨y223, hy223⟩ : ∃ y_ : List Int, y_ = (x5_1 ++ [Int.tmod (wrap64 ((wrap64 (x6_1 + (rd l0 x15_1))) + (rd l1 x15_1))) 65536]) := ⟨_, rfl⟩
               replace H : (impl_sum.l0 k1 l0 l1 y223 (wrap64 (Int.tdiv (wrap64 ((wrap64 (x6_1 + (rd l0 x15_1))) + (rd l1 x15_1))) 65536)) (wrap64 ((ji3) + 1)) (wrap64 (x15_1 + 1))) = some r := by first | (rw [hy223]; with_reducible exact H) | (have H2_ := (Option.bind_some _ _).symm.trans H; rw [hy223]; with_reducible exact H2_) | (have H2_ := (Option.bind_some _ _).symm.trans H; with_reducible exact H2_) | with_reducible exact H | (rw [hy223]; exact H) | exact H
               have Ny223 := Aside0.mk hy223; clear hy223
               have H' := Aside0.mk H
               clear H
               have p221 : 0 ≤ (x15_1 : Int) := of_decide_eq_true (by first | (with_reducible assumption) | assumption)
               have q221 : x15_1 < (l0.length : Int) := of_decide_eq_true (by first | (with_reducible assumption) | assumption)
               obtain ⟨ad221, e221, hx221_0⟩ := Kd.at_int HR0.out x15_1 p221 q221
               cases e221
               replace hx221_0 := (HB.out.cell (World.block_lt_of_cell? w _ hx221_0)).trans hx221_0; replace p221 := eq_true p221; replace q221 := eq_true q221
               have p222 : 0 ≤ (x15_1 : Int) := of_decide_eq_true (by first | (with_reducible assumption) | assumption)
               have q222 : x15_1 < (l1.length : Int) := of_decide_eq_true (by first | (with_reducible assumption) | assumption)
               obtain ⟨ad222, e222, hx222_0⟩ := Kd.at_int HR1.out x15_1 p222 q222
               cases e222
               replace hx222_0 := (HB.out.cell (World.block_lt_of_cell? w _ hx222_0)).trans hx222_0; replace p222 := eq_true p222; replace q222 := eq_true q222
               go_wp2_with (first | ((with_reducible refine gate_builtin (b := .append) (xs := #[.tmp 38, .tmp 41]) rfl ?_); at_builtin; refine Kd.R_append (Kd.int .i64) (w0 := w) w.heap.size rfl (.tmp 38) (.tmp 41) 23 3 (.int .i64 0) 8 rfl Try.underlying23 info3 rfl (by decide) (by omega) u5 x5_1 (Int.tmod (wrap64 ((wrap64 (x6_1 + (rd l0 x15_1))) + (rd l1 x15_1))) 65536) [.int .i64 (Int.tmod (wrap64 ((wrap64 (x6_1 + (rd l0 x15_1))) + (rd l1 x15_1))) 65536)] (fun _ => True) (fun _ => False) rfl rfl ?aP (fun _ hk => hk.elim) ?aF ?aO ?aB ?aS ?aL ?_; (case aP => exact rfl); (case aB => exact (hq HB)); (case aF => exact (fun _ _ => trivial)); (case aO => exact (rq HO_5)); (case aS => exact (below_size (hq HB))); (case aL => have := LMc10.out; omega); intro v224 w11 ho hb hg hat; rw [← Ny223.out] at ho; replace HB := Aside0.mk (hb); have HO225 := Aside0.mk (ho); clear HO_5; clear ho hb hg hat))
               go_roundg k1
               case measure => have := HK1.out; omega
               case rel => exact ⟨(y223), (wrap64 (Int.tdiv (wrap64 ((wrap64 (x6_1 + (rd l0 x15_1))) + (rd l1 x15_1))) 65536)), (wrap64 (x15_1 + 1)), (by first | rfl | (simp; done) | (simp [*]; done)), (by first | rfl | (simp; done) | (simp [*]; done)), H', ⟨by have := HK1.out; omega⟩, ⟨by (with_reducible repeat (first | apply Kd.R_alloc | apply Kd.R_drewN | apply Kd.R_drew)); exact HO225.out⟩, ⟨hq HB⟩⟩
             · rw [if_neg c10] at H
               exact absurd H (by simp)
           · rw [if_neg c9] at H
             have c9b0 : decide (x15_1 < (l1.length : Int)) = false := decide_eq_false c9
             clear c9
             by_cases c12 : x5_1.length < 17592186044416
             · rw [if_pos c12] at H
               have LMc12 := Aside0.mk c12; clear c12; obtain ⟨y226, hy226⟩ : ∃ y_ : List Int, y_ = (x5_1 ++ [Int.tmod (wrap64 (x6_1 + (rd l0 x15_1))) 65536]) := ⟨_, rfl⟩
               replace H : (impl_sum.l0 k1 l0 l1 y226 (wrap64 (Int.tdiv (wrap64 (x6_1 + (rd l0 x15_1))) 65536)) (wrap64 ((ji3) + 1)) (wrap64 (x15_1 + 1))) = some r := by first | (rw [hy226]; with_reducible exact H) | (have H2_ := (Option.bind_some _ _).symm.trans H; rw [hy226]; with_reducible exact H2_) | (have H2_ := (Option.bind_some _ _).symm.trans H; with_reducible exact H2_) | with_reducible exact H | (rw [hy226]; exact H) | exact H
               have Ny226 := Aside0.mk hy226; clear hy226
               have H' := Aside0.mk H
               clear H
               have p221 : 0 ≤ (x15_1 : Int) := of_decide_eq_true (by first | (with_reducible assumption) | assumption)
               have q221 : x15_1 < (l0.length : Int) := of_decide_eq_true (by first | (with_reducible assumption) | assumption)
               obtain ⟨ad221, e221, hx221_0⟩ := Kd.at_int HR0.out x15_1 p221 q221
               cases e221
               replace hx221_0 := (HB.out.cell (World.block_lt_of_cell? w _ hx221_0)).trans hx221_0; replace p221 := eq_true p221; replace q221 := eq_true q221
               go_wp2_with (first | ((with_reducible refine gate_builtin (b := .append) (xs := #[.tmp 38, .tmp 41]) rfl ?_); at_builtin; refine Kd.R_append (Kd.int .i64) (w0 := w) w.heap.size rfl (.tmp 38) (.tmp 41) 23 3 (.int .i64 0) 8 rfl Try.underlying23 info3 rfl (by decide) (by omega) u5 x5_1 (Int.tmod (wrap64 (x6_1 + (rd l0 x15_1))) 65536) [.int .i64 (Int.tmod (wrap64 (x6_1 + (rd l0 x15_1))) 65536)] (fun _ => True) (fun _ => False) rfl rfl ?aP (fun _ hk => hk.elim) ?aF ?aO ?aB ?aS ?aL ?_; (case aP => exact rfl); (case aB => exact (hq HB)); (case aF => exact (fun _ _ => trivial)); (case aO => exact (rq HO_5)); (case aS => exact (below_size (hq HB))); (case aL => have := LMc12.out; omega); intro v227 w13 ho hb hg hat; rw [← Ny226.out] at ho; replace HB := Aside0.mk (hb); have HO228 := Aside0.mk (ho); clear HO_5; clear ho hb hg hat))
               go_roundg k1
               case measure => have := HK1.out; omega
               case rel => exact ⟨(y226), (wrap64 (Int.tdiv (wrap64 (x6_1 + (rd l0 x15_1))) 65536)), (wrap64 (x15_1 + 1)), (by first | rfl | (simp; done) | (simp [*]; done)), (by first | rfl | (simp; done) | (simp [*]; done)), H', ⟨by have := HK1.out; omega⟩, ⟨by (with_reducible repeat (first | apply Kd.R_alloc | apply Kd.R_drewN | apply Kd.R_drew)); exact HO228.out⟩, ⟨hq HB⟩⟩
             · rw [if_neg c12] at H
               exact absurd H (by simp)
         · rw [if_neg c8] at H
           exact absurd H (by simp)
       · rw [if_neg c7] at H
         have c7b0 : decide (x15_1 < (l0.length : Int)) = false := decide_eq_false c7
         clear c7
         by_cases c14 : x15_1 < (l1.length : Int)
         · rw [if_pos c14] at H
           have c14b0 : decide (x15_1 < (l1.length : Int)) = true := decide_eq_true c14
           clear c14
           by_cases c15 : 0 ≤ x15_1
           · rw [if_pos c15] at H
             have c15b0 : decide (0 ≤ x15_1) = true := decide_eq_true c15
             clear c15
             by_cases c16 : x5_1.length < 17592186044416
             · rw [if_pos c16] at H
               have LMc16 := Aside0.mk c16; clear c16; obtain ⟨y230, hy230⟩ : ∃ y_ : List Int, y_ = (x5_1 ++ [Int.tmod (wrap64 (x6_1 + (rd l1 x15_1))) 65536]) := ⟨_, rfl⟩
               replace H : (impl_sum.l0 k1 l0 l1 y230 (wrap64 (Int.tdiv (wrap64 (x6_1 + (rd l1 x15_1))) 65536)) (wrap64 ((ji3) + 1)) (wrap64 (x15_1 + 1))) = some r := by first | (rw [hy230]; with_reducible exact H) | (have H2_ := (Option.bind_some _ _).symm.trans H; rw [hy230]; with_reducible exact H2_) | (have H2_ := (Option.bind_some _ _).symm.trans H; with_reducible exact H2_) | with_reducible exact H | (rw [hy230]; exact H) | exact H
               have Ny230 := Aside0.mk hy230; clear hy230
               have H' := Aside0.mk H
               clear H
               have p229 : 0 ≤ (x15_1 : Int) := of_decide_eq_true (by first | (with_reducible assumption) | assumption)
               have q229 : x15_1 < (l1.length : Int) := of_decide_eq_true (by first | (with_reducible assumption) | assumption)
               obtain ⟨ad229, e229, hx229_0⟩ := Kd.at_int HR1.out x15_1 p229 q229
               cases e229
               replace hx229_0 := (HB.out.cell (World.block_lt_of_cell? w _ hx229_0)).trans hx229_0; replace p229 := eq_true p229; replace q229 := eq_true q229
               go_wp2_with (first | ((with_reducible refine gate_builtin (b := .append) (xs := #[.tmp 38, .tmp 41]) rfl ?_); at_builtin; refine Kd.R_append (Kd.int .i64) (w0 := w) w.heap.size rfl (.tmp 38) (.tmp 41) 23 3 (.int .i64 0) 8 rfl Try.underlying23 info3 rfl (by decide) (by omega) u5 x5_1 (Int.tmod (wrap64 (x6_1 + (rd l1 x15_1))) 65536) [.int .i64 (Int.tmod (wrap64 (x6_1 + (rd l1 x15_1))) 65536)] (fun _ => True) (fun _ => False) rfl rfl ?aP (fun _ hk => hk.elim) ?aF ?aO ?aB ?aS ?aL ?_; (case aP => exact rfl); (case aB => exact (hq HB)); (case aF => exact (fun _ _ => trivial)); (case aO => exact (rq HO_5)); (case aS => exact (below_size (hq HB))); (case aL => have := LMc16.out; omega); intro v231 w17 ho hb hg hat; rw [← Ny230.out] at ho; replace HB := Aside0.mk (hb); have HO232 := Aside0.mk (ho); clear HO_5; clear ho hb hg hat))
               go_roundg k1
               case measure => have := HK1.out; omega
               case rel => exact ⟨(y230), (wrap64 (Int.tdiv (wrap64 (x6_1 + (rd l1 x15_1))) 65536)), (wrap64 (x15_1 + 1)), (by first | rfl | (simp; done) | (simp [*]; done)), (by first | rfl | (simp; done) | (simp [*]; done)), H', ⟨by have := HK1.out; omega⟩, ⟨by (with_reducible repeat (first | apply Kd.R_alloc | apply Kd.R_drewN | apply Kd.R_drew)); exact HO232.out⟩, ⟨hq HB⟩⟩
             · rw [if_neg c16] at H
               exact absurd H (by simp)
           · rw [if_neg c15] at H
             exact absurd H (by simp)
         · rw [if_neg c14] at H
           have c14b0 : decide (x15_1 < (l1.length : Int)) = false := decide_eq_false c14
           clear c14
           by_cases c18 : x5_1.length < 17592186044416
           · rw [if_pos c18] at H
             have LMc18 := Aside0.mk c18; clear c18; obtain ⟨y233, hy233⟩ : ∃ y_ : List Int, y_ = (x5_1 ++ [Int.tmod x6_1 65536]) := ⟨_, rfl⟩
             replace H : (impl_sum.l0 k1 l0 l1 y233 (wrap64 (Int.tdiv x6_1 65536)) (wrap64 ((ji3) + 1)) (wrap64 (x15_1 + 1))) = some r := by first | (rw [hy233]; with_reducible exact H) | (have H2_ := (Option.bind_some _ _).symm.trans H; rw [hy233]; with_reducible exact H2_) | (have H2_ := (Option.bind_some _ _).symm.trans H; with_reducible exact H2_) | with_reducible exact H | (rw [hy233]; exact H) | exact H
             have Ny233 := Aside0.mk hy233; clear hy233
             have H' := Aside0.mk H
             clear H
             go_wp2_with (first | ((with_reducible refine gate_builtin (b := .append) (xs := #[.tmp 38, .tmp 41]) rfl ?_); at_builtin; refine Kd.R_append (Kd.int .i64) (w0 := w) w.heap.size rfl (.tmp 38) (.tmp 41) 23 3 (.int .i64 0) 8 rfl Try.underlying23 info3 rfl (by decide) (by omega) u5 x5_1 (Int.tmod x6_1 65536) [.int .i64 (Int.tmod x6_1 65536)] (fun _ => True) (fun _ => False) rfl rfl ?aP (fun _ hk => hk.elim) ?aF ?aO ?aB ?aS ?aL ?_; (case aP => exact rfl); (case aB => exact (hq HB)); (case aF => exact (fun _ _ => trivial)); (case aO => exact (rq HO_5)); (case aS => exact (below_size (hq HB))); (case aL => have := LMc18.out; omega); intro v234 w19 ho hb hg hat; rw [← Ny233.out] at ho; replace HB := Aside0.mk (hb); have HO235 := Aside0.mk (ho); clear HO_5; clear ho hb hg hat))
             go_roundg k1
             case measure => have := HK1.out; omega
             case rel => exact ⟨(y233), (wrap64 (Int.tdiv x6_1 65536)), (wrap64 (x15_1 + 1)), (by first | rfl | (simp; done) | (simp [*]; done)), (by first | rfl | (simp; done) | (simp [*]; done)), H', ⟨by have := HK1.out; omega⟩, ⟨by (with_reducible repeat (first | apply Kd.R_alloc | apply Kd.R_drewN | apply Kd.R_drew)); exact HO235.out⟩, ⟨hq HB⟩⟩
           · rw [if_neg c18] at H
             exact absurd H (by simp)
     · rw [if_neg c6] at H
       have c6b0 : decide (x15_1 < (wrap64 ((ji3) + 1))) = false := decide_eq_false c6
       clear c6; replace H := Option.bind_eq_some_iff.mp H; obtain ⟨t218, A200, H⟩ := H; (try dsimp only at H); have A20 := Aside0.mk A200; clear A200; obtain rfl := Option.some.inj H; obtain ⟨Ao21, co21, eo21⟩ := Kd.R_slice HO_5.out; subst eo21
       go_wp2_with (first | ((with_reducible refine gate_callee (f := 130) rfl ?_); refine gC (some 47) Try.func130 #[.slice Ao21 x5_1.length co21] ?_; (with_reducible refine (impl_trimmed.calls k1 (fun k_ => some k_ = (.slice Ao21 x5_1.length co21 : Value).ownBlock) (.slice Ao21 x5_1.length co21) x5_1 t218 w _ ?side1 ?side2 A20.out).mono ?_); (case side1 => repeat (first | (with_reducible first | exact HB.out | apply below_alloc | apply pw_below_drewN | apply below_drew1) | exact HB.out)); (case side2 => exact Kd.R_tight rfl HO_5.out); rintro e w22 ⟨v219, rfl, ho0, hb, hkp⟩; refine ⟨_, rfl, ?_⟩; have HO220 := Aside0.mk (Kd.R_mono (ok' := fun k_ => True) ho0 (fun k_ hk_ => trivial)); replace HB := Aside0.mk (hb); clear HO_5; (try clear hb); (try clear hkp); (try clear ho0)))
       go_ret
       exact ⟨_, by first | rfl | (simp [errW_none, errW_some] <;> rfl) | (simp only [← hji3]; first | rfl | (simp [errW_none, errW_some] <;> rfl)) | (simp [*, errW_none, errW_some] <;> rfl), by (with_reducible repeat (first | apply Kd.R_alloc | apply Kd.R_drewN | apply Kd.R_drew)); exact HO220.out, hq HB⟩

/-! ### impl_AddBig: function 14 -/
def impl_AddBig.f (k : Nat) (l0_0 : List Int) (l1_0 : List Int) : Option (List Int × Bool) := (impl_areBigs.f k (([(⟨l0_0⟩ : S25), (⟨l1_0⟩ : S25)] : List (S25)))).bind fun t242 => (if t242 = true then ((impl_sum.f k l0_0 l1_0).bind fun t243 => ((impl_told.f k t243).bind fun bt246 => (some (bt246.1, bt246.2)))) else (some (([] : List Int), false)))
set_option maxHeartbeats 8000000 in
set_option maxRecDepth 100000 in
theorem impl_AddBig.calls (k : Nat) (P0_0_ : Nat → Prop) (A0_0 : Option Addr) (c0_0 : Nat) (l0_0 : List Int) (P1_0_ : Nat → Prop) (A1_0 : Option Addr) (c1_0 : Nat) (l1_0 : List Int) (r1 : List Int) (r2 : Bool) (w : World) (hs0_0 : Kd.V (Kd.int .i64) 3 w w.heap.size (fun k_ => P0_0_ k_) (.slice A0_0 l0_0.length c0_0) l0_0) (hs1_0 : Kd.V (Kd.int .i64) 3 w w.heap.size (fun k_ => P1_0_ k_) (.slice A1_0 l1_0.length c1_0) l1_0) (h : impl_AddBig.f k l0_0 l1_0 = some (r1, r2)) :
    Calls Try.prog 14 #[.agg #[.slice A0_0 l0_0.length c0_0], .agg #[.slice A1_0 l1_0.length c1_0]] w fun e w' => ∃ v0_ : Value, e = .returned (.tuple #[.agg #[v0_], .bool r2]) ∧ Kd.R (Kd.int .i64) 3 w' w.heap.size (fun k_ => (w.heap.size ≤ k_)) v0_ r1 ∧ Below w.heap.size w w' := by
 have hu25 := Try.underlying25
 have HO0_0 := Aside0.mk (show Kd.V (Kd.int .i64) 3 w w.heap.size (fun k_ => ((P0_0_ k_ ∨ P1_0_ k_) ∨ w.heap.size ≤ k_)) (.slice A0_0 l0_0.length c0_0) l0_0 from Kd.V_mono hs0_0 (fun k_ hk => .inl (.inl hk)))
 have HO1_0 := Aside0.mk (show Kd.V (Kd.int .i64) 3 w w.heap.size (fun k_ => ((P0_0_ k_ ∨ P1_0_ k_) ∨ w.heap.size ≤ k_)) (.slice A1_0 l1_0.length c1_0) l1_0 from Kd.V_mono hs1_0 (fun k_ hk => .inl (.inr hk)))
 have HB := Aside0.mk (Below.refl w.heap.size w)
 have H : ((impl_areBigs.f k (([(⟨l0_0⟩ : S25), (⟨l1_0⟩ : S25)] : List (S25)))).bind fun t242 => (if t242 = true then ((impl_sum.f k l0_0 l1_0).bind fun t243 => ((impl_told.f k t243).bind fun bt246 => (some (bt246.1, bt246.2)))) else (some (([] : List Int), false)))) = some (r1, r2) := h
 clear h; obtain ⟨y239, hy239⟩ : ∃ y_ : List (S25), y_ = (([(⟨l0_0⟩ : S25), (⟨l1_0⟩ : S25)] : List (S25))) := ⟨_, rfl⟩
 replace H : ((impl_areBigs.f k y239).bind fun t242 => (if t242 = true then ((impl_sum.f k l0_0 l1_0).bind fun t243 => ((impl_told.f k t243).bind fun bt246 => (some (bt246.1, bt246.2)))) else (some (([] : List Int), false)))) = some (r1, r2) := by first | (rw [hy239]; with_reducible exact H) | (have H2_ := (Option.bind_some _ _).symm.trans H; rw [hy239]; with_reducible exact H2_) | (have H2_ := (Option.bind_some _ _).symm.trans H; with_reducible exact H2_) | with_reducible exact H | (rw [hy239]; exact H) | exact H
 have Ny239 := Aside0.mk hy239; clear hy239; replace H := Option.bind_eq_some_iff.mp H; obtain ⟨t242, A30, H⟩ := H; (try dsimp only at H); have A3 := Aside0.mk A30; clear A30
 by_cases c4 : t242 = true
 rotate_left
 · replace c4 := Bool.eq_false_iff.mpr c4
   subst c4
   have H1 : (some (([] : List Int), false)) = some (r1, r2) := by rw [if_neg (show ¬ (false = true) by decide)] at H; exact H
   clear H; have H := H1; clear H1
   simp only [Option.some.injEq, Prod.mk.injEq] at H
   obtain ⟨rfl, rfl⟩ := H
   go_enter Try.func14, Try.ntmps14
   go_wp2_with (first | ((with_reducible refine gate_dst (N := 2) rfl ?_); refine bX #[.slice A0_0 l0_0.length c0_0] 25 ?_; intro gb236 hg w26 hbox hb; replace HO0_0 := Aside0.mk (ve HO0_0 gb236 hg hb); replace HO1_0 := Aside0.mk (ve HO1_0 gb236 hg hb); have n2_ := cs (hq HB) hb; have BK236 := Aside0.mk (hbox); have GW236 := cg hg (hq HB); have GE236 := cg hg (hq HB); replace HB := n2_; clear n2_; clear hb hbox hg) | ((with_reducible refine gate_dst (N := 3) rfl ?_); refine bX #[.slice A1_0 l1_0.length c1_0] 25 ?_; intro gb237 hg w27 hbox hb; replace HO0_0 := Aside0.mk (ve HO0_0 gb237 hg hb); replace HO1_0 := Aside0.mk (ve HO1_0 gb237 hg hb); have n2_ := cB BK236 hb; have n3_ := cs (hq1 HB GE236) hb; have BK237 := Aside0.mk (hbox); have GW237 := cg hg (hq1 HB GE236); have GE237 := cg hg (hq1 HB GE236); have NB236_237 := cl hg BK236; have NB237_236 := cr hg BK236; replace BK236 := n2_; replace HB := n3_; clear n2_ n3_; clear hb hbox hg) | ((with_reducible refine gate_dst (N := 4) rfl ?_); refine bX #[.slice none 0 0] 25 ?_; intro gb238 hg w28 hbox hb; replace HO0_0 := Aside0.mk (ve HO0_0 gb238 hg hb); replace HO1_0 := Aside0.mk (ve HO1_0 gb238 hg hb); have n2_ := cB BK236 hb; have n3_ := cB BK237 hb; have n4_ := cs (hq2 HB GE236 GE237) hb; have BK238 := Aside0.mk (hbox); have GW238 := cg hg (hq2 HB GE236 GE237); have GE238 := cg hg (hq2 HB GE236 GE237); have NB236_238 := cl hg BK236; have NB238_236 := cr hg BK236; have NB237_238 := cl hg BK237; have NB238_237 := cr hg BK237; replace BK236 := n2_; replace BK237 := n3_; replace HB := n4_; clear n2_ n3_ n4_; clear hb hbox hg; have hnb29 := NB236_237.out; have hnc29 := NB237_236.out; have hnb30 := NB236_238.out; have hnc30 := NB238_236.out; have hcz31_0 : w28.cell? ⟨gb236, 0, none⟩ = some (.slice A0_0 l0_0.length c0_0) := (blk_cell BK236.out 0).trans rfl; have hfz31_0 := blk_frozen BK236.out 0; have hnb32 := NB237_238.out; have hnc32 := NB238_237.out; have hcz33_0 : w28.cell? ⟨gb237, 0, none⟩ = some (.slice A1_0 l1_0.length c1_0) := (blk_cell BK237.out 0).trans rfl; have hfz33_0 := blk_frozen BK237.out 0) | ((with_reducible refine gate_dst (N := 8) rfl ?_); refine Kd.N_lit k25 _ 25 ?hg (N' := 8) ?hd (xs := ([(⟨l0_0⟩ : S25), (⟨l1_0⟩ : S25)] : List (S25))) (inner := [.slice A0_0 l0_0.length c0_0, .slice A1_0 l1_0.length c1_0]) (ok := (fun k_ => ((P0_0_ k_ ∨ P1_0_ k_) ∨ w.heap.size ≤ k_) ∧ k_ ≠ gb236 ∧ k_ ≠ gb237 ∧ k_ ≠ gb238)) (okp := (fun k_ => ((P0_0_ k_ ∨ P1_0_ k_) ∨ w.heap.size ≤ k_) ∧ k_ ≠ gb236 ∧ k_ ≠ gb237 ∧ k_ ≠ gb238)) ?hr ?hp (fun _ hk => hk) ((show ∀ k_, w28.heap.size ≤ k_ → (fun k_ => ((P0_0_ k_ ∨ P1_0_ k_) ∨ w.heap.size ≤ k_) ∧ k_ ≠ gb236 ∧ k_ ≠ gb237 ∧ k_ ≠ gb238) k_ from fun k_ hk => ⟨(.inr (Nat.le_trans (below_size (hq3 HB GE236 GE237 GE238)) hk)), Kd.freshB (g := gb236) (o := .cells #[.slice A0_0 l0_0.length c0_0] 25 (0, 0)) (bq BK236) k_ hk, Kd.freshB (g := gb237) (o := .cells #[.slice A1_0 l1_0.length c1_0] 25 (0, 0)) (bq BK237) k_ hk, Kd.freshB (g := gb238) (o := .cells #[.slice none 0 0] 25 (0, 0)) (bq BK238) k_ hk⟩) _ (Nat.le_refl _)) (Below.refl _ _) (Nat.le_refl _) (by simp) ?_; (case hd => rfl); (case hg => rfl); (case hr => first | (go_simp; done) | (go_simp; rfl)); (case hp => exact (Reps.one (show Kd.FK k25 _ _ (⟨l0_0⟩ : S25) [.slice A0_0 l0_0.length c0_0] from (k25_mkF _ _ (⟨l0_0⟩ : S25) (Kd.V_reads' (Kd.V_mono (ok' := (fun k_ => ((P0_0_ k_ ∨ P1_0_ k_) ∨ w.heap.size ≤ k_) ∧ k_ ≠ gb236 ∧ k_ ≠ gb237 ∧ k_ ≠ gb238)) (HO0_0.out) (fun k_ hk => ⟨hk.1.1.1, ⟨hk.1.1.2, ⟨hk.1.2, hk.2⟩⟩⟩))).2.1 (Kd.V_F (Kd.V_mono (ok' := (fun k_ => ((P0_0_ k_ ∨ P1_0_ k_) ∨ w.heap.size ≤ k_) ∧ k_ ≠ gb236 ∧ k_ ≠ gb237 ∧ k_ ≠ gb238)) (HO0_0.out) (fun k_ hk => ⟨hk.1.1.1, ⟨hk.1.1.2, ⟨hk.1.2, hk.2⟩⟩⟩))))) (Reps.one (show Kd.FK k25 _ _ (⟨l1_0⟩ : S25) [.slice A1_0 l1_0.length c1_0] from (k25_mkF _ _ (⟨l1_0⟩ : S25) (Kd.V_reads' (Kd.V_mono (ok' := (fun k_ => ((P0_0_ k_ ∨ P1_0_ k_) ∨ w.heap.size ≤ k_) ∧ k_ ≠ gb236 ∧ k_ ≠ gb237 ∧ k_ ≠ gb238)) (HO1_0.out) (fun k_ hk => ⟨hk.1.1.1, ⟨hk.1.1.2, ⟨hk.1.2, hk.2⟩⟩⟩))).2.1 (Kd.V_F (Kd.V_mono (ok' := (fun k_ => ((P0_0_ k_ ∨ P1_0_ k_) ∨ w.heap.size ≤ k_) ∧ k_ ≠ gb236 ∧ k_ ≠ gb237 ∧ k_ ≠ gb238)) (HO1_0.out) (fun k_ hk => ⟨hk.1.1.1, ⟨hk.1.1.2, ⟨hk.1.2, hk.2⟩⟩⟩))))) (Reps.none _ _)))); intro v240 w34 ho35 hb hg_ hnew_; clear hg_ hnew_; (first | rw [← Ny239.out] at ho35 | (simp only [Int.reduceToNat] at ho35; rw [← Ny239.out] at ho35)); replace HO0_0 := Aside0.mk (Kd.V_elder' (vq HO0_0) (Kd.N_base ho35) hb); replace HO1_0 := Aside0.mk (Kd.V_elder' (vq HO1_0) (Kd.N_base ho35) hb); have HO241 := Aside0.mk (Kd.N_lower ho35 (below_size (hq3 HB GE236 GE237 GE238))); replace BK236 := cB BK236 hb; replace BK237 := cB BK237 hb; replace BK238 := cB BK238 hb; replace HB := cs (hq3 HB GE236 GE237 GE238) hb; clear hb ho35; obtain ⟨Ao36, co36, eo36⟩ := Kd.N_slice HO241.out; subst eo36) | ((with_reducible refine gate_callee (f := 74) rfl ?_); refine gC (some 9) Try.func74 #[.slice Ao36 y239.length co36] ?_; (with_reducible refine (impl_areBigs.calls k _ _ y239 false _ ?side1 ?side2 A3.out).mono ?_); (case side1 => exact cq ((Kd.N_reads' HO241.out).2.2)); (case side2 => exact (Kd.N_reads' HO241.out).2.1); rintro e w37 ⟨rfl, hb⟩; refine ⟨_, rfl, ?_⟩; replace HO0_0 := Aside0.mk (Kd.V_below (vq HO0_0) hb); replace HO1_0 := Aside0.mk (Kd.V_below (vq HO1_0) hb); replace HO241 := Aside0.mk (Kd.N_below (by (with_reducible repeat (first | apply Kd.N_alloc | apply Kd.N_drewN | apply Kd.N_drew)); exact HO241.out) hb); replace BK236 := cB BK236 hb; replace BK237 := cB BK237 hb; replace BK238 := cB BK238 hb; replace HB := cs (hq3 HB GE236 GE237 GE238) hb; (try clear hb); (try clear hb2); (try clear hk); (try clear hi); have hcz38_0 : w37.cell? ⟨gb238, 0, none⟩ = some (.slice none 0 0) := (blk_cell BK238.out 0).trans rfl; have hfz38_0 := blk_frozen BK238.out 0))
   refine bodyPost_ret (results_ct rfl _ _ gb238 25 #[.slice none 0 0] (0, 0) _ rfl (by (with_reducible repeat (first | refine blk_drewN ?_ _ | refine blk_drew ?_ | refine blk_alloc ?_ _)); refine blk_put (cs := #[.slice none 0 0]) ?_ 0 _ rfl; (with_reducible repeat (first | refine blk_drewN ?_ _ | refine blk_drew ?_ | refine blk_alloc ?_ _)); exact BK238.out) Try.underlying25 rfl (by kernel_rfl)) rfl ?_
   exact ⟨_, by first | rfl | (simp <;> rfl) | (simp [*] <;> rfl), by first | exact Kd.R_nil _ _ _ _ _ | exact Kd.R_nil _ _ _ 0 _ | exact Kd.N_nil _ _ _ _ _ | exact Kd.V_nil _ _ _ _ _ | exact Kd.Q_nil _ _ _ _ _ | exact Kd.S_nil _ _ _ _ _, hq3 HB GE236 GE237 GE238⟩

 subst c4
 have H1 : ((impl_sum.f k l0_0 l1_0).bind fun t243 => ((impl_told.f k t243).bind fun bt246 => (some (bt246.1, bt246.2)))) = some (r1, r2) := by rw [if_pos rfl] at H; exact H
 clear H; have H := H1; clear H1; replace H := Option.bind_eq_some_iff.mp H; obtain ⟨t243, A50, H⟩ := H; (try dsimp only at H); have A5 := Aside0.mk A50; clear A50; replace H := Option.bind_eq_some_iff.mp H; obtain ⟨⟨t246, t249⟩, A60, H⟩ := H; (try dsimp only at H); have A6 := Aside0.mk A60; clear A60
 simp only [Option.some.injEq, Prod.mk.injEq] at H
 obtain ⟨rfl, rfl⟩ := H
 go_enter Try.func14, Try.ntmps14
 go_wp2_with (first | ((with_reducible refine gate_dst (N := 2) rfl ?_); refine bX #[.slice A0_0 l0_0.length c0_0] 25 ?_; intro gb236 hg w7 hbox hb; replace HO0_0 := Aside0.mk (ve HO0_0 gb236 hg hb); replace HO1_0 := Aside0.mk (ve HO1_0 gb236 hg hb); have n2_ := cs (hq HB) hb; have BK236 := Aside0.mk (hbox); have GW236 := cg hg (hq HB); have GE236 := cg hg (hq HB); replace HB := n2_; clear n2_; clear hb hbox hg) | ((with_reducible refine gate_dst (N := 3) rfl ?_); refine bX #[.slice A1_0 l1_0.length c1_0] 25 ?_; intro gb237 hg w8 hbox hb; replace HO0_0 := Aside0.mk (ve HO0_0 gb237 hg hb); replace HO1_0 := Aside0.mk (ve HO1_0 gb237 hg hb); have n2_ := cB BK236 hb; have n3_ := cs (hq1 HB GE236) hb; have BK237 := Aside0.mk (hbox); have GW237 := cg hg (hq1 HB GE236); have GE237 := cg hg (hq1 HB GE236); have NB236_237 := cl hg BK236; have NB237_236 := cr hg BK236; replace BK236 := n2_; replace HB := n3_; clear n2_ n3_; clear hb hbox hg) | ((with_reducible refine gate_dst (N := 4) rfl ?_); refine bX #[.slice none 0 0] 25 ?_; intro gb238 hg w9 hbox hb; replace HO0_0 := Aside0.mk (ve HO0_0 gb238 hg hb); replace HO1_0 := Aside0.mk (ve HO1_0 gb238 hg hb); have n2_ := cB BK236 hb; have n3_ := cB BK237 hb; have n4_ := cs (hq2 HB GE236 GE237) hb; have BK238 := Aside0.mk (hbox); have GW238 := cg hg (hq2 HB GE236 GE237); have GE238 := cg hg (hq2 HB GE236 GE237); have NB236_238 := cl hg BK236; have NB238_236 := cr hg BK236; have NB237_238 := cl hg BK237; have NB238_237 := cr hg BK237; replace BK236 := n2_; replace BK237 := n3_; replace HB := n4_; clear n2_ n3_ n4_; clear hb hbox hg; have hnb10 := NB236_237.out; have hnc10 := NB237_236.out; have hnb11 := NB236_238.out; have hnc11 := NB238_236.out; have hcz12_0 : w9.cell? ⟨gb236, 0, none⟩ = some (.slice A0_0 l0_0.length c0_0) := (blk_cell BK236.out 0).trans rfl; have hfz12_0 := blk_frozen BK236.out 0; have hnb13 := NB237_238.out; have hnc13 := NB238_237.out; have hcz14_0 : w9.cell? ⟨gb237, 0, none⟩ = some (.slice A1_0 l1_0.length c1_0) := (blk_cell BK237.out 0).trans rfl; have hfz14_0 := blk_frozen BK237.out 0) | ((with_reducible refine gate_dst (N := 8) rfl ?_); refine Kd.N_lit k25 _ 25 ?hg (N' := 8) ?hd (xs := ([(⟨l0_0⟩ : S25), (⟨l1_0⟩ : S25)] : List (S25))) (inner := [.slice A0_0 l0_0.length c0_0, .slice A1_0 l1_0.length c1_0]) (ok := (fun k_ => ((P0_0_ k_ ∨ P1_0_ k_) ∨ w.heap.size ≤ k_) ∧ k_ ≠ gb236 ∧ k_ ≠ gb237 ∧ k_ ≠ gb238)) (okp := (fun k_ => ((P0_0_ k_ ∨ P1_0_ k_) ∨ w.heap.size ≤ k_) ∧ k_ ≠ gb236 ∧ k_ ≠ gb237 ∧ k_ ≠ gb238)) ?hr ?hp (fun _ hk => hk) ((show ∀ k_, w9.heap.size ≤ k_ → (fun k_ => ((P0_0_ k_ ∨ P1_0_ k_) ∨ w.heap.size ≤ k_) ∧ k_ ≠ gb236 ∧ k_ ≠ gb237 ∧ k_ ≠ gb238) k_ from fun k_ hk => ⟨(.inr (Nat.le_trans (below_size (hq3 HB GE236 GE237 GE238)) hk)), Kd.freshB (g := gb236) (o := .cells #[.slice A0_0 l0_0.length c0_0] 25 (0, 0)) (bq BK236) k_ hk, Kd.freshB (g := gb237) (o := .cells #[.slice A1_0 l1_0.length c1_0] 25 (0, 0)) (bq BK237) k_ hk, Kd.freshB (g := gb238) (o := .cells #[.slice none 0 0] 25 (0, 0)) (bq BK238) k_ hk⟩) _ (Nat.le_refl _)) (Below.refl _ _) (Nat.le_refl _) (by simp) ?_; (case hd => rfl); (case hg => rfl); (case hr => first | (go_simp; done) | (go_simp; rfl)); (case hp => exact (Reps.one (show Kd.FK k25 _ _ (⟨l0_0⟩ : S25) [.slice A0_0 l0_0.length c0_0] from (k25_mkF _ _ (⟨l0_0⟩ : S25) (Kd.V_reads' (Kd.V_mono (ok' := (fun k_ => ((P0_0_ k_ ∨ P1_0_ k_) ∨ w.heap.size ≤ k_) ∧ k_ ≠ gb236 ∧ k_ ≠ gb237 ∧ k_ ≠ gb238)) (HO0_0.out) (fun k_ hk => ⟨hk.1.1.1, ⟨hk.1.1.2, ⟨hk.1.2, hk.2⟩⟩⟩))).2.1 (Kd.V_F (Kd.V_mono (ok' := (fun k_ => ((P0_0_ k_ ∨ P1_0_ k_) ∨ w.heap.size ≤ k_) ∧ k_ ≠ gb236 ∧ k_ ≠ gb237 ∧ k_ ≠ gb238)) (HO0_0.out) (fun k_ hk => ⟨hk.1.1.1, ⟨hk.1.1.2, ⟨hk.1.2, hk.2⟩⟩⟩))))) (Reps.one (show Kd.FK k25 _ _ (⟨l1_0⟩ : S25) [.slice A1_0 l1_0.length c1_0] from (k25_mkF _ _ (⟨l1_0⟩ : S25) (Kd.V_reads' (Kd.V_mono (ok' := (fun k_ => ((P0_0_ k_ ∨ P1_0_ k_) ∨ w.heap.size ≤ k_) ∧ k_ ≠ gb236 ∧ k_ ≠ gb237 ∧ k_ ≠ gb238)) (HO1_0.out) (fun k_ hk => ⟨hk.1.1.1, ⟨hk.1.1.2, ⟨hk.1.2, hk.2⟩⟩⟩))).2.1 (Kd.V_F (Kd.V_mono (ok' := (fun k_ => ((P0_0_ k_ ∨ P1_0_ k_) ∨ w.heap.size ≤ k_) ∧ k_ ≠ gb236 ∧ k_ ≠ gb237 ∧ k_ ≠ gb238)) (HO1_0.out) (fun k_ hk => ⟨hk.1.1.1, ⟨hk.1.1.2, ⟨hk.1.2, hk.2⟩⟩⟩))))) (Reps.none _ _)))); intro v240 w15 ho16 hb hg_ hnew_; clear hg_ hnew_; (first | rw [← Ny239.out] at ho16 | (simp only [Int.reduceToNat] at ho16; rw [← Ny239.out] at ho16)); replace HO0_0 := Aside0.mk (Kd.V_elder' (vq HO0_0) (Kd.N_base ho16) hb); replace HO1_0 := Aside0.mk (Kd.V_elder' (vq HO1_0) (Kd.N_base ho16) hb); have HO241 := Aside0.mk (Kd.N_lower ho16 (below_size (hq3 HB GE236 GE237 GE238))); replace BK236 := cB BK236 hb; replace BK237 := cB BK237 hb; replace BK238 := cB BK238 hb; replace HB := cs (hq3 HB GE236 GE237 GE238) hb; clear hb ho16; obtain ⟨Ao17, co17, eo17⟩ := Kd.N_slice HO241.out; subst eo17) | ((with_reducible refine gate_callee (f := 74) rfl ?_); refine gC (some 9) Try.func74 #[.slice Ao17 y239.length co17] ?_; (with_reducible refine (impl_areBigs.calls k _ _ y239 true _ ?side1 ?side2 A3.out).mono ?_); (case side1 => exact cq ((Kd.N_reads' HO241.out).2.2)); (case side2 => exact (Kd.N_reads' HO241.out).2.1); rintro e w18 ⟨rfl, hb⟩; refine ⟨_, rfl, ?_⟩; replace HO0_0 := Aside0.mk (Kd.V_below (vq HO0_0) hb); replace HO1_0 := Aside0.mk (Kd.V_below (vq HO1_0) hb); replace HO241 := Aside0.mk (Kd.N_below (by (with_reducible repeat (first | apply Kd.N_alloc | apply Kd.N_drewN | apply Kd.N_drew)); exact HO241.out) hb); replace BK236 := cB BK236 hb; replace BK237 := cB BK237 hb; replace BK238 := cB BK238 hb; replace HB := cs (hq3 HB GE236 GE237 GE238) hb; (try clear hb); (try clear hb2); (try clear hk); (try clear hi); have hcz19_0 : w18.cell? ⟨gb236, 0, none⟩ = some (.slice A0_0 l0_0.length c0_0) := (blk_cell BK236.out 0).trans rfl; have hfz19_0 := blk_frozen BK236.out 0; have hcz20_0 : w18.cell? ⟨gb237, 0, none⟩ = some (.slice A1_0 l1_0.length c1_0) := (blk_cell BK237.out 0).trans rfl; have hfz20_0 := blk_frozen BK237.out 0) | ((with_reducible refine gate_callee (f := 76) rfl ?_); refine gC (some 16) Try.func76 #[.slice A0_0 l0_0.length c0_0, .slice A1_0 l1_0.length c1_0] ?_; (with_reducible refine (impl_sum.calls k _ _ l0_0 _ _ l1_0 t243 _ ?side1 ?side2 ?side3 ?side4 A5.out).mono ?_); (case side1 => exact cq ((Kd.V_reads' HO0_0.out).2.2)); (case side2 => exact (Kd.V_reads' HO0_0.out).2.1); (case side3 => exact cq ((Kd.V_reads' HO1_0.out).2.2)); (case side4 => exact (Kd.V_reads' HO1_0.out).2.1); rintro e w21 ⟨v244, rfl, ho0, hb⟩; refine ⟨_, rfl, ?_⟩; replace HO0_0 := Aside0.mk (vb HO0_0 ho0 hb); replace HO1_0 := Aside0.mk (vb HO1_0 ho0 hb); replace HO241 := Aside0.mk (Kd.N_elder' (by (with_reducible repeat (first | apply Kd.N_alloc | apply Kd.N_drewN | apply Kd.N_drew)); exact HO241.out) (Kd.R_base ho0) hb); have HO245 := Aside0.mk (Kd.R_lower (Kd.R_newM (M := fun k_ => (w.heap.size ≤ k_)) ho0 (below_size (hq3 HB GE236 GE237 GE238)) (fun k_ h_ => h_)) (below_size (hq3 HB GE236 GE237 GE238))); replace BK236 := cB BK236 hb; replace BK237 := cB BK237 hb; replace BK238 := cB BK238 hb; replace HB := cs (hq3 HB GE236 GE237 GE238) hb; (try clear hb); (try clear hb2); (try clear hk); (try clear hi); (try clear ho0); obtain ⟨Ao22, co22, eo22⟩ := Kd.R_slice HO245.out; subst eo22) | ((with_reducible refine gate_callee (f := 75) rfl ?_); refine gC (some 17) Try.func75 #[.slice Ao22 t243.length co22] ?_; (with_reducible refine (impl_told.calls k (fun k_ => some k_ = (.slice Ao22 t243.length co22 : Value).ownBlock) (.slice Ao22 t243.length co22) t243 t246 t249 w _ ?side1 ?side2 A6.out).mono ?_); (case side1 => repeat (first | (with_reducible first | exact HB.out | apply below_alloc | apply pw_below_drewN | apply below_drew1 | refine below_set ?_ GE236.out | refine below_set ?_ GE237.out | refine below_set ?_ GE238.out) | exact HB.out)); (case side2 => exact Kd.R_tight rfl HO245.out); rintro e w23 ⟨v247, rfl, ho0, hb, hkp⟩; refine ⟨_, rfl, ?_⟩; replace HO0_0 := Aside0.mk (Kd.V_mono (ok' := fun k_ => ((P0_0_ k_ ∨ P1_0_ k_) ∨ w.heap.size ≤ k_) ∧ some k_ ≠ (.slice Ao17 y239.length co17 : Value).ownBlock ∧ k_ ≠ gb236 ∧ k_ ≠ gb237 ∧ k_ ≠ gb238 ∧ some k_ ≠ (v247 : Value).ownBlock) (Kd.V_keptB (HO0_0.out) hkp (fun k_ hk_ hs_ => (hk_.2) hs_)) (fun k_ hk_ => ⟨hk_.1.1.1.1.1.1, hk_.1.1.2, hk_.1.1.1.1.1.2, hk_.1.1.1.1.2, hk_.1.1.1.2, fun e_ => Or.elim (ho0.1 k_ e_.symm) (fun hs_ => hk_.2.1 hs_) (fun hn_ => Nat.not_le.2 hk_.2.2 hn_)⟩)); replace HO1_0 := Aside0.mk (Kd.V_mono (ok' := fun k_ => ((P0_0_ k_ ∨ P1_0_ k_) ∨ w.heap.size ≤ k_) ∧ some k_ ≠ (.slice Ao17 y239.length co17 : Value).ownBlock ∧ k_ ≠ gb236 ∧ k_ ≠ gb237 ∧ k_ ≠ gb238 ∧ some k_ ≠ (v247 : Value).ownBlock) (Kd.V_keptB (HO1_0.out) hkp (fun k_ hk_ hs_ => (hk_.2) hs_)) (fun k_ hk_ => ⟨hk_.1.1.1.1.1.1, hk_.1.1.2, hk_.1.1.1.1.1.2, hk_.1.1.1.1.2, hk_.1.1.1.2, fun e_ => Or.elim (ho0.1 k_ e_.symm) (fun hs_ => hk_.2.1 hs_) (fun hn_ => Nat.not_le.2 hk_.2.2 hn_)⟩)); replace BK236 := Aside0.mk (blk_kept (bq BK236) hkp (fun hs_ => (fun e_ => (Kd.R_ne HO245.out BK236.out (by decide)) e_) hs_)); replace BK237 := Aside0.mk (blk_kept (bq BK237) hkp (fun hs_ => (fun e_ => (Kd.R_ne HO245.out BK237.out (by decide)) e_) hs_)); replace BK238 := Aside0.mk (blk_kept (bq BK238) hkp (fun hs_ => (fun e_ => (Kd.R_ne HO245.out BK238.out (by decide)) e_) hs_)); replace HO241 := Aside0.mk (Kd.N_mono (ok' := fun k_ => ((P0_0_ k_ ∨ P1_0_ k_) ∨ w.heap.size ≤ k_) ∧ k_ ≠ gb236 ∧ k_ ≠ gb237 ∧ k_ ≠ gb238 ∧ some k_ ≠ (v247 : Value).ownBlock) (Kd.N_keptB (HO241.out) hkp (fun k_ hk_ hs_ => (hk_.2) hs_)) (fun k_ hk_ => ⟨hk_.1.1.1, hk_.1.1.2.1, hk_.1.1.2.2.1, hk_.1.1.2.2.2, fun e_ => Or.elim (ho0.1 k_ e_.symm) (fun hs_ => hk_.2.1 hs_) (fun hn_ => Nat.not_le.2 hk_.2.2 hn_)⟩)); have HO248 := Aside0.mk (Kd.R_mono (ok' := fun k_ => (w.heap.size ≤ k_)) ho0 (fun k_ hk_ => Or.elim hk_ (fun hs_ => (HO245.out.1 k_ (hs_).symm).1) (fun hn_ => (Nat.le_trans (below_size (hq3 HB GE236 GE237 GE238)) hn_)))); replace HB := Aside0.mk (hb); clear HO245; (try clear hb); (try clear hkp); (try clear ho0); obtain ⟨Ao24, co24, eo24⟩ := Kd.R_slice HO248.out; subst eo24; have hcz25_0 : w23.cell? ⟨gb238, 0, none⟩ = some (.slice none 0 0) := (blk_cell BK238.out 0).trans rfl; have hfz25_0 := blk_frozen BK238.out 0))
 refine bodyPost_ret (results_ct rfl _ _ gb238 25 #[.slice Ao24 t246.length co24] (0, 0) _ rfl (by (with_reducible repeat (first | refine blk_drewN ?_ _ | refine blk_drew ?_ | refine blk_alloc ?_ _)); refine blk_put (cs := #[.slice none 0 0]) ?_ 0 _ rfl; (with_reducible repeat (first | refine blk_drewN ?_ _ | refine blk_drew ?_ | refine blk_alloc ?_ _)); exact BK238.out) Try.underlying25 rfl (by kernel_rfl)) rfl ?_
 exact ⟨_, by first | rfl | (simp <;> rfl) | (simp [*] <;> rfl), by (with_reducible repeat (first | apply Kd.R_alloc | apply Kd.R_drewN | apply Kd.R_drew)); exact Kd.R_mono (Kd.R_far (p := ⟨gb238, 0, none⟩) (Kd.R_types HO248.out BK238.out (by decide)) (fun _ hk => hk.2) (.slice Ao24 t246.length co24)) (fun _ hk => hk.1), hq3 HB GE236 GE237 GE238⟩
/-! ### spec_l1Both: function 77 -/
def spec_l1Both.f (k : Nat) (l0_0 : List Int) (l1_0 : List Int) : Option (Bool) := (spec_GoodBig.f k l0_0).bind fun t252 => (if t252 = true then ((spec_GoodBig.f k l1_0).bind fun t253 => (some t253)) else (some false))
set_option maxHeartbeats 8000000 in
set_option maxRecDepth 100000 in
theorem spec_l1Both.calls (k : Nat) (A0_0 : Option Addr) (c0_0 : Nat) (l0_0 : List Int) (A1_0 : Option Addr) (c1_0 : Nat) (l1_0 : List Int) (r : Bool) (w : World) (hr0_0 : Kd.C (Kd.int .i64) w A0_0 l0_0.length l0_0) (hc0_0 : l0_0.length ≤ c0_0) (hr1_0 : Kd.C (Kd.int .i64) w A1_0 l1_0.length l1_0) (hc1_0 : l1_0.length ≤ c1_0) (h : spec_l1Both.f k l0_0 l1_0 = some r) :
    Calls Try.prog 77 #[.agg #[.slice A0_0 l0_0.length c0_0], .agg #[.slice A1_0 l1_0.length c1_0]] w fun e w' => e = .returned (.bool r) ∧ Below w.heap.size w w' := by
 have hu25 := Try.underlying25; have HR0_0 := Aside0.mk hr0_0; have HC0_0 := Aside0.mk hc0_0; clear hr0_0 hc0_0; have HR1_0 := Aside0.mk hr1_0; have HC1_0 := Aside0.mk hc1_0; clear hr1_0 hc1_0; have HB := Aside0.mk (Below.refl w.heap.size w)
 have H : ((spec_GoodBig.f k l0_0).bind fun t252 => (if t252 = true then ((spec_GoodBig.f k l1_0).bind fun t253 => (some t253)) else (some false))) = some r := h
 clear h; replace H := Option.bind_eq_some_iff.mp H; obtain ⟨t252, A30, H⟩ := H; (try dsimp only at H); have A3 := Aside0.mk A30; clear A30
 by_cases c4 : t252 = true
 rotate_left
 · replace c4 := Bool.eq_false_iff.mpr c4
   subst c4
   have H1 : (some false) = some r := by rw [if_neg (show ¬ (false = true) by decide)] at H; exact H
   clear H; have H := H1; clear H1; obtain rfl := Option.some.inj H
   go_enter Try.func77, Try.ntmps77
   go_wp2_with (first | ((with_reducible refine gate_dst (N := 2) rfl ?_); refine bX #[.slice A0_0 l0_0.length c0_0] 25 ?_; intro gb250 hg w13 hbox hb; have n0_ := cs (hq HB) hb; have BK250 := Aside0.mk (hbox); have GW250 := cg hg (hq HB); have GE250 := cg hg (hq HB); replace HB := n0_; clear n0_; clear hb hbox hg) | ((with_reducible refine gate_dst (N := 3) rfl ?_); refine bX #[.slice A1_0 l1_0.length c1_0] 25 ?_; intro gb251 hg w14 hbox hb; have n0_ := cB BK250 hb; have n1_ := cs (hq1 HB GE250) hb; have BK251 := Aside0.mk (hbox); have GW251 := cg hg (hq1 HB GE250); have GE251 := cg hg (hq1 HB GE250); have NB250_251 := cl hg BK250; have NB251_250 := cr hg BK250; replace BK250 := n0_; replace HB := n1_; clear n0_ n1_; clear hb hbox hg; have hnb15 := NB250_251.out; have hnc15 := NB251_250.out; have hcz16_0 : w14.cell? ⟨gb250, 0, none⟩ = some (.slice A0_0 l0_0.length c0_0) := (blk_cell BK250.out 0).trans rfl; have hfz16_0 := blk_frozen BK250.out 0) | ((with_reducible refine gate_callee (f := 20) rfl ?_); refine gC (some 6) Try.func20 #[.agg #[.slice A0_0 l0_0.length c0_0]] ?_; (with_reducible refine (spec_GoodBig.calls k _ _ l0_0 false _ ?side1 ?side2 A3.out).mono ?_); (case side1 => exact cq (Kd.C_below HR0_0.out HB.out)); (case side2 => exact HC0_0.out); rintro e w17 ⟨rfl, hb⟩; refine ⟨_, rfl, ?_⟩; replace BK250 := cB BK250 hb; replace BK251 := cB BK251 hb; replace HB := cs (hq2 HB GE250 GE251) hb; (try clear hb); (try clear hb2); (try clear hk); (try clear hi)))
   go_ret
   exact ⟨by first | rfl | (simp <;> rfl) | (simp [*] <;> rfl), hq2 HB GE250 GE251⟩

 subst c4
 have H1 : ((spec_GoodBig.f k l1_0).bind fun t253 => (some t253)) = some r := by rw [if_pos rfl] at H; exact H
 clear H; have H := H1; clear H1; replace H := Option.bind_eq_some_iff.mp H; obtain ⟨t253, A50, H⟩ := H; (try dsimp only at H); have A5 := Aside0.mk A50; clear A50; obtain rfl := Option.some.inj H
 go_enter Try.func77, Try.ntmps77
 go_wp2_with (first | ((with_reducible refine gate_dst (N := 2) rfl ?_); refine bX #[.slice A0_0 l0_0.length c0_0] 25 ?_; intro gb250 hg w6 hbox hb; have n0_ := cs (hq HB) hb; have BK250 := Aside0.mk (hbox); have GW250 := cg hg (hq HB); have GE250 := cg hg (hq HB); replace HB := n0_; clear n0_; clear hb hbox hg) | ((with_reducible refine gate_dst (N := 3) rfl ?_); refine bX #[.slice A1_0 l1_0.length c1_0] 25 ?_; intro gb251 hg w7 hbox hb; have n0_ := cB BK250 hb; have n1_ := cs (hq1 HB GE250) hb; have BK251 := Aside0.mk (hbox); have GW251 := cg hg (hq1 HB GE250); have GE251 := cg hg (hq1 HB GE250); have NB250_251 := cl hg BK250; have NB251_250 := cr hg BK250; replace BK250 := n0_; replace HB := n1_; clear n0_ n1_; clear hb hbox hg; have hnb8 := NB250_251.out; have hnc8 := NB251_250.out; have hcz9_0 : w7.cell? ⟨gb250, 0, none⟩ = some (.slice A0_0 l0_0.length c0_0) := (blk_cell BK250.out 0).trans rfl; have hfz9_0 := blk_frozen BK250.out 0) | ((with_reducible refine gate_callee (f := 20) rfl ?_); refine gC (some 6) Try.func20 #[.agg #[.slice A0_0 l0_0.length c0_0]] ?_; (with_reducible refine (spec_GoodBig.calls k _ _ l0_0 true _ ?side1 ?side2 A3.out).mono ?_); (case side1 => exact cq (Kd.C_below HR0_0.out HB.out)); (case side2 => exact HC0_0.out); rintro e w10 ⟨rfl, hb⟩; refine ⟨_, rfl, ?_⟩; replace BK250 := cB BK250 hb; replace BK251 := cB BK251 hb; replace HB := cs (hq2 HB GE250 GE251) hb; (try clear hb); (try clear hb2); (try clear hk); (try clear hi); have hcz11_0 : w10.cell? ⟨gb251, 0, none⟩ = some (.slice A1_0 l1_0.length c1_0) := (blk_cell BK251.out 0).trans rfl; have hfz11_0 := blk_frozen BK251.out 0) | (go_at_call 20; (with_reducible refine (spec_GoodBig.calls k _ _ l1_0 t253 _ ?side1 ?side2 A5.out).mono ?_); (case side1 => exact cq (Kd.C_below HR1_0.out HB.out)); (case side2 => exact HC1_0.out); rintro e w12 ⟨rfl, hb⟩; replace BK250 := cB BK250 hb; replace BK251 := cB BK251 hb; replace HB := cs (hq2 HB GE250 GE251) hb; (try clear hb); (try clear hb2); (try clear hk); (try clear hi)))
 go_ret
 exact ⟨by first | rfl | (simp <;> rfl) | (simp [*] <;> rfl), hq2 HB GE250 GE251⟩
/-! ### spec_l1At: function 90 -/
def spec_l1At.f (l0 : List Int) (a1 : Int) : Option (Int) := if a1 < (l0.length : Int) then (if 0 ≤ a1 then (some (rd l0 a1)) else (none)) else (some 0)
set_option maxHeartbeats 8000000 in
set_option maxRecDepth 100000 in
theorem spec_l1At.calls (A0 : Option Addr) (c0 : Nat) (l0 : List Int) (a1 : Int) (r : Int) (w : World) (hr0 : Kd.C (Kd.int .i64) w A0 l0.length l0) (hc0 : l0.length ≤ c0) (h : spec_l1At.f l0 a1 = some r) :
    Calls Try.prog 90 #[.slice A0 l0.length c0, .int .i64 a1] w fun e w' => e = .returned (.int .i64 r) ∧ Drawn0 w w' := by
 have HR0 := Aside0.mk hr0; have HC0 := Aside0.mk hc0; clear hr0 hc0
 have H : (if a1 < (l0.length : Int) then (if 0 ≤ a1 then (some (rd l0 a1)) else (none)) else (some 0)) = some r := h
 clear h
 by_cases c3 : a1 < (l0.length : Int)
 rotate_left
 · rw [if_neg c3] at H
   have c3b0 : decide (a1 < (l0.length : Int)) = false := decide_eq_false c3
   clear c3; obtain rfl := Option.some.inj H
   go_enter Try.func90, Try.ntmps90
   go_wp2
   go_ret
   exact ⟨by first | rfl | (simp; done) | (simp [*]; done), by repeat (first | exact Drawn0.refl _ | apply Drawn0.step)⟩

 rw [if_pos c3] at H
 have c3b0 : decide (a1 < (l0.length : Int)) = true := decide_eq_true c3
 clear c3
 by_cases c4 : 0 ≤ a1
 rotate_left
 · rw [if_neg c4] at H
   exact absurd H (by simp)
 rw [if_pos c4] at H
 have c4b0 : decide (0 ≤ a1) = true := decide_eq_true c4
 clear c4; obtain rfl := Option.some.inj H
 have p254 : 0 ≤ (a1 : Int) := of_decide_eq_true (by first | (with_reducible assumption) | assumption)
 have q254 : a1 < (l0.length : Int) := of_decide_eq_true (by first | (with_reducible assumption) | assumption)
 obtain ⟨ad254, e254, hx254_0⟩ := Kd.at_int HR0.out a1 p254 q254
 cases e254
 replace p254 := eq_true p254; replace q254 := eq_true q254
 go_enter Try.func90, Try.ntmps90
 go_wp2
 go_ret
 exact ⟨by first | rfl | (simp; done) | (simp [*]; done), by repeat (first | exact Drawn0.refl _ | apply Drawn0.step)⟩
end Go.Proofs.Ytadooofomkdaoaa.QFnLimbs
