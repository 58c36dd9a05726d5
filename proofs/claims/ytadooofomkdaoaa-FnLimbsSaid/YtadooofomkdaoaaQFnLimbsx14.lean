import Derived.Test.YtadooofomkdaoaaSqueez2
import Derived.Test.YtadooofomkdaoaaQFnLimbsx0
import Derived.Test.YtadooofomkdaoaaQFnLimbsx1
import Derived.Test.YtadooofomkdaoaaQFnLimbsx5
import Derived.Test.YtadooofomkdaoaaQFnLimbsx10
namespace Go.Proofs.Ytadooofomkdaoaa.QFnLimbs
open Go.RowKit Go.Proofs.YtadooofomkdaoaaW.PrintWords Go.Proofs.YtadooofomkdaoaaW.PrintLast Go.Proofs.YtadooofomkdaoaaW.PrintMore
attribute [local go_sem] max2_int min2_int max_two min_two max_three min_three max_four min_four   -- for this text's walks alone
set_option linter.unusedVariables false
set_option linter.unusedSimpArgs false

/-! ### spec_DrawBigOf: function 33 -/
def spec_DrawBigOf.f (l0 : List Int) : Option (Int) := (spec_l1Cur_pick.f l0 0 0 256).bind fun bt648 => ((spec_l1Cur_among.f l0 bt648.2.1 bt648.2.2 (([(-1), 0, 1, 65535, 65536, 1099511627776, 4611686018427387911, bt648.1] : List Int))).bind fun bt654 => (some bt654.1))
set_option maxHeartbeats 8000000 in
set_option maxRecDepth 100000 in
theorem spec_DrawBigOf.calls (A0 : Option Addr) (c0 : Nat) (l0 : List Int) (r : Int) (w : World) (hr0 : Kd.C (Kd.int .u8) w A0 l0.length l0) (hc0 : l0.length ≤ c0) (h : spec_DrawBigOf.f l0 = some r) :
    Calls Try.prog 33 #[.slice A0 l0.length c0] w fun e w' => e = .returned (.int .i64 r) ∧ Below w.heap.size w w' := by
 have hu78 := Try.underlying78; have HR0 := Aside0.mk hr0; have HC0 := Aside0.mk hc0; clear hr0 hc0; have HB := Aside0.mk (Below.refl w.heap.size w)
 have H : ((spec_l1Cur_pick.f l0 0 0 256).bind fun bt648 => ((spec_l1Cur_among.f l0 bt648.2.1 bt648.2.2 (([(-1), 0, 1, 65535, 65536, 1099511627776, 4611686018427387911, bt648.1] : List Int))).bind fun bt654 => (some bt654.1))) = some r := h
 clear h; replace H := Option.bind_eq_some_iff.mp H; obtain ⟨⟨t648, t649, t650⟩, A20, H⟩ := H; (try dsimp only at H); have A2 := Aside0.mk A20; clear A20; obtain ⟨y651, hy651⟩ : ∃ y_ : List Int, y_ = (([(-1), 0, 1, 65535, 65536, 1099511627776, 4611686018427387911, t648] : List Int)) := ⟨_, rfl⟩
 replace H : ((spec_l1Cur_among.f l0 t649 t650 y651).bind fun bt654 => (some bt654.1)) = some r := by first | (rw [hy651]; with_reducible exact H) | (have H2_ := (Option.bind_some _ _).symm.trans H; rw [hy651]; with_reducible exact H2_) | (have H2_ := (Option.bind_some _ _).symm.trans H; with_reducible exact H2_) | with_reducible exact H | (rw [hy651]; exact H) | exact H
 have Ny651 := Aside0.mk hy651; clear hy651; replace H := Option.bind_eq_some_iff.mp H; obtain ⟨⟨t654, t655, t656⟩, A30, H⟩ := H; (try dsimp only at H); have A3 := Aside0.mk A30; clear A30; obtain rfl := Option.some.inj H
 go_enter Try.func33, Try.ntmps33
 go_wp2_with (first | ((with_reducible refine gate_dst (N := 6) rfl ?_); refine bX #[.slice A0 l0.length c0, .int .i64 0, .int .u64 0] 78 ?_; intro gb647 hg w4 hbox hb; have n0_ := cs (hq HB) hb; have GW647 := cg hg (hq HB); have GE647 := cg hg (hq HB); have HI647 := Aside0.mk ((⟨_, _, hbox, (by rw [hg]; exact (below_size (hq HB))), HR0.out⟩ : IsS78 w w4 gb647 l0 0 0)); replace HB := n0_; clear n0_; clear hb hbox hg) | ((with_reducible refine gate_callee (f := 101) rfl ?_); refine gC (some 9) Try.func101 #[.pointer (some ⟨gb647, 0, none⟩), .int .i64 256] ?_; (with_reducible refine (spec_l1Cur_pick.calls gb647 l0 0 0 256 t648 t649 t650 w _ ?side1 ?side2 A2.out).mono ?_); (case side1 => exact iq78 HI647); (case side2 => repeat (first | (with_reducible first | exact HB.out | apply below_alloc | apply pw_below_drewN | apply below_drew1 | refine below_set ?_ (IsS78.ge HI647.out)) | exact HB.out)); rintro e w5 ⟨rfl, hi, hb, hk⟩; refine ⟨_, rfl, ?_⟩; replace HB := Aside0.mk (hb); replace HI647 := Aside0.mk (hi); (try clear hb); (try clear hb2); (try clear hk); (try clear hi)) | ((with_reducible refine gate_dst (N := 10) rfl ?_); refine Kd.R_lit (Kd.int .i64) _ 3 ?hg (N := 10) ?hd (xs := ([(-1), 0, 1, 65535, 65536, 1099511627776, 4611686018427387911, t648] : List Int)) (inner := [.int .i64 (-1), .int .i64 0, .int .i64 1, .int .i64 65535, .int .i64 65536, .int .i64 1099511627776, .int .i64 4611686018427387911, .int .i64 t648]) (ok := fun _ => True) (okp := fun _ => True) ?hr ?hp (fun _ hk => hk) trivial (Below.refl _ _) (Nat.le_refl _) (by simp) ?_; (case hd => rfl); (case hg => rfl); (case hr => first | (go_simp; done) | (go_simp; rfl)); (case hp => exact (Reps.one (show Kd.M (Kd.int .i64) _ _ _ (-1) [.int .i64 (-1)] from rfl) (Reps.one (show Kd.M (Kd.int .i64) _ _ _ 0 [.int .i64 0] from rfl) (Reps.one (show Kd.M (Kd.int .i64) _ _ _ 1 [.int .i64 1] from rfl) (Reps.one (show Kd.M (Kd.int .i64) _ _ _ 65535 [.int .i64 65535] from rfl) (Reps.one (show Kd.M (Kd.int .i64) _ _ _ 65536 [.int .i64 65536] from rfl) (Reps.one (show Kd.M (Kd.int .i64) _ _ _ 1099511627776 [.int .i64 1099511627776] from rfl) (Reps.one (show Kd.M (Kd.int .i64) _ _ _ 4611686018427387911 [.int .i64 4611686018427387911] from rfl) (Reps.one (show Kd.M (Kd.int .i64) _ _ _ t648 [.int .i64 t648] from rfl) (Reps.none _ _)))))))))); intro v652 w6 ho7 hb hg_ hnew_; clear hg_ hnew_; (first | rw [← Ny651.out] at ho7 | (simp only [Int.reduceToNat] at ho7; rw [← Ny651.out] at ho7)); have HO653 := Aside0.mk (Kd.R_lower ho7 (below_size (by repeat (first | (with_reducible first | exact HB.out | apply below_alloc | apply pw_below_drewN | apply below_drew1 | refine below_set ?_ (IsS78.ge HI647.out)) | exact HB.out)))); have n1_ := Aside0.mk (IsS78.below (by exact iq78 HI647) hb); replace HB := Aside0.mk (below_step (by repeat (first | (with_reducible first | exact HB.out | apply below_alloc | apply pw_below_drewN | apply below_drew1 | refine below_set ?_ (IsS78.ge HI647.out)) | exact HB.out)) hb); replace HI647 := n1_; clear n1_; clear hb ho7; obtain ⟨Ao8, co8, eo8⟩ := Kd.R_slice HO653.out; subst eo8) | ((with_reducible refine gate_callee (f := 98) rfl ?_); refine gC (some 11) Try.func98 #[.pointer (some ⟨gb647, 0, none⟩), .slice Ao8 y651.length co8] ?_; (with_reducible refine (spec_l1Cur_among.calls gb647 l0 t649 t650 _ _ y651 t654 t655 t656 w _ ?side1 ?side2 ?side3 ?side4 ?side5 A3.out).mono ?_); (case side1 => exact iq78 HI647); (case side2 => repeat (first | (with_reducible first | exact HB.out | apply below_alloc | apply pw_below_drewN | apply below_drew1 | refine below_set ?_ (IsS78.ge HI647.out)) | exact HB.out)); (case side3 => exact cq ((Kd.R_reads' HO653.out).2.2)); (case side4 => exact (Kd.R_reads' HO653.out).2.1); (case side5 => exact far_slice (IsS78.own_ne HI647.out HO653.out (by decide))); rintro e w9 ⟨rfl, hi, hb, hk⟩; refine ⟨_, rfl, ?_⟩; replace HO653 := Aside0.mk (Kd.R_mono (Kd.R_keep (IsS78.apart (show IsS78 w _ gb647 l0 t649 t650 from by exact iq78 HI647) (rq HO653) (by decide)) hk (fun _ h => h.2)) (fun _ h => h.1)); replace HB := Aside0.mk (hb); replace HI647 := Aside0.mk (hi); (try clear hb); (try clear hb2); (try clear hk); (try clear hi)))
 go_ret
 exact ⟨by first | rfl | (simp <;> rfl) | (simp [*] <;> rfl), by repeat (first | (with_reducible first | exact HB.out | apply below_alloc | apply pw_below_drewN | apply below_drew1 | refine below_set ?_ (IsS78.ge HI647.out)) | exact HB.out)⟩

/-! ### impl_BigOf: function 34 -/
def impl_BigOf.f (k : Nat) (a0 : Int) : Option (List Int × Bool) := if a0 < 0 then (some (([] : List Int), false)) else ((impl_bigOf.f k a0).bind fun t658 => (some (t658, true)))
set_option maxHeartbeats 8000000 in
set_option maxRecDepth 100000 in
theorem impl_BigOf.calls (k : Nat) (a0 : Int) (r1 : List Int) (r2 : Bool) (w : World) (h : impl_BigOf.f k a0 = some (r1, r2)) :
    Calls Try.prog 34 #[.int .i64 a0] w fun e w' => ∃ v0_ : Value, e = .returned (.tuple #[.agg #[v0_], .bool r2]) ∧ Kd.R (Kd.int .i64) 3 w' w.heap.size (fun _ => True) v0_ r1 ∧ Below w.heap.size w w' := by
 have hu25 := Try.underlying25; have HB := Aside0.mk (Below.refl w.heap.size w)
 have H : (if a0 < 0 then (some (([] : List Int), false)) else ((impl_bigOf.f k a0).bind fun t658 => (some (t658, true)))) = some (r1, r2) := h
 clear h
 by_cases c2 : a0 < 0
 · rw [if_pos c2] at H
   have c2b0 : decide (a0 < 0) = true := decide_eq_true c2
   clear c2
   simp only [Option.some.injEq, Prod.mk.injEq] at H
   obtain ⟨rfl, rfl⟩ := H
   go_enter Try.func34, Try.ntmps34
   go_wp2_with (first | ((with_reducible refine gate_dst (N := 2) rfl ?_); refine bX #[.slice none 0 0] 25 ?_; intro gb657 hg w3 hbox hb; have n0_ := cs (hq HB) hb; have BK657 := Aside0.mk (hbox); have GW657 := cg hg (hq HB); have GE657 := cg hg (hq HB); replace HB := n0_; clear n0_; clear hb hbox hg; have hcz4_0 : w3.cell? ⟨gb657, 0, none⟩ = some (.slice none 0 0) := (blk_cell BK657.out 0).trans rfl; have hfz4_0 := blk_frozen BK657.out 0))
   refine bodyPost_ret (results_ct rfl _ _ gb657 25 #[.slice none 0 0] (0, 0) _ rfl (by (with_reducible repeat (first | refine blk_drewN ?_ _ | refine blk_drew ?_ | refine blk_alloc ?_ _)); refine blk_put (cs := #[.slice none 0 0]) ?_ 0 _ rfl; (with_reducible repeat (first | refine blk_drewN ?_ _ | refine blk_drew ?_ | refine blk_alloc ?_ _)); exact BK657.out) Try.underlying25 rfl (by kernel_rfl)) rfl ?_
   exact ⟨_, by first | rfl | (simp <;> rfl) | (simp [*] <;> rfl), by first | exact Kd.R_nil _ _ _ _ _ | exact Kd.R_nil _ _ _ 0 _ | exact Kd.N_nil _ _ _ _ _ | exact Kd.V_nil _ _ _ _ _ | exact Kd.Q_nil _ _ _ _ _ | exact Kd.S_nil _ _ _ _ _, hq1 HB GE657⟩
 rw [if_neg c2] at H
 have c2b0 : decide (a0 < 0) = false := decide_eq_false c2
 clear c2; replace H := Option.bind_eq_some_iff.mp H; obtain ⟨t658, A50, H⟩ := H; (try dsimp only at H); have A5 := Aside0.mk A50; clear A50
 simp only [Option.some.injEq, Prod.mk.injEq] at H
 obtain ⟨rfl, rfl⟩ := H
 go_enter Try.func34, Try.ntmps34
 go_wp2_with (first | ((with_reducible refine gate_dst (N := 2) rfl ?_); refine bX #[.slice none 0 0] 25 ?_; intro gb657 hg w6 hbox hb; have n0_ := cs (hq HB) hb; have BK657 := Aside0.mk (hbox); have GW657 := cg hg (hq HB); have GE657 := cg hg (hq HB); replace HB := n0_; clear n0_; clear hb hbox hg) | ((with_reducible refine gate_callee (f := 94) rfl ?_); refine gC (some 8) Try.func94 #[.int .i64 a0] ?_; (with_reducible refine (impl_bigOf.calls k a0 t658 _ A5.out).mono ?_); rintro e w7 ⟨v659, rfl, ho0, hb⟩; refine ⟨_, rfl, ?_⟩; have HO660 := Aside0.mk (Kd.R_lower ho0 (below_size (hq1 HB GE657))); replace BK657 := cB BK657 hb; replace HB := cs (hq1 HB GE657) hb; (try clear hb); (try clear hb2); (try clear hk); (try clear hi); (try clear ho0); obtain ⟨Ao8, co8, eo8⟩ := Kd.R_slice HO660.out; subst eo8; have hcz9_0 : w7.cell? ⟨gb657, 0, none⟩ = some (.slice none 0 0) := (blk_cell BK657.out 0).trans rfl; have hfz9_0 := blk_frozen BK657.out 0))
 refine bodyPost_ret (results_ct rfl _ _ gb657 25 #[.slice Ao8 t658.length co8] (0, 0) _ rfl (by (with_reducible repeat (first | refine blk_drewN ?_ _ | refine blk_drew ?_ | refine blk_alloc ?_ _)); refine blk_put (cs := #[.slice none 0 0]) ?_ 0 _ rfl; (with_reducible repeat (first | refine blk_drewN ?_ _ | refine blk_drew ?_ | refine blk_alloc ?_ _)); exact BK657.out) Try.underlying25 rfl (by kernel_rfl)) rfl ?_
 exact ⟨_, by first | rfl | (simp <;> rfl) | (simp [*] <;> rfl), by (with_reducible repeat (first | apply Kd.R_alloc | apply Kd.R_drewN | apply Kd.R_drew)); exact Kd.R_mono (Kd.R_far (p := ⟨gb657, 0, none⟩) (Kd.R_types HO660.out BK657.out (by decide)) (fun _ hk => hk.2) (.slice Ao8 t658.length co8)) (fun _ hk => trivial), hq1 HB GE657⟩

/-! ### spec_BigOf: function 35 -/
def spec_BigOf.f (k : Nat) (a0 : Int) : Option (List Int × Bool) := if a0 < 0 then (some (([] : List Int), false)) else ((spec_l1Of.f k a0).bind fun t662 => ((spec_l1Tell.f k t662).bind fun bt665 => (some (bt665.1, bt665.2))))
set_option maxHeartbeats 8000000 in
set_option maxRecDepth 100000 in
theorem spec_BigOf.calls (k : Nat) (a0 : Int) (r1 : List Int) (r2 : Bool) (w : World) (h : spec_BigOf.f k a0 = some (r1, r2)) :
    Calls Try.prog 35 #[.int .i64 a0] w fun e w' => ∃ v0_ : Value, e = .returned (.tuple #[.agg #[v0_], .bool r2]) ∧ Kd.R (Kd.int .i64) 3 w' w.heap.size (fun _ => True) v0_ r1 ∧ Below w.heap.size w w' := by
 have hu25 := Try.underlying25; have HB := Aside0.mk (Below.refl w.heap.size w)
 have H : (if a0 < 0 then (some (([] : List Int), false)) else ((spec_l1Of.f k a0).bind fun t662 => ((spec_l1Tell.f k t662).bind fun bt665 => (some (bt665.1, bt665.2))))) = some (r1, r2) := h
 clear h
 by_cases c2 : a0 < 0
 · rw [if_pos c2] at H
   have c2b0 : decide (a0 < 0) = true := decide_eq_true c2
   clear c2
   simp only [Option.some.injEq, Prod.mk.injEq] at H
   obtain ⟨rfl, rfl⟩ := H
   go_enter Try.func35, Try.ntmps35
   go_wp2_with (first | ((with_reducible refine gate_dst (N := 2) rfl ?_); refine bX #[.slice none 0 0] 25 ?_; intro gb661 hg w3 hbox hb; have n0_ := cs (hq HB) hb; have BK661 := Aside0.mk (hbox); have GW661 := cg hg (hq HB); have GE661 := cg hg (hq HB); replace HB := n0_; clear n0_; clear hb hbox hg; have hcz4_0 : w3.cell? ⟨gb661, 0, none⟩ = some (.slice none 0 0) := (blk_cell BK661.out 0).trans rfl; have hfz4_0 := blk_frozen BK661.out 0))
   refine bodyPost_ret (results_ct rfl _ _ gb661 25 #[.slice none 0 0] (0, 0) _ rfl (by (with_reducible repeat (first | refine blk_drewN ?_ _ | refine blk_drew ?_ | refine blk_alloc ?_ _)); refine blk_put (cs := #[.slice none 0 0]) ?_ 0 _ rfl; (with_reducible repeat (first | refine blk_drewN ?_ _ | refine blk_drew ?_ | refine blk_alloc ?_ _)); exact BK661.out) Try.underlying25 rfl (by kernel_rfl)) rfl ?_
   exact ⟨_, by first | rfl | (simp <;> rfl) | (simp [*] <;> rfl), by first | exact Kd.R_nil _ _ _ _ _ | exact Kd.R_nil _ _ _ 0 _ | exact Kd.N_nil _ _ _ _ _ | exact Kd.V_nil _ _ _ _ _ | exact Kd.Q_nil _ _ _ _ _ | exact Kd.S_nil _ _ _ _ _, hq1 HB GE661⟩
 rw [if_neg c2] at H
 have c2b0 : decide (a0 < 0) = false := decide_eq_false c2
 clear c2; replace H := Option.bind_eq_some_iff.mp H; obtain ⟨t662, A50, H⟩ := H; (try dsimp only at H); have A5 := Aside0.mk A50; clear A50; replace H := Option.bind_eq_some_iff.mp H; obtain ⟨⟨t665, t668⟩, A60, H⟩ := H; (try dsimp only at H); have A6 := Aside0.mk A60; clear A60
 simp only [Option.some.injEq, Prod.mk.injEq] at H
 obtain ⟨rfl, rfl⟩ := H
 go_enter Try.func35, Try.ntmps35
 go_wp2_with (first | ((with_reducible refine gate_dst (N := 2) rfl ?_); refine bX #[.slice none 0 0] 25 ?_; intro gb661 hg w7 hbox hb; have n0_ := cs (hq HB) hb; have BK661 := Aside0.mk (hbox); have GW661 := cg hg (hq HB); have GE661 := cg hg (hq HB); replace HB := n0_; clear n0_; clear hb hbox hg) | ((with_reducible refine gate_callee (f := 97) rfl ?_); refine gC (some 8) Try.func97 #[.int .i64 a0] ?_; (with_reducible refine (spec_l1Of.calls k a0 t662 _ A5.out).mono ?_); rintro e w8 ⟨v663, rfl, ho0, hb⟩; refine ⟨_, rfl, ?_⟩; have HO664 := Aside0.mk (Kd.R_lower ho0 (below_size (hq1 HB GE661))); replace BK661 := cB BK661 hb; replace HB := cs (hq1 HB GE661) hb; (try clear hb); (try clear hb2); (try clear hk); (try clear hi); (try clear ho0); obtain ⟨Ao9, co9, eo9⟩ := Kd.R_slice HO664.out; subst eo9) | ((with_reducible refine gate_callee (f := 78) rfl ?_); refine gC (some 9) Try.func78 #[.slice Ao9 t662.length co9] ?_; (with_reducible refine (spec_l1Tell.calls k _ _ t662 t665 t668 _ ?side1 ?side2 A6.out).mono ?_); (case side1 => exact cq ((Kd.R_reads' HO664.out).2.2)); (case side2 => exact (Kd.R_reads' HO664.out).2.1); rintro e w10 ⟨v666, rfl, ho0, hb⟩; refine ⟨_, rfl, ?_⟩; have n0_ := ce HO664 ho0 hb; have HO667 := Aside0.mk (Kd.R_lower (Kd.R_new' ho0 (ql HO664)) (below_size (hq1 HB GE661))); replace BK661 := cB BK661 hb; replace HB := cs (hq1 HB GE661) hb; replace HO664 := n0_; clear n0_; (try clear hb); (try clear hb2); (try clear hk); (try clear hi); (try clear ho0); obtain ⟨Ao11, co11, eo11⟩ := Kd.R_slice HO667.out; subst eo11; have hcz12_0 : w10.cell? ⟨gb661, 0, none⟩ = some (.slice none 0 0) := (blk_cell BK661.out 0).trans rfl; have hfz12_0 := blk_frozen BK661.out 0))
 refine bodyPost_ret (results_ct rfl _ _ gb661 25 #[.slice Ao11 t665.length co11] (0, 0) _ rfl (by (with_reducible repeat (first | refine blk_drewN ?_ _ | refine blk_drew ?_ | refine blk_alloc ?_ _)); refine blk_put (cs := #[.slice none 0 0]) ?_ 0 _ rfl; (with_reducible repeat (first | refine blk_drewN ?_ _ | refine blk_drew ?_ | refine blk_alloc ?_ _)); exact BK661.out) Try.underlying25 rfl (by kernel_rfl)) rfl ?_
 exact ⟨_, by first | rfl | (simp <;> rfl) | (simp [*] <;> rfl), by (with_reducible repeat (first | apply Kd.R_alloc | apply Kd.R_drewN | apply Kd.R_drew)); exact Kd.R_mono (Kd.R_far (p := ⟨gb661, 0, none⟩) (Kd.R_types HO667.out BK661.out (by decide)) (fun _ hk => hk.2) (.slice Ao11 t665.length co11)) (fun _ hk => trivial), hq1 HB GE661⟩

end Go.Proofs.Ytadooofomkdaoaa.QFnLimbs
