import Derived.Test.YtadooofomkdaoaaSqueez2
import Derived.Test.YtadooofomkdaoaaQFnHalvesx0
import Derived.Test.YtadooofomkdaoaaQFnHalvesx6
import Derived.Test.YtadooofomkdaoaaQFnHalvesx10
namespace Go.Proofs.Ytadooofomkdaoaa.QFnHalves
open Go.RowKit Go.Proofs.YtadooofomkdaoaaW.PrintWords Go.Proofs.YtadooofomkdaoaaW.PrintLast Go.Proofs.YtadooofomkdaoaaW.PrintMore
attribute [local go_sem] max2_int min2_int max_two min_two max_three min_three max_four min_four   -- for this text's walks alone
set_option linter.unusedVariables false
set_option linter.unusedSimpArgs false

/-! ### spec_CompareBig: function 46 -/
def spec_CompareBig.f (k : Nat) (l0_0 : List Int) (l1_0 : List Int) : Option (Int × Bool) := (spec_l1Both.f k l0_0 l1_0).bind fun t644 => (if t644 = true then ((spec_l1Compare.f k l0_0 l1_0).bind fun t645 => (some (t645, true))) else (some (0, false)))
set_option maxHeartbeats 8000000 in
set_option maxRecDepth 100000 in
theorem spec_CompareBig.calls (k : Nat) (A0_0 : Option Addr) (c0_0 : Nat) (l0_0 : List Int) (A1_0 : Option Addr) (c1_0 : Nat) (l1_0 : List Int) (r1 : Int) (r2 : Bool) (w : World) (hr0_0 : Kd.C (Kd.int .i64) w A0_0 l0_0.length l0_0) (hc0_0 : l0_0.length ≤ c0_0) (hr1_0 : Kd.C (Kd.int .i64) w A1_0 l1_0.length l1_0) (hc1_0 : l1_0.length ≤ c1_0) (h : spec_CompareBig.f k l0_0 l1_0 = some (r1, r2)) :
    Calls Try.prog 46 #[.agg #[.slice A0_0 l0_0.length c0_0], .agg #[.slice A1_0 l1_0.length c1_0]] w fun e w' => e = .returned (.tuple #[.int .i64 r1, .bool r2]) ∧ Below w.heap.size w w' := by
 have hu25 := Try.underlying25; have HR0_0 := Aside0.mk hr0_0; have HC0_0 := Aside0.mk hc0_0; clear hr0_0 hc0_0; have HR1_0 := Aside0.mk hr1_0; have HC1_0 := Aside0.mk hc1_0; clear hr1_0 hc1_0; have HB := Aside0.mk (Below.refl w.heap.size w)
 have H : ((spec_l1Both.f k l0_0 l1_0).bind fun t644 => (if t644 = true then ((spec_l1Compare.f k l0_0 l1_0).bind fun t645 => (some (t645, true))) else (some (0, false)))) = some (r1, r2) := h
 clear h; replace H := Option.bind_eq_some_iff.mp H; obtain ⟨t644, A30, H⟩ := H; (try dsimp only at H); have A3 := Aside0.mk A30; clear A30
 by_cases c4 : t644 = true
 rotate_left
 · replace c4 := Bool.eq_false_iff.mpr c4
   subst c4
   have H1 : (some (0, false)) = some (r1, r2) := by rw [if_neg (show ¬ (false = true) by decide)] at H; exact H
   clear H; have H := H1; clear H1
   simp only [Option.some.injEq, Prod.mk.injEq] at H
   obtain ⟨rfl, rfl⟩ := H
   go_enter Try.func46, Try.ntmps46
   go_wp2_with (first | ((with_reducible refine gate_dst (N := 2) rfl ?_); refine bX #[.slice A0_0 l0_0.length c0_0] 25 ?_; intro gb642 hg w14 hbox hb; have n0_ := cs (hq HB) hb; have BK642 := Aside0.mk (hbox); have GW642 := cg hg (hq HB); have GE642 := cg hg (hq HB); replace HB := n0_; clear n0_; clear hb hbox hg) | ((with_reducible refine gate_dst (N := 3) rfl ?_); refine bX #[.slice A1_0 l1_0.length c1_0] 25 ?_; intro gb643 hg w15 hbox hb; have n0_ := cB BK642 hb; have n1_ := cs (hq1 HB GE642) hb; have BK643 := Aside0.mk (hbox); have GW643 := cg hg (hq1 HB GE642); have GE643 := cg hg (hq1 HB GE642); have NB642_643 := cl hg BK642; have NB643_642 := cr hg BK642; replace BK642 := n0_; replace HB := n1_; clear n0_ n1_; clear hb hbox hg; have hnb16 := NB642_643.out; have hnc16 := NB643_642.out; have hcz17_0 : w15.cell? ⟨gb642, 0, none⟩ = some (.slice A0_0 l0_0.length c0_0) := (blk_cell BK642.out 0).trans rfl; have hfz17_0 := blk_frozen BK642.out 0; have hcz18_0 : w15.cell? ⟨gb643, 0, none⟩ = some (.slice A1_0 l1_0.length c1_0) := (blk_cell BK643.out 0).trans rfl; have hfz18_0 := blk_frozen BK643.out 0) | ((with_reducible refine gate_callee (f := 77) rfl ?_); refine gC (some 8) Try.func77 #[.agg #[.slice A0_0 l0_0.length c0_0], .agg #[.slice A1_0 l1_0.length c1_0]] ?_; (with_reducible refine (spec_l1Both.calls k _ _ l0_0 _ _ l1_0 false _ ?side1 ?side2 ?side3 ?side4 A3.out).mono ?_); (case side1 => exact cq (Kd.C_below HR0_0.out HB.out)); (case side2 => exact HC0_0.out); (case side3 => exact cq (Kd.C_below HR1_0.out HB.out)); (case side4 => exact HC1_0.out); rintro e w19 ⟨rfl, hb⟩; refine ⟨_, rfl, ?_⟩; replace BK642 := cB BK642 hb; replace BK643 := cB BK643 hb; replace HB := cs (hq2 HB GE642 GE643) hb; (try clear hb); (try clear hb2); (try clear hk); (try clear hi)))
   go_ret2
   exact ⟨by first | rfl | (simp <;> rfl) | (simp [*] <;> rfl), hq2 HB GE642 GE643⟩


 subst c4
 have H1 : ((spec_l1Compare.f k l0_0 l1_0).bind fun t645 => (some (t645, true))) = some (r1, r2) := by rw [if_pos rfl] at H; exact H
 clear H; have H := H1; clear H1; replace H := Option.bind_eq_some_iff.mp H; obtain ⟨t645, A50, H⟩ := H; (try dsimp only at H); have A5 := Aside0.mk A50; clear A50
 simp only [Option.some.injEq, Prod.mk.injEq] at H
 obtain ⟨rfl, rfl⟩ := H
 go_enter Try.func46, Try.ntmps46
 go_wp2_with (first | ((with_reducible refine gate_dst (N := 2) rfl ?_); refine bX #[.slice A0_0 l0_0.length c0_0] 25 ?_; intro gb642 hg w6 hbox hb; have n0_ := cs (hq HB) hb; have BK642 := Aside0.mk (hbox); have GW642 := cg hg (hq HB); have GE642 := cg hg (hq HB); replace HB := n0_; clear n0_; clear hb hbox hg) | ((with_reducible refine gate_dst (N := 3) rfl ?_); refine bX #[.slice A1_0 l1_0.length c1_0] 25 ?_; intro gb643 hg w7 hbox hb; have n0_ := cB BK642 hb; have n1_ := cs (hq1 HB GE642) hb; have BK643 := Aside0.mk (hbox); have GW643 := cg hg (hq1 HB GE642); have GE643 := cg hg (hq1 HB GE642); have NB642_643 := cl hg BK642; have NB643_642 := cr hg BK642; replace BK642 := n0_; replace HB := n1_; clear n0_ n1_; clear hb hbox hg; have hnb8 := NB642_643.out; have hnc8 := NB643_642.out; have hcz9_0 : w7.cell? ⟨gb642, 0, none⟩ = some (.slice A0_0 l0_0.length c0_0) := (blk_cell BK642.out 0).trans rfl; have hfz9_0 := blk_frozen BK642.out 0; have hcz10_0 : w7.cell? ⟨gb643, 0, none⟩ = some (.slice A1_0 l1_0.length c1_0) := (blk_cell BK643.out 0).trans rfl; have hfz10_0 := blk_frozen BK643.out 0) | ((with_reducible refine gate_callee (f := 77) rfl ?_); refine gC (some 8) Try.func77 #[.agg #[.slice A0_0 l0_0.length c0_0], .agg #[.slice A1_0 l1_0.length c1_0]] ?_; (with_reducible refine (spec_l1Both.calls k _ _ l0_0 _ _ l1_0 true _ ?side1 ?side2 ?side3 ?side4 A3.out).mono ?_); (case side1 => exact cq (Kd.C_below HR0_0.out HB.out)); (case side2 => exact HC0_0.out); (case side3 => exact cq (Kd.C_below HR1_0.out HB.out)); (case side4 => exact HC1_0.out); rintro e w11 ⟨rfl, hb⟩; refine ⟨_, rfl, ?_⟩; replace BK642 := cB BK642 hb; replace BK643 := cB BK643 hb; replace HB := cs (hq2 HB GE642 GE643) hb; (try clear hb); (try clear hb2); (try clear hk); (try clear hi); have hcz12_0 : w11.cell? ⟨gb642, 0, none⟩ = some (.slice A0_0 l0_0.length c0_0) := (blk_cell BK642.out 0).trans rfl; have hfz12_0 := blk_frozen BK642.out 0; have hcz13_0 : w11.cell? ⟨gb643, 0, none⟩ = some (.slice A1_0 l1_0.length c1_0) := (blk_cell BK643.out 0).trans rfl; have hfz13_0 := blk_frozen BK643.out 0) | ((with_reducible refine gate_callee (f := 103) rfl ?_); refine gC (some 14) Try.func103 #[.slice A0_0 l0_0.length c0_0, .slice A1_0 l1_0.length c1_0] ?_; (with_reducible refine (spec_l1Compare.calls k _ _ l0_0 _ _ l1_0 t645 _ ?side1 ?side2 ?side3 ?side4 A5.out).mono ?_); (case side1 => exact cq (Kd.C_below HR0_0.out HB.out)); (case side2 => exact HC0_0.out); (case side3 => exact cq (Kd.C_below HR1_0.out HB.out)); (case side4 => exact HC1_0.out); rintro e w' ⟨rfl, ⟨nd, rfl⟩⟩; refine ⟨_, rfl, ?_⟩))
 go_ret2
 exact ⟨by first | rfl | (simp <;> rfl) | (simp [*] <;> rfl), hq2 HB GE642 GE643⟩
end Go.Proofs.Ytadooofomkdaoaa.QFnHalves
