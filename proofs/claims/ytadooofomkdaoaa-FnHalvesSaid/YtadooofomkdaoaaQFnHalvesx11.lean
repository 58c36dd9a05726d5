import Derived.Test.YtadooofomkdaoaaSqueez2
import Derived.Test.YtadooofomkdaoaaQFnHalvesx0
import Derived.Test.YtadooofomkdaoaaQFnHalvesx5
import Derived.Test.YtadooofomkdaoaaQFnHalvesx6
import Derived.Test.YtadooofomkdaoaaQFnHalvesx7
import Derived.Test.YtadooofomkdaoaaQFnHalvesx10
namespace Go.Proofs.Ytadooofomkdaoaa.QFnHalves
open Go.RowKit Go.Proofs.YtadooofomkdaoaaW.PrintWords Go.Proofs.YtadooofomkdaoaaW.PrintLast Go.Proofs.YtadooofomkdaoaaW.PrintMore
attribute [local go_sem] max2_int min2_int max_two min_two max_three min_three max_four min_four   -- for this text's walks alone
set_option linter.unusedVariables false
set_option linter.unusedSimpArgs false

/-! ### spec_ReduceBig: function 42 -/
mutual
def spec_ReduceBig.j0 : Nat → Bool → List Int → List Int → Option (List Int × Bool)
  | 0, _, _, _ => none
  | k + 1, x46, x557000, x558000 => if x46 = true then (some (([] : List Int), false)) else (if 0 < (x558000.length : Int) then ((spec_l1Div.f k x557000 x558000).bind fun bt570 => ((spec_l1At.f bt570.2 0).bind fun t576 => (spec_ReduceBig.l0 k (rd x558000 0) (wrap64 (Int.tdiv (wrap64 ((rd x558000 0) + 1)) 2)) t576 0))) else (none))
def spec_ReduceBig.l0 : Nat → Int → Int → Int → Int → Option (List Int × Bool)
  | 0, _, _, _, _ => none
  | k + 1, x6, x7, x10, x11 => if x11 < 16 then (if x6 = 0 then (none) else (spec_ReduceBig.l0 k x6 x7 (Int.tmod (wrap64 (x10 * x7)) x6) (wrap64 (x11 + 1)))) else ((spec_l1Of.f k x10).bind fun t577 => ((spec_l1Tell.f k t577).bind fun bt580 => (some (bt580.1, bt580.2))))
end
def spec_ReduceBig.f (k : Nat) (l0_0 : List Int) (l1_0 : List Int) : Option (List Int × Bool) := (spec_l1Both.f k l0_0 l1_0).bind fun t559 => (if t559 = true then (if (l1_0.length : Int) = 1 then (if 0 < (l1_0.length : Int) then (if (Int.tmod (rd l1_0 0) 2) = 0 then (spec_ReduceBig.j0 k true l0_0 l1_0) else (if (rd l1_0 0) = 1 then (spec_ReduceBig.j0 k true l0_0 l1_0) else ((some (([0] : List Int) : List Int)).bind fun y562 => (if y562.length + l1_0.length < 17592186044416 then ((spec_l1Compare.f k l0_0 (y562 ++ l1_0)).bind fun t568 => (spec_ReduceBig.j0 k (decide (t568 ≥ 0)) l0_0 l1_0)) else (none))))) else (none)) else (spec_ReduceBig.j0 k true l0_0 l1_0)) else (spec_ReduceBig.j0 k true l0_0 l1_0))
def spec_ReduceBig.T1 : Bool × List (List Nat × List Nat) := (true, [([], []), ([], []), ([0, 1], [0, 1]), ([2], [2]), ([3, 2], [3]), ([4], [4]), ([5, 4], [4, 5]), ([6, 4], [4, 6]), ([7, 4], [4, 7]), ([4, 8], [4, 8]), ([9, 4], [9]), ([10], [10]), ([11, 10], [10, 11]), ([12, 10], [10, 12]), ([13, 10], [10, 13]), ([14, 10], [10, 14]), ([15, 10], [10, 15]), ([10, 16], [10, 16]), ([17, 10], [17]), ([18], [18]), ([19, 18], [18, 19]), ([20, 18], [18, 20]), ([21, 18], [18, 21]), ([22, 18], [18, 22]), ([18, 23], [18, 23]), ([24, 18], [24]), ([25], [25]), ([26, 25], [25, 26]), ([25], [25]), ([25], [25]), ([29, 25], [25, 29]), ([28, 30, 25, 25], [25, 28, 30]), ([27, 31, 31, 25], [25, 27, 31]), ([32, 25], [25, 32]), ([25, 33], [25, 33])])
def spec_ReduceBig.B1 : List Nat := [0, 0, 3, 7, 15, 31, 63, 127, 255, 511, 1023, 2047, 4095, 8191, 16383, 32767, 65535, 131071, 262143, 524287, 1048575, 2097151, 4194303, 8388607, 16777215, 33554431, 67108863, 134217727, 67108863, 67108863, 603979775, 1946157055, 4294967295, 8589934591, 17179869183]
theorem spec_ReduceBig.tab1 : rtab .any (opsOf Try.f42 1) = spec_ReduceBig.T1 := by kernel_rfl
theorem spec_ReduceBig.bits1 : waitsOk spec_ReduceBig.T1.2 spec_ReduceBig.B1 = true := by kernel_rfl
set_option maxHeartbeats 8000000 in
set_option maxRecDepth 100000 in
theorem spec_ReduceBig.calls (k : Nat) (A0_0 : Option Addr) (c0_0 : Nat) (l0_0 : List Int) (A1_0 : Option Addr) (c1_0 : Nat) (l1_0 : List Int) (r1 : List Int) (r2 : Bool) (w : World) (hr0_0 : Kd.C (Kd.int .i64) w A0_0 l0_0.length l0_0) (hc0_0 : l0_0.length ≤ c0_0) (hr1_0 : Kd.C (Kd.int .i64) w A1_0 l1_0.length l1_0) (hc1_0 : l1_0.length ≤ c1_0) (h : spec_ReduceBig.f k l0_0 l1_0 = some (r1, r2)) :
    Calls Try.prog 42 #[.agg #[.slice A0_0 l0_0.length c0_0], .agg #[.slice A1_0 l1_0.length c1_0]] w fun e w' => ∃ v0_ : Value, e = .returned (.tuple #[.agg #[v0_], .bool r2]) ∧ Kd.R (Kd.int .i64) 3 w' w.heap.size (fun _ => True) v0_ r1 ∧ Below w.heap.size w w' := by
 have hu25 := Try.underlying25; have HR0_0 := Aside0.mk hr0_0; have HC0_0 := Aside0.mk hc0_0; clear hr0_0 hc0_0; have HR1_0 := Aside0.mk hr1_0; have HC1_0 := Aside0.mk hc1_0; clear hr1_0 hc1_0; have HB := Aside0.mk (Below.refl w.heap.size w)
 have H : ((spec_l1Both.f k l0_0 l1_0).bind fun t559 => (if t559 = true then (if (l1_0.length : Int) = 1 then (if 0 < (l1_0.length : Int) then (if (Int.tmod (rd l1_0 0) 2) = 0 then (spec_ReduceBig.j0 k true l0_0 l1_0) else (if (rd l1_0 0) = 1 then (spec_ReduceBig.j0 k true l0_0 l1_0) else ((some (([0] : List Int) : List Int)).bind fun y562 => (if y562.length + l1_0.length < 17592186044416 then ((spec_l1Compare.f k l0_0 (y562 ++ l1_0)).bind fun t568 => (spec_ReduceBig.j0 k (decide (t568 ≥ 0)) l0_0 l1_0)) else (none))))) else (none)) else (spec_ReduceBig.j0 k true l0_0 l1_0)) else (spec_ReduceBig.j0 k true l0_0 l1_0))) = some (r1, r2) := h
 clear h; have HC3 := Aside0.mk H; clear H
 go_enter Try.func42, Try.ntmps42
 go_upto_region 1 with (first | ((with_reducible refine gate_dst (N := 2) rfl ?_); (try (refine gate_guard (by rfl) ?_; dsimp only)); refine bX #[.slice A0_0 l0_0.length c0_0] 25 ?_; intro gb556 hg w4 hbox hb; have n0_ := cs (hq HB) hb; have BK556 := Aside0.mk (hbox); have GW556 := cg hg (hq HB); have GE556 := cg hg (hq HB); replace HB := n0_; clear n0_; clear hb hbox hg) | ((with_reducible refine gate_dst (N := 3) rfl ?_); (try (refine gate_guard (by rfl) ?_; dsimp only)); refine bX #[.slice A1_0 l1_0.length c1_0] 25 ?_; intro gb557 hg w5 hbox hb; have n0_ := cB BK556 hb; have n1_ := cs (hq1 HB GE556) hb; have BK557 := Aside0.mk (hbox); have GW557 := cg hg (hq1 HB GE556); have GE557 := cg hg (hq1 HB GE556); have NB556_557 := cl hg BK556; have NB557_556 := cr hg BK556; replace BK556 := n0_; replace HB := n1_; clear n0_ n1_; clear hb hbox hg) | ((with_reducible refine gate_dst (N := 4) rfl ?_); (try (refine gate_guard (by rfl) ?_; dsimp only)); refine bX #[.slice none 0 0] 25 ?_; intro gb558 hg w6 hbox hb; have n0_ := cB BK556 hb; have n1_ := cB BK557 hb; have n2_ := cs (hq2 HB GE556 GE557) hb; have BK558 := Aside0.mk (hbox); have GW558 := cg hg (hq2 HB GE556 GE557); have GE558 := cg hg (hq2 HB GE556 GE557); have NB556_558 := cl hg BK556; have NB558_556 := cr hg BK556; have NB557_558 := cl hg BK557; have NB558_557 := cr hg BK557; replace BK556 := n0_; replace BK557 := n1_; replace HB := n2_; clear n0_ n1_ n2_; clear hb hbox hg))
 (try simp only [Act.put, List.setIfInBounds_toArray, List.set_cons_zero, List.set_cons_succ])
 go_cut [46] (fun v46 wc => ∃ (kq : Nat) (x46_2 : Bool), v46 = .bool x46_2 ∧ Aside0 (spec_ReduceBig.j0 kq x46_2 l0_0 l1_0 = some (r1, r2)) ∧ Aside0 (kq ≤ k) ∧ Aside0 (wc.heap[gb556]? = some (.cells #[(.slice A0_0 l0_0.length c0_0)] 25 (0, 0))) ∧ Aside0 (wc.heap[gb557]? = some (.cells #[(.slice A1_0 l1_0.length c1_0)] 25 (0, 0))) ∧ Aside0 (wc.heap[gb558]? = some (.cells #[(.slice none 0 0)] 25 (0, 0))) ∧ Aside0 (Below w.heap.size w wc))
 case first =>
   have H := HC3.out; clear HC3; replace H := Option.bind_eq_some_iff.mp H; obtain ⟨t559, A70, H⟩ := H; (try dsimp only at H); have A7 := Aside0.mk A70; clear A70
   by_cases c8 : t559 = true
   rotate_left
   · replace c8 := Bool.eq_false_iff.mpr c8
     subst c8
     have H1 : (spec_ReduceBig.j0 k true l0_0 l1_0) = some (r1, r2) := by rw [if_neg (show ¬ (false = true) by decide)] at H; exact H
     clear H; have H := H1; clear H1
     have H' := Aside0.mk H
     clear H
     try go_wp2
     replace BK556 := Aside0.mk (blk_drew BK556.out); replace BK557 := Aside0.mk (blk_drew BK557.out); replace BK558 := Aside0.mk (blk_drew BK558.out); replace HB := Aside0.mk (below_drew1 HB.out)
     refine start_ (n := 35) (S := fun w' => w'.cell? ⟨gb556, 0, none⟩ = some (.slice A0_0 l0_0.length c0_0) ∧ w'.cell? ⟨gb557, 0, none⟩ = some (.slice A1_0 l1_0.length c1_0)) (ds := []) #[false, false, false, false, false, false, false, false, false, false, false, false, false, false, false, false, false, false, false, false, false, false, false, false, false, false, false, false, false, false, false, false, false, false, false] (by kernel_rfl) rfl rfl ⟨(blk_cell BK556.out 0).trans rfl, (blk_cell BK557.out 0).trans rfl⟩ (fun hHeld => ?_); refine with_tabW spec_ReduceBig.tab1 spec_ReduceBig.bits1 (fun HT_ HW_ => ?_)
     generalize w6.drew = w27 at BK556 BK557 BK558 HB hHeld ⊢
     refine take_ (i := 0) (N := some 12) (v := ?_) (a' := ?_) (bz 35 1) rfl rfl (take_ofW HT_.out HW_.out (by kernel_rfl)) (fun _ _ _ h => h) (Or.inl ⟨by rfl, ?_⟩) hHeld ?_ ?_
     rotate_left
     · rintro w' ⟨s0, s1⟩
       go_simp
       with_reducible rfl
     rotate_left
     · simp only [Act.put, List.setIfInBounds_toArray, List.set_cons_zero, List.set_cons_succ, i64_w, i32_w]
       rfl
     refine take_ (i := 1) (N := some 13) (v := ?_) (a' := ?_) (bz 35 3) rfl rfl (take_ofW HT_.out HW_.out (by kernel_rfl)) (fun _ _ _ h => h) (Or.inl ⟨by rfl, ?_⟩) hHeld ?_ ?_
     rotate_left
     · rintro w' ⟨s0, s1⟩
       go_simp
       with_reducible rfl
     rotate_left
     · simp only [Act.put, List.setIfInBounds_toArray, List.set_cons_zero, List.set_cons_succ, i64_w, i32_w]
       rfl
     refine one_ (i := 2) (N := some 14) (bz 35 7) rfl rfl (one_of HT_.out (by kernel_rfl)) (by decide) (fun K hK => ?_)
     refine goes_ Try.func77 (by kernel_rfl) rfl #[.agg #[.slice A0_0 l0_0.length c0_0], .agg #[.slice A1_0 l1_0.length c1_0]] (by rfl) rfl rfl (by (try simp only [List.map_toArray, List.map_cons, List.map_nil]); first | done | rfl | (simp only [List.length_drop, List.length_take]; rfl)) ?_
     with_reducible refine (spec_l1Both.calls k _ _ l0_0 _ _ l1_0 false _ ?side1 ?side2 ?side3 ?side4 A7.out).mono ?_
     (case side1 => exact cq (Kd.C_below HR0_0.out HB.out))
     (case side2 => exact HC0_0.out)
     (case side3 => exact cq (Kd.C_below HR1_0.out HB.out))
     (case side4 => exact HC1_0.out)
     rintro e w28 ⟨rfl, hb⟩
     refine ⟨_, rfl, ?_⟩; replace BK556 := cB BK556 hb; replace BK557 := cB BK557 hb; replace BK558 := cB BK558 hb; replace HB := cs (hq3 HB GE556 GE557 GE558) hb; (try clear hb); (try clear hb2); (try clear hk); (try clear hi)
     refine hK.out _ _ ⟨(blk_cell BK556.out 0).trans rfl, (blk_cell BK557.out 0).trans rfl⟩ (fun hHeld => ?_)
     clear hK K
     refine norm_ (a' := ?_) ?_ ?_
     rotate_left
     · show Act.put _ (some 14) _ = _
       simp only [Act.put, List.setIfInBounds_toArray, List.set_cons_zero, List.set_cons_succ, i64_w, i32_w]
       rfl
     refine pz (a' := ?_) 3 15 ?_ (bz 35 15) rfl rfl HT_ (Or.inl ⟨by rfl, ?_⟩) ?_ ?_
     rotate_left
     · intro w'
       first | (go_simp; with_reducible rfl) | (go_simp; unfold Instr.field; go_simp; rfl)
     rotate_left
     · simp only [Act.put, List.setIfInBounds_toArray, List.set_cons_zero, List.set_cons_succ, i64_w, i32_w]
       rfl
     refine pz (a' := ?_) 4 16 ?_ (bz 35 31) rfl rfl HT_ (Or.inl ⟨by rfl, ?_⟩) ?_ ?_
     rotate_left
     · intro w'
       first | (go_simp; with_reducible rfl) | (go_simp; unfold Instr.field; go_simp; rfl)
     rotate_left
     · simp only [Act.put, List.setIfInBounds_toArray, List.set_cons_zero, List.set_cons_succ, i64_w, i32_w]
       rfl
     refine pz (a' := ?_) 5 17 undef (bz 35 63) rfl rfl HT_ (Or.inr ⟨by rfl, rfl⟩) ?_ ?_
     rotate_left
     · simp only [Act.put, List.setIfInBounds_toArray, List.set_cons_zero, List.set_cons_succ, i64_w, i32_w]
       rfl
     refine pz (a' := ?_) 6 18 undef (bz 35 127) rfl rfl HT_ (Or.inr ⟨by rfl, rfl⟩) ?_ ?_
     rotate_left
     · simp only [Act.put, List.setIfInBounds_toArray, List.set_cons_zero, List.set_cons_succ, i64_w, i32_w]
       rfl
     refine pz (a' := ?_) 7 19 undef (bz 35 255) rfl rfl HT_ (Or.inr ⟨by rfl, rfl⟩) ?_ ?_
     rotate_left
     · simp only [Act.put, List.setIfInBounds_toArray, List.set_cons_zero, List.set_cons_succ, i64_w, i32_w]
       rfl
     refine pz (a' := ?_) 8 20 undef (bz 35 511) rfl rfl HT_ (Or.inr ⟨by rfl, rfl⟩) ?_ ?_
     rotate_left
     · simp only [Act.put, List.setIfInBounds_toArray, List.set_cons_zero, List.set_cons_succ, i64_w, i32_w]
       rfl
     refine pz (a' := ?_) 9 21 ?_ (bz 35 1023) rfl rfl HT_ (Or.inl ⟨by rfl, ?_⟩) ?_ ?_
     rotate_left
     · intro w'
       first | (go_simp; with_reducible rfl) | (go_simp; unfold Instr.field; go_simp; rfl)
     rotate_left
     · simp only [Act.put, List.setIfInBounds_toArray, List.set_cons_zero, List.set_cons_succ, i64_w, i32_w]
       rfl
     refine pz (a' := ?_) 10 22 ?_ (bz 35 2047) rfl rfl HT_ (Or.inl ⟨by rfl, ?_⟩) ?_ ?_
     rotate_left
     · intro w'
       first | (go_simp; with_reducible rfl) | (go_simp; unfold Instr.field; go_simp; rfl)
     rotate_left
     · simp only [Act.put, List.setIfInBounds_toArray, List.set_cons_zero, List.set_cons_succ, i64_w, i32_w]
       rfl
     refine pz (a' := ?_) 11 23 undef (bz 35 4095) rfl rfl HT_ (Or.inr ⟨by rfl, rfl⟩) ?_ ?_
     rotate_left
     · simp only [Act.put, List.setIfInBounds_toArray, List.set_cons_zero, List.set_cons_succ, i64_w, i32_w]
       rfl
     refine pz (a' := ?_) 12 24 undef (bz 35 8191) rfl rfl HT_ (Or.inr ⟨by rfl, rfl⟩) ?_ ?_
     rotate_left
     · simp only [Act.put, List.setIfInBounds_toArray, List.set_cons_zero, List.set_cons_succ, i64_w, i32_w]
       rfl
     refine pz (a' := ?_) 13 25 undef (bz 35 16383) rfl rfl HT_ (Or.inr ⟨by rfl, rfl⟩) ?_ ?_
     rotate_left
     · simp only [Act.put, List.setIfInBounds_toArray, List.set_cons_zero, List.set_cons_succ, i64_w, i32_w]
       rfl
     refine pz (a' := ?_) 14 26 undef (bz 35 32767) rfl rfl HT_ (Or.inr ⟨by rfl, rfl⟩) ?_ ?_
     rotate_left
     · simp only [Act.put, List.setIfInBounds_toArray, List.set_cons_zero, List.set_cons_succ, i64_w, i32_w]
       rfl
     refine pz (a' := ?_) 15 27 undef (bz 35 65535) rfl rfl HT_ (Or.inr ⟨by rfl, rfl⟩) ?_ ?_
     rotate_left
     · simp only [Act.put, List.setIfInBounds_toArray, List.set_cons_zero, List.set_cons_succ, i64_w, i32_w]
       rfl
     refine pz (a' := ?_) 16 28 undef (bz 35 131071) rfl rfl HT_ (Or.inr ⟨by rfl, rfl⟩) ?_ ?_
     rotate_left
     · simp only [Act.put, List.setIfInBounds_toArray, List.set_cons_zero, List.set_cons_succ, i64_w, i32_w]
       rfl
     refine pz (a' := ?_) 17 29 ?_ (bz 35 262143) rfl rfl HT_ (Or.inl ⟨by rfl, ?_⟩) ?_ ?_
     rotate_left
     · intro w'
       first | (go_simp; with_reducible rfl) | (go_simp; unfold Instr.field; go_simp; rfl)
     rotate_left
     · simp only [Act.put, List.setIfInBounds_toArray, List.set_cons_zero, List.set_cons_succ, i64_w, i32_w]
       rfl
     refine pz (a' := ?_) 18 30 ?_ (bz 35 524287) rfl rfl HT_ (Or.inl ⟨by rfl, ?_⟩) ?_ ?_
     rotate_left
     · intro w'
       first | (go_simp; with_reducible rfl) | (go_simp; unfold Instr.field; go_simp; rfl)
     rotate_left
     · simp only [Act.put, List.setIfInBounds_toArray, List.set_cons_zero, List.set_cons_succ, i64_w, i32_w]
       rfl
     refine pz (a' := ?_) 19 31 undef (bz 35 1048575) rfl rfl HT_ (Or.inr ⟨by rfl, rfl⟩) ?_ ?_
     rotate_left
     · simp only [Act.put, List.setIfInBounds_toArray, List.set_cons_zero, List.set_cons_succ, i64_w, i32_w]
       rfl
     refine pz (a' := ?_) 20 32 undef (bz 35 2097151) rfl rfl HT_ (Or.inr ⟨by rfl, rfl⟩) ?_ ?_
     rotate_left
     · simp only [Act.put, List.setIfInBounds_toArray, List.set_cons_zero, List.set_cons_succ, i64_w, i32_w]
       rfl
     refine pz (a' := ?_) 21 33 undef (bz 35 4194303) rfl rfl HT_ (Or.inr ⟨by rfl, rfl⟩) ?_ ?_
     rotate_left
     · simp only [Act.put, List.setIfInBounds_toArray, List.set_cons_zero, List.set_cons_succ, i64_w, i32_w]
       rfl
     refine pz (a' := ?_) 22 34 undef (bz 35 8388607) rfl rfl HT_ (Or.inr ⟨by rfl, rfl⟩) ?_ ?_
     rotate_left
     · simp only [Act.put, List.setIfInBounds_toArray, List.set_cons_zero, List.set_cons_succ, i64_w, i32_w]
       rfl
     refine pz (a' := ?_) 23 35 undef (bz 35 16777215) rfl rfl HT_ (Or.inr ⟨by rfl, rfl⟩) ?_ ?_
     rotate_left
     · simp only [Act.put, List.setIfInBounds_toArray, List.set_cons_zero, List.set_cons_succ, i64_w, i32_w]
       rfl
     refine pz (a' := ?_) 24 36 ?_ (bz 35 33554431) rfl rfl HT_ (Or.inl ⟨by rfl, ?_⟩) ?_ ?_
     rotate_left
     · intro w'
       first | (go_simp; with_reducible rfl) | (go_simp; unfold Instr.field; go_simp; rfl)
     rotate_left
     · simp only [Act.put, List.setIfInBounds_toArray, List.set_cons_zero, List.set_cons_succ, i64_w, i32_w]
       rfl
     refine pz (a' := ?_) 25 37 ?_ (bz 35 67108863) rfl rfl HT_ (Or.inl ⟨by rfl, ?_⟩) ?_ ?_
     rotate_left
     · intro w'
       first | (go_simp; with_reducible rfl) | (go_simp; unfold Instr.field; go_simp; rfl)
     rotate_left
     · simp only [Act.put, List.setIfInBounds_toArray, List.set_cons_zero, List.set_cons_succ, i64_w, i32_w]
       rfl
     refine pz (a' := ?_) 26 38 undef (bz 35 134217727) rfl rfl HT_ (Or.inr ⟨by rfl, rfl⟩) ?_ ?_
     rotate_left
     · simp only [Act.put, List.setIfInBounds_toArray, List.set_cons_zero, List.set_cons_succ, i64_w, i32_w]
       rfl
     refine pz (a' := ?_) 27 39 undef (bz 35 268435455) rfl rfl HT_ (Or.inr ⟨by rfl, rfl⟩) ?_ ?_
     rotate_left
     · simp only [Act.put, List.setIfInBounds_toArray, List.set_cons_zero, List.set_cons_succ, i64_w, i32_w]
       rfl
     refine pz (a' := ?_) 28 40 undef (bz 35 536870911) rfl rfl HT_ (Or.inr ⟨by rfl, rfl⟩) ?_ ?_
     rotate_left
     · simp only [Act.put, List.setIfInBounds_toArray, List.set_cons_zero, List.set_cons_succ, i64_w, i32_w]
       rfl
     refine pz (a' := ?_) 29 41 undef (bz 35 1073741823) rfl rfl HT_ (Or.inr ⟨by rfl, rfl⟩) ?_ ?_
     rotate_left
     · simp only [Act.put, List.setIfInBounds_toArray, List.set_cons_zero, List.set_cons_succ, i64_w, i32_w]
       rfl
     refine pz (a' := ?_) 30 42 undef (bz 35 2147483647) rfl rfl HT_ (Or.inr ⟨by rfl, rfl⟩) ?_ ?_
     rotate_left
     · simp only [Act.put, List.setIfInBounds_toArray, List.set_cons_zero, List.set_cons_succ, i64_w, i32_w]
       rfl
     refine pz (a' := ?_) 31 43 undef (bz 35 4294967295) rfl rfl HT_ (Or.inr ⟨by rfl, rfl⟩) ?_ ?_
     rotate_left
     · simp only [Act.put, List.setIfInBounds_toArray, List.set_cons_zero, List.set_cons_succ, i64_w, i32_w]
       rfl
     refine pz (a' := ?_) 32 44 undef (bz 35 8589934591) rfl rfl HT_ (Or.inr ⟨by rfl, rfl⟩) ?_ ?_
     rotate_left
     · simp only [Act.put, List.setIfInBounds_toArray, List.set_cons_zero, List.set_cons_succ, i64_w, i32_w]
       rfl
     refine pz (a' := ?_) 33 45 undef (bz 35 17179869183) rfl rfl HT_ (Or.inr ⟨by rfl, rfl⟩) ?_ ?_
     rotate_left
     · simp only [Act.put, List.setIfInBounds_toArray, List.set_cons_zero, List.set_cons_succ, i64_w, i32_w]
       rfl
     refine pz (a' := ?_) 34 46 ?_ (bz 35 34359738367) rfl rfl HT_ (Or.inl ⟨by rfl, ?_⟩) ?_ ?_
     rotate_left
     · intro w'
       first | (go_simp; with_reducible rfl) | (go_simp; unfold Instr.field; go_simp; rfl)
     rotate_left
     · simp only [Act.put, List.setIfInBounds_toArray, List.set_cons_zero, List.set_cons_succ, i64_w, i32_w]
       rfl
     refine done_ (done_of HT_.out (by kernel_rfl)) ?_
     try go_wp2
     go_meet
     case rel => exact ⟨_, (true), (by first | rfl | (simp; done) | (simp [*]; done)), H', ⟨by first | omega | exact Nat.le_refl _⟩, ⟨by (with_reducible repeat (first | refine blk_drewN ?_ _ | refine blk_drew ?_ | refine blk_alloc ?_ _)); exact BK556.out⟩, ⟨by (with_reducible repeat (first | refine blk_drewN ?_ _ | refine blk_drew ?_ | refine blk_alloc ?_ _)); exact BK557.out⟩, ⟨by (with_reducible repeat (first | refine blk_drewN ?_ _ | refine blk_drew ?_ | refine blk_alloc ?_ _)); exact BK558.out⟩, ⟨hq3 HB GE556 GE557 GE558⟩⟩
   subst c8
   have H1 : (if (l1_0.length : Int) = 1 then (if 0 < (l1_0.length : Int) then (if (Int.tmod (rd l1_0 0) 2) = 0 then (spec_ReduceBig.j0 k true l0_0 l1_0) else (if (rd l1_0 0) = 1 then (spec_ReduceBig.j0 k true l0_0 l1_0) else ((some (([0] : List Int) : List Int)).bind fun y562 => (if y562.length + l1_0.length < 17592186044416 then ((spec_l1Compare.f k l0_0 (y562 ++ l1_0)).bind fun t568 => (spec_ReduceBig.j0 k (decide (t568 ≥ 0)) l0_0 l1_0)) else (none))))) else (none)) else (spec_ReduceBig.j0 k true l0_0 l1_0)) = some (r1, r2) := by rw [if_pos rfl] at H; exact H
   clear H; have H := H1; clear H1
   by_cases c9 : (l1_0.length : Int) = 1
   rotate_left
   · rw [if_neg c9] at H
     have c9b0 : ((l1_0.length : Int) == 1) = false := beq_eq_false_iff_ne.mpr c9
     have c9b1 : ((l1_0.length : Int) != 1) = true := bne_iff_ne.mpr c9
     (first | rw [c9b0] | (simp only [i64_w, i32_w]; rw [c9b0]) | skip)
     have H' := Aside0.mk H
     clear H
     try go_wp2
     replace BK556 := Aside0.mk (blk_drew BK556.out); replace BK557 := Aside0.mk (blk_drew BK557.out); replace BK558 := Aside0.mk (blk_drew BK558.out); replace HB := Aside0.mk (below_drew1 HB.out)
     refine start_ (n := 35) (S := fun w' => w'.cell? ⟨gb556, 0, none⟩ = some (.slice A0_0 l0_0.length c0_0) ∧ w'.cell? ⟨gb557, 0, none⟩ = some (.slice A1_0 l1_0.length c1_0)) (ds := []) #[false, false, false, false, false, false, false, false, false, false, false, false, false, false, false, false, false, false, false, false, false, false, false, false, false, false, false, false, false, false, false, false, false, false, false] (by kernel_rfl) rfl rfl ⟨(blk_cell BK556.out 0).trans rfl, (blk_cell BK557.out 0).trans rfl⟩ (fun hHeld => ?_); refine with_tabW spec_ReduceBig.tab1 spec_ReduceBig.bits1 (fun HT_ HW_ => ?_)
     generalize w6.drew = w25 at BK556 BK557 BK558 HB hHeld ⊢
     refine take_ (i := 0) (N := some 12) (v := ?_) (a' := ?_) (bz 35 1) rfl rfl (take_ofW HT_.out HW_.out (by kernel_rfl)) (fun _ _ _ h => h) (Or.inl ⟨by rfl, ?_⟩) hHeld ?_ ?_
     rotate_left
     · rintro w' ⟨s0, s1⟩
       go_simp
       with_reducible rfl
     rotate_left
     · simp only [Act.put, List.setIfInBounds_toArray, List.set_cons_zero, List.set_cons_succ, i64_w, i32_w]
       rfl
     refine take_ (i := 1) (N := some 13) (v := ?_) (a' := ?_) (bz 35 3) rfl rfl (take_ofW HT_.out HW_.out (by kernel_rfl)) (fun _ _ _ h => h) (Or.inl ⟨by rfl, ?_⟩) hHeld ?_ ?_
     rotate_left
     · rintro w' ⟨s0, s1⟩
       go_simp
       with_reducible rfl
     rotate_left
     · simp only [Act.put, List.setIfInBounds_toArray, List.set_cons_zero, List.set_cons_succ, i64_w, i32_w]
       rfl
     refine one_ (i := 2) (N := some 14) (bz 35 7) rfl rfl (one_of HT_.out (by kernel_rfl)) (by decide) (fun K hK => ?_)
     refine goes_ Try.func77 (by kernel_rfl) rfl #[.agg #[.slice A0_0 l0_0.length c0_0], .agg #[.slice A1_0 l1_0.length c1_0]] (by rfl) rfl rfl (by (try simp only [List.map_toArray, List.map_cons, List.map_nil]); first | done | rfl | (simp only [List.length_drop, List.length_take]; rfl)) ?_
     with_reducible refine (spec_l1Both.calls k _ _ l0_0 _ _ l1_0 true _ ?side1 ?side2 ?side3 ?side4 A7.out).mono ?_
     (case side1 => exact cq (Kd.C_below HR0_0.out HB.out))
     (case side2 => exact HC0_0.out)
     (case side3 => exact cq (Kd.C_below HR1_0.out HB.out))
     (case side4 => exact HC1_0.out)
     rintro e w26 ⟨rfl, hb⟩
     refine ⟨_, rfl, ?_⟩; replace BK556 := cB BK556 hb; replace BK557 := cB BK557 hb; replace BK558 := cB BK558 hb; replace HB := cs (hq3 HB GE556 GE557 GE558) hb; (try clear hb); (try clear hb2); (try clear hk); (try clear hi)
     refine hK.out _ _ ⟨(blk_cell BK556.out 0).trans rfl, (blk_cell BK557.out 0).trans rfl⟩ (fun hHeld => ?_)
     clear hK K
     refine norm_ (a' := ?_) ?_ ?_
     rotate_left
     · show Act.put _ (some 14) _ = _
       simp only [Act.put, List.setIfInBounds_toArray, List.set_cons_zero, List.set_cons_succ, i64_w, i32_w]
       rfl
     refine pz (a' := ?_) 3 15 ?_ (bz 35 15) rfl rfl HT_ (Or.inl ⟨by rfl, ?_⟩) ?_ ?_
     rotate_left
     · intro w'
       first | (go_simp; with_reducible rfl) | (go_simp; unfold Instr.field; go_simp; rfl)
     rotate_left
     · simp only [Act.put, List.setIfInBounds_toArray, List.set_cons_zero, List.set_cons_succ, i64_w, i32_w]
       rfl
     refine pz (a' := ?_) 4 16 ?_ (bz 35 31) rfl rfl HT_ (Or.inl ⟨by rfl, ?_⟩) ?_ ?_
     rotate_left
     · intro w'
       first | (go_simp; with_reducible rfl) | (go_simp; unfold Instr.field; go_simp; rfl)
     rotate_left
     · simp only [Act.put, List.setIfInBounds_toArray, List.set_cons_zero, List.set_cons_succ, i64_w, i32_w]
       rfl
     refine pz (a' := ?_) 5 17 ?_ (bz 35 63) rfl rfl HT_ (Or.inl ⟨by rfl, ?_⟩) ?_ ?_
     rotate_left
     · intro w'
       first | (go_simp; with_reducible rfl) | (go_simp; unfold Instr.field; go_simp; rfl)
     rotate_left
     · simp only [Act.put, List.setIfInBounds_toArray, List.set_cons_zero, List.set_cons_succ, i64_w, i32_w]
       rfl
     refine take_ (i := 6) (N := some 18) (v := ?_) (a' := ?_) (bz 35 127) rfl rfl (take_ofW HT_.out HW_.out (by kernel_rfl)) (fun _ _ _ h => h) (Or.inl ⟨by rfl, ?_⟩) hHeld ?_ ?_
     rotate_left
     · rintro w' ⟨s0, s1⟩
       go_simp
       with_reducible rfl
     rotate_left
     · simp only [Act.put, List.setIfInBounds_toArray, List.set_cons_zero, List.set_cons_succ, i64_w, i32_w]
       rfl
     refine pz (a' := ?_) 7 19 ?_ (bz 35 255) rfl rfl HT_ (Or.inl ⟨by rfl, ?_⟩) ?_ ?_
     rotate_left
     · intro w'
       first | (go_simp; with_reducible rfl) | (go_simp; unfold Instr.field; go_simp; rfl)
     rotate_left
     · simp only [Act.put, List.setIfInBounds_toArray, List.set_cons_zero, List.set_cons_succ, i64_w, i32_w]
       rfl
     refine pz (a' := ?_) 8 20 ?_ (bz 35 511) rfl rfl HT_ (Or.inl ⟨by rfl, ?_⟩) ?_ ?_
     rotate_left
     · intro w'
       first | (go_simp; with_reducible rfl) | (go_simp; unfold Instr.field; go_simp; rfl)
     rotate_left
     · simp only [Act.put, List.setIfInBounds_toArray, List.set_cons_zero, List.set_cons_succ, i64_w, i32_w]
       rfl
     refine pz (a' := ?_) 9 21 ?_ (bz 35 1023) rfl rfl HT_ (Or.inl ⟨by rfl, ?_⟩) ?_ ?_
     rotate_left
     · intro w'
       first | (go_simp; with_reducible rfl) | (go_simp; unfold Instr.field; go_simp; rfl)
     rotate_left
     · simp only [Act.put, List.setIfInBounds_toArray, List.set_cons_zero, List.set_cons_succ, i64_w, i32_w]
       rfl
     refine pz (a' := ?_) 10 22 ?_ (bz 35 2047) rfl rfl HT_ (Or.inl ⟨by rfl, ?_⟩) ?_ ?_
     rotate_left
     · intro w'
       first | (go_simp; with_reducible rfl) | (go_simp; unfold Instr.field; go_simp; rfl)
     rotate_left
     · simp only [Act.put, List.setIfInBounds_toArray, List.set_cons_zero, List.set_cons_succ, i64_w, i32_w]
       rfl
     refine pz (a' := ?_) 11 23 undef (bz 35 4095) rfl rfl HT_ (Or.inr ⟨by rfl, rfl⟩) ?_ ?_
     rotate_left
     · simp only [Act.put, List.setIfInBounds_toArray, List.set_cons_zero, List.set_cons_succ, i64_w, i32_w]
       rfl
     refine pz (a' := ?_) 12 24 undef (bz 35 8191) rfl rfl HT_ (Or.inr ⟨by rfl, rfl⟩) ?_ ?_
     rotate_left
     · simp only [Act.put, List.setIfInBounds_toArray, List.set_cons_zero, List.set_cons_succ, i64_w, i32_w]
       rfl
     refine pz (a' := ?_) 13 25 undef (bz 35 16383) rfl rfl HT_ (Or.inr ⟨by rfl, rfl⟩) ?_ ?_
     rotate_left
     · simp only [Act.put, List.setIfInBounds_toArray, List.set_cons_zero, List.set_cons_succ, i64_w, i32_w]
       rfl
     refine pz (a' := ?_) 14 26 undef (bz 35 32767) rfl rfl HT_ (Or.inr ⟨by rfl, rfl⟩) ?_ ?_
     rotate_left
     · simp only [Act.put, List.setIfInBounds_toArray, List.set_cons_zero, List.set_cons_succ, i64_w, i32_w]
       rfl
     refine pz (a' := ?_) 15 27 undef (bz 35 65535) rfl rfl HT_ (Or.inr ⟨by rfl, rfl⟩) ?_ ?_
     rotate_left
     · simp only [Act.put, List.setIfInBounds_toArray, List.set_cons_zero, List.set_cons_succ, i64_w, i32_w]
       rfl
     refine pz (a' := ?_) 16 28 undef (bz 35 131071) rfl rfl HT_ (Or.inr ⟨by rfl, rfl⟩) ?_ ?_
     rotate_left
     · simp only [Act.put, List.setIfInBounds_toArray, List.set_cons_zero, List.set_cons_succ, i64_w, i32_w]
       rfl
     refine pz (a' := ?_) 17 29 ?_ (bz 35 262143) rfl rfl HT_ (Or.inl ⟨by rfl, ?_⟩) ?_ ?_
     rotate_left
     · intro w'
       first | (go_simp; with_reducible rfl) | (go_simp; unfold Instr.field; go_simp; rfl)
     rotate_left
     · simp only [Act.put, List.setIfInBounds_toArray, List.set_cons_zero, List.set_cons_succ, i64_w, i32_w]
       rfl
     refine pz (a' := ?_) 18 30 ?_ (bz 35 524287) rfl rfl HT_ (Or.inl ⟨by rfl, ?_⟩) ?_ ?_
     rotate_left
     · intro w'
       first | (go_simp; with_reducible rfl) | (go_simp; unfold Instr.field; go_simp; rfl)
     rotate_left
     · simp only [Act.put, List.setIfInBounds_toArray, List.set_cons_zero, List.set_cons_succ, i64_w, i32_w]
       rfl
     refine pz (a' := ?_) 19 31 undef (bz 35 1048575) rfl rfl HT_ (Or.inr ⟨by rfl, rfl⟩) ?_ ?_
     rotate_left
     · simp only [Act.put, List.setIfInBounds_toArray, List.set_cons_zero, List.set_cons_succ, i64_w, i32_w]
       rfl
     refine pz (a' := ?_) 20 32 undef (bz 35 2097151) rfl rfl HT_ (Or.inr ⟨by rfl, rfl⟩) ?_ ?_
     rotate_left
     · simp only [Act.put, List.setIfInBounds_toArray, List.set_cons_zero, List.set_cons_succ, i64_w, i32_w]
       rfl
     refine pz (a' := ?_) 21 33 undef (bz 35 4194303) rfl rfl HT_ (Or.inr ⟨by rfl, rfl⟩) ?_ ?_
     rotate_left
     · simp only [Act.put, List.setIfInBounds_toArray, List.set_cons_zero, List.set_cons_succ, i64_w, i32_w]
       rfl
     refine pz (a' := ?_) 22 34 undef (bz 35 8388607) rfl rfl HT_ (Or.inr ⟨by rfl, rfl⟩) ?_ ?_
     rotate_left
     · simp only [Act.put, List.setIfInBounds_toArray, List.set_cons_zero, List.set_cons_succ, i64_w, i32_w]
       rfl
     refine pz (a' := ?_) 23 35 undef (bz 35 16777215) rfl rfl HT_ (Or.inr ⟨by rfl, rfl⟩) ?_ ?_
     rotate_left
     · simp only [Act.put, List.setIfInBounds_toArray, List.set_cons_zero, List.set_cons_succ, i64_w, i32_w]
       rfl
     refine pz (a' := ?_) 24 36 ?_ (bz 35 33554431) rfl rfl HT_ (Or.inl ⟨by rfl, ?_⟩) ?_ ?_
     rotate_left
     · intro w'
       first | (go_simp; with_reducible rfl) | (go_simp; unfold Instr.field; go_simp; rfl)
     rotate_left
     · simp only [Act.put, List.setIfInBounds_toArray, List.set_cons_zero, List.set_cons_succ, i64_w, i32_w]
       rfl
     refine pz (a' := ?_) 25 37 ?_ (bz 35 67108863) rfl rfl HT_ (Or.inl ⟨by rfl, ?_⟩) ?_ ?_
     rotate_left
     · intro w'
       first | (go_simp; with_reducible rfl) | (go_simp; unfold Instr.field; go_simp; rfl)
     rotate_left
     · simp only [Act.put, List.setIfInBounds_toArray, List.set_cons_zero, List.set_cons_succ, i64_w, i32_w]
       rfl
     refine pz (a' := ?_) 26 38 undef (bz 35 134217727) rfl rfl HT_ (Or.inr ⟨by rfl, rfl⟩) ?_ ?_
     rotate_left
     · simp only [Act.put, List.setIfInBounds_toArray, List.set_cons_zero, List.set_cons_succ, i64_w, i32_w]
       rfl
     refine pz (a' := ?_) 27 39 undef (bz 35 268435455) rfl rfl HT_ (Or.inr ⟨by rfl, rfl⟩) ?_ ?_
     rotate_left
     · simp only [Act.put, List.setIfInBounds_toArray, List.set_cons_zero, List.set_cons_succ, i64_w, i32_w]
       rfl
     refine pz (a' := ?_) 28 40 undef (bz 35 536870911) rfl rfl HT_ (Or.inr ⟨by rfl, rfl⟩) ?_ ?_
     rotate_left
     · simp only [Act.put, List.setIfInBounds_toArray, List.set_cons_zero, List.set_cons_succ, i64_w, i32_w]
       rfl
     refine pz (a' := ?_) 29 41 undef (bz 35 1073741823) rfl rfl HT_ (Or.inr ⟨by rfl, rfl⟩) ?_ ?_
     rotate_left
     · simp only [Act.put, List.setIfInBounds_toArray, List.set_cons_zero, List.set_cons_succ, i64_w, i32_w]
       rfl
     refine pz (a' := ?_) 30 42 undef (bz 35 2147483647) rfl rfl HT_ (Or.inr ⟨by rfl, rfl⟩) ?_ ?_
     rotate_left
     · simp only [Act.put, List.setIfInBounds_toArray, List.set_cons_zero, List.set_cons_succ, i64_w, i32_w]
       rfl
     refine pz (a' := ?_) 31 43 undef (bz 35 4294967295) rfl rfl HT_ (Or.inr ⟨by rfl, rfl⟩) ?_ ?_
     rotate_left
     · simp only [Act.put, List.setIfInBounds_toArray, List.set_cons_zero, List.set_cons_succ, i64_w, i32_w]
       rfl
     refine pz (a' := ?_) 32 44 undef (bz 35 8589934591) rfl rfl HT_ (Or.inr ⟨by rfl, rfl⟩) ?_ ?_
     rotate_left
     · simp only [Act.put, List.setIfInBounds_toArray, List.set_cons_zero, List.set_cons_succ, i64_w, i32_w]
       rfl
     refine pz (a' := ?_) 33 45 undef (bz 35 17179869183) rfl rfl HT_ (Or.inr ⟨by rfl, rfl⟩) ?_ ?_
     rotate_left
     · simp only [Act.put, List.setIfInBounds_toArray, List.set_cons_zero, List.set_cons_succ, i64_w, i32_w]
       rfl
     refine pz (a' := ?_) 34 46 ?_ (bz 35 34359738367) rfl rfl HT_ (Or.inl ⟨by rfl, ?_⟩) ?_ ?_
     rotate_left
     · intro w'
       first | (go_simp; with_reducible rfl) | (go_simp; unfold Instr.field; go_simp; rfl)
     rotate_left
     · simp only [Act.put, List.setIfInBounds_toArray, List.set_cons_zero, List.set_cons_succ, i64_w, i32_w]
       rfl
     refine done_ (done_of HT_.out (by kernel_rfl)) ?_
     try go_wp2
     go_meet
     case rel => exact ⟨_, (true), (by first | rfl | (simp; done) | (simp [*]; done)), H', ⟨by first | omega | exact Nat.le_refl _⟩, ⟨by (with_reducible repeat (first | refine blk_drewN ?_ _ | refine blk_drew ?_ | refine blk_alloc ?_ _)); exact BK556.out⟩, ⟨by (with_reducible repeat (first | refine blk_drewN ?_ _ | refine blk_drew ?_ | refine blk_alloc ?_ _)); exact BK557.out⟩, ⟨by (with_reducible repeat (first | refine blk_drewN ?_ _ | refine blk_drew ?_ | refine blk_alloc ?_ _)); exact BK558.out⟩, ⟨hq3 HB GE556 GE557 GE558⟩⟩
   rw [if_pos c9] at H
   have c9b0 : ((l1_0.length : Int) == 1) = true := beq_iff_eq.mpr c9
   have c9b1 : ((l1_0.length : Int) != 1) = false := bne_eq_false_iff_eq.mpr c9
   clear c9
   (first | rw [c9b0] | (simp only [i64_w, i32_w]; rw [c9b0]) | skip)
   by_cases c10 : 0 < (l1_0.length : Int)
   rotate_left
   · rw [if_neg c10] at H
     exact absurd H (by simp)
   rw [if_pos c10] at H
   have c10b0 : decide (0 < (l1_0.length : Int)) = true := decide_eq_true c10
   have c10b1 : decide (0 < l1_0.length) = true := decide_eq_true (by omega)
   clear c10
   by_cases c11 : (Int.tmod (rd l1_0 0) 2) = 0
   · rw [if_pos c11] at H
     have c11b0 : ((Int.tmod (rd l1_0 0) 2) == 0) = true := beq_iff_eq.mpr c11
     have c11b1 : ((Int.tmod (rd l1_0 0) 2) != 0) = false := bne_eq_false_iff_eq.mpr c11
     clear c11
     have H' := Aside0.mk H
     clear H
     try go_wp2
     replace BK556 := Aside0.mk (blk_drew BK556.out); replace BK557 := Aside0.mk (blk_drew BK557.out); replace BK558 := Aside0.mk (blk_drew BK558.out); replace HB := Aside0.mk (below_drew1 HB.out)
     have p560 : 0 ≤ (0 : Int) := (by omega)
     have q560 : 0 < (l1_0.length : Int) := of_decide_eq_true (by first | (with_reducible assumption) | assumption)
     obtain ⟨ad560, e560, hx560_0⟩ := Kd.at_int HR1_0.out 0 p560 q560; have hw560_0 := hx560_0
     (try rw [show ((0 : Int)).toNat = 0 from rfl] at hw560_0)
     (try rw [show 0 * 1 = 0 from rfl] at hw560_0)
     (try rw [Addr.add_zero'] at hw560_0)
     cases e560
     have qi560 : (0 < l1_0.length) = True := eq_true (by omega)
     (try rw [show ((0 : Int)).toNat = 0 from rfl] at hx560_0)
     (try rw [Addr.add_zero'] at hx560_0)
     replace hx560_0 := (HB.out.cell (World.block_lt_of_cell? w _ hx560_0)).trans hx560_0; replace p560 := eq_true p560; replace q560 := eq_true q560
     refine start_ (n := 35) (S := fun w' => w'.cell? ⟨gb556, 0, none⟩ = some (.slice A0_0 l0_0.length c0_0) ∧ w'.cell? ⟨gb557, 0, none⟩ = some (.slice (some ad560) l1_0.length c1_0) ∧ w'.cell? ad560 = some (.int .i64 (rd l1_0 0))) (ds := []) #[false, false, false, false, false, false, false, false, false, false, false, false, false, false, false, false, false, false, false, false, false, false, false, false, false, false, false, false, false, false, false, false, false, false, false] (by kernel_rfl) rfl rfl ⟨(blk_cell BK556.out 0).trans rfl, (blk_cell BK557.out 0).trans rfl, ((HB.out.cell (World.block_lt_of_cell? w _ hw560_0)).trans hw560_0)⟩ (fun hHeld => ?_); refine with_tabW spec_ReduceBig.tab1 spec_ReduceBig.bits1 (fun HT_ HW_ => ?_)
     generalize w6.drew = w12 at BK556 BK557 BK558 HB hx560_0 hHeld ⊢
     refine take_ (i := 0) (N := some 12) (v := ?_) (a' := ?_) (bz 35 1) rfl rfl (take_ofW HT_.out HW_.out (by kernel_rfl)) (fun _ _ _ h => h) (Or.inl ⟨by rfl, ?_⟩) hHeld ?_ ?_
     rotate_left
     · rintro w' ⟨s0, s1, s2⟩
       go_simp
       with_reducible rfl
     rotate_left
     · simp only [Act.put, List.setIfInBounds_toArray, List.set_cons_zero, List.set_cons_succ, i64_w, i32_w]
       rfl
     refine take_ (i := 1) (N := some 13) (v := ?_) (a' := ?_) (bz 35 3) rfl rfl (take_ofW HT_.out HW_.out (by kernel_rfl)) (fun _ _ _ h => h) (Or.inl ⟨by rfl, ?_⟩) hHeld ?_ ?_
     rotate_left
     · rintro w' ⟨s0, s1, s2⟩
       go_simp
       with_reducible rfl
     rotate_left
     · simp only [Act.put, List.setIfInBounds_toArray, List.set_cons_zero, List.set_cons_succ, i64_w, i32_w]
       rfl
     refine one_ (i := 2) (N := some 14) (bz 35 7) rfl rfl (one_of HT_.out (by kernel_rfl)) (by decide) (fun K hK => ?_)
     refine goes_ Try.func77 (by kernel_rfl) rfl #[.agg #[.slice A0_0 l0_0.length c0_0], .agg #[.slice (some ad560) l1_0.length c1_0]] (by rfl) rfl rfl (by (try simp only [List.map_toArray, List.map_cons, List.map_nil]); first | done | rfl | (simp only [List.length_drop, List.length_take]; rfl)) ?_
     with_reducible refine (spec_l1Both.calls k _ _ l0_0 _ _ l1_0 true _ ?side1 ?side2 ?side3 ?side4 A7.out).mono ?_
     (case side1 => exact cq (Kd.C_below HR0_0.out HB.out))
     (case side2 => exact HC0_0.out)
     (case side3 => exact cq (Kd.C_below HR1_0.out HB.out))
     (case side4 => exact HC1_0.out)
     rintro e w13 ⟨rfl, hb⟩
     refine ⟨_, rfl, ?_⟩; replace BK556 := cB BK556 hb; replace BK557 := cB BK557 hb; replace BK558 := cB BK558 hb; replace HB := cs (hq3 HB GE556 GE557 GE558) hb; (try clear hb); (try clear hb2); (try clear hk); (try clear hi)
     refine hK.out _ _ ⟨(blk_cell BK556.out 0).trans rfl, (blk_cell BK557.out 0).trans rfl, ((HB.out.cell (World.block_lt_of_cell? w _ hw560_0)).trans hw560_0)⟩ (fun hHeld => ?_)
     clear hK K
     refine norm_ (a' := ?_) ?_ ?_
     rotate_left
     · show Act.put _ (some 14) _ = _
       simp only [Act.put, List.setIfInBounds_toArray, List.set_cons_zero, List.set_cons_succ, i64_w, i32_w]
       rfl
     refine pz (a' := ?_) 3 15 ?_ (bz 35 15) rfl rfl HT_ (Or.inl ⟨by rfl, ?_⟩) ?_ ?_
     rotate_left
     · intro w'
       first | (go_simp; with_reducible rfl) | (go_simp; unfold Instr.field; go_simp; rfl)
     rotate_left
     · simp only [Act.put, List.setIfInBounds_toArray, List.set_cons_zero, List.set_cons_succ, i64_w, i32_w]
       rfl
     refine pz (a' := ?_) 4 16 ?_ (bz 35 31) rfl rfl HT_ (Or.inl ⟨by rfl, ?_⟩) ?_ ?_
     rotate_left
     · intro w'
       first | (go_simp; with_reducible rfl) | (go_simp; unfold Instr.field; go_simp; rfl)
     rotate_left
     · simp only [Act.put, List.setIfInBounds_toArray, List.set_cons_zero, List.set_cons_succ, i64_w, i32_w]
       rfl
     refine pz (a' := ?_) 5 17 ?_ (bz 35 63) rfl rfl HT_ (Or.inl ⟨by rfl, ?_⟩) ?_ ?_
     rotate_left
     · intro w'
       first | (go_simp; with_reducible rfl) | (go_simp; unfold Instr.field; go_simp; rfl)
     rotate_left
     · simp only [Act.put, List.setIfInBounds_toArray, List.set_cons_zero, List.set_cons_succ, i64_w, i32_w]
       rfl
     refine take_ (i := 6) (N := some 18) (v := ?_) (a' := ?_) (bz 35 127) rfl rfl (take_ofW HT_.out HW_.out (by kernel_rfl)) (fun _ _ _ h => h) (Or.inl ⟨by rfl, ?_⟩) hHeld ?_ ?_
     rotate_left
     · rintro w' ⟨s0, s1, s2⟩
       go_simp
       with_reducible rfl
     rotate_left
     · simp only [Act.put, List.setIfInBounds_toArray, List.set_cons_zero, List.set_cons_succ, i64_w, i32_w]
       rfl
     refine pz (a' := ?_) 7 19 ?_ (bz 35 255) rfl rfl HT_ (Or.inl ⟨by rfl, ?_⟩) ?_ ?_
     rotate_left
     · intro w'
       first | (go_simp; with_reducible rfl) | (go_simp; unfold Instr.field; go_simp; rfl)
     rotate_left
     · simp only [Act.put, List.setIfInBounds_toArray, List.set_cons_zero, List.set_cons_succ, i64_w, i32_w]
       rfl
     refine pz (a' := ?_) 8 20 ?_ (bz 35 511) rfl rfl HT_ (Or.inl ⟨by rfl, ?_⟩) ?_ ?_
     rotate_left
     · intro w'
       first | (go_simp; with_reducible rfl) | (go_simp; unfold Instr.field; go_simp; rfl)
     rotate_left
     · simp only [Act.put, List.setIfInBounds_toArray, List.set_cons_zero, List.set_cons_succ, i64_w, i32_w]
       rfl
     refine pz (a' := ?_) 9 21 ?_ (bz 35 1023) rfl rfl HT_ (Or.inl ⟨by rfl, ?_⟩) ?_ ?_
     rotate_left
     · intro w'
       first | (go_simp; with_reducible rfl) | (go_simp; unfold Instr.field; go_simp; rfl)
     rotate_left
     · simp only [Act.put, List.setIfInBounds_toArray, List.set_cons_zero, List.set_cons_succ, i64_w, i32_w]
       rfl
     refine pz (a' := ?_) 10 22 ?_ (bz 35 2047) rfl rfl HT_ (Or.inl ⟨by rfl, ?_⟩) ?_ ?_
     rotate_left
     · intro w'
       first | (go_simp; with_reducible rfl) | (go_simp; unfold Instr.field; go_simp; rfl)
     rotate_left
     · simp only [Act.put, List.setIfInBounds_toArray, List.set_cons_zero, List.set_cons_succ, i64_w, i32_w]
       rfl
     refine pz (a' := ?_) 11 23 ?_ (bz 35 4095) rfl rfl HT_ (Or.inl ⟨by rfl, ?_⟩) ?_ ?_
     rotate_left
     · intro w'
       first | (go_simp; with_reducible rfl) | (go_simp; unfold Instr.field; go_simp; rfl)
     rotate_left
     · simp only [Act.put, List.setIfInBounds_toArray, List.set_cons_zero, List.set_cons_succ, i64_w, i32_w]
       rfl
     refine take_ (i := 12) (N := some 24) (v := ?_) (a' := ?_) (bz 35 8191) rfl rfl (take_ofW HT_.out HW_.out (by kernel_rfl)) (fun _ _ _ h => h) (Or.inl ⟨by rfl, ?_⟩) hHeld ?_ ?_
     rotate_left
     · rintro w' ⟨s0, s1, s2⟩
       go_simp
       with_reducible rfl
     rotate_left
     · simp only [Act.put, List.setIfInBounds_toArray, List.set_cons_zero, List.set_cons_succ, i64_w, i32_w]
       rfl
     refine pz (a' := ?_) 13 25 ?_ (bz 35 16383) rfl rfl HT_ (Or.inl ⟨by rfl, ?_⟩) ?_ ?_
     rotate_left
     · intro w'
       first | (go_simp; with_reducible rfl) | (go_simp; unfold Instr.field; go_simp; rfl)
     rotate_left
     · simp only [Act.put, List.setIfInBounds_toArray, List.set_cons_zero, List.set_cons_succ, i64_w, i32_w]
       rfl
     refine take_ (i := 14) (N := some 26) (v := ?_) (a' := ?_) (bz 35 32767) rfl rfl (take_ofW HT_.out HW_.out (by kernel_rfl)) (fun _ _ _ h => h) (Or.inl ⟨by rfl, ?_⟩) hHeld ?_ ?_
     rotate_left
     · rintro w' ⟨s0, s1, s2⟩
       go_simp
       with_reducible rfl
     rotate_left
     · simp only [Act.put, List.setIfInBounds_toArray, List.set_cons_zero, List.set_cons_succ, i64_w, i32_w]
       rfl
     refine pz (a' := ?_) 15 27 ?_ (bz 35 65535) rfl rfl HT_ (Or.inl ⟨by rfl, ?_⟩) ?_ ?_
     rotate_left
     · intro w'
       first | (go_simp; with_reducible rfl) | (go_simp; unfold Instr.field; go_simp; rfl)
     rotate_left
     · simp only [Act.put, List.setIfInBounds_toArray, List.set_cons_zero, List.set_cons_succ, i64_w, i32_w]
       rfl
     refine pz (a' := ?_) 16 28 ?_ (bz 35 131071) rfl rfl HT_ (Or.inl ⟨by rfl, ?_⟩) ?_ ?_
     rotate_left
     · intro w'
       first | (go_simp; with_reducible rfl) | (go_simp; unfold Instr.field; go_simp; rfl)
     rotate_left
     · simp only [Act.put, List.setIfInBounds_toArray, List.set_cons_zero, List.set_cons_succ, i64_w, i32_w]
       rfl
     refine pz (a' := ?_) 17 29 ?_ (bz 35 262143) rfl rfl HT_ (Or.inl ⟨by rfl, ?_⟩) ?_ ?_
     rotate_left
     · intro w'
       first | (go_simp; with_reducible rfl) | (go_simp; unfold Instr.field; go_simp; rfl)
     rotate_left
     · simp only [Act.put, List.setIfInBounds_toArray, List.set_cons_zero, List.set_cons_succ, i64_w, i32_w]
       rfl
     refine pz (a' := ?_) 18 30 ?_ (bz 35 524287) rfl rfl HT_ (Or.inl ⟨by rfl, ?_⟩) ?_ ?_
     rotate_left
     · intro w'
       first | (go_simp; with_reducible rfl) | (go_simp; unfold Instr.field; go_simp; rfl)
     rotate_left
     · simp only [Act.put, List.setIfInBounds_toArray, List.set_cons_zero, List.set_cons_succ, i64_w, i32_w]
       rfl
     refine pz (a' := ?_) 19 31 undef (bz 35 1048575) rfl rfl HT_ (Or.inr ⟨by rfl, rfl⟩) ?_ ?_
     rotate_left
     · simp only [Act.put, List.setIfInBounds_toArray, List.set_cons_zero, List.set_cons_succ, i64_w, i32_w]
       rfl
     refine pz (a' := ?_) 20 32 undef (bz 35 2097151) rfl rfl HT_ (Or.inr ⟨by rfl, rfl⟩) ?_ ?_
     rotate_left
     · simp only [Act.put, List.setIfInBounds_toArray, List.set_cons_zero, List.set_cons_succ, i64_w, i32_w]
       rfl
     refine pz (a' := ?_) 21 33 undef (bz 35 4194303) rfl rfl HT_ (Or.inr ⟨by rfl, rfl⟩) ?_ ?_
     rotate_left
     · simp only [Act.put, List.setIfInBounds_toArray, List.set_cons_zero, List.set_cons_succ, i64_w, i32_w]
       rfl
     refine pz (a' := ?_) 22 34 undef (bz 35 8388607) rfl rfl HT_ (Or.inr ⟨by rfl, rfl⟩) ?_ ?_
     rotate_left
     · simp only [Act.put, List.setIfInBounds_toArray, List.set_cons_zero, List.set_cons_succ, i64_w, i32_w]
       rfl
     refine pz (a' := ?_) 23 35 undef (bz 35 16777215) rfl rfl HT_ (Or.inr ⟨by rfl, rfl⟩) ?_ ?_
     rotate_left
     · simp only [Act.put, List.setIfInBounds_toArray, List.set_cons_zero, List.set_cons_succ, i64_w, i32_w]
       rfl
     refine pz (a' := ?_) 24 36 ?_ (bz 35 33554431) rfl rfl HT_ (Or.inl ⟨by rfl, ?_⟩) ?_ ?_
     rotate_left
     · intro w'
       first | (go_simp; with_reducible rfl) | (go_simp; unfold Instr.field; go_simp; rfl)
     rotate_left
     · simp only [Act.put, List.setIfInBounds_toArray, List.set_cons_zero, List.set_cons_succ, i64_w, i32_w]
       rfl
     refine pz (a' := ?_) 25 37 ?_ (bz 35 67108863) rfl rfl HT_ (Or.inl ⟨by rfl, ?_⟩) ?_ ?_
     rotate_left
     · intro w'
       first | (go_simp; with_reducible rfl) | (go_simp; unfold Instr.field; go_simp; rfl)
     rotate_left
     · simp only [Act.put, List.setIfInBounds_toArray, List.set_cons_zero, List.set_cons_succ, i64_w, i32_w]
       rfl
     refine pz (a' := ?_) 26 38 undef (bz 35 134217727) rfl rfl HT_ (Or.inr ⟨by rfl, rfl⟩) ?_ ?_
     rotate_left
     · simp only [Act.put, List.setIfInBounds_toArray, List.set_cons_zero, List.set_cons_succ, i64_w, i32_w]
       rfl
     refine pz (a' := ?_) 27 39 undef (bz 35 268435455) rfl rfl HT_ (Or.inr ⟨by rfl, rfl⟩) ?_ ?_
     rotate_left
     · simp only [Act.put, List.setIfInBounds_toArray, List.set_cons_zero, List.set_cons_succ, i64_w, i32_w]
       rfl
     refine pz (a' := ?_) 28 40 undef (bz 35 536870911) rfl rfl HT_ (Or.inr ⟨by rfl, rfl⟩) ?_ ?_
     rotate_left
     · simp only [Act.put, List.setIfInBounds_toArray, List.set_cons_zero, List.set_cons_succ, i64_w, i32_w]
       rfl
     refine pz (a' := ?_) 29 41 undef (bz 35 1073741823) rfl rfl HT_ (Or.inr ⟨by rfl, rfl⟩) ?_ ?_
     rotate_left
     · simp only [Act.put, List.setIfInBounds_toArray, List.set_cons_zero, List.set_cons_succ, i64_w, i32_w]
       rfl
     refine pz (a' := ?_) 30 42 undef (bz 35 2147483647) rfl rfl HT_ (Or.inr ⟨by rfl, rfl⟩) ?_ ?_
     rotate_left
     · simp only [Act.put, List.setIfInBounds_toArray, List.set_cons_zero, List.set_cons_succ, i64_w, i32_w]
       rfl
     refine pz (a' := ?_) 31 43 undef (bz 35 4294967295) rfl rfl HT_ (Or.inr ⟨by rfl, rfl⟩) ?_ ?_
     rotate_left
     · simp only [Act.put, List.setIfInBounds_toArray, List.set_cons_zero, List.set_cons_succ, i64_w, i32_w]
       rfl
     refine pz (a' := ?_) 32 44 undef (bz 35 8589934591) rfl rfl HT_ (Or.inr ⟨by rfl, rfl⟩) ?_ ?_
     rotate_left
     · simp only [Act.put, List.setIfInBounds_toArray, List.set_cons_zero, List.set_cons_succ, i64_w, i32_w]
       rfl
     refine pz (a' := ?_) 33 45 undef (bz 35 17179869183) rfl rfl HT_ (Or.inr ⟨by rfl, rfl⟩) ?_ ?_
     rotate_left
     · simp only [Act.put, List.setIfInBounds_toArray, List.set_cons_zero, List.set_cons_succ, i64_w, i32_w]
       rfl
     refine pz (a' := ?_) 34 46 ?_ (bz 35 34359738367) rfl rfl HT_ (Or.inl ⟨by rfl, ?_⟩) ?_ ?_
     rotate_left
     · intro w'
       first | (go_simp; with_reducible rfl) | (go_simp; unfold Instr.field; go_simp; rfl)
     rotate_left
     · simp only [Act.put, List.setIfInBounds_toArray, List.set_cons_zero, List.set_cons_succ, i64_w, i32_w]
       rfl
     refine done_ (done_of HT_.out (by kernel_rfl)) ?_
     try go_wp2
     go_meet
     case rel => exact ⟨_, (true), (by first | rfl | (simp; done) | (simp [*]; done)), H', ⟨by first | omega | exact Nat.le_refl _⟩, ⟨by (with_reducible repeat (first | refine blk_drewN ?_ _ | refine blk_drew ?_ | refine blk_alloc ?_ _)); exact BK556.out⟩, ⟨by (with_reducible repeat (first | refine blk_drewN ?_ _ | refine blk_drew ?_ | refine blk_alloc ?_ _)); exact BK557.out⟩, ⟨by (with_reducible repeat (first | refine blk_drewN ?_ _ | refine blk_drew ?_ | refine blk_alloc ?_ _)); exact BK558.out⟩, ⟨hq3 HB GE556 GE557 GE558⟩⟩
   rw [if_neg c11] at H
   have c11b0 : ((Int.tmod (rd l1_0 0) 2) == 0) = false := beq_eq_false_iff_ne.mpr c11
   have c11b1 : ((Int.tmod (rd l1_0 0) 2) != 0) = true := bne_iff_ne.mpr c11
   by_cases c14 : (rd l1_0 0) = 1
   · rw [if_pos c14] at H
     have c14b0 : ((rd l1_0 0) == 1) = true := beq_iff_eq.mpr c14
     have c14b1 : ((rd l1_0 0) != 1) = false := bne_eq_false_iff_eq.mpr c14
     clear c14
     have H' := Aside0.mk H
     clear H
     try go_wp2
     replace BK556 := Aside0.mk (blk_drew BK556.out); replace BK557 := Aside0.mk (blk_drew BK557.out); replace BK558 := Aside0.mk (blk_drew BK558.out); replace HB := Aside0.mk (below_drew1 HB.out)
     have p560 : 0 ≤ (0 : Int) := (by omega)
     have q560 : 0 < (l1_0.length : Int) := of_decide_eq_true (by first | (with_reducible assumption) | assumption)
     obtain ⟨ad560, e560, hx560_0⟩ := Kd.at_int HR1_0.out 0 p560 q560; have hw560_0 := hx560_0
     (try rw [show ((0 : Int)).toNat = 0 from rfl] at hw560_0)
     (try rw [show 0 * 1 = 0 from rfl] at hw560_0)
     (try rw [Addr.add_zero'] at hw560_0)
     cases e560
     have qi560 : (0 < l1_0.length) = True := eq_true (by omega)
     (try rw [show ((0 : Int)).toNat = 0 from rfl] at hx560_0)
     (try rw [Addr.add_zero'] at hx560_0)
     replace hx560_0 := (HB.out.cell (World.block_lt_of_cell? w _ hx560_0)).trans hx560_0; replace p560 := eq_true p560; replace q560 := eq_true q560
     have p561 : 0 ≤ (0 : Int) := (by omega)
     have q561 : 0 < (l1_0.length : Int) := of_decide_eq_true (by first | (with_reducible assumption) | assumption)
     obtain ⟨ad561, e561, hx561_0⟩ := Kd.at_int HR1_0.out 0 p561 q561; have hw561_0 := hx561_0
     (try rw [show ((0 : Int)).toNat = 0 from rfl] at hw561_0)
     (try rw [show 0 * 1 = 0 from rfl] at hw561_0)
     (try rw [Addr.add_zero'] at hw561_0)
     obtain rfl : ad560 = ad561 := (by injection e561)
     have qi561 : (0 < l1_0.length) = True := eq_true (by omega)
     (try rw [show ((0 : Int)).toNat = 0 from rfl] at hx561_0)
     (try rw [Addr.add_zero'] at hx561_0)
     replace hx561_0 := (HB.out.cell (World.block_lt_of_cell? w _ hx561_0)).trans hx561_0; replace p561 := eq_true p561; replace q561 := eq_true q561
     refine start_ (n := 35) (S := fun w' => w'.cell? ⟨gb556, 0, none⟩ = some (.slice A0_0 l0_0.length c0_0) ∧ w'.cell? ⟨gb557, 0, none⟩ = some (.slice (some ad560) l1_0.length c1_0) ∧ w'.cell? ad560 = some (.int .i64 (rd l1_0 0)) ∧ w'.cell? ad560 = some (.int .i64 (rd l1_0 0))) (ds := []) #[false, false, false, false, false, false, false, false, false, false, false, false, false, false, false, false, false, false, false, false, false, false, false, false, false, false, false, false, false, false, false, false, false, false, false] (by kernel_rfl) rfl rfl ⟨(blk_cell BK556.out 0).trans rfl, (blk_cell BK557.out 0).trans rfl, ((HB.out.cell (World.block_lt_of_cell? w _ hw560_0)).trans hw560_0), ((HB.out.cell (World.block_lt_of_cell? w _ hw561_0)).trans hw561_0)⟩ (fun hHeld => ?_); refine with_tabW spec_ReduceBig.tab1 spec_ReduceBig.bits1 (fun HT_ HW_ => ?_)
     generalize w6.drew = w15 at BK556 BK557 BK558 HB hx560_0 hx561_0 hHeld ⊢
     refine take_ (i := 0) (N := some 12) (v := ?_) (a' := ?_) (bz 35 1) rfl rfl (take_ofW HT_.out HW_.out (by kernel_rfl)) (fun _ _ _ h => h) (Or.inl ⟨by rfl, ?_⟩) hHeld ?_ ?_
     rotate_left
     · rintro w' ⟨s0, s1, s2, s3⟩
       go_simp
       with_reducible rfl
     rotate_left
     · simp only [Act.put, List.setIfInBounds_toArray, List.set_cons_zero, List.set_cons_succ, i64_w, i32_w]
       rfl
     refine take_ (i := 1) (N := some 13) (v := ?_) (a' := ?_) (bz 35 3) rfl rfl (take_ofW HT_.out HW_.out (by kernel_rfl)) (fun _ _ _ h => h) (Or.inl ⟨by rfl, ?_⟩) hHeld ?_ ?_
     rotate_left
     · rintro w' ⟨s0, s1, s2, s3⟩
       go_simp
       with_reducible rfl
     rotate_left
     · simp only [Act.put, List.setIfInBounds_toArray, List.set_cons_zero, List.set_cons_succ, i64_w, i32_w]
       rfl
     refine one_ (i := 2) (N := some 14) (bz 35 7) rfl rfl (one_of HT_.out (by kernel_rfl)) (by decide) (fun K hK => ?_)
     refine goes_ Try.func77 (by kernel_rfl) rfl #[.agg #[.slice A0_0 l0_0.length c0_0], .agg #[.slice (some ad560) l1_0.length c1_0]] (by rfl) rfl rfl (by (try simp only [List.map_toArray, List.map_cons, List.map_nil]); first | done | rfl | (simp only [List.length_drop, List.length_take]; rfl)) ?_
     with_reducible refine (spec_l1Both.calls k _ _ l0_0 _ _ l1_0 true _ ?side1 ?side2 ?side3 ?side4 A7.out).mono ?_
     (case side1 => exact cq (Kd.C_below HR0_0.out HB.out))
     (case side2 => exact HC0_0.out)
     (case side3 => exact cq (Kd.C_below HR1_0.out HB.out))
     (case side4 => exact HC1_0.out)
     rintro e w16 ⟨rfl, hb⟩
     refine ⟨_, rfl, ?_⟩; replace BK556 := cB BK556 hb; replace BK557 := cB BK557 hb; replace BK558 := cB BK558 hb; replace HB := cs (hq3 HB GE556 GE557 GE558) hb; (try clear hb); (try clear hb2); (try clear hk); (try clear hi)
     refine hK.out _ _ ⟨(blk_cell BK556.out 0).trans rfl, (blk_cell BK557.out 0).trans rfl, ((HB.out.cell (World.block_lt_of_cell? w _ hw560_0)).trans hw560_0), ((HB.out.cell (World.block_lt_of_cell? w _ hw561_0)).trans hw561_0)⟩ (fun hHeld => ?_)
     clear hK K
     refine norm_ (a' := ?_) ?_ ?_
     rotate_left
     · show Act.put _ (some 14) _ = _
       simp only [Act.put, List.setIfInBounds_toArray, List.set_cons_zero, List.set_cons_succ, i64_w, i32_w]
       rfl
     refine pz (a' := ?_) 3 15 ?_ (bz 35 15) rfl rfl HT_ (Or.inl ⟨by rfl, ?_⟩) ?_ ?_
     rotate_left
     · intro w'
       first | (go_simp; with_reducible rfl) | (go_simp; unfold Instr.field; go_simp; rfl)
     rotate_left
     · simp only [Act.put, List.setIfInBounds_toArray, List.set_cons_zero, List.set_cons_succ, i64_w, i32_w]
       rfl
     refine pz (a' := ?_) 4 16 ?_ (bz 35 31) rfl rfl HT_ (Or.inl ⟨by rfl, ?_⟩) ?_ ?_
     rotate_left
     · intro w'
       first | (go_simp; with_reducible rfl) | (go_simp; unfold Instr.field; go_simp; rfl)
     rotate_left
     · simp only [Act.put, List.setIfInBounds_toArray, List.set_cons_zero, List.set_cons_succ, i64_w, i32_w]
       rfl
     refine pz (a' := ?_) 5 17 ?_ (bz 35 63) rfl rfl HT_ (Or.inl ⟨by rfl, ?_⟩) ?_ ?_
     rotate_left
     · intro w'
       first | (go_simp; with_reducible rfl) | (go_simp; unfold Instr.field; go_simp; rfl)
     rotate_left
     · simp only [Act.put, List.setIfInBounds_toArray, List.set_cons_zero, List.set_cons_succ, i64_w, i32_w]
       rfl
     refine take_ (i := 6) (N := some 18) (v := ?_) (a' := ?_) (bz 35 127) rfl rfl (take_ofW HT_.out HW_.out (by kernel_rfl)) (fun _ _ _ h => h) (Or.inl ⟨by rfl, ?_⟩) hHeld ?_ ?_
     rotate_left
     · rintro w' ⟨s0, s1, s2, s3⟩
       go_simp
       with_reducible rfl
     rotate_left
     · simp only [Act.put, List.setIfInBounds_toArray, List.set_cons_zero, List.set_cons_succ, i64_w, i32_w]
       rfl
     refine pz (a' := ?_) 7 19 ?_ (bz 35 255) rfl rfl HT_ (Or.inl ⟨by rfl, ?_⟩) ?_ ?_
     rotate_left
     · intro w'
       first | (go_simp; with_reducible rfl) | (go_simp; unfold Instr.field; go_simp; rfl)
     rotate_left
     · simp only [Act.put, List.setIfInBounds_toArray, List.set_cons_zero, List.set_cons_succ, i64_w, i32_w]
       rfl
     refine pz (a' := ?_) 8 20 ?_ (bz 35 511) rfl rfl HT_ (Or.inl ⟨by rfl, ?_⟩) ?_ ?_
     rotate_left
     · intro w'
       first | (go_simp; with_reducible rfl) | (go_simp; unfold Instr.field; go_simp; rfl)
     rotate_left
     · simp only [Act.put, List.setIfInBounds_toArray, List.set_cons_zero, List.set_cons_succ, i64_w, i32_w]
       rfl
     refine pz (a' := ?_) 9 21 ?_ (bz 35 1023) rfl rfl HT_ (Or.inl ⟨by rfl, ?_⟩) ?_ ?_
     rotate_left
     · intro w'
       first | (go_simp; with_reducible rfl) | (go_simp; unfold Instr.field; go_simp; rfl)
     rotate_left
     · simp only [Act.put, List.setIfInBounds_toArray, List.set_cons_zero, List.set_cons_succ, i64_w, i32_w]
       rfl
     refine pz (a' := ?_) 10 22 ?_ (bz 35 2047) rfl rfl HT_ (Or.inl ⟨by rfl, ?_⟩) ?_ ?_
     rotate_left
     · intro w'
       first | (go_simp; with_reducible rfl) | (go_simp; unfold Instr.field; go_simp; rfl)
     rotate_left
     · simp only [Act.put, List.setIfInBounds_toArray, List.set_cons_zero, List.set_cons_succ, i64_w, i32_w]
       rfl
     refine pz (a' := ?_) 11 23 ?_ (bz 35 4095) rfl rfl HT_ (Or.inl ⟨by rfl, ?_⟩) ?_ ?_
     rotate_left
     · intro w'
       first | (go_simp; with_reducible rfl) | (go_simp; unfold Instr.field; go_simp; rfl)
     rotate_left
     · simp only [Act.put, List.setIfInBounds_toArray, List.set_cons_zero, List.set_cons_succ, i64_w, i32_w]
       rfl
     refine take_ (i := 12) (N := some 24) (v := ?_) (a' := ?_) (bz 35 8191) rfl rfl (take_ofW HT_.out HW_.out (by kernel_rfl)) (fun _ _ _ h => h) (Or.inl ⟨by rfl, ?_⟩) hHeld ?_ ?_
     rotate_left
     · rintro w' ⟨s0, s1, s2, s3⟩
       go_simp
       with_reducible rfl
     rotate_left
     · simp only [Act.put, List.setIfInBounds_toArray, List.set_cons_zero, List.set_cons_succ, i64_w, i32_w]
       rfl
     refine pz (a' := ?_) 13 25 ?_ (bz 35 16383) rfl rfl HT_ (Or.inl ⟨by rfl, ?_⟩) ?_ ?_
     rotate_left
     · intro w'
       first | (go_simp; with_reducible rfl) | (go_simp; unfold Instr.field; go_simp; rfl)
     rotate_left
     · simp only [Act.put, List.setIfInBounds_toArray, List.set_cons_zero, List.set_cons_succ, i64_w, i32_w]
       rfl
     refine take_ (i := 14) (N := some 26) (v := ?_) (a' := ?_) (bz 35 32767) rfl rfl (take_ofW HT_.out HW_.out (by kernel_rfl)) (fun _ _ _ h => h) (Or.inl ⟨by rfl, ?_⟩) hHeld ?_ ?_
     rotate_left
     · rintro w' ⟨s0, s1, s2, s3⟩
       go_simp
       with_reducible rfl
     rotate_left
     · simp only [Act.put, List.setIfInBounds_toArray, List.set_cons_zero, List.set_cons_succ, i64_w, i32_w]
       rfl
     refine pz (a' := ?_) 15 27 ?_ (bz 35 65535) rfl rfl HT_ (Or.inl ⟨by rfl, ?_⟩) ?_ ?_
     rotate_left
     · intro w'
       first | (go_simp; with_reducible rfl) | (go_simp; unfold Instr.field; go_simp; rfl)
     rotate_left
     · simp only [Act.put, List.setIfInBounds_toArray, List.set_cons_zero, List.set_cons_succ, i64_w, i32_w]
       rfl
     refine pz (a' := ?_) 16 28 ?_ (bz 35 131071) rfl rfl HT_ (Or.inl ⟨by rfl, ?_⟩) ?_ ?_
     rotate_left
     · intro w'
       first | (go_simp; with_reducible rfl) | (go_simp; unfold Instr.field; go_simp; rfl)
     rotate_left
     · simp only [Act.put, List.setIfInBounds_toArray, List.set_cons_zero, List.set_cons_succ, i64_w, i32_w]
       rfl
     refine pz (a' := ?_) 17 29 ?_ (bz 35 262143) rfl rfl HT_ (Or.inl ⟨by rfl, ?_⟩) ?_ ?_
     rotate_left
     · intro w'
       first | (go_simp; with_reducible rfl) | (go_simp; unfold Instr.field; go_simp; rfl)
     rotate_left
     · simp only [Act.put, List.setIfInBounds_toArray, List.set_cons_zero, List.set_cons_succ, i64_w, i32_w]
       rfl
     refine pz (a' := ?_) 18 30 ?_ (bz 35 524287) rfl rfl HT_ (Or.inl ⟨by rfl, ?_⟩) ?_ ?_
     rotate_left
     · intro w'
       first | (go_simp; with_reducible rfl) | (go_simp; unfold Instr.field; go_simp; rfl)
     rotate_left
     · simp only [Act.put, List.setIfInBounds_toArray, List.set_cons_zero, List.set_cons_succ, i64_w, i32_w]
       rfl
     refine pz (a' := ?_) 19 31 ?_ (bz 35 1048575) rfl rfl HT_ (Or.inl ⟨by rfl, ?_⟩) ?_ ?_
     rotate_left
     · intro w'
       first | (go_simp; with_reducible rfl) | (go_simp; unfold Instr.field; go_simp; rfl)
     rotate_left
     · simp only [Act.put, List.setIfInBounds_toArray, List.set_cons_zero, List.set_cons_succ, i64_w, i32_w]
       rfl
     refine take_ (i := 20) (N := some 32) (v := ?_) (a' := ?_) (bz 35 2097151) rfl rfl (take_ofW HT_.out HW_.out (by kernel_rfl)) (fun _ _ _ h => h) (Or.inl ⟨by rfl, ?_⟩) hHeld ?_ ?_
     rotate_left
     · rintro w' ⟨s0, s1, s2, s3⟩
       go_simp
       with_reducible rfl
     rotate_left
     · simp only [Act.put, List.setIfInBounds_toArray, List.set_cons_zero, List.set_cons_succ, i64_w, i32_w]
       rfl
     refine pz (a' := ?_) 21 33 ?_ (bz 35 4194303) rfl rfl HT_ (Or.inl ⟨by rfl, ?_⟩) ?_ ?_
     rotate_left
     · intro w'
       first | (go_simp; with_reducible rfl) | (go_simp; unfold Instr.field; go_simp; rfl)
     rotate_left
     · simp only [Act.put, List.setIfInBounds_toArray, List.set_cons_zero, List.set_cons_succ, i64_w, i32_w]
       rfl
     refine take_ (i := 22) (N := some 34) (v := ?_) (a' := ?_) (bz 35 8388607) rfl rfl (take_ofW HT_.out HW_.out (by kernel_rfl)) (fun _ _ _ h => h) (Or.inl ⟨by rfl, ?_⟩) hHeld ?_ ?_
     rotate_left
     · rintro w' ⟨s0, s1, s2, s3⟩
       go_simp
       with_reducible rfl
     rotate_left
     · simp only [Act.put, List.setIfInBounds_toArray, List.set_cons_zero, List.set_cons_succ, i64_w, i32_w]
       rfl
     refine pz (a' := ?_) 23 35 ?_ (bz 35 16777215) rfl rfl HT_ (Or.inl ⟨by rfl, ?_⟩) ?_ ?_
     rotate_left
     · intro w'
       first | (go_simp; with_reducible rfl) | (go_simp; unfold Instr.field; go_simp; rfl)
     rotate_left
     · simp only [Act.put, List.setIfInBounds_toArray, List.set_cons_zero, List.set_cons_succ, i64_w, i32_w]
       rfl
     refine pz (a' := ?_) 24 36 ?_ (bz 35 33554431) rfl rfl HT_ (Or.inl ⟨by rfl, ?_⟩) ?_ ?_
     rotate_left
     · intro w'
       first | (go_simp; with_reducible rfl) | (go_simp; unfold Instr.field; go_simp; rfl)
     rotate_left
     · simp only [Act.put, List.setIfInBounds_toArray, List.set_cons_zero, List.set_cons_succ, i64_w, i32_w]
       rfl
     refine pz (a' := ?_) 25 37 ?_ (bz 35 67108863) rfl rfl HT_ (Or.inl ⟨by rfl, ?_⟩) ?_ ?_
     rotate_left
     · intro w'
       first | (go_simp; with_reducible rfl) | (go_simp; unfold Instr.field; go_simp; rfl)
     rotate_left
     · simp only [Act.put, List.setIfInBounds_toArray, List.set_cons_zero, List.set_cons_succ, i64_w, i32_w]
       rfl
     refine pz (a' := ?_) 26 38 undef (bz 35 134217727) rfl rfl HT_ (Or.inr ⟨by rfl, rfl⟩) ?_ ?_
     rotate_left
     · simp only [Act.put, List.setIfInBounds_toArray, List.set_cons_zero, List.set_cons_succ, i64_w, i32_w]
       rfl
     refine pz (a' := ?_) 27 39 undef (bz 35 268435455) rfl rfl HT_ (Or.inr ⟨by rfl, rfl⟩) ?_ ?_
     rotate_left
     · simp only [Act.put, List.setIfInBounds_toArray, List.set_cons_zero, List.set_cons_succ, i64_w, i32_w]
       rfl
     refine pz (a' := ?_) 28 40 undef (bz 35 536870911) rfl rfl HT_ (Or.inr ⟨by rfl, rfl⟩) ?_ ?_
     rotate_left
     · simp only [Act.put, List.setIfInBounds_toArray, List.set_cons_zero, List.set_cons_succ, i64_w, i32_w]
       rfl
     refine pz (a' := ?_) 29 41 undef (bz 35 1073741823) rfl rfl HT_ (Or.inr ⟨by rfl, rfl⟩) ?_ ?_
     rotate_left
     · simp only [Act.put, List.setIfInBounds_toArray, List.set_cons_zero, List.set_cons_succ, i64_w, i32_w]
       rfl
     refine pz (a' := ?_) 30 42 undef (bz 35 2147483647) rfl rfl HT_ (Or.inr ⟨by rfl, rfl⟩) ?_ ?_
     rotate_left
     · simp only [Act.put, List.setIfInBounds_toArray, List.set_cons_zero, List.set_cons_succ, i64_w, i32_w]
       rfl
     refine pz (a' := ?_) 31 43 undef (bz 35 4294967295) rfl rfl HT_ (Or.inr ⟨by rfl, rfl⟩) ?_ ?_
     rotate_left
     · simp only [Act.put, List.setIfInBounds_toArray, List.set_cons_zero, List.set_cons_succ, i64_w, i32_w]
       rfl
     refine pz (a' := ?_) 32 44 undef (bz 35 8589934591) rfl rfl HT_ (Or.inr ⟨by rfl, rfl⟩) ?_ ?_
     rotate_left
     · simp only [Act.put, List.setIfInBounds_toArray, List.set_cons_zero, List.set_cons_succ, i64_w, i32_w]
       rfl
     refine pz (a' := ?_) 33 45 undef (bz 35 17179869183) rfl rfl HT_ (Or.inr ⟨by rfl, rfl⟩) ?_ ?_
     rotate_left
     · simp only [Act.put, List.setIfInBounds_toArray, List.set_cons_zero, List.set_cons_succ, i64_w, i32_w]
       rfl
     refine pz (a' := ?_) 34 46 ?_ (bz 35 34359738367) rfl rfl HT_ (Or.inl ⟨by rfl, ?_⟩) ?_ ?_
     rotate_left
     · intro w'
       first | (go_simp; with_reducible rfl) | (go_simp; unfold Instr.field; go_simp; rfl)
     rotate_left
     · simp only [Act.put, List.setIfInBounds_toArray, List.set_cons_zero, List.set_cons_succ, i64_w, i32_w]
       rfl
     refine done_ (done_of HT_.out (by kernel_rfl)) ?_
     try go_wp2
     go_meet
     case rel => exact ⟨_, (true), (by first | rfl | (simp; done) | (simp [*]; done)), H', ⟨by first | omega | exact Nat.le_refl _⟩, ⟨by (with_reducible repeat (first | refine blk_drewN ?_ _ | refine blk_drew ?_ | refine blk_alloc ?_ _)); exact BK556.out⟩, ⟨by (with_reducible repeat (first | refine blk_drewN ?_ _ | refine blk_drew ?_ | refine blk_alloc ?_ _)); exact BK557.out⟩, ⟨by (with_reducible repeat (first | refine blk_drewN ?_ _ | refine blk_drew ?_ | refine blk_alloc ?_ _)); exact BK558.out⟩, ⟨hq3 HB GE556 GE557 GE558⟩⟩
   rw [if_neg c14] at H
   have c14b0 : ((rd l1_0 0) == 1) = false := beq_eq_false_iff_ne.mpr c14
   have c14b1 : ((rd l1_0 0) != 1) = true := bne_iff_ne.mpr c14
   obtain ⟨y562, hy562⟩ : ∃ y_ : List Int, y_ = (([0] : List Int)) := ⟨_, rfl⟩
   replace H : (if y562.length + l1_0.length < 17592186044416 then ((spec_l1Compare.f k l0_0 (y562 ++ l1_0)).bind fun t568 => (spec_ReduceBig.j0 k (decide (t568 ≥ 0)) l0_0 l1_0)) else (none)) = some (r1, r2) := by first | (rw [hy562]; with_reducible exact H) | (have H2_ := (Option.bind_some _ _).symm.trans H; rw [hy562]; with_reducible exact H2_) | (have H2_ := (Option.bind_some _ _).symm.trans H; with_reducible exact H2_) | with_reducible exact H | (rw [hy562]; exact H) | exact H
   have Ny562 := Aside0.mk hy562; clear hy562
   by_cases c17 : y562.length + l1_0.length < 17592186044416
   rotate_left
   · rw [if_neg c17] at H
     exact absurd H (by simp)
   rw [if_pos c17] at H; have LMc17 := Aside0.mk c17; clear c17; obtain ⟨y565, hy565⟩ : ∃ y_ : List Int, y_ = (y562 ++ l1_0) := ⟨_, rfl⟩
   replace H : ((spec_l1Compare.f k l0_0 y565).bind fun t568 => (spec_ReduceBig.j0 k (decide (t568 ≥ 0)) l0_0 l1_0)) = some (r1, r2) := by first | (rw [hy565]; with_reducible exact H) | (have H2_ := (Option.bind_some _ _).symm.trans H; rw [hy565]; with_reducible exact H2_) | (have H2_ := (Option.bind_some _ _).symm.trans H; with_reducible exact H2_) | with_reducible exact H | (rw [hy565]; exact H) | exact H
   have Ny565 := Aside0.mk hy565; clear hy565; replace H := Option.bind_eq_some_iff.mp H; obtain ⟨t568, A180, H⟩ := H; (try dsimp only at H); have A18 := Aside0.mk A180; clear A180
   have H' := Aside0.mk H
   clear H
   try go_wp2
   replace BK556 := Aside0.mk (blk_drew BK556.out); replace BK557 := Aside0.mk (blk_drew BK557.out); replace BK558 := Aside0.mk (blk_drew BK558.out); replace HB := Aside0.mk (below_drew1 HB.out)
   have p560 : 0 ≤ (0 : Int) := (by omega)
   have q560 : 0 < (l1_0.length : Int) := of_decide_eq_true (by first | (with_reducible assumption) | assumption)
   obtain ⟨ad560, e560, hx560_0⟩ := Kd.at_int HR1_0.out 0 p560 q560; have hw560_0 := hx560_0
   (try rw [show ((0 : Int)).toNat = 0 from rfl] at hw560_0)
   (try rw [show 0 * 1 = 0 from rfl] at hw560_0)
   (try rw [Addr.add_zero'] at hw560_0)
   cases e560
   have qi560 : (0 < l1_0.length) = True := eq_true (by omega)
   (try rw [show ((0 : Int)).toNat = 0 from rfl] at hx560_0)
   (try rw [Addr.add_zero'] at hx560_0)
   replace hx560_0 := (HB.out.cell (World.block_lt_of_cell? w _ hx560_0)).trans hx560_0; replace p560 := eq_true p560; replace q560 := eq_true q560
   have p561 : 0 ≤ (0 : Int) := (by omega)
   have q561 : 0 < (l1_0.length : Int) := of_decide_eq_true (by first | (with_reducible assumption) | assumption)
   obtain ⟨ad561, e561, hx561_0⟩ := Kd.at_int HR1_0.out 0 p561 q561; have hw561_0 := hx561_0
   (try rw [show ((0 : Int)).toNat = 0 from rfl] at hw561_0)
   (try rw [show 0 * 1 = 0 from rfl] at hw561_0)
   (try rw [Addr.add_zero'] at hw561_0)
   obtain rfl : ad560 = ad561 := (by injection e561)
   have qi561 : (0 < l1_0.length) = True := eq_true (by omega)
   (try rw [show ((0 : Int)).toNat = 0 from rfl] at hx561_0)
   (try rw [Addr.add_zero'] at hx561_0)
   replace hx561_0 := (HB.out.cell (World.block_lt_of_cell? w _ hx561_0)).trans hx561_0; replace p561 := eq_true p561; replace q561 := eq_true q561
   refine start_ (n := 35) (S := fun w' => w'.cell? ⟨gb556, 0, none⟩ = some (.slice A0_0 l0_0.length c0_0) ∧ w'.cell? ⟨gb557, 0, none⟩ = some (.slice (some ad560) l1_0.length c1_0) ∧ w'.cell? ad560 = some (.int .i64 (rd l1_0 0)) ∧ w'.cell? ad560 = some (.int .i64 (rd l1_0 0))) (ds := []) #[false, false, false, false, false, false, false, false, false, false, false, false, false, false, false, false, false, false, false, false, false, false, false, false, false, false, false, false, false, false, false, false, false, false, false] (by kernel_rfl) rfl rfl ⟨(blk_cell BK556.out 0).trans rfl, (blk_cell BK557.out 0).trans rfl, ((HB.out.cell (World.block_lt_of_cell? w _ hw560_0)).trans hw560_0), ((HB.out.cell (World.block_lt_of_cell? w _ hw561_0)).trans hw561_0)⟩ (fun hHeld => ?_); refine with_tabW spec_ReduceBig.tab1 spec_ReduceBig.bits1 (fun HT_ HW_ => ?_)
   generalize w6.drew = w19 at BK556 BK557 BK558 HB hx560_0 hx561_0 hHeld ⊢
   refine take_ (i := 0) (N := some 12) (v := ?_) (a' := ?_) (bz 35 1) rfl rfl (take_ofW HT_.out HW_.out (by kernel_rfl)) (fun _ _ _ h => h) (Or.inl ⟨by rfl, ?_⟩) hHeld ?_ ?_
   rotate_left
   · rintro w' ⟨s0, s1, s2, s3⟩
     go_simp
     with_reducible rfl
   rotate_left
   · simp only [Act.put, List.setIfInBounds_toArray, List.set_cons_zero, List.set_cons_succ, i64_w, i32_w]
     rfl
   refine take_ (i := 1) (N := some 13) (v := ?_) (a' := ?_) (bz 35 3) rfl rfl (take_ofW HT_.out HW_.out (by kernel_rfl)) (fun _ _ _ h => h) (Or.inl ⟨by rfl, ?_⟩) hHeld ?_ ?_
   rotate_left
   · rintro w' ⟨s0, s1, s2, s3⟩
     go_simp
     with_reducible rfl
   rotate_left
   · simp only [Act.put, List.setIfInBounds_toArray, List.set_cons_zero, List.set_cons_succ, i64_w, i32_w]
     rfl
   refine one_ (i := 2) (N := some 14) (bz 35 7) rfl rfl (one_of HT_.out (by kernel_rfl)) (by decide) (fun K hK => ?_)
   refine goes_ Try.func77 (by kernel_rfl) rfl #[.agg #[.slice A0_0 l0_0.length c0_0], .agg #[.slice (some ad560) l1_0.length c1_0]] (by rfl) rfl rfl (by (try simp only [List.map_toArray, List.map_cons, List.map_nil]); first | done | rfl | (simp only [List.length_drop, List.length_take]; rfl)) ?_
   with_reducible refine (spec_l1Both.calls k _ _ l0_0 _ _ l1_0 true _ ?side1 ?side2 ?side3 ?side4 A7.out).mono ?_
   (case side1 => exact cq (Kd.C_below HR0_0.out HB.out))
   (case side2 => exact HC0_0.out)
   (case side3 => exact cq (Kd.C_below HR1_0.out HB.out))
   (case side4 => exact HC1_0.out)
   rintro e w20 ⟨rfl, hb⟩
   refine ⟨_, rfl, ?_⟩; replace BK556 := cB BK556 hb; replace BK557 := cB BK557 hb; replace BK558 := cB BK558 hb; replace HB := cs (hq3 HB GE556 GE557 GE558) hb; (try clear hb); (try clear hb2); (try clear hk); (try clear hi)
   refine hK.out _ _ ⟨(blk_cell BK556.out 0).trans rfl, (blk_cell BK557.out 0).trans rfl, ((HB.out.cell (World.block_lt_of_cell? w _ hw560_0)).trans hw560_0), ((HB.out.cell (World.block_lt_of_cell? w _ hw561_0)).trans hw561_0)⟩ (fun hHeld => ?_)
   clear hK K
   refine norm_ (a' := ?_) ?_ ?_
   rotate_left
   · show Act.put _ (some 14) _ = _
     simp only [Act.put, List.setIfInBounds_toArray, List.set_cons_zero, List.set_cons_succ, i64_w, i32_w]
     rfl
   refine pz (a' := ?_) 3 15 ?_ (bz 35 15) rfl rfl HT_ (Or.inl ⟨by rfl, ?_⟩) ?_ ?_
   rotate_left
   · intro w'
     first | (go_simp; with_reducible rfl) | (go_simp; unfold Instr.field; go_simp; rfl)
   rotate_left
   · simp only [Act.put, List.setIfInBounds_toArray, List.set_cons_zero, List.set_cons_succ, i64_w, i32_w]
     rfl
   refine pz (a' := ?_) 4 16 ?_ (bz 35 31) rfl rfl HT_ (Or.inl ⟨by rfl, ?_⟩) ?_ ?_
   rotate_left
   · intro w'
     first | (go_simp; with_reducible rfl) | (go_simp; unfold Instr.field; go_simp; rfl)
   rotate_left
   · simp only [Act.put, List.setIfInBounds_toArray, List.set_cons_zero, List.set_cons_succ, i64_w, i32_w]
     rfl
   refine pz (a' := ?_) 5 17 ?_ (bz 35 63) rfl rfl HT_ (Or.inl ⟨by rfl, ?_⟩) ?_ ?_
   rotate_left
   · intro w'
     first | (go_simp; with_reducible rfl) | (go_simp; unfold Instr.field; go_simp; rfl)
   rotate_left
   · simp only [Act.put, List.setIfInBounds_toArray, List.set_cons_zero, List.set_cons_succ, i64_w, i32_w]
     rfl
   refine take_ (i := 6) (N := some 18) (v := ?_) (a' := ?_) (bz 35 127) rfl rfl (take_ofW HT_.out HW_.out (by kernel_rfl)) (fun _ _ _ h => h) (Or.inl ⟨by rfl, ?_⟩) hHeld ?_ ?_
   rotate_left
   · rintro w' ⟨s0, s1, s2, s3⟩
     go_simp
     with_reducible rfl
   rotate_left
   · simp only [Act.put, List.setIfInBounds_toArray, List.set_cons_zero, List.set_cons_succ, i64_w, i32_w]
     rfl
   refine pz (a' := ?_) 7 19 ?_ (bz 35 255) rfl rfl HT_ (Or.inl ⟨by rfl, ?_⟩) ?_ ?_
   rotate_left
   · intro w'
     first | (go_simp; with_reducible rfl) | (go_simp; unfold Instr.field; go_simp; rfl)
   rotate_left
   · simp only [Act.put, List.setIfInBounds_toArray, List.set_cons_zero, List.set_cons_succ, i64_w, i32_w]
     rfl
   refine pz (a' := ?_) 8 20 ?_ (bz 35 511) rfl rfl HT_ (Or.inl ⟨by rfl, ?_⟩) ?_ ?_
   rotate_left
   · intro w'
     first | (go_simp; with_reducible rfl) | (go_simp; unfold Instr.field; go_simp; rfl)
   rotate_left
   · simp only [Act.put, List.setIfInBounds_toArray, List.set_cons_zero, List.set_cons_succ, i64_w, i32_w]
     rfl
   refine pz (a' := ?_) 9 21 ?_ (bz 35 1023) rfl rfl HT_ (Or.inl ⟨by rfl, ?_⟩) ?_ ?_
   rotate_left
   · intro w'
     first | (go_simp; with_reducible rfl) | (go_simp; unfold Instr.field; go_simp; rfl)
   rotate_left
   · simp only [Act.put, List.setIfInBounds_toArray, List.set_cons_zero, List.set_cons_succ, i64_w, i32_w]
     rfl
   refine pz (a' := ?_) 10 22 ?_ (bz 35 2047) rfl rfl HT_ (Or.inl ⟨by rfl, ?_⟩) ?_ ?_
   rotate_left
   · intro w'
     first | (go_simp; with_reducible rfl) | (go_simp; unfold Instr.field; go_simp; rfl)
   rotate_left
   · simp only [Act.put, List.setIfInBounds_toArray, List.set_cons_zero, List.set_cons_succ, i64_w, i32_w]
     rfl
   refine pz (a' := ?_) 11 23 ?_ (bz 35 4095) rfl rfl HT_ (Or.inl ⟨by rfl, ?_⟩) ?_ ?_
   rotate_left
   · intro w'
     first | (go_simp; with_reducible rfl) | (go_simp; unfold Instr.field; go_simp; rfl)
   rotate_left
   · simp only [Act.put, List.setIfInBounds_toArray, List.set_cons_zero, List.set_cons_succ, i64_w, i32_w]
     rfl
   refine take_ (i := 12) (N := some 24) (v := ?_) (a' := ?_) (bz 35 8191) rfl rfl (take_ofW HT_.out HW_.out (by kernel_rfl)) (fun _ _ _ h => h) (Or.inl ⟨by rfl, ?_⟩) hHeld ?_ ?_
   rotate_left
   · rintro w' ⟨s0, s1, s2, s3⟩
     go_simp
     with_reducible rfl
   rotate_left
   · simp only [Act.put, List.setIfInBounds_toArray, List.set_cons_zero, List.set_cons_succ, i64_w, i32_w]
     rfl
   refine pz (a' := ?_) 13 25 ?_ (bz 35 16383) rfl rfl HT_ (Or.inl ⟨by rfl, ?_⟩) ?_ ?_
   rotate_left
   · intro w'
     first | (go_simp; with_reducible rfl) | (go_simp; unfold Instr.field; go_simp; rfl)
   rotate_left
   · simp only [Act.put, List.setIfInBounds_toArray, List.set_cons_zero, List.set_cons_succ, i64_w, i32_w]
     rfl
   refine take_ (i := 14) (N := some 26) (v := ?_) (a' := ?_) (bz 35 32767) rfl rfl (take_ofW HT_.out HW_.out (by kernel_rfl)) (fun _ _ _ h => h) (Or.inl ⟨by rfl, ?_⟩) hHeld ?_ ?_
   rotate_left
   · rintro w' ⟨s0, s1, s2, s3⟩
     go_simp
     with_reducible rfl
   rotate_left
   · simp only [Act.put, List.setIfInBounds_toArray, List.set_cons_zero, List.set_cons_succ, i64_w, i32_w]
     rfl
   refine pz (a' := ?_) 15 27 ?_ (bz 35 65535) rfl rfl HT_ (Or.inl ⟨by rfl, ?_⟩) ?_ ?_
   rotate_left
   · intro w'
     first | (go_simp; with_reducible rfl) | (go_simp; unfold Instr.field; go_simp; rfl)
   rotate_left
   · simp only [Act.put, List.setIfInBounds_toArray, List.set_cons_zero, List.set_cons_succ, i64_w, i32_w]
     rfl
   refine pz (a' := ?_) 16 28 ?_ (bz 35 131071) rfl rfl HT_ (Or.inl ⟨by rfl, ?_⟩) ?_ ?_
   rotate_left
   · intro w'
     first | (go_simp; with_reducible rfl) | (go_simp; unfold Instr.field; go_simp; rfl)
   rotate_left
   · simp only [Act.put, List.setIfInBounds_toArray, List.set_cons_zero, List.set_cons_succ, i64_w, i32_w]
     rfl
   refine pz (a' := ?_) 17 29 ?_ (bz 35 262143) rfl rfl HT_ (Or.inl ⟨by rfl, ?_⟩) ?_ ?_
   rotate_left
   · intro w'
     first | (go_simp; with_reducible rfl) | (go_simp; unfold Instr.field; go_simp; rfl)
   rotate_left
   · simp only [Act.put, List.setIfInBounds_toArray, List.set_cons_zero, List.set_cons_succ, i64_w, i32_w]
     rfl
   refine pz (a' := ?_) 18 30 ?_ (bz 35 524287) rfl rfl HT_ (Or.inl ⟨by rfl, ?_⟩) ?_ ?_
   rotate_left
   · intro w'
     first | (go_simp; with_reducible rfl) | (go_simp; unfold Instr.field; go_simp; rfl)
   rotate_left
   · simp only [Act.put, List.setIfInBounds_toArray, List.set_cons_zero, List.set_cons_succ, i64_w, i32_w]
     rfl
   refine pz (a' := ?_) 19 31 ?_ (bz 35 1048575) rfl rfl HT_ (Or.inl ⟨by rfl, ?_⟩) ?_ ?_
   rotate_left
   · intro w'
     first | (go_simp; with_reducible rfl) | (go_simp; unfold Instr.field; go_simp; rfl)
   rotate_left
   · simp only [Act.put, List.setIfInBounds_toArray, List.set_cons_zero, List.set_cons_succ, i64_w, i32_w]
     rfl
   refine take_ (i := 20) (N := some 32) (v := ?_) (a' := ?_) (bz 35 2097151) rfl rfl (take_ofW HT_.out HW_.out (by kernel_rfl)) (fun _ _ _ h => h) (Or.inl ⟨by rfl, ?_⟩) hHeld ?_ ?_
   rotate_left
   · rintro w' ⟨s0, s1, s2, s3⟩
     go_simp
     with_reducible rfl
   rotate_left
   · simp only [Act.put, List.setIfInBounds_toArray, List.set_cons_zero, List.set_cons_succ, i64_w, i32_w]
     rfl
   refine pz (a' := ?_) 21 33 ?_ (bz 35 4194303) rfl rfl HT_ (Or.inl ⟨by rfl, ?_⟩) ?_ ?_
   rotate_left
   · intro w'
     first | (go_simp; with_reducible rfl) | (go_simp; unfold Instr.field; go_simp; rfl)
   rotate_left
   · simp only [Act.put, List.setIfInBounds_toArray, List.set_cons_zero, List.set_cons_succ, i64_w, i32_w]
     rfl
   refine take_ (i := 22) (N := some 34) (v := ?_) (a' := ?_) (bz 35 8388607) rfl rfl (take_ofW HT_.out HW_.out (by kernel_rfl)) (fun _ _ _ h => h) (Or.inl ⟨by rfl, ?_⟩) hHeld ?_ ?_
   rotate_left
   · rintro w' ⟨s0, s1, s2, s3⟩
     go_simp
     with_reducible rfl
   rotate_left
   · simp only [Act.put, List.setIfInBounds_toArray, List.set_cons_zero, List.set_cons_succ, i64_w, i32_w]
     rfl
   refine pz (a' := ?_) 23 35 ?_ (bz 35 16777215) rfl rfl HT_ (Or.inl ⟨by rfl, ?_⟩) ?_ ?_
   rotate_left
   · intro w'
     first | (go_simp; with_reducible rfl) | (go_simp; unfold Instr.field; go_simp; rfl)
   rotate_left
   · simp only [Act.put, List.setIfInBounds_toArray, List.set_cons_zero, List.set_cons_succ, i64_w, i32_w]
     rfl
   refine pz (a' := ?_) 24 36 ?_ (bz 35 33554431) rfl rfl HT_ (Or.inl ⟨by rfl, ?_⟩) ?_ ?_
   rotate_left
   · intro w'
     first | (go_simp; with_reducible rfl) | (go_simp; unfold Instr.field; go_simp; rfl)
   rotate_left
   · simp only [Act.put, List.setIfInBounds_toArray, List.set_cons_zero, List.set_cons_succ, i64_w, i32_w]
     rfl
   refine pz (a' := ?_) 25 37 ?_ (bz 35 67108863) rfl rfl HT_ (Or.inl ⟨by rfl, ?_⟩) ?_ ?_
   rotate_left
   · intro w'
     first | (go_simp; with_reducible rfl) | (go_simp; unfold Instr.field; go_simp; rfl)
   rotate_left
   · simp only [Act.put, List.setIfInBounds_toArray, List.set_cons_zero, List.set_cons_succ, i64_w, i32_w]
     rfl
   refine pz (a' := ?_) 26 38 ?_ (bz 35 134217727) rfl rfl HT_ (Or.inl ⟨by rfl, ?_⟩) ?_ ?_
   rotate_left
   · intro w'
     first | (go_simp; with_reducible rfl) | (go_simp; unfold Instr.field; go_simp; rfl)
   rotate_left
   · simp only [Act.put, List.setIfInBounds_toArray, List.set_cons_zero, List.set_cons_succ, i64_w, i32_w]
     rfl
   refine pz (a' := ?_) 29 41 ?_ (bz 35 671088639) rfl rfl HT_ (Or.inl ⟨by rfl, ?_⟩) ?_ ?_
   rotate_left
   · intro w'
     first | (go_simp; with_reducible rfl) | (go_simp; unfold Instr.field; go_simp; rfl)
   rotate_left
   · simp only [Act.put, List.setIfInBounds_toArray, List.set_cons_zero, List.set_cons_succ, i64_w, i32_w]
     rfl
   refine take_ (i := 27) (N := some 39) (v := ?_) (a' := ?_) (bz 35 805306367) rfl rfl (take_ofW HT_.out HW_.out (by kernel_rfl)) (fun _ _ _ h => h) (Or.inl ⟨by rfl, ?_⟩) hHeld ?_ ?_
   rotate_left
   · rintro w' ⟨s0, s1, s2, s3⟩
     go_simp
     with_reducible rfl
   rotate_left
   · simp only [Act.put, List.setIfInBounds_toArray, List.set_cons_zero, List.set_cons_succ, i64_w, i32_w]
     rfl
   refine take_ (i := 30) (N := some 42) (v := ?_) (a' := ?_) (bz 35 1879048191) rfl rfl (take_ofW HT_.out HW_.out (by kernel_rfl)) (fun _ _ _ h => h) (Or.inl ⟨by rfl, ?_⟩) hHeld ?_ ?_
   rotate_left
   · rintro w' ⟨s0, s1, s2, s3⟩
     go_simp
     with_reducible rfl
   rotate_left
   · simp only [Act.put, List.setIfInBounds_toArray, List.set_cons_zero, List.set_cons_succ, i64_w, i32_w]
     rfl
   refine one_ (i := 28) (N := some 40) (bz 35 2147483647) rfl rfl (one_of HT_.out (by kernel_rfl)) (by decide) (fun K hK => ?_)
   refine Kd.R_lit_step (Kd.int .i64) _ 3 ?hg (N := 40) ?hd (xs := ([0] : List Int)) (inner := [.int .i64 0]) (ok := fun _ => True) (okp := fun _ => True) ?hr ?hp (fun _ hk => hk) trivial (Below.refl _ _) (Nat.le_refl _) (by simp) ?_; (case hd => rfl); (case hg => rfl); (case hr => first | (go_simp; done) | (go_simp; rfl)); (case hp => exact (Reps.one (show Kd.M (Kd.int .i64) _ _ _ 0 [.int .i64 0] from rfl) (Reps.none _ _)))
   intro v563 w21 ho22 hb hg_ hnew_
   clear hg_ hnew_
   (first | rw [← Ny562.out] at ho22 | (simp only [Int.reduceToNat] at ho22; rw [← Ny562.out] at ho22))
   have HO564 := Aside0.mk (Kd.R_lower ho22 (below_size (hq3 HB GE556 GE557 GE558))); replace BK556 := cB BK556 hb; replace BK557 := cB BK557 hb; replace BK558 := cB BK558 hb; replace HB := cs (hq3 HB GE556 GE557 GE558) hb; clear hb ho22
   refine hK.out _ _ ⟨(blk_cell BK556.out 0).trans rfl, (blk_cell BK557.out 0).trans rfl, ((HB.out.cell (World.block_lt_of_cell? w _ hw560_0)).trans hw560_0), ((HB.out.cell (World.block_lt_of_cell? w _ hw561_0)).trans hw561_0)⟩ (fun hHeld => ?_)
   clear hK K
   refine norm_ (a' := ?_) ?_ ?_
   rotate_left
   · show Act.put _ (some 40) _ = _
     simp only [Act.put, List.setIfInBounds_toArray, List.set_cons_zero, List.set_cons_succ, i64_w, i32_w]
     rfl
   refine one_ (i := 31) (N := some 43) (bz 35 4294967295) rfl rfl (one_of HT_.out (by kernel_rfl)) (by decide) (fun K hK => ?_)
   refine Kd.R_append_rows_step (Kd.int .i64) (w0 := w) w.heap.size (by rfl) (.tmp 40) (.tmp 42) 23 3 (.int .i64 0) 8 rfl Try.underlying23 info3 rfl (by decide) (by omega) v563 y562 l1_0 _ _ _ (fun _ => True) (fun _ => False) rfl rfl ?aO ?aR (fun _ _ h => h) (fun _ h => h.elim) ?aF ?aB ?aS ?aL ?_
   (case aR => repeat (first | exact (Kd.C_below HR1_0.out HB.out) | (with_reducible refine Kd.C_alloc ?_ _) | (with_reducible refine Kd.C_drewN ?_ _) | (with_reducible refine Kd.C_drew ?_)))
   (case aB => exact (hq3 HB GE556 GE557 GE558))
   (case aF => exact (fun _ _ => trivial))
   (case aO => exact (rq HO564))
   (case aS => exact (below_size (hq3 HB GE556 GE557 GE558)))
   (case aL => have := LMc17.out; omega)
   intro v566 w23 ho hb hg hat
   rw [← Ny565.out] at ho
   replace BK556 := Aside0.mk (blk_grown (g := gb556) (o := .cells #[.slice A0_0 l0_0.length c0_0] 25 (0, 0)) (bq BK556) hg (Kd.R_ne HO564.out BK556.out (by decide))); replace BK557 := Aside0.mk (blk_grown (g := gb557) (o := .cells #[.slice (some ad560) l1_0.length c1_0] 25 (0, 0)) (bq BK557) hg (Kd.R_ne HO564.out BK557.out (by decide))); replace BK558 := Aside0.mk (blk_grown (g := gb558) (o := .cells #[.slice none 0 0] 25 (0, 0)) (bq BK558) hg (Kd.R_ne HO564.out BK558.out (by decide))); replace HB := Aside0.mk (hb); have HO567 := Aside0.mk (ho); clear HO564; clear ho hb hg hat; obtain ⟨Ao24, co24, eo24⟩ := Kd.R_slice HO567.out
   (first | subst eo24 | (injection eo24 with f1_ f2_ f3_; have f4_ := f1_.symm; have f5_ := f3_.symm; clear f1_ f2_ f3_; subst f4_; subst f5_))
   refine hK.out _ _ ⟨(blk_cell BK556.out 0).trans rfl, (blk_cell BK557.out 0).trans rfl, ((HB.out.cell (World.block_lt_of_cell? w _ hw560_0)).trans hw560_0), ((HB.out.cell (World.block_lt_of_cell? w _ hw561_0)).trans hw561_0)⟩ (fun hHeld => ?_)
   clear hK K
   refine norm_ (a' := ?_) ?_ ?_
   rotate_left
   · show Act.put _ (some 43) _ = _
     simp only [Act.put, List.setIfInBounds_toArray, List.set_cons_zero, List.set_cons_succ, i64_w, i32_w]
     rfl
   refine one_ (i := 32) (N := some 44) (bz 35 8589934591) rfl rfl (one_of HT_.out (by kernel_rfl)) (by decide) (fun K hK => ?_)
   refine goes_ Try.func103 (by kernel_rfl) rfl #[.slice A0_0 l0_0.length c0_0, .slice Ao24 y565.length co24] (by rfl) rfl rfl (by (try simp only [List.map_toArray, List.map_cons, List.map_nil]); first | done | rfl | (simp only [List.length_drop, List.length_take]; rfl)) ?_
   with_reducible refine (spec_l1Compare.calls k _ _ l0_0 _ _ y565 t568 _ ?side1 ?side2 ?side3 ?side4 A18.out).mono ?_
   (case side1 => exact cq (Kd.C_below HR0_0.out HB.out))
   (case side2 => exact HC0_0.out)
   (case side3 => exact cq ((Kd.R_reads' HO567.out).2.2))
   (case side4 => exact (Kd.R_reads' HO567.out).2.1)
   rintro e w' ⟨rfl, ⟨nd, rfl⟩⟩
   refine ⟨_, rfl, ?_⟩
   refine hK.out _ _ ⟨(blk_cell BK556.out 0).trans rfl, (blk_cell BK557.out 0).trans rfl, ((HB.out.cell (World.block_lt_of_cell? w _ hw560_0)).trans hw560_0), ((HB.out.cell (World.block_lt_of_cell? w _ hw561_0)).trans hw561_0)⟩ (fun hHeld => ?_)
   clear hK K
   refine norm_ (a' := ?_) ?_ ?_
   rotate_left
   · show Act.put _ (some 44) _ = _
     simp only [Act.put, List.setIfInBounds_toArray, List.set_cons_zero, List.set_cons_succ, i64_w, i32_w]
     rfl
   refine pz (a' := ?_) 33 45 ?_ (bz 35 17179869183) rfl rfl HT_ (Or.inl ⟨by rfl, ?_⟩) ?_ ?_
   rotate_left
   · intro w'
     first | (go_simp; with_reducible rfl) | (go_simp; unfold Instr.field; go_simp; rfl)
   rotate_left
   · simp only [Act.put, List.setIfInBounds_toArray, List.set_cons_zero, List.set_cons_succ, i64_w, i32_w]
     rfl
   refine pz (a' := ?_) 34 46 ?_ (bz 35 34359738367) rfl rfl HT_ (Or.inl ⟨by rfl, ?_⟩) ?_ ?_
   rotate_left
   · intro w'
     first | (go_simp; with_reducible rfl) | (go_simp; unfold Instr.field; go_simp; rfl)
   rotate_left
   · simp only [Act.put, List.setIfInBounds_toArray, List.set_cons_zero, List.set_cons_succ, i64_w, i32_w]
     rfl
   refine done_ (done_of HT_.out (by kernel_rfl)) ?_
   try go_wp2
   go_meet
   case rel => exact ⟨_, (decide (t568 ≥ 0)), (by first | rfl | (simp; done) | (simp [*]; done)), H', ⟨by first | omega | exact Nat.le_refl _⟩, ⟨by (with_reducible repeat (first | refine blk_drewN ?_ _ | refine blk_drew ?_ | refine blk_alloc ?_ _)); exact BK556.out⟩, ⟨by (with_reducible repeat (first | refine blk_drewN ?_ _ | refine blk_drew ?_ | refine blk_alloc ?_ _)); exact BK557.out⟩, ⟨by (with_reducible repeat (first | refine blk_drewN ?_ _ | refine blk_drew ?_ | refine blk_alloc ?_ _)); exact BK558.out⟩, ⟨hq3 HB GE556 GE557 GE558⟩⟩
 clear HC3; (try clear c1); (try clear p2); (try clear c7); (try clear c8); (try clear c9); (try clear c9b0); (try clear c9b1); (try clear c10); (try clear c17); obtain ⟨kq, x46_2, rfl, HA, HJ2, BK556, BK557, BK558, HB⟩ := hcut; obtain _ | kj2 := kq
 · exact absurd HA.out (by simp [spec_ReduceBig.j0])
 have H := HA.out; clear HA
 simp only [spec_ReduceBig.j0] at H
 by_cases c29 : x46_2 = true
 · subst c29
   have H1 : (some (([] : List Int), false)) = some (r1, r2) := by rw [if_pos rfl] at H; exact H
   clear H; have H := H1; clear H1
   simp only [Option.some.injEq, Prod.mk.injEq] at H
   obtain ⟨rfl, rfl⟩ := H; have hnb30 := NB558_556.out; have hnc30 := NB556_558.out; have hnb31 := NB558_557.out; have hnc31 := NB557_558.out
   have hcz32_0 : wc.cell? ⟨gb558, 0, none⟩ = some (.slice none 0 0) := (blk_cell BK558.out 0).trans rfl
   have hfz32_0 := blk_frozen BK558.out 0
   go_wp2
   refine bodyPost_ret (results_ct rfl _ _ gb558 25 #[.slice none 0 0] (0, 0) _ rfl (by (with_reducible repeat (first | refine blk_drewN ?_ _ | refine blk_drew ?_ | refine blk_alloc ?_ _)); refine blk_put (cs := #[.slice none 0 0]) ?_ 0 _ rfl; (with_reducible repeat (first | refine blk_drewN ?_ _ | refine blk_drew ?_ | refine blk_alloc ?_ _)); exact BK558.out) Try.underlying25 rfl (by kernel_rfl)) rfl ?_
   exact ⟨_, by first | rfl | (simp <;> rfl) | (simp [*] <;> rfl), by first | exact Kd.R_nil _ _ _ _ _ | exact Kd.R_nil _ _ _ 0 _ | exact Kd.N_nil _ _ _ _ _ | exact Kd.V_nil _ _ _ _ _ | exact Kd.Q_nil _ _ _ _ _ | exact Kd.S_nil _ _ _ _ _, hq3 HB GE556 GE557 GE558⟩
 replace c29 := Bool.eq_false_iff.mpr c29; subst c29
 have H1 : (if 0 < (l1_0.length : Int) then ((spec_l1Div.f kj2 l0_0 l1_0).bind fun bt570 => ((spec_l1At.f bt570.2 0).bind fun t576 => (spec_ReduceBig.l0 kj2 (rd l1_0 0) (wrap64 (Int.tdiv (wrap64 ((rd l1_0 0) + 1)) 2)) t576 0))) else (none)) = some (r1, r2) := by rw [if_neg (show ¬ (false = true) by decide)] at H; exact H
 clear H; have H := H1; clear H1
 by_cases c33 : 0 < (l1_0.length : Int)
 rotate_left
 · rw [if_neg c33] at H
   exact absurd H (by simp)

 rw [if_pos c33] at H
 have c33b0 : decide (0 < (l1_0.length : Int)) = true := decide_eq_true c33
 have c33b1 : decide (0 < l1_0.length) = true := decide_eq_true (by omega)
 clear c33; replace H := Option.bind_eq_some_iff.mp H; obtain ⟨⟨t570, t573⟩, A340, H⟩ := H; (try dsimp only at H); have A34 := Aside0.mk A340; clear A340; replace H := Option.bind_eq_some_iff.mp H; obtain ⟨t576, A350, H⟩ := H; (try dsimp only at H); have A35 := Aside0.mk A350; clear A350
 have H' := Aside0.mk H
 clear H; have hnb36 := NB557_556.out; have hnc36 := NB556_557.out; have hnb37 := NB557_558.out; have hnc37 := NB558_557.out
 have hcz38_0 : wc.cell? ⟨gb557, 0, none⟩ = some (.slice A1_0 l1_0.length c1_0) := (blk_cell BK557.out 0).trans rfl
 have hfz38_0 := blk_frozen BK557.out 0
 have p569 : 0 ≤ (0 : Int) := (by omega)
 have q569 : 0 < (l1_0.length : Int) := of_decide_eq_true (by first | (with_reducible assumption) | assumption)
 obtain ⟨ad569, e569, hx569_0⟩ := Kd.at_int HR1_0.out 0 p569 q569
 cases e569
 have qi569 : (0 < l1_0.length) = True := eq_true (by omega)
 (try rw [show ((0 : Int)).toNat = 0 from rfl] at hx569_0)
 (try rw [Addr.add_zero'] at hx569_0)
 replace hx569_0 := (HB.out.cell (World.block_lt_of_cell? w _ hx569_0)).trans hx569_0; replace p569 := eq_true p569; replace q569 := eq_true q569; have hnb39 := NB556_558.out; have hnc39 := NB558_556.out
 have hcz40_0 : wc.cell? ⟨gb556, 0, none⟩ = some (.slice A0_0 l0_0.length c0_0) := (blk_cell BK556.out 0).trans rfl
 have hfz40_0 := blk_frozen BK556.out 0
 go_wp2_with (first | ((with_reducible refine gate_callee (f := 81) rfl ?_); refine gC (some 60) Try.func81 #[.slice A0_0 l0_0.length c0_0, .slice (some ad569) l1_0.length c1_0] ?_; (with_reducible refine (spec_l1Div.calls kj2 _ _ l0_0 _ _ l1_0 t570 t573 _ ?side1 ?side2 ?side3 ?side4 A34.out).mono ?_); (case side1 => exact cq (Kd.C_below HR0_0.out HB.out)); (case side2 => exact HC0_0.out); (case side3 => exact cq (Kd.C_below HR1_0.out HB.out)); (case side4 => exact HC1_0.out); rintro e w41 ⟨v571, v574, rfl, ho0, ho1, hb⟩; refine ⟨_, rfl, ?_⟩; have HO572 := Aside0.mk (Kd.V_lower (Kd.V_mono (ok' := fun k_ => k_ ≠ gb556 ∧ k_ ≠ gb557 ∧ k_ ≠ gb558) ho0 (fun k_ hk_ => ⟨(Kd.freshB (g := gb556) (o := .cells #[.slice A0_0 l0_0.length c0_0] 25 (0, 0)) (bq BK556) k_ hk_), (Kd.freshB (g := gb557) (o := .cells #[.slice (some ad569) l1_0.length c1_0] 25 (0, 0)) (bq BK557) k_ hk_), (Kd.freshB (g := gb558) (o := .cells #[.slice none 0 0] 25 (0, 0)) (bq BK558) k_ hk_)⟩)) (below_size (hq3 HB GE556 GE557 GE558))); have HO575 := Aside0.mk (Kd.V_lower (Kd.V_mono (ok' := fun k_ => k_ ≠ gb556 ∧ k_ ≠ gb557 ∧ k_ ≠ gb558) ho1 (fun k_ hk_ => ⟨(Kd.freshB (g := gb556) (o := .cells #[.slice A0_0 l0_0.length c0_0] 25 (0, 0)) (bq BK556) k_ hk_), (Kd.freshB (g := gb557) (o := .cells #[.slice (some ad569) l1_0.length c1_0] 25 (0, 0)) (bq BK557) k_ hk_), (Kd.freshB (g := gb558) (o := .cells #[.slice none 0 0] 25 (0, 0)) (bq BK558) k_ hk_)⟩)) (below_size (hq3 HB GE556 GE557 GE558))); replace BK556 := cB BK556 hb; replace BK557 := cB BK557 hb; replace BK558 := cB BK558 hb; replace HB := cs (hq3 HB GE556 GE557 GE558) hb; (try clear hb); (try clear hb2); (try clear hk); (try clear hi); (try clear ho0); (try clear ho1); obtain ⟨Ao42, co42, eo42⟩ := Kd.V_slice HO575.out; subst eo42) | ((with_reducible refine gate_callee (f := 90) rfl ?_); refine gC (some 64) Try.func90 #[.slice Ao42 t573.length co42, .int .i64 0] ?_; (with_reducible refine (spec_l1At.calls _ _ t573 0 t576 _ ?side1 ?side2 A35.out).mono ?_); (case side1 => exact cq ((Kd.V_reads' HO575.out).2.2)); (case side2 => exact (Kd.V_reads' HO575.out).2.1); rintro e w' ⟨rfl, ⟨nd, rfl⟩⟩; refine ⟨_, rfl, ?_⟩))
 go_loopg [10, 11] kj2 (fun kq v10 v11 w' => ∃ (x10_2 : Int) (x11_2 : Int), v10 = .int .i64 x10_2 ∧ v11 = .int .i64 x11_2 ∧ Aside0 (spec_ReduceBig.l0 kq (rd l1_0 0) (wrap64 (Int.tdiv (wrap64 ((rd l1_0 0) + 1)) 2)) x10_2 x11_2 = some (r1, r2)) ∧ Aside0 (kq ≤ kj2) ∧ Aside0 (w'.heap[gb556]? = some (.cells #[(.slice A0_0 l0_0.length c0_0)] 25 (0, 0))) ∧ Aside0 (w'.heap[gb557]? = some (.cells #[(.slice (some ad569) l1_0.length c1_0)] 25 (0, 0))) ∧ Aside0 (w'.heap[gb558]? = some (.cells #[(.slice none 0 0)] 25 (0, 0))) ∧ Aside0 (Below w.heap.size w w'))
 case atStart => exact ⟨(t576), (0), (by first | rfl | (simp; done) | (simp [*]; done)), (by first | rfl | (simp; done) | (simp [*]; done)), H', ⟨Nat.le_refl _⟩, ⟨by (with_reducible repeat (first | refine blk_drewN ?_ _ | refine blk_drew ?_ | refine blk_alloc ?_ _)); exact BK556.out⟩, ⟨by (with_reducible repeat (first | refine blk_drewN ?_ _ | refine blk_drew ?_ | refine blk_alloc ?_ _)); exact BK557.out⟩, ⟨by (with_reducible repeat (first | refine blk_drewN ?_ _ | refine blk_drew ?_ | refine blk_alloc ?_ _)); exact BK558.out⟩, ⟨hq3 HB GE556 GE557 GE558⟩⟩
 case round =>
   clear H'
   (try clear c1); (try clear c2); (try clear p2); (try clear c3); (try clear p5); (try clear q5); (try clear hx5); (try clear qi5); (try clear p6); (try clear c7); (try clear c8); (try clear c9); (try clear c9b0); (try clear c9b1); (try clear c10); (try clear c17); (try clear c29); (try clear c30); (try clear c31); (try clear c33); (try clear c33b0); (try clear c33b1); (try clear c36); (try clear c37); (try clear c39); (try clear hcz32_0); (try clear hcz38_0); (try clear hcz40_0); (try clear hfz32_0); (try clear hfz38_0); (try clear hfz40_0); (try clear hx569_0); (try clear p2); (try clear p569); (try clear q569); obtain ⟨x10_2, x11_2, rfl, rfl, HA, HK2, BK556, BK557, BK558, HB⟩ := hrel
   cases gk with
   | zero => exact absurd HA.out (by simp [spec_ReduceBig.l0])
   | succ k2 =>
     have H := HA.out; clear HA
     simp only [spec_ReduceBig.l0] at H
     by_cases c43 : x11_2 < 16
     · rw [if_pos c43] at H
       have c43b0 : decide (x11_2 < 16) = true := decide_eq_true c43
       clear c43
       by_cases c44 : (rd l1_0 0) = 0
       · rw [if_pos c44] at H
         exact absurd H (by simp)
       · rw [if_neg c44] at H
         have c44b0 : ((rd l1_0 0) == 0) = false := beq_eq_false_iff_ne.mpr c44
         have c44b1 : ((rd l1_0 0) != 0) = true := bne_iff_ne.mpr c44
         have H' := Aside0.mk H
         clear H
         go_wp2
         go_roundg k2
         case measure => have := HJ2.out; have := HK2.out; omega
         case rel => exact ⟨(Int.tmod (wrap64 (x10_2 * (wrap64 (Int.tdiv (wrap64 ((rd l1_0 0) + 1)) 2)))) (rd l1_0 0)), (wrap64 (x11_2 + 1)), (by first | rfl | (simp; done) | (simp [*]; done)), (by first | rfl | (simp; done) | (simp [*]; done)), H', ⟨by have := HJ2.out; have := HK2.out; omega⟩, ⟨by (with_reducible repeat (first | refine blk_drewN ?_ _ | refine blk_drew ?_ | refine blk_alloc ?_ _)); exact BK556.out⟩, ⟨by (with_reducible repeat (first | refine blk_drewN ?_ _ | refine blk_drew ?_ | refine blk_alloc ?_ _)); exact BK557.out⟩, ⟨by (with_reducible repeat (first | refine blk_drewN ?_ _ | refine blk_drew ?_ | refine blk_alloc ?_ _)); exact BK558.out⟩, ⟨hq3 HB GE556 GE557 GE558⟩⟩
     · rw [if_neg c43] at H
       have c43b0 : decide (x11_2 < 16) = false := decide_eq_false c43
       clear c43; replace H := Option.bind_eq_some_iff.mp H; obtain ⟨t577, A450, H⟩ := H; (try dsimp only at H); have A45 := Aside0.mk A450; clear A450; replace H := Option.bind_eq_some_iff.mp H; obtain ⟨⟨t580, t583⟩, A460, H⟩ := H; (try dsimp only at H); have A46 := Aside0.mk A460; clear A460
       simp only [Option.some.injEq, Prod.mk.injEq] at H
       obtain ⟨rfl, rfl⟩ := H
       go_wp2_with (first | ((with_reducible refine gate_callee (f := 97) rfl ?_); refine gC (some 75) Try.func97 #[.int .i64 x10_2] ?_; (with_reducible refine (spec_l1Of.calls k2 x10_2 t577 _ A45.out).mono ?_); rintro e w47 ⟨v578, rfl, ho0, hb⟩; refine ⟨_, rfl, ?_⟩; have HO579 := Aside0.mk (Kd.R_lower ho0 (below_size (hq3 HB GE556 GE557 GE558))); replace BK556 := cB BK556 hb; replace BK557 := cB BK557 hb; replace BK558 := cB BK558 hb; replace HB := cs (hq3 HB GE556 GE557 GE558) hb; (try clear hb); (try clear hb2); (try clear hk); (try clear hi); (try clear ho0); obtain ⟨Ao48, co48, eo48⟩ := Kd.R_slice HO579.out; subst eo48) | ((with_reducible refine gate_callee (f := 78) rfl ?_); refine gC (some 76) Try.func78 #[.slice Ao48 t577.length co48] ?_; (with_reducible refine (spec_l1Tell.calls k2 _ _ t577 t580 t583 _ ?side1 ?side2 A46.out).mono ?_); (case side1 => exact cq ((Kd.R_reads' HO579.out).2.2)); (case side2 => exact (Kd.R_reads' HO579.out).2.1); rintro e w49 ⟨v581, rfl, ho0, hb⟩; refine ⟨_, rfl, ?_⟩; have n0_ := ce HO579 ho0 hb; have HO582 := Aside0.mk (Kd.R_lower (Kd.R_new' ho0 (ql HO579)) (below_size (hq3 HB GE556 GE557 GE558))); replace BK556 := cB BK556 hb; replace BK557 := cB BK557 hb; replace BK558 := cB BK558 hb; replace HB := cs (hq3 HB GE556 GE557 GE558) hb; replace HO579 := n0_; clear n0_; (try clear hb); (try clear hb2); (try clear hk); (try clear hi); (try clear ho0); obtain ⟨Ao50, co50, eo50⟩ := Kd.R_slice HO582.out; subst eo50; have hnb51 := NB558_556.out; have hnc51 := NB556_558.out; have hnb52 := NB558_557.out; have hnc52 := NB557_558.out; have hcz53_0 : w49.cell? ⟨gb558, 0, none⟩ = some (.slice none 0 0) := (blk_cell BK558.out 0).trans rfl; have hfz53_0 := blk_frozen BK558.out 0))
       refine bodyPost_ret (results_ct rfl _ _ gb558 25 #[.slice Ao50 t580.length co50] (0, 0) _ rfl (by (with_reducible repeat (first | refine blk_drewN ?_ _ | refine blk_drew ?_ | refine blk_alloc ?_ _)); refine blk_put (cs := #[.slice none 0 0]) ?_ 0 _ rfl; (with_reducible repeat (first | refine blk_drewN ?_ _ | refine blk_drew ?_ | refine blk_alloc ?_ _)); exact BK558.out) Try.underlying25 rfl (by kernel_rfl)) rfl ?_
       exact ⟨_, by first | rfl | (simp <;> rfl) | (simp [*] <;> rfl), by (with_reducible repeat (first | apply Kd.R_alloc | apply Kd.R_drewN | apply Kd.R_drew)); exact Kd.R_mono (Kd.R_far (p := ⟨gb558, 0, none⟩) (Kd.R_types HO582.out BK558.out (by decide)) (fun _ hk => hk.2) (.slice Ao50 t580.length co50)) (fun _ hk => trivial), hq3 HB GE556 GE557 GE558⟩
end Go.Proofs.Ytadooofomkdaoaa.QFnHalves
