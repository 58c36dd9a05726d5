import Derived.Test.YtadooofomkdaoaaSqueez2
import Derived.Test.YtadooofomkdaoaaQFnHalvesx0
import Derived.Test.YtadooofomkdaoaaQFnHalvesx1
import Derived.Test.YtadooofomkdaoaaQFnHalvesx2
import Derived.Test.YtadooofomkdaoaaQFnHalvesx3
import Derived.Test.YtadooofomkdaoaaQFnHalvesx8
namespace Go.Proofs.Ytadooofomkdaoaa.QFnHalves
open Go.RowKit Go.Proofs.YtadooofomkdaoaaW.PrintWords Go.Proofs.YtadooofomkdaoaaW.PrintLast Go.Proofs.YtadooofomkdaoaaW.PrintMore
attribute [local go_sem] max2_int min2_int max_two min_two max_three min_three max_four min_four   -- for this text's walks alone
set_option linter.unusedVariables false
set_option linter.unusedSimpArgs false

/-! ### impl_ReduceBig: function 41 -/
mutual
def impl_ReduceBig.j0 : Nat → Bool → List Int → List Int → Option (List Int × Bool)
  | 0, _, _, _ => none
  | k + 1, x44, x489000, x490000 => if x44 = true then (some (([] : List Int), false)) else ((impl_small.f k x489000).bind fun t504 => (if 0 < (x490000.length : Int) then (impl_ReduceBig.l0 k t504 (rd x490000 0) 0) else (none)))
def impl_ReduceBig.l0 : Nat → Int → Int → Int → Option (List Int × Bool)
  | 0, _, _, _ => none
  | k + 1, x6, x7, x8 => if (Int.tmod (wrap64 (x8 * x7)) 65536) = (Int.tmod x6 65536) then (if x7 = 0 then (none) else ((impl_bigOf.f k (Int.tmod (wrap64 ((Int.tmod (wrap64 (Int.tdiv (wrap64 (x6 - (wrap64 (x8 * x7)))) 65536)) x7) + x7)) x7)).bind fun t506 => (some (t506, true)))) else (impl_ReduceBig.l0 k x6 x7 (wrap64 (x8 + 1)))
end
def impl_ReduceBig.f (k : Nat) (l0_0 : List Int) (l1_0 : List Int) : Option (List Int × Bool) := (impl_areBigs.f k (([(⟨l0_0⟩ : S25), (⟨l1_0⟩ : S25)] : List (S25)))).bind fun t494 => (if t494 = true then (if (l1_0.length : Int) = 1 then (if 0 < (l1_0.length : Int) then (if (rd l1_0 0) = 1 then (impl_ReduceBig.j0 k true l0_0 l1_0) else (if (Int.tmod (rd l1_0 0) 2) = 0 then (impl_ReduceBig.j0 k true l0_0 l1_0) else ((impl_times.f k l1_0 (([0, 1] : List Int))).bind fun t500 => ((impl_compare.f k l0_0 t500).bind fun t503 => (impl_ReduceBig.j0 k (decide (t503 ≥ 0)) l0_0 l1_0))))) else (none)) else (impl_ReduceBig.j0 k true l0_0 l1_0)) else (impl_ReduceBig.j0 k true l0_0 l1_0))
def impl_ReduceBig.T1 : Bool × List (List Nat × List Nat) := (true, [([], []), ([], []), ([0, 1], [0, 1]), ([2], [2]), ([3], [3]), ([4, 3], [4]), ([5], [5]), ([6, 5], [5, 6]), ([7, 5], [5, 7]), ([8, 5], [5, 8]), ([5, 9], [5, 9]), ([10, 5], [10]), ([11], [11]), ([12, 11], [11, 12]), ([13, 11], [11, 13]), ([14, 11], [11, 14]), ([15, 11], [11, 15]), ([11, 16], [11, 16]), ([17, 11], [17]), ([18], [18]), ([19, 18], [18, 19]), ([20, 18], [18, 20]), ([21, 18], [18, 21]), ([22, 18], [18, 22]), ([23, 18], [18, 23]), ([18, 24], [18, 24]), ([25, 18], [25]), ([26], [26]), ([27, 26], [26, 27]), ([26], [26]), ([29, 26], [26, 29]), ([26], [26]), ([30, 31, 26, 26], [26, 30, 31]), ([28, 32, 32, 26], [26, 28, 32]), ([33, 26], [26, 33]), ([26, 34], [26, 34])])
def impl_ReduceBig.B1 : List Nat := [0, 0, 3, 7, 15, 31, 63, 127, 255, 511, 1023, 2047, 4095, 8191, 16383, 32767, 65535, 131071, 262143, 524287, 1048575, 2097151, 4194303, 8388607, 16777215, 33554431, 67108863, 134217727, 268435455, 134217727, 671088639, 134217727, 3892314111, 8589934591, 17179869183, 34359738367]
theorem impl_ReduceBig.tab1 : rtab .any (opsOf Try.f41 1) = impl_ReduceBig.T1 := by kernel_rfl
theorem impl_ReduceBig.bits1 : waitsOk impl_ReduceBig.T1.2 impl_ReduceBig.B1 = true := by kernel_rfl
def impl_ReduceBig.T3 : Bool × List (List Nat × List Nat) := (true, [([], []), ([0], [0]), ([1], [1]), ([], []), ([3], [3]), ([4], [4]), ([5], [5]), ([2, 2, 0, 1, 2], [2]), ([6, 7, 0, 1, 2, 3, 4, 5, 6, 7], [6]), ([8, 0, 1, 2, 3, 4, 5, 6, 7, 8], [])])
def impl_ReduceBig.B3 : List Nat := [0, 1, 3, 0, 8, 24, 56, 7, 255, 511]
theorem impl_ReduceBig.tab3 : rtab .any (opsOf Try.f41 3) = impl_ReduceBig.T3 := by kernel_rfl
theorem impl_ReduceBig.bits3 : waitsOk impl_ReduceBig.T3.2 impl_ReduceBig.B3 = true := by kernel_rfl
set_option maxHeartbeats 8000000 in
set_option maxRecDepth 100000 in
theorem impl_ReduceBig.calls (k : Nat) (P0_0_ : Nat → Prop) (A0_0 : Option Addr) (c0_0 : Nat) (l0_0 : List Int) (P1_0_ : Nat → Prop) (A1_0 : Option Addr) (c1_0 : Nat) (l1_0 : List Int) (r1 : List Int) (r2 : Bool) (w : World) (hs0_0 : Kd.V (Kd.int .i64) 3 w w.heap.size (fun k_ => P0_0_ k_) (.slice A0_0 l0_0.length c0_0) l0_0) (hs1_0 : Kd.V (Kd.int .i64) 3 w w.heap.size (fun k_ => P1_0_ k_) (.slice A1_0 l1_0.length c1_0) l1_0) (h : impl_ReduceBig.f k l0_0 l1_0 = some (r1, r2)) :
    Calls Try.prog 41 #[.agg #[.slice A0_0 l0_0.length c0_0], .agg #[.slice A1_0 l1_0.length c1_0]] w fun e w' => ∃ v0_ : Value, e = .returned (.tuple #[.agg #[v0_], .bool r2]) ∧ Kd.R (Kd.int .i64) 3 w' w.heap.size (fun k_ => (w.heap.size ≤ k_)) v0_ r1 ∧ Below w.heap.size w w' := by
 have hu25 := Try.underlying25
 have HO0_0 := Aside0.mk (show Kd.V (Kd.int .i64) 3 w w.heap.size (fun k_ => ((P0_0_ k_ ∨ P1_0_ k_) ∨ w.heap.size ≤ k_)) (.slice A0_0 l0_0.length c0_0) l0_0 from Kd.V_mono hs0_0 (fun k_ hk => .inl (.inl hk)))
 have HO1_0 := Aside0.mk (show Kd.V (Kd.int .i64) 3 w w.heap.size (fun k_ => ((P0_0_ k_ ∨ P1_0_ k_) ∨ w.heap.size ≤ k_)) (.slice A1_0 l1_0.length c1_0) l1_0 from Kd.V_mono hs1_0 (fun k_ hk => .inl (.inr hk)))
 have HB := Aside0.mk (Below.refl w.heap.size w)
 have H : ((impl_areBigs.f k (([(⟨l0_0⟩ : S25), (⟨l1_0⟩ : S25)] : List (S25)))).bind fun t494 => (if t494 = true then (if (l1_0.length : Int) = 1 then (if 0 < (l1_0.length : Int) then (if (rd l1_0 0) = 1 then (impl_ReduceBig.j0 k true l0_0 l1_0) else (if (Int.tmod (rd l1_0 0) 2) = 0 then (impl_ReduceBig.j0 k true l0_0 l1_0) else ((impl_times.f k l1_0 (([0, 1] : List Int))).bind fun t500 => ((impl_compare.f k l0_0 t500).bind fun t503 => (impl_ReduceBig.j0 k (decide (t503 ≥ 0)) l0_0 l1_0))))) else (none)) else (impl_ReduceBig.j0 k true l0_0 l1_0)) else (impl_ReduceBig.j0 k true l0_0 l1_0))) = some (r1, r2) := h
 clear h; have HC3 := Aside0.mk H; clear H
 go_enter Try.func41, Try.ntmps41
 go_upto_region 1 with (first | ((with_reducible refine gate_dst (N := 2) rfl ?_); (try (refine gate_guard (by rfl) ?_; dsimp only)); refine bX #[.slice A0_0 l0_0.length c0_0] 25 ?_; intro gb488 hg w4 hbox hb; replace HO0_0 := Aside0.mk (ve HO0_0 gb488 hg hb); replace HO1_0 := Aside0.mk (ve HO1_0 gb488 hg hb); have n2_ := cs (hq HB) hb; have BK488 := Aside0.mk (hbox); have GW488 := cg hg (hq HB); have GE488 := cg hg (hq HB); replace HB := n2_; clear n2_; clear hb hbox hg) | ((with_reducible refine gate_dst (N := 3) rfl ?_); (try (refine gate_guard (by rfl) ?_; dsimp only)); refine bX #[.slice A1_0 l1_0.length c1_0] 25 ?_; intro gb489 hg w5 hbox hb; replace HO0_0 := Aside0.mk (ve HO0_0 gb489 hg hb); replace HO1_0 := Aside0.mk (ve HO1_0 gb489 hg hb); have n2_ := cB BK488 hb; have n3_ := cs (hq1 HB GE488) hb; have BK489 := Aside0.mk (hbox); have GW489 := cg hg (hq1 HB GE488); have GE489 := cg hg (hq1 HB GE488); have NB488_489 := cl hg BK488; have NB489_488 := cr hg BK488; replace BK488 := n2_; replace HB := n3_; clear n2_ n3_; clear hb hbox hg) | ((with_reducible refine gate_dst (N := 4) rfl ?_); (try (refine gate_guard (by rfl) ?_; dsimp only)); refine bX #[.slice none 0 0] 25 ?_; intro gb490 hg w6 hbox hb; replace HO0_0 := Aside0.mk (ve HO0_0 gb490 hg hb); replace HO1_0 := Aside0.mk (ve HO1_0 gb490 hg hb); have n2_ := cB BK488 hb; have n3_ := cB BK489 hb; have n4_ := cs (hq2 HB GE488 GE489) hb; have BK490 := Aside0.mk (hbox); have GW490 := cg hg (hq2 HB GE488 GE489); have GE490 := cg hg (hq2 HB GE488 GE489); have NB488_490 := cl hg BK488; have NB490_488 := cr hg BK488; have NB489_490 := cl hg BK489; have NB490_489 := cr hg BK489; replace BK488 := n2_; replace BK489 := n3_; replace HB := n4_; clear n2_ n3_ n4_; clear hb hbox hg))
 (try simp only [Act.put, List.setIfInBounds_toArray, List.set_cons_zero, List.set_cons_succ])
 go_cut [44] (fun v44 wc => ∃ (kq : Nat) (x44_2 : Bool), v44 = .bool x44_2 ∧ Aside0 (impl_ReduceBig.j0 kq x44_2 l0_0 l1_0 = some (r1, r2)) ∧ Aside0 (kq ≤ k) ∧ Aside0 (Kd.V (Kd.int .i64) 3 wc w.heap.size (fun k_ => ((P0_0_ k_ ∨ P1_0_ k_) ∨ w.heap.size ≤ k_) ∧ k_ ≠ gb488 ∧ k_ ≠ gb489 ∧ k_ ≠ gb490) (.slice A0_0 l0_0.length c0_0) l0_0) ∧ Aside0 (Kd.V (Kd.int .i64) 3 wc w.heap.size (fun k_ => ((P0_0_ k_ ∨ P1_0_ k_) ∨ w.heap.size ≤ k_) ∧ k_ ≠ gb488 ∧ k_ ≠ gb489 ∧ k_ ≠ gb490) (.slice A1_0 l1_0.length c1_0) l1_0) ∧ Aside0 (wc.heap[gb488]? = some (.cells #[(.slice A0_0 l0_0.length c0_0)] 25 (0, 0))) ∧ Aside0 (wc.heap[gb489]? = some (.cells #[(.slice A1_0 l1_0.length c1_0)] 25 (0, 0))) ∧ Aside0 (wc.heap[gb490]? = some (.cells #[(.slice none 0 0)] 25 (0, 0))) ∧ Aside0 (Below w.heap.size w wc))
 case first =>
   have H := HC3.out; clear HC3; obtain ⟨y491, hy491⟩ : ∃ y_ : List (S25), y_ = (([(⟨l0_0⟩ : S25), (⟨l1_0⟩ : S25)] : List (S25))) := ⟨_, rfl⟩
   replace H : ((impl_areBigs.f k y491).bind fun t494 => (if t494 = true then (if (l1_0.length : Int) = 1 then (if 0 < (l1_0.length : Int) then (if (rd l1_0 0) = 1 then (impl_ReduceBig.j0 k true l0_0 l1_0) else (if (Int.tmod (rd l1_0 0) 2) = 0 then (impl_ReduceBig.j0 k true l0_0 l1_0) else ((impl_times.f k l1_0 (([0, 1] : List Int))).bind fun t500 => ((impl_compare.f k l0_0 t500).bind fun t503 => (impl_ReduceBig.j0 k (decide (t503 ≥ 0)) l0_0 l1_0))))) else (none)) else (impl_ReduceBig.j0 k true l0_0 l1_0)) else (impl_ReduceBig.j0 k true l0_0 l1_0))) = some (r1, r2) := by first | (rw [hy491]; with_reducible exact H) | (have H2_ := (Option.bind_some _ _).symm.trans H; rw [hy491]; with_reducible exact H2_) | (have H2_ := (Option.bind_some _ _).symm.trans H; with_reducible exact H2_) | with_reducible exact H | (rw [hy491]; exact H) | exact H
   have Ny491 := Aside0.mk hy491; clear hy491; replace H := Option.bind_eq_some_iff.mp H; obtain ⟨t494, A70, H⟩ := H; (try dsimp only at H); have A7 := Aside0.mk A70; clear A70
   by_cases c8 : t494 = true
   rotate_left
   · replace c8 := Bool.eq_false_iff.mpr c8
     subst c8
     have H1 : (impl_ReduceBig.j0 k true l0_0 l1_0) = some (r1, r2) := by rw [if_neg (show ¬ (false = true) by decide)] at H; exact H
     clear H; have H := H1; clear H1
     have H' := Aside0.mk H
     clear H
     try go_wp2
     replace HO0_0 := Aside0.mk (Kd.V_drew HO0_0.out); replace HO1_0 := Aside0.mk (Kd.V_drew HO1_0.out); replace BK488 := Aside0.mk (blk_drew BK488.out); replace BK489 := Aside0.mk (blk_drew BK489.out); replace BK490 := Aside0.mk (blk_drew BK490.out); replace HB := Aside0.mk (below_drew1 HB.out)
     refine start_ (n := 36) (S := fun w' => w'.cell? ⟨gb488, 0, none⟩ = some (.slice A0_0 l0_0.length c0_0) ∧ w'.cell? ⟨gb489, 0, none⟩ = some (.slice A1_0 l1_0.length c1_0)) (ds := []) #[false, false, false, false, false, false, false, false, false, false, false, false, false, false, false, false, false, false, false, false, false, false, false, false, false, false, false, false, false, false, false, false, false, false, false, false] (by kernel_rfl) rfl rfl ⟨(blk_cell BK488.out 0).trans rfl, (blk_cell BK489.out 0).trans rfl⟩ (fun hHeld => ?_); refine with_tabW impl_ReduceBig.tab1 impl_ReduceBig.bits1 (fun HT_ HW_ => ?_)
     generalize w6.drew = w40 at HO0_0 HO1_0 BK488 BK489 BK490 HB hHeld ⊢
     refine take_ (i := 0) (N := some 9) (v := ?_) (a' := ?_) (bz 36 1) rfl rfl (take_ofW HT_.out HW_.out (by kernel_rfl)) (fun _ _ _ h => h) (Or.inl ⟨by rfl, ?_⟩) hHeld ?_ ?_
     rotate_left
     · rintro w' ⟨s0, s1⟩
       go_simp
       with_reducible rfl
     rotate_left
     · simp only [Act.put, List.setIfInBounds_toArray, List.set_cons_zero, List.set_cons_succ, i64_w, i32_w]
       rfl
     refine take_ (i := 1) (N := some 10) (v := ?_) (a' := ?_) (bz 36 3) rfl rfl (take_ofW HT_.out HW_.out (by kernel_rfl)) (fun _ _ _ h => h) (Or.inl ⟨by rfl, ?_⟩) hHeld ?_ ?_
     rotate_left
     · rintro w' ⟨s0, s1⟩
       go_simp
       with_reducible rfl
     rotate_left
     · simp only [Act.put, List.setIfInBounds_toArray, List.set_cons_zero, List.set_cons_succ, i64_w, i32_w]
       rfl
     refine one_ (i := 2) (N := some 11) (bz 36 7) rfl rfl (one_of HT_.out (by kernel_rfl)) (by decide) (fun K hK => ?_)
     refine Kd.N_lit_step k25 _ 25 ?hg (N' := 11) ?hd (xs := ([(⟨l0_0⟩ : S25), (⟨l1_0⟩ : S25)] : List (S25))) (inner := [.slice A0_0 l0_0.length c0_0, .slice A1_0 l1_0.length c1_0]) (ok := (fun k_ => ((P0_0_ k_ ∨ P1_0_ k_) ∨ w.heap.size ≤ k_) ∧ k_ ≠ gb488 ∧ k_ ≠ gb489 ∧ k_ ≠ gb490)) (okp := (fun k_ => ((P0_0_ k_ ∨ P1_0_ k_) ∨ w.heap.size ≤ k_) ∧ k_ ≠ gb488 ∧ k_ ≠ gb489 ∧ k_ ≠ gb490)) ?hr ?hp (fun _ hk => hk) ((show ∀ k_, w40.heap.size ≤ k_ → (fun k_ => ((P0_0_ k_ ∨ P1_0_ k_) ∨ w.heap.size ≤ k_) ∧ k_ ≠ gb488 ∧ k_ ≠ gb489 ∧ k_ ≠ gb490) k_ from fun k_ hk => ⟨(.inr (Nat.le_trans (below_size (hq3 HB GE488 GE489 GE490)) hk)), Kd.freshB (g := gb488) (o := .cells #[.slice A0_0 l0_0.length c0_0] 25 (0, 0)) (bq BK488) k_ hk, Kd.freshB (g := gb489) (o := .cells #[.slice A1_0 l1_0.length c1_0] 25 (0, 0)) (bq BK489) k_ hk, Kd.freshB (g := gb490) (o := .cells #[.slice none 0 0] 25 (0, 0)) (bq BK490) k_ hk⟩) _ (Nat.le_refl _)) (Below.refl _ _) (Nat.le_refl _) (by simp) ?_; (case hd => rfl); (case hg => rfl); (case hr => first | (go_simp; done) | (go_simp; rfl)); (case hp => exact (Reps.one (show Kd.FK k25 _ _ (⟨l0_0⟩ : S25) [.slice A0_0 l0_0.length c0_0] from (k25_mkF _ _ (⟨l0_0⟩ : S25) (Kd.V_reads' (Kd.V_mono (ok' := (fun k_ => ((P0_0_ k_ ∨ P1_0_ k_) ∨ w.heap.size ≤ k_) ∧ k_ ≠ gb488 ∧ k_ ≠ gb489 ∧ k_ ≠ gb490)) (HO0_0.out) (fun k_ hk => ⟨hk.1.1.1, ⟨hk.1.1.2, ⟨hk.1.2, hk.2⟩⟩⟩))).2.1 (Kd.V_F (Kd.V_mono (ok' := (fun k_ => ((P0_0_ k_ ∨ P1_0_ k_) ∨ w.heap.size ≤ k_) ∧ k_ ≠ gb488 ∧ k_ ≠ gb489 ∧ k_ ≠ gb490)) (HO0_0.out) (fun k_ hk => ⟨hk.1.1.1, ⟨hk.1.1.2, ⟨hk.1.2, hk.2⟩⟩⟩))))) (Reps.one (show Kd.FK k25 _ _ (⟨l1_0⟩ : S25) [.slice A1_0 l1_0.length c1_0] from (k25_mkF _ _ (⟨l1_0⟩ : S25) (Kd.V_reads' (Kd.V_mono (ok' := (fun k_ => ((P0_0_ k_ ∨ P1_0_ k_) ∨ w.heap.size ≤ k_) ∧ k_ ≠ gb488 ∧ k_ ≠ gb489 ∧ k_ ≠ gb490)) (HO1_0.out) (fun k_ hk => ⟨hk.1.1.1, ⟨hk.1.1.2, ⟨hk.1.2, hk.2⟩⟩⟩))).2.1 (Kd.V_F (Kd.V_mono (ok' := (fun k_ => ((P0_0_ k_ ∨ P1_0_ k_) ∨ w.heap.size ≤ k_) ∧ k_ ≠ gb488 ∧ k_ ≠ gb489 ∧ k_ ≠ gb490)) (HO1_0.out) (fun k_ hk => ⟨hk.1.1.1, ⟨hk.1.1.2, ⟨hk.1.2, hk.2⟩⟩⟩))))) (Reps.none _ _))))
     intro v492 w41 ho42 hb hg_ hnew_
     clear hg_ hnew_
     (first | rw [← Ny491.out] at ho42 | (simp only [Int.reduceToNat] at ho42; rw [← Ny491.out] at ho42))
     replace HO0_0 := Aside0.mk (Kd.V_elder' (vq HO0_0) (Kd.N_base ho42) hb); replace HO1_0 := Aside0.mk (Kd.V_elder' (vq HO1_0) (Kd.N_base ho42) hb); have HO493 := Aside0.mk (Kd.N_lower ho42 (below_size (hq3 HB GE488 GE489 GE490))); replace BK488 := cB BK488 hb; replace BK489 := cB BK489 hb; replace BK490 := cB BK490 hb; replace HB := cs (hq3 HB GE488 GE489 GE490) hb; clear hb ho42; obtain ⟨Ao43, co43, eo43⟩ := Kd.N_slice HO493.out
     (first | subst eo43 | (injection eo43 with f1_ f2_ f3_; have f4_ := f1_.symm; have f5_ := f3_.symm; clear f1_ f2_ f3_; subst f4_; subst f5_))
     refine hK.out _ _ ⟨(blk_cell BK488.out 0).trans rfl, (blk_cell BK489.out 0).trans rfl⟩ (fun hHeld => ?_)
     clear hK K
     refine norm_ (a' := ?_) ?_ ?_
     rotate_left
     · show Act.put _ (some 11) _ = _
       simp only [Act.put, List.setIfInBounds_toArray, List.set_cons_zero, List.set_cons_succ, i64_w, i32_w]
       rfl
     refine one_ (i := 3) (N := some 12) (bz 36 15) rfl rfl (one_of HT_.out (by kernel_rfl)) (by decide) (fun K hK => ?_)
     refine goes_ Try.func74 (by kernel_rfl) rfl #[.slice Ao43 y491.length co43] (by rfl) rfl rfl (by (try simp only [List.map_toArray, List.map_cons, List.map_nil]); first | done | rfl | (simp only [List.length_drop, List.length_take]; rfl)) ?_
     with_reducible refine (impl_areBigs.calls k _ _ y491 false _ ?side1 ?side2 A7.out).mono ?_
     (case side1 => exact cq ((Kd.N_reads' HO493.out).2.2))
     (case side2 => exact (Kd.N_reads' HO493.out).2.1)
     rintro e w44 ⟨rfl, hb⟩
     refine ⟨_, rfl, ?_⟩; replace HO0_0 := Aside0.mk (Kd.V_below (vq HO0_0) hb); replace HO1_0 := Aside0.mk (Kd.V_below (vq HO1_0) hb); replace HO493 := Aside0.mk (Kd.N_below (by (with_reducible repeat (first | apply Kd.N_alloc | apply Kd.N_drewN | apply Kd.N_drew)); exact HO493.out) hb); replace BK488 := cB BK488 hb; replace BK489 := cB BK489 hb; replace BK490 := cB BK490 hb; replace HB := cs (hq3 HB GE488 GE489 GE490) hb; (try clear hb); (try clear hb2); (try clear hk); (try clear hi)
     refine hK.out _ _ ⟨(blk_cell BK488.out 0).trans rfl, (blk_cell BK489.out 0).trans rfl⟩ (fun hHeld => ?_)
     clear hK K
     refine norm_ (a' := ?_) ?_ ?_
     rotate_left
     · show Act.put _ (some 12) _ = _
       simp only [Act.put, List.setIfInBounds_toArray, List.set_cons_zero, List.set_cons_succ, i64_w, i32_w]
       rfl
     refine pz (a' := ?_) 4 13 ?_ (bz 36 31) rfl rfl HT_ (Or.inl ⟨by rfl, ?_⟩) ?_ ?_
     rotate_left
     · intro w'
       first | (go_simp; with_reducible rfl) | (go_simp; unfold Instr.field; go_simp; rfl)
     rotate_left
     · simp only [Act.put, List.setIfInBounds_toArray, List.set_cons_zero, List.set_cons_succ, i64_w, i32_w]
       rfl
     refine pz (a' := ?_) 5 14 ?_ (bz 36 63) rfl rfl HT_ (Or.inl ⟨by rfl, ?_⟩) ?_ ?_
     rotate_left
     · intro w'
       first | (go_simp; with_reducible rfl) | (go_simp; unfold Instr.field; go_simp; rfl)
     rotate_left
     · simp only [Act.put, List.setIfInBounds_toArray, List.set_cons_zero, List.set_cons_succ, i64_w, i32_w]
       rfl
     refine pz (a' := ?_) 6 15 undef (bz 36 127) rfl rfl HT_ (Or.inr ⟨by rfl, rfl⟩) ?_ ?_
     rotate_left
     · simp only [Act.put, List.setIfInBounds_toArray, List.set_cons_zero, List.set_cons_succ, i64_w, i32_w]
       rfl
     refine pz (a' := ?_) 7 16 undef (bz 36 255) rfl rfl HT_ (Or.inr ⟨by rfl, rfl⟩) ?_ ?_
     rotate_left
     · simp only [Act.put, List.setIfInBounds_toArray, List.set_cons_zero, List.set_cons_succ, i64_w, i32_w]
       rfl
     refine pz (a' := ?_) 8 17 undef (bz 36 511) rfl rfl HT_ (Or.inr ⟨by rfl, rfl⟩) ?_ ?_
     rotate_left
     · simp only [Act.put, List.setIfInBounds_toArray, List.set_cons_zero, List.set_cons_succ, i64_w, i32_w]
       rfl
     refine pz (a' := ?_) 9 18 undef (bz 36 1023) rfl rfl HT_ (Or.inr ⟨by rfl, rfl⟩) ?_ ?_
     rotate_left
     · simp only [Act.put, List.setIfInBounds_toArray, List.set_cons_zero, List.set_cons_succ, i64_w, i32_w]
       rfl
     refine pz (a' := ?_) 10 19 ?_ (bz 36 2047) rfl rfl HT_ (Or.inl ⟨by rfl, ?_⟩) ?_ ?_
     rotate_left
     · intro w'
       first | (go_simp; with_reducible rfl) | (go_simp; unfold Instr.field; go_simp; rfl)
     rotate_left
     · simp only [Act.put, List.setIfInBounds_toArray, List.set_cons_zero, List.set_cons_succ, i64_w, i32_w]
       rfl
     refine pz (a' := ?_) 11 20 ?_ (bz 36 4095) rfl rfl HT_ (Or.inl ⟨by rfl, ?_⟩) ?_ ?_
     rotate_left
     · intro w'
       first | (go_simp; with_reducible rfl) | (go_simp; unfold Instr.field; go_simp; rfl)
     rotate_left
     · simp only [Act.put, List.setIfInBounds_toArray, List.set_cons_zero, List.set_cons_succ, i64_w, i32_w]
       rfl
     refine pz (a' := ?_) 12 21 undef (bz 36 8191) rfl rfl HT_ (Or.inr ⟨by rfl, rfl⟩) ?_ ?_
     rotate_left
     · simp only [Act.put, List.setIfInBounds_toArray, List.set_cons_zero, List.set_cons_succ, i64_w, i32_w]
       rfl
     refine pz (a' := ?_) 13 22 undef (bz 36 16383) rfl rfl HT_ (Or.inr ⟨by rfl, rfl⟩) ?_ ?_
     rotate_left
     · simp only [Act.put, List.setIfInBounds_toArray, List.set_cons_zero, List.set_cons_succ, i64_w, i32_w]
       rfl
     refine pz (a' := ?_) 14 23 undef (bz 36 32767) rfl rfl HT_ (Or.inr ⟨by rfl, rfl⟩) ?_ ?_
     rotate_left
     · simp only [Act.put, List.setIfInBounds_toArray, List.set_cons_zero, List.set_cons_succ, i64_w, i32_w]
       rfl
     refine pz (a' := ?_) 15 24 undef (bz 36 65535) rfl rfl HT_ (Or.inr ⟨by rfl, rfl⟩) ?_ ?_
     rotate_left
     · simp only [Act.put, List.setIfInBounds_toArray, List.set_cons_zero, List.set_cons_succ, i64_w, i32_w]
       rfl
     refine pz (a' := ?_) 16 25 undef (bz 36 131071) rfl rfl HT_ (Or.inr ⟨by rfl, rfl⟩) ?_ ?_
     rotate_left
     · simp only [Act.put, List.setIfInBounds_toArray, List.set_cons_zero, List.set_cons_succ, i64_w, i32_w]
       rfl
     refine pz (a' := ?_) 17 26 ?_ (bz 36 262143) rfl rfl HT_ (Or.inl ⟨by rfl, ?_⟩) ?_ ?_
     rotate_left
     · intro w'
       first | (go_simp; with_reducible rfl) | (go_simp; unfold Instr.field; go_simp; rfl)
     rotate_left
     · simp only [Act.put, List.setIfInBounds_toArray, List.set_cons_zero, List.set_cons_succ, i64_w, i32_w]
       rfl
     refine pz (a' := ?_) 18 27 ?_ (bz 36 524287) rfl rfl HT_ (Or.inl ⟨by rfl, ?_⟩) ?_ ?_
     rotate_left
     · intro w'
       first | (go_simp; with_reducible rfl) | (go_simp; unfold Instr.field; go_simp; rfl)
     rotate_left
     · simp only [Act.put, List.setIfInBounds_toArray, List.set_cons_zero, List.set_cons_succ, i64_w, i32_w]
       rfl
     refine pz (a' := ?_) 19 28 undef (bz 36 1048575) rfl rfl HT_ (Or.inr ⟨by rfl, rfl⟩) ?_ ?_
     rotate_left
     · simp only [Act.put, List.setIfInBounds_toArray, List.set_cons_zero, List.set_cons_succ, i64_w, i32_w]
       rfl
     refine pz (a' := ?_) 20 29 undef (bz 36 2097151) rfl rfl HT_ (Or.inr ⟨by rfl, rfl⟩) ?_ ?_
     rotate_left
     · simp only [Act.put, List.setIfInBounds_toArray, List.set_cons_zero, List.set_cons_succ, i64_w, i32_w]
       rfl
     refine pz (a' := ?_) 21 30 undef (bz 36 4194303) rfl rfl HT_ (Or.inr ⟨by rfl, rfl⟩) ?_ ?_
     rotate_left
     · simp only [Act.put, List.setIfInBounds_toArray, List.set_cons_zero, List.set_cons_succ, i64_w, i32_w]
       rfl
     refine pz (a' := ?_) 22 31 undef (bz 36 8388607) rfl rfl HT_ (Or.inr ⟨by rfl, rfl⟩) ?_ ?_
     rotate_left
     · simp only [Act.put, List.setIfInBounds_toArray, List.set_cons_zero, List.set_cons_succ, i64_w, i32_w]
       rfl
     refine pz (a' := ?_) 23 32 undef (bz 36 16777215) rfl rfl HT_ (Or.inr ⟨by rfl, rfl⟩) ?_ ?_
     rotate_left
     · simp only [Act.put, List.setIfInBounds_toArray, List.set_cons_zero, List.set_cons_succ, i64_w, i32_w]
       rfl
     refine pz (a' := ?_) 24 33 undef (bz 36 33554431) rfl rfl HT_ (Or.inr ⟨by rfl, rfl⟩) ?_ ?_
     rotate_left
     · simp only [Act.put, List.setIfInBounds_toArray, List.set_cons_zero, List.set_cons_succ, i64_w, i32_w]
       rfl
     refine pz (a' := ?_) 25 34 ?_ (bz 36 67108863) rfl rfl HT_ (Or.inl ⟨by rfl, ?_⟩) ?_ ?_
     rotate_left
     · intro w'
       first | (go_simp; with_reducible rfl) | (go_simp; unfold Instr.field; go_simp; rfl)
     rotate_left
     · simp only [Act.put, List.setIfInBounds_toArray, List.set_cons_zero, List.set_cons_succ, i64_w, i32_w]
       rfl
     refine pz (a' := ?_) 26 35 ?_ (bz 36 134217727) rfl rfl HT_ (Or.inl ⟨by rfl, ?_⟩) ?_ ?_
     rotate_left
     · intro w'
       first | (go_simp; with_reducible rfl) | (go_simp; unfold Instr.field; go_simp; rfl)
     rotate_left
     · simp only [Act.put, List.setIfInBounds_toArray, List.set_cons_zero, List.set_cons_succ, i64_w, i32_w]
       rfl
     refine pz (a' := ?_) 27 36 undef (bz 36 268435455) rfl rfl HT_ (Or.inr ⟨by rfl, rfl⟩) ?_ ?_
     rotate_left
     · simp only [Act.put, List.setIfInBounds_toArray, List.set_cons_zero, List.set_cons_succ, i64_w, i32_w]
       rfl
     refine pz (a' := ?_) 28 37 undef (bz 36 536870911) rfl rfl HT_ (Or.inr ⟨by rfl, rfl⟩) ?_ ?_
     rotate_left
     · simp only [Act.put, List.setIfInBounds_toArray, List.set_cons_zero, List.set_cons_succ, i64_w, i32_w]
       rfl
     refine pz (a' := ?_) 29 38 undef (bz 36 1073741823) rfl rfl HT_ (Or.inr ⟨by rfl, rfl⟩) ?_ ?_
     rotate_left
     · simp only [Act.put, List.setIfInBounds_toArray, List.set_cons_zero, List.set_cons_succ, i64_w, i32_w]
       rfl
     refine pz (a' := ?_) 30 39 undef (bz 36 2147483647) rfl rfl HT_ (Or.inr ⟨by rfl, rfl⟩) ?_ ?_
     rotate_left
     · simp only [Act.put, List.setIfInBounds_toArray, List.set_cons_zero, List.set_cons_succ, i64_w, i32_w]
       rfl
     refine pz (a' := ?_) 31 40 undef (bz 36 4294967295) rfl rfl HT_ (Or.inr ⟨by rfl, rfl⟩) ?_ ?_
     rotate_left
     · simp only [Act.put, List.setIfInBounds_toArray, List.set_cons_zero, List.set_cons_succ, i64_w, i32_w]
       rfl
     refine pz (a' := ?_) 32 41 undef (bz 36 8589934591) rfl rfl HT_ (Or.inr ⟨by rfl, rfl⟩) ?_ ?_
     rotate_left
     · simp only [Act.put, List.setIfInBounds_toArray, List.set_cons_zero, List.set_cons_succ, i64_w, i32_w]
       rfl
     refine pz (a' := ?_) 33 42 undef (bz 36 17179869183) rfl rfl HT_ (Or.inr ⟨by rfl, rfl⟩) ?_ ?_
     rotate_left
     · simp only [Act.put, List.setIfInBounds_toArray, List.set_cons_zero, List.set_cons_succ, i64_w, i32_w]
       rfl
     refine pz (a' := ?_) 34 43 undef (bz 36 34359738367) rfl rfl HT_ (Or.inr ⟨by rfl, rfl⟩) ?_ ?_
     rotate_left
     · simp only [Act.put, List.setIfInBounds_toArray, List.set_cons_zero, List.set_cons_succ, i64_w, i32_w]
       rfl
     refine pz (a' := ?_) 35 44 ?_ (bz 36 68719476735) rfl rfl HT_ (Or.inl ⟨by rfl, ?_⟩) ?_ ?_
     rotate_left
     · intro w'
       first | (go_simp; with_reducible rfl) | (go_simp; unfold Instr.field; go_simp; rfl)
     rotate_left
     · simp only [Act.put, List.setIfInBounds_toArray, List.set_cons_zero, List.set_cons_succ, i64_w, i32_w]
       rfl
     refine done_ (done_of HT_.out (by kernel_rfl)) ?_
     try go_wp2
     go_meet
     case rel => exact ⟨_, (true), (by first | rfl | (simp; done) | (simp [*]; done)), H', ⟨by first | omega | exact Nat.le_refl _⟩, ⟨by (with_reducible repeat (first | apply Kd.V_alloc | apply Kd.V_drewN | apply Kd.V_drew)); exact Kd.V_mono HO0_0.out (fun _ hk => ⟨hk.1.1.1.1, ⟨hk.1.1.1.2, ⟨hk.1.1.2, hk.1.2⟩⟩⟩)⟩, ⟨by (with_reducible repeat (first | apply Kd.V_alloc | apply Kd.V_drewN | apply Kd.V_drew)); exact Kd.V_mono HO1_0.out (fun _ hk => ⟨hk.1.1.1.1, ⟨hk.1.1.1.2, ⟨hk.1.1.2, hk.1.2⟩⟩⟩)⟩, ⟨by (with_reducible repeat (first | refine blk_drewN ?_ _ | refine blk_drew ?_ | refine blk_alloc ?_ _)); exact BK488.out⟩, ⟨by (with_reducible repeat (first | refine blk_drewN ?_ _ | refine blk_drew ?_ | refine blk_alloc ?_ _)); exact BK489.out⟩, ⟨by (with_reducible repeat (first | refine blk_drewN ?_ _ | refine blk_drew ?_ | refine blk_alloc ?_ _)); exact BK490.out⟩, ⟨hq3 HB GE488 GE489 GE490⟩⟩
   subst c8
   have H1 : (if (l1_0.length : Int) = 1 then (if 0 < (l1_0.length : Int) then (if (rd l1_0 0) = 1 then (impl_ReduceBig.j0 k true l0_0 l1_0) else (if (Int.tmod (rd l1_0 0) 2) = 0 then (impl_ReduceBig.j0 k true l0_0 l1_0) else ((impl_times.f k l1_0 (([0, 1] : List Int))).bind fun t500 => ((impl_compare.f k l0_0 t500).bind fun t503 => (impl_ReduceBig.j0 k (decide (t503 ≥ 0)) l0_0 l1_0))))) else (none)) else (impl_ReduceBig.j0 k true l0_0 l1_0)) = some (r1, r2) := by rw [if_pos rfl] at H; exact H
   clear H; have H := H1; clear H1
   by_cases c9 : (l1_0.length : Int) = 1
   rotate_left
   · rw [if_neg c9] at H
     have c9b0 : ((l1_0.length : Int) == 1) = false := beq_eq_false_iff_ne.mpr c9
     have c9b1 : ((l1_0.length : Int) != 1) = true := bne_iff_ne.mpr c9
     (first | rw [c9b0] | (simp only [i64_w, i32_w]; rw [c9b0]) | skip)
     have H' := Aside0.mk H
     clear H
     try go_wp2
     replace HO0_0 := Aside0.mk (Kd.V_drew HO0_0.out); replace HO1_0 := Aside0.mk (Kd.V_drew HO1_0.out); replace BK488 := Aside0.mk (blk_drew BK488.out); replace BK489 := Aside0.mk (blk_drew BK489.out); replace BK490 := Aside0.mk (blk_drew BK490.out); replace HB := Aside0.mk (below_drew1 HB.out)
     refine start_ (n := 36) (S := fun w' => w'.cell? ⟨gb488, 0, none⟩ = some (.slice A0_0 l0_0.length c0_0) ∧ w'.cell? ⟨gb489, 0, none⟩ = some (.slice A1_0 l1_0.length c1_0)) (ds := []) #[false, false, false, false, false, false, false, false, false, false, false, false, false, false, false, false, false, false, false, false, false, false, false, false, false, false, false, false, false, false, false, false, false, false, false, false] (by kernel_rfl) rfl rfl ⟨(blk_cell BK488.out 0).trans rfl, (blk_cell BK489.out 0).trans rfl⟩ (fun hHeld => ?_); refine with_tabW impl_ReduceBig.tab1 impl_ReduceBig.bits1 (fun HT_ HW_ => ?_)
     generalize w6.drew = w35 at HO0_0 HO1_0 BK488 BK489 BK490 HB hHeld ⊢
     refine take_ (i := 0) (N := some 9) (v := ?_) (a' := ?_) (bz 36 1) rfl rfl (take_ofW HT_.out HW_.out (by kernel_rfl)) (fun _ _ _ h => h) (Or.inl ⟨by rfl, ?_⟩) hHeld ?_ ?_
     rotate_left
     · rintro w' ⟨s0, s1⟩
       go_simp
       with_reducible rfl
     rotate_left
     · simp only [Act.put, List.setIfInBounds_toArray, List.set_cons_zero, List.set_cons_succ, i64_w, i32_w]
       rfl
     refine take_ (i := 1) (N := some 10) (v := ?_) (a' := ?_) (bz 36 3) rfl rfl (take_ofW HT_.out HW_.out (by kernel_rfl)) (fun _ _ _ h => h) (Or.inl ⟨by rfl, ?_⟩) hHeld ?_ ?_
     rotate_left
     · rintro w' ⟨s0, s1⟩
       go_simp
       with_reducible rfl
     rotate_left
     · simp only [Act.put, List.setIfInBounds_toArray, List.set_cons_zero, List.set_cons_succ, i64_w, i32_w]
       rfl
     refine one_ (i := 2) (N := some 11) (bz 36 7) rfl rfl (one_of HT_.out (by kernel_rfl)) (by decide) (fun K hK => ?_)
     refine Kd.N_lit_step k25 _ 25 ?hg (N' := 11) ?hd (xs := ([(⟨l0_0⟩ : S25), (⟨l1_0⟩ : S25)] : List (S25))) (inner := [.slice A0_0 l0_0.length c0_0, .slice A1_0 l1_0.length c1_0]) (ok := (fun k_ => ((P0_0_ k_ ∨ P1_0_ k_) ∨ w.heap.size ≤ k_) ∧ k_ ≠ gb488 ∧ k_ ≠ gb489 ∧ k_ ≠ gb490)) (okp := (fun k_ => ((P0_0_ k_ ∨ P1_0_ k_) ∨ w.heap.size ≤ k_) ∧ k_ ≠ gb488 ∧ k_ ≠ gb489 ∧ k_ ≠ gb490)) ?hr ?hp (fun _ hk => hk) ((show ∀ k_, w35.heap.size ≤ k_ → (fun k_ => ((P0_0_ k_ ∨ P1_0_ k_) ∨ w.heap.size ≤ k_) ∧ k_ ≠ gb488 ∧ k_ ≠ gb489 ∧ k_ ≠ gb490) k_ from fun k_ hk => ⟨(.inr (Nat.le_trans (below_size (hq3 HB GE488 GE489 GE490)) hk)), Kd.freshB (g := gb488) (o := .cells #[.slice A0_0 l0_0.length c0_0] 25 (0, 0)) (bq BK488) k_ hk, Kd.freshB (g := gb489) (o := .cells #[.slice A1_0 l1_0.length c1_0] 25 (0, 0)) (bq BK489) k_ hk, Kd.freshB (g := gb490) (o := .cells #[.slice none 0 0] 25 (0, 0)) (bq BK490) k_ hk⟩) _ (Nat.le_refl _)) (Below.refl _ _) (Nat.le_refl _) (by simp) ?_; (case hd => rfl); (case hg => rfl); (case hr => first | (go_simp; done) | (go_simp; rfl)); (case hp => exact (Reps.one (show Kd.FK k25 _ _ (⟨l0_0⟩ : S25) [.slice A0_0 l0_0.length c0_0] from (k25_mkF _ _ (⟨l0_0⟩ : S25) (Kd.V_reads' (Kd.V_mono (ok' := (fun k_ => ((P0_0_ k_ ∨ P1_0_ k_) ∨ w.heap.size ≤ k_) ∧ k_ ≠ gb488 ∧ k_ ≠ gb489 ∧ k_ ≠ gb490)) (HO0_0.out) (fun k_ hk => ⟨hk.1.1.1, ⟨hk.1.1.2, ⟨hk.1.2, hk.2⟩⟩⟩))).2.1 (Kd.V_F (Kd.V_mono (ok' := (fun k_ => ((P0_0_ k_ ∨ P1_0_ k_) ∨ w.heap.size ≤ k_) ∧ k_ ≠ gb488 ∧ k_ ≠ gb489 ∧ k_ ≠ gb490)) (HO0_0.out) (fun k_ hk => ⟨hk.1.1.1, ⟨hk.1.1.2, ⟨hk.1.2, hk.2⟩⟩⟩))))) (Reps.one (show Kd.FK k25 _ _ (⟨l1_0⟩ : S25) [.slice A1_0 l1_0.length c1_0] from (k25_mkF _ _ (⟨l1_0⟩ : S25) (Kd.V_reads' (Kd.V_mono (ok' := (fun k_ => ((P0_0_ k_ ∨ P1_0_ k_) ∨ w.heap.size ≤ k_) ∧ k_ ≠ gb488 ∧ k_ ≠ gb489 ∧ k_ ≠ gb490)) (HO1_0.out) (fun k_ hk => ⟨hk.1.1.1, ⟨hk.1.1.2, ⟨hk.1.2, hk.2⟩⟩⟩))).2.1 (Kd.V_F (Kd.V_mono (ok' := (fun k_ => ((P0_0_ k_ ∨ P1_0_ k_) ∨ w.heap.size ≤ k_) ∧ k_ ≠ gb488 ∧ k_ ≠ gb489 ∧ k_ ≠ gb490)) (HO1_0.out) (fun k_ hk => ⟨hk.1.1.1, ⟨hk.1.1.2, ⟨hk.1.2, hk.2⟩⟩⟩))))) (Reps.none _ _))))
     intro v492 w36 ho37 hb hg_ hnew_
     clear hg_ hnew_
     (first | rw [← Ny491.out] at ho37 | (simp only [Int.reduceToNat] at ho37; rw [← Ny491.out] at ho37))
     replace HO0_0 := Aside0.mk (Kd.V_elder' (vq HO0_0) (Kd.N_base ho37) hb); replace HO1_0 := Aside0.mk (Kd.V_elder' (vq HO1_0) (Kd.N_base ho37) hb); have HO493 := Aside0.mk (Kd.N_lower ho37 (below_size (hq3 HB GE488 GE489 GE490))); replace BK488 := cB BK488 hb; replace BK489 := cB BK489 hb; replace BK490 := cB BK490 hb; replace HB := cs (hq3 HB GE488 GE489 GE490) hb; clear hb ho37; obtain ⟨Ao38, co38, eo38⟩ := Kd.N_slice HO493.out
     (first | subst eo38 | (injection eo38 with f1_ f2_ f3_; have f4_ := f1_.symm; have f5_ := f3_.symm; clear f1_ f2_ f3_; subst f4_; subst f5_))
     refine hK.out _ _ ⟨(blk_cell BK488.out 0).trans rfl, (blk_cell BK489.out 0).trans rfl⟩ (fun hHeld => ?_)
     clear hK K
     refine norm_ (a' := ?_) ?_ ?_
     rotate_left
     · show Act.put _ (some 11) _ = _
       simp only [Act.put, List.setIfInBounds_toArray, List.set_cons_zero, List.set_cons_succ, i64_w, i32_w]
       rfl
     refine one_ (i := 3) (N := some 12) (bz 36 15) rfl rfl (one_of HT_.out (by kernel_rfl)) (by decide) (fun K hK => ?_)
     refine goes_ Try.func74 (by kernel_rfl) rfl #[.slice Ao38 y491.length co38] (by rfl) rfl rfl (by (try simp only [List.map_toArray, List.map_cons, List.map_nil]); first | done | rfl | (simp only [List.length_drop, List.length_take]; rfl)) ?_
     with_reducible refine (impl_areBigs.calls k _ _ y491 true _ ?side1 ?side2 A7.out).mono ?_
     (case side1 => exact cq ((Kd.N_reads' HO493.out).2.2))
     (case side2 => exact (Kd.N_reads' HO493.out).2.1)
     rintro e w39 ⟨rfl, hb⟩
     refine ⟨_, rfl, ?_⟩; replace HO0_0 := Aside0.mk (Kd.V_below (vq HO0_0) hb); replace HO1_0 := Aside0.mk (Kd.V_below (vq HO1_0) hb); replace HO493 := Aside0.mk (Kd.N_below (by (with_reducible repeat (first | apply Kd.N_alloc | apply Kd.N_drewN | apply Kd.N_drew)); exact HO493.out) hb); replace BK488 := cB BK488 hb; replace BK489 := cB BK489 hb; replace BK490 := cB BK490 hb; replace HB := cs (hq3 HB GE488 GE489 GE490) hb; (try clear hb); (try clear hb2); (try clear hk); (try clear hi)
     refine hK.out _ _ ⟨(blk_cell BK488.out 0).trans rfl, (blk_cell BK489.out 0).trans rfl⟩ (fun hHeld => ?_)
     clear hK K
     refine norm_ (a' := ?_) ?_ ?_
     rotate_left
     · show Act.put _ (some 12) _ = _
       simp only [Act.put, List.setIfInBounds_toArray, List.set_cons_zero, List.set_cons_succ, i64_w, i32_w]
       rfl
     refine pz (a' := ?_) 4 13 ?_ (bz 36 31) rfl rfl HT_ (Or.inl ⟨by rfl, ?_⟩) ?_ ?_
     rotate_left
     · intro w'
       first | (go_simp; with_reducible rfl) | (go_simp; unfold Instr.field; go_simp; rfl)
     rotate_left
     · simp only [Act.put, List.setIfInBounds_toArray, List.set_cons_zero, List.set_cons_succ, i64_w, i32_w]
       rfl
     refine pz (a' := ?_) 5 14 ?_ (bz 36 63) rfl rfl HT_ (Or.inl ⟨by rfl, ?_⟩) ?_ ?_
     rotate_left
     · intro w'
       first | (go_simp; with_reducible rfl) | (go_simp; unfold Instr.field; go_simp; rfl)
     rotate_left
     · simp only [Act.put, List.setIfInBounds_toArray, List.set_cons_zero, List.set_cons_succ, i64_w, i32_w]
       rfl
     refine pz (a' := ?_) 6 15 ?_ (bz 36 127) rfl rfl HT_ (Or.inl ⟨by rfl, ?_⟩) ?_ ?_
     rotate_left
     · intro w'
       first | (go_simp; with_reducible rfl) | (go_simp; unfold Instr.field; go_simp; rfl)
     rotate_left
     · simp only [Act.put, List.setIfInBounds_toArray, List.set_cons_zero, List.set_cons_succ, i64_w, i32_w]
       rfl
     refine take_ (i := 7) (N := some 16) (v := ?_) (a' := ?_) (bz 36 255) rfl rfl (take_ofW HT_.out HW_.out (by kernel_rfl)) (fun _ _ _ h => h) (Or.inl ⟨by rfl, ?_⟩) hHeld ?_ ?_
     rotate_left
     · rintro w' ⟨s0, s1⟩
       go_simp
       with_reducible rfl
     rotate_left
     · simp only [Act.put, List.setIfInBounds_toArray, List.set_cons_zero, List.set_cons_succ, i64_w, i32_w]
       rfl
     refine pz (a' := ?_) 8 17 ?_ (bz 36 511) rfl rfl HT_ (Or.inl ⟨by rfl, ?_⟩) ?_ ?_
     rotate_left
     · intro w'
       first | (go_simp; with_reducible rfl) | (go_simp; unfold Instr.field; go_simp; rfl)
     rotate_left
     · simp only [Act.put, List.setIfInBounds_toArray, List.set_cons_zero, List.set_cons_succ, i64_w, i32_w]
       rfl
     refine pz (a' := ?_) 9 18 ?_ (bz 36 1023) rfl rfl HT_ (Or.inl ⟨by rfl, ?_⟩) ?_ ?_
     rotate_left
     · intro w'
       first | (go_simp; with_reducible rfl) | (go_simp; unfold Instr.field; go_simp; rfl)
     rotate_left
     · simp only [Act.put, List.setIfInBounds_toArray, List.set_cons_zero, List.set_cons_succ, i64_w, i32_w]
       rfl
     refine pz (a' := ?_) 10 19 ?_ (bz 36 2047) rfl rfl HT_ (Or.inl ⟨by rfl, ?_⟩) ?_ ?_
     rotate_left
     · intro w'
       first | (go_simp; with_reducible rfl) | (go_simp; unfold Instr.field; go_simp; rfl)
     rotate_left
     · simp only [Act.put, List.setIfInBounds_toArray, List.set_cons_zero, List.set_cons_succ, i64_w, i32_w]
       rfl
     refine pz (a' := ?_) 11 20 ?_ (bz 36 4095) rfl rfl HT_ (Or.inl ⟨by rfl, ?_⟩) ?_ ?_
     rotate_left
     · intro w'
       first | (go_simp; with_reducible rfl) | (go_simp; unfold Instr.field; go_simp; rfl)
     rotate_left
     · simp only [Act.put, List.setIfInBounds_toArray, List.set_cons_zero, List.set_cons_succ, i64_w, i32_w]
       rfl
     refine pz (a' := ?_) 12 21 undef (bz 36 8191) rfl rfl HT_ (Or.inr ⟨by rfl, rfl⟩) ?_ ?_
     rotate_left
     · simp only [Act.put, List.setIfInBounds_toArray, List.set_cons_zero, List.set_cons_succ, i64_w, i32_w]
       rfl
     refine pz (a' := ?_) 13 22 undef (bz 36 16383) rfl rfl HT_ (Or.inr ⟨by rfl, rfl⟩) ?_ ?_
     rotate_left
     · simp only [Act.put, List.setIfInBounds_toArray, List.set_cons_zero, List.set_cons_succ, i64_w, i32_w]
       rfl
     refine pz (a' := ?_) 14 23 undef (bz 36 32767) rfl rfl HT_ (Or.inr ⟨by rfl, rfl⟩) ?_ ?_
     rotate_left
     · simp only [Act.put, List.setIfInBounds_toArray, List.set_cons_zero, List.set_cons_succ, i64_w, i32_w]
       rfl
     refine pz (a' := ?_) 15 24 undef (bz 36 65535) rfl rfl HT_ (Or.inr ⟨by rfl, rfl⟩) ?_ ?_
     rotate_left
     · simp only [Act.put, List.setIfInBounds_toArray, List.set_cons_zero, List.set_cons_succ, i64_w, i32_w]
       rfl
     refine pz (a' := ?_) 16 25 undef (bz 36 131071) rfl rfl HT_ (Or.inr ⟨by rfl, rfl⟩) ?_ ?_
     rotate_left
     · simp only [Act.put, List.setIfInBounds_toArray, List.set_cons_zero, List.set_cons_succ, i64_w, i32_w]
       rfl
     refine pz (a' := ?_) 17 26 ?_ (bz 36 262143) rfl rfl HT_ (Or.inl ⟨by rfl, ?_⟩) ?_ ?_
     rotate_left
     · intro w'
       first | (go_simp; with_reducible rfl) | (go_simp; unfold Instr.field; go_simp; rfl)
     rotate_left
     · simp only [Act.put, List.setIfInBounds_toArray, List.set_cons_zero, List.set_cons_succ, i64_w, i32_w]
       rfl
     refine pz (a' := ?_) 18 27 ?_ (bz 36 524287) rfl rfl HT_ (Or.inl ⟨by rfl, ?_⟩) ?_ ?_
     rotate_left
     · intro w'
       first | (go_simp; with_reducible rfl) | (go_simp; unfold Instr.field; go_simp; rfl)
     rotate_left
     · simp only [Act.put, List.setIfInBounds_toArray, List.set_cons_zero, List.set_cons_succ, i64_w, i32_w]
       rfl
     refine pz (a' := ?_) 19 28 undef (bz 36 1048575) rfl rfl HT_ (Or.inr ⟨by rfl, rfl⟩) ?_ ?_
     rotate_left
     · simp only [Act.put, List.setIfInBounds_toArray, List.set_cons_zero, List.set_cons_succ, i64_w, i32_w]
       rfl
     refine pz (a' := ?_) 20 29 undef (bz 36 2097151) rfl rfl HT_ (Or.inr ⟨by rfl, rfl⟩) ?_ ?_
     rotate_left
     · simp only [Act.put, List.setIfInBounds_toArray, List.set_cons_zero, List.set_cons_succ, i64_w, i32_w]
       rfl
     refine pz (a' := ?_) 21 30 undef (bz 36 4194303) rfl rfl HT_ (Or.inr ⟨by rfl, rfl⟩) ?_ ?_
     rotate_left
     · simp only [Act.put, List.setIfInBounds_toArray, List.set_cons_zero, List.set_cons_succ, i64_w, i32_w]
       rfl
     refine pz (a' := ?_) 22 31 undef (bz 36 8388607) rfl rfl HT_ (Or.inr ⟨by rfl, rfl⟩) ?_ ?_
     rotate_left
     · simp only [Act.put, List.setIfInBounds_toArray, List.set_cons_zero, List.set_cons_succ, i64_w, i32_w]
       rfl
     refine pz (a' := ?_) 23 32 undef (bz 36 16777215) rfl rfl HT_ (Or.inr ⟨by rfl, rfl⟩) ?_ ?_
     rotate_left
     · simp only [Act.put, List.setIfInBounds_toArray, List.set_cons_zero, List.set_cons_succ, i64_w, i32_w]
       rfl
     refine pz (a' := ?_) 24 33 undef (bz 36 33554431) rfl rfl HT_ (Or.inr ⟨by rfl, rfl⟩) ?_ ?_
     rotate_left
     · simp only [Act.put, List.setIfInBounds_toArray, List.set_cons_zero, List.set_cons_succ, i64_w, i32_w]
       rfl
     refine pz (a' := ?_) 25 34 ?_ (bz 36 67108863) rfl rfl HT_ (Or.inl ⟨by rfl, ?_⟩) ?_ ?_
     rotate_left
     · intro w'
       first | (go_simp; with_reducible rfl) | (go_simp; unfold Instr.field; go_simp; rfl)
     rotate_left
     · simp only [Act.put, List.setIfInBounds_toArray, List.set_cons_zero, List.set_cons_succ, i64_w, i32_w]
       rfl
     refine pz (a' := ?_) 26 35 ?_ (bz 36 134217727) rfl rfl HT_ (Or.inl ⟨by rfl, ?_⟩) ?_ ?_
     rotate_left
     · intro w'
       first | (go_simp; with_reducible rfl) | (go_simp; unfold Instr.field; go_simp; rfl)
     rotate_left
     · simp only [Act.put, List.setIfInBounds_toArray, List.set_cons_zero, List.set_cons_succ, i64_w, i32_w]
       rfl
     refine pz (a' := ?_) 27 36 undef (bz 36 268435455) rfl rfl HT_ (Or.inr ⟨by rfl, rfl⟩) ?_ ?_
     rotate_left
     · simp only [Act.put, List.setIfInBounds_toArray, List.set_cons_zero, List.set_cons_succ, i64_w, i32_w]
       rfl
     refine pz (a' := ?_) 28 37 undef (bz 36 536870911) rfl rfl HT_ (Or.inr ⟨by rfl, rfl⟩) ?_ ?_
     rotate_left
     · simp only [Act.put, List.setIfInBounds_toArray, List.set_cons_zero, List.set_cons_succ, i64_w, i32_w]
       rfl
     refine pz (a' := ?_) 29 38 undef (bz 36 1073741823) rfl rfl HT_ (Or.inr ⟨by rfl, rfl⟩) ?_ ?_
     rotate_left
     · simp only [Act.put, List.setIfInBounds_toArray, List.set_cons_zero, List.set_cons_succ, i64_w, i32_w]
       rfl
     refine pz (a' := ?_) 30 39 undef (bz 36 2147483647) rfl rfl HT_ (Or.inr ⟨by rfl, rfl⟩) ?_ ?_
     rotate_left
     · simp only [Act.put, List.setIfInBounds_toArray, List.set_cons_zero, List.set_cons_succ, i64_w, i32_w]
       rfl
     refine pz (a' := ?_) 31 40 undef (bz 36 4294967295) rfl rfl HT_ (Or.inr ⟨by rfl, rfl⟩) ?_ ?_
     rotate_left
     · simp only [Act.put, List.setIfInBounds_toArray, List.set_cons_zero, List.set_cons_succ, i64_w, i32_w]
       rfl
     refine pz (a' := ?_) 32 41 undef (bz 36 8589934591) rfl rfl HT_ (Or.inr ⟨by rfl, rfl⟩) ?_ ?_
     rotate_left
     · simp only [Act.put, List.setIfInBounds_toArray, List.set_cons_zero, List.set_cons_succ, i64_w, i32_w]
       rfl
     refine pz (a' := ?_) 33 42 undef (bz 36 17179869183) rfl rfl HT_ (Or.inr ⟨by rfl, rfl⟩) ?_ ?_
     rotate_left
     · simp only [Act.put, List.setIfInBounds_toArray, List.set_cons_zero, List.set_cons_succ, i64_w, i32_w]
       rfl
     refine pz (a' := ?_) 34 43 undef (bz 36 34359738367) rfl rfl HT_ (Or.inr ⟨by rfl, rfl⟩) ?_ ?_
     rotate_left
     · simp only [Act.put, List.setIfInBounds_toArray, List.set_cons_zero, List.set_cons_succ, i64_w, i32_w]
       rfl
     refine pz (a' := ?_) 35 44 ?_ (bz 36 68719476735) rfl rfl HT_ (Or.inl ⟨by rfl, ?_⟩) ?_ ?_
     rotate_left
     · intro w'
       first | (go_simp; with_reducible rfl) | (go_simp; unfold Instr.field; go_simp; rfl)
     rotate_left
     · simp only [Act.put, List.setIfInBounds_toArray, List.set_cons_zero, List.set_cons_succ, i64_w, i32_w]
       rfl
     refine done_ (done_of HT_.out (by kernel_rfl)) ?_
     try go_wp2
     go_meet
     case rel => exact ⟨_, (true), (by first | rfl | (simp; done) | (simp [*]; done)), H', ⟨by first | omega | exact Nat.le_refl _⟩, ⟨by (with_reducible repeat (first | apply Kd.V_alloc | apply Kd.V_drewN | apply Kd.V_drew)); exact Kd.V_mono HO0_0.out (fun _ hk => ⟨hk.1.1.1.1, ⟨hk.1.1.1.2, ⟨hk.1.1.2, hk.1.2⟩⟩⟩)⟩, ⟨by (with_reducible repeat (first | apply Kd.V_alloc | apply Kd.V_drewN | apply Kd.V_drew)); exact Kd.V_mono HO1_0.out (fun _ hk => ⟨hk.1.1.1.1, ⟨hk.1.1.1.2, ⟨hk.1.1.2, hk.1.2⟩⟩⟩)⟩, ⟨by (with_reducible repeat (first | refine blk_drewN ?_ _ | refine blk_drew ?_ | refine blk_alloc ?_ _)); exact BK488.out⟩, ⟨by (with_reducible repeat (first | refine blk_drewN ?_ _ | refine blk_drew ?_ | refine blk_alloc ?_ _)); exact BK489.out⟩, ⟨by (with_reducible repeat (first | refine blk_drewN ?_ _ | refine blk_drew ?_ | refine blk_alloc ?_ _)); exact BK490.out⟩, ⟨hq3 HB GE488 GE489 GE490⟩⟩
   rw [if_pos c9] at H
   have c9b0 : ((l1_0.length : Int) == 1) = true := beq_iff_eq.mpr c9
   have c9b1 : ((l1_0.length : Int) != 1) = false := bne_eq_false_iff_eq.mpr c9
   clear c9
   (first | rw [c9b0] | (simp only [i64_w, i32_w]; rw [c9b0]) | skip)
   by_cases c10 : 0 < (l1_0.length : Int)
   rotate_left
   · rw [if_neg c10] at H
     exact absurd H (by simp)
   rw [if_pos c10] at H
   have c10b0 : decide (0 < (l1_0.length : Int)) = true := decide_eq_true c10
   have c10b1 : decide (0 < l1_0.length) = true := decide_eq_true (by omega)
   clear c10
   by_cases c11 : (rd l1_0 0) = 1
   · rw [if_pos c11] at H
     have c11b0 : ((rd l1_0 0) == 1) = true := beq_iff_eq.mpr c11
     have c11b1 : ((rd l1_0 0) != 1) = false := bne_eq_false_iff_eq.mpr c11
     clear c11
     have H' := Aside0.mk H
     clear H
     try go_wp2
     replace HO0_0 := Aside0.mk (Kd.V_drew HO0_0.out); replace HO1_0 := Aside0.mk (Kd.V_drew HO1_0.out); replace BK488 := Aside0.mk (blk_drew BK488.out); replace BK489 := Aside0.mk (blk_drew BK489.out); replace BK490 := Aside0.mk (blk_drew BK490.out); replace HB := Aside0.mk (below_drew1 HB.out)
     have p495 : 0 ≤ (0 : Int) := (by omega)
     have q495 : 0 < (l1_0.length : Int) := of_decide_eq_true (by first | (with_reducible assumption) | assumption)
     obtain ⟨ad495, e495, hx495_0⟩ := Kd.at_int (Kd.V_reads' HO1_0.out).2.2 0 p495 q495
     cases e495
     have qi495 : (0 < l1_0.length) = True := eq_true (by omega)
     (try rw [show ((0 : Int)).toNat = 0 from rfl] at hx495_0)
     (try rw [Addr.add_zero'] at hx495_0)
     replace p495 := eq_true p495; replace q495 := eq_true q495
     refine start_ (n := 36) (S := fun w' => w'.cell? ⟨gb488, 0, none⟩ = some (.slice A0_0 l0_0.length c0_0) ∧ w'.cell? ⟨gb489, 0, none⟩ = some (.slice (some ad495) l1_0.length c1_0) ∧ w'.cell? ad495 = some (.int .i64 (rd l1_0 0))) (ds := []) #[false, false, false, false, false, false, false, false, false, false, false, false, false, false, false, false, false, false, false, false, false, false, false, false, false, false, false, false, false, false, false, false, false, false, false, false] (by kernel_rfl) rfl rfl ⟨(blk_cell BK488.out 0).trans rfl, (blk_cell BK489.out 0).trans rfl, hx495_0⟩ (fun hHeld => ?_); refine with_tabW impl_ReduceBig.tab1 impl_ReduceBig.bits1 (fun HT_ HW_ => ?_)
     generalize w6.drew = w12 at HO0_0 HO1_0 BK488 BK489 BK490 HB hx495_0 hHeld ⊢
     refine take_ (i := 0) (N := some 9) (v := ?_) (a' := ?_) (bz 36 1) rfl rfl (take_ofW HT_.out HW_.out (by kernel_rfl)) (fun _ _ _ h => h) (Or.inl ⟨by rfl, ?_⟩) hHeld ?_ ?_
     rotate_left
     · rintro w' ⟨s0, s1, s2⟩
       go_simp
       with_reducible rfl
     rotate_left
     · simp only [Act.put, List.setIfInBounds_toArray, List.set_cons_zero, List.set_cons_succ, i64_w, i32_w]
       rfl
     refine take_ (i := 1) (N := some 10) (v := ?_) (a' := ?_) (bz 36 3) rfl rfl (take_ofW HT_.out HW_.out (by kernel_rfl)) (fun _ _ _ h => h) (Or.inl ⟨by rfl, ?_⟩) hHeld ?_ ?_
     rotate_left
     · rintro w' ⟨s0, s1, s2⟩
       go_simp
       with_reducible rfl
     rotate_left
     · simp only [Act.put, List.setIfInBounds_toArray, List.set_cons_zero, List.set_cons_succ, i64_w, i32_w]
       rfl
     refine one_ (i := 2) (N := some 11) (bz 36 7) rfl rfl (one_of HT_.out (by kernel_rfl)) (by decide) (fun K hK => ?_)
     refine Kd.N_lit_step k25 _ 25 ?hg (N' := 11) ?hd (xs := ([(⟨l0_0⟩ : S25), (⟨l1_0⟩ : S25)] : List (S25))) (inner := [.slice A0_0 l0_0.length c0_0, .slice (some ad495) l1_0.length c1_0]) (ok := (fun k_ => ((P0_0_ k_ ∨ P1_0_ k_) ∨ w.heap.size ≤ k_) ∧ k_ ≠ gb488 ∧ k_ ≠ gb489 ∧ k_ ≠ gb490)) (okp := (fun k_ => ((P0_0_ k_ ∨ P1_0_ k_) ∨ w.heap.size ≤ k_) ∧ k_ ≠ gb488 ∧ k_ ≠ gb489 ∧ k_ ≠ gb490)) ?hr ?hp (fun _ hk => hk) ((show ∀ k_, w12.heap.size ≤ k_ → (fun k_ => ((P0_0_ k_ ∨ P1_0_ k_) ∨ w.heap.size ≤ k_) ∧ k_ ≠ gb488 ∧ k_ ≠ gb489 ∧ k_ ≠ gb490) k_ from fun k_ hk => ⟨(.inr (Nat.le_trans (below_size (hq3 HB GE488 GE489 GE490)) hk)), Kd.freshB (g := gb488) (o := .cells #[.slice A0_0 l0_0.length c0_0] 25 (0, 0)) (bq BK488) k_ hk, Kd.freshB (g := gb489) (o := .cells #[.slice (some ad495) l1_0.length c1_0] 25 (0, 0)) (bq BK489) k_ hk, Kd.freshB (g := gb490) (o := .cells #[.slice none 0 0] 25 (0, 0)) (bq BK490) k_ hk⟩) _ (Nat.le_refl _)) (Below.refl _ _) (Nat.le_refl _) (by simp) ?_; (case hd => rfl); (case hg => rfl); (case hr => first | (go_simp; done) | (go_simp; rfl)); (case hp => exact (Reps.one (show Kd.FK k25 _ _ (⟨l0_0⟩ : S25) [.slice A0_0 l0_0.length c0_0] from (k25_mkF _ _ (⟨l0_0⟩ : S25) (Kd.V_reads' (Kd.V_mono (ok' := (fun k_ => ((P0_0_ k_ ∨ P1_0_ k_) ∨ w.heap.size ≤ k_) ∧ k_ ≠ gb488 ∧ k_ ≠ gb489 ∧ k_ ≠ gb490)) (HO0_0.out) (fun k_ hk => ⟨hk.1.1.1, ⟨hk.1.1.2, ⟨hk.1.2, hk.2⟩⟩⟩))).2.1 (Kd.V_F (Kd.V_mono (ok' := (fun k_ => ((P0_0_ k_ ∨ P1_0_ k_) ∨ w.heap.size ≤ k_) ∧ k_ ≠ gb488 ∧ k_ ≠ gb489 ∧ k_ ≠ gb490)) (HO0_0.out) (fun k_ hk => ⟨hk.1.1.1, ⟨hk.1.1.2, ⟨hk.1.2, hk.2⟩⟩⟩))))) (Reps.one (show Kd.FK k25 _ _ (⟨l1_0⟩ : S25) [.slice (some ad495) l1_0.length c1_0] from (k25_mkF _ _ (⟨l1_0⟩ : S25) (Kd.V_reads' (Kd.V_mono (ok' := (fun k_ => ((P0_0_ k_ ∨ P1_0_ k_) ∨ w.heap.size ≤ k_) ∧ k_ ≠ gb488 ∧ k_ ≠ gb489 ∧ k_ ≠ gb490)) (HO1_0.out) (fun k_ hk => ⟨hk.1.1.1, ⟨hk.1.1.2, ⟨hk.1.2, hk.2⟩⟩⟩))).2.1 (Kd.V_F (Kd.V_mono (ok' := (fun k_ => ((P0_0_ k_ ∨ P1_0_ k_) ∨ w.heap.size ≤ k_) ∧ k_ ≠ gb488 ∧ k_ ≠ gb489 ∧ k_ ≠ gb490)) (HO1_0.out) (fun k_ hk => ⟨hk.1.1.1, ⟨hk.1.1.2, ⟨hk.1.2, hk.2⟩⟩⟩))))) (Reps.none _ _))))
     intro v492 w13 ho14 hb hg_ hnew_
     have HS2_ := (hb.cell (World.block_lt_of_cell? _ _ (hHeld.2.2))).trans (hHeld.2.2); clear hg_ hnew_
     (first | rw [← Ny491.out] at ho14 | (simp only [Int.reduceToNat] at ho14; rw [← Ny491.out] at ho14))
     replace HO0_0 := Aside0.mk (Kd.V_elder' (vq HO0_0) (Kd.N_base ho14) hb); replace HO1_0 := Aside0.mk (Kd.V_elder' (vq HO1_0) (Kd.N_base ho14) hb); have HO493 := Aside0.mk (Kd.N_lower ho14 (below_size (hq3 HB GE488 GE489 GE490))); replace BK488 := cB BK488 hb; replace BK489 := cB BK489 hb; replace BK490 := cB BK490 hb; replace HB := cs (hq3 HB GE488 GE489 GE490) hb; clear hb ho14; obtain ⟨Ao15, co15, eo15⟩ := Kd.N_slice HO493.out
     (first | subst eo15 | (injection eo15 with f1_ f2_ f3_; have f4_ := f1_.symm; have f5_ := f3_.symm; clear f1_ f2_ f3_; subst f4_; subst f5_))
     refine hK.out _ _ ⟨(blk_cell BK488.out 0).trans rfl, (blk_cell BK489.out 0).trans rfl, HS2_⟩ (fun hHeld => ?_)
     clear hK K
     refine norm_ (a' := ?_) ?_ ?_
     rotate_left
     · show Act.put _ (some 11) _ = _
       simp only [Act.put, List.setIfInBounds_toArray, List.set_cons_zero, List.set_cons_succ, i64_w, i32_w]
       rfl
     refine one_ (i := 3) (N := some 12) (bz 36 15) rfl rfl (one_of HT_.out (by kernel_rfl)) (by decide) (fun K hK => ?_)
     refine goes_ Try.func74 (by kernel_rfl) rfl #[.slice Ao15 y491.length co15] (by rfl) rfl rfl (by (try simp only [List.map_toArray, List.map_cons, List.map_nil]); first | done | rfl | (simp only [List.length_drop, List.length_take]; rfl)) ?_
     with_reducible refine (impl_areBigs.calls k _ _ y491 true _ ?side1 ?side2 A7.out).mono ?_
     (case side1 => exact cq ((Kd.N_reads' HO493.out).2.2))
     (case side2 => exact (Kd.N_reads' HO493.out).2.1)
     rintro e w16 ⟨rfl, hb⟩
     have HS2_ := (hb.cell (World.block_lt_of_cell? _ _ (hHeld.2.2))).trans (hHeld.2.2); refine ⟨_, rfl, ?_⟩; replace HO0_0 := Aside0.mk (Kd.V_below (vq HO0_0) hb); replace HO1_0 := Aside0.mk (Kd.V_below (vq HO1_0) hb); replace HO493 := Aside0.mk (Kd.N_below (by (with_reducible repeat (first | apply Kd.N_alloc | apply Kd.N_drewN | apply Kd.N_drew)); exact HO493.out) hb); replace BK488 := cB BK488 hb; replace BK489 := cB BK489 hb; replace BK490 := cB BK490 hb; replace HB := cs (hq3 HB GE488 GE489 GE490) hb; (try clear hb); (try clear hb2); (try clear hk); (try clear hi)
     refine hK.out _ _ ⟨(blk_cell BK488.out 0).trans rfl, (blk_cell BK489.out 0).trans rfl, HS2_⟩ (fun hHeld => ?_)
     clear hK K
     refine norm_ (a' := ?_) ?_ ?_
     rotate_left
     · show Act.put _ (some 12) _ = _
       simp only [Act.put, List.setIfInBounds_toArray, List.set_cons_zero, List.set_cons_succ, i64_w, i32_w]
       rfl
     refine pz (a' := ?_) 4 13 ?_ (bz 36 31) rfl rfl HT_ (Or.inl ⟨by rfl, ?_⟩) ?_ ?_
     rotate_left
     · intro w'
       first | (go_simp; with_reducible rfl) | (go_simp; unfold Instr.field; go_simp; rfl)
     rotate_left
     · simp only [Act.put, List.setIfInBounds_toArray, List.set_cons_zero, List.set_cons_succ, i64_w, i32_w]
       rfl
     refine pz (a' := ?_) 5 14 ?_ (bz 36 63) rfl rfl HT_ (Or.inl ⟨by rfl, ?_⟩) ?_ ?_
     rotate_left
     · intro w'
       first | (go_simp; with_reducible rfl) | (go_simp; unfold Instr.field; go_simp; rfl)
     rotate_left
     · simp only [Act.put, List.setIfInBounds_toArray, List.set_cons_zero, List.set_cons_succ, i64_w, i32_w]
       rfl
     refine pz (a' := ?_) 6 15 ?_ (bz 36 127) rfl rfl HT_ (Or.inl ⟨by rfl, ?_⟩) ?_ ?_
     rotate_left
     · intro w'
       first | (go_simp; with_reducible rfl) | (go_simp; unfold Instr.field; go_simp; rfl)
     rotate_left
     · simp only [Act.put, List.setIfInBounds_toArray, List.set_cons_zero, List.set_cons_succ, i64_w, i32_w]
       rfl
     refine take_ (i := 7) (N := some 16) (v := ?_) (a' := ?_) (bz 36 255) rfl rfl (take_ofW HT_.out HW_.out (by kernel_rfl)) (fun _ _ _ h => h) (Or.inl ⟨by rfl, ?_⟩) hHeld ?_ ?_
     rotate_left
     · rintro w' ⟨s0, s1, s2⟩
       go_simp
       with_reducible rfl
     rotate_left
     · simp only [Act.put, List.setIfInBounds_toArray, List.set_cons_zero, List.set_cons_succ, i64_w, i32_w]
       rfl
     refine pz (a' := ?_) 8 17 ?_ (bz 36 511) rfl rfl HT_ (Or.inl ⟨by rfl, ?_⟩) ?_ ?_
     rotate_left
     · intro w'
       first | (go_simp; with_reducible rfl) | (go_simp; unfold Instr.field; go_simp; rfl)
     rotate_left
     · simp only [Act.put, List.setIfInBounds_toArray, List.set_cons_zero, List.set_cons_succ, i64_w, i32_w]
       rfl
     refine pz (a' := ?_) 9 18 ?_ (bz 36 1023) rfl rfl HT_ (Or.inl ⟨by rfl, ?_⟩) ?_ ?_
     rotate_left
     · intro w'
       first | (go_simp; with_reducible rfl) | (go_simp; unfold Instr.field; go_simp; rfl)
     rotate_left
     · simp only [Act.put, List.setIfInBounds_toArray, List.set_cons_zero, List.set_cons_succ, i64_w, i32_w]
       rfl
     refine pz (a' := ?_) 10 19 ?_ (bz 36 2047) rfl rfl HT_ (Or.inl ⟨by rfl, ?_⟩) ?_ ?_
     rotate_left
     · intro w'
       first | (go_simp; with_reducible rfl) | (go_simp; unfold Instr.field; go_simp; rfl)
     rotate_left
     · simp only [Act.put, List.setIfInBounds_toArray, List.set_cons_zero, List.set_cons_succ, i64_w, i32_w]
       rfl
     refine pz (a' := ?_) 11 20 ?_ (bz 36 4095) rfl rfl HT_ (Or.inl ⟨by rfl, ?_⟩) ?_ ?_
     rotate_left
     · intro w'
       first | (go_simp; with_reducible rfl) | (go_simp; unfold Instr.field; go_simp; rfl)
     rotate_left
     · simp only [Act.put, List.setIfInBounds_toArray, List.set_cons_zero, List.set_cons_succ, i64_w, i32_w]
       rfl
     refine pz (a' := ?_) 12 21 ?_ (bz 36 8191) rfl rfl HT_ (Or.inl ⟨by rfl, ?_⟩) ?_ ?_
     rotate_left
     · intro w'
       first | (go_simp; with_reducible rfl) | (go_simp; unfold Instr.field; go_simp; rfl)
     rotate_left
     · simp only [Act.put, List.setIfInBounds_toArray, List.set_cons_zero, List.set_cons_succ, i64_w, i32_w]
       rfl
     refine take_ (i := 13) (N := some 22) (v := ?_) (a' := ?_) (bz 36 16383) rfl rfl (take_ofW HT_.out HW_.out (by kernel_rfl)) (fun _ _ _ h => h) (Or.inl ⟨by rfl, ?_⟩) hHeld ?_ ?_
     rotate_left
     · rintro w' ⟨s0, s1, s2⟩
       go_simp
       with_reducible rfl
     rotate_left
     · simp only [Act.put, List.setIfInBounds_toArray, List.set_cons_zero, List.set_cons_succ, i64_w, i32_w]
       rfl
     refine pz (a' := ?_) 14 23 ?_ (bz 36 32767) rfl rfl HT_ (Or.inl ⟨by rfl, ?_⟩) ?_ ?_
     rotate_left
     · intro w'
       first | (go_simp; with_reducible rfl) | (go_simp; unfold Instr.field; go_simp; rfl)
     rotate_left
     · simp only [Act.put, List.setIfInBounds_toArray, List.set_cons_zero, List.set_cons_succ, i64_w, i32_w]
       rfl
     refine take_ (i := 15) (N := some 24) (v := ?_) (a' := ?_) (bz 36 65535) rfl rfl (take_ofW HT_.out HW_.out (by kernel_rfl)) (fun _ _ _ h => h) (Or.inl ⟨by rfl, ?_⟩) hHeld ?_ ?_
     rotate_left
     · rintro w' ⟨s0, s1, s2⟩
       go_simp
       with_reducible rfl
     rotate_left
     · simp only [Act.put, List.setIfInBounds_toArray, List.set_cons_zero, List.set_cons_succ, i64_w, i32_w]
       rfl
     refine pz (a' := ?_) 16 25 ?_ (bz 36 131071) rfl rfl HT_ (Or.inl ⟨by rfl, ?_⟩) ?_ ?_
     rotate_left
     · intro w'
       first | (go_simp; with_reducible rfl) | (go_simp; unfold Instr.field; go_simp; rfl)
     rotate_left
     · simp only [Act.put, List.setIfInBounds_toArray, List.set_cons_zero, List.set_cons_succ, i64_w, i32_w]
       rfl
     refine pz (a' := ?_) 17 26 ?_ (bz 36 262143) rfl rfl HT_ (Or.inl ⟨by rfl, ?_⟩) ?_ ?_
     rotate_left
     · intro w'
       first | (go_simp; with_reducible rfl) | (go_simp; unfold Instr.field; go_simp; rfl)
     rotate_left
     · simp only [Act.put, List.setIfInBounds_toArray, List.set_cons_zero, List.set_cons_succ, i64_w, i32_w]
       rfl
     refine pz (a' := ?_) 18 27 ?_ (bz 36 524287) rfl rfl HT_ (Or.inl ⟨by rfl, ?_⟩) ?_ ?_
     rotate_left
     · intro w'
       first | (go_simp; with_reducible rfl) | (go_simp; unfold Instr.field; go_simp; rfl)
     rotate_left
     · simp only [Act.put, List.setIfInBounds_toArray, List.set_cons_zero, List.set_cons_succ, i64_w, i32_w]
       rfl
     refine pz (a' := ?_) 19 28 undef (bz 36 1048575) rfl rfl HT_ (Or.inr ⟨by rfl, rfl⟩) ?_ ?_
     rotate_left
     · simp only [Act.put, List.setIfInBounds_toArray, List.set_cons_zero, List.set_cons_succ, i64_w, i32_w]
       rfl
     refine pz (a' := ?_) 20 29 undef (bz 36 2097151) rfl rfl HT_ (Or.inr ⟨by rfl, rfl⟩) ?_ ?_
     rotate_left
     · simp only [Act.put, List.setIfInBounds_toArray, List.set_cons_zero, List.set_cons_succ, i64_w, i32_w]
       rfl
     refine pz (a' := ?_) 21 30 undef (bz 36 4194303) rfl rfl HT_ (Or.inr ⟨by rfl, rfl⟩) ?_ ?_
     rotate_left
     · simp only [Act.put, List.setIfInBounds_toArray, List.set_cons_zero, List.set_cons_succ, i64_w, i32_w]
       rfl
     refine pz (a' := ?_) 22 31 undef (bz 36 8388607) rfl rfl HT_ (Or.inr ⟨by rfl, rfl⟩) ?_ ?_
     rotate_left
     · simp only [Act.put, List.setIfInBounds_toArray, List.set_cons_zero, List.set_cons_succ, i64_w, i32_w]
       rfl
     refine pz (a' := ?_) 23 32 undef (bz 36 16777215) rfl rfl HT_ (Or.inr ⟨by rfl, rfl⟩) ?_ ?_
     rotate_left
     · simp only [Act.put, List.setIfInBounds_toArray, List.set_cons_zero, List.set_cons_succ, i64_w, i32_w]
       rfl
     refine pz (a' := ?_) 24 33 undef (bz 36 33554431) rfl rfl HT_ (Or.inr ⟨by rfl, rfl⟩) ?_ ?_
     rotate_left
     · simp only [Act.put, List.setIfInBounds_toArray, List.set_cons_zero, List.set_cons_succ, i64_w, i32_w]
       rfl
     refine pz (a' := ?_) 25 34 ?_ (bz 36 67108863) rfl rfl HT_ (Or.inl ⟨by rfl, ?_⟩) ?_ ?_
     rotate_left
     · intro w'
       first | (go_simp; with_reducible rfl) | (go_simp; unfold Instr.field; go_simp; rfl)
     rotate_left
     · simp only [Act.put, List.setIfInBounds_toArray, List.set_cons_zero, List.set_cons_succ, i64_w, i32_w]
       rfl
     refine pz (a' := ?_) 26 35 ?_ (bz 36 134217727) rfl rfl HT_ (Or.inl ⟨by rfl, ?_⟩) ?_ ?_
     rotate_left
     · intro w'
       first | (go_simp; with_reducible rfl) | (go_simp; unfold Instr.field; go_simp; rfl)
     rotate_left
     · simp only [Act.put, List.setIfInBounds_toArray, List.set_cons_zero, List.set_cons_succ, i64_w, i32_w]
       rfl
     refine pz (a' := ?_) 27 36 undef (bz 36 268435455) rfl rfl HT_ (Or.inr ⟨by rfl, rfl⟩) ?_ ?_
     rotate_left
     · simp only [Act.put, List.setIfInBounds_toArray, List.set_cons_zero, List.set_cons_succ, i64_w, i32_w]
       rfl
     refine pz (a' := ?_) 28 37 undef (bz 36 536870911) rfl rfl HT_ (Or.inr ⟨by rfl, rfl⟩) ?_ ?_
     rotate_left
     · simp only [Act.put, List.setIfInBounds_toArray, List.set_cons_zero, List.set_cons_succ, i64_w, i32_w]
       rfl
     refine pz (a' := ?_) 29 38 undef (bz 36 1073741823) rfl rfl HT_ (Or.inr ⟨by rfl, rfl⟩) ?_ ?_
     rotate_left
     · simp only [Act.put, List.setIfInBounds_toArray, List.set_cons_zero, List.set_cons_succ, i64_w, i32_w]
       rfl
     refine pz (a' := ?_) 30 39 undef (bz 36 2147483647) rfl rfl HT_ (Or.inr ⟨by rfl, rfl⟩) ?_ ?_
     rotate_left
     · simp only [Act.put, List.setIfInBounds_toArray, List.set_cons_zero, List.set_cons_succ, i64_w, i32_w]
       rfl
     refine pz (a' := ?_) 31 40 undef (bz 36 4294967295) rfl rfl HT_ (Or.inr ⟨by rfl, rfl⟩) ?_ ?_
     rotate_left
     · simp only [Act.put, List.setIfInBounds_toArray, List.set_cons_zero, List.set_cons_succ, i64_w, i32_w]
       rfl
     refine pz (a' := ?_) 32 41 undef (bz 36 8589934591) rfl rfl HT_ (Or.inr ⟨by rfl, rfl⟩) ?_ ?_
     rotate_left
     · simp only [Act.put, List.setIfInBounds_toArray, List.set_cons_zero, List.set_cons_succ, i64_w, i32_w]
       rfl
     refine pz (a' := ?_) 33 42 undef (bz 36 17179869183) rfl rfl HT_ (Or.inr ⟨by rfl, rfl⟩) ?_ ?_
     rotate_left
     · simp only [Act.put, List.setIfInBounds_toArray, List.set_cons_zero, List.set_cons_succ, i64_w, i32_w]
       rfl
     refine pz (a' := ?_) 34 43 undef (bz 36 34359738367) rfl rfl HT_ (Or.inr ⟨by rfl, rfl⟩) ?_ ?_
     rotate_left
     · simp only [Act.put, List.setIfInBounds_toArray, List.set_cons_zero, List.set_cons_succ, i64_w, i32_w]
       rfl
     refine pz (a' := ?_) 35 44 ?_ (bz 36 68719476735) rfl rfl HT_ (Or.inl ⟨by rfl, ?_⟩) ?_ ?_
     rotate_left
     · intro w'
       first | (go_simp; with_reducible rfl) | (go_simp; unfold Instr.field; go_simp; rfl)
     rotate_left
     · simp only [Act.put, List.setIfInBounds_toArray, List.set_cons_zero, List.set_cons_succ, i64_w, i32_w]
       rfl
     refine done_ (done_of HT_.out (by kernel_rfl)) ?_
     try go_wp2
     go_meet
     case rel => exact ⟨_, (true), (by first | rfl | (simp; done) | (simp [*]; done)), H', ⟨by first | omega | exact Nat.le_refl _⟩, ⟨by (with_reducible repeat (first | apply Kd.V_alloc | apply Kd.V_drewN | apply Kd.V_drew)); exact Kd.V_mono HO0_0.out (fun _ hk => ⟨hk.1.1.1.1, ⟨hk.1.1.1.2, ⟨hk.1.1.2, hk.1.2⟩⟩⟩)⟩, ⟨by (with_reducible repeat (first | apply Kd.V_alloc | apply Kd.V_drewN | apply Kd.V_drew)); exact Kd.V_mono HO1_0.out (fun _ hk => ⟨hk.1.1.1.1, ⟨hk.1.1.1.2, ⟨hk.1.1.2, hk.1.2⟩⟩⟩)⟩, ⟨by (with_reducible repeat (first | refine blk_drewN ?_ _ | refine blk_drew ?_ | refine blk_alloc ?_ _)); exact BK488.out⟩, ⟨by (with_reducible repeat (first | refine blk_drewN ?_ _ | refine blk_drew ?_ | refine blk_alloc ?_ _)); exact BK489.out⟩, ⟨by (with_reducible repeat (first | refine blk_drewN ?_ _ | refine blk_drew ?_ | refine blk_alloc ?_ _)); exact BK490.out⟩, ⟨hq3 HB GE488 GE489 GE490⟩⟩
   rw [if_neg c11] at H
   have c11b0 : ((rd l1_0 0) == 1) = false := beq_eq_false_iff_ne.mpr c11
   have c11b1 : ((rd l1_0 0) != 1) = true := bne_iff_ne.mpr c11
   by_cases c17 : (Int.tmod (rd l1_0 0) 2) = 0
   · rw [if_pos c17] at H
     have c17b0 : ((Int.tmod (rd l1_0 0) 2) == 0) = true := beq_iff_eq.mpr c17
     have c17b1 : ((Int.tmod (rd l1_0 0) 2) != 0) = false := bne_eq_false_iff_eq.mpr c17
     clear c17
     have H' := Aside0.mk H
     clear H
     try go_wp2
     replace HO0_0 := Aside0.mk (Kd.V_drew HO0_0.out); replace HO1_0 := Aside0.mk (Kd.V_drew HO1_0.out); replace BK488 := Aside0.mk (blk_drew BK488.out); replace BK489 := Aside0.mk (blk_drew BK489.out); replace BK490 := Aside0.mk (blk_drew BK490.out); replace HB := Aside0.mk (below_drew1 HB.out)
     have p495 : 0 ≤ (0 : Int) := (by omega)
     have q495 : 0 < (l1_0.length : Int) := of_decide_eq_true (by first | (with_reducible assumption) | assumption)
     obtain ⟨ad495, e495, hx495_0⟩ := Kd.at_int (Kd.V_reads' HO1_0.out).2.2 0 p495 q495
     cases e495
     have qi495 : (0 < l1_0.length) = True := eq_true (by omega)
     (try rw [show ((0 : Int)).toNat = 0 from rfl] at hx495_0)
     (try rw [Addr.add_zero'] at hx495_0)
     replace p495 := eq_true p495; replace q495 := eq_true q495
     have p496 : 0 ≤ (0 : Int) := (by omega)
     have q496 : 0 < (l1_0.length : Int) := of_decide_eq_true (by first | (with_reducible assumption) | assumption)
     obtain ⟨ad496, e496, hx496_0⟩ := Kd.at_int (Kd.V_reads' HO1_0.out).2.2 0 p496 q496; obtain rfl : ad495 = ad496 := (by injection e496)
     have qi496 : (0 < l1_0.length) = True := eq_true (by omega)
     (try rw [show ((0 : Int)).toNat = 0 from rfl] at hx496_0)
     (try rw [Addr.add_zero'] at hx496_0)
     replace p496 := eq_true p496; replace q496 := eq_true q496
     refine start_ (n := 36) (S := fun w' => w'.cell? ⟨gb488, 0, none⟩ = some (.slice A0_0 l0_0.length c0_0) ∧ w'.cell? ⟨gb489, 0, none⟩ = some (.slice (some ad495) l1_0.length c1_0) ∧ w'.cell? ad495 = some (.int .i64 (rd l1_0 0)) ∧ w'.cell? ad495 = some (.int .i64 (rd l1_0 0))) (ds := []) #[false, false, false, false, false, false, false, false, false, false, false, false, false, false, false, false, false, false, false, false, false, false, false, false, false, false, false, false, false, false, false, false, false, false, false, false] (by kernel_rfl) rfl rfl ⟨(blk_cell BK488.out 0).trans rfl, (blk_cell BK489.out 0).trans rfl, hx495_0, hx496_0⟩ (fun hHeld => ?_); refine with_tabW impl_ReduceBig.tab1 impl_ReduceBig.bits1 (fun HT_ HW_ => ?_)
     generalize w6.drew = w18 at HO0_0 HO1_0 BK488 BK489 BK490 HB hx495_0 hx496_0 hHeld ⊢
     refine take_ (i := 0) (N := some 9) (v := ?_) (a' := ?_) (bz 36 1) rfl rfl (take_ofW HT_.out HW_.out (by kernel_rfl)) (fun _ _ _ h => h) (Or.inl ⟨by rfl, ?_⟩) hHeld ?_ ?_
     rotate_left
     · rintro w' ⟨s0, s1, s2, s3⟩
       go_simp
       with_reducible rfl
     rotate_left
     · simp only [Act.put, List.setIfInBounds_toArray, List.set_cons_zero, List.set_cons_succ, i64_w, i32_w]
       rfl
     refine take_ (i := 1) (N := some 10) (v := ?_) (a' := ?_) (bz 36 3) rfl rfl (take_ofW HT_.out HW_.out (by kernel_rfl)) (fun _ _ _ h => h) (Or.inl ⟨by rfl, ?_⟩) hHeld ?_ ?_
     rotate_left
     · rintro w' ⟨s0, s1, s2, s3⟩
       go_simp
       with_reducible rfl
     rotate_left
     · simp only [Act.put, List.setIfInBounds_toArray, List.set_cons_zero, List.set_cons_succ, i64_w, i32_w]
       rfl
     refine one_ (i := 2) (N := some 11) (bz 36 7) rfl rfl (one_of HT_.out (by kernel_rfl)) (by decide) (fun K hK => ?_)
     refine Kd.N_lit_step k25 _ 25 ?hg (N' := 11) ?hd (xs := ([(⟨l0_0⟩ : S25), (⟨l1_0⟩ : S25)] : List (S25))) (inner := [.slice A0_0 l0_0.length c0_0, .slice (some ad495) l1_0.length c1_0]) (ok := (fun k_ => ((P0_0_ k_ ∨ P1_0_ k_) ∨ w.heap.size ≤ k_) ∧ k_ ≠ gb488 ∧ k_ ≠ gb489 ∧ k_ ≠ gb490)) (okp := (fun k_ => ((P0_0_ k_ ∨ P1_0_ k_) ∨ w.heap.size ≤ k_) ∧ k_ ≠ gb488 ∧ k_ ≠ gb489 ∧ k_ ≠ gb490)) ?hr ?hp (fun _ hk => hk) ((show ∀ k_, w18.heap.size ≤ k_ → (fun k_ => ((P0_0_ k_ ∨ P1_0_ k_) ∨ w.heap.size ≤ k_) ∧ k_ ≠ gb488 ∧ k_ ≠ gb489 ∧ k_ ≠ gb490) k_ from fun k_ hk => ⟨(.inr (Nat.le_trans (below_size (hq3 HB GE488 GE489 GE490)) hk)), Kd.freshB (g := gb488) (o := .cells #[.slice A0_0 l0_0.length c0_0] 25 (0, 0)) (bq BK488) k_ hk, Kd.freshB (g := gb489) (o := .cells #[.slice (some ad495) l1_0.length c1_0] 25 (0, 0)) (bq BK489) k_ hk, Kd.freshB (g := gb490) (o := .cells #[.slice none 0 0] 25 (0, 0)) (bq BK490) k_ hk⟩) _ (Nat.le_refl _)) (Below.refl _ _) (Nat.le_refl _) (by simp) ?_; (case hd => rfl); (case hg => rfl); (case hr => first | (go_simp; done) | (go_simp; rfl)); (case hp => exact (Reps.one (show Kd.FK k25 _ _ (⟨l0_0⟩ : S25) [.slice A0_0 l0_0.length c0_0] from (k25_mkF _ _ (⟨l0_0⟩ : S25) (Kd.V_reads' (Kd.V_mono (ok' := (fun k_ => ((P0_0_ k_ ∨ P1_0_ k_) ∨ w.heap.size ≤ k_) ∧ k_ ≠ gb488 ∧ k_ ≠ gb489 ∧ k_ ≠ gb490)) (HO0_0.out) (fun k_ hk => ⟨hk.1.1.1, ⟨hk.1.1.2, ⟨hk.1.2, hk.2⟩⟩⟩))).2.1 (Kd.V_F (Kd.V_mono (ok' := (fun k_ => ((P0_0_ k_ ∨ P1_0_ k_) ∨ w.heap.size ≤ k_) ∧ k_ ≠ gb488 ∧ k_ ≠ gb489 ∧ k_ ≠ gb490)) (HO0_0.out) (fun k_ hk => ⟨hk.1.1.1, ⟨hk.1.1.2, ⟨hk.1.2, hk.2⟩⟩⟩))))) (Reps.one (show Kd.FK k25 _ _ (⟨l1_0⟩ : S25) [.slice (some ad495) l1_0.length c1_0] from (k25_mkF _ _ (⟨l1_0⟩ : S25) (Kd.V_reads' (Kd.V_mono (ok' := (fun k_ => ((P0_0_ k_ ∨ P1_0_ k_) ∨ w.heap.size ≤ k_) ∧ k_ ≠ gb488 ∧ k_ ≠ gb489 ∧ k_ ≠ gb490)) (HO1_0.out) (fun k_ hk => ⟨hk.1.1.1, ⟨hk.1.1.2, ⟨hk.1.2, hk.2⟩⟩⟩))).2.1 (Kd.V_F (Kd.V_mono (ok' := (fun k_ => ((P0_0_ k_ ∨ P1_0_ k_) ∨ w.heap.size ≤ k_) ∧ k_ ≠ gb488 ∧ k_ ≠ gb489 ∧ k_ ≠ gb490)) (HO1_0.out) (fun k_ hk => ⟨hk.1.1.1, ⟨hk.1.1.2, ⟨hk.1.2, hk.2⟩⟩⟩))))) (Reps.none _ _))))
     intro v492 w19 ho20 hb hg_ hnew_
     have HS2_ := (hb.cell (World.block_lt_of_cell? _ _ (hHeld.2.2.1))).trans (hHeld.2.2.1); have HS3_ := (hb.cell (World.block_lt_of_cell? _ _ (hHeld.2.2.2))).trans (hHeld.2.2.2); clear hg_ hnew_
     (first | rw [← Ny491.out] at ho20 | (simp only [Int.reduceToNat] at ho20; rw [← Ny491.out] at ho20))
     replace HO0_0 := Aside0.mk (Kd.V_elder' (vq HO0_0) (Kd.N_base ho20) hb); replace HO1_0 := Aside0.mk (Kd.V_elder' (vq HO1_0) (Kd.N_base ho20) hb); have HO493 := Aside0.mk (Kd.N_lower ho20 (below_size (hq3 HB GE488 GE489 GE490))); replace BK488 := cB BK488 hb; replace BK489 := cB BK489 hb; replace BK490 := cB BK490 hb; replace HB := cs (hq3 HB GE488 GE489 GE490) hb; clear hb ho20; obtain ⟨Ao21, co21, eo21⟩ := Kd.N_slice HO493.out
     (first | subst eo21 | (injection eo21 with f1_ f2_ f3_; have f4_ := f1_.symm; have f5_ := f3_.symm; clear f1_ f2_ f3_; subst f4_; subst f5_))
     refine hK.out _ _ ⟨(blk_cell BK488.out 0).trans rfl, (blk_cell BK489.out 0).trans rfl, HS2_, HS3_⟩ (fun hHeld => ?_)
     clear hK K
     refine norm_ (a' := ?_) ?_ ?_
     rotate_left
     · show Act.put _ (some 11) _ = _
       simp only [Act.put, List.setIfInBounds_toArray, List.set_cons_zero, List.set_cons_succ, i64_w, i32_w]
       rfl
     refine one_ (i := 3) (N := some 12) (bz 36 15) rfl rfl (one_of HT_.out (by kernel_rfl)) (by decide) (fun K hK => ?_)
     refine goes_ Try.func74 (by kernel_rfl) rfl #[.slice Ao21 y491.length co21] (by rfl) rfl rfl (by (try simp only [List.map_toArray, List.map_cons, List.map_nil]); first | done | rfl | (simp only [List.length_drop, List.length_take]; rfl)) ?_
     with_reducible refine (impl_areBigs.calls k _ _ y491 true _ ?side1 ?side2 A7.out).mono ?_
     (case side1 => exact cq ((Kd.N_reads' HO493.out).2.2))
     (case side2 => exact (Kd.N_reads' HO493.out).2.1)
     rintro e w22 ⟨rfl, hb⟩
     have HS2_ := (hb.cell (World.block_lt_of_cell? _ _ (hHeld.2.2.1))).trans (hHeld.2.2.1); have HS3_ := (hb.cell (World.block_lt_of_cell? _ _ (hHeld.2.2.2))).trans (hHeld.2.2.2); refine ⟨_, rfl, ?_⟩; replace HO0_0 := Aside0.mk (Kd.V_below (vq HO0_0) hb); replace HO1_0 := Aside0.mk (Kd.V_below (vq HO1_0) hb); replace HO493 := Aside0.mk (Kd.N_below (by (with_reducible repeat (first | apply Kd.N_alloc | apply Kd.N_drewN | apply Kd.N_drew)); exact HO493.out) hb); replace BK488 := cB BK488 hb; replace BK489 := cB BK489 hb; replace BK490 := cB BK490 hb; replace HB := cs (hq3 HB GE488 GE489 GE490) hb; (try clear hb); (try clear hb2); (try clear hk); (try clear hi)
     refine hK.out _ _ ⟨(blk_cell BK488.out 0).trans rfl, (blk_cell BK489.out 0).trans rfl, HS2_, HS3_⟩ (fun hHeld => ?_)
     clear hK K
     refine norm_ (a' := ?_) ?_ ?_
     rotate_left
     · show Act.put _ (some 12) _ = _
       simp only [Act.put, List.setIfInBounds_toArray, List.set_cons_zero, List.set_cons_succ, i64_w, i32_w]
       rfl
     refine pz (a' := ?_) 4 13 ?_ (bz 36 31) rfl rfl HT_ (Or.inl ⟨by rfl, ?_⟩) ?_ ?_
     rotate_left
     · intro w'
       first | (go_simp; with_reducible rfl) | (go_simp; unfold Instr.field; go_simp; rfl)
     rotate_left
     · simp only [Act.put, List.setIfInBounds_toArray, List.set_cons_zero, List.set_cons_succ, i64_w, i32_w]
       rfl
     refine pz (a' := ?_) 5 14 ?_ (bz 36 63) rfl rfl HT_ (Or.inl ⟨by rfl, ?_⟩) ?_ ?_
     rotate_left
     · intro w'
       first | (go_simp; with_reducible rfl) | (go_simp; unfold Instr.field; go_simp; rfl)
     rotate_left
     · simp only [Act.put, List.setIfInBounds_toArray, List.set_cons_zero, List.set_cons_succ, i64_w, i32_w]
       rfl
     refine pz (a' := ?_) 6 15 ?_ (bz 36 127) rfl rfl HT_ (Or.inl ⟨by rfl, ?_⟩) ?_ ?_
     rotate_left
     · intro w'
       first | (go_simp; with_reducible rfl) | (go_simp; unfold Instr.field; go_simp; rfl)
     rotate_left
     · simp only [Act.put, List.setIfInBounds_toArray, List.set_cons_zero, List.set_cons_succ, i64_w, i32_w]
       rfl
     refine take_ (i := 7) (N := some 16) (v := ?_) (a' := ?_) (bz 36 255) rfl rfl (take_ofW HT_.out HW_.out (by kernel_rfl)) (fun _ _ _ h => h) (Or.inl ⟨by rfl, ?_⟩) hHeld ?_ ?_
     rotate_left
     · rintro w' ⟨s0, s1, s2, s3⟩
       go_simp
       with_reducible rfl
     rotate_left
     · simp only [Act.put, List.setIfInBounds_toArray, List.set_cons_zero, List.set_cons_succ, i64_w, i32_w]
       rfl
     refine pz (a' := ?_) 8 17 ?_ (bz 36 511) rfl rfl HT_ (Or.inl ⟨by rfl, ?_⟩) ?_ ?_
     rotate_left
     · intro w'
       first | (go_simp; with_reducible rfl) | (go_simp; unfold Instr.field; go_simp; rfl)
     rotate_left
     · simp only [Act.put, List.setIfInBounds_toArray, List.set_cons_zero, List.set_cons_succ, i64_w, i32_w]
       rfl
     refine pz (a' := ?_) 9 18 ?_ (bz 36 1023) rfl rfl HT_ (Or.inl ⟨by rfl, ?_⟩) ?_ ?_
     rotate_left
     · intro w'
       first | (go_simp; with_reducible rfl) | (go_simp; unfold Instr.field; go_simp; rfl)
     rotate_left
     · simp only [Act.put, List.setIfInBounds_toArray, List.set_cons_zero, List.set_cons_succ, i64_w, i32_w]
       rfl
     refine pz (a' := ?_) 10 19 ?_ (bz 36 2047) rfl rfl HT_ (Or.inl ⟨by rfl, ?_⟩) ?_ ?_
     rotate_left
     · intro w'
       first | (go_simp; with_reducible rfl) | (go_simp; unfold Instr.field; go_simp; rfl)
     rotate_left
     · simp only [Act.put, List.setIfInBounds_toArray, List.set_cons_zero, List.set_cons_succ, i64_w, i32_w]
       rfl
     refine pz (a' := ?_) 11 20 ?_ (bz 36 4095) rfl rfl HT_ (Or.inl ⟨by rfl, ?_⟩) ?_ ?_
     rotate_left
     · intro w'
       first | (go_simp; with_reducible rfl) | (go_simp; unfold Instr.field; go_simp; rfl)
     rotate_left
     · simp only [Act.put, List.setIfInBounds_toArray, List.set_cons_zero, List.set_cons_succ, i64_w, i32_w]
       rfl
     refine pz (a' := ?_) 12 21 ?_ (bz 36 8191) rfl rfl HT_ (Or.inl ⟨by rfl, ?_⟩) ?_ ?_
     rotate_left
     · intro w'
       first | (go_simp; with_reducible rfl) | (go_simp; unfold Instr.field; go_simp; rfl)
     rotate_left
     · simp only [Act.put, List.setIfInBounds_toArray, List.set_cons_zero, List.set_cons_succ, i64_w, i32_w]
       rfl
     refine take_ (i := 13) (N := some 22) (v := ?_) (a' := ?_) (bz 36 16383) rfl rfl (take_ofW HT_.out HW_.out (by kernel_rfl)) (fun _ _ _ h => h) (Or.inl ⟨by rfl, ?_⟩) hHeld ?_ ?_
     rotate_left
     · rintro w' ⟨s0, s1, s2, s3⟩
       go_simp
       with_reducible rfl
     rotate_left
     · simp only [Act.put, List.setIfInBounds_toArray, List.set_cons_zero, List.set_cons_succ, i64_w, i32_w]
       rfl
     refine pz (a' := ?_) 14 23 ?_ (bz 36 32767) rfl rfl HT_ (Or.inl ⟨by rfl, ?_⟩) ?_ ?_
     rotate_left
     · intro w'
       first | (go_simp; with_reducible rfl) | (go_simp; unfold Instr.field; go_simp; rfl)
     rotate_left
     · simp only [Act.put, List.setIfInBounds_toArray, List.set_cons_zero, List.set_cons_succ, i64_w, i32_w]
       rfl
     refine take_ (i := 15) (N := some 24) (v := ?_) (a' := ?_) (bz 36 65535) rfl rfl (take_ofW HT_.out HW_.out (by kernel_rfl)) (fun _ _ _ h => h) (Or.inl ⟨by rfl, ?_⟩) hHeld ?_ ?_
     rotate_left
     · rintro w' ⟨s0, s1, s2, s3⟩
       go_simp
       with_reducible rfl
     rotate_left
     · simp only [Act.put, List.setIfInBounds_toArray, List.set_cons_zero, List.set_cons_succ, i64_w, i32_w]
       rfl
     refine pz (a' := ?_) 16 25 ?_ (bz 36 131071) rfl rfl HT_ (Or.inl ⟨by rfl, ?_⟩) ?_ ?_
     rotate_left
     · intro w'
       first | (go_simp; with_reducible rfl) | (go_simp; unfold Instr.field; go_simp; rfl)
     rotate_left
     · simp only [Act.put, List.setIfInBounds_toArray, List.set_cons_zero, List.set_cons_succ, i64_w, i32_w]
       rfl
     refine pz (a' := ?_) 17 26 ?_ (bz 36 262143) rfl rfl HT_ (Or.inl ⟨by rfl, ?_⟩) ?_ ?_
     rotate_left
     · intro w'
       first | (go_simp; with_reducible rfl) | (go_simp; unfold Instr.field; go_simp; rfl)
     rotate_left
     · simp only [Act.put, List.setIfInBounds_toArray, List.set_cons_zero, List.set_cons_succ, i64_w, i32_w]
       rfl
     refine pz (a' := ?_) 18 27 ?_ (bz 36 524287) rfl rfl HT_ (Or.inl ⟨by rfl, ?_⟩) ?_ ?_
     rotate_left
     · intro w'
       first | (go_simp; with_reducible rfl) | (go_simp; unfold Instr.field; go_simp; rfl)
     rotate_left
     · simp only [Act.put, List.setIfInBounds_toArray, List.set_cons_zero, List.set_cons_succ, i64_w, i32_w]
       rfl
     refine pz (a' := ?_) 19 28 ?_ (bz 36 1048575) rfl rfl HT_ (Or.inl ⟨by rfl, ?_⟩) ?_ ?_
     rotate_left
     · intro w'
       first | (go_simp; with_reducible rfl) | (go_simp; unfold Instr.field; go_simp; rfl)
     rotate_left
     · simp only [Act.put, List.setIfInBounds_toArray, List.set_cons_zero, List.set_cons_succ, i64_w, i32_w]
       rfl
     refine take_ (i := 20) (N := some 29) (v := ?_) (a' := ?_) (bz 36 2097151) rfl rfl (take_ofW HT_.out HW_.out (by kernel_rfl)) (fun _ _ _ h => h) (Or.inl ⟨by rfl, ?_⟩) hHeld ?_ ?_
     rotate_left
     · rintro w' ⟨s0, s1, s2, s3⟩
       go_simp
       with_reducible rfl
     rotate_left
     · simp only [Act.put, List.setIfInBounds_toArray, List.set_cons_zero, List.set_cons_succ, i64_w, i32_w]
       rfl
     refine pz (a' := ?_) 21 30 ?_ (bz 36 4194303) rfl rfl HT_ (Or.inl ⟨by rfl, ?_⟩) ?_ ?_
     rotate_left
     · intro w'
       first | (go_simp; with_reducible rfl) | (go_simp; unfold Instr.field; go_simp; rfl)
     rotate_left
     · simp only [Act.put, List.setIfInBounds_toArray, List.set_cons_zero, List.set_cons_succ, i64_w, i32_w]
       rfl
     refine take_ (i := 22) (N := some 31) (v := ?_) (a' := ?_) (bz 36 8388607) rfl rfl (take_ofW HT_.out HW_.out (by kernel_rfl)) (fun _ _ _ h => h) (Or.inl ⟨by rfl, ?_⟩) hHeld ?_ ?_
     rotate_left
     · rintro w' ⟨s0, s1, s2, s3⟩
       go_simp
       with_reducible rfl
     rotate_left
     · simp only [Act.put, List.setIfInBounds_toArray, List.set_cons_zero, List.set_cons_succ, i64_w, i32_w]
       rfl
     refine pz (a' := ?_) 23 32 ?_ (bz 36 16777215) rfl rfl HT_ (Or.inl ⟨by rfl, ?_⟩) ?_ ?_
     rotate_left
     · intro w'
       first | (go_simp; with_reducible rfl) | (go_simp; unfold Instr.field; go_simp; rfl)
     rotate_left
     · simp only [Act.put, List.setIfInBounds_toArray, List.set_cons_zero, List.set_cons_succ, i64_w, i32_w]
       rfl
     refine pz (a' := ?_) 24 33 ?_ (bz 36 33554431) rfl rfl HT_ (Or.inl ⟨by rfl, ?_⟩) ?_ ?_
     rotate_left
     · intro w'
       first | (go_simp; with_reducible rfl) | (go_simp; unfold Instr.field; go_simp; rfl)
     rotate_left
     · simp only [Act.put, List.setIfInBounds_toArray, List.set_cons_zero, List.set_cons_succ, i64_w, i32_w]
       rfl
     refine pz (a' := ?_) 25 34 ?_ (bz 36 67108863) rfl rfl HT_ (Or.inl ⟨by rfl, ?_⟩) ?_ ?_
     rotate_left
     · intro w'
       first | (go_simp; with_reducible rfl) | (go_simp; unfold Instr.field; go_simp; rfl)
     rotate_left
     · simp only [Act.put, List.setIfInBounds_toArray, List.set_cons_zero, List.set_cons_succ, i64_w, i32_w]
       rfl
     refine pz (a' := ?_) 26 35 ?_ (bz 36 134217727) rfl rfl HT_ (Or.inl ⟨by rfl, ?_⟩) ?_ ?_
     rotate_left
     · intro w'
       first | (go_simp; with_reducible rfl) | (go_simp; unfold Instr.field; go_simp; rfl)
     rotate_left
     · simp only [Act.put, List.setIfInBounds_toArray, List.set_cons_zero, List.set_cons_succ, i64_w, i32_w]
       rfl
     refine pz (a' := ?_) 27 36 undef (bz 36 268435455) rfl rfl HT_ (Or.inr ⟨by rfl, rfl⟩) ?_ ?_
     rotate_left
     · simp only [Act.put, List.setIfInBounds_toArray, List.set_cons_zero, List.set_cons_succ, i64_w, i32_w]
       rfl
     refine pz (a' := ?_) 28 37 undef (bz 36 536870911) rfl rfl HT_ (Or.inr ⟨by rfl, rfl⟩) ?_ ?_
     rotate_left
     · simp only [Act.put, List.setIfInBounds_toArray, List.set_cons_zero, List.set_cons_succ, i64_w, i32_w]
       rfl
     refine pz (a' := ?_) 29 38 undef (bz 36 1073741823) rfl rfl HT_ (Or.inr ⟨by rfl, rfl⟩) ?_ ?_
     rotate_left
     · simp only [Act.put, List.setIfInBounds_toArray, List.set_cons_zero, List.set_cons_succ, i64_w, i32_w]
       rfl
     refine pz (a' := ?_) 30 39 undef (bz 36 2147483647) rfl rfl HT_ (Or.inr ⟨by rfl, rfl⟩) ?_ ?_
     rotate_left
     · simp only [Act.put, List.setIfInBounds_toArray, List.set_cons_zero, List.set_cons_succ, i64_w, i32_w]
       rfl
     refine pz (a' := ?_) 31 40 undef (bz 36 4294967295) rfl rfl HT_ (Or.inr ⟨by rfl, rfl⟩) ?_ ?_
     rotate_left
     · simp only [Act.put, List.setIfInBounds_toArray, List.set_cons_zero, List.set_cons_succ, i64_w, i32_w]
       rfl
     refine pz (a' := ?_) 32 41 undef (bz 36 8589934591) rfl rfl HT_ (Or.inr ⟨by rfl, rfl⟩) ?_ ?_
     rotate_left
     · simp only [Act.put, List.setIfInBounds_toArray, List.set_cons_zero, List.set_cons_succ, i64_w, i32_w]
       rfl
     refine pz (a' := ?_) 33 42 undef (bz 36 17179869183) rfl rfl HT_ (Or.inr ⟨by rfl, rfl⟩) ?_ ?_
     rotate_left
     · simp only [Act.put, List.setIfInBounds_toArray, List.set_cons_zero, List.set_cons_succ, i64_w, i32_w]
       rfl
     refine pz (a' := ?_) 34 43 undef (bz 36 34359738367) rfl rfl HT_ (Or.inr ⟨by rfl, rfl⟩) ?_ ?_
     rotate_left
     · simp only [Act.put, List.setIfInBounds_toArray, List.set_cons_zero, List.set_cons_succ, i64_w, i32_w]
       rfl
     refine pz (a' := ?_) 35 44 ?_ (bz 36 68719476735) rfl rfl HT_ (Or.inl ⟨by rfl, ?_⟩) ?_ ?_
     rotate_left
     · intro w'
       first | (go_simp; with_reducible rfl) | (go_simp; unfold Instr.field; go_simp; rfl)
     rotate_left
     · simp only [Act.put, List.setIfInBounds_toArray, List.set_cons_zero, List.set_cons_succ, i64_w, i32_w]
       rfl
     refine done_ (done_of HT_.out (by kernel_rfl)) ?_
     try go_wp2
     go_meet
     case rel => exact ⟨_, (true), (by first | rfl | (simp; done) | (simp [*]; done)), H', ⟨by first | omega | exact Nat.le_refl _⟩, ⟨by (with_reducible repeat (first | apply Kd.V_alloc | apply Kd.V_drewN | apply Kd.V_drew)); exact Kd.V_mono HO0_0.out (fun _ hk => ⟨hk.1.1.1.1, ⟨hk.1.1.1.2, ⟨hk.1.1.2, hk.1.2⟩⟩⟩)⟩, ⟨by (with_reducible repeat (first | apply Kd.V_alloc | apply Kd.V_drewN | apply Kd.V_drew)); exact Kd.V_mono HO1_0.out (fun _ hk => ⟨hk.1.1.1.1, ⟨hk.1.1.1.2, ⟨hk.1.1.2, hk.1.2⟩⟩⟩)⟩, ⟨by (with_reducible repeat (first | refine blk_drewN ?_ _ | refine blk_drew ?_ | refine blk_alloc ?_ _)); exact BK488.out⟩, ⟨by (with_reducible repeat (first | refine blk_drewN ?_ _ | refine blk_drew ?_ | refine blk_alloc ?_ _)); exact BK489.out⟩, ⟨by (with_reducible repeat (first | refine blk_drewN ?_ _ | refine blk_drew ?_ | refine blk_alloc ?_ _)); exact BK490.out⟩, ⟨hq3 HB GE488 GE489 GE490⟩⟩
   rw [if_neg c17] at H
   have c17b0 : ((Int.tmod (rd l1_0 0) 2) == 0) = false := beq_eq_false_iff_ne.mpr c17
   have c17b1 : ((Int.tmod (rd l1_0 0) 2) != 0) = true := bne_iff_ne.mpr c17
   obtain ⟨y497, hy497⟩ : ∃ y_ : List Int, y_ = (([0, 1] : List Int)) := ⟨_, rfl⟩
   replace H : ((impl_times.f k l1_0 y497).bind fun t500 => ((impl_compare.f k l0_0 t500).bind fun t503 => (impl_ReduceBig.j0 k (decide (t503 ≥ 0)) l0_0 l1_0))) = some (r1, r2) := by first | (rw [hy497]; with_reducible exact H) | (have H2_ := (Option.bind_some _ _).symm.trans H; rw [hy497]; with_reducible exact H2_) | (have H2_ := (Option.bind_some _ _).symm.trans H; with_reducible exact H2_) | with_reducible exact H | (rw [hy497]; exact H) | exact H
   have Ny497 := Aside0.mk hy497; clear hy497; replace H := Option.bind_eq_some_iff.mp H; obtain ⟨t500, A230, H⟩ := H; (try dsimp only at H); have A23 := Aside0.mk A230; clear A230; replace H := Option.bind_eq_some_iff.mp H; obtain ⟨t503, A240, H⟩ := H; (try dsimp only at H); have A24 := Aside0.mk A240; clear A240
   have H' := Aside0.mk H
   clear H
   try go_wp2
   replace HO0_0 := Aside0.mk (Kd.V_drew HO0_0.out); replace HO1_0 := Aside0.mk (Kd.V_drew HO1_0.out); replace BK488 := Aside0.mk (blk_drew BK488.out); replace BK489 := Aside0.mk (blk_drew BK489.out); replace BK490 := Aside0.mk (blk_drew BK490.out); replace HB := Aside0.mk (below_drew1 HB.out)
   have p495 : 0 ≤ (0 : Int) := (by omega)
   have q495 : 0 < (l1_0.length : Int) := of_decide_eq_true (by first | (with_reducible assumption) | assumption)
   obtain ⟨ad495, e495, hx495_0⟩ := Kd.at_int (Kd.V_reads' HO1_0.out).2.2 0 p495 q495
   cases e495
   have qi495 : (0 < l1_0.length) = True := eq_true (by omega)
   (try rw [show ((0 : Int)).toNat = 0 from rfl] at hx495_0)
   (try rw [Addr.add_zero'] at hx495_0)
   replace p495 := eq_true p495; replace q495 := eq_true q495
   have p496 : 0 ≤ (0 : Int) := (by omega)
   have q496 : 0 < (l1_0.length : Int) := of_decide_eq_true (by first | (with_reducible assumption) | assumption)
   obtain ⟨ad496, e496, hx496_0⟩ := Kd.at_int (Kd.V_reads' HO1_0.out).2.2 0 p496 q496; obtain rfl : ad495 = ad496 := (by injection e496)
   have qi496 : (0 < l1_0.length) = True := eq_true (by omega)
   (try rw [show ((0 : Int)).toNat = 0 from rfl] at hx496_0)
   (try rw [Addr.add_zero'] at hx496_0)
   replace p496 := eq_true p496; replace q496 := eq_true q496
   refine start_ (n := 36) (S := fun w' => w'.cell? ⟨gb488, 0, none⟩ = some (.slice A0_0 l0_0.length c0_0) ∧ w'.cell? ⟨gb489, 0, none⟩ = some (.slice (some ad495) l1_0.length c1_0) ∧ w'.cell? ad495 = some (.int .i64 (rd l1_0 0)) ∧ w'.cell? ad495 = some (.int .i64 (rd l1_0 0))) (ds := []) #[false, false, false, false, false, false, false, false, false, false, false, false, false, false, false, false, false, false, false, false, false, false, false, false, false, false, false, false, false, false, false, false, false, false, false, false] (by kernel_rfl) rfl rfl ⟨(blk_cell BK488.out 0).trans rfl, (blk_cell BK489.out 0).trans rfl, hx495_0, hx496_0⟩ (fun hHeld => ?_); refine with_tabW impl_ReduceBig.tab1 impl_ReduceBig.bits1 (fun HT_ HW_ => ?_)
   generalize w6.drew = w25 at HO0_0 HO1_0 BK488 BK489 BK490 HB hx495_0 hx496_0 hHeld ⊢
   refine take_ (i := 0) (N := some 9) (v := ?_) (a' := ?_) (bz 36 1) rfl rfl (take_ofW HT_.out HW_.out (by kernel_rfl)) (fun _ _ _ h => h) (Or.inl ⟨by rfl, ?_⟩) hHeld ?_ ?_
   rotate_left
   · rintro w' ⟨s0, s1, s2, s3⟩
     go_simp
     with_reducible rfl
   rotate_left
   · simp only [Act.put, List.setIfInBounds_toArray, List.set_cons_zero, List.set_cons_succ, i64_w, i32_w]
     rfl
   refine take_ (i := 1) (N := some 10) (v := ?_) (a' := ?_) (bz 36 3) rfl rfl (take_ofW HT_.out HW_.out (by kernel_rfl)) (fun _ _ _ h => h) (Or.inl ⟨by rfl, ?_⟩) hHeld ?_ ?_
   rotate_left
   · rintro w' ⟨s0, s1, s2, s3⟩
     go_simp
     with_reducible rfl
   rotate_left
   · simp only [Act.put, List.setIfInBounds_toArray, List.set_cons_zero, List.set_cons_succ, i64_w, i32_w]
     rfl
   refine one_ (i := 2) (N := some 11) (bz 36 7) rfl rfl (one_of HT_.out (by kernel_rfl)) (by decide) (fun K hK => ?_)
   refine Kd.N_lit_step k25 _ 25 ?hg (N' := 11) ?hd (xs := ([(⟨l0_0⟩ : S25), (⟨l1_0⟩ : S25)] : List (S25))) (inner := [.slice A0_0 l0_0.length c0_0, .slice (some ad495) l1_0.length c1_0]) (ok := (fun k_ => ((P0_0_ k_ ∨ P1_0_ k_) ∨ w.heap.size ≤ k_) ∧ k_ ≠ gb488 ∧ k_ ≠ gb489 ∧ k_ ≠ gb490)) (okp := (fun k_ => ((P0_0_ k_ ∨ P1_0_ k_) ∨ w.heap.size ≤ k_) ∧ k_ ≠ gb488 ∧ k_ ≠ gb489 ∧ k_ ≠ gb490)) ?hr ?hp (fun _ hk => hk) ((show ∀ k_, w25.heap.size ≤ k_ → (fun k_ => ((P0_0_ k_ ∨ P1_0_ k_) ∨ w.heap.size ≤ k_) ∧ k_ ≠ gb488 ∧ k_ ≠ gb489 ∧ k_ ≠ gb490) k_ from fun k_ hk => ⟨(.inr (Nat.le_trans (below_size (hq3 HB GE488 GE489 GE490)) hk)), Kd.freshB (g := gb488) (o := .cells #[.slice A0_0 l0_0.length c0_0] 25 (0, 0)) (bq BK488) k_ hk, Kd.freshB (g := gb489) (o := .cells #[.slice (some ad495) l1_0.length c1_0] 25 (0, 0)) (bq BK489) k_ hk, Kd.freshB (g := gb490) (o := .cells #[.slice none 0 0] 25 (0, 0)) (bq BK490) k_ hk⟩) _ (Nat.le_refl _)) (Below.refl _ _) (Nat.le_refl _) (by simp) ?_; (case hd => rfl); (case hg => rfl); (case hr => first | (go_simp; done) | (go_simp; rfl)); (case hp => exact (Reps.one (show Kd.FK k25 _ _ (⟨l0_0⟩ : S25) [.slice A0_0 l0_0.length c0_0] from (k25_mkF _ _ (⟨l0_0⟩ : S25) (Kd.V_reads' (Kd.V_mono (ok' := (fun k_ => ((P0_0_ k_ ∨ P1_0_ k_) ∨ w.heap.size ≤ k_) ∧ k_ ≠ gb488 ∧ k_ ≠ gb489 ∧ k_ ≠ gb490)) (HO0_0.out) (fun k_ hk => ⟨hk.1.1.1, ⟨hk.1.1.2, ⟨hk.1.2, hk.2⟩⟩⟩))).2.1 (Kd.V_F (Kd.V_mono (ok' := (fun k_ => ((P0_0_ k_ ∨ P1_0_ k_) ∨ w.heap.size ≤ k_) ∧ k_ ≠ gb488 ∧ k_ ≠ gb489 ∧ k_ ≠ gb490)) (HO0_0.out) (fun k_ hk => ⟨hk.1.1.1, ⟨hk.1.1.2, ⟨hk.1.2, hk.2⟩⟩⟩))))) (Reps.one (show Kd.FK k25 _ _ (⟨l1_0⟩ : S25) [.slice (some ad495) l1_0.length c1_0] from (k25_mkF _ _ (⟨l1_0⟩ : S25) (Kd.V_reads' (Kd.V_mono (ok' := (fun k_ => ((P0_0_ k_ ∨ P1_0_ k_) ∨ w.heap.size ≤ k_) ∧ k_ ≠ gb488 ∧ k_ ≠ gb489 ∧ k_ ≠ gb490)) (HO1_0.out) (fun k_ hk => ⟨hk.1.1.1, ⟨hk.1.1.2, ⟨hk.1.2, hk.2⟩⟩⟩))).2.1 (Kd.V_F (Kd.V_mono (ok' := (fun k_ => ((P0_0_ k_ ∨ P1_0_ k_) ∨ w.heap.size ≤ k_) ∧ k_ ≠ gb488 ∧ k_ ≠ gb489 ∧ k_ ≠ gb490)) (HO1_0.out) (fun k_ hk => ⟨hk.1.1.1, ⟨hk.1.1.2, ⟨hk.1.2, hk.2⟩⟩⟩))))) (Reps.none _ _))))
   intro v492 w26 ho27 hb hg_ hnew_
   have HS2_ := (hb.cell (World.block_lt_of_cell? _ _ (hHeld.2.2.1))).trans (hHeld.2.2.1); have HS3_ := (hb.cell (World.block_lt_of_cell? _ _ (hHeld.2.2.2))).trans (hHeld.2.2.2); clear hg_ hnew_
   (first | rw [← Ny491.out] at ho27 | (simp only [Int.reduceToNat] at ho27; rw [← Ny491.out] at ho27))
   replace HO0_0 := Aside0.mk (Kd.V_elder' (vq HO0_0) (Kd.N_base ho27) hb); replace HO1_0 := Aside0.mk (Kd.V_elder' (vq HO1_0) (Kd.N_base ho27) hb); have HO493 := Aside0.mk (Kd.N_lower ho27 (below_size (hq3 HB GE488 GE489 GE490))); replace BK488 := cB BK488 hb; replace BK489 := cB BK489 hb; replace BK490 := cB BK490 hb; replace HB := cs (hq3 HB GE488 GE489 GE490) hb; clear hb ho27; obtain ⟨Ao28, co28, eo28⟩ := Kd.N_slice HO493.out
   (first | subst eo28 | (injection eo28 with f1_ f2_ f3_; have f4_ := f1_.symm; have f5_ := f3_.symm; clear f1_ f2_ f3_; subst f4_; subst f5_))
   refine hK.out _ _ ⟨(blk_cell BK488.out 0).trans rfl, (blk_cell BK489.out 0).trans rfl, HS2_, HS3_⟩ (fun hHeld => ?_)
   clear hK K
   refine norm_ (a' := ?_) ?_ ?_
   rotate_left
   · show Act.put _ (some 11) _ = _
     simp only [Act.put, List.setIfInBounds_toArray, List.set_cons_zero, List.set_cons_succ, i64_w, i32_w]
     rfl
   refine one_ (i := 3) (N := some 12) (bz 36 15) rfl rfl (one_of HT_.out (by kernel_rfl)) (by decide) (fun K hK => ?_)
   refine goes_ Try.func74 (by kernel_rfl) rfl #[.slice Ao28 y491.length co28] (by rfl) rfl rfl (by (try simp only [List.map_toArray, List.map_cons, List.map_nil]); first | done | rfl | (simp only [List.length_drop, List.length_take]; rfl)) ?_
   with_reducible refine (impl_areBigs.calls k _ _ y491 true _ ?side1 ?side2 A7.out).mono ?_
   (case side1 => exact cq ((Kd.N_reads' HO493.out).2.2))
   (case side2 => exact (Kd.N_reads' HO493.out).2.1)
   rintro e w29 ⟨rfl, hb⟩
   have HS2_ := (hb.cell (World.block_lt_of_cell? _ _ (hHeld.2.2.1))).trans (hHeld.2.2.1); have HS3_ := (hb.cell (World.block_lt_of_cell? _ _ (hHeld.2.2.2))).trans (hHeld.2.2.2); refine ⟨_, rfl, ?_⟩; replace HO0_0 := Aside0.mk (Kd.V_below (vq HO0_0) hb); replace HO1_0 := Aside0.mk (Kd.V_below (vq HO1_0) hb); replace HO493 := Aside0.mk (Kd.N_below (by (with_reducible repeat (first | apply Kd.N_alloc | apply Kd.N_drewN | apply Kd.N_drew)); exact HO493.out) hb); replace BK488 := cB BK488 hb; replace BK489 := cB BK489 hb; replace BK490 := cB BK490 hb; replace HB := cs (hq3 HB GE488 GE489 GE490) hb; (try clear hb); (try clear hb2); (try clear hk); (try clear hi)
   refine hK.out _ _ ⟨(blk_cell BK488.out 0).trans rfl, (blk_cell BK489.out 0).trans rfl, HS2_, HS3_⟩ (fun hHeld => ?_)
   clear hK K
   refine norm_ (a' := ?_) ?_ ?_
   rotate_left
   · show Act.put _ (some 12) _ = _
     simp only [Act.put, List.setIfInBounds_toArray, List.set_cons_zero, List.set_cons_succ, i64_w, i32_w]
     rfl
   refine pz (a' := ?_) 4 13 ?_ (bz 36 31) rfl rfl HT_ (Or.inl ⟨by rfl, ?_⟩) ?_ ?_
   rotate_left
   · intro w'
     first | (go_simp; with_reducible rfl) | (go_simp; unfold Instr.field; go_simp; rfl)
   rotate_left
   · simp only [Act.put, List.setIfInBounds_toArray, List.set_cons_zero, List.set_cons_succ, i64_w, i32_w]
     rfl
   refine pz (a' := ?_) 5 14 ?_ (bz 36 63) rfl rfl HT_ (Or.inl ⟨by rfl, ?_⟩) ?_ ?_
   rotate_left
   · intro w'
     first | (go_simp; with_reducible rfl) | (go_simp; unfold Instr.field; go_simp; rfl)
   rotate_left
   · simp only [Act.put, List.setIfInBounds_toArray, List.set_cons_zero, List.set_cons_succ, i64_w, i32_w]
     rfl
   refine pz (a' := ?_) 6 15 ?_ (bz 36 127) rfl rfl HT_ (Or.inl ⟨by rfl, ?_⟩) ?_ ?_
   rotate_left
   · intro w'
     first | (go_simp; with_reducible rfl) | (go_simp; unfold Instr.field; go_simp; rfl)
   rotate_left
   · simp only [Act.put, List.setIfInBounds_toArray, List.set_cons_zero, List.set_cons_succ, i64_w, i32_w]
     rfl
   refine take_ (i := 7) (N := some 16) (v := ?_) (a' := ?_) (bz 36 255) rfl rfl (take_ofW HT_.out HW_.out (by kernel_rfl)) (fun _ _ _ h => h) (Or.inl ⟨by rfl, ?_⟩) hHeld ?_ ?_
   rotate_left
   · rintro w' ⟨s0, s1, s2, s3⟩
     go_simp
     with_reducible rfl
   rotate_left
   · simp only [Act.put, List.setIfInBounds_toArray, List.set_cons_zero, List.set_cons_succ, i64_w, i32_w]
     rfl
   refine pz (a' := ?_) 8 17 ?_ (bz 36 511) rfl rfl HT_ (Or.inl ⟨by rfl, ?_⟩) ?_ ?_
   rotate_left
   · intro w'
     first | (go_simp; with_reducible rfl) | (go_simp; unfold Instr.field; go_simp; rfl)
   rotate_left
   · simp only [Act.put, List.setIfInBounds_toArray, List.set_cons_zero, List.set_cons_succ, i64_w, i32_w]
     rfl
   refine pz (a' := ?_) 9 18 ?_ (bz 36 1023) rfl rfl HT_ (Or.inl ⟨by rfl, ?_⟩) ?_ ?_
   rotate_left
   · intro w'
     first | (go_simp; with_reducible rfl) | (go_simp; unfold Instr.field; go_simp; rfl)
   rotate_left
   · simp only [Act.put, List.setIfInBounds_toArray, List.set_cons_zero, List.set_cons_succ, i64_w, i32_w]
     rfl
   refine pz (a' := ?_) 10 19 ?_ (bz 36 2047) rfl rfl HT_ (Or.inl ⟨by rfl, ?_⟩) ?_ ?_
   rotate_left
   · intro w'
     first | (go_simp; with_reducible rfl) | (go_simp; unfold Instr.field; go_simp; rfl)
   rotate_left
   · simp only [Act.put, List.setIfInBounds_toArray, List.set_cons_zero, List.set_cons_succ, i64_w, i32_w]
     rfl
   refine pz (a' := ?_) 11 20 ?_ (bz 36 4095) rfl rfl HT_ (Or.inl ⟨by rfl, ?_⟩) ?_ ?_
   rotate_left
   · intro w'
     first | (go_simp; with_reducible rfl) | (go_simp; unfold Instr.field; go_simp; rfl)
   rotate_left
   · simp only [Act.put, List.setIfInBounds_toArray, List.set_cons_zero, List.set_cons_succ, i64_w, i32_w]
     rfl
   refine pz (a' := ?_) 12 21 ?_ (bz 36 8191) rfl rfl HT_ (Or.inl ⟨by rfl, ?_⟩) ?_ ?_
   rotate_left
   · intro w'
     first | (go_simp; with_reducible rfl) | (go_simp; unfold Instr.field; go_simp; rfl)
   rotate_left
   · simp only [Act.put, List.setIfInBounds_toArray, List.set_cons_zero, List.set_cons_succ, i64_w, i32_w]
     rfl
   refine take_ (i := 13) (N := some 22) (v := ?_) (a' := ?_) (bz 36 16383) rfl rfl (take_ofW HT_.out HW_.out (by kernel_rfl)) (fun _ _ _ h => h) (Or.inl ⟨by rfl, ?_⟩) hHeld ?_ ?_
   rotate_left
   · rintro w' ⟨s0, s1, s2, s3⟩
     go_simp
     with_reducible rfl
   rotate_left
   · simp only [Act.put, List.setIfInBounds_toArray, List.set_cons_zero, List.set_cons_succ, i64_w, i32_w]
     rfl
   refine pz (a' := ?_) 14 23 ?_ (bz 36 32767) rfl rfl HT_ (Or.inl ⟨by rfl, ?_⟩) ?_ ?_
   rotate_left
   · intro w'
     first | (go_simp; with_reducible rfl) | (go_simp; unfold Instr.field; go_simp; rfl)
   rotate_left
   · simp only [Act.put, List.setIfInBounds_toArray, List.set_cons_zero, List.set_cons_succ, i64_w, i32_w]
     rfl
   refine take_ (i := 15) (N := some 24) (v := ?_) (a' := ?_) (bz 36 65535) rfl rfl (take_ofW HT_.out HW_.out (by kernel_rfl)) (fun _ _ _ h => h) (Or.inl ⟨by rfl, ?_⟩) hHeld ?_ ?_
   rotate_left
   · rintro w' ⟨s0, s1, s2, s3⟩
     go_simp
     with_reducible rfl
   rotate_left
   · simp only [Act.put, List.setIfInBounds_toArray, List.set_cons_zero, List.set_cons_succ, i64_w, i32_w]
     rfl
   refine pz (a' := ?_) 16 25 ?_ (bz 36 131071) rfl rfl HT_ (Or.inl ⟨by rfl, ?_⟩) ?_ ?_
   rotate_left
   · intro w'
     first | (go_simp; with_reducible rfl) | (go_simp; unfold Instr.field; go_simp; rfl)
   rotate_left
   · simp only [Act.put, List.setIfInBounds_toArray, List.set_cons_zero, List.set_cons_succ, i64_w, i32_w]
     rfl
   refine pz (a' := ?_) 17 26 ?_ (bz 36 262143) rfl rfl HT_ (Or.inl ⟨by rfl, ?_⟩) ?_ ?_
   rotate_left
   · intro w'
     first | (go_simp; with_reducible rfl) | (go_simp; unfold Instr.field; go_simp; rfl)
   rotate_left
   · simp only [Act.put, List.setIfInBounds_toArray, List.set_cons_zero, List.set_cons_succ, i64_w, i32_w]
     rfl
   refine pz (a' := ?_) 18 27 ?_ (bz 36 524287) rfl rfl HT_ (Or.inl ⟨by rfl, ?_⟩) ?_ ?_
   rotate_left
   · intro w'
     first | (go_simp; with_reducible rfl) | (go_simp; unfold Instr.field; go_simp; rfl)
   rotate_left
   · simp only [Act.put, List.setIfInBounds_toArray, List.set_cons_zero, List.set_cons_succ, i64_w, i32_w]
     rfl
   refine pz (a' := ?_) 19 28 ?_ (bz 36 1048575) rfl rfl HT_ (Or.inl ⟨by rfl, ?_⟩) ?_ ?_
   rotate_left
   · intro w'
     first | (go_simp; with_reducible rfl) | (go_simp; unfold Instr.field; go_simp; rfl)
   rotate_left
   · simp only [Act.put, List.setIfInBounds_toArray, List.set_cons_zero, List.set_cons_succ, i64_w, i32_w]
     rfl
   refine take_ (i := 20) (N := some 29) (v := ?_) (a' := ?_) (bz 36 2097151) rfl rfl (take_ofW HT_.out HW_.out (by kernel_rfl)) (fun _ _ _ h => h) (Or.inl ⟨by rfl, ?_⟩) hHeld ?_ ?_
   rotate_left
   · rintro w' ⟨s0, s1, s2, s3⟩
     go_simp
     with_reducible rfl
   rotate_left
   · simp only [Act.put, List.setIfInBounds_toArray, List.set_cons_zero, List.set_cons_succ, i64_w, i32_w]
     rfl
   refine pz (a' := ?_) 21 30 ?_ (bz 36 4194303) rfl rfl HT_ (Or.inl ⟨by rfl, ?_⟩) ?_ ?_
   rotate_left
   · intro w'
     first | (go_simp; with_reducible rfl) | (go_simp; unfold Instr.field; go_simp; rfl)
   rotate_left
   · simp only [Act.put, List.setIfInBounds_toArray, List.set_cons_zero, List.set_cons_succ, i64_w, i32_w]
     rfl
   refine take_ (i := 22) (N := some 31) (v := ?_) (a' := ?_) (bz 36 8388607) rfl rfl (take_ofW HT_.out HW_.out (by kernel_rfl)) (fun _ _ _ h => h) (Or.inl ⟨by rfl, ?_⟩) hHeld ?_ ?_
   rotate_left
   · rintro w' ⟨s0, s1, s2, s3⟩
     go_simp
     with_reducible rfl
   rotate_left
   · simp only [Act.put, List.setIfInBounds_toArray, List.set_cons_zero, List.set_cons_succ, i64_w, i32_w]
     rfl
   refine pz (a' := ?_) 23 32 ?_ (bz 36 16777215) rfl rfl HT_ (Or.inl ⟨by rfl, ?_⟩) ?_ ?_
   rotate_left
   · intro w'
     first | (go_simp; with_reducible rfl) | (go_simp; unfold Instr.field; go_simp; rfl)
   rotate_left
   · simp only [Act.put, List.setIfInBounds_toArray, List.set_cons_zero, List.set_cons_succ, i64_w, i32_w]
     rfl
   refine pz (a' := ?_) 24 33 ?_ (bz 36 33554431) rfl rfl HT_ (Or.inl ⟨by rfl, ?_⟩) ?_ ?_
   rotate_left
   · intro w'
     first | (go_simp; with_reducible rfl) | (go_simp; unfold Instr.field; go_simp; rfl)
   rotate_left
   · simp only [Act.put, List.setIfInBounds_toArray, List.set_cons_zero, List.set_cons_succ, i64_w, i32_w]
     rfl
   refine pz (a' := ?_) 25 34 ?_ (bz 36 67108863) rfl rfl HT_ (Or.inl ⟨by rfl, ?_⟩) ?_ ?_
   rotate_left
   · intro w'
     first | (go_simp; with_reducible rfl) | (go_simp; unfold Instr.field; go_simp; rfl)
   rotate_left
   · simp only [Act.put, List.setIfInBounds_toArray, List.set_cons_zero, List.set_cons_succ, i64_w, i32_w]
     rfl
   refine pz (a' := ?_) 26 35 ?_ (bz 36 134217727) rfl rfl HT_ (Or.inl ⟨by rfl, ?_⟩) ?_ ?_
   rotate_left
   · intro w'
     first | (go_simp; with_reducible rfl) | (go_simp; unfold Instr.field; go_simp; rfl)
   rotate_left
   · simp only [Act.put, List.setIfInBounds_toArray, List.set_cons_zero, List.set_cons_succ, i64_w, i32_w]
     rfl
   refine pz (a' := ?_) 27 36 ?_ (bz 36 268435455) rfl rfl HT_ (Or.inl ⟨by rfl, ?_⟩) ?_ ?_
   rotate_left
   · intro w'
     first | (go_simp; with_reducible rfl) | (go_simp; unfold Instr.field; go_simp; rfl)
   rotate_left
   · simp only [Act.put, List.setIfInBounds_toArray, List.set_cons_zero, List.set_cons_succ, i64_w, i32_w]
     rfl
   refine pz (a' := ?_) 29 38 ?_ (bz 36 805306367) rfl rfl HT_ (Or.inl ⟨by rfl, ?_⟩) ?_ ?_
   rotate_left
   · intro w'
     first | (go_simp; with_reducible rfl) | (go_simp; unfold Instr.field; go_simp; rfl)
   rotate_left
   · simp only [Act.put, List.setIfInBounds_toArray, List.set_cons_zero, List.set_cons_succ, i64_w, i32_w]
     rfl
   refine take_ (i := 28) (N := some 37) (v := ?_) (a' := ?_) (bz 36 1073741823) rfl rfl (take_ofW HT_.out HW_.out (by kernel_rfl)) (fun _ _ _ h => h) (Or.inl ⟨by rfl, ?_⟩) hHeld ?_ ?_
   rotate_left
   · rintro w' ⟨s0, s1, s2, s3⟩
     go_simp
     with_reducible rfl
   rotate_left
   · simp only [Act.put, List.setIfInBounds_toArray, List.set_cons_zero, List.set_cons_succ, i64_w, i32_w]
     rfl
   refine take_ (i := 30) (N := some 39) (v := ?_) (a' := ?_) (bz 36 2147483647) rfl rfl (take_ofW HT_.out HW_.out (by kernel_rfl)) (fun _ _ _ h => h) (Or.inl ⟨by rfl, ?_⟩) hHeld ?_ ?_
   rotate_left
   · rintro w' ⟨s0, s1, s2, s3⟩
     go_simp
     with_reducible rfl
   rotate_left
   · simp only [Act.put, List.setIfInBounds_toArray, List.set_cons_zero, List.set_cons_succ, i64_w, i32_w]
     rfl
   refine one_ (i := 31) (N := some 40) (bz 36 4294967295) rfl rfl (one_of HT_.out (by kernel_rfl)) (by decide) (fun K hK => ?_)
   refine Kd.R_lit_step (Kd.int .i64) _ 3 ?hg (N := 40) ?hd (xs := ([0, 1] : List Int)) (inner := [.int .i64 0, .int .i64 1]) (ok := fun _ => True) (okp := fun _ => True) ?hr ?hp (fun _ hk => hk) trivial (Below.refl _ _) (Nat.le_refl _) (by simp) ?_; (case hd => rfl); (case hg => rfl); (case hr => first | (go_simp; done) | (go_simp; rfl)); (case hp => exact (Reps.one (show Kd.M (Kd.int .i64) _ _ _ 0 [.int .i64 0] from rfl) (Reps.one (show Kd.M (Kd.int .i64) _ _ _ 1 [.int .i64 1] from rfl) (Reps.none _ _))))
   intro v498 w30 ho31 hb hg_ hnew_
   have HS2_ := (hb.cell (World.block_lt_of_cell? _ _ (hHeld.2.2.1))).trans (hHeld.2.2.1); have HS3_ := (hb.cell (World.block_lt_of_cell? _ _ (hHeld.2.2.2))).trans (hHeld.2.2.2); clear hg_ hnew_
   (first | rw [← Ny497.out] at ho31 | (simp only [Int.reduceToNat] at ho31; rw [← Ny497.out] at ho31))
   replace HO0_0 := Aside0.mk (vb HO0_0 ho31 hb); replace HO1_0 := Aside0.mk (vb HO1_0 ho31 hb); replace HO493 := Aside0.mk (Kd.N_elder' (by (with_reducible repeat (first | apply Kd.N_alloc | apply Kd.N_drewN | apply Kd.N_drew)); exact HO493.out) (Kd.R_base ho31) hb)
   have HO499 := Aside0.mk (Kd.R_lower (Kd.R_newM (M := fun k_ => (w.heap.size ≤ k_)) ho31 (below_size (hq3 HB GE488 GE489 GE490)) (fun k_ h_ => h_)) (below_size (hq3 HB GE488 GE489 GE490)))
   replace BK488 := cB BK488 hb; replace BK489 := cB BK489 hb; replace BK490 := cB BK490 hb; replace HB := cs (hq3 HB GE488 GE489 GE490) hb; clear hb ho31; obtain ⟨Ao32, co32, eo32⟩ := Kd.R_slice HO499.out
   (first | subst eo32 | (injection eo32 with f1_ f2_ f3_; have f4_ := f1_.symm; have f5_ := f3_.symm; clear f1_ f2_ f3_; subst f4_; subst f5_))
   refine hK.out _ _ ⟨(blk_cell BK488.out 0).trans rfl, (blk_cell BK489.out 0).trans rfl, HS2_, HS3_⟩ (fun hHeld => ?_)
   clear hK K
   refine norm_ (a' := ?_) ?_ ?_
   rotate_left
   · show Act.put _ (some 40) _ = _
     simp only [Act.put, List.setIfInBounds_toArray, List.set_cons_zero, List.set_cons_succ, i64_w, i32_w]
     rfl
   refine one_ (i := 32) (N := some 41) (bz 36 8589934591) rfl rfl (one_of HT_.out (by kernel_rfl)) (by decide) (fun K hK => ?_)
   refine goes_ Try.func87 (by kernel_rfl) rfl #[.slice (some ad495) l1_0.length c1_0, .slice Ao32 y497.length co32] (by rfl) rfl rfl (by (try simp only [List.map_toArray, List.map_cons, List.map_nil]); first | done | rfl | (simp only [List.length_drop, List.length_take]; rfl)) ?_
   with_reducible refine (impl_times.calls k _ _ l1_0 _ _ y497 t500 _ ?side1 ?side2 ?side3 ?side4 A23.out).mono ?_
   (case side1 => exact cq ((Kd.V_reads' HO1_0.out).2.2))
   (case side2 => exact (Kd.V_reads' HO1_0.out).2.1)
   (case side3 => exact cq ((Kd.R_reads' HO499.out).2.2))
   (case side4 => exact (Kd.R_reads' HO499.out).2.1)
   rintro e w33 ⟨v501, rfl, ho0, hb⟩
   have HS2_ := (hb.cell (World.block_lt_of_cell? _ _ (hHeld.2.2.1))).trans (hHeld.2.2.1); have HS3_ := (hb.cell (World.block_lt_of_cell? _ _ (hHeld.2.2.2))).trans (hHeld.2.2.2); refine ⟨_, rfl, ?_⟩; replace HO0_0 := Aside0.mk (vb HO0_0 ho0 hb); replace HO1_0 := Aside0.mk (vb HO1_0 ho0 hb); replace HO493 := Aside0.mk (Kd.N_elder' (by (with_reducible repeat (first | apply Kd.N_alloc | apply Kd.N_drewN | apply Kd.N_drew)); exact HO493.out) (Kd.R_base ho0) hb); have n3_ := ce HO499 ho0 hb
   have HO502 := Aside0.mk (Kd.R_lower (Kd.R_new' (Kd.R_newM (M := fun k_ => (w.heap.size ≤ k_)) ho0 (below_size (hq3 HB GE488 GE489 GE490)) (fun k_ h_ => h_)) (ql HO499)) (below_size (hq3 HB GE488 GE489 GE490)))
   replace BK488 := cB BK488 hb; replace BK489 := cB BK489 hb; replace BK490 := cB BK490 hb; replace HB := cs (hq3 HB GE488 GE489 GE490) hb; replace HO499 := n3_; clear n3_; (try clear hb); (try clear hb2); (try clear hk); (try clear hi); (try clear ho0); obtain ⟨Ao34, co34, eo34⟩ := Kd.R_slice HO502.out
   (first | subst eo34 | (injection eo34 with f1_ f2_ f3_; have f4_ := f1_.symm; have f5_ := f3_.symm; clear f1_ f2_ f3_; subst f4_; subst f5_))
   refine hK.out _ _ ⟨(blk_cell BK488.out 0).trans rfl, (blk_cell BK489.out 0).trans rfl, HS2_, HS3_⟩ (fun hHeld => ?_)
   clear hK K
   refine norm_ (a' := ?_) ?_ ?_
   rotate_left
   · show Act.put _ (some 41) _ = _
     simp only [Act.put, List.setIfInBounds_toArray, List.set_cons_zero, List.set_cons_succ, i64_w, i32_w]
     rfl
   refine one_ (i := 33) (N := some 42) (bz 36 17179869183) rfl rfl (one_of HT_.out (by kernel_rfl)) (by decide) (fun K hK => ?_)
   refine goes_ Try.func85 (by kernel_rfl) rfl #[.slice A0_0 l0_0.length c0_0, .slice Ao34 t500.length co34] (by rfl) rfl rfl (by (try simp only [List.map_toArray, List.map_cons, List.map_nil]); first | done | rfl | (simp only [List.length_drop, List.length_take]; rfl)) ?_
   with_reducible refine (impl_compare.calls k _ _ l0_0 _ _ t500 t503 _ ?side1 ?side2 ?side3 ?side4 A24.out).mono ?_
   (case side1 => exact cq ((Kd.V_reads' HO0_0.out).2.2))
   (case side2 => exact (Kd.V_reads' HO0_0.out).2.1)
   (case side3 => exact cq ((Kd.R_reads' HO502.out).2.2))
   (case side4 => exact (Kd.R_reads' HO502.out).2.1)
   rintro e w' ⟨rfl, ⟨nd, rfl⟩⟩
   refine ⟨_, rfl, ?_⟩
   refine hK.out _ _ ⟨(blk_cell BK488.out 0).trans rfl, (blk_cell BK489.out 0).trans rfl, hHeld.2.2.1, hHeld.2.2.2⟩ (fun hHeld => ?_)
   clear hK K
   refine norm_ (a' := ?_) ?_ ?_
   rotate_left
   · show Act.put _ (some 42) _ = _
     simp only [Act.put, List.setIfInBounds_toArray, List.set_cons_zero, List.set_cons_succ, i64_w, i32_w]
     rfl
   refine pz (a' := ?_) 34 43 ?_ (bz 36 34359738367) rfl rfl HT_ (Or.inl ⟨by rfl, ?_⟩) ?_ ?_
   rotate_left
   · intro w'
     first | (go_simp; with_reducible rfl) | (go_simp; unfold Instr.field; go_simp; rfl)
   rotate_left
   · simp only [Act.put, List.setIfInBounds_toArray, List.set_cons_zero, List.set_cons_succ, i64_w, i32_w]
     rfl
   refine pz (a' := ?_) 35 44 ?_ (bz 36 68719476735) rfl rfl HT_ (Or.inl ⟨by rfl, ?_⟩) ?_ ?_
   rotate_left
   · intro w'
     first | (go_simp; with_reducible rfl) | (go_simp; unfold Instr.field; go_simp; rfl)
   rotate_left
   · simp only [Act.put, List.setIfInBounds_toArray, List.set_cons_zero, List.set_cons_succ, i64_w, i32_w]
     rfl
   refine done_ (done_of HT_.out (by kernel_rfl)) ?_
   try go_wp2
   go_meet
   case rel => exact ⟨_, (decide (t503 ≥ 0)), (by first | rfl | (simp; done) | (simp [*]; done)), H', ⟨by first | omega | exact Nat.le_refl _⟩, ⟨by (with_reducible repeat (first | apply Kd.V_alloc | apply Kd.V_drewN | apply Kd.V_drew)); exact Kd.V_mono HO0_0.out (fun _ hk => ⟨hk.1.1.1.1.1.1, ⟨hk.1.1.1.1.1.2, ⟨hk.1.1.1.1.2, hk.1.1.1.2⟩⟩⟩)⟩, ⟨by (with_reducible repeat (first | apply Kd.V_alloc | apply Kd.V_drewN | apply Kd.V_drew)); exact Kd.V_mono HO1_0.out (fun _ hk => ⟨hk.1.1.1.1.1.1, ⟨hk.1.1.1.1.1.2, ⟨hk.1.1.1.1.2, hk.1.1.1.2⟩⟩⟩)⟩, ⟨by (with_reducible repeat (first | refine blk_drewN ?_ _ | refine blk_drew ?_ | refine blk_alloc ?_ _)); exact BK488.out⟩, ⟨by (with_reducible repeat (first | refine blk_drewN ?_ _ | refine blk_drew ?_ | refine blk_alloc ?_ _)); exact BK489.out⟩, ⟨by (with_reducible repeat (first | refine blk_drewN ?_ _ | refine blk_drew ?_ | refine blk_alloc ?_ _)); exact BK490.out⟩, ⟨hq3 HB GE488 GE489 GE490⟩⟩
 clear HC3; (try clear c1); (try clear p2); (try clear c7); (try clear c8); (try clear c9); (try clear c9b0); (try clear c9b1); (try clear c10); obtain ⟨kq, x44_2, rfl, HA, HJ2, HO_489000, HO_490000, BK488, BK489, BK490, HB⟩ := hcut; obtain _ | kj2 := kq
 · exact absurd HA.out (by simp [impl_ReduceBig.j0])
 have H := HA.out; clear HA
 simp only [impl_ReduceBig.j0] at H
 by_cases c45 : x44_2 = true
 · subst c45
   have H1 : (some (([] : List Int), false)) = some (r1, r2) := by rw [if_pos rfl] at H; exact H
   clear H; have H := H1; clear H1
   simp only [Option.some.injEq, Prod.mk.injEq] at H
   obtain ⟨rfl, rfl⟩ := H; have hnb46 := NB490_488.out; have hnc46 := NB488_490.out; have hnb47 := NB490_489.out; have hnc47 := NB489_490.out
   have hcz48_0 : wc.cell? ⟨gb490, 0, none⟩ = some (.slice none 0 0) := (blk_cell BK490.out 0).trans rfl
   have hfz48_0 := blk_frozen BK490.out 0
   go_wp2
   refine bodyPost_ret (results_ct rfl _ _ gb490 25 #[.slice none 0 0] (0, 0) _ rfl (by (with_reducible repeat (first | refine blk_drewN ?_ _ | refine blk_drew ?_ | refine blk_alloc ?_ _)); refine blk_put (cs := #[.slice none 0 0]) ?_ 0 _ rfl; (with_reducible repeat (first | refine blk_drewN ?_ _ | refine blk_drew ?_ | refine blk_alloc ?_ _)); exact BK490.out) Try.underlying25 rfl (by kernel_rfl)) rfl ?_
   exact ⟨_, by first | rfl | (simp <;> rfl) | (simp [*] <;> rfl), by first | exact Kd.R_nil _ _ _ _ _ | exact Kd.R_nil _ _ _ 0 _ | exact Kd.N_nil _ _ _ _ _ | exact Kd.V_nil _ _ _ _ _ | exact Kd.Q_nil _ _ _ _ _ | exact Kd.S_nil _ _ _ _ _, hq3 HB GE488 GE489 GE490⟩
 replace c45 := Bool.eq_false_iff.mpr c45; subst c45
 have H1 : ((impl_small.f kj2 l0_0).bind fun t504 => (if 0 < (l1_0.length : Int) then (impl_ReduceBig.l0 kj2 t504 (rd l1_0 0) 0) else (none))) = some (r1, r2) := by rw [if_neg (show ¬ (false = true) by decide)] at H; exact H
 clear H; have H := H1; clear H1; replace H := Option.bind_eq_some_iff.mp H; obtain ⟨t504, A490, H⟩ := H; (try dsimp only at H); have A49 := Aside0.mk A490; clear A490
 by_cases c50 : 0 < (l1_0.length : Int)
 rotate_left
 · rw [if_neg c50] at H
   exact absurd H (by simp)

 rw [if_pos c50] at H
 have c50b0 : decide (0 < (l1_0.length : Int)) = true := decide_eq_true c50
 have c50b1 : decide (0 < l1_0.length) = true := decide_eq_true (by omega)
 clear c50
 have H' := Aside0.mk H
 clear H
 try go_wp2
 replace HO_489000 := Aside0.mk (Kd.V_drew HO_489000.out); replace HO_490000 := Aside0.mk (Kd.V_drew HO_490000.out); replace BK488 := Aside0.mk (blk_drew BK488.out); replace BK489 := Aside0.mk (blk_drew BK489.out); replace BK490 := Aside0.mk (blk_drew BK490.out); replace HB := Aside0.mk (below_drew1 HB.out)
 have p505 : 0 ≤ (0 : Int) := (by omega)
 have q505 : 0 < (l1_0.length : Int) := of_decide_eq_true (by first | (with_reducible assumption) | assumption)
 obtain ⟨ad505, e505, hx505_0⟩ := Kd.at_int (Kd.V_reads' HO_490000.out).2.2 0 p505 q505
 cases e505
 have qi505 : (0 < l1_0.length) = True := eq_true (by omega)
 (try rw [show ((0 : Int)).toNat = 0 from rfl] at hx505_0)
 (try rw [Addr.add_zero'] at hx505_0)
 replace p505 := eq_true p505; replace q505 := eq_true q505
 refine start_ (n := 10) (S := fun w' => w'.cell? ⟨gb488, 0, none⟩ = some (.slice A0_0 l0_0.length c0_0) ∧ w'.cell? ⟨gb489, 0, none⟩ = some (.slice (some ad505) l1_0.length c1_0) ∧ w'.cell? ad505 = some (.int .i64 (rd l1_0 0))) (ds := []) #[false, false, false, false, false, false, false, false, false, false] (by kernel_rfl) rfl rfl ⟨(blk_cell BK488.out 0).trans rfl, (blk_cell BK489.out 0).trans rfl, hx505_0⟩ (fun hHeld => ?_); refine with_tabW impl_ReduceBig.tab3 impl_ReduceBig.bits3 (fun HT_ HW_ => ?_)
 generalize wc.drew = w51 at HO_489000 HO_490000 BK488 BK489 BK490 HB hx505_0 hHeld ⊢
 refine pz (a' := ?_) 0 46 ?_ (bz 10 1) rfl rfl HT_ (Or.inl ⟨by rfl, ?_⟩) ?_ ?_
 rotate_left
 · intro w'
   first | (go_simp; with_reducible rfl) | (go_simp; unfold Instr.field; go_simp; rfl)
 rotate_left
 · simp only [Act.put, List.setIfInBounds_toArray, List.set_cons_zero, List.set_cons_succ, i64_w, i32_w]
   rfl
 refine pz (a' := ?_) 3 49 ?_ (bz 10 9) rfl rfl HT_ (Or.inl ⟨by rfl, ?_⟩) ?_ ?_
 rotate_left
 · intro w'
   first | (go_simp; with_reducible rfl) | (go_simp; unfold Instr.field; go_simp; rfl)
 rotate_left
 · simp only [Act.put, List.setIfInBounds_toArray, List.set_cons_zero, List.set_cons_succ, i64_w, i32_w]
   rfl
 refine take_ (i := 1) (N := some 47) (v := ?_) (a' := ?_) (bz 10 11) rfl rfl (take_ofW HT_.out HW_.out (by kernel_rfl)) (fun _ _ _ h => h) (Or.inl ⟨by rfl, ?_⟩) hHeld ?_ ?_
 rotate_left
 · rintro w' ⟨s0, s1, s2⟩
   go_simp
   with_reducible rfl
 rotate_left
 · simp only [Act.put, List.setIfInBounds_toArray, List.set_cons_zero, List.set_cons_succ, i64_w, i32_w]
   rfl
 refine take_ (i := 4) (N := some 50) (v := ?_) (a' := ?_) (bz 10 27) rfl rfl (take_ofW HT_.out HW_.out (by kernel_rfl)) (fun _ _ _ h => h) (Or.inl ⟨by rfl, ?_⟩) hHeld ?_ ?_
 rotate_left
 · rintro w' ⟨s0, s1, s2⟩
   go_simp
   with_reducible rfl
 rotate_left
 · simp only [Act.put, List.setIfInBounds_toArray, List.set_cons_zero, List.set_cons_succ, i64_w, i32_w]
   rfl
 refine pz (a' := ?_) 5 51 ?_ (bz 10 59) rfl rfl HT_ (Or.inl ⟨by rfl, ?_⟩) ?_ ?_
 rotate_left
 · intro w'
   first | (go_simp; with_reducible rfl) | (go_simp; unfold Instr.field; go_simp; rfl)
 rotate_left
 · simp only [Act.put, List.setIfInBounds_toArray, List.set_cons_zero, List.set_cons_succ, i64_w, i32_w]
   rfl
 refine take_ (i := 6) (N := some 52) (v := ?_) (a' := ?_) (bz 10 123) rfl rfl (take_ofW HT_.out HW_.out (by kernel_rfl)) (fun _ _ _ h => h) (Or.inl ⟨by rfl, ?_⟩) hHeld ?_ ?_
 rotate_left
 · rintro w' ⟨s0, s1, s2⟩
   go_simp
   with_reducible rfl
 rotate_left
 · simp only [Act.put, List.setIfInBounds_toArray, List.set_cons_zero, List.set_cons_succ, i64_w, i32_w]
   rfl
 refine one_ (i := 2) (N := some 48) (bz 10 127) rfl rfl (one_of HT_.out (by kernel_rfl)) (by decide) (fun K hK => ?_)
 refine goes_ Try.func102 (by kernel_rfl) rfl #[.slice A0_0 l0_0.length c0_0] (by rfl) rfl rfl (by (try simp only [List.map_toArray, List.map_cons, List.map_nil]); first | done | rfl | (simp only [List.length_drop, List.length_take]; rfl)) ?_
 with_reducible refine (impl_small.calls kj2 _ _ l0_0 t504 _ ?side1 ?side2 A49.out).mono ?_
 (case side1 => exact cq ((Kd.V_reads' HO_489000.out).2.2))
 (case side2 => exact (Kd.V_reads' HO_489000.out).2.1)
 rintro e w' ⟨rfl, ⟨nd, rfl⟩⟩
 refine ⟨_, rfl, ?_⟩
 refine hK.out _ _ ⟨(blk_cell BK488.out 0).trans rfl, (blk_cell BK489.out 0).trans rfl, hHeld.2.2⟩ (fun hHeld => ?_)
 clear hK K
 refine norm_ (a' := ?_) ?_ ?_
 rotate_left
 · show Act.put _ (some 48) _ = _
   simp only [Act.put, List.setIfInBounds_toArray, List.set_cons_zero, List.set_cons_succ, i64_w, i32_w]
   rfl
 refine pz (a' := ?_) 7 6 ?_ (bz 10 255) rfl rfl HT_ (Or.inl ⟨by rfl, ?_⟩) ?_ ?_
 rotate_left
 · intro w'
   first | (go_simp; with_reducible rfl) | (go_simp; unfold Instr.field; go_simp; rfl)
 rotate_left
 · simp only [Act.put, List.setIfInBounds_toArray, List.set_cons_zero, List.set_cons_succ, i64_w, i32_w]
   rfl
 refine pz (a' := ?_) 8 7 ?_ (bz 10 511) rfl rfl HT_ (Or.inl ⟨by rfl, ?_⟩) ?_ ?_
 rotate_left
 · intro w'
   first | (go_simp; with_reducible rfl) | (go_simp; unfold Instr.field; go_simp; rfl)
 rotate_left
 · simp only [Act.put, List.setIfInBounds_toArray, List.set_cons_zero, List.set_cons_succ, i64_w, i32_w]
   rfl
 refine pz (a' := ?_) 9 8 ?_ (bz 10 1023) rfl rfl HT_ (Or.inl ⟨by rfl, ?_⟩) ?_ ?_
 rotate_left
 · intro w'
   first | (go_simp; with_reducible rfl) | (go_simp; unfold Instr.field; go_simp; rfl)
 rotate_left
 · simp only [Act.put, List.setIfInBounds_toArray, List.set_cons_zero, List.set_cons_succ, i64_w, i32_w]
   rfl
 refine done_ (done_of HT_.out (by kernel_rfl)) ?_
 try go_wp2
 go_loopg [8] kj2 (fun kq v8 w' => ∃ (x8_2 : Int), v8 = .int .i64 x8_2 ∧ Aside0 (impl_ReduceBig.l0 kq t504 (rd l1_0 0) x8_2 = some (r1, r2)) ∧ Aside0 (kq ≤ kj2) ∧ Aside0 (Kd.V (Kd.int .i64) 3 w' w.heap.size (fun k_ => ((P0_0_ k_ ∨ P1_0_ k_) ∨ w.heap.size ≤ k_) ∧ k_ ≠ gb488 ∧ k_ ≠ gb489 ∧ k_ ≠ gb490) (.slice A0_0 l0_0.length c0_0) l0_0) ∧ Aside0 (Kd.V (Kd.int .i64) 3 w' w.heap.size (fun k_ => ((P0_0_ k_ ∨ P1_0_ k_) ∨ w.heap.size ≤ k_) ∧ k_ ≠ gb488 ∧ k_ ≠ gb489 ∧ k_ ≠ gb490) (.slice (some ad505) l1_0.length c1_0) l1_0) ∧ Aside0 (w'.heap[gb488]? = some (.cells #[(.slice A0_0 l0_0.length c0_0)] 25 (0, 0))) ∧ Aside0 (w'.heap[gb489]? = some (.cells #[(.slice (some ad505) l1_0.length c1_0)] 25 (0, 0))) ∧ Aside0 (w'.heap[gb490]? = some (.cells #[(.slice none 0 0)] 25 (0, 0))) ∧ Aside0 (Below w.heap.size w w'))
 case atStart => exact ⟨(0), (by first | rfl | (simp; done) | (simp [*]; done)), H', ⟨Nat.le_refl _⟩, ⟨by (with_reducible repeat (first | apply Kd.V_alloc | apply Kd.V_drewN | apply Kd.V_drew)); exact HO_489000.out⟩, ⟨by (with_reducible repeat (first | apply Kd.V_alloc | apply Kd.V_drewN | apply Kd.V_drew)); exact HO_490000.out⟩, ⟨by (with_reducible repeat (first | refine blk_drewN ?_ _ | refine blk_drew ?_ | refine blk_alloc ?_ _)); exact BK488.out⟩, ⟨by (with_reducible repeat (first | refine blk_drewN ?_ _ | refine blk_drew ?_ | refine blk_alloc ?_ _)); exact BK489.out⟩, ⟨by (with_reducible repeat (first | refine blk_drewN ?_ _ | refine blk_drew ?_ | refine blk_alloc ?_ _)); exact BK490.out⟩, ⟨hq3 HB GE488 GE489 GE490⟩⟩
 case round =>
   clear H'
   (try clear c1); (try clear p2); (try clear c4); (try clear c5); (try clear p5); (try clear q5); (try clear hx5); (try clear qi5); (try clear c7); (try clear c8); (try clear c9); (try clear c9b0); (try clear c9b1); (try clear c10); (try clear c45); (try clear c46); (try clear c47); (try clear c50); (try clear c50b0); (try clear c50b1); (try clear p50); (try clear q50); (try clear hx50); (try clear qi50); (try clear hcz48_0); (try clear hfz48_0); (try clear hx505_0); (try clear p2); (try clear p505); (try clear q505); obtain ⟨x8_2, rfl, HA, HK2, HO_489000, HO_490000, BK488, BK489, BK490, HB⟩ := hrel
   cases gk with
   | zero => exact absurd HA.out (by simp [impl_ReduceBig.l0])
   | succ k2 =>
     have H := HA.out; clear HA
     simp only [impl_ReduceBig.l0] at H
     by_cases c52 : (Int.tmod (wrap64 (x8_2 * (rd l1_0 0))) 65536) = (Int.tmod t504 65536)
     · rw [if_pos c52] at H
       have c52b0 : ((Int.tmod (wrap64 (x8_2 * (rd l1_0 0))) 65536) == (Int.tmod t504 65536)) = true := beq_iff_eq.mpr c52
       have c52b1 : ((Int.tmod (wrap64 (x8_2 * (rd l1_0 0))) 65536) != (Int.tmod t504 65536)) = false := bne_eq_false_iff_eq.mpr c52
       clear c52
       by_cases c53 : (rd l1_0 0) = 0
       · rw [if_pos c53] at H
         exact absurd H (by simp)
       · rw [if_neg c53] at H
         have c53b0 : ((rd l1_0 0) == 0) = false := beq_eq_false_iff_ne.mpr c53
         have c53b1 : ((rd l1_0 0) != 0) = true := bne_iff_ne.mpr c53
         replace H := Option.bind_eq_some_iff.mp H; obtain ⟨t506, A540, H⟩ := H; (try dsimp only at H); have A54 := Aside0.mk A540; clear A540
         simp only [Option.some.injEq, Prod.mk.injEq] at H
         obtain ⟨rfl, rfl⟩ := H
         go_wp2_with (first | ((with_reducible refine gate_callee (f := 94) rfl ?_); refine gC (some 74) Try.func94 #[.int .i64 (Int.tmod (wrap64 ((Int.tmod (wrap64 (Int.tdiv (wrap64 (t504 - (wrap64 (x8_2 * (rd l1_0 0))))) 65536)) (rd l1_0 0)) + (rd l1_0 0))) (rd l1_0 0))] ?_; (with_reducible refine (impl_bigOf.calls k2 (Int.tmod (wrap64 ((Int.tmod (wrap64 (Int.tdiv (wrap64 (t504 - (wrap64 (x8_2 * (rd l1_0 0))))) 65536)) (rd l1_0 0)) + (rd l1_0 0))) (rd l1_0 0)) t506 _ A54.out).mono ?_); rintro e w55 ⟨v507, rfl, ho0, hb⟩; refine ⟨_, rfl, ?_⟩; replace HO_489000 := Aside0.mk (vb HO_489000 ho0 hb); replace HO_490000 := Aside0.mk (vb HO_490000 ho0 hb); have HO508 := Aside0.mk (Kd.R_lower (Kd.R_newM (M := fun k_ => (w.heap.size ≤ k_)) ho0 (below_size (hq3 HB GE488 GE489 GE490)) (fun k_ h_ => h_)) (below_size (hq3 HB GE488 GE489 GE490))); replace BK488 := cB BK488 hb; replace BK489 := cB BK489 hb; replace BK490 := cB BK490 hb; replace HB := cs (hq3 HB GE488 GE489 GE490) hb; (try clear hb); (try clear hb2); (try clear hk); (try clear hi); (try clear ho0); obtain ⟨Ao56, co56, eo56⟩ := Kd.R_slice HO508.out; subst eo56; have hnb57 := NB490_488.out; have hnc57 := NB488_490.out; have hnb58 := NB490_489.out; have hnc58 := NB489_490.out; have hcz59_0 : w55.cell? ⟨gb490, 0, none⟩ = some (.slice none 0 0) := (blk_cell BK490.out 0).trans rfl; have hfz59_0 := blk_frozen BK490.out 0))
         refine bodyPost_ret (results_ct rfl _ _ gb490 25 #[.slice Ao56 t506.length co56] (0, 0) _ rfl (by (with_reducible repeat (first | refine blk_drewN ?_ _ | refine blk_drew ?_ | refine blk_alloc ?_ _)); refine blk_put (cs := #[.slice none 0 0]) ?_ 0 _ rfl; (with_reducible repeat (first | refine blk_drewN ?_ _ | refine blk_drew ?_ | refine blk_alloc ?_ _)); exact BK490.out) Try.underlying25 rfl (by kernel_rfl)) rfl ?_
         exact ⟨_, by first | rfl | (simp <;> rfl) | (simp [*] <;> rfl), by (with_reducible repeat (first | apply Kd.R_alloc | apply Kd.R_drewN | apply Kd.R_drew)); exact Kd.R_mono (Kd.R_far (p := ⟨gb490, 0, none⟩) (Kd.R_types HO508.out BK490.out (by decide)) (fun _ hk => hk.2) (.slice Ao56 t506.length co56)) (fun _ hk => hk.1.1), hq3 HB GE488 GE489 GE490⟩
     · rw [if_neg c52] at H
       have c52b0 : ((Int.tmod (wrap64 (x8_2 * (rd l1_0 0))) 65536) == (Int.tmod t504 65536)) = false := beq_eq_false_iff_ne.mpr c52
       have c52b1 : ((Int.tmod (wrap64 (x8_2 * (rd l1_0 0))) 65536) != (Int.tmod t504 65536)) = true := bne_iff_ne.mpr c52
       have H' := Aside0.mk H
       clear H
       go_wp2
       go_roundg k2
       case measure => have := HJ2.out; have := HK2.out; omega
       case rel => exact ⟨(wrap64 (x8_2 + 1)), (by first | rfl | (simp; done) | (simp [*]; done)), H', ⟨by have := HJ2.out; have := HK2.out; omega⟩, ⟨by (with_reducible repeat (first | apply Kd.V_alloc | apply Kd.V_drewN | apply Kd.V_drew)); exact HO_489000.out⟩, ⟨by (with_reducible repeat (first | apply Kd.V_alloc | apply Kd.V_drewN | apply Kd.V_drew)); exact HO_490000.out⟩, ⟨by (with_reducible repeat (first | refine blk_drewN ?_ _ | refine blk_drew ?_ | refine blk_alloc ?_ _)); exact BK488.out⟩, ⟨by (with_reducible repeat (first | refine blk_drewN ?_ _ | refine blk_drew ?_ | refine blk_alloc ?_ _)); exact BK489.out⟩, ⟨by (with_reducible repeat (first | refine blk_drewN ?_ _ | refine blk_drew ?_ | refine blk_alloc ?_ _)); exact BK490.out⟩, ⟨hq3 HB GE488 GE489 GE490⟩⟩
end Go.Proofs.Ytadooofomkdaoaa.QFnHalves
