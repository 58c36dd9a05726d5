import Derived.Test.YtadooofomkdaoaaSqueez2
import Derived.Test.YtadooofomkdaoaaQFnLimbsx0
import Derived.Test.YtadooofomkdaoaaQFnLimbsx1
import Derived.Test.YtadooofomkdaoaaQFnLimbsx2
import Derived.Test.YtadooofomkdaoaaQFnLimbsx3
import Derived.Test.YtadooofomkdaoaaQFnLimbsx5
import Derived.Test.YtadooofomkdaoaaQFnLimbsx6
import Derived.Test.YtadooofomkdaoaaQFnLimbsx8
import Derived.Test.YtadooofomkdaoaaQFnLimbsx12
namespace Go.Proofs.Ytadooofomkdaoaa.QFnLimbs
open Go.RowKit Go.Proofs.YtadooofomkdaoaaW.PrintWords Go.Proofs.YtadooofomkdaoaaW.PrintLast Go.Proofs.YtadooofomkdaoaaW.PrintMore
attribute [local go_sem] max2_int min2_int max_two min_two max_three min_three max_four min_four   -- for this text's walks alone
set_option linter.unusedVariables false
set_option linter.unusedSimpArgs false

/-! ### impl_ShiftBig: function 31 -/
def impl_ShiftBig.j0 : Nat → Int → Bool → List Int → Option (List Int × Bool)
  | 0, _, _, _ => none
  | k + 1, x1, x15, x605000 => if x15 = true then (some (([] : List Int), false)) else (if x1 < 0 then ((impl_power2.f (wrap64 (-x1))).bind fun t608 => ((impl_divide.f k x605000 t608).bind fun bt611 => (some (bt611.1, true)))) else ((impl_power2.f x1).bind fun t617 => ((impl_times.f k x605000 t617).bind fun t620 => ((impl_told.f k t620).bind fun bt623 => (some (bt623.1, bt623.2))))))
def impl_ShiftBig.f (k : Nat) (l0_0 : List Int) (a1 : Int) : Option (List Int × Bool) := (impl_GoodBig.f k l0_0).bind fun t606 => (if t606 = true then ((impl_within.f a1 (-96) 96).bind fun t607 => (impl_ShiftBig.j0 k a1 (!t607) l0_0)) else (impl_ShiftBig.j0 k a1 true l0_0))
def impl_ShiftBig.T4 : Bool × List (List Nat × List Nat) := (true, [([], []), ([0], [0]), ([], []), ([2], [2]), ([3], [3]), ([1, 4, 4], [1, 4]), ([5], [5]), ([6], [6]), ([6], [6]), ([7, 5, 0, 1, 2, 3, 4, 5, 6, 7], [7]), ([8, 9, 0, 1, 2, 3, 4, 5, 6, 7, 8, 9], [8])])
def impl_ShiftBig.B4 : List Nat := [0, 1, 0, 4, 12, 31, 63, 127, 127, 255, 1023]
theorem impl_ShiftBig.tab4 : rtab .any (opsOf Try.f31 4) = impl_ShiftBig.T4 := by kernel_rfl
theorem impl_ShiftBig.bits4 : waitsOk impl_ShiftBig.T4.2 impl_ShiftBig.B4 = true := by kernel_rfl
def impl_ShiftBig.T6 : Bool × List (List Nat × List Nat) := (true, [([], []), ([0], [0]), ([], []), ([2], [2]), ([1, 3, 3], [1, 3]), ([4, 4], [4]), ([5], [5]), ([5], [5]), ([6, 5, 0, 1, 2, 3, 4, 5, 6, 7], [6]), ([7, 8, 0, 1, 2, 3, 4, 5, 6, 7, 8], [7])])
def impl_ShiftBig.B6 : List Nat := [0, 1, 0, 4, 15, 31, 63, 63, 255, 511]
theorem impl_ShiftBig.tab6 : rtab .any (opsOf Try.f31 6) = impl_ShiftBig.T6 := by kernel_rfl
theorem impl_ShiftBig.bits6 : waitsOk impl_ShiftBig.T6.2 impl_ShiftBig.B6 = true := by kernel_rfl
set_option maxHeartbeats 8000000 in
set_option maxRecDepth 100000 in
theorem impl_ShiftBig.calls (k : Nat) (A0_0 : Option Addr) (c0_0 : Nat) (l0_0 : List Int) (a1 : Int) (r1 : List Int) (r2 : Bool) (w : World) (hr0_0 : Kd.C (Kd.int .i64) w A0_0 l0_0.length l0_0) (hc0_0 : l0_0.length ≤ c0_0) (h : impl_ShiftBig.f k l0_0 a1 = some (r1, r2)) :
    Calls Try.prog 31 #[.agg #[.slice A0_0 l0_0.length c0_0], .int .i64 a1] w fun e w' => ∃ v0_ : Value, e = .returned (.tuple #[.agg #[v0_], .bool r2]) ∧ Kd.R (Kd.int .i64) 3 w' w.heap.size (fun _ => True) v0_ r1 ∧ Below w.heap.size w w' := by
 have hu25 := Try.underlying25; have HR0_0 := Aside0.mk hr0_0; have HC0_0 := Aside0.mk hc0_0; clear hr0_0 hc0_0; have HB := Aside0.mk (Below.refl w.heap.size w)
 have H : ((impl_GoodBig.f k l0_0).bind fun t606 => (if t606 = true then ((impl_within.f a1 (-96) 96).bind fun t607 => (impl_ShiftBig.j0 k a1 (!t607) l0_0)) else (impl_ShiftBig.j0 k a1 true l0_0))) = some (r1, r2) := h
 clear h; have HC3 := Aside0.mk H; clear H
 go_enter Try.func31, Try.ntmps31
 go_upto_region 1 with (first | ((with_reducible refine gate_dst (N := 2) rfl ?_); refine bX #[.slice A0_0 l0_0.length c0_0] 25 ?_; intro gb604 hg w4 hbox hb; have n0_ := cs (hq HB) hb; have BK604 := Aside0.mk (hbox); have GW604 := cg hg (hq HB); have GE604 := cg hg (hq HB); replace HB := n0_; clear n0_; clear hb hbox hg) | ((with_reducible refine gate_dst (N := 4) rfl ?_); refine bX #[.slice none 0 0] 25 ?_; intro gb605 hg w5 hbox hb; have n0_ := cB BK604 hb; have n1_ := cs (hq1 HB GE604) hb; have BK605 := Aside0.mk (hbox); have GW605 := cg hg (hq1 HB GE604); have GE605 := cg hg (hq1 HB GE604); have NB604_605 := cl hg BK604; have NB605_604 := cr hg BK604; replace BK604 := n0_; replace HB := n1_; clear n0_ n1_; clear hb hbox hg))
 (try simp only [Act.put, List.setIfInBounds_toArray, List.set_cons_zero, List.set_cons_succ])
 go_cut [15] (fun v15 wc => ∃ (kq : Nat) (x15_2 : Bool), v15 = .bool x15_2 ∧ Aside0 (impl_ShiftBig.j0 kq a1 x15_2 l0_0 = some (r1, r2)) ∧ Aside0 (kq ≤ k) ∧ Aside0 (wc.heap[gb604]? = some (.cells #[(.slice A0_0 l0_0.length c0_0)] 25 (0, 0))) ∧ Aside0 (wc.heap[gb605]? = some (.cells #[(.slice none 0 0)] 25 (0, 0))) ∧ Aside0 (Below w.heap.size w wc))
 case first =>
   have H := HC3.out; clear HC3; replace H := Option.bind_eq_some_iff.mp H; obtain ⟨t606, A60, H⟩ := H; (try dsimp only at H); have A6 := Aside0.mk A60; clear A60
   by_cases c7 : t606 = true
   rotate_left
   · replace c7 := Bool.eq_false_iff.mpr c7
     subst c7
     have H1 : (impl_ShiftBig.j0 k a1 true l0_0) = some (r1, r2) := by rw [if_neg (show ¬ (false = true) by decide)] at H; exact H
     clear H; have H := H1; clear H1
     have H' := Aside0.mk H
     clear H; have hnb12 := NB604_605.out; have hnc12 := NB605_604.out
     have hcz13_0 : w5.cell? ⟨gb604, 0, none⟩ = some (.slice A0_0 l0_0.length c0_0) := (blk_cell BK604.out 0).trans rfl
     have hfz13_0 := blk_frozen BK604.out 0
     go_wp2_with (first | ((with_reducible refine gate_callee (f := 19) rfl ?_); refine gC (some 9) Try.func19 #[.agg #[.slice A0_0 l0_0.length c0_0]] ?_; (with_reducible refine (impl_GoodBig.calls k _ _ l0_0 false _ ?side1 ?side2 A6.out).mono ?_); (case side1 => exact cq (Kd.C_below HR0_0.out HB.out)); (case side2 => exact HC0_0.out); rintro e w14 ⟨rfl, hb⟩; refine ⟨_, rfl, ?_⟩; replace BK604 := cB BK604 hb; replace BK605 := cB BK605 hb; replace HB := cs (hq2 HB GE604 GE605) hb; (try clear hb); (try clear hb2); (try clear hk); (try clear hi)))
     go_meet
     case rel => exact ⟨_, (true), (by first | rfl | (simp; done) | (simp [*]; done)), H', ⟨by first | omega | exact Nat.le_refl _⟩, ⟨by (with_reducible repeat (first | refine blk_drewN ?_ _ | refine blk_drew ?_ | refine blk_alloc ?_ _)); exact BK604.out⟩, ⟨by (with_reducible repeat (first | refine blk_drewN ?_ _ | refine blk_drew ?_ | refine blk_alloc ?_ _)); exact BK605.out⟩, ⟨hq2 HB GE604 GE605⟩⟩
   subst c7
   have H1 : ((impl_within.f a1 (-96) 96).bind fun t607 => (impl_ShiftBig.j0 k a1 (!t607) l0_0)) = some (r1, r2) := by rw [if_pos rfl] at H; exact H
   clear H; have H := H1; clear H1; replace H := Option.bind_eq_some_iff.mp H; obtain ⟨t607, A80, H⟩ := H; (try dsimp only at H); have A8 := Aside0.mk A80; clear A80
   have H' := Aside0.mk H
   clear H; have hnb9 := NB604_605.out; have hnc9 := NB605_604.out
   have hcz10_0 : w5.cell? ⟨gb604, 0, none⟩ = some (.slice A0_0 l0_0.length c0_0) := (blk_cell BK604.out 0).trans rfl
   have hfz10_0 := blk_frozen BK604.out 0
   go_wp2_with (first | ((with_reducible refine gate_callee (f := 19) rfl ?_); refine gC (some 9) Try.func19 #[.agg #[.slice A0_0 l0_0.length c0_0]] ?_; (with_reducible refine (impl_GoodBig.calls k _ _ l0_0 true _ ?side1 ?side2 A6.out).mono ?_); (case side1 => exact cq (Kd.C_below HR0_0.out HB.out)); (case side2 => exact HC0_0.out); rintro e w11 ⟨rfl, hb⟩; refine ⟨_, rfl, ?_⟩; replace BK604 := cB BK604 hb; replace BK605 := cB BK605 hb; replace HB := cs (hq2 HB GE604 GE605) hb; (try clear hb); (try clear hb2); (try clear hk); (try clear hi)) | (go_at_call 93; (with_reducible refine (impl_within.calls a1 (-96) 96 t607 _ A8.out).mono ?_); rintro e w' ⟨rfl, ⟨nd, rfl⟩⟩))
   go_meet
   case rel => exact ⟨_, (!t607), (by first | rfl | (simp; done) | (simp [*]; done)), H', ⟨by first | omega | exact Nat.le_refl _⟩, ⟨by (with_reducible repeat (first | refine blk_drewN ?_ _ | refine blk_drew ?_ | refine blk_alloc ?_ _)); exact BK604.out⟩, ⟨by (with_reducible repeat (first | refine blk_drewN ?_ _ | refine blk_drew ?_ | refine blk_alloc ?_ _)); exact BK605.out⟩, ⟨hq2 HB GE604 GE605⟩⟩
 clear HC3; (try clear c1); (try clear p2); (try clear c3); (try clear c7); (try clear c9); (try clear c12); (try clear hcz10_0); (try clear hcz13_0); (try clear hfz10_0); (try clear hfz13_0); obtain ⟨kq, x15_2, rfl, HA, HJ2, BK604, BK605, HB⟩ := hcut; obtain _ | kj2 := kq
 · exact absurd HA.out (by simp [impl_ShiftBig.j0])
 have H := HA.out; clear HA
 simp only [impl_ShiftBig.j0] at H
 by_cases c15 : x15_2 = true
 · subst c15
   have H1 : (some (([] : List Int), false)) = some (r1, r2) := by rw [if_pos rfl] at H; exact H
   clear H; have H := H1; clear H1
   simp only [Option.some.injEq, Prod.mk.injEq] at H
   obtain ⟨rfl, rfl⟩ := H; have hnb16 := NB605_604.out; have hnc16 := NB604_605.out
   have hcz17_0 : wc.cell? ⟨gb605, 0, none⟩ = some (.slice none 0 0) := (blk_cell BK605.out 0).trans rfl
   have hfz17_0 := blk_frozen BK605.out 0
   go_wp2
   refine bodyPost_ret (results_ct rfl _ _ gb605 25 #[.slice none 0 0] (0, 0) _ rfl (by (with_reducible repeat (first | refine blk_drewN ?_ _ | refine blk_drew ?_ | refine blk_alloc ?_ _)); refine blk_put (cs := #[.slice none 0 0]) ?_ 0 _ rfl; (with_reducible repeat (first | refine blk_drewN ?_ _ | refine blk_drew ?_ | refine blk_alloc ?_ _)); exact BK605.out) Try.underlying25 rfl (by kernel_rfl)) rfl ?_
   exact ⟨_, by first | rfl | (simp <;> rfl) | (simp [*] <;> rfl), by first | exact Kd.R_nil _ _ _ _ _ | exact Kd.R_nil _ _ _ 0 _ | exact Kd.N_nil _ _ _ _ _ | exact Kd.V_nil _ _ _ _ _ | exact Kd.Q_nil _ _ _ _ _ | exact Kd.S_nil _ _ _ _ _, hq2 HB GE604 GE605⟩
 replace c15 := Bool.eq_false_iff.mpr c15; subst c15
 have H1 : (if a1 < 0 then ((impl_power2.f (wrap64 (-a1))).bind fun t608 => ((impl_divide.f kj2 l0_0 t608).bind fun bt611 => (some (bt611.1, true)))) else ((impl_power2.f a1).bind fun t617 => ((impl_times.f kj2 l0_0 t617).bind fun t620 => ((impl_told.f kj2 t620).bind fun bt623 => (some (bt623.1, bt623.2)))))) = some (r1, r2) := by rw [if_neg (show ¬ (false = true) by decide)] at H; exact H
 clear H; have H := H1; clear H1
 by_cases c18 : a1 < 0
 · rw [if_pos c18] at H
   have c18b0 : decide (a1 < 0) = true := decide_eq_true c18
   clear c18; replace H := Option.bind_eq_some_iff.mp H; obtain ⟨t608, A190, H⟩ := H; (try dsimp only at H); have A19 := Aside0.mk A190; clear A190; replace H := Option.bind_eq_some_iff.mp H; obtain ⟨⟨t611, t612⟩, A200, H⟩ := H; (try dsimp only at H); have A20 := Aside0.mk A200; clear A200
   simp only [Option.some.injEq, Prod.mk.injEq] at H
   obtain ⟨rfl, rfl⟩ := H
   try go_wp2
   replace BK604 := Aside0.mk (blk_drew BK604.out); replace BK605 := Aside0.mk (blk_drew BK605.out); replace HB := Aside0.mk (below_drew1 HB.out)
   refine start_ (n := 11) (S := fun w' => w'.cell? ⟨gb604, 0, none⟩ = some (.slice A0_0 l0_0.length c0_0)) (ds := []) #[false, false, false, false, false, false, false, false, false, false, false] (by kernel_rfl) rfl rfl ((blk_cell BK604.out 0).trans rfl) (fun hHeld => ?_); refine with_tabW impl_ShiftBig.tab4 impl_ShiftBig.bits4 (fun HT_ HW_ => ?_)
   generalize wc.drew = w21 at BK604 BK605 HB hHeld ⊢
   refine pure_ (i := 0) (N := some 20) (v := ?_) (a' := ?_) #[true, false, false, false, false, false, false, false, false, false, false] rfl rfl (any_of HT_.out (by kernel_rfl)) (fun _ _ _ h => h) (Or.inl ⟨by rfl, ?_⟩) ?_ ?_
   rotate_left
   · intro w'
     first | (go_simp; with_reducible rfl) | (go_simp; unfold Instr.field; go_simp; rfl)
   rotate_left
   · simp only [Act.put, List.setIfInBounds_toArray, List.set_cons_zero, List.set_cons_succ, i64_w, i32_w]
     rfl
   refine pure_ (i := 2) (N := some 22) (v := ?_) (a' := ?_) #[true, false, true, false, false, false, false, false, false, false, false] rfl rfl (any_of HT_.out (by kernel_rfl)) (fun _ _ _ h => h) (Or.inl ⟨by rfl, ?_⟩) ?_ ?_
   rotate_left
   · intro w'
     first | (go_simp; with_reducible rfl) | (go_simp; unfold Instr.field; go_simp; rfl)
   rotate_left
   · simp only [Act.put, List.setIfInBounds_toArray, List.set_cons_zero, List.set_cons_succ, i64_w, i32_w]
     rfl
   refine pure_ (i := 3) (N := some 23) (v := ?_) (a' := ?_) #[true, false, true, true, false, false, false, false, false, false, false] rfl rfl (any_of HT_.out (by kernel_rfl)) (fun _ _ _ h => h) (Or.inl ⟨by rfl, ?_⟩) ?_ ?_
   rotate_left
   · intro w'
     first | (go_simp; with_reducible rfl) | (go_simp; unfold Instr.field; go_simp; rfl)
   rotate_left
   · simp only [Act.put, List.setIfInBounds_toArray, List.set_cons_zero, List.set_cons_succ, i64_w, i32_w]
     rfl
   refine take_ (i := 1) (N := some 21) (v := ?_) (a' := ?_) #[true, true, true, true, false, false, false, false, false, false, false] rfl rfl (take_ofW HT_.out HW_.out (by kernel_rfl)) (fun _ _ _ h => h) (Or.inl ⟨by rfl, ?_⟩) hHeld ?_ ?_
   rotate_left
   · intro w' s0
     go_simp
     with_reducible rfl
   rotate_left
   · simp only [Act.put, List.setIfInBounds_toArray, List.set_cons_zero, List.set_cons_succ, i64_w, i32_w]
     rfl
   refine one_ (i := 4) (N := some 24) #[true, true, true, true, true, false, false, false, false, false, false] rfl rfl (one_of HT_.out (by kernel_rfl)) (by decide) (fun K hK => ?_)
   refine goes_ Try.func99 (by kernel_rfl) rfl #[.int .i64 (wrap64 (-a1))] (by rfl) rfl rfl (by (try simp only [List.map_toArray, List.map_cons, List.map_nil]); first | done | rfl | (simp only [List.length_drop, List.length_take]; rfl)) ?_
   with_reducible refine (impl_power2.calls (wrap64 (-a1)) t608 _ A19.out).mono ?_
   rintro e w22 ⟨v609, rfl, ho0, hb⟩
   refine ⟨_, rfl, ?_⟩; have HO610 := Aside0.mk (Kd.R_lower ho0 (below_size (hq2 HB GE604 GE605))); replace BK604 := cB BK604 hb; replace BK605 := cB BK605 hb; replace HB := cs (hq2 HB GE604 GE605) hb; (try clear hb); (try clear hb2); (try clear hk); (try clear hi); (try clear ho0); obtain ⟨Ao23, co23, eo23⟩ := Kd.R_slice HO610.out
   (first | subst eo23 | (injection eo23 with f1_ f2_ f3_; have f4_ := f1_.symm; have f5_ := f3_.symm; clear f1_ f2_ f3_; subst f4_; subst f5_))
   refine hK.out _ _ ((blk_cell BK604.out 0).trans rfl) (fun hHeld => ?_)
   clear hK K
   refine norm_ (a' := ?_) ?_ ?_
   rotate_left
   · show Act.put _ (some 24) _ = _
     simp only [Act.put, List.setIfInBounds_toArray, List.set_cons_zero, List.set_cons_succ, i64_w, i32_w]
     rfl
   refine one_ (i := 5) (N := some 25) #[true, true, true, true, true, true, false, false, false, false, false] rfl rfl (one_of HT_.out (by kernel_rfl)) (by decide) (fun K hK => ?_)
   refine goes_ Try.func80 (by kernel_rfl) rfl #[.slice A0_0 l0_0.length c0_0, .slice Ao23 t608.length co23] (by rfl) rfl rfl (by (try simp only [List.map_toArray, List.map_cons, List.map_nil]); first | done | rfl | (simp only [List.length_drop, List.length_take]; rfl)) ?_
   with_reducible refine (impl_divide.calls kj2 _ _ l0_0 _ _ t608 t611 t612 _ ?side1 ?side2 ?side3 ?side4 A20.out).mono ?_
   (case side1 => exact cq (Kd.C_below HR0_0.out HB.out))
   (case side2 => exact HC0_0.out)
   (case side3 => exact cq ((Kd.R_reads' HO610.out).2.2))
   (case side4 => exact (Kd.R_reads' HO610.out).2.1)
   rintro e w24 ⟨v613, v615, rfl, ho0, ho1, hb⟩
   refine ⟨_, rfl, ?_⟩
   have n0_ := Aside0.mk (Kd.R_mono (Kd.R_told (Kd.R_told (Kd.R_old (rq HO610) hb) (Kd.R_base ho0)) (Kd.R_base ho1)) (fun _ h_ => h_.1))
   have HO614 := Aside0.mk (Kd.R_lower (Kd.R_new' ho0 (ql HO610)) (below_size (hq2 HB GE604 GE605))); have HO616 := Aside0.mk (Kd.R_lower (Kd.R_new' ho1 (ql HO610)) (below_size (hq2 HB GE604 GE605))); replace BK604 := cB BK604 hb; replace BK605 := cB BK605 hb; replace HB := cs (hq2 HB GE604 GE605) hb; replace HO610 := n0_; clear n0_; (try clear hb); (try clear hb2); (try clear hk); (try clear hi); (try clear ho0); (try clear ho1)
   refine hK.out _ _ ((blk_cell BK604.out 0).trans rfl) (fun hHeld => ?_)
   clear hK K
   refine norm_ (a' := ?_) ?_ ?_
   rotate_left
   · show Act.put _ (some 25) _ = _
     simp only [Act.put, List.setIfInBounds_toArray, List.set_cons_zero, List.set_cons_succ, i64_w, i32_w]
     rfl
   refine pure_ (i := 6) (N := some 19) (v := ?_) (a' := ?_) #[true, true, true, true, true, true, true, false, false, false, false] rfl rfl (any_of HT_.out (by kernel_rfl)) (fun _ _ _ h => h) (Or.inl ⟨by rfl, ?_⟩) ?_ ?_
   rotate_left
   · intro w'
     first | (go_simp; with_reducible rfl) | (go_simp; unfold Instr.field; go_simp; rfl)
   rotate_left
   · simp only [Act.put, List.setIfInBounds_toArray, List.set_cons_zero, List.set_cons_succ, i64_w, i32_w]
     rfl
   refine pure_ (i := 7) (N := some 26) (v := ?_) (a' := ?_) #[true, true, true, true, true, true, true, true, false, false, false] rfl rfl (any_of HT_.out (by kernel_rfl)) (fun _ _ _ h => h) (Or.inl ⟨by rfl, ?_⟩) ?_ ?_
   rotate_left
   · intro w'
     first | (go_simp; with_reducible rfl) | (go_simp; unfold Instr.field; go_simp; rfl)
   rotate_left
   · simp only [Act.put, List.setIfInBounds_toArray, List.set_cons_zero, List.set_cons_succ, i64_w, i32_w]
     rfl
   refine pure_ (i := 8) (N := some 27) (v := ?_) (a' := ?_) #[true, true, true, true, true, true, true, true, true, false, false] rfl rfl (any_of HT_.out (by kernel_rfl)) (fun _ _ _ h => h) (Or.inl ⟨by rfl, ?_⟩) ?_ ?_
   rotate_left
   · intro w'
     first | (go_simp; with_reducible rfl) | (go_simp; unfold Instr.field; go_simp; rfl)
   rotate_left
   · simp only [Act.put, List.setIfInBounds_toArray, List.set_cons_zero, List.set_cons_succ, i64_w, i32_w]
     rfl
   refine pure_ (i := 9) (N := some 6) (v := ?_) (a' := ?_) #[true, true, true, true, true, true, true, true, true, true, false] rfl rfl (any_of HT_.out (by kernel_rfl)) (fun _ _ _ h => h) (Or.inl ⟨by rfl, ?_⟩) ?_ ?_
   rotate_left
   · intro w'
     first | (go_simp; with_reducible rfl) | (go_simp; unfold Instr.field; go_simp; rfl)
   rotate_left
   · simp only [Act.put, List.setIfInBounds_toArray, List.set_cons_zero, List.set_cons_succ, i64_w, i32_w]
     rfl
   refine pure_ (i := 10) (N := some 7) (v := ?_) (a' := ?_) #[true, true, true, true, true, true, true, true, true, true, true] rfl rfl (any_of HT_.out (by kernel_rfl)) (fun _ _ _ h => h) (Or.inl ⟨by rfl, ?_⟩) ?_ ?_
   rotate_left
   · intro w'
     first | (go_simp; with_reducible rfl) | (go_simp; unfold Instr.field; go_simp; rfl)
   rotate_left
   · simp only [Act.put, List.setIfInBounds_toArray, List.set_cons_zero, List.set_cons_succ, i64_w, i32_w]
     rfl
   refine done_ (done_of HT_.out (by kernel_rfl)) ?_
   obtain ⟨Ao25, co25, eo25⟩ := Kd.R_slice HO614.out; subst eo25; have hnb26 := NB605_604.out; have hnc26 := NB604_605.out
   have hcz27_0 : w24.cell? ⟨gb605, 0, none⟩ = some (.slice none 0 0) := (blk_cell BK605.out 0).trans rfl
   have hfz27_0 := blk_frozen BK605.out 0
   try go_wp2
   refine bodyPost_ret (results_ct rfl _ _ gb605 25 #[.slice Ao25 t611.length co25] (0, 0) _ rfl (by (with_reducible repeat (first | refine blk_drewN ?_ _ | refine blk_drew ?_ | refine blk_alloc ?_ _)); refine blk_put (cs := #[.slice none 0 0]) ?_ 0 _ rfl; (with_reducible repeat (first | refine blk_drewN ?_ _ | refine blk_drew ?_ | refine blk_alloc ?_ _)); exact BK605.out) Try.underlying25 rfl (by kernel_rfl)) rfl ?_
   exact ⟨_, by first | rfl | (simp <;> rfl) | (simp [*] <;> rfl), by (with_reducible repeat (first | apply Kd.R_alloc | apply Kd.R_drewN | apply Kd.R_drew)); exact Kd.R_mono (Kd.R_far (p := ⟨gb605, 0, none⟩) (Kd.R_types HO614.out BK605.out (by decide)) (fun _ hk => hk.2) (.slice Ao25 t611.length co25)) (fun _ hk => trivial), hq2 HB GE604 GE605⟩
 rw [if_neg c18] at H
 have c18b0 : decide (a1 < 0) = false := decide_eq_false c18
 clear c18; replace H := Option.bind_eq_some_iff.mp H; obtain ⟨t617, A280, H⟩ := H; (try dsimp only at H); have A28 := Aside0.mk A280; clear A280; replace H := Option.bind_eq_some_iff.mp H; obtain ⟨t620, A290, H⟩ := H; (try dsimp only at H); have A29 := Aside0.mk A290; clear A290; replace H := Option.bind_eq_some_iff.mp H; obtain ⟨⟨t623, t626⟩, A300, H⟩ := H; (try dsimp only at H); have A30 := Aside0.mk A300; clear A300
 simp only [Option.some.injEq, Prod.mk.injEq] at H
 obtain ⟨rfl, rfl⟩ := H
 try go_wp2
 replace BK604 := Aside0.mk (blk_drew BK604.out); replace BK605 := Aside0.mk (blk_drew BK605.out); replace HB := Aside0.mk (below_drew1 HB.out)
 refine start_ (n := 10) (S := fun w' => w'.cell? ⟨gb604, 0, none⟩ = some (.slice A0_0 l0_0.length c0_0)) (ds := []) #[false, false, false, false, false, false, false, false, false, false] (by kernel_rfl) rfl rfl ((blk_cell BK604.out 0).trans rfl) (fun hHeld => ?_); refine with_tabW impl_ShiftBig.tab6 impl_ShiftBig.bits6 (fun HT_ HW_ => ?_)
 generalize wc.drew = w31 at BK604 BK605 HB hHeld ⊢
 refine pure_ (i := 0) (N := some 30) (v := ?_) (a' := ?_) #[true, false, false, false, false, false, false, false, false, false] rfl rfl (any_of HT_.out (by kernel_rfl)) (fun _ _ _ h => h) (Or.inl ⟨by rfl, ?_⟩) ?_ ?_
 rotate_left
 · intro w'
   first | (go_simp; with_reducible rfl) | (go_simp; unfold Instr.field; go_simp; rfl)
 rotate_left
 · simp only [Act.put, List.setIfInBounds_toArray, List.set_cons_zero, List.set_cons_succ, i64_w, i32_w]
   rfl
 refine pure_ (i := 2) (N := some 32) (v := ?_) (a' := ?_) #[true, false, true, false, false, false, false, false, false, false] rfl rfl (any_of HT_.out (by kernel_rfl)) (fun _ _ _ h => h) (Or.inl ⟨by rfl, ?_⟩) ?_ ?_
 rotate_left
 · intro w'
   first | (go_simp; with_reducible rfl) | (go_simp; unfold Instr.field; go_simp; rfl)
 rotate_left
 · simp only [Act.put, List.setIfInBounds_toArray, List.set_cons_zero, List.set_cons_succ, i64_w, i32_w]
   rfl
 refine take_ (i := 1) (N := some 31) (v := ?_) (a' := ?_) #[true, true, true, false, false, false, false, false, false, false] rfl rfl (take_ofW HT_.out HW_.out (by kernel_rfl)) (fun _ _ _ h => h) (Or.inl ⟨by rfl, ?_⟩) hHeld ?_ ?_
 rotate_left
 · intro w' s0
   go_simp
   with_reducible rfl
 rotate_left
 · simp only [Act.put, List.setIfInBounds_toArray, List.set_cons_zero, List.set_cons_succ, i64_w, i32_w]
   rfl
 refine one_ (i := 3) (N := some 33) #[true, true, true, true, false, false, false, false, false, false] rfl rfl (one_of HT_.out (by kernel_rfl)) (by decide) (fun K hK => ?_)
 refine goes_ Try.func99 (by kernel_rfl) rfl #[.int .i64 a1] (by rfl) rfl rfl (by (try simp only [List.map_toArray, List.map_cons, List.map_nil]); first | done | rfl | (simp only [List.length_drop, List.length_take]; rfl)) ?_
 with_reducible refine (impl_power2.calls a1 t617 _ A28.out).mono ?_
 rintro e w32 ⟨v618, rfl, ho0, hb⟩
 refine ⟨_, rfl, ?_⟩; have HO619 := Aside0.mk (Kd.R_lower ho0 (below_size (hq2 HB GE604 GE605))); replace BK604 := cB BK604 hb; replace BK605 := cB BK605 hb; replace HB := cs (hq2 HB GE604 GE605) hb; (try clear hb); (try clear hb2); (try clear hk); (try clear hi); (try clear ho0); obtain ⟨Ao33, co33, eo33⟩ := Kd.R_slice HO619.out
 (first | subst eo33 | (injection eo33 with f1_ f2_ f3_; have f4_ := f1_.symm; have f5_ := f3_.symm; clear f1_ f2_ f3_; subst f4_; subst f5_))
 refine hK.out _ _ ((blk_cell BK604.out 0).trans rfl) (fun hHeld => ?_)
 clear hK K
 refine norm_ (a' := ?_) ?_ ?_
 rotate_left
 · show Act.put _ (some 33) _ = _
   simp only [Act.put, List.setIfInBounds_toArray, List.set_cons_zero, List.set_cons_succ, i64_w, i32_w]
   rfl
 refine one_ (i := 4) (N := some 34) #[true, true, true, true, true, false, false, false, false, false] rfl rfl (one_of HT_.out (by kernel_rfl)) (by decide) (fun K hK => ?_)
 refine goes_ Try.func87 (by kernel_rfl) rfl #[.slice A0_0 l0_0.length c0_0, .slice Ao33 t617.length co33] (by rfl) rfl rfl (by (try simp only [List.map_toArray, List.map_cons, List.map_nil]); first | done | rfl | (simp only [List.length_drop, List.length_take]; rfl)) ?_
 with_reducible refine (impl_times.calls kj2 _ _ l0_0 _ _ t617 t620 _ ?side1 ?side2 ?side3 ?side4 A29.out).mono ?_
 (case side1 => exact cq (Kd.C_below HR0_0.out HB.out))
 (case side2 => exact HC0_0.out)
 (case side3 => exact cq ((Kd.R_reads' HO619.out).2.2))
 (case side4 => exact (Kd.R_reads' HO619.out).2.1)
 rintro e w34 ⟨v621, rfl, ho0, hb⟩
 refine ⟨_, rfl, ?_⟩; have n0_ := ce HO619 ho0 hb; have HO622 := Aside0.mk (Kd.R_lower (Kd.R_new' ho0 (ql HO619)) (below_size (hq2 HB GE604 GE605))); replace BK604 := cB BK604 hb; replace BK605 := cB BK605 hb; replace HB := cs (hq2 HB GE604 GE605) hb; replace HO619 := n0_; clear n0_; (try clear hb); (try clear hb2); (try clear hk); (try clear hi); (try clear ho0); obtain ⟨Ao35, co35, eo35⟩ := Kd.R_slice HO622.out
 (first | subst eo35 | (injection eo35 with f1_ f2_ f3_; have f4_ := f1_.symm; have f5_ := f3_.symm; clear f1_ f2_ f3_; subst f4_; subst f5_))
 refine hK.out _ _ ((blk_cell BK604.out 0).trans rfl) (fun hHeld => ?_)
 clear hK K
 refine norm_ (a' := ?_) ?_ ?_
 rotate_left
 · show Act.put _ (some 34) _ = _
   simp only [Act.put, List.setIfInBounds_toArray, List.set_cons_zero, List.set_cons_succ, i64_w, i32_w]
   rfl
 refine one_ (i := 5) (N := some 35) #[true, true, true, true, true, true, false, false, false, false] rfl rfl (one_of HT_.out (by kernel_rfl)) (by decide) (fun K hK => ?_)
 refine goes_ Try.func75 (by kernel_rfl) rfl #[.slice Ao35 t620.length co35] (by rfl) rfl rfl (by (try simp only [List.map_toArray, List.map_cons, List.map_nil]); first | done | rfl | (simp only [List.length_drop, List.length_take]; rfl)) ?_
 with_reducible refine (impl_told.calls kj2 (fun k_ => some k_ = (.slice Ao35 t620.length co35 : Value).ownBlock) (.slice Ao35 t620.length co35) t620 t623 t626 w _ ?side1 ?side2 A30.out).mono ?_
 (case side1 => repeat (first | (with_reducible first | exact HB.out | apply below_alloc | apply pw_below_drewN | apply below_drew1 | refine below_set ?_ GE604.out | refine below_set ?_ GE605.out) | exact HB.out))
 (case side2 => exact Kd.R_tight rfl HO622.out)
 rintro e w36 ⟨v624, rfl, ho0, hb, hkp⟩
 refine ⟨_, rfl, ?_⟩
 replace BK604 := Aside0.mk (blk_kept (bq BK604) hkp (fun hs_ => (fun e_ => (Kd.R_ne HO622.out BK604.out (by decide)) e_) hs_))
 replace BK605 := Aside0.mk (blk_kept (bq BK605) hkp (fun hs_ => (fun e_ => (Kd.R_ne HO622.out BK605.out (by decide)) e_) hs_))
 have n2_ := Aside0.mk (Kd.R_mono (ok' := fun k_ => some k_ ≠ (v624 : Value).ownBlock) (Kd.R_keptB (HO619.out) hkp (fun k_ hk_ hs_ => (hk_.2) hs_)) (fun k_ hk_ => fun e_ => Or.elim (ho0.1 k_ e_.symm) (fun hs_ => hk_.2.1 hs_) (fun hn_ => Nat.not_le.2 hk_.2.2 hn_)))
 have HO625 := Aside0.mk (Kd.R_mono (ok' := fun k_ => some k_ ≠ (.slice Ao33 t617.length co33 : Value).ownBlock) ho0 (fun k_ hk_ => Or.elim hk_ (fun hs_ => fun e_ => (((HO619.out).1 k_ e_.symm).2) hs_) (fun hn_ => (Kd.fresh' (ql HO619) k_ hn_))))
 replace HB := Aside0.mk (hb); replace HO619 := n2_; clear n2_ HO622; (try clear hb); (try clear hkp); (try clear ho0); obtain ⟨Ao37, co37, eo37⟩ := Kd.R_slice HO625.out
 (first | subst eo37 | (injection eo37 with f1_ f2_ f3_; have f4_ := f1_.symm; have f5_ := f3_.symm; clear f1_ f2_ f3_; subst f4_; subst f5_))
 refine hK.out _ _ ((blk_cell BK604.out 0).trans rfl) (fun hHeld => ?_)
 clear hK K
 refine norm_ (a' := ?_) ?_ ?_
 rotate_left
 · show Act.put _ (some 35) _ = _
   simp only [Act.put, List.setIfInBounds_toArray, List.set_cons_zero, List.set_cons_succ, i64_w, i32_w]
   rfl
 refine pure_ (i := 6) (N := some 36) (v := ?_) (a' := ?_) #[true, true, true, true, true, true, true, false, false, false] rfl rfl (any_of HT_.out (by kernel_rfl)) (fun _ _ _ h => h) (Or.inl ⟨by rfl, ?_⟩) ?_ ?_
 rotate_left
 · intro w'
   first | (go_simp; with_reducible rfl) | (go_simp; unfold Instr.field; go_simp; rfl)
 rotate_left
 · simp only [Act.put, List.setIfInBounds_toArray, List.set_cons_zero, List.set_cons_succ, i64_w, i32_w]
   rfl
 refine pure_ (i := 7) (N := some 37) (v := ?_) (a' := ?_) #[true, true, true, true, true, true, true, true, false, false] rfl rfl (any_of HT_.out (by kernel_rfl)) (fun _ _ _ h => h) (Or.inl ⟨by rfl, ?_⟩) ?_ ?_
 rotate_left
 · intro w'
   first | (go_simp; with_reducible rfl) | (go_simp; unfold Instr.field; go_simp; rfl)
 rotate_left
 · simp only [Act.put, List.setIfInBounds_toArray, List.set_cons_zero, List.set_cons_succ, i64_w, i32_w]
   rfl
 refine one_ (i := 8) (N := none) #[true, true, true, true, true, true, true, true, true, false] rfl rfl (one_of HT_.out (by kernel_rfl)) (by decide) (fun K hK => ?_)
 have hs38 : w36.cell? ⟨gb605, 0, none⟩ = some (.slice none 0 0) := (blk_cell BK605.out 0).trans rfl
 have hfs38 := blk_frozen BK605.out 0; have hns38_0 := NB604_605.out; have hms38_0 := NB605_604.out
 refine skip_ (w1 := ?_) (by rfl) rfl ?_ ?_
 rotate_left
 · go_simp
   rfl
 refine hK.out _ _ (((cell_far (p := ⟨gb605, _, none⟩) NB604_605.out _).trans (hHeld))) (fun hHeld => ?_)
 clear hK K
 refine pure_ (i := 9) (N := some 5) (v := ?_) (a' := ?_) #[true, true, true, true, true, true, true, true, true, true] rfl rfl (any_of HT_.out (by kernel_rfl)) (fun _ _ _ h => h) (Or.inl ⟨by rfl, ?_⟩) ?_ ?_
 rotate_left
 · intro w'
   first | (go_simp; with_reducible rfl) | (go_simp; unfold Instr.field; go_simp; rfl)
 rotate_left
 · simp only [Act.put, List.setIfInBounds_toArray, List.set_cons_zero, List.set_cons_succ, i64_w, i32_w]
   rfl
 refine done_ (done_of HT_.out (by kernel_rfl)) ?_
 try go_wp2
 refine bodyPost_ret (results_ct rfl _ _ gb605 25 #[.slice Ao37 t623.length co37] (0, 0) _ rfl (by (with_reducible repeat (first | refine blk_drewN ?_ _ | refine blk_drew ?_ | refine blk_alloc ?_ _)); refine blk_put (cs := #[.slice none 0 0]) ?_ 0 _ rfl; (with_reducible repeat (first | refine blk_drewN ?_ _ | refine blk_drew ?_ | refine blk_alloc ?_ _)); exact BK605.out) Try.underlying25 rfl (by kernel_rfl)) rfl ?_
 exact ⟨_, by first | rfl | (simp <;> rfl) | (simp [*] <;> rfl), by (with_reducible repeat (first | apply Kd.R_alloc | apply Kd.R_drewN | apply Kd.R_drew)); exact Kd.R_mono (Kd.R_far (p := ⟨gb605, 0, none⟩) (Kd.R_types HO625.out BK605.out (by decide)) (fun _ hk => hk.2) (.slice Ao37 t623.length co37)) (fun _ hk => trivial), hq2 HB GE604 GE605⟩

/-! ### spec_ShiftBig: function 32 -/
mutual
def spec_ShiftBig.j0 : Nat → Int → Bool → List Int → Option (List Int × Bool)
  | 0, _, _, _ => none
  | k + 1, x1, x14, x628000 => if x14 = true then (some (([] : List Int), false)) else (spec_ShiftBig.l0 k x1 x628000)
def spec_ShiftBig.l0 : Nat → Int → List Int → Option (List Int × Bool)
  | 0, _, _ => none
  | k + 1, x1, x6 => if x1 > 0 then ((spec_l1Twice.f k x6 0).bind fun t631 => (spec_ShiftBig.l0 k (wrap64 (x1 - 1)) t631)) else (spec_ShiftBig.l1 k x1 x6)
def spec_ShiftBig.l1 : Nat → Int → List Int → Option (List Int × Bool)
  | 0, _, _ => none
  | k + 1, x1, x6 => if x1 < 0 then ((spec_l1Div.f k x6 (([2] : List Int))).bind fun bt637 => (spec_ShiftBig.l1 k (wrap64 (x1 + 1)) bt637.1)) else ((spec_l1Tell.f k x6).bind fun bt643 => (some (bt643.1, bt643.2)))
end
def spec_ShiftBig.f (k : Nat) (l0_0 : List Int) (a1 : Int) : Option (List Int × Bool) := (spec_GoodBig.f k l0_0).bind fun t629 => (if t629 = true then ((spec_l1In.f a1 (-96) 96).bind fun t630 => (spec_ShiftBig.j0 k a1 (!t630) l0_0)) else (spec_ShiftBig.j0 k a1 true l0_0))
set_option maxHeartbeats 8000000 in
set_option maxRecDepth 100000 in
theorem spec_ShiftBig.calls (k : Nat) (P0_0_ : Nat → Prop) (A0_0 : Option Addr) (c0_0 : Nat) (l0_0 : List Int) (a1 : Int) (r1 : List Int) (r2 : Bool) (w : World) (hs0_0 : Kd.V (Kd.int .i64) 3 w w.heap.size (fun k_ => P0_0_ k_) (.slice A0_0 l0_0.length c0_0) l0_0) (h : spec_ShiftBig.f k l0_0 a1 = some (r1, r2)) :
    Calls Try.prog 32 #[.agg #[.slice A0_0 l0_0.length c0_0], .int .i64 a1] w fun e w' => ∃ v0_ : Value, e = .returned (.tuple #[.agg #[v0_], .bool r2]) ∧ Kd.R (Kd.int .i64) 3 w' w.heap.size (fun k_ => (w.heap.size ≤ k_)) v0_ r1 ∧ Below w.heap.size w w' := by
 have hu25 := Try.underlying25
 have HO0_0 := Aside0.mk (show Kd.V (Kd.int .i64) 3 w w.heap.size (fun k_ => (P0_0_ k_ ∨ w.heap.size ≤ k_)) (.slice A0_0 l0_0.length c0_0) l0_0 from Kd.V_mono hs0_0 (fun k_ hk => .inl hk))
 have HB := Aside0.mk (Below.refl w.heap.size w)
 have H : ((spec_GoodBig.f k l0_0).bind fun t629 => (if t629 = true then ((spec_l1In.f a1 (-96) 96).bind fun t630 => (spec_ShiftBig.j0 k a1 (!t630) l0_0)) else (spec_ShiftBig.j0 k a1 true l0_0))) = some (r1, r2) := h
 clear h; have HC3 := Aside0.mk H; clear H
 go_enter Try.func32, Try.ntmps32
 go_upto_region 1 with (first | ((with_reducible refine gate_dst (N := 2) rfl ?_); refine bX #[.slice A0_0 l0_0.length c0_0] 25 ?_; intro gb627 hg w4 hbox hb; replace HO0_0 := Aside0.mk (ve HO0_0 gb627 hg hb); have n1_ := cs (hq HB) hb; have BK627 := Aside0.mk (hbox); have GW627 := cg hg (hq HB); have GE627 := cg hg (hq HB); replace HB := n1_; clear n1_; clear hb hbox hg) | ((with_reducible refine gate_dst (N := 4) rfl ?_); refine bX #[.slice none 0 0] 25 ?_; intro gb628 hg w5 hbox hb; replace HO0_0 := Aside0.mk (ve HO0_0 gb628 hg hb); have n1_ := cB BK627 hb; have n2_ := cs (hq1 HB GE627) hb; have BK628 := Aside0.mk (hbox); have GW628 := cg hg (hq1 HB GE627); have GE628 := cg hg (hq1 HB GE627); have NB627_628 := cl hg BK627; have NB628_627 := cr hg BK627; replace BK627 := n1_; replace HB := n2_; clear n1_ n2_; clear hb hbox hg))
 (try simp only [Act.put, List.setIfInBounds_toArray, List.set_cons_zero, List.set_cons_succ])
 go_cut [14] (fun v14 wc => ∃ (kq : Nat) (x14_2 : Bool), v14 = .bool x14_2 ∧ Aside0 (spec_ShiftBig.j0 kq a1 x14_2 l0_0 = some (r1, r2)) ∧ Aside0 (kq ≤ k) ∧ Aside0 (Kd.V (Kd.int .i64) 3 wc w.heap.size (fun k_ => (P0_0_ k_ ∨ w.heap.size ≤ k_) ∧ k_ ≠ gb627 ∧ k_ ≠ gb628) (.slice A0_0 l0_0.length c0_0) l0_0) ∧ Aside0 (wc.heap[gb627]? = some (.cells #[(.slice A0_0 l0_0.length c0_0)] 25 (0, 0))) ∧ Aside0 (wc.heap[gb628]? = some (.cells #[(.slice none 0 0)] 25 (0, 0))) ∧ Aside0 (Below w.heap.size w wc))
 case first =>
   have H := HC3.out; clear HC3; replace H := Option.bind_eq_some_iff.mp H; obtain ⟨t629, A60, H⟩ := H; (try dsimp only at H); have A6 := Aside0.mk A60; clear A60
   by_cases c7 : t629 = true
   rotate_left
   · replace c7 := Bool.eq_false_iff.mpr c7
     subst c7
     have H1 : (spec_ShiftBig.j0 k a1 true l0_0) = some (r1, r2) := by rw [if_neg (show ¬ (false = true) by decide)] at H; exact H
     clear H; have H := H1; clear H1
     have H' := Aside0.mk H
     clear H; have hnb12 := NB627_628.out; have hnc12 := NB628_627.out
     have hcz13_0 : w5.cell? ⟨gb627, 0, none⟩ = some (.slice A0_0 l0_0.length c0_0) := (blk_cell BK627.out 0).trans rfl
     have hfz13_0 := blk_frozen BK627.out 0
     go_wp2_with (first | ((with_reducible refine gate_callee (f := 20) rfl ?_); refine gC (some 8) Try.func20 #[.agg #[.slice A0_0 l0_0.length c0_0]] ?_; (with_reducible refine (spec_GoodBig.calls k _ _ l0_0 false _ ?side1 ?side2 A6.out).mono ?_); (case side1 => exact cq ((Kd.V_reads' HO0_0.out).2.2)); (case side2 => exact (Kd.V_reads' HO0_0.out).2.1); rintro e w14 ⟨rfl, hb⟩; refine ⟨_, rfl, ?_⟩; replace HO0_0 := Aside0.mk (Kd.V_below (vq HO0_0) hb); replace BK627 := cB BK627 hb; replace BK628 := cB BK628 hb; replace HB := cs (hq2 HB GE627 GE628) hb; (try clear hb); (try clear hb2); (try clear hk); (try clear hi)))
     go_meet
     case rel => exact ⟨_, (true), (by first | rfl | (simp; done) | (simp [*]; done)), H', ⟨by first | omega | exact Nat.le_refl _⟩, ⟨by (with_reducible repeat (first | apply Kd.V_alloc | apply Kd.V_drewN | apply Kd.V_drew)); exact Kd.V_mono HO0_0.out (fun _ hk => ⟨hk.1.1, ⟨hk.1.2, hk.2⟩⟩)⟩, ⟨by (with_reducible repeat (first | refine blk_drewN ?_ _ | refine blk_drew ?_ | refine blk_alloc ?_ _)); exact BK627.out⟩, ⟨by (with_reducible repeat (first | refine blk_drewN ?_ _ | refine blk_drew ?_ | refine blk_alloc ?_ _)); exact BK628.out⟩, ⟨hq2 HB GE627 GE628⟩⟩
   subst c7
   have H1 : ((spec_l1In.f a1 (-96) 96).bind fun t630 => (spec_ShiftBig.j0 k a1 (!t630) l0_0)) = some (r1, r2) := by rw [if_pos rfl] at H; exact H
   clear H; have H := H1; clear H1; replace H := Option.bind_eq_some_iff.mp H; obtain ⟨t630, A80, H⟩ := H; (try dsimp only at H); have A8 := Aside0.mk A80; clear A80
   have H' := Aside0.mk H
   clear H; have hnb9 := NB627_628.out; have hnc9 := NB628_627.out
   have hcz10_0 : w5.cell? ⟨gb627, 0, none⟩ = some (.slice A0_0 l0_0.length c0_0) := (blk_cell BK627.out 0).trans rfl
   have hfz10_0 := blk_frozen BK627.out 0
   go_wp2_with (first | ((with_reducible refine gate_callee (f := 20) rfl ?_); refine gC (some 8) Try.func20 #[.agg #[.slice A0_0 l0_0.length c0_0]] ?_; (with_reducible refine (spec_GoodBig.calls k _ _ l0_0 true _ ?side1 ?side2 A6.out).mono ?_); (case side1 => exact cq ((Kd.V_reads' HO0_0.out).2.2)); (case side2 => exact (Kd.V_reads' HO0_0.out).2.1); rintro e w11 ⟨rfl, hb⟩; refine ⟨_, rfl, ?_⟩; replace HO0_0 := Aside0.mk (Kd.V_below (vq HO0_0) hb); replace BK627 := cB BK627 hb; replace BK628 := cB BK628 hb; replace HB := cs (hq2 HB GE627 GE628) hb; (try clear hb); (try clear hb2); (try clear hk); (try clear hi)) | (go_at_call 95; (with_reducible refine (spec_l1In.calls a1 (-96) 96 t630 _ A8.out).mono ?_); rintro e w' ⟨rfl, ⟨nd, rfl⟩⟩))
   go_meet
   case rel => exact ⟨_, (!t630), (by first | rfl | (simp; done) | (simp [*]; done)), H', ⟨by first | omega | exact Nat.le_refl _⟩, ⟨by (with_reducible repeat (first | apply Kd.V_alloc | apply Kd.V_drewN | apply Kd.V_drew)); exact Kd.V_mono HO0_0.out (fun _ hk => ⟨hk.1.1, ⟨hk.1.2, hk.2⟩⟩)⟩, ⟨by (with_reducible repeat (first | refine blk_drewN ?_ _ | refine blk_drew ?_ | refine blk_alloc ?_ _)); exact BK627.out⟩, ⟨by (with_reducible repeat (first | refine blk_drewN ?_ _ | refine blk_drew ?_ | refine blk_alloc ?_ _)); exact BK628.out⟩, ⟨hq2 HB GE627 GE628⟩⟩
 clear HC3; (try clear c1); (try clear c2); (try clear p2); (try clear c3); (try clear c7); (try clear c9); (try clear c12); (try clear hcz10_0); (try clear hcz13_0); (try clear hfz10_0); (try clear hfz13_0); obtain ⟨kq, x14_2, rfl, HA, HJ2, HO_628000, BK627, BK628, HB⟩ := hcut; obtain _ | kj2 := kq
 · exact absurd HA.out (by simp [spec_ShiftBig.j0])
 have H := HA.out; clear HA
 simp only [spec_ShiftBig.j0] at H
 by_cases c15 : x14_2 = true
 · subst c15
   have H1 : (some (([] : List Int), false)) = some (r1, r2) := by rw [if_pos rfl] at H; exact H
   clear H; have H := H1; clear H1
   simp only [Option.some.injEq, Prod.mk.injEq] at H
   obtain ⟨rfl, rfl⟩ := H; have hnb16 := NB628_627.out; have hnc16 := NB627_628.out
   have hcz17_0 : wc.cell? ⟨gb628, 0, none⟩ = some (.slice none 0 0) := (blk_cell BK628.out 0).trans rfl
   have hfz17_0 := blk_frozen BK628.out 0
   go_wp2
   refine bodyPost_ret (results_ct rfl _ _ gb628 25 #[.slice none 0 0] (0, 0) _ rfl (by (with_reducible repeat (first | refine blk_drewN ?_ _ | refine blk_drew ?_ | refine blk_alloc ?_ _)); refine blk_put (cs := #[.slice none 0 0]) ?_ 0 _ rfl; (with_reducible repeat (first | refine blk_drewN ?_ _ | refine blk_drew ?_ | refine blk_alloc ?_ _)); exact BK628.out) Try.underlying25 rfl (by kernel_rfl)) rfl ?_
   exact ⟨_, by first | rfl | (simp <;> rfl) | (simp [*] <;> rfl), by first | exact Kd.R_nil _ _ _ _ _ | exact Kd.R_nil _ _ _ 0 _ | exact Kd.N_nil _ _ _ _ _ | exact Kd.V_nil _ _ _ _ _ | exact Kd.Q_nil _ _ _ _ _ | exact Kd.S_nil _ _ _ _ _, hq2 HB GE627 GE628⟩
 replace c15 := Bool.eq_false_iff.mpr c15; subst c15
 have H1 : (spec_ShiftBig.l0 kj2 a1 l0_0) = some (r1, r2) := by rw [if_neg (show ¬ (false = true) by decide)] at H; exact H
 clear H; have H := H1; clear H1
 have H' := Aside0.mk H
 clear H; have hnb18 := NB627_628.out; have hnc18 := NB628_627.out
 have hcz19_0 : wc.cell? ⟨gb627, 0, none⟩ = some (.slice A0_0 l0_0.length c0_0) := (blk_cell BK627.out 0).trans rfl
 have hfz19_0 := blk_frozen BK627.out 0
 go_wp2
 go_loopg [1, 6] kj2 (fun kq v1 v6 w' => ∃ (x1_2 : Int) (x6_2 : List Int), v1 = .int .i64 x1_2 ∧ Aside0 (spec_ShiftBig.l0 kq x1_2 x6_2 = some (r1, r2)) ∧ Aside0 (kq ≤ kj2) ∧ Aside0 (Kd.V (Kd.int .i64) 3 w' w.heap.size (fun k_ => (P0_0_ k_ ∨ w.heap.size ≤ k_) ∧ k_ ≠ gb627 ∧ k_ ≠ gb628) v6 x6_2) ∧ Aside0 (Kd.V (Kd.int .i64) 3 w' w.heap.size (fun k_ => (P0_0_ k_ ∨ w.heap.size ≤ k_) ∧ k_ ≠ gb627 ∧ k_ ≠ gb628) (.slice A0_0 l0_0.length c0_0) l0_0) ∧ Aside0 (w'.heap[gb627]? = some (.cells #[(.slice A0_0 l0_0.length c0_0)] 25 (0, 0))) ∧ Aside0 (w'.heap[gb628]? = some (.cells #[(.slice none 0 0)] 25 (0, 0))) ∧ Aside0 (Below w.heap.size w w'))
 case atStart => exact ⟨(a1), (l0_0), (by first | rfl | (simp; done) | (simp [*]; done)), H', ⟨Nat.le_refl _⟩, ⟨by (with_reducible repeat (first | apply Kd.V_alloc | apply Kd.V_drewN | apply Kd.V_drew)); exact HO_628000.out⟩, ⟨by (with_reducible repeat (first | apply Kd.V_alloc | apply Kd.V_drewN | apply Kd.V_drew)); exact HO_628000.out⟩, ⟨by (with_reducible repeat (first | refine blk_drewN ?_ _ | refine blk_drew ?_ | refine blk_alloc ?_ _)); exact BK627.out⟩, ⟨by (with_reducible repeat (first | refine blk_drewN ?_ _ | refine blk_drew ?_ | refine blk_alloc ?_ _)); exact BK628.out⟩, ⟨hq2 HB GE627 GE628⟩⟩
 case round =>
   clear H'
   (try clear c1); (try clear c2); (try clear p2); (try clear c3); (try clear c7); (try clear c9); (try clear c12); (try clear c15); (try clear c16); (try clear c18); (try clear hcz10_0); (try clear hcz13_0); (try clear hcz17_0); (try clear hcz19_0); (try clear hfz10_0); (try clear hfz13_0); (try clear hfz17_0); (try clear hfz19_0); (try clear p2); obtain ⟨x1_2, x6_2, rfl, HA, HK2, HO_6, HO_628000, BK627, BK628, HB⟩ := hrel
   cases gk with
   | zero => exact absurd HA.out (by simp [spec_ShiftBig.l0])
   | succ k2 =>
     have H := HA.out; clear HA
     simp only [spec_ShiftBig.l0] at H
     by_cases c20 : x1_2 > 0
     · rw [if_pos c20] at H
       have c20b0 : decide (0 < x1_2) = true := decide_eq_true c20
       clear c20; replace H := Option.bind_eq_some_iff.mp H; obtain ⟨t631, A210, H⟩ := H; (try dsimp only at H); have A21 := Aside0.mk A210; clear A210
       have H' := Aside0.mk H
       clear H; obtain ⟨Ao22, co22, eo22⟩ := Kd.V_slice HO_6.out; subst eo22
       go_wp2_with (first | ((with_reducible refine gate_callee (f := 100) rfl ?_); refine gC (some 23) Try.func100 #[.slice Ao22 x6_2.length co22, .int .i64 0] ?_; (with_reducible refine (spec_l1Twice.calls k2 _ _ x6_2 0 t631 _ ?side1 ?side2 A21.out).mono ?_); (case side1 => exact cq ((Kd.V_reads' HO_6.out).2.2)); (case side2 => exact (Kd.V_reads' HO_6.out).2.1); rintro e w23 ⟨v632, rfl, ho0, hb⟩; refine ⟨_, rfl, ?_⟩; replace HO_6 := Aside0.mk (Kd.V_below (vq HO_6) hb); replace HO_628000 := Aside0.mk (Kd.V_below (vq HO_628000) hb); have HO633 := Aside0.mk (Kd.V_lower (Kd.V_mono (ok' := fun k_ => (P0_0_ k_ ∨ w.heap.size ≤ k_) ∧ k_ ≠ gb627 ∧ k_ ≠ gb628) ho0 (fun k_ hk_ => ⟨(.inr (Nat.le_trans (below_size (hq2 HB GE627 GE628)) hk_)), (Kd.freshB (g := gb627) (o := .cells #[.slice A0_0 l0_0.length c0_0] 25 (0, 0)) (bq BK627) k_ hk_), (Kd.freshB (g := gb628) (o := .cells #[.slice none 0 0] 25 (0, 0)) (bq BK628) k_ hk_)⟩)) (below_size (hq2 HB GE627 GE628))); replace BK627 := cB BK627 hb; replace BK628 := cB BK628 hb; replace HB := cs (hq2 HB GE627 GE628) hb; (try clear hb); (try clear hb2); (try clear hk); (try clear hi); (try clear ho0)))
       go_roundg k2
       case measure => have := HJ2.out; have := HK2.out; omega
       case rel => exact ⟨(wrap64 (x1_2 - 1)), (t631), (by first | rfl | (simp; done) | (simp [*]; done)), H', ⟨by have := HJ2.out; have := HK2.out; omega⟩, ⟨by (with_reducible repeat (first | apply Kd.V_alloc | apply Kd.V_drewN | apply Kd.V_drew)); exact HO633.out⟩, ⟨by (with_reducible repeat (first | apply Kd.V_alloc | apply Kd.V_drewN | apply Kd.V_drew)); exact HO_628000.out⟩, ⟨by (with_reducible repeat (first | refine blk_drewN ?_ _ | refine blk_drew ?_ | refine blk_alloc ?_ _)); exact BK627.out⟩, ⟨by (with_reducible repeat (first | refine blk_drewN ?_ _ | refine blk_drew ?_ | refine blk_alloc ?_ _)); exact BK628.out⟩, ⟨hq2 HB GE627 GE628⟩⟩
     · rw [if_neg c20] at H
       have c20b0 : decide (0 < x1_2) = false := decide_eq_false c20
       clear c20
       have H' := Aside0.mk H
       clear H
       go_wp2
       go_loopg [1, 6] k2 (fun kq v1 v6 w' => ∃ (x1_3 : Int) (x6_3 : List Int), v1 = .int .i64 x1_3 ∧ Aside0 (spec_ShiftBig.l1 kq x1_3 x6_3 = some (r1, r2)) ∧ Aside0 (kq ≤ k2) ∧ Aside0 (Kd.V (Kd.int .i64) 3 w' w.heap.size (fun k_ => (P0_0_ k_ ∨ w.heap.size ≤ k_) ∧ k_ ≠ gb627 ∧ k_ ≠ gb628) v6 x6_3) ∧ Aside0 (Kd.V (Kd.int .i64) 3 w' w.heap.size (fun k_ => (P0_0_ k_ ∨ w.heap.size ≤ k_) ∧ k_ ≠ gb627 ∧ k_ ≠ gb628) (.slice A0_0 l0_0.length c0_0) l0_0) ∧ Aside0 (w'.heap[gb627]? = some (.cells #[(.slice A0_0 l0_0.length c0_0)] 25 (0, 0))) ∧ Aside0 (w'.heap[gb628]? = some (.cells #[(.slice none 0 0)] 25 (0, 0))) ∧ Aside0 (Below w.heap.size w w'))
       case atStart => exact ⟨(x1_2), (x6_2), (by first | rfl | (simp; done) | (simp [*]; done)), H', ⟨Nat.le_refl _⟩, ⟨by (with_reducible repeat (first | apply Kd.V_alloc | apply Kd.V_drewN | apply Kd.V_drew)); exact HO_6.out⟩, ⟨by (with_reducible repeat (first | apply Kd.V_alloc | apply Kd.V_drewN | apply Kd.V_drew)); exact HO_628000.out⟩, ⟨by (with_reducible repeat (first | refine blk_drewN ?_ _ | refine blk_drew ?_ | refine blk_alloc ?_ _)); exact BK627.out⟩, ⟨by (with_reducible repeat (first | refine blk_drewN ?_ _ | refine blk_drew ?_ | refine blk_alloc ?_ _)); exact BK628.out⟩, ⟨hq2 HB GE627 GE628⟩⟩
       case round =>
         clear H'
         (try clear c1); (try clear c2); (try clear p2); (try clear c3); (try clear p6); (try clear c7); (try clear c9); (try clear c10); (try clear c12); (try clear c15); (try clear c16); (try clear c18); (try clear c20); (try clear c20b0); (try clear hcz10_0); (try clear hcz13_0); (try clear hcz17_0); (try clear hcz19_0); (try clear hfz10_0); (try clear hfz13_0); (try clear hfz17_0); (try clear hfz19_0); (try clear p2); obtain ⟨x1_3, x6_3, rfl, HA, HK3, HO_6, HO_628000, BK627, BK628, HB⟩ := hrel
         cases gk with
         | zero => exact absurd HA.out (by simp [spec_ShiftBig.l1])
         | succ k3 =>
           have H := HA.out; clear HA
           simp only [spec_ShiftBig.l1] at H
           by_cases c24 : x1_3 < 0
           · rw [if_pos c24] at H
             have c24b0 : decide (x1_3 < 0) = true := decide_eq_true c24
             clear c24; obtain ⟨y634, hy634⟩ : ∃ y_ : List Int, y_ = (([2] : List Int)) := ⟨_, rfl⟩
             replace H : ((spec_l1Div.f k3 x6_3 y634).bind fun bt637 => (spec_ShiftBig.l1 k3 (wrap64 (x1_3 + 1)) bt637.1)) = some (r1, r2) := by first | (rw [hy634]; with_reducible exact H) | (have H2_ := (Option.bind_some _ _).symm.trans H; rw [hy634]; with_reducible exact H2_) | (have H2_ := (Option.bind_some _ _).symm.trans H; with_reducible exact H2_) | with_reducible exact H | (rw [hy634]; exact H) | exact H
             have Ny634 := Aside0.mk hy634; clear hy634; replace H := Option.bind_eq_some_iff.mp H; obtain ⟨⟨t637, t640⟩, A250, H⟩ := H; (try dsimp only at H); have A25 := Aside0.mk A250; clear A250
             have H' := Aside0.mk H
             clear H
             go_wp2_with (first | ((with_reducible refine gate_dst (N := 30) rfl ?_); refine Kd.R_lit (Kd.int .i64) _ 3 ?hg (N := 30) ?hd (xs := ([2] : List Int)) (inner := [.int .i64 2]) (ok := fun _ => True) (okp := fun _ => True) ?hr ?hp (fun _ hk => hk) trivial (Below.refl _ _) (Nat.le_refl _) (by simp) ?_; (case hd => rfl); (case hg => rfl); (case hr => first | (go_simp; done) | (go_simp; rfl)); (case hp => exact (Reps.one (show Kd.M (Kd.int .i64) _ _ _ 2 [.int .i64 2] from rfl) (Reps.none _ _))); intro v635 w26 ho27 hb hg_ hnew_; clear hg_ hnew_; (first | rw [← Ny634.out] at ho27 | (simp only [Int.reduceToNat] at ho27; rw [← Ny634.out] at ho27)); replace HO_6 := Aside0.mk (vb HO_6 ho27 hb); replace HO_628000 := Aside0.mk (vb HO_628000 ho27 hb); have HO636 := Aside0.mk (Kd.R_lower (Kd.R_newM (M := fun k_ => (w.heap.size ≤ k_)) ho27 (below_size (hq2 HB GE627 GE628)) (fun k_ h_ => h_)) (below_size (hq2 HB GE627 GE628))); replace BK627 := cB BK627 hb; replace BK628 := cB BK628 hb; replace HB := cs (hq2 HB GE627 GE628) hb; clear hb ho27; obtain ⟨Ao28, co28, eo28⟩ := Kd.V_slice HO_6.out; subst eo28; obtain ⟨Ao29, co29, eo29⟩ := Kd.R_slice HO636.out; subst eo29) | ((with_reducible refine gate_callee (f := 81) rfl ?_); refine gC (some 31) Try.func81 #[.slice Ao28 x6_3.length co28, .slice Ao29 y634.length co29] ?_; (with_reducible refine (spec_l1Div.calls k3 _ _ x6_3 _ _ y634 t637 t640 _ ?side1 ?side2 ?side3 ?side4 A25.out).mono ?_); (case side1 => exact cq ((Kd.V_reads' HO_6.out).2.2)); (case side2 => exact (Kd.V_reads' HO_6.out).2.1); (case side3 => exact cq ((Kd.R_reads' HO636.out).2.2)); (case side4 => exact (Kd.R_reads' HO636.out).2.1); rintro e w30 ⟨v638, v641, rfl, ho0, ho1, hb⟩; refine ⟨_, rfl, ?_⟩; replace HO_6 := Aside0.mk (Kd.V_below (vq HO_6) hb); replace HO_628000 := Aside0.mk (Kd.V_below (vq HO_628000) hb); have n2_ := cb HO636 hb; have HO639 := Aside0.mk (Kd.V_lower (Kd.V_mono (ok' := fun k_ => (P0_0_ k_ ∨ w.heap.size ≤ k_) ∧ some k_ ≠ (.slice Ao29 y634.length co29 : Value).ownBlock ∧ k_ ≠ gb627 ∧ k_ ≠ gb628) ho0 (fun k_ hk_ => ⟨(.inr (Nat.le_trans (below_size (hq2 HB GE627 GE628)) hk_)), (Kd.fresh' (ql HO636) k_ hk_), (Kd.freshB (g := gb627) (o := .cells #[.slice A0_0 l0_0.length c0_0] 25 (0, 0)) (bq BK627) k_ hk_), (Kd.freshB (g := gb628) (o := .cells #[.slice none 0 0] 25 (0, 0)) (bq BK628) k_ hk_)⟩)) (below_size (hq2 HB GE627 GE628))); have HO642 := Aside0.mk (Kd.V_lower (Kd.V_mono (ok' := fun k_ => (P0_0_ k_ ∨ w.heap.size ≤ k_) ∧ some k_ ≠ (.slice Ao29 y634.length co29 : Value).ownBlock ∧ k_ ≠ gb627 ∧ k_ ≠ gb628) ho1 (fun k_ hk_ => ⟨(.inr (Nat.le_trans (below_size (hq2 HB GE627 GE628)) hk_)), (Kd.fresh' (ql HO636) k_ hk_), (Kd.freshB (g := gb627) (o := .cells #[.slice A0_0 l0_0.length c0_0] 25 (0, 0)) (bq BK627) k_ hk_), (Kd.freshB (g := gb628) (o := .cells #[.slice none 0 0] 25 (0, 0)) (bq BK628) k_ hk_)⟩)) (below_size (hq2 HB GE627 GE628))); replace BK627 := cB BK627 hb; replace BK628 := cB BK628 hb; replace HB := cs (hq2 HB GE627 GE628) hb; replace HO636 := n2_; clear n2_; (try clear hb); (try clear hb2); (try clear hk); (try clear hi); (try clear ho0); (try clear ho1)))
             go_roundg k3
             case measure => have := HJ2.out; have := HK2.out; have := HK3.out; omega
             case rel => exact ⟨(wrap64 (x1_3 + 1)), (t637), (by first | rfl | (simp; done) | (simp [*]; done)), H', ⟨by have := HJ2.out; have := HK2.out; have := HK3.out; omega⟩, ⟨by (with_reducible repeat (first | apply Kd.V_alloc | apply Kd.V_drewN | apply Kd.V_drew)); exact Kd.V_mono HO639.out (fun _ hk => ⟨hk.1, ⟨hk.2.2.1, hk.2.2.2⟩⟩)⟩, ⟨by (with_reducible repeat (first | apply Kd.V_alloc | apply Kd.V_drewN | apply Kd.V_drew)); exact Kd.V_mono HO_628000.out (fun _ hk => ⟨hk.1.1, ⟨hk.1.2.1, hk.1.2.2⟩⟩)⟩, ⟨by (with_reducible repeat (first | refine blk_drewN ?_ _ | refine blk_drew ?_ | refine blk_alloc ?_ _)); exact BK627.out⟩, ⟨by (with_reducible repeat (first | refine blk_drewN ?_ _ | refine blk_drew ?_ | refine blk_alloc ?_ _)); exact BK628.out⟩, ⟨hq2 HB GE627 GE628⟩⟩
           · rw [if_neg c24] at H
             have c24b0 : decide (x1_3 < 0) = false := decide_eq_false c24
             clear c24; replace H := Option.bind_eq_some_iff.mp H; obtain ⟨⟨t643, t646⟩, A310, H⟩ := H; (try dsimp only at H); have A31 := Aside0.mk A310; clear A310
             simp only [Option.some.injEq, Prod.mk.injEq] at H
             obtain ⟨rfl, rfl⟩ := H; obtain ⟨Ao32, co32, eo32⟩ := Kd.V_slice HO_6.out; subst eo32
             go_wp2_with (first | ((with_reducible refine gate_callee (f := 78) rfl ?_); refine gC (some 35) Try.func78 #[.slice Ao32 x6_3.length co32] ?_; (with_reducible refine (spec_l1Tell.calls k3 _ _ x6_3 t643 t646 _ ?side1 ?side2 A31.out).mono ?_); (case side1 => exact cq ((Kd.V_reads' HO_6.out).2.2)); (case side2 => exact (Kd.V_reads' HO_6.out).2.1); rintro e w33 ⟨v644, rfl, ho0, hb⟩; refine ⟨_, rfl, ?_⟩; replace HO_6 := Aside0.mk (vb HO_6 ho0 hb); replace HO_628000 := Aside0.mk (vb HO_628000 ho0 hb); have HO645 := Aside0.mk (Kd.R_lower (Kd.R_newM (M := fun k_ => (w.heap.size ≤ k_)) ho0 (below_size (hq2 HB GE627 GE628)) (fun k_ h_ => h_)) (below_size (hq2 HB GE627 GE628))); replace BK627 := cB BK627 hb; replace BK628 := cB BK628 hb; replace HB := cs (hq2 HB GE627 GE628) hb; (try clear hb); (try clear hb2); (try clear hk); (try clear hi); (try clear ho0); obtain ⟨Ao34, co34, eo34⟩ := Kd.R_slice HO645.out; subst eo34; have hnb35 := NB628_627.out; have hnc35 := NB627_628.out; have hcz36_0 : w33.cell? ⟨gb628, 0, none⟩ = some (.slice none 0 0) := (blk_cell BK628.out 0).trans rfl; have hfz36_0 := blk_frozen BK628.out 0))
             refine bodyPost_ret (results_ct rfl _ _ gb628 25 #[.slice Ao34 t643.length co34] (0, 0) _ rfl (by (with_reducible repeat (first | refine blk_drewN ?_ _ | refine blk_drew ?_ | refine blk_alloc ?_ _)); refine blk_put (cs := #[.slice none 0 0]) ?_ 0 _ rfl; (with_reducible repeat (first | refine blk_drewN ?_ _ | refine blk_drew ?_ | refine blk_alloc ?_ _)); exact BK628.out) Try.underlying25 rfl (by kernel_rfl)) rfl ?_
             exact ⟨_, by first | rfl | (simp <;> rfl) | (simp [*] <;> rfl), by (with_reducible repeat (first | apply Kd.R_alloc | apply Kd.R_drewN | apply Kd.R_drew)); exact Kd.R_mono (Kd.R_far (p := ⟨gb628, 0, none⟩) (Kd.R_types HO645.out BK628.out (by decide)) (fun _ hk => hk.2) (.slice Ao34 t643.length co34)) (fun _ hk => hk.1.1), hq2 HB GE627 GE628⟩

end Go.Proofs.Ytadooofomkdaoaa.QFnLimbs
