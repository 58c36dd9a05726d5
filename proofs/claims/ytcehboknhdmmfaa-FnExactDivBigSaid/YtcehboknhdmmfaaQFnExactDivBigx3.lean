import Derived.Test.YtcehboknhdmmfaaSqueeze
import Derived.Test.YtcehboknhdmmfaaQFnExactDivBigx0
import Derived.Test.YtcehboknhdmmfaaQFnExactDivBigx2
namespace Go.Proofs.Ytcehboknhdmmfaa.QFnExactDivBig
open Go.RowKit Go.Proofs.YtcehboknhdmmfaaW.PrintWords Go.Proofs.YtcehboknhdmmfaaW.PrintLast Go.Proofs.YtcehboknhdmmfaaW.PrintMore
attribute [local go_sem] max2_int min2_int max_two min_two max_three min_three max_four min_four   -- for this text's walks alone
set_option linter.unusedVariables false
set_option linter.unusedSimpArgs false

/-! ### spec_l1Add: function 55 -/
mutual
def spec_l1Add.l0 : Nat → List Int → List Int → List Int → Int → Int → Option (List Int)
  | 0, _, _, _, _, _ => none
  | k + 1, x0, x1, x5, x6, x7 => if x7 < (x0.length : Int) then (spec_l1Add.j1 k x0 x1 x5 x6 x7 true) else (if x7 < (x1.length : Int) then (spec_l1Add.j1 k x0 x1 x5 x6 x7 true) else (spec_l1Add.j1 k x0 x1 x5 x6 x7 (decide (x6 > 0))))
def spec_l1Add.j1 : Nat → List Int → List Int → List Int → Int → Int → Bool → Option (List Int)
  | 0, _, _, _, _, _, _ => none
  | k + 1, x0, x1, x5, x6, x7, x22 => if x22 = true then ((spec_l1At.f x0 x7).bind fun t172 => ((spec_l1At.f x1 x7).bind fun t173 => (if x5.length < 17592186044416 then (spec_l1Add.l0 k x0 x1 (x5 ++ [Int.tmod (wrap64 ((wrap64 (t172 + t173)) + x6)) 65536]) (wrap64 (Int.tdiv (wrap64 ((wrap64 (t172 + t173)) + x6)) 65536)) (wrap64 (x7 + 1))) else (none)))) else ((spec_l1Trim.f k x5).bind fun t177 => (some t177))
end
def spec_l1Add.f (k : Nat) (l0 : List Int) (l1 : List Int) : Option (List Int) := spec_l1Add.l0 k l0 l1 ([] : List Int) 0 0
set_option maxHeartbeats 8000000 in
set_option maxRecDepth 100000 in
theorem spec_l1Add.calls (k : Nat) (A0 : Option Addr) (c0 : Nat) (l0 : List Int) (A1 : Option Addr) (c1 : Nat) (l1 : List Int) (r : List Int) (w : World) (hr0 : Kd.C (Kd.int .i64) w A0 l0.length l0) (hc0 : l0.length ≤ c0) (hr1 : Kd.C (Kd.int .i64) w A1 l1.length l1) (hc1 : l1.length ≤ c1) (h : spec_l1Add.f k l0 l1 = some r) :
    Calls Try.prog 55 #[.slice A0 l0.length c0, .slice A1 l1.length c1] w fun e w' => ∃ v0_ : Value, e = .returned (v0_) ∧ Kd.V (Kd.int .i64) 3 w' w.heap.size (fun k_ => (w.heap.size ≤ k_)) v0_ r ∧ Below w.heap.size w w' := by
 have HR0 := Aside0.mk hr0
 have HC0 := Aside0.mk hc0
 clear hr0 hc0
 have HR1 := Aside0.mk hr1
 have HC1 := Aside0.mk hc1
 clear hr1 hc1
 have HB := Aside0.mk (Below.refl w.heap.size w)
 have H : (spec_l1Add.l0 k l0 l1 ([] : List Int) 0 0) = some r := h
 clear h
 have H' := Aside0.mk H
 clear H
 go_enter Try.func55, Try.ntmps55
 go_wp2
 go_loopg [5, 6, 7] k (fun kq v5 v6 v7 w' => ∃ (x5_1 : List Int) (x6_1 : Int) (x7_1 : Int), v6 = .int .i64 x6_1 ∧ v7 = .int .i64 x7_1 ∧ Aside0 (spec_l1Add.l0 kq l0 l1 x5_1 x6_1 x7_1 = some r) ∧ Aside0 (kq ≤ k) ∧ Aside0 (Kd.R (Kd.int .i64) 3 w' w.heap.size (fun k_ => (w.heap.size ≤ k_)) v5 x5_1) ∧ Aside0 (Below w.heap.size w w'))
 case atStart => exact ⟨(([] : List Int)), (0), (0), (by first | rfl | (simp; done) | (simp [*]; done)), (by first | rfl | (simp; done) | (simp [*]; done)), H', ⟨Nat.le_refl _⟩, ⟨by first | exact Kd.R_nil _ _ _ _ _ | exact Kd.R_nil _ _ _ 0 _ | exact Kd.N_nil _ _ _ _ _ | exact Kd.V_nil _ _ _ _ _ | exact Kd.Q_nil _ _ _ _ _ | exact Kd.S_nil _ _ _ _ _⟩, ⟨hq HB⟩⟩
 case round =>
   clear H'
   try clear c1
   try clear p2
   obtain ⟨x5_1, x6_1, x7_1, rfl, rfl, HA, HK1, HO_5, HB⟩ := hrel
   cases gk with
   | zero => exact absurd HA.out (by simp [spec_l1Add.l0])
   | succ k1 =>
     have H := HA.out
     clear HA
     simp only [spec_l1Add.l0] at H
     have HC3 := Aside0.mk H
     clear H
     go_upto_region 4 with (fail)
     go_cut [22] (fun v22 wc => ∃ (kq : Nat) (x22_2 : Bool), v22 = .bool x22_2 ∧ Aside0 (spec_l1Add.j1 kq l0 l1 x5_1 x6_1 x7_1 x22_2 = some r) ∧ Aside0 (kq ≤ k1) ∧ Aside0 (Kd.R (Kd.int .i64) 3 wc w.heap.size (fun k_ => (w.heap.size ≤ k_)) u5 x5_1) ∧ Aside0 (Below w.heap.size w wc))
     case first =>
       have H := HC3.out
       clear HC3
       by_cases c4 : x7_1 < (l0.length : Int)
       · rw [if_pos c4] at H
         have c4b0 : decide (x7_1 < (l0.length : Int)) = true := decide_eq_true c4
         clear c4
         (first | rw [c4b0] | (simp only [i64_w, i32_w]; rw [c4b0]) | skip)
         have H' := Aside0.mk H
         clear H
         go_wp2
         go_meet
         case rel => exact ⟨_, (true), (by first | rfl | (simp; done) | (simp [*]; done)), H', ⟨by have := HK1.out; first | omega | exact Nat.le_refl _⟩, ⟨by (with_reducible repeat (first | apply Kd.R_alloc | apply Kd.R_drewN | apply Kd.R_drew)); exact HO_5.out⟩, ⟨hq HB⟩⟩
       · rw [if_neg c4] at H
         have c4b0 : decide (x7_1 < (l0.length : Int)) = false := decide_eq_false c4
         clear c4
         (first | rw [c4b0] | (simp only [i64_w, i32_w]; rw [c4b0]) | skip)
         by_cases c5 : x7_1 < (l1.length : Int)
         · rw [if_pos c5] at H
           have c5b0 : decide (x7_1 < (l1.length : Int)) = true := decide_eq_true c5
           clear c5
           have H' := Aside0.mk H
           clear H
           go_wp2
           go_meet
           case rel => exact ⟨_, (true), (by first | rfl | (simp; done) | (simp [*]; done)), H', ⟨by have := HK1.out; first | omega | exact Nat.le_refl _⟩, ⟨by (with_reducible repeat (first | apply Kd.R_alloc | apply Kd.R_drewN | apply Kd.R_drew)); exact HO_5.out⟩, ⟨hq HB⟩⟩
         · rw [if_neg c5] at H
           have c5b0 : decide (x7_1 < (l1.length : Int)) = false := decide_eq_false c5
           clear c5
           have H' := Aside0.mk H
           clear H
           go_wp2
           go_meet
           case rel => exact ⟨_, (decide (x6_1 > 0)), (by first | rfl | (simp; done) | (simp [*]; done)), H', ⟨by have := HK1.out; first | omega | exact Nat.le_refl _⟩, ⟨by (with_reducible repeat (first | apply Kd.R_alloc | apply Kd.R_drewN | apply Kd.R_drew)); exact HO_5.out⟩, ⟨hq HB⟩⟩
     case rest =>
       clear HC3
       try clear c1
       try clear p2
       try clear c4
       try clear c4b0
       try clear c5
       try clear c5b0
       try clear p2
       obtain ⟨kq, x22_2, rfl, HA, HJ2, HO_5, HB⟩ := hcut
       cases kq with
       | zero => exact absurd HA.out (by simp [spec_l1Add.j1])
       | succ kj2 =>
         have H := HA.out
         clear HA
         simp only [spec_l1Add.j1] at H
         by_cases c6 : x22_2 = true
         · subst c6
           have H1 : ((spec_l1At.f l0 x7_1).bind fun t172 => ((spec_l1At.f l1 x7_1).bind fun t173 => (if x5_1.length < 17592186044416 then (spec_l1Add.l0 kj2 l0 l1 (x5_1 ++ [Int.tmod (wrap64 ((wrap64 (t172 + t173)) + x6_1)) 65536]) (wrap64 (Int.tdiv (wrap64 ((wrap64 (t172 + t173)) + x6_1)) 65536)) (wrap64 (x7_1 + 1))) else (none)))) = some r := by rw [if_pos rfl] at H; exact H
           clear H
           have H := H1
           clear H1
           replace H := Option.bind_eq_some_iff.mp H
           obtain ⟨t172, A70, H⟩ := H
           replace H : ((spec_l1At.f l1 x7_1).bind fun t173 => (if x5_1.length < 17592186044416 then (spec_l1Add.l0 kj2 l0 l1 (x5_1 ++ [Int.tmod (wrap64 ((wrap64 (t172 + t173)) + x6_1)) 65536]) (wrap64 (Int.tdiv (wrap64 ((wrap64 (t172 + t173)) + x6_1)) 65536)) (wrap64 (x7_1 + 1))) else (none))) = some r := H
           have A7 := Aside0.mk A70
           clear A70
           replace H := Option.bind_eq_some_iff.mp H
           obtain ⟨t173, A80, H⟩ := H
           replace H : (if x5_1.length < 17592186044416 then (spec_l1Add.l0 kj2 l0 l1 (x5_1 ++ [Int.tmod (wrap64 ((wrap64 (t172 + t173)) + x6_1)) 65536]) (wrap64 (Int.tdiv (wrap64 ((wrap64 (t172 + t173)) + x6_1)) 65536)) (wrap64 (x7_1 + 1))) else (none)) = some r := H
           have A8 := Aside0.mk A80
           clear A80
           by_cases c9 : x5_1.length < 17592186044416
           · rw [if_pos c9] at H
             have LMc9 := Aside0.mk c9
             clear c9
             obtain ⟨y174, hy174⟩ : ∃ y_ : List Int, y_ = (x5_1 ++ [Int.tmod (wrap64 ((wrap64 (t172 + t173)) + x6_1)) 65536]) := ⟨_, rfl⟩
             replace H : (spec_l1Add.l0 kj2 l0 l1 y174 (wrap64 (Int.tdiv (wrap64 ((wrap64 (t172 + t173)) + x6_1)) 65536)) (wrap64 (x7_1 + 1))) = some r := by first | (rw [hy174]; with_reducible exact H) | (have H2_ := (Option.bind_some _ _).symm.trans H; rw [hy174]; with_reducible exact H2_) | (have H2_ := (Option.bind_some _ _).symm.trans H; with_reducible exact H2_) | with_reducible exact H | (rw [hy174]; exact H) | exact H
             have Ny174 := Aside0.mk hy174
             clear hy174
             have H' := Aside0.mk H
             clear H
             go_wp2_with (first | ((with_reducible refine gate_callee (f := 72) rfl ?_); refine goesL_ (some 27) rfl rfl Try.func72 (by kernel_rfl) rfl #[.slice A0 l0.length c0, .int .i64 x7_1] rfl (by (try simp only [List.map_toArray, List.map_cons, List.map_nil]); first | done | rfl | (simp only [List.length_drop, List.length_take]; rfl)) ?_; (with_reducible refine (spec_l1At.calls _ _ l0 x7_1 t172 _ ?side1 ?side2 A7.out).mono ?_); (case side1 => repeat (first | exact (Kd.C_below HR0.out HB.out) | (with_reducible refine Kd.C_alloc ?_ _) | (with_reducible refine Kd.C_drewN ?_ _) | (with_reducible refine Kd.C_drew ?_))); (case side2 => exact HC0.out); rintro e w' ⟨rfl, ⟨nd, rfl⟩⟩; refine ⟨_, rfl, ?_⟩) | ((with_reducible refine gate_callee (f := 72) rfl ?_); refine goesL_ (some 30) rfl rfl Try.func72 (by kernel_rfl) rfl #[.slice A1 l1.length c1, .int .i64 x7_1] rfl (by (try simp only [List.map_toArray, List.map_cons, List.map_nil]); first | done | rfl | (simp only [List.length_drop, List.length_take]; rfl)) ?_; (with_reducible refine (spec_l1At.calls _ _ l1 x7_1 t173 _ ?side1 ?side2 A8.out).mono ?_); (case side1 => repeat (first | exact (Kd.C_below HR1.out (hq HB)) | (with_reducible refine Kd.C_alloc ?_ _) | (with_reducible refine Kd.C_drewN ?_ _) | (with_reducible refine Kd.C_drew ?_))); (case side2 => exact HC1.out); rintro e w' ⟨rfl, ⟨nd, rfl⟩⟩; refine ⟨_, rfl, ?_⟩) | ((with_reducible refine gate_builtin (b := .append) (xs := #[.tmp 34, .tmp 37]) rfl ?_); (try (refine gate_guard (by rfl) ?_; dsimp only)); at_builtin; refine Kd.R_append (Kd.int .i64) (w0 := w) w.heap.size rfl (.tmp 34) (.tmp 37) 22 3 (.int .i64 0) 8 rfl Try.underlying22 info3 rfl (by decide) (by omega) u5 x5_1 (Int.tmod (wrap64 ((wrap64 (t172 + t173)) + x6_1)) 65536) [.int .i64 (Int.tmod (wrap64 ((wrap64 (t172 + t173)) + x6_1)) 65536)] (fun k_ => (w.heap.size ≤ k_)) (fun _ => False) rfl rfl ?aP (fun _ hk => hk.elim) ?aF ?aO ?aB ?aS ?aL ?_; (case aP => exact rfl); (case aB => exact (hq HB)); (case aF => exact (fun k_ hk => (Nat.le_trans (below_size (hq HB)) hk))); (case aO => exact (rq HO_5)); (case aS => exact (below_size (hq HB))); (case aL => have := LMc9.out; omega); intro v175 w10 ho hb hg hat; rw [← Ny174.out] at ho; replace HB := Aside0.mk (hb); have HO176 := Aside0.mk (ho); clear HO_5; clear ho hb hg hat))
             go_roundg kj2
             case measure => have := HK1.out; have := HJ2.out; omega
             case rel => exact ⟨(y174), (wrap64 (Int.tdiv (wrap64 ((wrap64 (t172 + t173)) + x6_1)) 65536)), (wrap64 (x7_1 + 1)), (by first | rfl | (simp; done) | (simp [*]; done)), (by first | rfl | (simp; done) | (simp [*]; done)), H', ⟨by have := HK1.out; have := HJ2.out; omega⟩, ⟨by (with_reducible repeat (first | apply Kd.R_alloc | apply Kd.R_drewN | apply Kd.R_drew)); exact HO176.out⟩, ⟨hq HB⟩⟩
           · rw [if_neg c9] at H
             exact absurd H (by simp)
         · replace c6 := Bool.eq_false_iff.mpr c6
           subst c6
           have H1 : ((spec_l1Trim.f kj2 x5_1).bind fun t177 => (some t177)) = some r := by rw [if_neg (show ¬ (false = true) by decide)] at H; exact H
           clear H
           have H := H1
           clear H1
           replace H := Option.bind_eq_some_iff.mp H
           obtain ⟨t177, A110, H⟩ := H
           replace H : (some t177) = some r := H
           have A11 := Aside0.mk A110
           clear A110
           obtain rfl := Option.some.inj H
           obtain ⟨Ao12, co12, eo12⟩ := Kd.R_slice HO_5.out
           subst eo12
           go_wp2_with (first | ((with_reducible refine gate_callee (f := 74) rfl ?_); refine goesL_ (some 42) rfl rfl Try.func74 (by kernel_rfl) rfl #[.slice Ao12 x5_1.length co12] rfl (by (try simp only [List.map_toArray, List.map_cons, List.map_nil]); first | done | rfl | (simp only [List.length_drop, List.length_take]; rfl)) ?_; (with_reducible refine (spec_l1Trim.calls kj2 (fun k_ => some k_ = (.slice Ao12 x5_1.length co12 : Value).ownBlock) _ _ x5_1 t177 _ ?side1 A11.out).mono ?_); (case side1 => exact Kd.R_V (Kd.R_tight rfl (HO_5.out))); rintro e w13 ⟨v178, rfl, ho0, hb⟩; refine ⟨_, rfl, ?_⟩; have n0_ := cb HO_5 hb; have HO179 := Aside0.mk (Kd.V_lower (Kd.V_mono (ok' := fun k_ => (w.heap.size ≤ k_)) ho0 (fun k_ hk_ => Or.elim hk_ (fun hs_ => ((HO_5.out).1 k_ hs_.symm)) (fun hn_ => (Nat.le_trans (below_size (hq HB)) hn_)))) (below_size (hq HB))); replace HB := cs (hq HB) hb; replace HO_5 := n0_; clear n0_; (try clear hb); (try clear hb2); (try clear hk); (try clear hi); (try clear ho0)))
           go_ret
           exact ⟨_, by first | rfl | (simp [errW_none, errW_some] <;> rfl) | (simp [*, errW_none, errW_some] <;> rfl), by (with_reducible repeat (first | apply Kd.V_alloc | apply Kd.V_drewN | apply Kd.V_drew)); exact HO179.out, hq HB⟩

/-! ### spec_l1Twice: function 68 -/
def spec_l1Twice.f (k : Nat) (l0 : List Int) (a1 : Int) : Option (List Int) := (spec_l1Add.f k l0 l0).bind fun t180 => ((spec_l1Of.f k a1).bind fun t183 => ((spec_l1Add.f k t180 t183).bind fun t186 => (some t186)))
set_option maxHeartbeats 8000000 in
set_option maxRecDepth 100000 in
theorem spec_l1Twice.calls (k : Nat) (A0 : Option Addr) (c0 : Nat) (l0 : List Int) (a1 : Int) (r : List Int) (w : World) (hr0 : Kd.C (Kd.int .i64) w A0 l0.length l0) (hc0 : l0.length ≤ c0) (h : spec_l1Twice.f k l0 a1 = some r) :
    Calls Try.prog 68 #[.slice A0 l0.length c0, .int .i64 a1] w fun e w' => ∃ v0_ : Value, e = .returned (v0_) ∧ Kd.V (Kd.int .i64) 3 w' w.heap.size (fun k_ => (w.heap.size ≤ k_)) v0_ r ∧ Below w.heap.size w w' := by
 have HR0 := Aside0.mk hr0
 have HC0 := Aside0.mk hc0
 clear hr0 hc0
 have HB := Aside0.mk (Below.refl w.heap.size w)
 have H : ((spec_l1Add.f k l0 l0).bind fun t180 => ((spec_l1Of.f k a1).bind fun t183 => ((spec_l1Add.f k t180 t183).bind fun t186 => (some t186)))) = some r := h
 clear h
 replace H := Option.bind_eq_some_iff.mp H
 obtain ⟨t180, A30, H⟩ := H
 replace H : ((spec_l1Of.f k a1).bind fun t183 => ((spec_l1Add.f k t180 t183).bind fun t186 => (some t186))) = some r := H
 have A3 := Aside0.mk A30
 clear A30
 replace H := Option.bind_eq_some_iff.mp H
 obtain ⟨t183, A40, H⟩ := H
 replace H : ((spec_l1Add.f k t180 t183).bind fun t186 => (some t186)) = some r := H
 have A4 := Aside0.mk A40
 clear A40
 replace H := Option.bind_eq_some_iff.mp H
 obtain ⟨t186, A50, H⟩ := H
 replace H : (some t186) = some r := H
 have A5 := Aside0.mk A50
 clear A50
 obtain rfl := Option.some.inj H
 go_enter Try.func68, Try.ntmps68
 go_wp2_with (first | ((with_reducible refine gate_callee (f := 55) rfl ?_); refine goesL_ (some 7) rfl rfl Try.func55 (by kernel_rfl) rfl #[.slice A0 l0.length c0, .slice A0 l0.length c0] rfl (by (try simp only [List.map_toArray, List.map_cons, List.map_nil]); first | done | rfl | (simp only [List.length_drop, List.length_take]; rfl)) ?_; (with_reducible refine (spec_l1Add.calls k _ _ l0 _ _ l0 t180 _ ?side1 ?side2 ?side3 ?side4 A3.out).mono ?_); (case side1 => repeat (first | exact HR0.out | (with_reducible refine Kd.C_alloc ?_ _) | (with_reducible refine Kd.C_drewN ?_ _) | (with_reducible refine Kd.C_drew ?_))); (case side2 => exact HC0.out); (case side3 => repeat (first | exact HR0.out | (with_reducible refine Kd.C_alloc ?_ _) | (with_reducible refine Kd.C_drewN ?_ _) | (with_reducible refine Kd.C_drew ?_))); (case side4 => exact HC0.out); rintro e w6 ⟨v181, rfl, ho0, hb⟩; refine ⟨_, rfl, ?_⟩; have HO182 := Aside0.mk (Kd.V_lower (Kd.V_mono (ok' := fun k_ => (w.heap.size ≤ k_)) ho0 (fun k_ hk_ => (Nat.le_trans (below_size (hq HB)) hk_))) (below_size (hq HB))); replace HB := cs (hq HB) hb; (try clear hb); (try clear hb2); (try clear hk); (try clear hi); (try clear ho0)) | ((with_reducible refine gate_callee (f := 50) rfl ?_); refine goesL_ (some 9) rfl rfl Try.func50 (by kernel_rfl) rfl #[.int .i64 a1] rfl (by (try simp only [List.map_toArray, List.map_cons, List.map_nil]); first | done | rfl | (simp only [List.length_drop, List.length_take]; rfl)) ?_; (with_reducible refine (spec_l1Of.calls k a1 t183 _ A4.out).mono ?_); rintro e w7 ⟨v184, rfl, ho0, hb⟩; refine ⟨_, rfl, ?_⟩; replace HO182 := Aside0.mk (Kd.V_elder' (by (with_reducible repeat (first | apply Kd.V_alloc | apply Kd.V_drewN | apply Kd.V_drew)); exact HO182.out) (Kd.R_base ho0) hb); have HO185 := Aside0.mk (Kd.R_lower (Kd.R_newM (M := fun k_ => (w.heap.size ≤ k_)) ho0 (below_size (hq HB)) (fun k_ h_ => h_)) (below_size (hq HB))); replace HB := cs (hq HB) hb; (try clear hb); (try clear hb2); (try clear hk); (try clear hi); (try clear ho0); obtain ⟨Ao8, co8, eo8⟩ := Kd.V_slice HO182.out; subst eo8; obtain ⟨Ao9, co9, eo9⟩ := Kd.R_slice HO185.out; subst eo9) | ((with_reducible refine gate_callee (f := 55) rfl ?_); refine goesL_ (some 10) rfl rfl Try.func55 (by kernel_rfl) rfl #[.slice Ao8 t180.length co8, .slice Ao9 t183.length co9] rfl (by (try simp only [List.map_toArray, List.map_cons, List.map_nil]); first | done | rfl | (simp only [List.length_drop, List.length_take]; rfl)) ?_; (with_reducible refine (spec_l1Add.calls k _ _ t180 _ _ t183 t186 _ ?side1 ?side2 ?side3 ?side4 A5.out).mono ?_); (case side1 => repeat (first | exact (Kd.V_reads' HO182.out).2.2 | (with_reducible refine Kd.C_alloc ?_ _) | (with_reducible refine Kd.C_drewN ?_ _) | (with_reducible refine Kd.C_drew ?_))); (case side2 => exact (Kd.V_reads' HO182.out).2.1); (case side3 => repeat (first | exact (Kd.R_reads' HO185.out).2.2 | (with_reducible refine Kd.C_alloc ?_ _) | (with_reducible refine Kd.C_drewN ?_ _) | (with_reducible refine Kd.C_drew ?_))); (case side4 => exact (Kd.R_reads' HO185.out).2.1); rintro e w10 ⟨v187, rfl, ho0, hb⟩; refine ⟨_, rfl, ?_⟩; replace HO182 := Aside0.mk (Kd.V_below (by (with_reducible repeat (first | apply Kd.V_alloc | apply Kd.V_drewN | apply Kd.V_drew)); exact HO182.out) hb); have n1_ := cb HO185 hb; have HO188 := Aside0.mk (Kd.V_lower (Kd.V_mono (ok' := fun k_ => (w.heap.size ≤ k_) ∧ some k_ ≠ (.slice Ao9 t183.length co9 : Value).ownBlock) ho0 (fun k_ hk_ => ⟨(Nat.le_trans (below_size (hq HB)) hk_), (Kd.fresh' (ql HO185) k_ hk_)⟩)) (below_size (hq HB))); replace HB := cs (hq HB) hb; replace HO185 := n1_; clear n1_; (try clear hb); (try clear hb2); (try clear hk); (try clear hi); (try clear ho0)))
 go_ret
 exact ⟨_, by first | rfl | (simp [errW_none, errW_some] <;> rfl) | (simp [*, errW_none, errW_some] <;> rfl), by (with_reducible repeat (first | apply Kd.V_alloc | apply Kd.V_drewN | apply Kd.V_drew)); exact Kd.V_mono HO188.out (fun _ hk => hk.1), hq HB⟩

/-! ### spec_l1Div: function 65 -/
def spec_l1Div.l0 : Nat → List Int → List Int → List Int → List Int → Int → Option (List Int × List Int)
  | 0, _, _, _, _, _ => none
  | k + 1, x0, x1, x6, x7, x8 => if x8 ≥ 0 then (if 0 ≤ (wrap64 (Int.tdiv x8 16)) then (if (wrap64 (Int.tdiv x8 16)) < (x0.length : Int) then (if 0 ≤ (IntKind.u64.wrap (Int.tmod x8 16)) then ((spec_l1Twice.f k x7 (Go.bits .and .i64 (shr .i64 (rd x0 (wrap64 (Int.tdiv x8 16))) (IntKind.u64.wrap (Int.tmod x8 16))) 1)).bind fun t190 => ((spec_l1Compare.f k t190 x1).bind fun t193 => (if t193 ≥ 0 then ((spec_l1Less.f k t190 x1).bind fun t194 => ((spec_l1Twice.f k x6 1).bind fun t197 => (spec_l1Div.l0 k x0 x1 t197 t194 (wrap64 (x8 - 1))))) else ((spec_l1Twice.f k x6 0).bind fun t200 => (spec_l1Div.l0 k x0 x1 t200 t190 (wrap64 (x8 - 1))))))) else (none)) else (none)) else (none)) else (some (x6, x7))
def spec_l1Div.f (k : Nat) (l0 : List Int) (l1 : List Int) : Option (List Int × List Int) := spec_l1Div.l0 k l0 l1 ([] : List Int) ([] : List Int) (wrap64 ((wrap64 (16 * (l0.length : Int))) - 1))
set_option maxHeartbeats 8000000 in
set_option maxRecDepth 100000 in
theorem spec_l1Div.calls (k : Nat) (A0 : Option Addr) (c0 : Nat) (l0 : List Int) (A1 : Option Addr) (c1 : Nat) (l1 : List Int) (r1 : List Int) (r2 : List Int) (w : World) (hr0 : Kd.C (Kd.int .i64) w A0 l0.length l0) (hc0 : l0.length ≤ c0) (hr1 : Kd.C (Kd.int .i64) w A1 l1.length l1) (hc1 : l1.length ≤ c1) (h : spec_l1Div.f k l0 l1 = some (r1, r2)) :
    Calls Try.prog 65 #[.slice A0 l0.length c0, .slice A1 l1.length c1] w fun e w' => ∃ v0_ v1_ : Value, e = .returned (.tuple #[v0_, v1_]) ∧ Kd.V (Kd.int .i64) 3 w' w.heap.size (fun k_ => (w.heap.size ≤ k_)) v0_ r1 ∧ Kd.V (Kd.int .i64) 3 w' w.heap.size (fun k_ => (w.heap.size ≤ k_)) v1_ r2 ∧ Below w.heap.size w w' := by
 have HR0 := Aside0.mk hr0
 have HC0 := Aside0.mk hc0
 clear hr0 hc0
 have HR1 := Aside0.mk hr1
 have HC1 := Aside0.mk hc1
 clear hr1 hc1
 have HB := Aside0.mk (Below.refl w.heap.size w)
 have H : (spec_l1Div.l0 k l0 l1 ([] : List Int) ([] : List Int) (wrap64 ((wrap64 (16 * (l0.length : Int))) - 1))) = some (r1, r2) := h
 clear h
 have H' := Aside0.mk H
 clear H
 go_enter Try.func65, Try.ntmps65
 go_wp2
 go_loopg [6, 7, 8] k (fun kq v6 v7 v8 w' => ∃ (x6_1 : List Int) (x7_1 : List Int) (x8_1 : Int), v8 = .int .i64 x8_1 ∧ Aside0 (spec_l1Div.l0 kq l0 l1 x6_1 x7_1 x8_1 = some (r1, r2)) ∧ Aside0 (kq ≤ k) ∧ Aside0 (Kd.V (Kd.int .i64) 3 w' w.heap.size (fun k_ => (w.heap.size ≤ k_)) v6 x6_1) ∧ Aside0 (Kd.V (Kd.int .i64) 3 w' w.heap.size (fun k_ => (w.heap.size ≤ k_)) v7 x7_1) ∧ Aside0 (Below w.heap.size w w'))
 case atStart => exact ⟨(([] : List Int)), (([] : List Int)), (wrap64 ((wrap64 (16 * (l0.length : Int))) - 1)), (by first | rfl | (simp; done) | (simp [*]; done)), H', ⟨Nat.le_refl _⟩, ⟨Kd.R_V (by first | exact Kd.R_nil _ _ _ _ _ | exact Kd.R_nil _ _ _ 0 _ | exact Kd.N_nil _ _ _ _ _ | exact Kd.V_nil _ _ _ _ _ | exact Kd.Q_nil _ _ _ _ _ | exact Kd.S_nil _ _ _ _ _)⟩, ⟨Kd.R_V (by first | exact Kd.R_nil _ _ _ _ _ | exact Kd.R_nil _ _ _ 0 _ | exact Kd.N_nil _ _ _ _ _ | exact Kd.V_nil _ _ _ _ _ | exact Kd.Q_nil _ _ _ _ _ | exact Kd.S_nil _ _ _ _ _)⟩, ⟨hq HB⟩⟩
 case round =>
   clear H'
   try clear c1
   try clear p2
   obtain ⟨x6_1, x7_1, x8_1, rfl, HA, HK1, HO_6, HO_7, HB⟩ := hrel
   cases gk with
   | zero => exact absurd HA.out (by simp [spec_l1Div.l0])
   | succ k1 =>
     have H := HA.out
     clear HA
     simp only [spec_l1Div.l0] at H
     by_cases c3 : x8_1 ≥ 0
     · rw [if_pos c3] at H
       have c3b0 : decide (0 ≤ x8_1) = true := decide_eq_true c3
       clear c3
       obtain ⟨ji4, hji4⟩ : ∃ j_ : Int, (wrap64 (Int.tdiv x8_1 16)) = j_ := ⟨_, rfl⟩
       replace H : (if 0 ≤ (ji4) then (if (ji4) < (l0.length : Int) then (if 0 ≤ (IntKind.u64.wrap (Int.tmod x8_1 16)) then ((spec_l1Twice.f k1 x7_1 (Go.bits .and .i64 (shr .i64 (rd l0 (ji4)) (IntKind.u64.wrap (Int.tmod x8_1 16))) 1)).bind fun t190 => ((spec_l1Compare.f k1 t190 l1).bind fun t193 => (if t193 ≥ 0 then ((spec_l1Less.f k1 t190 l1).bind fun t194 => ((spec_l1Twice.f k1 x6_1 1).bind fun t197 => (spec_l1Div.l0 k1 l0 l1 t197 t194 (wrap64 (x8_1 - 1))))) else ((spec_l1Twice.f k1 x6_1 0).bind fun t200 => (spec_l1Div.l0 k1 l0 l1 t200 t190 (wrap64 (x8_1 - 1))))))) else (none)) else (none)) else (none)) = some (r1, r2) := by first | (rw [hji4] at H; exact H) | (simp only [hji4] at H ⊢; exact H)
       have hji4w : (IntKind.i64.wrap (Int.tdiv x8_1 16)) = ji4 := (i64_w _).trans hji4
       by_cases c5 : 0 ≤ (ji4)
       · rw [if_pos c5] at H
         have c5b0 : decide (0 ≤ (ji4)) = true := decide_eq_true c5
         clear c5
         by_cases c6 : (ji4) < (l0.length : Int)
         · rw [if_pos c6] at H
           have c6b0 : decide ((ji4) < (l0.length : Int)) = true := decide_eq_true c6
           clear c6
           obtain ⟨ji7, hji7⟩ : ∃ j_ : Int, (IntKind.u64.wrap (Int.tmod x8_1 16)) = j_ := ⟨_, rfl⟩
           replace H : (if 0 ≤ (ji7) then ((spec_l1Twice.f k1 x7_1 (Go.bits .and .i64 (shr .i64 (rd l0 (ji4)) (ji7)) 1)).bind fun t190 => ((spec_l1Compare.f k1 t190 l1).bind fun t193 => (if t193 ≥ 0 then ((spec_l1Less.f k1 t190 l1).bind fun t194 => ((spec_l1Twice.f k1 x6_1 1).bind fun t197 => (spec_l1Div.l0 k1 l0 l1 t197 t194 (wrap64 (x8_1 - 1))))) else ((spec_l1Twice.f k1 x6_1 0).bind fun t200 => (spec_l1Div.l0 k1 l0 l1 t200 t190 (wrap64 (x8_1 - 1))))))) else (none)) = some (r1, r2) := by first | (rw [hji7] at H; exact H) | (simp only [hji7] at H ⊢; exact H)
           by_cases c8 : 0 ≤ (ji7)
           · rw [if_pos c8] at H
             have c8b0 := eq_true c8
             have c8b1 : decide (0 ≤ (ji7)) = true := decide_eq_true c8
             clear c8
             obtain ⟨ji9, hji9⟩ : ∃ j_ : Int, (shr .i64 (rd l0 (ji4)) (ji7)) = j_ := ⟨_, rfl⟩
             replace H : ((spec_l1Twice.f k1 x7_1 (Go.bits .and .i64 (ji9) 1)).bind fun t190 => ((spec_l1Compare.f k1 t190 l1).bind fun t193 => (if t193 ≥ 0 then ((spec_l1Less.f k1 t190 l1).bind fun t194 => ((spec_l1Twice.f k1 x6_1 1).bind fun t197 => (spec_l1Div.l0 k1 l0 l1 t197 t194 (wrap64 (x8_1 - 1))))) else ((spec_l1Twice.f k1 x6_1 0).bind fun t200 => (spec_l1Div.l0 k1 l0 l1 t200 t190 (wrap64 (x8_1 - 1))))))) = some (r1, r2) := by first | (rw [hji9] at H; exact H) | (simp only [hji9] at H ⊢; exact H)
             have hji9_ : ((rd l0 (ji4)) / 2 ^ min (ji7).toNat 64) = ji9 := hji9
             have hji9z : (ji7) ≤ 64 → ((rd l0 (ji4)) / 2 ^ (ji7).toNat) = ji9 := shr_small hji9
             replace H := Option.bind_eq_some_iff.mp H
             obtain ⟨t190, A100, H⟩ := H
             replace H : ((spec_l1Compare.f k1 t190 l1).bind fun t193 => (if t193 ≥ 0 then ((spec_l1Less.f k1 t190 l1).bind fun t194 => ((spec_l1Twice.f k1 x6_1 1).bind fun t197 => (spec_l1Div.l0 k1 l0 l1 t197 t194 (wrap64 (x8_1 - 1))))) else ((spec_l1Twice.f k1 x6_1 0).bind fun t200 => (spec_l1Div.l0 k1 l0 l1 t200 t190 (wrap64 (x8_1 - 1)))))) = some (r1, r2) := H
             have A10 := Aside0.mk A100
             clear A100
             replace H := Option.bind_eq_some_iff.mp H
             obtain ⟨t193, A110, H⟩ := H
             replace H : (if t193 ≥ 0 then ((spec_l1Less.f k1 t190 l1).bind fun t194 => ((spec_l1Twice.f k1 x6_1 1).bind fun t197 => (spec_l1Div.l0 k1 l0 l1 t197 t194 (wrap64 (x8_1 - 1))))) else ((spec_l1Twice.f k1 x6_1 0).bind fun t200 => (spec_l1Div.l0 k1 l0 l1 t200 t190 (wrap64 (x8_1 - 1))))) = some (r1, r2) := H
             have A11 := Aside0.mk A110
             clear A110
             by_cases c12 : t193 ≥ 0
             · rw [if_pos c12] at H
               have c12b0 : decide (0 ≤ t193) = true := decide_eq_true c12
               clear c12
               replace H := Option.bind_eq_some_iff.mp H
               obtain ⟨t194, A130, H⟩ := H
               replace H : ((spec_l1Twice.f k1 x6_1 1).bind fun t197 => (spec_l1Div.l0 k1 l0 l1 t197 t194 (wrap64 (x8_1 - 1)))) = some (r1, r2) := H
               have A13 := Aside0.mk A130
               clear A130
               replace H := Option.bind_eq_some_iff.mp H
               obtain ⟨t197, A140, H⟩ := H
               replace H : (spec_l1Div.l0 k1 l0 l1 t197 t194 (wrap64 (x8_1 - 1))) = some (r1, r2) := H
               have A14 := Aside0.mk A140
               clear A140
               have H' := Aside0.mk H
               clear H
               have p189 : 0 ≤ ((ji4) : Int) := of_decide_eq_true (by first | (with_reducible assumption) | assumption)
               have q189 : (ji4) < (l0.length : Int) := of_decide_eq_true (by first | (with_reducible assumption) | assumption)
               obtain ⟨ad189, e189, hx189_0⟩ := Kd.at_int HR0.out (ji4) p189 q189
               cases e189
               replace hx189_0 := (HB.out.cell (World.block_lt_of_cell? w _ hx189_0)).trans hx189_0
               replace p189 := eq_true p189
               replace q189 := eq_true q189
               obtain ⟨Ao15, co15, eo15⟩ := Kd.V_slice HO_7.out
               subst eo15
               go_wp2_with (first | ((with_reducible refine gate_callee (f := 68) rfl ?_); refine goesL_ (some 29) rfl rfl Try.func68 (by kernel_rfl) rfl #[.slice Ao15 x7_1.length co15, .int .i64 (Go.bits .and .i64 (ji9) 1)] rfl (by (try simp only [List.map_toArray, List.map_cons, List.map_nil]); first | done | (simp only [hji9]; rfl) | rfl | (simp only [List.length_drop, List.length_take]; rfl)) ?_; (with_reducible refine (spec_l1Twice.calls k1 _ _ x7_1 (Go.bits .and .i64 (ji9) 1) t190 _ ?side1 ?side2 A10.out).mono ?_); (case side1 => repeat (first | exact (Kd.V_reads' HO_7.out).2.2 | (with_reducible refine Kd.C_alloc ?_ _) | (with_reducible refine Kd.C_drewN ?_ _) | (with_reducible refine Kd.C_drew ?_))); (case side2 => exact (Kd.V_reads' HO_7.out).2.1); rintro e w16 ⟨v191, rfl, ho0, hb⟩; refine ⟨_, rfl, ?_⟩; replace HO_6 := Aside0.mk (Kd.V_below (by (with_reducible repeat (first | apply Kd.V_alloc | apply Kd.V_drewN | apply Kd.V_drew)); exact HO_6.out) hb); replace HO_7 := Aside0.mk (Kd.V_below (by (with_reducible repeat (first | apply Kd.V_alloc | apply Kd.V_drewN | apply Kd.V_drew)); exact HO_7.out) hb); have HO192 := Aside0.mk (Kd.V_lower (Kd.V_mono (ok' := fun k_ => (w.heap.size ≤ k_)) ho0 (fun k_ hk_ => (Nat.le_trans (below_size (hq HB)) hk_))) (below_size (hq HB))); replace HB := cs (hq HB) hb; (try clear hb); (try clear hb2); (try clear hk); (try clear hi); (try clear ho0); obtain ⟨Ao17, co17, eo17⟩ := Kd.V_slice HO192.out; subst eo17) | ((with_reducible refine gate_callee (f := 59) rfl ?_); refine goesL_ (some 32) rfl rfl Try.func59 (by kernel_rfl) rfl #[.slice Ao17 t190.length co17, .slice A1 l1.length c1] rfl (by (try simp only [List.map_toArray, List.map_cons, List.map_nil]); first | done | rfl | (simp only [List.length_drop, List.length_take]; rfl)) ?_; (with_reducible refine (spec_l1Compare.calls k1 _ _ t190 _ _ l1 t193 _ ?side1 ?side2 ?side3 ?side4 A11.out).mono ?_); (case side1 => repeat (first | exact (Kd.V_reads' HO192.out).2.2 | (with_reducible refine Kd.C_alloc ?_ _) | (with_reducible refine Kd.C_drewN ?_ _) | (with_reducible refine Kd.C_drew ?_))); (case side2 => exact (Kd.V_reads' HO192.out).2.1); (case side3 => repeat (first | exact (Kd.C_below HR1.out HB.out) | (with_reducible refine Kd.C_alloc ?_ _) | (with_reducible refine Kd.C_drewN ?_ _) | (with_reducible refine Kd.C_drew ?_))); (case side4 => exact HC1.out); rintro e w' ⟨rfl, ⟨nd, rfl⟩⟩; refine ⟨_, rfl, ?_⟩) | ((with_reducible refine gate_callee (f := 60) rfl ?_); refine goesL_ (some 36) rfl rfl Try.func60 (by kernel_rfl) rfl #[.slice Ao17 t190.length co17, .slice A1 l1.length c1] rfl (by (try simp only [List.map_toArray, List.map_cons, List.map_nil]); first | done | rfl | (simp only [List.length_drop, List.length_take]; rfl)) ?_; (with_reducible refine (spec_l1Less.calls k1 _ _ t190 _ _ l1 t194 _ ?side1 ?side2 ?side3 ?side4 A13.out).mono ?_); (case side1 => repeat (first | exact (Kd.V_reads' HO192.out).2.2 | (with_reducible refine Kd.C_alloc ?_ _) | (with_reducible refine Kd.C_drewN ?_ _) | (with_reducible refine Kd.C_drew ?_))); (case side2 => exact (Kd.V_reads' HO192.out).2.1); (case side3 => repeat (first | exact (Kd.C_below HR1.out (hq HB)) | (with_reducible refine Kd.C_alloc ?_ _) | (with_reducible refine Kd.C_drewN ?_ _) | (with_reducible refine Kd.C_drew ?_))); (case side4 => exact HC1.out); rintro e w18 ⟨v195, rfl, ho0, hb⟩; refine ⟨_, rfl, ?_⟩; replace HO_6 := Aside0.mk (Kd.V_below (by (with_reducible repeat (first | apply Kd.V_alloc | apply Kd.V_drewN | apply Kd.V_drew)); exact HO_6.out) hb); replace HO_7 := Aside0.mk (Kd.V_below (by (with_reducible repeat (first | apply Kd.V_alloc | apply Kd.V_drewN | apply Kd.V_drew)); exact HO_7.out) hb); replace HO192 := Aside0.mk (Kd.V_below (by (with_reducible repeat (first | apply Kd.V_alloc | apply Kd.V_drewN | apply Kd.V_drew)); exact HO192.out) hb); have HO196 := Aside0.mk (Kd.V_lower (Kd.V_mono (ok' := fun k_ => (w.heap.size ≤ k_)) ho0 (fun k_ hk_ => (Nat.le_trans (below_size (hq HB)) hk_))) (below_size (hq HB))); replace HB := cs (hq HB) hb; (try clear hb); (try clear hb2); (try clear hk); (try clear hi); (try clear ho0); obtain ⟨Ao19, co19, eo19⟩ := Kd.V_slice HO_6.out; subst eo19) | ((with_reducible refine gate_callee (f := 68) rfl ?_); refine goesL_ (some 39) rfl rfl Try.func68 (by kernel_rfl) rfl #[.slice Ao19 x6_1.length co19, .int .i64 1] rfl (by (try simp only [List.map_toArray, List.map_cons, List.map_nil]); first | done | rfl | (simp only [List.length_drop, List.length_take]; rfl)) ?_; (with_reducible refine (spec_l1Twice.calls k1 _ _ x6_1 1 t197 _ ?side1 ?side2 A14.out).mono ?_); (case side1 => repeat (first | exact (Kd.V_reads' HO_6.out).2.2 | (with_reducible refine Kd.C_alloc ?_ _) | (with_reducible refine Kd.C_drewN ?_ _) | (with_reducible refine Kd.C_drew ?_))); (case side2 => exact (Kd.V_reads' HO_6.out).2.1); rintro e w20 ⟨v198, rfl, ho0, hb⟩; refine ⟨_, rfl, ?_⟩; replace HO_6 := Aside0.mk (Kd.V_below (by (with_reducible repeat (first | apply Kd.V_alloc | apply Kd.V_drewN | apply Kd.V_drew)); exact HO_6.out) hb); replace HO_7 := Aside0.mk (Kd.V_below (by (with_reducible repeat (first | apply Kd.V_alloc | apply Kd.V_drewN | apply Kd.V_drew)); exact HO_7.out) hb); replace HO192 := Aside0.mk (Kd.V_below (by (with_reducible repeat (first | apply Kd.V_alloc | apply Kd.V_drewN | apply Kd.V_drew)); exact HO192.out) hb); replace HO196 := Aside0.mk (Kd.V_below (by (with_reducible repeat (first | apply Kd.V_alloc | apply Kd.V_drewN | apply Kd.V_drew)); exact HO196.out) hb); have HO199 := Aside0.mk (Kd.V_lower (Kd.V_mono (ok' := fun k_ => (w.heap.size ≤ k_)) ho0 (fun k_ hk_ => (Nat.le_trans (below_size (hq HB)) hk_))) (below_size (hq HB))); replace HB := cs (hq HB) hb; (try clear hb); (try clear hb2); (try clear hk); (try clear hi); (try clear ho0)))
               go_roundg k1
               case measure => have := HK1.out; omega
               case rel => exact ⟨(t197), (t194), (wrap64 (x8_1 - 1)), (by first | rfl | (simp; done) | (simp [*]; done)), H', ⟨by have := HK1.out; omega⟩, ⟨by (with_reducible repeat (first | apply Kd.V_alloc | apply Kd.V_drewN | apply Kd.V_drew)); exact HO199.out⟩, ⟨by (with_reducible repeat (first | apply Kd.V_alloc | apply Kd.V_drewN | apply Kd.V_drew)); exact HO196.out⟩, ⟨hq HB⟩⟩
             · rw [if_neg c12] at H
               have c12b0 : decide (0 ≤ t193) = false := decide_eq_false c12
               clear c12
               replace H := Option.bind_eq_some_iff.mp H
               obtain ⟨t200, A210, H⟩ := H
               replace H : (spec_l1Div.l0 k1 l0 l1 t200 t190 (wrap64 (x8_1 - 1))) = some (r1, r2) := H
               have A21 := Aside0.mk A210
               clear A210
               have H' := Aside0.mk H
               clear H
               have p189 : 0 ≤ ((ji4) : Int) := of_decide_eq_true (by first | (with_reducible assumption) | assumption)
               have q189 : (ji4) < (l0.length : Int) := of_decide_eq_true (by first | (with_reducible assumption) | assumption)
               obtain ⟨ad189, e189, hx189_0⟩ := Kd.at_int HR0.out (ji4) p189 q189
               cases e189
               replace hx189_0 := (HB.out.cell (World.block_lt_of_cell? w _ hx189_0)).trans hx189_0
               replace p189 := eq_true p189
               replace q189 := eq_true q189
               obtain ⟨Ao22, co22, eo22⟩ := Kd.V_slice HO_7.out
               subst eo22
               go_wp2_with (first | ((with_reducible refine gate_callee (f := 68) rfl ?_); refine goesL_ (some 29) rfl rfl Try.func68 (by kernel_rfl) rfl #[.slice Ao22 x7_1.length co22, .int .i64 (Go.bits .and .i64 (ji9) 1)] rfl (by (try simp only [List.map_toArray, List.map_cons, List.map_nil]); first | done | (simp only [hji9]; rfl) | rfl | (simp only [List.length_drop, List.length_take]; rfl)) ?_; (with_reducible refine (spec_l1Twice.calls k1 _ _ x7_1 (Go.bits .and .i64 (ji9) 1) t190 _ ?side1 ?side2 A10.out).mono ?_); (case side1 => repeat (first | exact (Kd.V_reads' HO_7.out).2.2 | (with_reducible refine Kd.C_alloc ?_ _) | (with_reducible refine Kd.C_drewN ?_ _) | (with_reducible refine Kd.C_drew ?_))); (case side2 => exact (Kd.V_reads' HO_7.out).2.1); rintro e w23 ⟨v191, rfl, ho0, hb⟩; refine ⟨_, rfl, ?_⟩; replace HO_6 := Aside0.mk (Kd.V_below (by (with_reducible repeat (first | apply Kd.V_alloc | apply Kd.V_drewN | apply Kd.V_drew)); exact HO_6.out) hb); replace HO_7 := Aside0.mk (Kd.V_below (by (with_reducible repeat (first | apply Kd.V_alloc | apply Kd.V_drewN | apply Kd.V_drew)); exact HO_7.out) hb); have HO192 := Aside0.mk (Kd.V_lower (Kd.V_mono (ok' := fun k_ => (w.heap.size ≤ k_)) ho0 (fun k_ hk_ => (Nat.le_trans (below_size (hq HB)) hk_))) (below_size (hq HB))); replace HB := cs (hq HB) hb; (try clear hb); (try clear hb2); (try clear hk); (try clear hi); (try clear ho0); obtain ⟨Ao24, co24, eo24⟩ := Kd.V_slice HO192.out; subst eo24) | ((with_reducible refine gate_callee (f := 59) rfl ?_); refine goesL_ (some 32) rfl rfl Try.func59 (by kernel_rfl) rfl #[.slice Ao24 t190.length co24, .slice A1 l1.length c1] rfl (by (try simp only [List.map_toArray, List.map_cons, List.map_nil]); first | done | rfl | (simp only [List.length_drop, List.length_take]; rfl)) ?_; (with_reducible refine (spec_l1Compare.calls k1 _ _ t190 _ _ l1 t193 _ ?side1 ?side2 ?side3 ?side4 A11.out).mono ?_); (case side1 => repeat (first | exact (Kd.V_reads' HO192.out).2.2 | (with_reducible refine Kd.C_alloc ?_ _) | (with_reducible refine Kd.C_drewN ?_ _) | (with_reducible refine Kd.C_drew ?_))); (case side2 => exact (Kd.V_reads' HO192.out).2.1); (case side3 => repeat (first | exact (Kd.C_below HR1.out HB.out) | (with_reducible refine Kd.C_alloc ?_ _) | (with_reducible refine Kd.C_drewN ?_ _) | (with_reducible refine Kd.C_drew ?_))); (case side4 => exact HC1.out); rintro e w' ⟨rfl, ⟨nd, rfl⟩⟩; refine ⟨_, rfl, ?_⟩; obtain ⟨Ao25, co25, eo25⟩ := Kd.V_slice HO_6.out; subst eo25) | ((with_reducible refine gate_callee (f := 68) rfl ?_); refine goesL_ (some 39) rfl rfl Try.func68 (by kernel_rfl) rfl #[.slice Ao25 x6_1.length co25, .int .i64 0] rfl (by (try simp only [List.map_toArray, List.map_cons, List.map_nil]); first | done | rfl | (simp only [List.length_drop, List.length_take]; rfl)) ?_; (with_reducible refine (spec_l1Twice.calls k1 _ _ x6_1 0 t200 _ ?side1 ?side2 A21.out).mono ?_); (case side1 => repeat (first | exact (Kd.V_reads' HO_6.out).2.2 | (with_reducible refine Kd.C_alloc ?_ _) | (with_reducible refine Kd.C_drewN ?_ _) | (with_reducible refine Kd.C_drew ?_))); (case side2 => exact (Kd.V_reads' HO_6.out).2.1); rintro e w26 ⟨v201, rfl, ho0, hb⟩; refine ⟨_, rfl, ?_⟩; replace HO_6 := Aside0.mk (Kd.V_below (by (with_reducible repeat (first | apply Kd.V_alloc | apply Kd.V_drewN | apply Kd.V_drew)); exact HO_6.out) hb); replace HO_7 := Aside0.mk (Kd.V_below (by (with_reducible repeat (first | apply Kd.V_alloc | apply Kd.V_drewN | apply Kd.V_drew)); exact HO_7.out) hb); replace HO192 := Aside0.mk (Kd.V_below (by (with_reducible repeat (first | apply Kd.V_alloc | apply Kd.V_drewN | apply Kd.V_drew)); exact HO192.out) hb); have HO202 := Aside0.mk (Kd.V_lower (Kd.V_mono (ok' := fun k_ => (w.heap.size ≤ k_)) ho0 (fun k_ hk_ => (Nat.le_trans (below_size (hq HB)) hk_))) (below_size (hq HB))); replace HB := cs (hq HB) hb; (try clear hb); (try clear hb2); (try clear hk); (try clear hi); (try clear ho0)))
               go_roundg k1
               case measure => have := HK1.out; omega
               case rel => exact ⟨(t200), (t190), (wrap64 (x8_1 - 1)), (by first | rfl | (simp; done) | (simp [*]; done)), H', ⟨by have := HK1.out; omega⟩, ⟨by (with_reducible repeat (first | apply Kd.V_alloc | apply Kd.V_drewN | apply Kd.V_drew)); exact HO202.out⟩, ⟨by (with_reducible repeat (first | apply Kd.V_alloc | apply Kd.V_drewN | apply Kd.V_drew)); exact HO192.out⟩, ⟨hq HB⟩⟩
           · rw [if_neg c8] at H
             exact absurd H (by simp)
         · rw [if_neg c6] at H
           exact absurd H (by simp)
       · rw [if_neg c5] at H
         exact absurd H (by simp)
     · rw [if_neg c3] at H
       have c3b0 : decide (0 ≤ x8_1) = false := decide_eq_false c3
       clear c3
       simp only [Option.some.injEq, Prod.mk.injEq] at H
       obtain ⟨rfl, rfl⟩ := H
       go_wp2
       go_ret2
       exact ⟨_, _, by first | rfl | (simp [errW_none, errW_some] <;> rfl) | (simp [*, errW_none, errW_some] <;> rfl), by (with_reducible repeat (first | apply Kd.V_alloc | apply Kd.V_drewN | apply Kd.V_drew)); exact HO_6.out, by (with_reducible repeat (first | apply Kd.V_alloc | apply Kd.V_drewN | apply Kd.V_drew)); exact HO_7.out, hq HB⟩

/-! ### spec_DivBig: function 32 -/
def spec_DivBig.j0 : Nat → Bool → List Int → List Int → Option (List Int × List Int × Bool)
  | 0, _, _, _ => none
  | k + 1, x22, x204000, x205000 => if x22 = true then (some (([] : List Int), ([] : List Int), false)) else ((spec_l1Div.f k x204000 x205000).bind fun bt208 => ((spec_l1Tell.f k bt208.1).bind fun bt214 => ((spec_l1Tell.f k bt208.2).bind fun bt219 => (some (bt214.1, bt219.1, true)))))
def spec_DivBig.f (k : Nat) (l0_0 : List Int) (l1_0 : List Int) : Option (List Int × List Int × Bool) := (spec_l1Both.f k l0_0 l1_0).bind fun t207 => (if t207 = true then (spec_DivBig.j0 k ((l1_0.length : Int) == 0) l0_0 l1_0) else (spec_DivBig.j0 k true l0_0 l1_0))
set_option maxHeartbeats 8000000 in
set_option maxRecDepth 100000 in
theorem spec_DivBig.calls (k : Nat) (A0_0 : Option Addr) (c0_0 : Nat) (l0_0 : List Int) (A1_0 : Option Addr) (c1_0 : Nat) (l1_0 : List Int) (r1 : List Int) (r2 : List Int) (r3 : Bool) (w : World) (hr0_0 : Kd.C (Kd.int .i64) w A0_0 l0_0.length l0_0) (hc0_0 : l0_0.length ≤ c0_0) (hr1_0 : Kd.C (Kd.int .i64) w A1_0 l1_0.length l1_0) (hc1_0 : l1_0.length ≤ c1_0) (h : spec_DivBig.f k l0_0 l1_0 = some (r1, r2, r3)) :
    Calls Try.prog 32 #[.agg #[.slice A0_0 l0_0.length c0_0], .agg #[.slice A1_0 l1_0.length c1_0]] w fun e w' => ∃ v0_ v1_ : Value, e = .returned (.tuple #[.agg #[v0_], .agg #[v1_], .bool r3]) ∧ Kd.R (Kd.int .i64) 3 w' w.heap.size (fun k_ => some k_ ≠ (v1_ : Value).ownBlock) v0_ r1 ∧ Kd.R (Kd.int .i64) 3 w' w.heap.size (fun k_ => some k_ ≠ (v0_ : Value).ownBlock) v1_ r2 ∧ Below w.heap.size w w' := by
 have hu27 := Try.underlying27
 have HR0_0 := Aside0.mk hr0_0
 have HC0_0 := Aside0.mk hc0_0
 clear hr0_0 hc0_0
 have HR1_0 := Aside0.mk hr1_0
 have HC1_0 := Aside0.mk hc1_0
 clear hr1_0 hc1_0
 have HB := Aside0.mk (Below.refl w.heap.size w)
 have H : ((spec_l1Both.f k l0_0 l1_0).bind fun t207 => (if t207 = true then (spec_DivBig.j0 k ((l1_0.length : Int) == 0) l0_0 l1_0) else (spec_DivBig.j0 k true l0_0 l1_0))) = some (r1, r2, r3) := h
 clear h
 have HC3 := Aside0.mk H
 clear H
 go_enter Try.func32, Try.ntmps32
 go_upto_region 1 with (first | ((with_reducible refine gate_dst (N := 2) rfl ?_); (try (refine gate_guard (by rfl) ?_; dsimp only)); refine box_event ?hg (N := 2) ?hd (cs := #[.slice A0_0 l0_0.length c0_0]) (t := 27) ?hr ?_; (case hd => rfl); (case hg => rfl); (case hr => first | (go_simp; done) | (go_simp; rfl)); intro gb203 hg w4 hbox hb; have n0_ := cs (hq HB) hb; have BK203 := Aside0.mk (hbox); have GW203 := cg hg (hq HB); have GE203 := cg hg (hq HB); replace HB := n0_; clear n0_; clear hb hbox hg) | ((with_reducible refine gate_dst (N := 3) rfl ?_); (try (refine gate_guard (by rfl) ?_; dsimp only)); refine box_event ?hg (N := 3) ?hd (cs := #[.slice A1_0 l1_0.length c1_0]) (t := 27) ?hr ?_; (case hd => rfl); (case hg => rfl); (case hr => first | (go_simp; done) | (go_simp; rfl)); intro gb204 hg w5 hbox hb; have n0_ := cB BK203 hb; have n1_ := cs (hq1 HB GE203) hb; have BK204 := Aside0.mk (hbox); have GW204 := cg hg (hq1 HB GE203); have GE204 := cg hg (hq1 HB GE203); have NB203_204 := cl hg BK203; have NB204_203 := cr hg BK203; replace BK203 := n0_; replace HB := n1_; clear n0_ n1_; clear hb hbox hg) | ((with_reducible refine gate_dst (N := 4) rfl ?_); (try (refine gate_guard (by rfl) ?_; dsimp only)); refine box_event ?hg (N := 4) ?hd (cs := #[.slice none 0 0]) (t := 27) ?hr ?_; (case hd => rfl); (case hg => rfl); (case hr => first | (go_simp; done) | (go_simp; rfl)); intro gb205 hg w6 hbox hb; have n0_ := cB BK203 hb; have n1_ := cB BK204 hb; have n2_ := cs (hq2 HB GE203 GE204) hb; have BK205 := Aside0.mk (hbox); have GW205 := cg hg (hq2 HB GE203 GE204); have GE205 := cg hg (hq2 HB GE203 GE204); have NB203_205 := cl hg BK203; have NB205_203 := cr hg BK203; have NB204_205 := cl hg BK204; have NB205_204 := cr hg BK204; replace BK203 := n0_; replace BK204 := n1_; replace HB := n2_; clear n0_ n1_ n2_; clear hb hbox hg) | ((with_reducible refine gate_dst (N := 5) rfl ?_); (try (refine gate_guard (by rfl) ?_; dsimp only)); refine box_event ?hg (N := 5) ?hd (cs := #[.slice none 0 0]) (t := 27) ?hr ?_; (case hd => rfl); (case hg => rfl); (case hr => first | (go_simp; done) | (go_simp; rfl)); intro gb206 hg w7 hbox hb; have n0_ := cB BK203 hb; have n1_ := cB BK204 hb; have n2_ := cB BK205 hb; have n3_ := cs (hq3 HB GE203 GE204 GE205) hb; have BK206 := Aside0.mk (hbox); have GW206 := cg hg (hq3 HB GE203 GE204 GE205); have GE206 := cg hg (hq3 HB GE203 GE204 GE205); have NB203_206 := cl hg BK203; have NB206_203 := cr hg BK203; have NB204_206 := cl hg BK204; have NB206_204 := cr hg BK204; have NB205_206 := cl hg BK205; have NB206_205 := cr hg BK205; replace BK203 := n0_; replace BK204 := n1_; replace BK205 := n2_; replace HB := n3_; clear n0_ n1_ n2_ n3_; clear hb hbox hg))
 (try simp only [Act.put, List.setIfInBounds_toArray, List.set_cons_zero, List.set_cons_succ])
 go_cut [22] (fun v22 wc => ∃ (kq : Nat) (x22_2 : Bool), v22 = .bool x22_2 ∧ Aside0 (spec_DivBig.j0 kq x22_2 l0_0 l1_0 = some (r1, r2, r3)) ∧ Aside0 (kq ≤ k) ∧ Aside0 (wc.heap[gb203]? = some (.cells #[(.slice A0_0 l0_0.length c0_0)] 27 (0, 0))) ∧ Aside0 (wc.heap[gb204]? = some (.cells #[(.slice A1_0 l1_0.length c1_0)] 27 (0, 0))) ∧ Aside0 (wc.heap[gb205]? = some (.cells #[(.slice none 0 0)] 27 (0, 0))) ∧ Aside0 (wc.heap[gb206]? = some (.cells #[(.slice none 0 0)] 27 (0, 0))) ∧ Aside0 (Below w.heap.size w wc))
 case first =>
   have H := HC3.out
   clear HC3
   replace H := Option.bind_eq_some_iff.mp H
   obtain ⟨t207, A80, H⟩ := H
   replace H : (if t207 = true then (spec_DivBig.j0 k ((l1_0.length : Int) == 0) l0_0 l1_0) else (spec_DivBig.j0 k true l0_0 l1_0)) = some (r1, r2, r3) := H
   have A8 := Aside0.mk A80
   clear A80
   by_cases c9 : t207 = true
   · subst c9
     have H1 : (spec_DivBig.j0 k ((l1_0.length : Int) == 0) l0_0 l1_0) = some (r1, r2, r3) := by rw [if_pos rfl] at H; exact H
     clear H
     have H := H1
     clear H1
     have H' := Aside0.mk H
     clear H
     have hnb10 := NB203_204.out
     have hnc10 := NB204_203.out
     have hnb11 := NB203_205.out
     have hnc11 := NB205_203.out
     have hnb12 := NB203_206.out
     have hnc12 := NB206_203.out
     have hcz13_0 : w7.cell? ⟨gb203, 0, none⟩ = some (.slice A0_0 l0_0.length c0_0) := (blk_cell BK203.out 0).trans rfl
     have hfz13_0 := blk_frozen BK203.out 0
     have hnb14 := NB204_205.out
     have hnc14 := NB205_204.out
     have hnb15 := NB204_206.out
     have hnc15 := NB206_204.out
     have hcz16_0 : w7.cell? ⟨gb204, 0, none⟩ = some (.slice A1_0 l1_0.length c1_0) := (blk_cell BK204.out 0).trans rfl
     have hfz16_0 := blk_frozen BK204.out 0
     go_wp2_with (first | ((with_reducible refine gate_callee (f := 54) rfl ?_); refine goesL_ (some 15) rfl rfl Try.func54 (by kernel_rfl) rfl #[.agg #[.slice A0_0 l0_0.length c0_0], .agg #[.slice A1_0 l1_0.length c1_0]] rfl (by (try simp only [List.map_toArray, List.map_cons, List.map_nil]); first | done | rfl | (simp only [List.length_drop, List.length_take]; rfl)) ?_; (with_reducible refine (spec_l1Both.calls k _ _ l0_0 _ _ l1_0 true _ ?side1 ?side2 ?side3 ?side4 A8.out).mono ?_); (case side1 => repeat (first | exact (Kd.C_below HR0_0.out HB.out) | (with_reducible refine Kd.C_alloc ?_ _) | (with_reducible refine Kd.C_drewN ?_ _) | (with_reducible refine Kd.C_drew ?_))); (case side2 => exact HC0_0.out); (case side3 => repeat (first | exact (Kd.C_below HR1_0.out HB.out) | (with_reducible refine Kd.C_alloc ?_ _) | (with_reducible refine Kd.C_drewN ?_ _) | (with_reducible refine Kd.C_drew ?_))); (case side4 => exact HC1_0.out); rintro e w17 ⟨rfl, hb⟩; refine ⟨_, rfl, ?_⟩; replace BK203 := cB BK203 hb; replace BK204 := cB BK204 hb; replace BK205 := cB BK205 hb; replace BK206 := cB BK206 hb; replace HB := cs (hq4 HB GE203 GE204 GE205 GE206) hb; (try clear hb); (try clear hb2); (try clear hk); (try clear hi); have hcz18_0 : w17.cell? ⟨gb204, 0, none⟩ = some (.slice A1_0 l1_0.length c1_0) := (blk_cell BK204.out 0).trans rfl; have hfz18_0 := blk_frozen BK204.out 0))
     go_meet
     case rel => exact ⟨_, (((l1_0.length : Int) == 0)), (by first | rfl | (simp; done) | (simp [*]; done)), H', ⟨by first | omega | exact Nat.le_refl _⟩, ⟨by (with_reducible repeat (first | refine blk_drewN ?_ _ | refine blk_drew ?_ | refine blk_alloc ?_ _)); exact BK203.out⟩, ⟨by (with_reducible repeat (first | refine blk_drewN ?_ _ | refine blk_drew ?_ | refine blk_alloc ?_ _)); exact BK204.out⟩, ⟨by (with_reducible repeat (first | refine blk_drewN ?_ _ | refine blk_drew ?_ | refine blk_alloc ?_ _)); exact BK205.out⟩, ⟨by (with_reducible repeat (first | refine blk_drewN ?_ _ | refine blk_drew ?_ | refine blk_alloc ?_ _)); exact BK206.out⟩, ⟨hq4 HB GE203 GE204 GE205 GE206⟩⟩
   replace c9 := Bool.eq_false_iff.mpr c9
   subst c9
   have H1 : (spec_DivBig.j0 k true l0_0 l1_0) = some (r1, r2, r3) := by rw [if_neg (show ¬ (false = true) by decide)] at H; exact H
   clear H
   have H := H1
   clear H1
   have H' := Aside0.mk H
   clear H
   have hnb19 := NB203_204.out
   have hnc19 := NB204_203.out
   have hnb20 := NB203_205.out
   have hnc20 := NB205_203.out
   have hnb21 := NB203_206.out
   have hnc21 := NB206_203.out
   have hcz22_0 : w7.cell? ⟨gb203, 0, none⟩ = some (.slice A0_0 l0_0.length c0_0) := (blk_cell BK203.out 0).trans rfl
   have hfz22_0 := blk_frozen BK203.out 0
   have hnb23 := NB204_205.out
   have hnc23 := NB205_204.out
   have hnb24 := NB204_206.out
   have hnc24 := NB206_204.out
   have hcz25_0 : w7.cell? ⟨gb204, 0, none⟩ = some (.slice A1_0 l1_0.length c1_0) := (blk_cell BK204.out 0).trans rfl
   have hfz25_0 := blk_frozen BK204.out 0
   go_wp2_with (first | ((with_reducible refine gate_callee (f := 54) rfl ?_); refine goesL_ (some 15) rfl rfl Try.func54 (by kernel_rfl) rfl #[.agg #[.slice A0_0 l0_0.length c0_0], .agg #[.slice A1_0 l1_0.length c1_0]] rfl (by (try simp only [List.map_toArray, List.map_cons, List.map_nil]); first | done | rfl | (simp only [List.length_drop, List.length_take]; rfl)) ?_; (with_reducible refine (spec_l1Both.calls k _ _ l0_0 _ _ l1_0 false _ ?side1 ?side2 ?side3 ?side4 A8.out).mono ?_); (case side1 => repeat (first | exact (Kd.C_below HR0_0.out HB.out) | (with_reducible refine Kd.C_alloc ?_ _) | (with_reducible refine Kd.C_drewN ?_ _) | (with_reducible refine Kd.C_drew ?_))); (case side2 => exact HC0_0.out); (case side3 => repeat (first | exact (Kd.C_below HR1_0.out HB.out) | (with_reducible refine Kd.C_alloc ?_ _) | (with_reducible refine Kd.C_drewN ?_ _) | (with_reducible refine Kd.C_drew ?_))); (case side4 => exact HC1_0.out); rintro e w26 ⟨rfl, hb⟩; refine ⟨_, rfl, ?_⟩; replace BK203 := cB BK203 hb; replace BK204 := cB BK204 hb; replace BK205 := cB BK205 hb; replace BK206 := cB BK206 hb; replace HB := cs (hq4 HB GE203 GE204 GE205 GE206) hb; (try clear hb); (try clear hb2); (try clear hk); (try clear hi)))
   go_meet
   case rel => exact ⟨_, (true), (by first | rfl | (simp; done) | (simp [*]; done)), H', ⟨by first | omega | exact Nat.le_refl _⟩, ⟨by (with_reducible repeat (first | refine blk_drewN ?_ _ | refine blk_drew ?_ | refine blk_alloc ?_ _)); exact BK203.out⟩, ⟨by (with_reducible repeat (first | refine blk_drewN ?_ _ | refine blk_drew ?_ | refine blk_alloc ?_ _)); exact BK204.out⟩, ⟨by (with_reducible repeat (first | refine blk_drewN ?_ _ | refine blk_drew ?_ | refine blk_alloc ?_ _)); exact BK205.out⟩, ⟨by (with_reducible repeat (first | refine blk_drewN ?_ _ | refine blk_drew ?_ | refine blk_alloc ?_ _)); exact BK206.out⟩, ⟨hq4 HB GE203 GE204 GE205 GE206⟩⟩
 clear HC3
 try clear c1
 try clear c2
 try clear p2
 try clear c3
 try clear c5
 try clear c9
 try clear c10
 try clear c11
 try clear c12
 try clear c14
 try clear c15
 try clear c19
 try clear c20
 try clear c21
 try clear c23
 try clear c24
 try clear hcz13_0
 try clear hcz16_0
 try clear hcz18_0
 try clear hcz22_0
 try clear hcz25_0
 try clear hfz13_0
 try clear hfz16_0
 try clear hfz18_0
 try clear hfz22_0
 try clear hfz25_0
 obtain ⟨kq, x22_2, rfl, HA, HJ2, BK203, BK204, BK205, BK206, HB⟩ := hcut
 obtain _ | kj2 := kq
 · exact absurd HA.out (by simp [spec_DivBig.j0])
 have H := HA.out
 clear HA
 simp only [spec_DivBig.j0] at H
 by_cases c27 : x22_2 = true
 · subst c27
   have H1 : (some (([] : List Int), ([] : List Int), false)) = some (r1, r2, r3) := by rw [if_pos rfl] at H; exact H
   clear H
   have H := H1
   clear H1
   simp only [Option.some.injEq, Prod.mk.injEq] at H
   obtain ⟨rfl, rfl, rfl⟩ := H
   have hnb28 := NB205_203.out
   have hnc28 := NB203_205.out
   have hnb29 := NB205_204.out
   have hnc29 := NB204_205.out
   have hnb30 := NB205_206.out
   have hnc30 := NB206_205.out
   have hcz31_0 : wc.cell? ⟨gb205, 0, none⟩ = some (.slice none 0 0) := (blk_cell BK205.out 0).trans rfl
   have hfz31_0 := blk_frozen BK205.out 0
   have hnb32 := NB206_203.out
   have hnc32 := NB203_206.out
   have hnb33 := NB206_204.out
   have hnc33 := NB204_206.out
   have hcz34_0 : wc.cell? ⟨gb206, 0, none⟩ = some (.slice none 0 0) := (blk_cell BK206.out 0).trans rfl
   have hfz34_0 := blk_frozen BK206.out 0
   go_wp2
   refine bodyPost_ret (results_list (rs := [.cell 4 27, .cell 5 27, .tmp 6]) rfl (by simp) (.cell gb205 27 #[.slice none 0 0] (0, 0) _ rfl (by (with_reducible repeat (first | refine blk_drewN ?_ _ | refine blk_drew ?_ | refine blk_alloc ?_ _)); refine blk_far ?_ NB205_206.out _; (with_reducible repeat (first | refine blk_drewN ?_ _ | refine blk_drew ?_ | refine blk_alloc ?_ _)); refine blk_put (cs := #[.slice none 0 0]) ?_ 0 _ rfl; (with_reducible repeat (first | refine blk_drewN ?_ _ | refine blk_drew ?_ | refine blk_alloc ?_ _)); exact BK205.out) Try.underlying27 rfl (by kernel_rfl) (.cell gb206 27 #[.slice none 0 0] (0, 0) _ rfl (by (with_reducible repeat (first | refine blk_drewN ?_ _ | refine blk_drew ?_ | refine blk_alloc ?_ _)); refine blk_put (cs := #[.slice none 0 0]) ?_ 0 _ rfl; (with_reducible repeat (first | refine blk_drewN ?_ _ | refine blk_drew ?_ | refine blk_alloc ?_ _)); refine blk_far ?_ NB206_205.out _; (with_reducible repeat (first | refine blk_drewN ?_ _ | refine blk_drew ?_ | refine blk_alloc ?_ _)); exact BK206.out) Try.underlying27 rfl (by kernel_rfl) (.tmp .nil)))) rfl ?_
   exact ⟨_, _, by first | rfl | (simp [errW_none, errW_some] <;> rfl) | (simp [*, errW_none, errW_some] <;> rfl), by first | exact Kd.R_nil _ _ _ _ _ | exact Kd.R_nil _ _ _ 0 _ | exact Kd.N_nil _ _ _ _ _ | exact Kd.V_nil _ _ _ _ _ | exact Kd.Q_nil _ _ _ _ _ | exact Kd.S_nil _ _ _ _ _, by first | exact Kd.R_nil _ _ _ _ _ | exact Kd.R_nil _ _ _ 0 _ | exact Kd.N_nil _ _ _ _ _ | exact Kd.V_nil _ _ _ _ _ | exact Kd.Q_nil _ _ _ _ _ | exact Kd.S_nil _ _ _ _ _, hq4 HB GE203 GE204 GE205 GE206⟩
 replace c27 := Bool.eq_false_iff.mpr c27
 subst c27
 have H1 : ((spec_l1Div.f kj2 l0_0 l1_0).bind fun bt208 => ((spec_l1Tell.f kj2 bt208.1).bind fun bt214 => ((spec_l1Tell.f kj2 bt208.2).bind fun bt219 => (some (bt214.1, bt219.1, true))))) = some (r1, r2, r3) := by rw [if_neg (show ¬ (false = true) by decide)] at H; exact H
 clear H
 have H := H1
 clear H1
 replace H := Option.bind_eq_some_iff.mp H
 obtain ⟨⟨t208, t211⟩, A350, H⟩ := H
 replace H : ((spec_l1Tell.f kj2 t208).bind fun bt214 => ((spec_l1Tell.f kj2 t211).bind fun bt219 => (some (bt214.1, bt219.1, true)))) = some (r1, r2, r3) := H
 have A35 := Aside0.mk A350
 clear A350
 replace H := Option.bind_eq_some_iff.mp H
 obtain ⟨⟨t214, t217⟩, A360, H⟩ := H
 replace H : ((spec_l1Tell.f kj2 t211).bind fun bt219 => (some (t214, bt219.1, true))) = some (r1, r2, r3) := H
 have A36 := Aside0.mk A360
 clear A360
 replace H := Option.bind_eq_some_iff.mp H
 obtain ⟨⟨t219, t222⟩, A370, H⟩ := H
 replace H : (some (t214, t219, true)) = some (r1, r2, r3) := H
 have A37 := Aside0.mk A370
 clear A370
 simp only [Option.some.injEq, Prod.mk.injEq] at H
 obtain ⟨rfl, rfl, rfl⟩ := H
 have hnb38 := NB203_204.out
 have hnc38 := NB204_203.out
 have hnb39 := NB203_205.out
 have hnc39 := NB205_203.out
 have hnb40 := NB203_206.out
 have hnc40 := NB206_203.out
 have hcz41_0 : wc.cell? ⟨gb203, 0, none⟩ = some (.slice A0_0 l0_0.length c0_0) := (blk_cell BK203.out 0).trans rfl
 have hfz41_0 := blk_frozen BK203.out 0
 have hnb42 := NB204_205.out
 have hnc42 := NB205_204.out
 have hnb43 := NB204_206.out
 have hnc43 := NB206_204.out
 have hcz44_0 : wc.cell? ⟨gb204, 0, none⟩ = some (.slice A1_0 l1_0.length c1_0) := (blk_cell BK204.out 0).trans rfl
 have hfz44_0 := blk_frozen BK204.out 0
 try go_wp2_with (first | ((with_reducible refine gate_callee (f := 65) rfl ?_); refine goesL_ (some 30) rfl rfl Try.func65 (by kernel_rfl) rfl #[.slice A0_0 l0_0.length c0_0, .slice A1_0 l1_0.length c1_0] rfl (by (try simp only [List.map_toArray, List.map_cons, List.map_nil]); first | done | rfl | (simp only [List.length_drop, List.length_take]; rfl)) ?_; (with_reducible refine (spec_l1Div.calls kj2 _ _ l0_0 _ _ l1_0 t208 t211 _ ?side1 ?side2 ?side3 ?side4 A35.out).mono ?_); (case side1 => repeat (first | exact (Kd.C_below HR0_0.out HB.out) | (with_reducible refine Kd.C_alloc ?_ _) | (with_reducible refine Kd.C_drewN ?_ _) | (with_reducible refine Kd.C_drew ?_))); (case side2 => exact HC0_0.out); (case side3 => repeat (first | exact (Kd.C_below HR1_0.out HB.out) | (with_reducible refine Kd.C_alloc ?_ _) | (with_reducible refine Kd.C_drewN ?_ _) | (with_reducible refine Kd.C_drew ?_))); (case side4 => exact HC1_0.out); rintro e w45 ⟨v209, v212, rfl, ho0, ho1, hb⟩; refine ⟨_, rfl, ?_⟩; have HO210 := Aside0.mk (Kd.V_lower (Kd.V_mono (ok' := fun k_ => k_ ≠ gb203 ∧ k_ ≠ gb204 ∧ k_ ≠ gb205 ∧ k_ ≠ gb206) ho0 (fun k_ hk_ => ⟨(Kd.freshB (g := gb203) (o := .cells #[.slice A0_0 l0_0.length c0_0] 27 (0, 0)) (bq BK203) k_ hk_), (Kd.freshB (g := gb204) (o := .cells #[.slice A1_0 l1_0.length c1_0] 27 (0, 0)) (bq BK204) k_ hk_), (Kd.freshB (g := gb205) (o := .cells #[.slice none 0 0] 27 (0, 0)) (bq BK205) k_ hk_), (Kd.freshB (g := gb206) (o := .cells #[.slice none 0 0] 27 (0, 0)) (bq BK206) k_ hk_)⟩)) (below_size (hq4 HB GE203 GE204 GE205 GE206))); have HO213 := Aside0.mk (Kd.V_lower (Kd.V_mono (ok' := fun k_ => k_ ≠ gb203 ∧ k_ ≠ gb204 ∧ k_ ≠ gb205 ∧ k_ ≠ gb206) ho1 (fun k_ hk_ => ⟨(Kd.freshB (g := gb203) (o := .cells #[.slice A0_0 l0_0.length c0_0] 27 (0, 0)) (bq BK203) k_ hk_), (Kd.freshB (g := gb204) (o := .cells #[.slice A1_0 l1_0.length c1_0] 27 (0, 0)) (bq BK204) k_ hk_), (Kd.freshB (g := gb205) (o := .cells #[.slice none 0 0] 27 (0, 0)) (bq BK205) k_ hk_), (Kd.freshB (g := gb206) (o := .cells #[.slice none 0 0] 27 (0, 0)) (bq BK206) k_ hk_)⟩)) (below_size (hq4 HB GE203 GE204 GE205 GE206))); replace BK203 := cB BK203 hb; replace BK204 := cB BK204 hb; replace BK205 := cB BK205 hb; replace BK206 := cB BK206 hb; replace HB := cs (hq4 HB GE203 GE204 GE205 GE206) hb; (try clear hb); (try clear hb2); (try clear hk); (try clear hi); (try clear ho0); (try clear ho1); obtain ⟨Ao46, co46, eo46⟩ := Kd.V_slice HO210.out; subst eo46) | ((with_reducible refine gate_callee (f := 49) rfl ?_); refine goesL_ (some 35) rfl rfl Try.func49 (by kernel_rfl) rfl #[.slice Ao46 t208.length co46] rfl (by (try simp only [List.map_toArray, List.map_cons, List.map_nil]); first | done | rfl | (simp only [List.length_drop, List.length_take]; rfl)) ?_; (with_reducible refine (spec_l1Tell.calls kj2 _ _ t208 t214 t217 _ ?side1 ?side2 A36.out).mono ?_); (case side1 => repeat (first | exact (Kd.V_reads' HO210.out).2.2 | (with_reducible refine Kd.C_alloc ?_ _) | (with_reducible refine Kd.C_drewN ?_ _) | (with_reducible refine Kd.C_drew ?_))); (case side2 => exact (Kd.V_reads' HO210.out).2.1); rintro e w47 ⟨v215, rfl, ho0, hb⟩; refine ⟨_, rfl, ?_⟩; replace HO210 := Aside0.mk (Kd.V_elder' (by (with_reducible repeat (first | apply Kd.V_alloc | apply Kd.V_drewN | apply Kd.V_drew)); exact HO210.out) (Kd.R_base ho0) hb); replace HO213 := Aside0.mk (Kd.V_elder' (by (with_reducible repeat (first | apply Kd.V_alloc | apply Kd.V_drewN | apply Kd.V_drew)); exact HO213.out) (Kd.R_base ho0) hb); have HO216 := Aside0.mk (Kd.R_lower ho0 (below_size (hq4 HB GE203 GE204 GE205 GE206))); replace BK203 := cB BK203 hb; replace BK204 := cB BK204 hb; replace BK205 := cB BK205 hb; replace BK206 := cB BK206 hb; replace HB := cs (hq4 HB GE203 GE204 GE205 GE206) hb; (try clear hb); (try clear hb2); (try clear hk); (try clear hi); (try clear ho0)) | ((with_reducible refine gate_dst (N := 9) rfl ?_); (try (refine gate_guard (by rfl) ?_; dsimp only)); refine box_event ?hg (N := 9) ?hd (cs := #[.slice none 0 0]) (t := 27) ?hr ?_; (case hd => rfl); (case hg => rfl); (case hr => first | (go_simp; done) | (go_simp; rfl)); intro gb218 hg w48 hbox hb; replace HO210 := Aside0.mk (Kd.V_below (Kd.V_elderB (by (with_reducible repeat (first | apply Kd.V_alloc | apply Kd.V_drewN | apply Kd.V_drew)); exact HO210.out) gb218 (Nat.le_of_eq hg.symm)) hb); replace HO213 := Aside0.mk (Kd.V_below (Kd.V_elderB (by (with_reducible repeat (first | apply Kd.V_alloc | apply Kd.V_drewN | apply Kd.V_drew)); exact HO213.out) gb218 (Nat.le_of_eq hg.symm)) hb); replace HO216 := cb HO216 hb; have n3_ := cB BK203 hb; have n4_ := cB BK204 hb; have n5_ := cB BK205 hb; have n6_ := cB BK206 hb; have n7_ := cs (hq4 HB GE203 GE204 GE205 GE206) hb; have BK218 := Aside0.mk (hbox); have GW218 := cg hg (hq4 HB GE203 GE204 GE205 GE206); have GE218 := cg hg (hq4 HB GE203 GE204 GE205 GE206); have NB203_218 := cl hg BK203; have NB218_203 := cr hg BK203; have NB204_218 := cl hg BK204; have NB218_204 := cr hg BK204; have NB205_218 := cl hg BK205; have NB218_205 := cr hg BK205; have NB206_218 := cl hg BK206; have NB218_206 := cr hg BK206; replace BK203 := n3_; replace BK204 := n4_; replace BK205 := n5_; replace BK206 := n6_; replace HB := n7_; clear n3_ n4_ n5_ n6_ n7_; clear hb hbox hg; obtain ⟨Ao49, co49, eo49⟩ := Kd.R_slice HO216.out; subst eo49; have hnb50 := NB218_203.out; have hnc50 := NB203_218.out; have hnb51 := NB218_204.out; have hnc51 := NB204_218.out; have hnb52 := NB218_205.out; have hnc52 := NB205_218.out; have hnb53 := NB218_206.out; have hnc53 := NB206_218.out; have hcz54_0 : w48.cell? ⟨gb218, 0, none⟩ = some (.slice none 0 0) := (blk_cell BK218.out 0).trans rfl; have hfz54_0 := blk_frozen BK218.out 0; obtain ⟨Ao55, co55, eo55⟩ := Kd.V_slice HO213.out; subst eo55) | ((with_reducible refine gate_callee (f := 49) rfl ?_); refine goesL_ (some 40) rfl rfl Try.func49 (by kernel_rfl) rfl #[.slice Ao55 t211.length co55] rfl (by (try simp only [List.map_toArray, List.map_cons, List.map_nil]); first | done | rfl | (simp only [List.length_drop, List.length_take]; rfl)) ?_; (with_reducible refine (spec_l1Tell.calls kj2 _ _ t211 t219 t222 _ ?side1 ?side2 A37.out).mono ?_); (case side1 => refine (Kd.V_reads' (e := 3) (base := w.heap.size) (ok := fun k_ => (((k_ ≠ gb203 ∧ (k_ ≠ gb204 ∧ (k_ ≠ gb205 ∧ k_ ≠ gb206))) ∧ some k_ ≠ (.slice Ao49 t214.length co49 : Value).ownBlock) ∧ k_ ≠ gb218)) (n := t211.length) (c := co55) ?_).2.2; exact (by (with_reducible repeat (first | apply Kd.V_alloc | apply Kd.V_drewN | apply Kd.V_drew)); exact (Kd.V_mono (Kd.V_far (p := ⟨gb218, 0, none⟩) (Kd.V_mono HO213.out (fun k_ hk => (⟨hk, hk.2⟩ : _ ∧ k_ ≠ gb218))) (fun _ hk => hk.2) (.slice Ao49 t214.length co49)) (fun _ h_ => h_.1)))); (case side2 => exact (Kd.V_reads' HO213.out).2.1); rintro e w56 ⟨v220, rfl, ho0, hb⟩; refine ⟨_, rfl, ?_⟩; replace HO210 := Aside0.mk (Kd.V_elder' (by (with_reducible repeat (first | apply Kd.V_alloc | apply Kd.V_drewN | apply Kd.V_drew)); exact (Kd.V_mono (Kd.V_far (p := ⟨gb218, 0, none⟩) (Kd.V_mono HO210.out (fun k_ hk => (⟨hk, hk.2⟩ : _ ∧ k_ ≠ gb218))) (fun _ hk => hk.2) (.slice Ao49 t214.length co49)) (fun _ h_ => h_.1))) (Kd.R_base ho0) hb); replace HO213 := Aside0.mk (Kd.V_elder' (by (with_reducible repeat (first | apply Kd.V_alloc | apply Kd.V_drewN | apply Kd.V_drew)); exact (Kd.V_mono (Kd.V_far (p := ⟨gb218, 0, none⟩) (Kd.V_mono HO213.out (fun k_ hk => (⟨hk, hk.2⟩ : _ ∧ k_ ≠ gb218))) (fun _ hk => hk.2) (.slice Ao49 t214.length co49)) (fun _ h_ => h_.1))) (Kd.R_base ho0) hb); have n2_ := Aside0.mk (Kd.R_elder' (by (with_reducible repeat (first | apply Kd.R_alloc | apply Kd.R_drewN | apply Kd.R_drew)); exact (Kd.R_mono (Kd.R_far (p := ⟨gb218, 0, none⟩) (Kd.R_types HO216.out BK218.out (by decide)) (fun _ hk => hk.2) (.slice Ao49 t214.length co49)) (fun _ h_ => h_.1))) (Kd.R_base ho0) hb); have HO221 := Aside0.mk (Kd.R_lower (Kd.R_new' ho0 (Kd.R_lt (by (with_reducible repeat (first | apply Kd.R_alloc | apply Kd.R_drewN | apply Kd.R_drew)); exact (Kd.R_mono (Kd.R_far (p := ⟨gb218, 0, none⟩) (Kd.R_types HO216.out BK218.out (by decide)) (fun _ hk => hk.2) (.slice Ao49 t214.length co49)) (fun _ h_ => h_.1))))) (below_size (hq5 HB GE203 GE204 GE205 GE206 GE218))); replace BK203 := Aside0.mk (blk_below (g := gb203) (o := .cells #[.slice A0_0 l0_0.length c0_0] 27 (0, 0)) (bf NB203_218 BK203) hb); replace BK204 := Aside0.mk (blk_below (g := gb204) (o := .cells #[.slice A1_0 l1_0.length c1_0] 27 (0, 0)) (bf NB204_218 BK204) hb); replace BK205 := Aside0.mk (blk_below (g := gb205) (o := .cells #[.slice none 0 0] 27 (0, 0)) (bf NB205_218 BK205) hb); replace BK206 := Aside0.mk (blk_below (g := gb206) (o := .cells #[.slice none 0 0] 27 (0, 0)) (bf NB206_218 BK206) hb); replace BK218 := Aside0.mk (blk_below (g := gb218) (o := .cells #[.slice Ao49 t214.length co49] 27 (0, 0)) (by (with_reducible repeat (first | refine blk_drewN ?_ _ | refine blk_drew ?_ | refine blk_alloc ?_ _)); refine blk_put (cs := #[.slice none 0 0]) ?_ 0 _ rfl; (with_reducible repeat (first | refine blk_drewN ?_ _ | refine blk_drew ?_ | refine blk_alloc ?_ _)); exact BK218.out) hb); replace HB := cs (hq5 HB GE203 GE204 GE205 GE206 GE218) hb; replace HO216 := n2_; clear n2_; (try clear hb); (try clear hb2); (try clear hk); (try clear hi); (try clear ho0)) | ((with_reducible refine gate_dst (N := 11) rfl ?_); (try (refine gate_guard (by rfl) ?_; dsimp only)); refine box_event ?hg (N := 11) ?hd (cs := #[.slice none 0 0]) (t := 27) ?hr ?_; (case hd => rfl); (case hg => rfl); (case hr => first | (go_simp; done) | (go_simp; rfl)); intro gb223 hg w57 hbox hb; replace HO210 := Aside0.mk (Kd.V_below (Kd.V_elderB (by (with_reducible repeat (first | apply Kd.V_alloc | apply Kd.V_drewN | apply Kd.V_drew)); exact HO210.out) gb223 (Nat.le_of_eq hg.symm)) hb); replace HO213 := Aside0.mk (Kd.V_below (Kd.V_elderB (by (with_reducible repeat (first | apply Kd.V_alloc | apply Kd.V_drewN | apply Kd.V_drew)); exact HO213.out) gb223 (Nat.le_of_eq hg.symm)) hb); replace HO216 := cb HO216 hb; replace HO221 := cb HO221 hb; have n4_ := cB BK203 hb; have n5_ := cB BK204 hb; have n6_ := cB BK205 hb; have n7_ := cB BK206 hb; have n8_ := cB BK218 hb; have n9_ := cs (hq5 HB GE203 GE204 GE205 GE206 GE218) hb; have BK223 := Aside0.mk (hbox); have GW223 := cg hg (hq5 HB GE203 GE204 GE205 GE206 GE218); have GE223 := cg hg (hq5 HB GE203 GE204 GE205 GE206 GE218); have NB203_223 := cl hg BK203; have NB223_203 := cr hg BK203; have NB204_223 := cl hg BK204; have NB223_204 := cr hg BK204; have NB205_223 := cl hg BK205; have NB223_205 := cr hg BK205; have NB206_223 := cl hg BK206; have NB223_206 := cr hg BK206; have NB218_223 := cl hg BK218; have NB223_218 := cr hg BK218; replace BK203 := n4_; replace BK204 := n5_; replace BK205 := n6_; replace BK206 := n7_; replace BK218 := n8_; replace HB := n9_; clear n4_ n5_ n6_ n7_ n8_ n9_; clear hb hbox hg; obtain ⟨Ao58, co58, eo58⟩ := Kd.R_slice HO221.out; subst eo58; have hnb59 := NB223_203.out; have hnc59 := NB203_223.out; have hnb60 := NB223_204.out; have hnc60 := NB204_223.out; have hnb61 := NB223_205.out; have hnc61 := NB205_223.out; have hnb62 := NB223_206.out; have hnc62 := NB206_223.out; have hnb63 := NB223_218.out; have hnc63 := NB218_223.out; have hcz64_0 : w57.cell? ⟨gb223, 0, none⟩ = some (.slice none 0 0) := (blk_cell BK223.out 0).trans rfl; have hfz64_0 := blk_frozen BK223.out 0))
 have n0_ : Aside0 (Kd.V (Kd.int .i64) 3 (w57.setCell ⟨gb223, 0, none⟩ (.slice Ao58 t219.length co58)) w.heap.size (fun k_ => some k_ ≠ (.slice Ao49 t214.length co49 : Value).ownBlock ∧ some k_ ≠ (.slice Ao58 t219.length co58 : Value).ownBlock ∧ k_ ≠ gb203 ∧ k_ ≠ gb204 ∧ k_ ≠ gb205 ∧ k_ ≠ gb206 ∧ k_ ≠ gb218 ∧ k_ ≠ gb223) (.slice Ao46 t208.length co46) t208) := ⟨by (with_reducible repeat (first | apply Kd.V_alloc | apply Kd.V_drewN | apply Kd.V_drew)); exact Kd.V_mono (Kd.V_far (p := ⟨gb223, 0, none⟩) (Kd.V_mono HO210.out (fun k_ hk => (⟨hk, hk.2⟩ : _ ∧ k_ ≠ gb223))) (fun _ hk => hk.2) (.slice Ao58 t219.length co58)) (fun _ hk => ⟨hk.1.1.1.1.2, ⟨hk.1.1.2, ⟨hk.1.1.1.1.1.1, ⟨hk.1.1.1.1.1.2.1, ⟨hk.1.1.1.1.1.2.2.1, ⟨hk.1.1.1.1.1.2.2.2, ⟨hk.1.1.1.2, hk.1.2⟩⟩⟩⟩⟩⟩⟩)⟩
 have n1_ : Aside0 (Kd.V (Kd.int .i64) 3 (w57.setCell ⟨gb223, 0, none⟩ (.slice Ao58 t219.length co58)) w.heap.size (fun k_ => some k_ ≠ (.slice Ao49 t214.length co49 : Value).ownBlock ∧ some k_ ≠ (.slice Ao58 t219.length co58 : Value).ownBlock ∧ k_ ≠ gb203 ∧ k_ ≠ gb204 ∧ k_ ≠ gb205 ∧ k_ ≠ gb206 ∧ k_ ≠ gb218 ∧ k_ ≠ gb223) (.slice Ao55 t211.length co55) t211) := ⟨by (with_reducible repeat (first | apply Kd.V_alloc | apply Kd.V_drewN | apply Kd.V_drew)); exact Kd.V_mono (Kd.V_far (p := ⟨gb223, 0, none⟩) (Kd.V_mono HO213.out (fun k_ hk => (⟨hk, hk.2⟩ : _ ∧ k_ ≠ gb223))) (fun _ hk => hk.2) (.slice Ao58 t219.length co58)) (fun _ hk => ⟨hk.1.1.1.1.2, ⟨hk.1.1.2, ⟨hk.1.1.1.1.1.1, ⟨hk.1.1.1.1.1.2.1, ⟨hk.1.1.1.1.1.2.2.1, ⟨hk.1.1.1.1.1.2.2.2, ⟨hk.1.1.1.2, hk.1.2⟩⟩⟩⟩⟩⟩⟩)⟩
 have n2_ : Aside0 (Kd.R (Kd.int .i64) 3 (w57.setCell ⟨gb223, 0, none⟩ (.slice Ao58 t219.length co58)) w.heap.size (fun k_ => some k_ ≠ (.slice Ao58 t219.length co58 : Value).ownBlock) (.slice Ao49 t214.length co49) t214) := ⟨by (with_reducible repeat (first | apply Kd.R_alloc | apply Kd.R_drewN | apply Kd.R_drew)); exact Kd.R_mono (Kd.R_far (p := ⟨gb223, 0, none⟩) (Kd.R_types HO216.out BK223.out (by decide)) (fun _ hk => hk.2) (.slice Ao58 t219.length co58)) (fun _ hk => hk.1.2)⟩
 have n3_ : Aside0 (Kd.R (Kd.int .i64) 3 (w57.setCell ⟨gb223, 0, none⟩ (.slice Ao58 t219.length co58)) w.heap.size (fun k_ => some k_ ≠ (.slice Ao49 t214.length co49 : Value).ownBlock) (.slice Ao58 t219.length co58) t219) := ⟨by (with_reducible repeat (first | apply Kd.R_alloc | apply Kd.R_drewN | apply Kd.R_drew)); exact Kd.R_mono (Kd.R_far (p := ⟨gb223, 0, none⟩) (Kd.R_types HO221.out BK223.out (by decide)) (fun _ hk => hk.2) (.slice Ao58 t219.length co58)) (fun _ hk => hk.1.2)⟩
 have n4_ : Aside0 ((w57.setCell ⟨gb223, 0, none⟩ (.slice Ao58 t219.length co58)).heap[gb203]? = some (.cells #[.slice A0_0 l0_0.length c0_0] 27 (0, 0))) := ⟨by (with_reducible repeat (first | refine blk_drewN ?_ _ | refine blk_drew ?_ | refine blk_alloc ?_ _)); refine blk_far ?_ NB203_223.out _; (with_reducible repeat (first | refine blk_drewN ?_ _ | refine blk_drew ?_ | refine blk_alloc ?_ _)); exact BK203.out⟩
 have n5_ : Aside0 ((w57.setCell ⟨gb223, 0, none⟩ (.slice Ao58 t219.length co58)).heap[gb204]? = some (.cells #[.slice A1_0 l1_0.length c1_0] 27 (0, 0))) := ⟨by (with_reducible repeat (first | refine blk_drewN ?_ _ | refine blk_drew ?_ | refine blk_alloc ?_ _)); refine blk_far ?_ NB204_223.out _; (with_reducible repeat (first | refine blk_drewN ?_ _ | refine blk_drew ?_ | refine blk_alloc ?_ _)); exact BK204.out⟩
 have n6_ : Aside0 ((w57.setCell ⟨gb223, 0, none⟩ (.slice Ao58 t219.length co58)).heap[gb205]? = some (.cells #[.slice none 0 0] 27 (0, 0))) := ⟨by (with_reducible repeat (first | refine blk_drewN ?_ _ | refine blk_drew ?_ | refine blk_alloc ?_ _)); refine blk_far ?_ NB205_223.out _; (with_reducible repeat (first | refine blk_drewN ?_ _ | refine blk_drew ?_ | refine blk_alloc ?_ _)); exact BK205.out⟩
 have n7_ : Aside0 ((w57.setCell ⟨gb223, 0, none⟩ (.slice Ao58 t219.length co58)).heap[gb206]? = some (.cells #[.slice none 0 0] 27 (0, 0))) := ⟨by (with_reducible repeat (first | refine blk_drewN ?_ _ | refine blk_drew ?_ | refine blk_alloc ?_ _)); refine blk_far ?_ NB206_223.out _; (with_reducible repeat (first | refine blk_drewN ?_ _ | refine blk_drew ?_ | refine blk_alloc ?_ _)); exact BK206.out⟩
 have n8_ : Aside0 ((w57.setCell ⟨gb223, 0, none⟩ (.slice Ao58 t219.length co58)).heap[gb218]? = some (.cells #[.slice Ao49 t214.length co49] 27 (0, 0))) := ⟨by (with_reducible repeat (first | refine blk_drewN ?_ _ | refine blk_drew ?_ | refine blk_alloc ?_ _)); refine blk_far ?_ NB218_223.out _; (with_reducible repeat (first | refine blk_drewN ?_ _ | refine blk_drew ?_ | refine blk_alloc ?_ _)); exact BK218.out⟩
 have n9_ : Aside0 ((w57.setCell ⟨gb223, 0, none⟩ (.slice Ao58 t219.length co58)).heap[gb223]? = some (.cells #[.slice Ao58 t219.length co58] 27 (0, 0))) := ⟨by (with_reducible repeat (first | refine blk_drewN ?_ _ | refine blk_drew ?_ | refine blk_alloc ?_ _)); refine blk_put (cs := #[.slice none 0 0]) ?_ 0 _ rfl; (with_reducible repeat (first | refine blk_drewN ?_ _ | refine blk_drew ?_ | refine blk_alloc ?_ _)); exact BK223.out⟩
 have n10_ : Aside0 (Below w.heap.size w (w57.setCell ⟨gb223, 0, none⟩ (.slice Ao58 t219.length co58))) := ⟨hq6 HB GE203 GE204 GE205 GE206 GE218 GE223⟩
 (try clear HO210)
 (try clear HO213)
 (try clear HO216)
 (try clear HO221)
 (try clear BK203)
 (try clear BK204)
 (try clear BK205)
 (try clear BK206)
 (try clear BK218)
 (try clear BK223)
 (try clear HB)
 generalize (w57.setCell ⟨gb223, 0, none⟩ (.slice Ao58 t219.length co58)) = w65 at n0_ n1_ n2_ n3_ n4_ n5_ n6_ n7_ n8_ n9_ n10_ ⊢
 have HO210 := n0_
 have HO213 := n1_
 have HO216 := n2_
 have HO221 := n3_
 have BK203 := n4_
 have BK204 := n5_
 have BK205 := n6_
 have BK206 := n7_
 have BK218 := n8_
 have BK223 := n9_
 have HB := n10_
 clear n0_ n1_ n2_ n3_ n4_ n5_ n6_ n7_ n8_ n9_ n10_
 replace HO210 := Aside0.mk (Kd.V_drew HO210.out)
 replace HO213 := Aside0.mk (Kd.V_drew HO213.out)
 replace HO216 := Aside0.mk (Kd.R_drew HO216.out)
 replace HO221 := Aside0.mk (Kd.R_drew HO221.out)
 replace BK203 := Aside0.mk (blk_drew BK203.out)
 replace BK204 := Aside0.mk (blk_drew BK204.out)
 replace BK205 := Aside0.mk (blk_drew BK205.out)
 replace BK206 := Aside0.mk (blk_drew BK206.out)
 replace BK218 := Aside0.mk (blk_drew BK218.out)
 replace BK223 := Aside0.mk (blk_drew BK223.out)
 replace HB := Aside0.mk (below_drew1 HB.out)
 refine start_ (n := 5) (S := fun w' => w'.cell? ⟨gb218, 0, none⟩ = some (.slice Ao49 t214.length co49) ∧ w'.cell? ⟨gb223, 0, none⟩ = some (.slice Ao58 t219.length co58)) (ds := []) #[false, false, false, false, false] (by kernel_rfl) rfl rfl ⟨(blk_cell BK218.out 0).trans rfl, (blk_cell BK223.out 0).trans rfl⟩ (fun hHeld => ?_)
 generalize w65.drew = w66 at HO210 HO213 HO216 HO221 BK203 BK204 BK205 BK206 BK218 BK223 HB hHeld ⊢
 refine take_ (i := 0) (N := some 43) (v := ?_) (a' := ?_) #[true, false, false, false, false] rfl rfl (by kernel_rfl) (fun _ _ _ h => h) (Or.inl ⟨by rfl, ?_⟩) hHeld ?_ ?_
 rotate_left
 · rintro w' ⟨s0, s1⟩
   go_simp
   with_reducible rfl
 rotate_left
 · simp only [Act.put, List.setIfInBounds_toArray, List.set_cons_zero, List.set_cons_succ, i64_w, i32_w]
   rfl
 refine take_ (i := 1) (N := some 44) (v := ?_) (a' := ?_) #[true, true, false, false, false] rfl rfl (by kernel_rfl) (fun _ _ _ h => h) (Or.inl ⟨by rfl, ?_⟩) hHeld ?_ ?_
 rotate_left
 · rintro w' ⟨s0, s1⟩
   go_simp
   with_reducible rfl
 rotate_left
 · simp only [Act.put, List.setIfInBounds_toArray, List.set_cons_zero, List.set_cons_succ, i64_w, i32_w]
   rfl
 refine one_ (i := 2) (N := none) #[true, true, true, false, false] rfl rfl (by kernel_rfl) (by decide) (fun K hK => ?_)
 have hs67 : w66.cell? ⟨gb205, 0, none⟩ = some (.slice none 0 0) := (blk_cell BK205.out 0).trans rfl
 have hfs67 := blk_frozen BK205.out 0
 have hns67_0 := NB203_205.out
 have hns67_1 := NB204_205.out
 have hns67_3 := NB206_205.out
 have hns67_4 := NB218_205.out
 have hns67_5 := NB223_205.out
 have hms67_0 := NB205_203.out
 have hms67_1 := NB205_204.out
 have hms67_3 := NB205_206.out
 have hms67_4 := NB205_218.out
 have hms67_5 := NB205_223.out
 refine skip_ (w1 := ?_) (by rfl) rfl ?_ ?_
 rotate_left
 · go_simp
   rfl
 refine hK.out _ _ ⟨((cell_far (p := ⟨gb205, _, none⟩) NB218_205.out _).trans (hHeld.1)), ((cell_far (p := ⟨gb205, _, none⟩) NB223_205.out _).trans (hHeld.2))⟩ (fun hHeld => ?_)
 clear hK K
 refine one_ (i := 3) (N := none) #[true, true, true, true, false] rfl rfl (by kernel_rfl) (by decide) (fun K hK => ?_)
 have hs68 : w66.cell? ⟨gb206, 0, none⟩ = some (.slice none 0 0) := (blk_cell BK206.out 0).trans rfl
 have hfs68 := blk_frozen BK206.out 0
 have hns68_0 := NB203_206.out
 have hns68_1 := NB204_206.out
 have hns68_2 := NB205_206.out
 have hns68_4 := NB218_206.out
 have hns68_5 := NB223_206.out
 have hms68_0 := NB206_203.out
 have hms68_1 := NB206_204.out
 have hms68_2 := NB206_205.out
 have hms68_4 := NB206_218.out
 have hms68_5 := NB206_223.out
 refine skip_ (w1 := ?_) (by rfl) rfl ?_ ?_
 rotate_left
 · go_simp
   rfl
 refine hK.out _ _ ⟨((cell_far (p := ⟨gb206, _, none⟩) NB218_206.out _).trans (hHeld.1)), ((cell_far (p := ⟨gb206, _, none⟩) NB223_206.out _).trans (hHeld.2))⟩ (fun hHeld => ?_)
 clear hK K
 refine pure_ (i := 4) (N := some 6) (v := ?_) (a' := ?_) #[true, true, true, true, true] rfl rfl (by kernel_rfl) (fun _ _ _ h => h) (Or.inl ⟨by rfl, ?_⟩) ?_ ?_
 rotate_left
 · intro w'
   first | (go_simp; with_reducible rfl) | (go_simp; unfold Instr.field; go_simp; rfl)
 rotate_left
 · simp only [Act.put, List.setIfInBounds_toArray, List.set_cons_zero, List.set_cons_succ, i64_w, i32_w]
   rfl
 refine done_ (by kernel_rfl) ?_
 try go_wp2
 refine bodyPost_ret (results_list (rs := [.cell 4 27, .cell 5 27, .tmp 6]) rfl (by simp) (.cell gb205 27 #[.slice Ao49 t214.length co49] (0, 0) _ rfl (by (with_reducible repeat (first | refine blk_drewN ?_ _ | refine blk_drew ?_ | refine blk_alloc ?_ _)); refine blk_far ?_ NB205_206.out _; (with_reducible repeat (first | refine blk_drewN ?_ _ | refine blk_drew ?_ | refine blk_alloc ?_ _)); refine blk_put (cs := #[.slice none 0 0]) ?_ 0 _ rfl; (with_reducible repeat (first | refine blk_drewN ?_ _ | refine blk_drew ?_ | refine blk_alloc ?_ _)); exact BK205.out) Try.underlying27 rfl (by kernel_rfl) (.cell gb206 27 #[.slice Ao58 t219.length co58] (0, 0) _ rfl (by (with_reducible repeat (first | refine blk_drewN ?_ _ | refine blk_drew ?_ | refine blk_alloc ?_ _)); refine blk_put (cs := #[.slice none 0 0]) ?_ 0 _ rfl; (with_reducible repeat (first | refine blk_drewN ?_ _ | refine blk_drew ?_ | refine blk_alloc ?_ _)); refine blk_far ?_ NB206_205.out _; (with_reducible repeat (first | refine blk_drewN ?_ _ | refine blk_drew ?_ | refine blk_alloc ?_ _)); exact BK206.out) Try.underlying27 rfl (by kernel_rfl) (.tmp .nil)))) rfl ?_
 exact ⟨_, _, by first | rfl | (simp [errW_none, errW_some] <;> rfl) | (simp [*, errW_none, errW_some] <;> rfl), by (with_reducible repeat (first | apply Kd.R_alloc | apply Kd.R_drewN | apply Kd.R_drew)); exact Kd.R_mono (Kd.R_far (p := ⟨gb206, 0, none⟩) (Kd.R_far (p := ⟨gb205, 0, none⟩) (Kd.R_types (Kd.R_types HO216.out BK205.out (by decide)) BK206.out (by decide)) (fun _ hk => hk.1.2) (.slice Ao49 t214.length co49)) (fun _ hk => hk.2) (.slice Ao58 t219.length co58)) (fun _ hk => hk.1.1), by (with_reducible repeat (first | apply Kd.R_alloc | apply Kd.R_drewN | apply Kd.R_drew)); exact Kd.R_mono (Kd.R_far (p := ⟨gb206, 0, none⟩) (Kd.R_far (p := ⟨gb205, 0, none⟩) (Kd.R_types (Kd.R_types HO221.out BK205.out (by decide)) BK206.out (by decide)) (fun _ hk => hk.1.2) (.slice Ao49 t214.length co49)) (fun _ hk => hk.2) (.slice Ao58 t219.length co58)) (fun _ hk => hk.1.1), hq6 HB GE203 GE204 GE205 GE206 GE218 GE223⟩

/-! ### impl_within: function 69 -/
def impl_within.f (a0 : Int) (a1 : Int) (a2 : Int) : Option (Bool) := if a0 ≥ a1 then (some (decide (a0 ≤ a2))) else (some false)
set_option maxHeartbeats 8000000 in
set_option maxRecDepth 100000 in
theorem impl_within.calls (a0 : Int) (a1 : Int) (a2 : Int) (r : Bool) (w : World) (h : impl_within.f a0 a1 a2 = some r) :
    Calls Try.prog 69 #[.int .i64 a0, .int .i64 a1, .int .i64 a2] w fun e w' => e = .returned (.bool r) ∧ Drawn0 w w' := by
 have H : (if a0 ≥ a1 then (some (decide (a0 ≤ a2))) else (some false)) = some r := h
 clear h
 by_cases c4 : a0 ≥ a1
 · rw [if_pos c4] at H
   have c4b0 : decide (a1 ≤ a0) = true := decide_eq_true c4
   clear c4
   obtain rfl := Option.some.inj H
   go_enter Try.func69, Try.ntmps69
   go_wp2
   go_ret
   exact ⟨by first | rfl | (simp; done) | (simp [*]; done), by repeat (first | exact Drawn0.refl _ | apply Drawn0.step)⟩
 rw [if_neg c4] at H
 have c4b0 : decide (a1 ≤ a0) = false := decide_eq_false c4
 clear c4
 obtain rfl := Option.some.inj H
 go_enter Try.func69, Try.ntmps69
 go_wp2
 go_ret
 exact ⟨by first | rfl | (simp; done) | (simp [*]; done), by repeat (first | exact Drawn0.refl _ | apply Drawn0.step)⟩

end Go.Proofs.Ytcehboknhdmmfaa.QFnExactDivBig
