import Derived.Test.YtadooofomkdaoaaSqueez2
import Derived.Test.YtadooofomkdaoaaQFnHalvesx0
import Derived.Test.YtadooofomkdaoaaQFnHalvesx5
import Derived.Test.YtadooofomkdaoaaQFnHalvesx7
namespace Go.Proofs.Ytadooofomkdaoaa.QFnHalves
open Go.RowKit Go.Proofs.YtadooofomkdaoaaW.PrintWords Go.Proofs.YtadooofomkdaoaaW.PrintLast Go.Proofs.YtadooofomkdaoaaW.PrintMore
attribute [local go_sem] max2_int min2_int max_two min_two max_three min_three max_four min_four   -- for this text's walks alone
set_option linter.unusedVariables false
set_option linter.unusedSimpArgs false

/-! ### spec_l1At: function 90 -/
def spec_l1At.f (l0 : List Int) (a1 : Int) : Option (Int) := if a1 < (l0.length : Int) then (if 0 ≤ a1 then (some (rd l0 a1)) else (none)) else (some 0)
set_option maxHeartbeats 8000000 in
set_option maxRecDepth 100000 in
theorem spec_l1At.calls (A0 : Option Addr) (c0 : Nat) (l0 : List Int) (a1 : Int) (r : Int) (w : World) (hr0 : Kd.C (Kd.int .i64) w A0 l0.length l0) (hc0 : l0.length ≤ c0) (h : spec_l1At.f l0 a1 = some r) :
    Calls Try.prog 90 #[.slice A0 l0.length c0, .int .i64 a1] w fun e w' => e = .returned (.int .i64 r) ∧ Drawn0 w w' := by
 have HR0 := Aside0.mk hr0; have HC0 := Aside0.mk hc0; clear hr0 hc0
 have H : (if a1 < (l0.length : Int) then (if 0 ≤ a1 then (some (rd l0 a1)) else (none)) else (some 0)) = some r := h
 clear h
 by_cases c3 : a1 < (l0.length : Int)
 rotate_left
 · rw [if_neg c3] at H
   have c3b0 : decide (a1 < (l0.length : Int)) = false := decide_eq_false c3
   clear c3; obtain rfl := Option.some.inj H
   go_enter Try.func90, Try.ntmps90
   go_wp2
   go_ret
   exact ⟨by first | rfl | (simp; done) | (simp [*]; done), by repeat (first | exact Drawn0.refl _ | apply Drawn0.step)⟩

 rw [if_pos c3] at H
 have c3b0 : decide (a1 < (l0.length : Int)) = true := decide_eq_true c3
 clear c3
 by_cases c4 : 0 ≤ a1
 rotate_left
 · rw [if_neg c4] at H
   exact absurd H (by simp)
 rw [if_pos c4] at H
 have c4b0 : decide (0 ≤ a1) = true := decide_eq_true c4
 clear c4; obtain rfl := Option.some.inj H
 have p509 : 0 ≤ (a1 : Int) := of_decide_eq_true (by first | (with_reducible assumption) | assumption)
 have q509 : a1 < (l0.length : Int) := of_decide_eq_true (by first | (with_reducible assumption) | assumption)
 obtain ⟨ad509, e509, hx509_0⟩ := Kd.at_int HR0.out a1 p509 q509
 cases e509
 replace p509 := eq_true p509; replace q509 := eq_true q509
 go_enter Try.func90, Try.ntmps90
 go_wp2
 go_ret
 exact ⟨by first | rfl | (simp; done) | (simp [*]; done), by repeat (first | exact Drawn0.refl _ | apply Drawn0.step)⟩
/-! ### spec_l1Add: function 79 -/
mutual
def spec_l1Add.l0 : Nat → List Int → List Int → List Int → Int → Int → Option (List Int)
  | 0, _, _, _, _, _ => none
  | k + 1, x0, x1, x5, x6, x7 => if x7 < (x0.length : Int) then (spec_l1Add.j1 k x0 x1 x5 x6 x7 true) else (if x7 < (x1.length : Int) then (spec_l1Add.j1 k x0 x1 x5 x6 x7 true) else (spec_l1Add.j1 k x0 x1 x5 x6 x7 (decide (x6 > 0))))
def spec_l1Add.j1 : Nat → List Int → List Int → List Int → Int → Int → Bool → Option (List Int)
  | 0, _, _, _, _, _, _ => none
  | k + 1, x0, x1, x5, x6, x7, x22 => if x22 = true then ((spec_l1At.f x0 x7).bind fun t510 => ((spec_l1At.f x1 x7).bind fun t511 => (if x5.length < 17592186044416 then (spec_l1Add.l0 k x0 x1 (x5 ++ [Int.tmod (wrap64 ((wrap64 (t510 + t511)) + x6)) 65536]) (wrap64 (Int.tdiv (wrap64 ((wrap64 (t510 + t511)) + x6)) 65536)) (wrap64 (x7 + 1))) else (none)))) else ((spec_l1Trim.f k x5).bind fun t515 => (some t515))
end
def spec_l1Add.f (k : Nat) (l0 : List Int) (l1 : List Int) : Option (List Int) := spec_l1Add.l0 k l0 l1 ([] : List Int) 0 0
set_option maxHeartbeats 8000000 in
set_option maxRecDepth 100000 in
theorem spec_l1Add.calls (k : Nat) (A0 : Option Addr) (c0 : Nat) (l0 : List Int) (A1 : Option Addr) (c1 : Nat) (l1 : List Int) (r : List Int) (w : World) (hr0 : Kd.C (Kd.int .i64) w A0 l0.length l0) (hc0 : l0.length ≤ c0) (hr1 : Kd.C (Kd.int .i64) w A1 l1.length l1) (hc1 : l1.length ≤ c1) (h : spec_l1Add.f k l0 l1 = some r) :
    Calls Try.prog 79 #[.slice A0 l0.length c0, .slice A1 l1.length c1] w fun e w' => ∃ v0_ : Value, e = .returned (v0_) ∧ Kd.V (Kd.int .i64) 3 w' w.heap.size (fun k_ => (w.heap.size ≤ k_)) v0_ r ∧ Below w.heap.size w w' := by
 have HR0 := Aside0.mk hr0; have HC0 := Aside0.mk hc0; clear hr0 hc0; have HR1 := Aside0.mk hr1; have HC1 := Aside0.mk hc1; clear hr1 hc1; have HB := Aside0.mk (Below.refl w.heap.size w)
 have H : (spec_l1Add.l0 k l0 l1 ([] : List Int) 0 0) = some r := h
 clear h
 have H' := Aside0.mk H
 clear H
 go_enter Try.func79, Try.ntmps79
 go_wp2
 go_loopg [5, 6, 7] k (fun kq v5 v6 v7 w' => ∃ (x5_1 : List Int) (x6_1 : Int) (x7_1 : Int), v6 = .int .i64 x6_1 ∧ v7 = .int .i64 x7_1 ∧ Aside0 (spec_l1Add.l0 kq l0 l1 x5_1 x6_1 x7_1 = some r) ∧ Aside0 (kq ≤ k) ∧ Aside0 (Kd.R (Kd.int .i64) 3 w' w.heap.size (fun k_ => (w.heap.size ≤ k_)) v5 x5_1) ∧ Aside0 (Below w.heap.size w w'))
 case atStart => exact ⟨(([] : List Int)), (0), (0), (by first | rfl | (simp; done) | (simp [*]; done)), (by first | rfl | (simp; done) | (simp [*]; done)), H', ⟨Nat.le_refl _⟩, ⟨by first | exact Kd.R_nil _ _ _ _ _ | exact Kd.R_nil _ _ _ 0 _ | exact Kd.N_nil _ _ _ _ _ | exact Kd.V_nil _ _ _ _ _ | exact Kd.Q_nil _ _ _ _ _ | exact Kd.S_nil _ _ _ _ _⟩, ⟨hq HB⟩⟩
 case round =>
   clear H'
   (try clear c1); (try clear p2); obtain ⟨x5_1, x6_1, x7_1, rfl, rfl, HA, HK1, HO_5, HB⟩ := hrel
   cases gk with
   | zero => exact absurd HA.out (by simp [spec_l1Add.l0])
   | succ k1 =>
     have H := HA.out; clear HA
     simp only [spec_l1Add.l0] at H
     have HC3 := Aside0.mk H; clear H
     go_upto_region 4 with (fail)
     go_cut [22] (fun v22 wc => ∃ (kq : Nat) (x22_2 : Bool), v22 = .bool x22_2 ∧ Aside0 (spec_l1Add.j1 kq l0 l1 x5_1 x6_1 x7_1 x22_2 = some r) ∧ Aside0 (kq ≤ k1) ∧ Aside0 (Kd.R (Kd.int .i64) 3 wc w.heap.size (fun k_ => (w.heap.size ≤ k_)) u5 x5_1) ∧ Aside0 (Below w.heap.size w wc))
     case first =>
       have H := HC3.out; clear HC3
       by_cases c4 : x7_1 < (l0.length : Int)
       · rw [if_pos c4] at H
         have c4b0 : decide (x7_1 < (l0.length : Int)) = true := decide_eq_true c4
         clear c4
         (first | rw [c4b0] | (simp only [i64_w, i32_w]; rw [c4b0]) | skip)
         have H' := Aside0.mk H
         clear H
         go_wp2
         go_meet
         case rel => exact ⟨_, (true), (by first | rfl | (simp; done) | (simp [*]; done)), H', ⟨by have := HK1.out; first | omega | exact Nat.le_refl _⟩, ⟨by (with_reducible repeat (first | apply Kd.R_alloc | apply Kd.R_drewN | apply Kd.R_drew)); exact HO_5.out⟩, ⟨hq HB⟩⟩
       · rw [if_neg c4] at H
         have c4b0 : decide (x7_1 < (l0.length : Int)) = false := decide_eq_false c4
         clear c4
         (first | rw [c4b0] | (simp only [i64_w, i32_w]; rw [c4b0]) | skip)
         by_cases c5 : x7_1 < (l1.length : Int)
         · rw [if_pos c5] at H
           have c5b0 : decide (x7_1 < (l1.length : Int)) = true := decide_eq_true c5
           clear c5
           have H' := Aside0.mk H
           clear H
           go_wp2
           go_meet
           case rel => exact ⟨_, (true), (by first | rfl | (simp; done) | (simp [*]; done)), H', ⟨by have := HK1.out; first | omega | exact Nat.le_refl _⟩, ⟨by (with_reducible repeat (first | apply Kd.R_alloc | apply Kd.R_drewN | apply Kd.R_drew)); exact HO_5.out⟩, ⟨hq HB⟩⟩
         · rw [if_neg c5] at H
           have c5b0 : decide (x7_1 < (l1.length : Int)) = false := decide_eq_false c5
           clear c5
           have H' := Aside0.mk H
           clear H
           go_wp2
           go_meet
           case rel => exact ⟨_, (decide (x6_1 > 0)), (by first | rfl | (simp; done) | (simp [*]; done)), H', ⟨by have := HK1.out; first | omega | exact Nat.le_refl _⟩, ⟨by (with_reducible repeat (first | apply Kd.R_alloc | apply Kd.R_drewN | apply Kd.R_drew)); exact HO_5.out⟩, ⟨hq HB⟩⟩
     case rest =>
       clear HC3; (try clear c1); (try clear p2); (try clear c4); (try clear c4b0); (try clear c5); (try clear c5b0); (try clear p2); obtain ⟨kq, x22_2, rfl, HA, HJ2, HO_5, HB⟩ := hcut
       cases kq with
       | zero => exact absurd HA.out (by simp [spec_l1Add.j1])
       | succ kj2 =>
         have H := HA.out; clear HA
         simp only [spec_l1Add.j1] at H
         by_cases c6 : x22_2 = true
         · subst c6
           have H1 : ((spec_l1At.f l0 x7_1).bind fun t510 => ((spec_l1At.f l1 x7_1).bind fun t511 => (if x5_1.length < 17592186044416 then (spec_l1Add.l0 kj2 l0 l1 (x5_1 ++ [Int.tmod (wrap64 ((wrap64 (t510 + t511)) + x6_1)) 65536]) (wrap64 (Int.tdiv (wrap64 ((wrap64 (t510 + t511)) + x6_1)) 65536)) (wrap64 (x7_1 + 1))) else (none)))) = some r := by rw [if_pos rfl] at H; exact H
           clear H; have H := H1; clear H1; replace H := Option.bind_eq_some_iff.mp H; obtain ⟨t510, A70, H⟩ := H; (try dsimp only at H); have A7 := Aside0.mk A70; clear A70; replace H := Option.bind_eq_some_iff.mp H; obtain ⟨t511, A80, H⟩ := H; (try dsimp only at H); have A8 := Aside0.mk A80; clear A80
           by_cases c9 : x5_1.length < 17592186044416
           · rw [if_pos c9] at H
             have LMc9 := Aside0.mk c9; clear c9; obtain ⟨y512, hy512⟩ : ∃ y_ : List Int, y_ = (x5_1 ++ [Int.tmod (wrap64 ((wrap64 (t510 + t511)) + x6_1)) 65536]) := ⟨_, rfl⟩
             replace H : (spec_l1Add.l0 kj2 l0 l1 y512 (wrap64 (Int.tdiv (wrap64 ((wrap64 (t510 + t511)) + x6_1)) 65536)) (wrap64 (x7_1 + 1))) = some r := by first | (rw [hy512]; with_reducible exact H) | (have H2_ := (Option.bind_some _ _).symm.trans H; rw [hy512]; with_reducible exact H2_) | (have H2_ := (Option.bind_some _ _).symm.trans H; with_reducible exact H2_) | with_reducible exact H | (rw [hy512]; exact H) | exact H
             have Ny512 := Aside0.mk hy512; clear hy512
             have H' := Aside0.mk H
             clear H
             go_wp2_with (first | ((with_reducible refine gate_callee (f := 90) rfl ?_); refine gC (some 27) Try.func90 #[.slice A0 l0.length c0, .int .i64 x7_1] ?_; (with_reducible refine (spec_l1At.calls _ _ l0 x7_1 t510 _ ?side1 ?side2 A7.out).mono ?_); (case side1 => exact cq (Kd.C_below HR0.out HB.out)); (case side2 => exact HC0.out); rintro e w' ⟨rfl, ⟨nd, rfl⟩⟩; refine ⟨_, rfl, ?_⟩) | ((with_reducible refine gate_callee (f := 90) rfl ?_); refine gC (some 30) Try.func90 #[.slice A1 l1.length c1, .int .i64 x7_1] ?_; (with_reducible refine (spec_l1At.calls _ _ l1 x7_1 t511 _ ?side1 ?side2 A8.out).mono ?_); (case side1 => exact cq ((Kd.C_below HR1.out (hq HB)))); (case side2 => exact HC1.out); rintro e w' ⟨rfl, ⟨nd, rfl⟩⟩; refine ⟨_, rfl, ?_⟩) | ((with_reducible refine gate_builtin (b := .append) (xs := #[.tmp 34, .tmp 37]) rfl ?_); (try (refine gate_guard (by rfl) ?_; dsimp only)); at_builtin; refine Kd.R_append (Kd.int .i64) (w0 := w) w.heap.size rfl (.tmp 34) (.tmp 37) 23 3 (.int .i64 0) 8 rfl Try.underlying23 info3 rfl (by decide) (by omega) u5 x5_1 (Int.tmod (wrap64 ((wrap64 (t510 + t511)) + x6_1)) 65536) [.int .i64 (Int.tmod (wrap64 ((wrap64 (t510 + t511)) + x6_1)) 65536)] (fun k_ => (w.heap.size ≤ k_)) (fun _ => False) rfl rfl ?aP (fun _ hk => hk.elim) ?aF ?aO ?aB ?aS ?aL ?_; (case aP => exact rfl); (case aB => exact (hq HB)); (case aF => exact (fun k_ hk => (Nat.le_trans (below_size (hq HB)) hk))); (case aO => exact (rq HO_5)); (case aS => exact (below_size (hq HB))); (case aL => have := LMc9.out; omega); intro v513 w10 ho hb hg hat; rw [← Ny512.out] at ho; replace HB := Aside0.mk (hb); have HO514 := Aside0.mk (ho); clear HO_5; clear ho hb hg hat))
             go_roundg kj2
             case measure => have := HK1.out; have := HJ2.out; omega
             case rel => exact ⟨(y512), (wrap64 (Int.tdiv (wrap64 ((wrap64 (t510 + t511)) + x6_1)) 65536)), (wrap64 (x7_1 + 1)), (by first | rfl | (simp; done) | (simp [*]; done)), (by first | rfl | (simp; done) | (simp [*]; done)), H', ⟨by have := HK1.out; have := HJ2.out; omega⟩, ⟨by (with_reducible repeat (first | apply Kd.R_alloc | apply Kd.R_drewN | apply Kd.R_drew)); exact HO514.out⟩, ⟨hq HB⟩⟩
           · rw [if_neg c9] at H
             exact absurd H (by simp)
         · replace c6 := Bool.eq_false_iff.mpr c6
           subst c6
           have H1 : ((spec_l1Trim.f kj2 x5_1).bind fun t515 => (some t515)) = some r := by rw [if_neg (show ¬ (false = true) by decide)] at H; exact H
           clear H; have H := H1; clear H1; replace H := Option.bind_eq_some_iff.mp H; obtain ⟨t515, A110, H⟩ := H; (try dsimp only at H); have A11 := Aside0.mk A110; clear A110; obtain rfl := Option.some.inj H; obtain ⟨Ao12, co12, eo12⟩ := Kd.R_slice HO_5.out; subst eo12
           go_wp2_with (first | ((with_reducible refine gate_callee (f := 131) rfl ?_); refine gC (some 42) Try.func131 #[.slice Ao12 x5_1.length co12] ?_; (with_reducible refine (spec_l1Trim.calls kj2 (fun k_ => some k_ = (.slice Ao12 x5_1.length co12 : Value).ownBlock) _ _ x5_1 t515 _ ?side1 A11.out).mono ?_); (case side1 => exact Kd.R_V (Kd.R_tight rfl (HO_5.out))); rintro e w13 ⟨v516, rfl, ho0, hb⟩; refine ⟨_, rfl, ?_⟩; have n0_ := cb HO_5 hb; have HO517 := Aside0.mk (Kd.V_lower (Kd.V_mono (ok' := fun k_ => (w.heap.size ≤ k_)) ho0 (fun k_ hk_ => Or.elim hk_ (fun hs_ => ((HO_5.out).1 k_ hs_.symm)) (fun hn_ => (Nat.le_trans (below_size (hq HB)) hn_)))) (below_size (hq HB))); replace HB := cs (hq HB) hb; replace HO_5 := n0_; clear n0_; (try clear hb); (try clear hb2); (try clear hk); (try clear hi); (try clear ho0)))
           go_ret
           exact ⟨_, by first | rfl | (simp <;> rfl) | (simp [*] <;> rfl), by (with_reducible repeat (first | apply Kd.V_alloc | apply Kd.V_drewN | apply Kd.V_drew)); exact HO517.out, hq HB⟩

/-! ### spec_l1Twice: function 100 -/
def spec_l1Twice.f (k : Nat) (l0 : List Int) (a1 : Int) : Option (List Int) := (spec_l1Add.f k l0 l0).bind fun t518 => ((spec_l1Of.f k a1).bind fun t521 => ((spec_l1Add.f k t518 t521).bind fun t524 => (some t524)))
set_option maxHeartbeats 8000000 in
set_option maxRecDepth 100000 in
theorem spec_l1Twice.calls (k : Nat) (A0 : Option Addr) (c0 : Nat) (l0 : List Int) (a1 : Int) (r : List Int) (w : World) (hr0 : Kd.C (Kd.int .i64) w A0 l0.length l0) (hc0 : l0.length ≤ c0) (h : spec_l1Twice.f k l0 a1 = some r) :
    Calls Try.prog 100 #[.slice A0 l0.length c0, .int .i64 a1] w fun e w' => ∃ v0_ : Value, e = .returned (v0_) ∧ Kd.V (Kd.int .i64) 3 w' w.heap.size (fun k_ => (w.heap.size ≤ k_)) v0_ r ∧ Below w.heap.size w w' := by
 have HR0 := Aside0.mk hr0; have HC0 := Aside0.mk hc0; clear hr0 hc0; have HB := Aside0.mk (Below.refl w.heap.size w)
 have H : ((spec_l1Add.f k l0 l0).bind fun t518 => ((spec_l1Of.f k a1).bind fun t521 => ((spec_l1Add.f k t518 t521).bind fun t524 => (some t524)))) = some r := h
 clear h; replace H := Option.bind_eq_some_iff.mp H; obtain ⟨t518, A30, H⟩ := H; (try dsimp only at H); have A3 := Aside0.mk A30; clear A30; replace H := Option.bind_eq_some_iff.mp H; obtain ⟨t521, A40, H⟩ := H; (try dsimp only at H); have A4 := Aside0.mk A40; clear A40; replace H := Option.bind_eq_some_iff.mp H; obtain ⟨t524, A50, H⟩ := H; (try dsimp only at H); have A5 := Aside0.mk A50; clear A50; obtain rfl := Option.some.inj H
 go_enter Try.func100, Try.ntmps100
 go_wp2_with (first | ((with_reducible refine gate_callee (f := 79) rfl ?_); refine gC (some 7) Try.func79 #[.slice A0 l0.length c0, .slice A0 l0.length c0] ?_; (with_reducible refine (spec_l1Add.calls k _ _ l0 _ _ l0 t518 _ ?side1 ?side2 ?side3 ?side4 A3.out).mono ?_); (case side1 => exact cq HR0.out); (case side2 => exact HC0.out); (case side3 => exact cq HR0.out); (case side4 => exact HC0.out); rintro e w6 ⟨v519, rfl, ho0, hb⟩; refine ⟨_, rfl, ?_⟩; have HO520 := Aside0.mk (Kd.V_lower (Kd.V_mono (ok' := fun k_ => (w.heap.size ≤ k_)) ho0 (fun k_ hk_ => (Nat.le_trans (below_size (hq HB)) hk_))) (below_size (hq HB))); replace HB := cs (hq HB) hb; (try clear hb); (try clear hb2); (try clear hk); (try clear hi); (try clear ho0)) | ((with_reducible refine gate_callee (f := 97) rfl ?_); refine gC (some 9) Try.func97 #[.int .i64 a1] ?_; (with_reducible refine (spec_l1Of.calls k a1 t521 _ A4.out).mono ?_); rintro e w7 ⟨v522, rfl, ho0, hb⟩; refine ⟨_, rfl, ?_⟩; replace HO520 := Aside0.mk (vb HO520 ho0 hb); have HO523 := Aside0.mk (Kd.R_lower (Kd.R_newM (M := fun k_ => (w.heap.size ≤ k_)) ho0 (below_size (hq HB)) (fun k_ h_ => h_)) (below_size (hq HB))); replace HB := cs (hq HB) hb; (try clear hb); (try clear hb2); (try clear hk); (try clear hi); (try clear ho0); obtain ⟨Ao8, co8, eo8⟩ := Kd.V_slice HO520.out; subst eo8; obtain ⟨Ao9, co9, eo9⟩ := Kd.R_slice HO523.out; subst eo9) | ((with_reducible refine gate_callee (f := 79) rfl ?_); refine gC (some 10) Try.func79 #[.slice Ao8 t518.length co8, .slice Ao9 t521.length co9] ?_; (with_reducible refine (spec_l1Add.calls k _ _ t518 _ _ t521 t524 _ ?side1 ?side2 ?side3 ?side4 A5.out).mono ?_); (case side1 => exact cq ((Kd.V_reads' HO520.out).2.2)); (case side2 => exact (Kd.V_reads' HO520.out).2.1); (case side3 => exact cq ((Kd.R_reads' HO523.out).2.2)); (case side4 => exact (Kd.R_reads' HO523.out).2.1); rintro e w10 ⟨v525, rfl, ho0, hb⟩; refine ⟨_, rfl, ?_⟩; replace HO520 := Aside0.mk (Kd.V_below (vq HO520) hb); have n1_ := cb HO523 hb; have HO526 := Aside0.mk (Kd.V_lower (Kd.V_mono (ok' := fun k_ => (w.heap.size ≤ k_) ∧ some k_ ≠ (.slice Ao9 t521.length co9 : Value).ownBlock) ho0 (fun k_ hk_ => ⟨(Nat.le_trans (below_size (hq HB)) hk_), (Kd.fresh' (ql HO523) k_ hk_)⟩)) (below_size (hq HB))); replace HB := cs (hq HB) hb; replace HO523 := n1_; clear n1_; (try clear hb); (try clear hb2); (try clear hk); (try clear hi); (try clear ho0)))
 go_ret
 exact ⟨_, by first | rfl | (simp <;> rfl) | (simp [*] <;> rfl), by (with_reducible repeat (first | apply Kd.V_alloc | apply Kd.V_drewN | apply Kd.V_drew)); exact Kd.V_mono HO526.out (fun _ hk => hk.1), hq HB⟩

/-! ### spec_l1Compare: function 103 -/
def spec_l1Compare.l0 : Nat → List Int → List Int → Int → Option (Int)
  | 0, _, _, _ => none
  | k + 1, x0, x1, x5 => if x5 ≥ 0 then (if 0 ≤ x5 then (if x5 < (x0.length : Int) then (if x5 < (x1.length : Int) then (if (rd x0 x5) < (rd x1 x5) then (some (-1)) else (if (rd x0 x5) > (rd x1 x5) then (some 1) else (spec_l1Compare.l0 k x0 x1 (wrap64 (x5 - 1))))) else (none)) else (none)) else (none)) else (some 0)
def spec_l1Compare.f (k : Nat) (l0 : List Int) (l1 : List Int) : Option (Int) := if (l0.length : Int) = (l1.length : Int) then (spec_l1Compare.l0 k l0 l1 (wrap64 ((l0.length : Int) - 1))) else (if (l0.length : Int) < (l1.length : Int) then (some (-1)) else (some 1))
set_option maxHeartbeats 8000000 in
set_option maxRecDepth 100000 in
theorem spec_l1Compare.calls (k : Nat) (A0 : Option Addr) (c0 : Nat) (l0 : List Int) (A1 : Option Addr) (c1 : Nat) (l1 : List Int) (r : Int) (w : World) (hr0 : Kd.C (Kd.int .i64) w A0 l0.length l0) (hc0 : l0.length ≤ c0) (hr1 : Kd.C (Kd.int .i64) w A1 l1.length l1) (hc1 : l1.length ≤ c1) (h : spec_l1Compare.f k l0 l1 = some r) :
    Calls Try.prog 103 #[.slice A0 l0.length c0, .slice A1 l1.length c1] w fun e w' => e = .returned (.int .i64 r) ∧ Drawn0 w w' := by
 have HR0 := Aside0.mk hr0; have HC0 := Aside0.mk hc0; clear hr0 hc0; have HR1 := Aside0.mk hr1; have HC1 := Aside0.mk hc1; clear hr1 hc1
 have H : (if (l0.length : Int) = (l1.length : Int) then (spec_l1Compare.l0 k l0 l1 (wrap64 ((l0.length : Int) - 1))) else (if (l0.length : Int) < (l1.length : Int) then (some (-1)) else (some 1))) = some r := h
 clear h
 by_cases c3 : (l0.length : Int) = (l1.length : Int)
 rotate_left
 · rw [if_neg c3] at H
   have c3b0 : ((l0.length : Int) == (l1.length : Int)) = false := beq_eq_false_iff_ne.mpr c3
   have c3b1 : ((l0.length : Int) != (l1.length : Int)) = true := bne_iff_ne.mpr c3
   have c3b2 : (l0.length == l1.length) = false := by first | simpa using c3 | (simp at c3 ⊢; omega)
   by_cases c10 : (l0.length : Int) < (l1.length : Int)
   · rw [if_pos c10] at H
     have c10b0 : decide ((l0.length : Int) < (l1.length : Int)) = true := decide_eq_true c10
     have c10b1 : decide (l0.length < l1.length) = true := decide_eq_true (Int.ofNat_lt.mp c10)
     clear c10; obtain rfl := Option.some.inj H
     go_enter Try.func103, Try.ntmps103
     go_wp2
     repeat (go_quiet (fail); try go_wp2)
     go_ret
     exact ⟨by first | rfl | (simp; done) | (simp [*]; done), by repeat (first | exact Drawn0.refl _ | apply Drawn0.step)⟩
   rw [if_neg c10] at H
   have c10b0 : decide ((l0.length : Int) < (l1.length : Int)) = false := decide_eq_false c10
   have c10b1 : decide (l0.length < l1.length) = false := decide_eq_false (fun h => c10 (Int.ofNat_lt.mpr h))
   clear c10; obtain rfl := Option.some.inj H
   go_enter Try.func103, Try.ntmps103
   go_wp2
   repeat (go_quiet (fail); try go_wp2)
   go_ret
   exact ⟨by first | rfl | (simp; done) | (simp [*]; done), by repeat (first | exact Drawn0.refl _ | apply Drawn0.step)⟩

 rw [if_pos c3] at H
 have c3b0 : ((l0.length : Int) == (l1.length : Int)) = true := beq_iff_eq.mpr c3
 have c3b1 : ((l0.length : Int) != (l1.length : Int)) = false := bne_eq_false_iff_eq.mpr c3
 have c3b2 : (l0.length == l1.length) = true := by first | simpa using c3 | (simp at c3 ⊢; omega)
 clear c3
 have H' := Aside0.mk H
 clear H
 go_enter Try.func103, Try.ntmps103
 go_wp2
 repeat (go_quiet (fail); try go_wp2)
 go_loopg [5] k (fun kq v5 w' => ∃ (x5_1 : Int), v5 = .int .i64 x5_1 ∧ Aside0 (spec_l1Compare.l0 kq l0 l1 x5_1 = some r) ∧ Aside0 (kq ≤ k) ∧ Drawn0 w w')
 case atStart => exact ⟨(wrap64 ((l0.length : Int) - 1)), (by first | rfl | (simp; done) | (simp [*]; done)), H', ⟨Nat.le_refl _⟩, by repeat (first | exact Drawn0.refl _ | apply Drawn0.step)⟩
 case round =>
   clear H'
   (try clear c1); (try clear p2); (try clear c3); (try clear c3b0); (try clear c3b1); (try clear c3b2); obtain ⟨x5_1, rfl, HA, HK1, ⟨m1, rfl⟩⟩ := hrel
   cases gk with
   | zero => exact absurd HA.out (by simp [spec_l1Compare.l0])
   | succ k1 =>
     have H := HA.out; clear HA
     simp only [spec_l1Compare.l0] at H
     by_cases c4 : x5_1 ≥ 0
     · rw [if_pos c4] at H
       have c4b0 : decide (0 ≤ x5_1) = true := decide_eq_true c4
       clear c4
       by_cases c5 : 0 ≤ x5_1
       · rw [if_pos c5] at H
         have c5b0 : decide (0 ≤ x5_1) = true := decide_eq_true c5
         clear c5
         by_cases c6 : x5_1 < (l0.length : Int)
         · rw [if_pos c6] at H
           have c6b0 : decide (x5_1 < (l0.length : Int)) = true := decide_eq_true c6
           clear c6
           by_cases c7 : x5_1 < (l1.length : Int)
           · rw [if_pos c7] at H
             have c7b0 : decide (x5_1 < (l1.length : Int)) = true := decide_eq_true c7
             clear c7
             by_cases c8 : (rd l0 x5_1) < (rd l1 x5_1)
             · rw [if_pos c8] at H
               have c8b0 : decide ((rd l0 x5_1) < (rd l1 x5_1)) = true := decide_eq_true c8
               clear c8; obtain rfl := Option.some.inj H
               have p527 : 0 ≤ (x5_1 : Int) := of_decide_eq_true (by first | (with_reducible assumption) | assumption)
               have q527 : x5_1 < (l0.length : Int) := of_decide_eq_true (by first | (with_reducible assumption) | assumption)
               obtain ⟨ad527, e527, hx527_0⟩ := Kd.at_int HR0.out x5_1 p527 q527
               cases e527
               replace p527 := eq_true p527; replace q527 := eq_true q527
               have p528 : 0 ≤ (x5_1 : Int) := of_decide_eq_true (by first | (with_reducible assumption) | assumption)
               have q528 : x5_1 < (l1.length : Int) := of_decide_eq_true (by first | (with_reducible assumption) | assumption)
               obtain ⟨ad528, e528, hx528_0⟩ := Kd.at_int HR1.out x5_1 p528 q528
               cases e528
               replace p528 := eq_true p528; replace q528 := eq_true q528
               go_wp2
               repeat (go_quiet (fail); try go_wp2)
               go_ret
               exact ⟨by first | rfl | (simp; done) | (simp [*]; done), by repeat (first | exact Drawn0.refl _ | apply Drawn0.step)⟩
             · rw [if_neg c8] at H
               have c8b0 : decide ((rd l0 x5_1) < (rd l1 x5_1)) = false := decide_eq_false c8
               clear c8
               by_cases c9 : (rd l0 x5_1) > (rd l1 x5_1)
               · rw [if_pos c9] at H
                 have c9b0 : decide ((rd l1 x5_1) < (rd l0 x5_1)) = true := decide_eq_true c9
                 clear c9; obtain rfl := Option.some.inj H
                 have p527 : 0 ≤ (x5_1 : Int) := of_decide_eq_true (by first | (with_reducible assumption) | assumption)
                 have q527 : x5_1 < (l0.length : Int) := of_decide_eq_true (by first | (with_reducible assumption) | assumption)
                 obtain ⟨ad527, e527, hx527_0⟩ := Kd.at_int HR0.out x5_1 p527 q527
                 cases e527
                 replace p527 := eq_true p527; replace q527 := eq_true q527
                 have p528 : 0 ≤ (x5_1 : Int) := of_decide_eq_true (by first | (with_reducible assumption) | assumption)
                 have q528 : x5_1 < (l1.length : Int) := of_decide_eq_true (by first | (with_reducible assumption) | assumption)
                 obtain ⟨ad528, e528, hx528_0⟩ := Kd.at_int HR1.out x5_1 p528 q528
                 cases e528
                 replace p528 := eq_true p528; replace q528 := eq_true q528
                 have p529 : 0 ≤ (x5_1 : Int) := of_decide_eq_true (by first | (with_reducible assumption) | assumption)
                 have q529 : x5_1 < (l0.length : Int) := of_decide_eq_true (by first | (with_reducible assumption) | assumption)
                 obtain ⟨ad529, e529, hx529_0⟩ := Kd.at_int HR0.out x5_1 p529 q529; obtain rfl : ad527 = ad529 := (by injection e529); replace p529 := eq_true p529; replace q529 := eq_true q529
                 have p530 : 0 ≤ (x5_1 : Int) := of_decide_eq_true (by first | (with_reducible assumption) | assumption)
                 have q530 : x5_1 < (l1.length : Int) := of_decide_eq_true (by first | (with_reducible assumption) | assumption)
                 obtain ⟨ad530, e530, hx530_0⟩ := Kd.at_int HR1.out x5_1 p530 q530; obtain rfl : ad528 = ad530 := (by injection e530); replace p530 := eq_true p530; replace q530 := eq_true q530
                 go_wp2
                 repeat (go_quiet (fail); try go_wp2)
                 go_ret
                 exact ⟨by first | rfl | (simp; done) | (simp [*]; done), by repeat (first | exact Drawn0.refl _ | apply Drawn0.step)⟩
               · rw [if_neg c9] at H
                 have c9b0 : decide ((rd l1 x5_1) < (rd l0 x5_1)) = false := decide_eq_false c9
                 clear c9
                 have H' := Aside0.mk H
                 clear H
                 have p527 : 0 ≤ (x5_1 : Int) := of_decide_eq_true (by first | (with_reducible assumption) | assumption)
                 have q527 : x5_1 < (l0.length : Int) := of_decide_eq_true (by first | (with_reducible assumption) | assumption)
                 obtain ⟨ad527, e527, hx527_0⟩ := Kd.at_int HR0.out x5_1 p527 q527
                 cases e527
                 replace p527 := eq_true p527; replace q527 := eq_true q527
                 have p528 : 0 ≤ (x5_1 : Int) := of_decide_eq_true (by first | (with_reducible assumption) | assumption)
                 have q528 : x5_1 < (l1.length : Int) := of_decide_eq_true (by first | (with_reducible assumption) | assumption)
                 obtain ⟨ad528, e528, hx528_0⟩ := Kd.at_int HR1.out x5_1 p528 q528
                 cases e528
                 replace p528 := eq_true p528; replace q528 := eq_true q528
                 have p529 : 0 ≤ (x5_1 : Int) := of_decide_eq_true (by first | (with_reducible assumption) | assumption)
                 have q529 : x5_1 < (l0.length : Int) := of_decide_eq_true (by first | (with_reducible assumption) | assumption)
                 obtain ⟨ad529, e529, hx529_0⟩ := Kd.at_int HR0.out x5_1 p529 q529; obtain rfl : ad527 = ad529 := (by injection e529); replace p529 := eq_true p529; replace q529 := eq_true q529
                 have p530 : 0 ≤ (x5_1 : Int) := of_decide_eq_true (by first | (with_reducible assumption) | assumption)
                 have q530 : x5_1 < (l1.length : Int) := of_decide_eq_true (by first | (with_reducible assumption) | assumption)
                 obtain ⟨ad530, e530, hx530_0⟩ := Kd.at_int HR1.out x5_1 p530 q530; obtain rfl : ad528 = ad530 := (by injection e530); replace p530 := eq_true p530; replace q530 := eq_true q530
                 go_wp2
                 repeat (go_quiet (fail); try go_wp2)
                 go_roundg k1
                 case measure => have := HK1.out; omega
                 case rel => exact ⟨(wrap64 (x5_1 - 1)), (by first | rfl | (simp; done) | (simp [*]; done)), H', ⟨by have := HK1.out; omega⟩, by repeat (first | exact Drawn0.refl _ | apply Drawn0.step)⟩
           · rw [if_neg c7] at H
             exact absurd H (by simp)
         · rw [if_neg c6] at H
           exact absurd H (by simp)
       · rw [if_neg c5] at H
         exact absurd H (by simp)
     · rw [if_neg c4] at H
       have c4b0 : decide (0 ≤ x5_1) = false := decide_eq_false c4
       clear c4; obtain rfl := Option.some.inj H
       go_wp2
       repeat (go_quiet (fail); try go_wp2)
       go_ret
       exact ⟨by first | rfl | (simp; done) | (simp [*]; done), by repeat (first | exact Drawn0.refl _ | apply Drawn0.step)⟩
/-! ### spec_l1Less: function 104 -/
def spec_l1Less.l0 : Nat → List Int → List Int → List Int → Int → Int → Int → Option (List Int)
  | 0, _, _, _, _, _, _ => none
  | k + 1, x0, x1, x5, x6, x10, x11 => if x11 < x10 then (if 0 ≤ x11 then (if x11 < (x0.length : Int) then ((spec_l1At.f x1 x11).bind fun t532 => (if (wrap64 ((wrap64 ((rd x0 x11) - t532)) - x6)) < 0 then (if x5.length < 17592186044416 then (spec_l1Less.l0 k x0 x1 (x5 ++ [wrap64 ((wrap64 ((wrap64 ((rd x0 x11) - t532)) - x6)) + 65536)]) 1 x10 (wrap64 (x11 + 1))) else (none)) else (if x5.length < 17592186044416 then (spec_l1Less.l0 k x0 x1 (x5 ++ [wrap64 ((wrap64 ((rd x0 x11) - t532)) - x6)]) 0 x10 (wrap64 (x11 + 1))) else (none)))) else (none)) else (none)) else ((spec_l1Trim.f k x5).bind fun t539 => (some t539))
def spec_l1Less.f (k : Nat) (l0 : List Int) (l1 : List Int) : Option (List Int) := spec_l1Less.l0 k l0 l1 ([] : List Int) 0 (l0.length : Int) 0
set_option maxHeartbeats 8000000 in
set_option maxRecDepth 100000 in
theorem spec_l1Less.calls (k : Nat) (A0 : Option Addr) (c0 : Nat) (l0 : List Int) (A1 : Option Addr) (c1 : Nat) (l1 : List Int) (r : List Int) (w : World) (hr0 : Kd.C (Kd.int .i64) w A0 l0.length l0) (hc0 : l0.length ≤ c0) (hr1 : Kd.C (Kd.int .i64) w A1 l1.length l1) (hc1 : l1.length ≤ c1) (h : spec_l1Less.f k l0 l1 = some r) :
    Calls Try.prog 104 #[.slice A0 l0.length c0, .slice A1 l1.length c1] w fun e w' => ∃ v0_ : Value, e = .returned (v0_) ∧ Kd.V (Kd.int .i64) 3 w' w.heap.size (fun k_ => (w.heap.size ≤ k_)) v0_ r ∧ Below w.heap.size w w' := by
 have HR0 := Aside0.mk hr0; have HC0 := Aside0.mk hc0; clear hr0 hc0; have HR1 := Aside0.mk hr1; have HC1 := Aside0.mk hc1; clear hr1 hc1; have HB := Aside0.mk (Below.refl w.heap.size w)
 have H : (spec_l1Less.l0 k l0 l1 ([] : List Int) 0 (l0.length : Int) 0) = some r := h
 clear h
 have H' := Aside0.mk H
 clear H
 go_enter Try.func104, Try.ntmps104
 go_wp2
 repeat (go_quiet (fail); try go_wp2)
 go_loopg [5, 6, 11] k (fun kq v5 v6 v11 w' => ∃ (x5_1 : List Int) (x6_1 : Int) (x11_1 : Int), v6 = .int .i64 x6_1 ∧ v11 = .int .i64 x11_1 ∧ Aside0 (spec_l1Less.l0 kq l0 l1 x5_1 x6_1 (l0.length : Int) x11_1 = some r) ∧ Aside0 (kq ≤ k) ∧ Aside0 (Kd.R (Kd.int .i64) 3 w' w.heap.size (fun k_ => (w.heap.size ≤ k_)) v5 x5_1) ∧ Aside0 (Below w.heap.size w w'))
 case atStart => exact ⟨(([] : List Int)), (0), (0), (by first | rfl | (simp; done) | (simp [*]; done)), (by first | rfl | (simp; done) | (simp [*]; done)), H', ⟨Nat.le_refl _⟩, ⟨by first | exact Kd.R_nil _ _ _ _ _ | exact Kd.R_nil _ _ _ 0 _ | exact Kd.N_nil _ _ _ _ _ | exact Kd.V_nil _ _ _ _ _ | exact Kd.Q_nil _ _ _ _ _ | exact Kd.S_nil _ _ _ _ _⟩, ⟨hq HB⟩⟩
 case round =>
   clear H'
   (try clear c1); (try clear p2); obtain ⟨x5_1, x6_1, x11_1, rfl, rfl, HA, HK1, HO_5, HB⟩ := hrel
   cases gk with
   | zero => exact absurd HA.out (by simp [spec_l1Less.l0])
   | succ k1 =>
     have H := HA.out; clear HA
     simp only [spec_l1Less.l0] at H
     by_cases c3 : x11_1 < (l0.length : Int)
     · rw [if_pos c3] at H
       have c3b0 : decide (x11_1 < (l0.length : Int)) = true := decide_eq_true c3
       clear c3
       by_cases c4 : 0 ≤ x11_1
       · rw [if_pos c4] at H
         have c4b0 : decide (0 ≤ x11_1) = true := decide_eq_true c4
         clear c4
         by_cases c5 : x11_1 < (l0.length : Int)
         · rw [if_pos c5] at H
           have c5b0 : decide (x11_1 < (l0.length : Int)) = true := decide_eq_true c5
           clear c5; replace H := Option.bind_eq_some_iff.mp H; obtain ⟨t532, A60, H⟩ := H; (try dsimp only at H); have A6 := Aside0.mk A60; clear A60
           by_cases c7 : (wrap64 ((wrap64 ((rd l0 x11_1) - t532)) - x6_1)) < 0
           · rw [if_pos c7] at H
             have c7b0 : decide ((wrap64 ((wrap64 ((rd l0 x11_1) - t532)) - x6_1)) < 0) = true := decide_eq_true c7
             clear c7
             by_cases c8 : x5_1.length < 17592186044416
             · rw [if_pos c8] at H
               have LMc8 := Aside0.mk c8; clear c8; obtain ⟨y533, hy533⟩ : ∃ y_ : List Int, y_ = (x5_1 ++ [wrap64 ((wrap64 ((wrap64 ((rd l0 x11_1) - t532)) - x6_1)) + 65536)]) := ⟨_, rfl⟩
               replace H : (spec_l1Less.l0 k1 l0 l1 y533 1 (l0.length : Int) (wrap64 (x11_1 + 1))) = some r := by first | (rw [hy533]; with_reducible exact H) | (have H2_ := (Option.bind_some _ _).symm.trans H; rw [hy533]; with_reducible exact H2_) | (have H2_ := (Option.bind_some _ _).symm.trans H; with_reducible exact H2_) | with_reducible exact H | (rw [hy533]; exact H) | exact H
               have Ny533 := Aside0.mk hy533; clear hy533
               have H' := Aside0.mk H
               clear H
               have p531 : 0 ≤ (x11_1 : Int) := of_decide_eq_true (by first | (with_reducible assumption) | assumption)
               have q531 : x11_1 < (l0.length : Int) := of_decide_eq_true (by first | (with_reducible assumption) | assumption)
               obtain ⟨ad531, e531, hx531_0⟩ := Kd.at_int HR0.out x11_1 p531 q531
               cases e531
               replace hx531_0 := (HB.out.cell (World.block_lt_of_cell? w _ hx531_0)).trans hx531_0; replace p531 := eq_true p531; replace q531 := eq_true q531
               go_wp2_with (first | (go_at_call 90; (with_reducible refine (spec_l1At.calls _ _ l1 x11_1 t532 _ ?side1 ?side2 A6.out).mono ?_); (case side1 => exact cq (Kd.C_below HR1.out HB.out)); (case side2 => exact HC1.out); rintro e w' ⟨rfl, ⟨nd, rfl⟩⟩; (try first | exact ⟨rfl, _, World.drewN_drewN _ _ _⟩ | exact ⟨rfl, _, Eq.trans (World.drewN_drewN _ _ _) (congrArg (World.drewN _) (Nat.add_assoc _ _ _))⟩)) | ((with_reducible refine gate_builtin (b := .append) (xs := #[.tmp 28, .tmp 30]) rfl ?_); at_builtin; refine Kd.R_append (Kd.int .i64) (w0 := w) w.heap.size rfl (.tmp 28) (.tmp 30) 23 3 (.int .i64 0) 8 rfl Try.underlying23 info3 rfl (by decide) (by omega) u5 x5_1 (wrap64 ((wrap64 ((wrap64 ((rd l0 x11_1) - t532)) - x6_1)) + 65536)) [.int .i64 (wrap64 ((wrap64 ((wrap64 ((rd l0 x11_1) - t532)) - x6_1)) + 65536))] (fun k_ => (w.heap.size ≤ k_)) (fun _ => False) rfl rfl ?aP (fun _ hk => hk.elim) ?aF ?aO ?aB ?aS ?aL ?_; (case aP => exact rfl); (case aB => exact (hq HB)); (case aF => exact (fun k_ hk => (Nat.le_trans (below_size (hq HB)) hk))); (case aO => exact (rq HO_5)); (case aS => exact (below_size (hq HB))); (case aL => have := LMc8.out; omega); intro v534 w9 ho hb hg hat; rw [← Ny533.out] at ho; replace HB := Aside0.mk (hb); have HO535 := Aside0.mk (ho); clear HO_5; clear ho hb hg hat))
               repeat (go_quiet (first | (go_at_call 90; (with_reducible refine (spec_l1At.calls _ _ l1 x11_1 t532 _ ?side1 ?side2 A6.out).mono ?_); (case side1 => exact cq (Kd.C_below HR1.out HB.out)); (case side2 => exact HC1.out); rintro e w' ⟨rfl, ⟨nd, rfl⟩⟩; (try first | exact ⟨rfl, _, World.drewN_drewN _ _ _⟩ | exact ⟨rfl, _, Eq.trans (World.drewN_drewN _ _ _) (congrArg (World.drewN _) (Nat.add_assoc _ _ _))⟩)) | ((with_reducible refine gate_builtin (b := .append) (xs := #[.tmp 28, .tmp 30]) rfl ?_); at_builtin; refine Kd.R_append (Kd.int .i64) (w0 := w) w.heap.size rfl (.tmp 28) (.tmp 30) 23 3 (.int .i64 0) 8 rfl Try.underlying23 info3 rfl (by decide) (by omega) u5 x5_1 (wrap64 ((wrap64 ((wrap64 ((rd l0 x11_1) - t532)) - x6_1)) + 65536)) [.int .i64 (wrap64 ((wrap64 ((wrap64 ((rd l0 x11_1) - t532)) - x6_1)) + 65536))] (fun k_ => (w.heap.size ≤ k_)) (fun _ => False) rfl rfl ?aP (fun _ hk => hk.elim) ?aF ?aO ?aB ?aS ?aL ?_; (case aP => exact rfl); (case aB => exact (hq HB)); (case aF => exact (fun k_ hk => (Nat.le_trans (below_size (hq HB)) hk))); (case aO => exact (rq HO_5)); (case aS => exact (below_size (hq HB))); (case aL => have := LMc8.out; omega); intro v534 w9 ho hb hg hat; rw [← Ny533.out] at ho; replace HB := Aside0.mk (hb); have HO535 := Aside0.mk (ho); clear HO_5; clear ho hb hg hat)); try go_wp2_with (first | (go_at_call 90; (with_reducible refine (spec_l1At.calls _ _ l1 x11_1 t532 _ ?side1 ?side2 A6.out).mono ?_); (case side1 => exact cq (Kd.C_below HR1.out HB.out)); (case side2 => exact HC1.out); rintro e w' ⟨rfl, ⟨nd, rfl⟩⟩; (try first | exact ⟨rfl, _, World.drewN_drewN _ _ _⟩ | exact ⟨rfl, _, Eq.trans (World.drewN_drewN _ _ _) (congrArg (World.drewN _) (Nat.add_assoc _ _ _))⟩)) | ((with_reducible refine gate_builtin (b := .append) (xs := #[.tmp 28, .tmp 30]) rfl ?_); at_builtin; refine Kd.R_append (Kd.int .i64) (w0 := w) w.heap.size rfl (.tmp 28) (.tmp 30) 23 3 (.int .i64 0) 8 rfl Try.underlying23 info3 rfl (by decide) (by omega) u5 x5_1 (wrap64 ((wrap64 ((wrap64 ((rd l0 x11_1) - t532)) - x6_1)) + 65536)) [.int .i64 (wrap64 ((wrap64 ((wrap64 ((rd l0 x11_1) - t532)) - x6_1)) + 65536))] (fun k_ => (w.heap.size ≤ k_)) (fun _ => False) rfl rfl ?aP (fun _ hk => hk.elim) ?aF ?aO ?aB ?aS ?aL ?_; (case aP => exact rfl); (case aB => exact (hq HB)); (case aF => exact (fun k_ hk => (Nat.le_trans (below_size (hq HB)) hk))); (case aO => exact (rq HO_5)); (case aS => exact (below_size (hq HB))); (case aL => have := LMc8.out; omega); intro v534 w9 ho hb hg hat; rw [← Ny533.out] at ho; replace HB := Aside0.mk (hb); have HO535 := Aside0.mk (ho); clear HO_5; clear ho hb hg hat)))
               go_roundg k1
               case measure => have := HK1.out; omega
               case rel => exact ⟨(y533), (1), (wrap64 (x11_1 + 1)), (by first | rfl | (simp; done) | (simp [*]; done)), (by first | rfl | (simp; done) | (simp [*]; done)), H', ⟨by have := HK1.out; omega⟩, ⟨by (with_reducible repeat (first | apply Kd.R_alloc | apply Kd.R_drewN | apply Kd.R_drew)); exact HO535.out⟩, ⟨hq HB⟩⟩
             · rw [if_neg c8] at H
               exact absurd H (by simp)
           · rw [if_neg c7] at H
             have c7b0 : decide ((wrap64 ((wrap64 ((rd l0 x11_1) - t532)) - x6_1)) < 0) = false := decide_eq_false c7
             clear c7
             by_cases c10 : x5_1.length < 17592186044416
             · rw [if_pos c10] at H
               have LMc10 := Aside0.mk c10; clear c10; obtain ⟨y536, hy536⟩ : ∃ y_ : List Int, y_ = (x5_1 ++ [wrap64 ((wrap64 ((rd l0 x11_1) - t532)) - x6_1)]) := ⟨_, rfl⟩
               replace H : (spec_l1Less.l0 k1 l0 l1 y536 0 (l0.length : Int) (wrap64 (x11_1 + 1))) = some r := by first | (rw [hy536]; with_reducible exact H) | (have H2_ := (Option.bind_some _ _).symm.trans H; rw [hy536]; with_reducible exact H2_) | (have H2_ := (Option.bind_some _ _).symm.trans H; with_reducible exact H2_) | with_reducible exact H | (rw [hy536]; exact H) | exact H
               have Ny536 := Aside0.mk hy536; clear hy536
               have H' := Aside0.mk H
               clear H
               have p531 : 0 ≤ (x11_1 : Int) := of_decide_eq_true (by first | (with_reducible assumption) | assumption)
               have q531 : x11_1 < (l0.length : Int) := of_decide_eq_true (by first | (with_reducible assumption) | assumption)
               obtain ⟨ad531, e531, hx531_0⟩ := Kd.at_int HR0.out x11_1 p531 q531
               cases e531
               replace hx531_0 := (HB.out.cell (World.block_lt_of_cell? w _ hx531_0)).trans hx531_0; replace p531 := eq_true p531; replace q531 := eq_true q531
               go_wp2_with (first | (go_at_call 90; (with_reducible refine (spec_l1At.calls _ _ l1 x11_1 t532 _ ?side1 ?side2 A6.out).mono ?_); (case side1 => exact cq (Kd.C_below HR1.out HB.out)); (case side2 => exact HC1.out); rintro e w' ⟨rfl, ⟨nd, rfl⟩⟩; (try first | exact ⟨rfl, _, World.drewN_drewN _ _ _⟩ | exact ⟨rfl, _, Eq.trans (World.drewN_drewN _ _ _) (congrArg (World.drewN _) (Nat.add_assoc _ _ _))⟩)) | ((with_reducible refine gate_builtin (b := .append) (xs := #[.tmp 28, .tmp 30]) rfl ?_); at_builtin; refine Kd.R_append (Kd.int .i64) (w0 := w) w.heap.size rfl (.tmp 28) (.tmp 30) 23 3 (.int .i64 0) 8 rfl Try.underlying23 info3 rfl (by decide) (by omega) u5 x5_1 (wrap64 ((wrap64 ((rd l0 x11_1) - t532)) - x6_1)) [.int .i64 (wrap64 ((wrap64 ((rd l0 x11_1) - t532)) - x6_1))] (fun k_ => (w.heap.size ≤ k_)) (fun _ => False) rfl rfl ?aP (fun _ hk => hk.elim) ?aF ?aO ?aB ?aS ?aL ?_; (case aP => exact rfl); (case aB => exact (hq HB)); (case aF => exact (fun k_ hk => (Nat.le_trans (below_size (hq HB)) hk))); (case aO => exact (rq HO_5)); (case aS => exact (below_size (hq HB))); (case aL => have := LMc10.out; omega); intro v537 w11 ho hb hg hat; rw [← Ny536.out] at ho; replace HB := Aside0.mk (hb); have HO538 := Aside0.mk (ho); clear HO_5; clear ho hb hg hat))
               repeat (go_quiet (first | (go_at_call 90; (with_reducible refine (spec_l1At.calls _ _ l1 x11_1 t532 _ ?side1 ?side2 A6.out).mono ?_); (case side1 => exact cq (Kd.C_below HR1.out HB.out)); (case side2 => exact HC1.out); rintro e w' ⟨rfl, ⟨nd, rfl⟩⟩; (try first | exact ⟨rfl, _, World.drewN_drewN _ _ _⟩ | exact ⟨rfl, _, Eq.trans (World.drewN_drewN _ _ _) (congrArg (World.drewN _) (Nat.add_assoc _ _ _))⟩)) | ((with_reducible refine gate_builtin (b := .append) (xs := #[.tmp 28, .tmp 30]) rfl ?_); at_builtin; refine Kd.R_append (Kd.int .i64) (w0 := w) w.heap.size rfl (.tmp 28) (.tmp 30) 23 3 (.int .i64 0) 8 rfl Try.underlying23 info3 rfl (by decide) (by omega) u5 x5_1 (wrap64 ((wrap64 ((rd l0 x11_1) - t532)) - x6_1)) [.int .i64 (wrap64 ((wrap64 ((rd l0 x11_1) - t532)) - x6_1))] (fun k_ => (w.heap.size ≤ k_)) (fun _ => False) rfl rfl ?aP (fun _ hk => hk.elim) ?aF ?aO ?aB ?aS ?aL ?_; (case aP => exact rfl); (case aB => exact (hq HB)); (case aF => exact (fun k_ hk => (Nat.le_trans (below_size (hq HB)) hk))); (case aO => exact (rq HO_5)); (case aS => exact (below_size (hq HB))); (case aL => have := LMc10.out; omega); intro v537 w11 ho hb hg hat; rw [← Ny536.out] at ho; replace HB := Aside0.mk (hb); have HO538 := Aside0.mk (ho); clear HO_5; clear ho hb hg hat)); try go_wp2_with (first | (go_at_call 90; (with_reducible refine (spec_l1At.calls _ _ l1 x11_1 t532 _ ?side1 ?side2 A6.out).mono ?_); (case side1 => exact cq (Kd.C_below HR1.out HB.out)); (case side2 => exact HC1.out); rintro e w' ⟨rfl, ⟨nd, rfl⟩⟩; (try first | exact ⟨rfl, _, World.drewN_drewN _ _ _⟩ | exact ⟨rfl, _, Eq.trans (World.drewN_drewN _ _ _) (congrArg (World.drewN _) (Nat.add_assoc _ _ _))⟩)) | ((with_reducible refine gate_builtin (b := .append) (xs := #[.tmp 28, .tmp 30]) rfl ?_); at_builtin; refine Kd.R_append (Kd.int .i64) (w0 := w) w.heap.size rfl (.tmp 28) (.tmp 30) 23 3 (.int .i64 0) 8 rfl Try.underlying23 info3 rfl (by decide) (by omega) u5 x5_1 (wrap64 ((wrap64 ((rd l0 x11_1) - t532)) - x6_1)) [.int .i64 (wrap64 ((wrap64 ((rd l0 x11_1) - t532)) - x6_1))] (fun k_ => (w.heap.size ≤ k_)) (fun _ => False) rfl rfl ?aP (fun _ hk => hk.elim) ?aF ?aO ?aB ?aS ?aL ?_; (case aP => exact rfl); (case aB => exact (hq HB)); (case aF => exact (fun k_ hk => (Nat.le_trans (below_size (hq HB)) hk))); (case aO => exact (rq HO_5)); (case aS => exact (below_size (hq HB))); (case aL => have := LMc10.out; omega); intro v537 w11 ho hb hg hat; rw [← Ny536.out] at ho; replace HB := Aside0.mk (hb); have HO538 := Aside0.mk (ho); clear HO_5; clear ho hb hg hat)))
               go_roundg k1
               case measure => have := HK1.out; omega
               case rel => exact ⟨(y536), (0), (wrap64 (x11_1 + 1)), (by first | rfl | (simp; done) | (simp [*]; done)), (by first | rfl | (simp; done) | (simp [*]; done)), H', ⟨by have := HK1.out; omega⟩, ⟨by (with_reducible repeat (first | apply Kd.R_alloc | apply Kd.R_drewN | apply Kd.R_drew)); exact HO538.out⟩, ⟨hq HB⟩⟩
             · rw [if_neg c10] at H
               exact absurd H (by simp)
         · rw [if_neg c5] at H
           exact absurd H (by simp)
       · rw [if_neg c4] at H
         exact absurd H (by simp)
     · rw [if_neg c3] at H
       have c3b0 : decide (x11_1 < (l0.length : Int)) = false := decide_eq_false c3
       clear c3; replace H := Option.bind_eq_some_iff.mp H; obtain ⟨t539, A120, H⟩ := H; (try dsimp only at H); have A12 := Aside0.mk A120; clear A120; obtain rfl := Option.some.inj H; obtain ⟨Ao13, co13, eo13⟩ := Kd.R_slice HO_5.out; subst eo13
       go_wp2_with (first | (go_at_call 131; (with_reducible refine (spec_l1Trim.calls k1 (fun k_ => some k_ = (.slice Ao13 x5_1.length co13 : Value).ownBlock) _ _ x5_1 t539 _ ?side1 A12.out).mono ?_); (case side1 => exact Kd.R_V (Kd.R_tight rfl (HO_5.out))); rintro e w14 ⟨v540, rfl, ho0, hb⟩; have n0_ := cb HO_5 hb; have HO541 := Aside0.mk (Kd.V_lower (Kd.V_mono (ok' := fun k_ => (w.heap.size ≤ k_)) ho0 (fun k_ hk_ => Or.elim hk_ (fun hs_ => ((HO_5.out).1 k_ hs_.symm)) (fun hn_ => (Nat.le_trans (below_size (hq HB)) hn_)))) (below_size (hq HB))); replace HB := cs (hq HB) hb; replace HO_5 := n0_; clear n0_; (try clear hb); (try clear hb2); (try clear hk); (try clear hi); (try clear ho0)))
       repeat (go_quiet (first | (go_at_call 131; (with_reducible refine (spec_l1Trim.calls k1 (fun k_ => some k_ = (.slice Ao13 x5_1.length co13 : Value).ownBlock) _ _ x5_1 t539 _ ?side1 A12.out).mono ?_); (case side1 => exact Kd.R_V (Kd.R_tight rfl (HO_5.out))); rintro e w14 ⟨v540, rfl, ho0, hb⟩; have n0_ := cb HO_5 hb; have HO541 := Aside0.mk (Kd.V_lower (Kd.V_mono (ok' := fun k_ => (w.heap.size ≤ k_)) ho0 (fun k_ hk_ => Or.elim hk_ (fun hs_ => ((HO_5.out).1 k_ hs_.symm)) (fun hn_ => (Nat.le_trans (below_size (hq HB)) hn_)))) (below_size (hq HB))); replace HB := cs (hq HB) hb; replace HO_5 := n0_; clear n0_; (try clear hb); (try clear hb2); (try clear hk); (try clear hi); (try clear ho0))); try go_wp2_with (first | (go_at_call 131; (with_reducible refine (spec_l1Trim.calls k1 (fun k_ => some k_ = (.slice Ao13 x5_1.length co13 : Value).ownBlock) _ _ x5_1 t539 _ ?side1 A12.out).mono ?_); (case side1 => exact Kd.R_V (Kd.R_tight rfl (HO_5.out))); rintro e w14 ⟨v540, rfl, ho0, hb⟩; have n0_ := cb HO_5 hb; have HO541 := Aside0.mk (Kd.V_lower (Kd.V_mono (ok' := fun k_ => (w.heap.size ≤ k_)) ho0 (fun k_ hk_ => Or.elim hk_ (fun hs_ => ((HO_5.out).1 k_ hs_.symm)) (fun hn_ => (Nat.le_trans (below_size (hq HB)) hn_)))) (below_size (hq HB))); replace HB := cs (hq HB) hb; replace HO_5 := n0_; clear n0_; (try clear hb); (try clear hb2); (try clear hk); (try clear hi); (try clear ho0))))
       go_ret
       exact ⟨_, by first | rfl | (simp <;> rfl) | (simp [*] <;> rfl), by (with_reducible repeat (first | apply Kd.V_alloc | apply Kd.V_drewN | apply Kd.V_drew)); exact HO541.out, hq HB⟩

/-! ### spec_l1Div: function 81 -/
def spec_l1Div.l0 : Nat → List Int → List Int → List Int → List Int → Int → Option (List Int × List Int)
  | 0, _, _, _, _, _ => none
  | k + 1, x0, x1, x6, x7, x8 => if x8 ≥ 0 then (if 0 ≤ (wrap64 (Int.tdiv x8 16)) then (if (wrap64 (Int.tdiv x8 16)) < (x0.length : Int) then (if 0 ≤ (IntKind.u64.wrap (Int.tmod x8 16)) then ((spec_l1Twice.f k x7 (Go.bits .and .i64 (shr .i64 (rd x0 (wrap64 (Int.tdiv x8 16))) (IntKind.u64.wrap (Int.tmod x8 16))) 1)).bind fun t543 => ((spec_l1Compare.f k t543 x1).bind fun t546 => (if t546 ≥ 0 then ((spec_l1Less.f k t543 x1).bind fun t547 => ((spec_l1Twice.f k x6 1).bind fun t550 => (spec_l1Div.l0 k x0 x1 t550 t547 (wrap64 (x8 - 1))))) else ((spec_l1Twice.f k x6 0).bind fun t553 => (spec_l1Div.l0 k x0 x1 t553 t543 (wrap64 (x8 - 1))))))) else (none)) else (none)) else (none)) else (some (x6, x7))
def spec_l1Div.f (k : Nat) (l0 : List Int) (l1 : List Int) : Option (List Int × List Int) := spec_l1Div.l0 k l0 l1 ([] : List Int) ([] : List Int) (wrap64 ((wrap64 (16 * (l0.length : Int))) - 1))
set_option maxHeartbeats 8000000 in
set_option maxRecDepth 100000 in
theorem spec_l1Div.calls (k : Nat) (A0 : Option Addr) (c0 : Nat) (l0 : List Int) (A1 : Option Addr) (c1 : Nat) (l1 : List Int) (r1 : List Int) (r2 : List Int) (w : World) (hr0 : Kd.C (Kd.int .i64) w A0 l0.length l0) (hc0 : l0.length ≤ c0) (hr1 : Kd.C (Kd.int .i64) w A1 l1.length l1) (hc1 : l1.length ≤ c1) (h : spec_l1Div.f k l0 l1 = some (r1, r2)) :
    Calls Try.prog 81 #[.slice A0 l0.length c0, .slice A1 l1.length c1] w fun e w' => ∃ v0_ v1_ : Value, e = .returned (.tuple #[v0_, v1_]) ∧ Kd.V (Kd.int .i64) 3 w' w.heap.size (fun k_ => (w.heap.size ≤ k_)) v0_ r1 ∧ Kd.V (Kd.int .i64) 3 w' w.heap.size (fun k_ => (w.heap.size ≤ k_)) v1_ r2 ∧ Below w.heap.size w w' := by
 have HR0 := Aside0.mk hr0; have HC0 := Aside0.mk hc0; clear hr0 hc0; have HR1 := Aside0.mk hr1; have HC1 := Aside0.mk hc1; clear hr1 hc1; have HB := Aside0.mk (Below.refl w.heap.size w)
 have H : (spec_l1Div.l0 k l0 l1 ([] : List Int) ([] : List Int) (wrap64 ((wrap64 (16 * (l0.length : Int))) - 1))) = some (r1, r2) := h
 clear h
 have H' := Aside0.mk H
 clear H
 go_enter Try.func81, Try.ntmps81
 go_wp2
 go_loopg [6, 7, 8] k (fun kq v6 v7 v8 w' => ∃ (x6_1 : List Int) (x7_1 : List Int) (x8_1 : Int), v8 = .int .i64 x8_1 ∧ Aside0 (spec_l1Div.l0 kq l0 l1 x6_1 x7_1 x8_1 = some (r1, r2)) ∧ Aside0 (kq ≤ k) ∧ Aside0 (Kd.V (Kd.int .i64) 3 w' w.heap.size (fun k_ => (w.heap.size ≤ k_)) v6 x6_1) ∧ Aside0 (Kd.V (Kd.int .i64) 3 w' w.heap.size (fun k_ => (w.heap.size ≤ k_)) v7 x7_1) ∧ Aside0 (Below w.heap.size w w'))
 case atStart => exact ⟨(([] : List Int)), (([] : List Int)), (wrap64 ((wrap64 (16 * (l0.length : Int))) - 1)), (by first | rfl | (simp; done) | (simp [*]; done)), H', ⟨Nat.le_refl _⟩, ⟨Kd.R_V (by first | exact Kd.R_nil _ _ _ _ _ | exact Kd.R_nil _ _ _ 0 _ | exact Kd.N_nil _ _ _ _ _ | exact Kd.V_nil _ _ _ _ _ | exact Kd.Q_nil _ _ _ _ _ | exact Kd.S_nil _ _ _ _ _)⟩, ⟨Kd.R_V (by first | exact Kd.R_nil _ _ _ _ _ | exact Kd.R_nil _ _ _ 0 _ | exact Kd.N_nil _ _ _ _ _ | exact Kd.V_nil _ _ _ _ _ | exact Kd.Q_nil _ _ _ _ _ | exact Kd.S_nil _ _ _ _ _)⟩, ⟨hq HB⟩⟩
 case round =>
   clear H'
   (try clear c1); (try clear p2); obtain ⟨x6_1, x7_1, x8_1, rfl, HA, HK1, HO_6, HO_7, HB⟩ := hrel
   cases gk with
   | zero => exact absurd HA.out (by simp [spec_l1Div.l0])
   | succ k1 =>
     have H := HA.out; clear HA
     simp only [spec_l1Div.l0] at H
     by_cases c3 : x8_1 ≥ 0
     · rw [if_pos c3] at H
       have c3b0 : decide (0 ≤ x8_1) = true := decide_eq_true c3
       clear c3; obtain ⟨ji4, hji4⟩ : ∃ j_ : Int, (wrap64 (Int.tdiv x8_1 16)) = j_ := ⟨_, rfl⟩
       replace H : (if 0 ≤ (ji4) then (if (ji4) < (l0.length : Int) then (if 0 ≤ (IntKind.u64.wrap (Int.tmod x8_1 16)) then ((spec_l1Twice.f k1 x7_1 (Go.bits .and .i64 (shr .i64 (rd l0 (ji4)) (IntKind.u64.wrap (Int.tmod x8_1 16))) 1)).bind fun t543 => ((spec_l1Compare.f k1 t543 l1).bind fun t546 => (if t546 ≥ 0 then ((spec_l1Less.f k1 t543 l1).bind fun t547 => ((spec_l1Twice.f k1 x6_1 1).bind fun t550 => (spec_l1Div.l0 k1 l0 l1 t550 t547 (wrap64 (x8_1 - 1))))) else ((spec_l1Twice.f k1 x6_1 0).bind fun t553 => (spec_l1Div.l0 k1 l0 l1 t553 t543 (wrap64 (x8_1 - 1))))))) else (none)) else (none)) else (none)) = some (r1, r2) := by first | (rw [hji4] at H; exact H) | (simp only [hji4] at H ⊢; exact H)
       have hji4w : (IntKind.i64.wrap (Int.tdiv x8_1 16)) = ji4 := (i64_w _).trans hji4
       by_cases c5 : 0 ≤ (ji4)
       · rw [if_pos c5] at H
         have c5b0 : decide (0 ≤ (ji4)) = true := decide_eq_true c5
         clear c5
         by_cases c6 : (ji4) < (l0.length : Int)
         · rw [if_pos c6] at H
           have c6b0 : decide ((ji4) < (l0.length : Int)) = true := decide_eq_true c6
           clear c6; obtain ⟨ji7, hji7⟩ : ∃ j_ : Int, (IntKind.u64.wrap (Int.tmod x8_1 16)) = j_ := ⟨_, rfl⟩
           replace H : (if 0 ≤ (ji7) then ((spec_l1Twice.f k1 x7_1 (Go.bits .and .i64 (shr .i64 (rd l0 (ji4)) (ji7)) 1)).bind fun t543 => ((spec_l1Compare.f k1 t543 l1).bind fun t546 => (if t546 ≥ 0 then ((spec_l1Less.f k1 t543 l1).bind fun t547 => ((spec_l1Twice.f k1 x6_1 1).bind fun t550 => (spec_l1Div.l0 k1 l0 l1 t550 t547 (wrap64 (x8_1 - 1))))) else ((spec_l1Twice.f k1 x6_1 0).bind fun t553 => (spec_l1Div.l0 k1 l0 l1 t553 t543 (wrap64 (x8_1 - 1))))))) else (none)) = some (r1, r2) := by first | (rw [hji7] at H; exact H) | (simp only [hji7] at H ⊢; exact H)
           by_cases c8 : 0 ≤ (ji7)
           · rw [if_pos c8] at H
             have c8b0 := eq_true c8
             have c8b1 : decide (0 ≤ (ji7)) = true := decide_eq_true c8
             clear c8; obtain ⟨ji9, hji9⟩ : ∃ j_ : Int, (shr .i64 (rd l0 (ji4)) (ji7)) = j_ := ⟨_, rfl⟩
             replace H : ((spec_l1Twice.f k1 x7_1 (Go.bits .and .i64 (ji9) 1)).bind fun t543 => ((spec_l1Compare.f k1 t543 l1).bind fun t546 => (if t546 ≥ 0 then ((spec_l1Less.f k1 t543 l1).bind fun t547 => ((spec_l1Twice.f k1 x6_1 1).bind fun t550 => (spec_l1Div.l0 k1 l0 l1 t550 t547 (wrap64 (x8_1 - 1))))) else ((spec_l1Twice.f k1 x6_1 0).bind fun t553 => (spec_l1Div.l0 k1 l0 l1 t553 t543 (wrap64 (x8_1 - 1))))))) = some (r1, r2) := by first | (rw [hji9] at H; exact H) | (simp only [hji9] at H ⊢; exact H)
             have hji9_ : ((rd l0 (ji4)) / 2 ^ min (ji7).toNat 64) = ji9 := hji9
             have hji9z : (ji7) ≤ 64 → ((rd l0 (ji4)) / 2 ^ (ji7).toNat) = ji9 := shr_small hji9
             replace H := Option.bind_eq_some_iff.mp H; obtain ⟨t543, A100, H⟩ := H; (try dsimp only at H); have A10 := Aside0.mk A100; clear A100; replace H := Option.bind_eq_some_iff.mp H; obtain ⟨t546, A110, H⟩ := H; (try dsimp only at H); have A11 := Aside0.mk A110; clear A110
             by_cases c12 : t546 ≥ 0
             · rw [if_pos c12] at H
               have c12b0 : decide (0 ≤ t546) = true := decide_eq_true c12
               clear c12; replace H := Option.bind_eq_some_iff.mp H; obtain ⟨t547, A130, H⟩ := H; (try dsimp only at H); have A13 := Aside0.mk A130; clear A130; replace H := Option.bind_eq_some_iff.mp H; obtain ⟨t550, A140, H⟩ := H; (try dsimp only at H); have A14 := Aside0.mk A140; clear A140
               have H' := Aside0.mk H
               clear H
               have p542 : 0 ≤ ((ji4) : Int) := of_decide_eq_true (by first | (with_reducible assumption) | assumption)
               have q542 : (ji4) < (l0.length : Int) := of_decide_eq_true (by first | (with_reducible assumption) | assumption)
               obtain ⟨ad542, e542, hx542_0⟩ := Kd.at_int HR0.out (ji4) p542 q542
               cases e542
               replace hx542_0 := (HB.out.cell (World.block_lt_of_cell? w _ hx542_0)).trans hx542_0; replace p542 := eq_true p542; replace q542 := eq_true q542; obtain ⟨Ao15, co15, eo15⟩ := Kd.V_slice HO_7.out; subst eo15
               go_wp2_with (first | ((with_reducible refine gate_callee (f := 100) rfl ?_); refine goesL_ (some 29) rfl rfl Try.func100 (by kernel_rfl) rfl #[.slice Ao15 x7_1.length co15, .int .i64 (Go.bits .and .i64 (ji9) 1)] rfl (by (try simp only [List.map_toArray, List.map_cons, List.map_nil]); first | done | (simp only [hji9]; rfl) | rfl | (simp only [List.length_drop, List.length_take]; rfl)) ?_; (with_reducible refine (spec_l1Twice.calls k1 _ _ x7_1 (Go.bits .and .i64 (ji9) 1) t543 _ ?side1 ?side2 A10.out).mono ?_); (case side1 => exact cq ((Kd.V_reads' HO_7.out).2.2)); (case side2 => exact (Kd.V_reads' HO_7.out).2.1); rintro e w16 ⟨v544, rfl, ho0, hb⟩; refine ⟨_, rfl, ?_⟩; replace HO_6 := Aside0.mk (Kd.V_below (vq HO_6) hb); replace HO_7 := Aside0.mk (Kd.V_below (vq HO_7) hb); have HO545 := Aside0.mk (Kd.V_lower (Kd.V_mono (ok' := fun k_ => (w.heap.size ≤ k_)) ho0 (fun k_ hk_ => (Nat.le_trans (below_size (hq HB)) hk_))) (below_size (hq HB))); replace HB := cs (hq HB) hb; (try clear hb); (try clear hb2); (try clear hk); (try clear hi); (try clear ho0); obtain ⟨Ao17, co17, eo17⟩ := Kd.V_slice HO545.out; subst eo17) | ((with_reducible refine gate_callee (f := 103) rfl ?_); refine gC (some 32) Try.func103 #[.slice Ao17 t543.length co17, .slice A1 l1.length c1] ?_; (with_reducible refine (spec_l1Compare.calls k1 _ _ t543 _ _ l1 t546 _ ?side1 ?side2 ?side3 ?side4 A11.out).mono ?_); (case side1 => exact cq ((Kd.V_reads' HO545.out).2.2)); (case side2 => exact (Kd.V_reads' HO545.out).2.1); (case side3 => exact cq (Kd.C_below HR1.out HB.out)); (case side4 => exact HC1.out); rintro e w' ⟨rfl, ⟨nd, rfl⟩⟩; refine ⟨_, rfl, ?_⟩) | ((with_reducible refine gate_callee (f := 104) rfl ?_); refine gC (some 36) Try.func104 #[.slice Ao17 t543.length co17, .slice A1 l1.length c1] ?_; (with_reducible refine (spec_l1Less.calls k1 _ _ t543 _ _ l1 t547 _ ?side1 ?side2 ?side3 ?side4 A13.out).mono ?_); (case side1 => exact cq ((Kd.V_reads' HO545.out).2.2)); (case side2 => exact (Kd.V_reads' HO545.out).2.1); (case side3 => exact cq ((Kd.C_below HR1.out (hq HB)))); (case side4 => exact HC1.out); rintro e w18 ⟨v548, rfl, ho0, hb⟩; refine ⟨_, rfl, ?_⟩; replace HO_6 := Aside0.mk (Kd.V_below (vq HO_6) hb); replace HO_7 := Aside0.mk (Kd.V_below (vq HO_7) hb); replace HO545 := Aside0.mk (Kd.V_below (vq HO545) hb); have HO549 := Aside0.mk (Kd.V_lower (Kd.V_mono (ok' := fun k_ => (w.heap.size ≤ k_)) ho0 (fun k_ hk_ => (Nat.le_trans (below_size (hq HB)) hk_))) (below_size (hq HB))); replace HB := cs (hq HB) hb; (try clear hb); (try clear hb2); (try clear hk); (try clear hi); (try clear ho0); obtain ⟨Ao19, co19, eo19⟩ := Kd.V_slice HO_6.out; subst eo19) | ((with_reducible refine gate_callee (f := 100) rfl ?_); refine gC (some 39) Try.func100 #[.slice Ao19 x6_1.length co19, .int .i64 1] ?_; (with_reducible refine (spec_l1Twice.calls k1 _ _ x6_1 1 t550 _ ?side1 ?side2 A14.out).mono ?_); (case side1 => exact cq ((Kd.V_reads' HO_6.out).2.2)); (case side2 => exact (Kd.V_reads' HO_6.out).2.1); rintro e w20 ⟨v551, rfl, ho0, hb⟩; refine ⟨_, rfl, ?_⟩; replace HO_6 := Aside0.mk (Kd.V_below (vq HO_6) hb); replace HO_7 := Aside0.mk (Kd.V_below (vq HO_7) hb); replace HO545 := Aside0.mk (Kd.V_below (vq HO545) hb); replace HO549 := Aside0.mk (Kd.V_below (vq HO549) hb); have HO552 := Aside0.mk (Kd.V_lower (Kd.V_mono (ok' := fun k_ => (w.heap.size ≤ k_)) ho0 (fun k_ hk_ => (Nat.le_trans (below_size (hq HB)) hk_))) (below_size (hq HB))); replace HB := cs (hq HB) hb; (try clear hb); (try clear hb2); (try clear hk); (try clear hi); (try clear ho0)))
               go_roundg k1
               case measure => have := HK1.out; omega
               case rel => exact ⟨(t550), (t547), (wrap64 (x8_1 - 1)), (by first | rfl | (simp; done) | (simp [*]; done)), H', ⟨by have := HK1.out; omega⟩, ⟨by (with_reducible repeat (first | apply Kd.V_alloc | apply Kd.V_drewN | apply Kd.V_drew)); exact HO552.out⟩, ⟨by (with_reducible repeat (first | apply Kd.V_alloc | apply Kd.V_drewN | apply Kd.V_drew)); exact HO549.out⟩, ⟨hq HB⟩⟩
             · rw [if_neg c12] at H
               have c12b0 : decide (0 ≤ t546) = false := decide_eq_false c12
               clear c12; replace H := Option.bind_eq_some_iff.mp H; obtain ⟨t553, A210, H⟩ := H; (try dsimp only at H); have A21 := Aside0.mk A210; clear A210
               have H' := Aside0.mk H
               clear H
               have p542 : 0 ≤ ((ji4) : Int) := of_decide_eq_true (by first | (with_reducible assumption) | assumption)
               have q542 : (ji4) < (l0.length : Int) := of_decide_eq_true (by first | (with_reducible assumption) | assumption)
               obtain ⟨ad542, e542, hx542_0⟩ := Kd.at_int HR0.out (ji4) p542 q542
               cases e542
               replace hx542_0 := (HB.out.cell (World.block_lt_of_cell? w _ hx542_0)).trans hx542_0; replace p542 := eq_true p542; replace q542 := eq_true q542; obtain ⟨Ao22, co22, eo22⟩ := Kd.V_slice HO_7.out; subst eo22
               go_wp2_with (first | ((with_reducible refine gate_callee (f := 100) rfl ?_); refine goesL_ (some 29) rfl rfl Try.func100 (by kernel_rfl) rfl #[.slice Ao22 x7_1.length co22, .int .i64 (Go.bits .and .i64 (ji9) 1)] rfl (by (try simp only [List.map_toArray, List.map_cons, List.map_nil]); first | done | (simp only [hji9]; rfl) | rfl | (simp only [List.length_drop, List.length_take]; rfl)) ?_; (with_reducible refine (spec_l1Twice.calls k1 _ _ x7_1 (Go.bits .and .i64 (ji9) 1) t543 _ ?side1 ?side2 A10.out).mono ?_); (case side1 => exact cq ((Kd.V_reads' HO_7.out).2.2)); (case side2 => exact (Kd.V_reads' HO_7.out).2.1); rintro e w23 ⟨v544, rfl, ho0, hb⟩; refine ⟨_, rfl, ?_⟩; replace HO_6 := Aside0.mk (Kd.V_below (vq HO_6) hb); replace HO_7 := Aside0.mk (Kd.V_below (vq HO_7) hb); have HO545 := Aside0.mk (Kd.V_lower (Kd.V_mono (ok' := fun k_ => (w.heap.size ≤ k_)) ho0 (fun k_ hk_ => (Nat.le_trans (below_size (hq HB)) hk_))) (below_size (hq HB))); replace HB := cs (hq HB) hb; (try clear hb); (try clear hb2); (try clear hk); (try clear hi); (try clear ho0); obtain ⟨Ao24, co24, eo24⟩ := Kd.V_slice HO545.out; subst eo24) | ((with_reducible refine gate_callee (f := 103) rfl ?_); refine gC (some 32) Try.func103 #[.slice Ao24 t543.length co24, .slice A1 l1.length c1] ?_; (with_reducible refine (spec_l1Compare.calls k1 _ _ t543 _ _ l1 t546 _ ?side1 ?side2 ?side3 ?side4 A11.out).mono ?_); (case side1 => exact cq ((Kd.V_reads' HO545.out).2.2)); (case side2 => exact (Kd.V_reads' HO545.out).2.1); (case side3 => exact cq (Kd.C_below HR1.out HB.out)); (case side4 => exact HC1.out); rintro e w' ⟨rfl, ⟨nd, rfl⟩⟩; refine ⟨_, rfl, ?_⟩; obtain ⟨Ao25, co25, eo25⟩ := Kd.V_slice HO_6.out; subst eo25) | ((with_reducible refine gate_callee (f := 100) rfl ?_); refine gC (some 39) Try.func100 #[.slice Ao25 x6_1.length co25, .int .i64 0] ?_; (with_reducible refine (spec_l1Twice.calls k1 _ _ x6_1 0 t553 _ ?side1 ?side2 A21.out).mono ?_); (case side1 => exact cq ((Kd.V_reads' HO_6.out).2.2)); (case side2 => exact (Kd.V_reads' HO_6.out).2.1); rintro e w26 ⟨v554, rfl, ho0, hb⟩; refine ⟨_, rfl, ?_⟩; replace HO_6 := Aside0.mk (Kd.V_below (vq HO_6) hb); replace HO_7 := Aside0.mk (Kd.V_below (vq HO_7) hb); replace HO545 := Aside0.mk (Kd.V_below (vq HO545) hb); have HO555 := Aside0.mk (Kd.V_lower (Kd.V_mono (ok' := fun k_ => (w.heap.size ≤ k_)) ho0 (fun k_ hk_ => (Nat.le_trans (below_size (hq HB)) hk_))) (below_size (hq HB))); replace HB := cs (hq HB) hb; (try clear hb); (try clear hb2); (try clear hk); (try clear hi); (try clear ho0)))
               go_roundg k1
               case measure => have := HK1.out; omega
               case rel => exact ⟨(t553), (t543), (wrap64 (x8_1 - 1)), (by first | rfl | (simp; done) | (simp [*]; done)), H', ⟨by have := HK1.out; omega⟩, ⟨by (with_reducible repeat (first | apply Kd.V_alloc | apply Kd.V_drewN | apply Kd.V_drew)); exact HO555.out⟩, ⟨by (with_reducible repeat (first | apply Kd.V_alloc | apply Kd.V_drewN | apply Kd.V_drew)); exact HO545.out⟩, ⟨hq HB⟩⟩
           · rw [if_neg c8] at H
             exact absurd H (by simp)
         · rw [if_neg c6] at H
           exact absurd H (by simp)
       · rw [if_neg c5] at H
         exact absurd H (by simp)
     · rw [if_neg c3] at H
       have c3b0 : decide (0 ≤ x8_1) = false := decide_eq_false c3
       clear c3
       simp only [Option.some.injEq, Prod.mk.injEq] at H
       obtain ⟨rfl, rfl⟩ := H
       go_wp2
       go_ret2
       exact ⟨_, _, by first | rfl | (simp <;> rfl) | (simp [*] <;> rfl), by (with_reducible repeat (first | apply Kd.V_alloc | apply Kd.V_drewN | apply Kd.V_drew)); exact HO_6.out, by (with_reducible repeat (first | apply Kd.V_alloc | apply Kd.V_drewN | apply Kd.V_drew)); exact HO_7.out, hq HB⟩

end Go.Proofs.Ytadooofomkdaoaa.QFnHalves
