import Derived.Test.YtadooofomkdaoaaSqueez2
import Derived.Test.YtadooofomkdaoaaQFnLimbsx0
import Derived.Test.YtadooofomkdaoaaQFnLimbsx1
import Derived.Test.YtadooofomkdaoaaQFnLimbsx2
import Derived.Test.YtadooofomkdaoaaQFnLimbsx3
import Derived.Test.YtadooofomkdaoaaQFnLimbsx8
import Derived.Test.YtadooofomkdaoaaQFnLimbsx9
namespace Go.Proofs.Ytadooofomkdaoaa.QFnLimbs
open Go.RowKit Go.Proofs.YtadooofomkdaoaaW.PrintWords Go.Proofs.YtadooofomkdaoaaW.PrintLast Go.Proofs.YtadooofomkdaoaaW.PrintMore
attribute [local go_sem] max2_int min2_int max_two min_two max_three min_three max_four min_four   -- for this text's walks alone
set_option linter.unusedVariables false
set_option linter.unusedSimpArgs false

/-! ### spec_DrawOfDigits: function 27 -/
def spec_DrawOfDigits.f (k : Nat) (l0 : List Int) : Option (ByteArray) := (spec_l1Cur_big.f k l0 0 0).bind fun bt516 => ((spec_DigitsOf.f k bt516.1).bind fun bt521 => ((spec_l1Cur_one.f l0 bt516.2.1 bt516.2.2 4).bind fun bt523 => (if bt523.1 = true then ((spec_l1Cur_spoilt.f k l0 bt523.2.1 bt523.2.2 bt521.1 (⟨#[48, 49, 57, 120]⟩ : ByteArray)).bind fun bt526 => (some bt526.1)) else (some bt521.1))))
set_option maxHeartbeats 8000000 in
set_option maxRecDepth 100000 in
theorem spec_DrawOfDigits.calls (k : Nat) (A0 : Option Addr) (c0 : Nat) (l0 : List Int) (r : ByteArray) (w : World) (hr0 : Kd.C (Kd.int .u8) w A0 l0.length l0) (hc0 : l0.length ≤ c0) (h : spec_DrawOfDigits.f k l0 = some r) :
    Calls Try.prog 27 #[.slice A0 l0.length c0] w fun e w' => e = .returned (.string r) ∧ Below w.heap.size w w' := by
 have hu78 := Try.underlying78; have HR0 := Aside0.mk hr0; have HC0 := Aside0.mk hc0; clear hr0 hc0; have HB := Aside0.mk (Below.refl w.heap.size w)
 have H : ((spec_l1Cur_big.f k l0 0 0).bind fun bt516 => ((spec_DigitsOf.f k bt516.1).bind fun bt521 => ((spec_l1Cur_one.f l0 bt516.2.1 bt516.2.2 4).bind fun bt523 => (if bt523.1 = true then ((spec_l1Cur_spoilt.f k l0 bt523.2.1 bt523.2.2 bt521.1 (⟨#[48, 49, 57, 120]⟩ : ByteArray)).bind fun bt526 => (some bt526.1)) else (some bt521.1))))) = some r := h
 clear h; replace H := Option.bind_eq_some_iff.mp H; obtain ⟨⟨t516, t519, t520⟩, A20, H⟩ := H; (try dsimp only at H); have A2 := Aside0.mk A20; clear A20; replace H := Option.bind_eq_some_iff.mp H; obtain ⟨⟨t521, t522⟩, A30, H⟩ := H; (try dsimp only at H); have A3 := Aside0.mk A30; clear A30; replace H := Option.bind_eq_some_iff.mp H; obtain ⟨⟨t523, t524, t525⟩, A40, H⟩ := H; (try dsimp only at H); have A4 := Aside0.mk A40; clear A40
 by_cases c5 : t523 = true
 rotate_left
 · replace c5 := Bool.eq_false_iff.mpr c5
   subst c5
   have H1 : (some t521) = some r := by rw [if_neg (show ¬ (false = true) by decide)] at H; exact H
   clear H; have H := H1; clear H1; obtain rfl := Option.some.inj H
   go_enter Try.func27, Try.ntmps27
   go_wp2_with (first | ((with_reducible refine gate_dst (N := 8) rfl ?_); refine bX #[.slice A0 l0.length c0, .int .i64 0, .int .u64 0] 78 ?_; intro gb515 hg w13 hbox hb; have n0_ := cs (hq HB) hb; have GW515 := cg hg (hq HB); have GE515 := cg hg (hq HB); have HI515 := Aside0.mk ((⟨_, _, hbox, (by rw [hg]; exact (below_size (hq HB))), HR0.out⟩ : IsS78 w w13 gb515 l0 0 0)); replace HB := n0_; clear n0_; clear hb hbox hg) | ((with_reducible refine gate_callee (f := 73) rfl ?_); refine gC (some 11) Try.func73 #[.pointer (some ⟨gb515, 0, none⟩)] ?_; (with_reducible refine (spec_l1Cur_big.calls k gb515 l0 0 0 t516 t519 t520 w _ ?side1 ?side2 A2.out).mono ?_); (case side1 => exact iq78 HI515); (case side2 => repeat (first | (with_reducible first | exact HB.out | apply below_alloc | apply pw_below_drewN | apply below_drew1 | refine below_set ?_ (IsS78.ge HI515.out)) | exact HB.out)); rintro e w14 ⟨v517, rfl, ho0, hi, hb, hk⟩; refine ⟨_, rfl, ?_⟩; have HO518 := Aside0.mk (Kd.R_lower ho0 (below_size (by repeat (first | (with_reducible first | exact HB.out | apply below_alloc | apply pw_below_drewN | apply below_drew1 | refine below_set ?_ (IsS78.ge HI515.out)) | exact HB.out)))); replace HB := Aside0.mk (hb); replace HI515 := Aside0.mk (hi); (try clear hb); (try clear hb2); (try clear hk); (try clear hi); (try clear ho0); obtain ⟨Ao15, co15, eo15⟩ := Kd.R_slice HO518.out; subst eo15) | ((with_reducible refine gate_callee (f := 26) rfl ?_); refine gC (some 12) Try.func26 #[.agg #[.slice Ao15 t516.length co15]] ?_; (with_reducible refine (spec_DigitsOf.calls k (fun k_ => some k_ = (.slice Ao15 t516.length co15 : Value).ownBlock) _ _ t516 t521 t522 _ ?side1 A3.out).mono ?_); (case side1 => exact Kd.R_V (Kd.R_tight rfl (IsS78.apart HI515.out (HO518.out) (by decide)))); rintro e w16 ⟨rfl, hb⟩; refine ⟨_, rfl, ?_⟩; replace HO518 := cb HO518 hb; have n1_ := Aside0.mk (IsS78.below (by exact iq78 HI515) hb); replace HB := Aside0.mk (below_step (by repeat (first | (with_reducible first | exact HB.out | apply below_alloc | apply pw_below_drewN | apply below_drew1 | refine below_set ?_ (IsS78.ge HI515.out)) | exact HB.out)) hb); replace HI515 := n1_; clear n1_; (try clear hb); (try clear hb2); (try clear hk); (try clear hi)) | ((with_reducible refine gate_callee (f := 91) rfl ?_); refine gC (some 16) Try.func91 #[.pointer (some ⟨gb515, 0, none⟩), .int .i64 4] ?_; (with_reducible refine (spec_l1Cur_one.calls gb515 l0 t519 t520 4 false t524 t525 w _ ?side1 ?side2 A4.out).mono ?_); (case side1 => exact iq78 HI515); (case side2 => repeat (first | (with_reducible first | exact HB.out | apply below_alloc | apply pw_below_drewN | apply below_drew1 | refine below_set ?_ (IsS78.ge HI515.out)) | exact HB.out)); rintro e w17 ⟨rfl, hi, hb, hk⟩; refine ⟨_, rfl, ?_⟩; replace HO518 := Aside0.mk (Kd.R_mono (Kd.R_keep (IsS78.apart (show IsS78 w _ gb515 l0 t519 t520 from by exact iq78 HI515) (rq HO518) (by decide)) hk (fun _ h => h.2)) (fun _ h => h.1)); replace HB := Aside0.mk (hb); replace HI515 := Aside0.mk (hi); (try clear hb); (try clear hb2); (try clear hk); (try clear hi)))
   go_ret
   exact ⟨by first | rfl | (simp <;> rfl) | (simp [*] <;> rfl), by repeat (first | (with_reducible first | exact HB.out | apply below_alloc | apply pw_below_drewN | apply below_drew1 | refine below_set ?_ (IsS78.ge HI515.out)) | exact HB.out)⟩

 subst c5
 have H1 : ((spec_l1Cur_spoilt.f k l0 t524 t525 t521 (⟨#[48, 49, 57, 120]⟩ : ByteArray)).bind fun bt526 => (some bt526.1)) = some r := by rw [if_pos rfl] at H; exact H
 clear H; have H := H1; clear H1; replace H := Option.bind_eq_some_iff.mp H; obtain ⟨⟨t526, t527, t528⟩, A60, H⟩ := H; (try dsimp only at H); have A6 := Aside0.mk A60; clear A60; obtain rfl := Option.some.inj H
 go_enter Try.func27, Try.ntmps27
 go_wp2_with (first | ((with_reducible refine gate_dst (N := 8) rfl ?_); refine bX #[.slice A0 l0.length c0, .int .i64 0, .int .u64 0] 78 ?_; intro gb515 hg w7 hbox hb; have n0_ := cs (hq HB) hb; have GW515 := cg hg (hq HB); have GE515 := cg hg (hq HB); have HI515 := Aside0.mk ((⟨_, _, hbox, (by rw [hg]; exact (below_size (hq HB))), HR0.out⟩ : IsS78 w w7 gb515 l0 0 0)); replace HB := n0_; clear n0_; clear hb hbox hg) | ((with_reducible refine gate_callee (f := 73) rfl ?_); refine gC (some 11) Try.func73 #[.pointer (some ⟨gb515, 0, none⟩)] ?_; (with_reducible refine (spec_l1Cur_big.calls k gb515 l0 0 0 t516 t519 t520 w _ ?side1 ?side2 A2.out).mono ?_); (case side1 => exact iq78 HI515); (case side2 => repeat (first | (with_reducible first | exact HB.out | apply below_alloc | apply pw_below_drewN | apply below_drew1 | refine below_set ?_ (IsS78.ge HI515.out)) | exact HB.out)); rintro e w8 ⟨v517, rfl, ho0, hi, hb, hk⟩; refine ⟨_, rfl, ?_⟩; have HO518 := Aside0.mk (Kd.R_lower ho0 (below_size (by repeat (first | (with_reducible first | exact HB.out | apply below_alloc | apply pw_below_drewN | apply below_drew1 | refine below_set ?_ (IsS78.ge HI515.out)) | exact HB.out)))); replace HB := Aside0.mk (hb); replace HI515 := Aside0.mk (hi); (try clear hb); (try clear hb2); (try clear hk); (try clear hi); (try clear ho0); obtain ⟨Ao9, co9, eo9⟩ := Kd.R_slice HO518.out; subst eo9) | ((with_reducible refine gate_callee (f := 26) rfl ?_); refine gC (some 12) Try.func26 #[.agg #[.slice Ao9 t516.length co9]] ?_; (with_reducible refine (spec_DigitsOf.calls k (fun k_ => some k_ = (.slice Ao9 t516.length co9 : Value).ownBlock) _ _ t516 t521 t522 _ ?side1 A3.out).mono ?_); (case side1 => exact Kd.R_V (Kd.R_tight rfl (IsS78.apart HI515.out (HO518.out) (by decide)))); rintro e w10 ⟨rfl, hb⟩; refine ⟨_, rfl, ?_⟩; replace HO518 := cb HO518 hb; have n1_ := Aside0.mk (IsS78.below (by exact iq78 HI515) hb); replace HB := Aside0.mk (below_step (by repeat (first | (with_reducible first | exact HB.out | apply below_alloc | apply pw_below_drewN | apply below_drew1 | refine below_set ?_ (IsS78.ge HI515.out)) | exact HB.out)) hb); replace HI515 := n1_; clear n1_; (try clear hb); (try clear hb2); (try clear hk); (try clear hi)) | ((with_reducible refine gate_callee (f := 91) rfl ?_); refine gC (some 16) Try.func91 #[.pointer (some ⟨gb515, 0, none⟩), .int .i64 4] ?_; (with_reducible refine (spec_l1Cur_one.calls gb515 l0 t519 t520 4 true t524 t525 w _ ?side1 ?side2 A4.out).mono ?_); (case side1 => exact iq78 HI515); (case side2 => repeat (first | (with_reducible first | exact HB.out | apply below_alloc | apply pw_below_drewN | apply below_drew1 | refine below_set ?_ (IsS78.ge HI515.out)) | exact HB.out)); rintro e w11 ⟨rfl, hi, hb, hk⟩; refine ⟨_, rfl, ?_⟩; replace HO518 := Aside0.mk (Kd.R_mono (Kd.R_keep (IsS78.apart (show IsS78 w _ gb515 l0 t519 t520 from by exact iq78 HI515) (rq HO518) (by decide)) hk (fun _ h => h.2)) (fun _ h => h.1)); replace HB := Aside0.mk (hb); replace HI515 := Aside0.mk (hi); (try clear hb); (try clear hb2); (try clear hk); (try clear hi)) | ((with_reducible refine gate_callee (f := 92) rfl ?_); refine gC (some 19) Try.func92 #[.pointer (some ⟨gb515, 0, none⟩), .string t521, .string (⟨#[48, 49, 57, 120]⟩ : ByteArray)] ?_; (with_reducible refine (spec_l1Cur_spoilt.calls k gb515 l0 t524 t525 t521 (⟨#[48, 49, 57, 120]⟩ : ByteArray) t526 t527 t528 w _ ?side1 ?side2 A6.out).mono ?_); (case side1 => exact iq78 HI515); (case side2 => repeat (first | (with_reducible first | exact HB.out | apply below_alloc | apply pw_below_drewN | apply below_drew1 | refine below_set ?_ (IsS78.ge HI515.out)) | exact HB.out)); rintro e w12 ⟨rfl, hi, hb, hk⟩; refine ⟨_, rfl, ?_⟩; replace HO518 := Aside0.mk (Kd.R_mono (Kd.R_keep (IsS78.apart (show IsS78 w _ gb515 l0 t524 t525 from by exact iq78 HI515) (rq HO518) (by decide)) hk (fun _ h => h.2)) (fun _ h => h.1)); replace HB := Aside0.mk (hb); replace HI515 := Aside0.mk (hi); (try clear hb); (try clear hb2); (try clear hk); (try clear hi)))
 go_ret
 exact ⟨by first | rfl | (simp <;> rfl) | (simp [*] <;> rfl), by repeat (first | (with_reducible first | exact HB.out | apply below_alloc | apply pw_below_drewN | apply below_drew1 | refine below_set ?_ (IsS78.ge HI515.out)) | exact HB.out)⟩
/-! ### impl_bigOf: function 94 -/
def impl_bigOf.l0 : Nat → Int → List Int → Option (List Int)
  | 0, _, _ => none
  | k + 1, x0, x3 => if x0 > 0 then (if x3.length < 17592186044416 then (impl_bigOf.l0 k (wrap64 (Int.tdiv x0 65536)) (x3 ++ [Int.tmod x0 65536])) else (none)) else (some x3)
def impl_bigOf.f (k : Nat) (a0 : Int) : Option (List Int) := impl_bigOf.l0 k a0 (([] : List Int))
set_option maxHeartbeats 8000000 in
set_option maxRecDepth 100000 in
theorem impl_bigOf.calls (k : Nat) (a0 : Int) (r : List Int) (w : World) (h : impl_bigOf.f k a0 = some r) :
    Calls Try.prog 94 #[.int .i64 a0] w fun e w' => ∃ v0_ : Value, e = .returned (.agg #[v0_]) ∧ Kd.R (Kd.int .i64) 3 w' w.heap.size (fun _ => True) v0_ r ∧ Below w.heap.size w w' := by
 have hu25 := Try.underlying25; have HB := Aside0.mk (Below.refl w.heap.size w)
 have H : (impl_bigOf.l0 k a0 (([] : List Int))) = some r := h
 clear h; obtain ⟨y530, hy530⟩ : ∃ y_ : List Int, y_ = (([] : List Int)) := ⟨_, rfl⟩
 replace H : (impl_bigOf.l0 k a0 y530) = some r := by first | (rw [hy530]; with_reducible exact H) | (have H2_ := (Option.bind_some _ _).symm.trans H; rw [hy530]; with_reducible exact H2_) | (have H2_ := (Option.bind_some _ _).symm.trans H; with_reducible exact H2_) | with_reducible exact H | (rw [hy530]; exact H) | exact H
 have Ny530 := Aside0.mk hy530; clear hy530
 have H' := Aside0.mk H
 clear H
 go_enter Try.func94, Try.ntmps94
 go_wp2_with (first | ((with_reducible refine gate_dst (N := 2) rfl ?_); refine bX #[.slice none 0 0] 25 ?_; intro gb529 hg w2 hbox hb; have n0_ := cs (hq HB) hb; have BK529 := Aside0.mk (hbox); have GW529 := cg hg (hq HB); have GE529 := cg hg (hq HB); replace HB := n0_; clear n0_; clear hb hbox hg) | ((with_reducible refine gate_dst (N := 4) rfl ?_); refine Kd.R_lit (Kd.int .i64) _ 3 ?hg (N := 4) ?hd (xs := ([] : List Int)) (inner := []) (ok := fun _ => True) (okp := fun _ => True) ?hr ?hp (fun _ hk => hk) trivial (Below.refl _ _) (Nat.le_refl _) (by simp) ?_; (case hd => rfl); (case hg => rfl); (case hr => first | (go_simp; done) | (go_simp; rfl)); (case hp => exact (Reps.none _ _)); intro v531 w3 ho4 hb hg_ hnew_; clear hg_ hnew_; (first | rw [← Ny530.out] at ho4 | (simp only [Int.reduceToNat] at ho4; rw [← Ny530.out] at ho4)); have HO532 := Aside0.mk (Kd.R_lower ho4 (below_size (hq1 HB GE529))); replace BK529 := cB BK529 hb; replace HB := cs (hq1 HB GE529) hb; clear hb ho4))
 go_loopg [0, 3] k (fun kq v0 v3 w' => ∃ (x0_1 : Int) (x3_1 : List Int), v0 = .int .i64 x0_1 ∧ Aside0 (impl_bigOf.l0 kq x0_1 x3_1 = some r) ∧ Aside0 (kq ≤ k) ∧ Aside0 (Kd.R (Kd.int .i64) 3 w' w.heap.size (fun _ => True) v3 x3_1) ∧ Aside0 (w'.heap[gb529]? = some (.cells #[(.slice none 0 0)] 25 (0, 0))) ∧ Aside0 (Below w.heap.size w w'))
 case atStart => exact ⟨(a0), (y530), (by first | rfl | (simp; done) | (simp [*]; done)), H', ⟨Nat.le_refl _⟩, ⟨by (with_reducible repeat (first | apply Kd.R_alloc | apply Kd.R_drewN | apply Kd.R_drew)); exact HO532.out⟩, ⟨by (with_reducible repeat (first | refine blk_drewN ?_ _ | refine blk_drew ?_ | refine blk_alloc ?_ _)); exact BK529.out⟩, ⟨hq1 HB GE529⟩⟩
 case round =>
   clear H'
   (try clear p2); obtain ⟨x0_1, x3_1, rfl, HA, HK1, HO_3, BK529, HB⟩ := hrel
   cases gk with
   | zero => exact absurd HA.out (by simp [impl_bigOf.l0])
   | succ k1 =>
     have H := HA.out; clear HA
     simp only [impl_bigOf.l0] at H
     by_cases c5 : x0_1 > 0
     · rw [if_pos c5] at H
       have c5b0 : decide (0 < x0_1) = true := decide_eq_true c5
       clear c5
       by_cases c6 : x3_1.length < 17592186044416
       · rw [if_pos c6] at H
         have LMc6 := Aside0.mk c6; clear c6; obtain ⟨y533, hy533⟩ : ∃ y_ : List Int, y_ = (x3_1 ++ [Int.tmod x0_1 65536]) := ⟨_, rfl⟩
         replace H : (impl_bigOf.l0 k1 (wrap64 (Int.tdiv x0_1 65536)) y533) = some r := by first | (rw [hy533]; with_reducible exact H) | (have H2_ := (Option.bind_some _ _).symm.trans H; rw [hy533]; with_reducible exact H2_) | (have H2_ := (Option.bind_some _ _).symm.trans H; with_reducible exact H2_) | with_reducible exact H | (rw [hy533]; exact H) | exact H
         have Ny533 := Aside0.mk hy533; clear hy533
         have H' := Aside0.mk H
         clear H
         go_wp2_with (first | ((with_reducible refine gate_builtin (b := .append) (xs := #[.tmp 9, .tmp 12]) rfl ?_); at_builtin; refine Kd.R_append (Kd.int .i64) (w0 := w) w.heap.size rfl (.tmp 9) (.tmp 12) 23 3 (.int .i64 0) 8 rfl Try.underlying23 info3 rfl (by decide) (by omega) u3 x3_1 (Int.tmod x0_1 65536) [.int .i64 (Int.tmod x0_1 65536)] (fun _ => True) (fun _ => False) rfl rfl ?aP (fun _ hk => hk.elim) ?aF ?aO ?aB ?aS ?aL ?_; (case aP => exact rfl); (case aB => exact (hq1 HB GE529)); (case aF => exact (fun _ _ => trivial)); (case aO => exact (rq HO_3)); (case aS => exact (below_size (hq1 HB GE529))); (case aL => have := LMc6.out; omega); intro v534 w7 ho hb hg hat; rw [← Ny533.out] at ho; replace BK529 := Aside0.mk (blk_grown (g := gb529) (o := .cells #[.slice none 0 0] 25 (0, 0)) (bq BK529) hg (Kd.R_ne HO_3.out BK529.out (by decide))); replace HB := Aside0.mk (hb); have HO535 := Aside0.mk (ho); clear HO_3; clear ho hb hg hat))
         go_roundg k1
         case measure => have := HK1.out; omega
         case rel => exact ⟨(wrap64 (Int.tdiv x0_1 65536)), (y533), (by first | rfl | (simp; done) | (simp [*]; done)), H', ⟨by have := HK1.out; omega⟩, ⟨by (with_reducible repeat (first | apply Kd.R_alloc | apply Kd.R_drewN | apply Kd.R_drew)); exact HO535.out⟩, ⟨by (with_reducible repeat (first | refine blk_drewN ?_ _ | refine blk_drew ?_ | refine blk_alloc ?_ _)); exact BK529.out⟩, ⟨hq1 HB GE529⟩⟩
       · rw [if_neg c6] at H
         exact absurd H (by simp)
     · rw [if_neg c5] at H
       have c5b0 : decide (0 < x0_1) = false := decide_eq_false c5
       clear c5; obtain rfl := Option.some.inj H; obtain ⟨Ao8, co8, eo8⟩ := Kd.R_slice HO_3.out; subst eo8
       have hcz9_0 : wr.cell? ⟨gb529, 0, none⟩ = some (.slice none 0 0) := (blk_cell BK529.out 0).trans rfl
       have hfz9_0 := blk_frozen BK529.out 0
       go_wp2
       refine bodyPost_ret (results_cell_row rfl _ _ gb529 25 #[.slice Ao8 x3_1.length co8] (0, 0) _ rfl (by (with_reducible repeat (first | refine blk_drewN ?_ _ | refine blk_drew ?_ | refine blk_alloc ?_ _)); refine blk_put (cs := #[.slice none 0 0]) ?_ 0 _ rfl; (with_reducible repeat (first | refine blk_drewN ?_ _ | refine blk_drew ?_ | refine blk_alloc ?_ _)); exact BK529.out) Try.underlying25 rfl (by kernel_rfl)) rfl ?_
       exact ⟨_, by first | rfl | (simp <;> rfl) | (simp [*] <;> rfl), by (with_reducible repeat (first | apply Kd.R_alloc | apply Kd.R_drewN | apply Kd.R_drew)); exact Kd.R_mono (Kd.R_far (p := ⟨gb529, 0, none⟩) (Kd.R_types HO_3.out BK529.out (by decide)) (fun _ hk => hk.2) (.slice Ao8 x3_1.length co8)) (fun _ hk => trivial), hq1 HB GE529⟩

/-! ### impl_OfDigits: function 28 -/
mutual
def impl_OfDigits.j0 : Nat → ByteArray → Bool → Option (List Int × Bool)
  | 0, _, _ => none
  | k + 1, x0, x19 => if x19 = true then (some (([] : List Int), false)) else (impl_OfDigits.l0 k x0 (([] : List Int)) (x0.size : Int) 0)
def impl_OfDigits.l0 : Nat → ByteArray → List Int → Int → Int → Option (List Int × Bool)
  | 0, _, _, _, _ => none
  | k + 1, x0, x4, x23, x24 => if x24 < x23 then (if 0 ≤ x24 then (if x24 < (x0.size : Int) then (if (bt x0 x24) < 48 then (impl_OfDigits.j2 k x0 x4 x24 x23 x24 true) else (impl_OfDigits.j2 k x0 x4 x24 x23 x24 (decide ((bt x0 x24) > 57)))) else (none)) else (none)) else ((impl_told.f k x4).bind fun bt541 => (some (bt541.1, bt541.2)))
def impl_OfDigits.j2 : Nat → ByteArray → List Int → Int → Int → Int → Bool → Option (List Int × Bool)
  | 0, _, _, _, _, _, _ => none
  | k + 1, x0, x4, x5, x23, x24, x36 => if x36 = true then (some (([] : List Int), false)) else ((impl_times.f k x4 (([10] : List Int))).bind fun t548 => (if 0 ≤ x5 then (if x5 < (x0.size : Int) then ((impl_bigOf.f k (((bt x0 x5) - 48) % 256)).bind fun t551 => ((impl_sum.f k t548 t551).bind fun t554 => (impl_OfDigits.l0 k x0 t554 x23 (wrap64 (x24 + 1))))) else (none)) else (none)))
end
def impl_OfDigits.f (k : Nat) (a0 : ByteArray) : Option (List Int × Bool) := (impl_within.f (a0.size : Int) 1 30).bind fun t537 => (if t537 = true then (if (a0.size : Int) > 1 then (if 0 < (a0.size : Int) then (impl_OfDigits.j0 k a0 ((bt a0 0) == 48)) else (none)) else (impl_OfDigits.j0 k a0 false)) else (impl_OfDigits.j0 k a0 true))
def impl_OfDigits.T9 : Bool × List (List Nat × List Nat) := (true, [([], []), ([], []), ([0, 1], [0, 1]), ([], []), ([], []), ([3, 4], [3, 4]), ([5], [5]), ([6], [6]), ([7, 2], [7]), ([8], [8]), ([2, 9, 8], [2, 9]), ([10, 10, 0, 1, 2, 3, 4, 5, 6, 7, 8, 9, 10], [0, 10])])
def impl_OfDigits.B9 : List Nat := [0, 0, 3, 0, 0, 24, 56, 120, 255, 511, 1023, 2047]
theorem impl_OfDigits.tab9 : rtab .any (opsOf Try.f28 9) = impl_OfDigits.T9 := by kernel_rfl
theorem impl_OfDigits.bits9 : waitsOk impl_OfDigits.T9.2 impl_OfDigits.B9 = true := by kernel_rfl
set_option maxHeartbeats 8000000 in
set_option maxRecDepth 100000 in
theorem impl_OfDigits.calls (k : Nat) (a0 : ByteArray) (r1 : List Int) (r2 : Bool) (w : World) (h : impl_OfDigits.f k a0 = some (r1, r2)) :
    Calls Try.prog 28 #[.string a0] w fun e w' => ∃ v0_ : Value, e = .returned (.tuple #[.agg #[v0_], .bool r2]) ∧ Kd.R (Kd.int .i64) 3 w' w.heap.size (fun _ => True) v0_ r1 ∧ Below w.heap.size w w' := by
 have hu25 := Try.underlying25; have HB := Aside0.mk (Below.refl w.heap.size w)
 have H : ((impl_within.f (a0.size : Int) 1 30).bind fun t537 => (if t537 = true then (if (a0.size : Int) > 1 then (if 0 < (a0.size : Int) then (impl_OfDigits.j0 k a0 ((bt a0 0) == 48)) else (none)) else (impl_OfDigits.j0 k a0 false)) else (impl_OfDigits.j0 k a0 true))) = some (r1, r2) := h
 clear h; have HC2 := Aside0.mk H; clear H
 go_enter Try.func28, Try.ntmps28
 go_upto_region 1 with (first | ((with_reducible refine gate_dst (N := 2) rfl ?_); (try (refine gate_guard (by rfl) ?_; dsimp only)); refine bX #[.slice none 0 0] 25 ?_; intro gb536 hg w3 hbox hb; have n0_ := cs (hq HB) hb; have BK536 := Aside0.mk (hbox); have GW536 := cg hg (hq HB); have GE536 := cg hg (hq HB); replace HB := n0_; clear n0_; clear hb hbox hg))
 (try simp only [Act.put, List.setIfInBounds_toArray, List.set_cons_zero, List.set_cons_succ])
 go_cut [19] (fun v19 wc => ∃ (kq : Nat) (x19_1 : Bool), v19 = .bool x19_1 ∧ Aside0 (impl_OfDigits.j0 kq a0 x19_1 = some (r1, r2)) ∧ Aside0 (kq ≤ k) ∧ Aside0 (wc.heap[gb536]? = some (.cells #[(.slice none 0 0)] 25 (0, 0))) ∧ Aside0 (Below w.heap.size w wc))
 case first =>
   have H := HC2.out; clear HC2; replace H := Option.bind_eq_some_iff.mp H; obtain ⟨t537, A40, H⟩ := H; (try dsimp only at H); have A4 := Aside0.mk A40; clear A40
   by_cases c5 : t537 = true
   rotate_left
   · replace c5 := Bool.eq_false_iff.mpr c5
     subst c5
     have H1 : (impl_OfDigits.j0 k a0 true) = some (r1, r2) := by rw [if_neg (show ¬ (false = true) by decide)] at H; exact H
     clear H; have H := H1; clear H1
     have H' := Aside0.mk H
     clear H
     go_wp2_with (first | ((with_reducible refine gate_callee (f := 93) rfl ?_); refine gC (some 8) Try.func93 #[.int .i64 (a0.size : Int), .int .i64 1, .int .i64 30] ?_; (with_reducible refine (impl_within.calls (a0.size : Int) 1 30 false _ A4.out).mono ?_); rintro e w' ⟨rfl, ⟨nd, rfl⟩⟩; refine ⟨_, rfl, ?_⟩))
     go_meet
     case rel => exact ⟨_, (true), (by first | rfl | (simp; done) | (simp [*]; done)), H', ⟨by first | omega | exact Nat.le_refl _⟩, ⟨by (with_reducible repeat (first | refine blk_drewN ?_ _ | refine blk_drew ?_ | refine blk_alloc ?_ _)); exact BK536.out⟩, ⟨hq1 HB GE536⟩⟩
   subst c5
   have H1 : (if (a0.size : Int) > 1 then (if 0 < (a0.size : Int) then (impl_OfDigits.j0 k a0 ((bt a0 0) == 48)) else (none)) else (impl_OfDigits.j0 k a0 false)) = some (r1, r2) := by rw [if_pos rfl] at H; exact H
   clear H; have H := H1; clear H1
   by_cases c6 : (a0.size : Int) > 1
   rotate_left
   · rw [if_neg c6] at H
     have c6b0 : decide (1 < (a0.size : Int)) = false := decide_eq_false c6
     have c6b1 : decide (1 < a0.size) = false := decide_eq_false (by omega)
     clear c6
     (first | rw [c6b0] | (simp only [i64_w, i32_w]; rw [c6b0]) | skip)
     have H' := Aside0.mk H
     clear H
     go_wp2_with (first | ((with_reducible refine gate_callee (f := 93) rfl ?_); refine gC (some 8) Try.func93 #[.int .i64 (a0.size : Int), .int .i64 1, .int .i64 30] ?_; (with_reducible refine (impl_within.calls (a0.size : Int) 1 30 true _ A4.out).mono ?_); rintro e w' ⟨rfl, ⟨nd, rfl⟩⟩; refine ⟨_, rfl, ?_⟩))
     go_meet
     case rel => exact ⟨_, (false), (by first | rfl | (simp; done) | (simp [*]; done)), H', ⟨by first | omega | exact Nat.le_refl _⟩, ⟨by (with_reducible repeat (first | refine blk_drewN ?_ _ | refine blk_drew ?_ | refine blk_alloc ?_ _)); exact BK536.out⟩, ⟨hq1 HB GE536⟩⟩
   rw [if_pos c6] at H
   have c6b0 : decide (1 < (a0.size : Int)) = true := decide_eq_true c6
   have c6b1 : decide (1 < a0.size) = true := decide_eq_true (by omega)
   clear c6
   (first | rw [c6b0] | (simp only [i64_w, i32_w]; rw [c6b0]) | skip)
   by_cases c7 : 0 < (a0.size : Int)
   rotate_left
   · rw [if_neg c7] at H
     exact absurd H (by simp)
   rw [if_pos c7] at H
   have c7b0 : decide (0 < (a0.size : Int)) = true := decide_eq_true c7
   have c7b1 : decide (0 < a0.size) = true := decide_eq_true (by omega)
   clear c7
   have H' := Aside0.mk H
   clear H
   go_wp2_with (first | ((with_reducible refine gate_callee (f := 93) rfl ?_); refine gC (some 8) Try.func93 #[.int .i64 (a0.size : Int), .int .i64 1, .int .i64 30] ?_; (with_reducible refine (impl_within.calls (a0.size : Int) 1 30 true _ A4.out).mono ?_); rintro e w' ⟨rfl, ⟨nd, rfl⟩⟩; refine ⟨_, rfl, ?_⟩; have p8 : 0 ≤ (0 : Int) := (by omega); have q8 : 0 < a0.size := (by have : (0 : Int) < (a0.size : Int) := of_decide_eq_true (by first | (with_reducible assumption) | assumption); omega); have hx8 : ∀ h : 0 < a0.size, ((a0[0]'h).toNat : Int) = bt a0 0 := bt_at a0 0; clear p8; have qi8 : (0 < (a0.size : Int)) = True := eq_true (of_decide_eq_true (by first | (with_reducible assumption) | assumption)); replace q8 := eq_true q8))
   go_meet
   case rel => exact ⟨_, (((bt a0 0) == 48)), (by first | rfl | (simp; done) | (simp [*]; done)), H', ⟨by first | omega | exact Nat.le_refl _⟩, ⟨by (with_reducible repeat (first | refine blk_drewN ?_ _ | refine blk_drew ?_ | refine blk_alloc ?_ _)); exact BK536.out⟩, ⟨hq1 HB GE536⟩⟩
 clear HC2; (try clear c2); (try clear p2); (try clear c5); (try clear c6); (try clear c6b0); (try clear c6b1); (try clear c7); (try clear c7b0); (try clear c7b1); (try clear p8); (try clear q8); (try clear hx8); (try clear qi8); (try clear p8); (try clear q8); obtain ⟨kq, x19_1, rfl, HA, HJ1, BK536, HB⟩ := hcut; obtain _ | kj1 := kq
 · exact absurd HA.out (by simp [impl_OfDigits.j0])
 have H := HA.out; clear HA
 simp only [impl_OfDigits.j0] at H
 by_cases c9 : x19_1 = true
 · subst c9
   have H1 : (some (([] : List Int), false)) = some (r1, r2) := by rw [if_pos rfl] at H; exact H
   clear H; have H := H1; clear H1
   simp only [Option.some.injEq, Prod.mk.injEq] at H
   obtain ⟨rfl, rfl⟩ := H
   have hcz10_0 : wc.cell? ⟨gb536, 0, none⟩ = some (.slice none 0 0) := (blk_cell BK536.out 0).trans rfl
   have hfz10_0 := blk_frozen BK536.out 0
   go_wp2
   refine bodyPost_ret (results_ct rfl _ _ gb536 25 #[.slice none 0 0] (0, 0) _ rfl (by (with_reducible repeat (first | refine blk_drewN ?_ _ | refine blk_drew ?_ | refine blk_alloc ?_ _)); refine blk_put (cs := #[.slice none 0 0]) ?_ 0 _ rfl; (with_reducible repeat (first | refine blk_drewN ?_ _ | refine blk_drew ?_ | refine blk_alloc ?_ _)); exact BK536.out) Try.underlying25 rfl (by kernel_rfl)) rfl ?_
   exact ⟨_, by first | rfl | (simp <;> rfl) | (simp [*] <;> rfl), by first | exact Kd.R_nil _ _ _ _ _ | exact Kd.R_nil _ _ _ 0 _ | exact Kd.N_nil _ _ _ _ _ | exact Kd.V_nil _ _ _ _ _ | exact Kd.Q_nil _ _ _ _ _ | exact Kd.S_nil _ _ _ _ _, hq1 HB GE536⟩
 replace c9 := Bool.eq_false_iff.mpr c9; subst c9
 have H1 : (impl_OfDigits.l0 kj1 a0 (([] : List Int)) (a0.size : Int) 0) = some (r1, r2) := by rw [if_neg (show ¬ (false = true) by decide)] at H; exact H
 clear H; have H := H1; clear H1; obtain ⟨y538, hy538⟩ : ∃ y_ : List Int, y_ = (([] : List Int)) := ⟨_, rfl⟩
 replace H : (impl_OfDigits.l0 kj1 a0 y538 (a0.size : Int) 0) = some (r1, r2) := by first | (rw [hy538]; with_reducible exact H) | (have H2_ := (Option.bind_some _ _).symm.trans H; rw [hy538]; with_reducible exact H2_) | (have H2_ := (Option.bind_some _ _).symm.trans H; with_reducible exact H2_) | with_reducible exact H | (rw [hy538]; exact H) | exact H
 have Ny538 := Aside0.mk hy538; clear hy538
 have H' := Aside0.mk H
 clear H
 go_wp2_with (first | ((with_reducible refine gate_dst (N := 21) rfl ?_); (try (refine gate_guard (by rfl) ?_; dsimp only)); refine Kd.R_lit (Kd.int .i64) _ 3 ?hg (N := 21) ?hd (xs := ([] : List Int)) (inner := []) (ok := fun _ => True) (okp := fun _ => True) ?hr ?hp (fun _ hk => hk) trivial (Below.refl _ _) (Nat.le_refl _) (by simp) ?_; (case hd => rfl); (case hg => rfl); (case hr => first | (go_simp; done) | (go_simp; rfl)); (case hp => exact (Reps.none _ _)); intro v539 w11 ho12 hb hg_ hnew_; clear hg_ hnew_; (first | rw [← Ny538.out] at ho12 | (simp only [Int.reduceToNat] at ho12; rw [← Ny538.out] at ho12)); have HO540 := Aside0.mk (Kd.R_lower ho12 (below_size (hq1 HB GE536))); replace BK536 := cB BK536 hb; replace HB := cs (hq1 HB GE536) hb; clear hb ho12))
 go_loopg [4, 24] kj1 (fun kq v4 v24 w' => ∃ (x4_2 : List Int) (x24_2 : Int), v24 = .int .i64 x24_2 ∧ Aside0 (impl_OfDigits.l0 kq a0 x4_2 (a0.size : Int) x24_2 = some (r1, r2)) ∧ Aside0 (kq ≤ kj1) ∧ Aside0 (Kd.R (Kd.int .i64) 3 w' w.heap.size (fun _ => True) v4 x4_2) ∧ Aside0 (w'.heap[gb536]? = some (.cells #[(.slice none 0 0)] 25 (0, 0))) ∧ Aside0 (Below w.heap.size w w'))
 case atStart => exact ⟨(y538), (0), (by first | rfl | (simp; done) | (simp [*]; done)), H', ⟨Nat.le_refl _⟩, ⟨by (with_reducible repeat (first | apply Kd.R_alloc | apply Kd.R_drewN | apply Kd.R_drew)); exact HO540.out⟩, ⟨by (with_reducible repeat (first | refine blk_drewN ?_ _ | refine blk_drew ?_ | refine blk_alloc ?_ _)); exact BK536.out⟩, ⟨hq1 HB GE536⟩⟩
 case round =>
   clear H'
   (try clear c2); (try clear p2); (try clear c5); (try clear c6); (try clear c6b0); (try clear c6b1); (try clear c7); (try clear c7b0); (try clear c7b1); (try clear p8); (try clear q8); (try clear hx8); (try clear qi8); (try clear c9); (try clear hcz10_0); (try clear hfz10_0); (try clear p2); (try clear p8); (try clear q8); obtain ⟨x4_2, x24_2, rfl, HA, HK2, HO_4, BK536, HB⟩ := hrel
   cases gk with
   | zero => exact absurd HA.out (by simp [impl_OfDigits.l0])
   | succ k2 =>
     have H := HA.out; clear HA
     simp only [impl_OfDigits.l0] at H
     by_cases c13 : x24_2 < (a0.size : Int)
     · rw [if_pos c13] at H
       have c13b0 : decide (x24_2 < (a0.size : Int)) = true := decide_eq_true c13
       clear c13; have HC14 := Aside0.mk H; clear H
       go_upto_region 7 with (fail)
       go_cut [36] (fun v36 wc => ∃ (kq : Nat) (x36_13 : Bool), v36 = .bool x36_13 ∧ Aside0 (impl_OfDigits.j2 kq a0 x4_2 x24_2 (a0.size : Int) x24_2 x36_13 = some (r1, r2)) ∧ Aside0 (kq ≤ k2) ∧ Aside0 (Kd.R (Kd.int .i64) 3 wc w.heap.size (fun _ => True) u4 x4_2) ∧ Aside0 (wc.heap[gb536]? = some (.cells #[(.slice none 0 0)] 25 (0, 0))) ∧ Aside0 (Below w.heap.size w wc))
       case first =>
         have H := HC14.out; clear HC14
         by_cases c15 : 0 ≤ x24_2
         · rw [if_pos c15] at H
           have c15b0 : decide (0 ≤ x24_2) = true := decide_eq_true c15
           clear c15
           (first | rw [c15b0] | (simp only [i64_w, i32_w]; rw [c15b0]) | skip)
           by_cases c16 : x24_2 < (a0.size : Int)
           · rw [if_pos c16] at H
             have c16b0 : decide (x24_2 < (a0.size : Int)) = true := decide_eq_true c16
             clear c16
             by_cases c18 : (bt a0 x24_2) < 48
             · rw [if_pos c18] at H
               have c18b0 : decide ((bt a0 x24_2) < 48) = true := decide_eq_true c18
               clear c18
               have H' := Aside0.mk H
               clear H
               have p17 : 0 ≤ (x24_2 : Int) := of_decide_eq_true (by first | (with_reducible assumption) | assumption)
               have q17 : x24_2 < (a0.size : Int) := of_decide_eq_true (by first | (with_reducible assumption) | assumption)
               have hx17 := bt_at a0 x24_2; replace p17 := eq_true p17; replace q17 := eq_true q17
               go_wp2
               go_meet
               case rel => exact ⟨_, (true), (by first | rfl | (simp; done) | (simp [*]; done)), H', ⟨by have := HJ1.out; have := HK2.out; first | omega | exact Nat.le_refl _⟩, ⟨by (with_reducible repeat (first | apply Kd.R_alloc | apply Kd.R_drewN | apply Kd.R_drew)); exact HO_4.out⟩, ⟨by (with_reducible repeat (first | refine blk_drewN ?_ _ | refine blk_drew ?_ | refine blk_alloc ?_ _)); exact BK536.out⟩, ⟨hq1 HB GE536⟩⟩
             · rw [if_neg c18] at H
               have c18b0 : decide ((bt a0 x24_2) < 48) = false := decide_eq_false c18
               clear c18
               have H' := Aside0.mk H
               clear H
               have p17 : 0 ≤ (x24_2 : Int) := of_decide_eq_true (by first | (with_reducible assumption) | assumption)
               have q17 : x24_2 < (a0.size : Int) := of_decide_eq_true (by first | (with_reducible assumption) | assumption)
               have hx17 := bt_at a0 x24_2; replace p17 := eq_true p17; replace q17 := eq_true q17
               have p19 : 0 ≤ (x24_2 : Int) := of_decide_eq_true (by first | (with_reducible assumption) | assumption)
               have q19 : x24_2 < (a0.size : Int) := of_decide_eq_true (by first | (with_reducible assumption) | assumption)
               have hx19 := bt_at a0 x24_2; replace p19 := eq_true p19; replace q19 := eq_true q19
               go_wp2
               go_meet
               case rel => exact ⟨_, (decide ((bt a0 x24_2) > 57)), (by first | rfl | (simp; done) | (simp [*]; done)), H', ⟨by have := HJ1.out; have := HK2.out; first | omega | exact Nat.le_refl _⟩, ⟨by (with_reducible repeat (first | apply Kd.R_alloc | apply Kd.R_drewN | apply Kd.R_drew)); exact HO_4.out⟩, ⟨by (with_reducible repeat (first | refine blk_drewN ?_ _ | refine blk_drew ?_ | refine blk_alloc ?_ _)); exact BK536.out⟩, ⟨hq1 HB GE536⟩⟩
           · rw [if_neg c16] at H
             exact absurd H (by simp)
         · rw [if_neg c15] at H
           exact absurd H (by simp)
       case rest =>
         clear HC14; (try clear c1); (try clear p1); (try clear q1); (try clear hx1); (try clear c2); (try clear p2); (try clear c5); (try clear c6); (try clear c6b0); (try clear c6b1); (try clear c7); (try clear c7b0); (try clear c7b1); (try clear p8); (try clear q8); (try clear hx8); (try clear qi8); (try clear c9); (try clear c13); (try clear c13b0); (try clear c15); (try clear c15b0); (try clear c16); (try clear c16b0); (try clear p17); (try clear q17); (try clear hx17); (try clear c18); (try clear c18b0); (try clear p19); (try clear q19); (try clear hx19); (try clear hcz10_0); (try clear hfz10_0); (try clear p17); (try clear p19); (try clear p2); (try clear p8); (try clear q17); (try clear q19); (try clear q8); obtain ⟨kq, x36_13, rfl, HA, HJ13, HO_4, BK536, HB⟩ := hcut
         cases kq with
         | zero => exact absurd HA.out (by simp [impl_OfDigits.j2])
         | succ kj13 =>
           have H := HA.out; clear HA
           simp only [impl_OfDigits.j2] at H
           by_cases c20 : x36_13 = true
           · subst c20
             have H1 : (some (([] : List Int), false)) = some (r1, r2) := by rw [if_pos rfl] at H; exact H
             clear H; have H := H1; clear H1
             simp only [Option.some.injEq, Prod.mk.injEq] at H
             obtain ⟨rfl, rfl⟩ := H
             have hcz21_0 : wc.cell? ⟨gb536, 0, none⟩ = some (.slice none 0 0) := (blk_cell BK536.out 0).trans rfl
             have hfz21_0 := blk_frozen BK536.out 0
             go_wp2
             refine bodyPost_ret (results_ct rfl _ _ gb536 25 #[.slice none 0 0] (0, 0) _ rfl (by (with_reducible repeat (first | refine blk_drewN ?_ _ | refine blk_drew ?_ | refine blk_alloc ?_ _)); refine blk_put (cs := #[.slice none 0 0]) ?_ 0 _ rfl; (with_reducible repeat (first | refine blk_drewN ?_ _ | refine blk_drew ?_ | refine blk_alloc ?_ _)); exact BK536.out) Try.underlying25 rfl (by kernel_rfl)) rfl ?_
             exact ⟨_, by first | rfl | (simp <;> rfl) | (simp [*] <;> rfl), by first | exact Kd.R_nil _ _ _ _ _ | exact Kd.R_nil _ _ _ 0 _ | exact Kd.N_nil _ _ _ _ _ | exact Kd.V_nil _ _ _ _ _ | exact Kd.Q_nil _ _ _ _ _ | exact Kd.S_nil _ _ _ _ _, hq1 HB GE536⟩
           · replace c20 := Bool.eq_false_iff.mpr c20
             subst c20
             have H1 : ((impl_times.f kj13 x4_2 (([10] : List Int))).bind fun t548 => (if 0 ≤ x24_2 then (if x24_2 < (a0.size : Int) then ((impl_bigOf.f kj13 (((bt a0 x24_2) - 48) % 256)).bind fun t551 => ((impl_sum.f kj13 t548 t551).bind fun t554 => (impl_OfDigits.l0 kj13 a0 t554 (a0.size : Int) (wrap64 (x24_2 + 1))))) else (none)) else (none))) = some (r1, r2) := by rw [if_neg (show ¬ (false = true) by decide)] at H; exact H
             clear H; have H := H1; clear H1; obtain ⟨y545, hy545⟩ : ∃ y_ : List Int, y_ = (([10] : List Int)) := ⟨_, rfl⟩
             replace H : ((impl_times.f kj13 x4_2 y545).bind fun t548 => (if 0 ≤ x24_2 then (if x24_2 < (a0.size : Int) then ((impl_bigOf.f kj13 (((bt a0 x24_2) - 48) % 256)).bind fun t551 => ((impl_sum.f kj13 t548 t551).bind fun t554 => (impl_OfDigits.l0 kj13 a0 t554 (a0.size : Int) (wrap64 (x24_2 + 1))))) else (none)) else (none))) = some (r1, r2) := by first | (rw [hy545]; with_reducible exact H) | (have H2_ := (Option.bind_some _ _).symm.trans H; rw [hy545]; with_reducible exact H2_) | (have H2_ := (Option.bind_some _ _).symm.trans H; with_reducible exact H2_) | with_reducible exact H | (rw [hy545]; exact H) | exact H
             have Ny545 := Aside0.mk hy545; clear hy545; replace H := Option.bind_eq_some_iff.mp H; obtain ⟨t548, A220, H⟩ := H; (try dsimp only at H); have A22 := Aside0.mk A220; clear A220
             by_cases c23 : 0 ≤ x24_2
             · rw [if_pos c23] at H
               have c23b0 : decide (0 ≤ x24_2) = true := decide_eq_true c23
               clear c23
               by_cases c24 : x24_2 < (a0.size : Int)
               · rw [if_pos c24] at H
                 have c24b0 : decide (x24_2 < (a0.size : Int)) = true := decide_eq_true c24
                 clear c24; replace H := Option.bind_eq_some_iff.mp H; obtain ⟨t551, A260, H⟩ := H; (try dsimp only at H); have A26 := Aside0.mk A260; clear A260; replace H := Option.bind_eq_some_iff.mp H; obtain ⟨t554, A270, H⟩ := H; (try dsimp only at H); have A27 := Aside0.mk A270; clear A270
                 have H' := Aside0.mk H
                 clear H
                 try go_wp2
                 replace HO_4 := Aside0.mk (Kd.R_drew HO_4.out); replace BK536 := Aside0.mk (blk_drew BK536.out); replace HB := Aside0.mk (below_drew1 HB.out)
                 have p25 : 0 ≤ (x24_2 : Int) := of_decide_eq_true (by first | (with_reducible assumption) | assumption)
                 have q25 : x24_2 < (a0.size : Int) := of_decide_eq_true (by first | (with_reducible assumption) | assumption)
                 have hx25 := bt_at a0 x24_2; replace p25 := eq_true p25; replace q25 := eq_true q25
                 refine start_ (n := 12) (S := fun w' => True) (ds := []) #[false, false, false, false, false, false, false, false, false, false, false, false] (by kernel_rfl) rfl rfl trivial (fun hHeld => ?_); refine with_tabW impl_OfDigits.tab9 impl_OfDigits.bits9 (fun HT_ HW_ => ?_)
                 generalize wc.drew = w28 at HO_4 BK536 HB hHeld ⊢
                 refine pure_ (i := 0) (N := some 38) (v := ?_) (a' := ?_) #[true, false, false, false, false, false, false, false, false, false, false, false] rfl rfl (any_of HT_.out (by kernel_rfl)) (fun _ _ _ h => h) (Or.inl ⟨by rfl, ?_⟩) ?_ ?_
                 rotate_left
                 · intro w'
                   first | (go_simp; with_reducible rfl) | (go_simp; unfold Instr.field; go_simp; rfl)
                 rotate_left
                 · simp only [Act.put, List.setIfInBounds_toArray, List.set_cons_zero, List.set_cons_succ, i64_w, i32_w]
                   rfl
                 refine pure_ (i := 3) (N := some 41) (v := ?_) (a' := ?_) #[true, false, false, true, false, false, false, false, false, false, false, false] rfl rfl (any_of HT_.out (by kernel_rfl)) (fun _ _ _ h => h) (Or.inl ⟨by rfl, ?_⟩) ?_ ?_
                 rotate_left
                 · intro w'
                   first | (go_simp; with_reducible rfl) | (go_simp; unfold Instr.field; go_simp; rfl)
                 rotate_left
                 · simp only [Act.put, List.setIfInBounds_toArray, List.set_cons_zero, List.set_cons_succ, i64_w, i32_w]
                   rfl
                 refine pure_ (i := 4) (N := some 42) (v := ?_) (a' := ?_) #[true, false, false, true, true, false, false, false, false, false, false, false] rfl rfl (any_of HT_.out (by kernel_rfl)) (fun _ _ _ h => h) (Or.inl ⟨by rfl, ?_⟩) ?_ ?_
                 rotate_left
                 · intro w'
                   first | (go_simp; with_reducible rfl) | (go_simp; unfold Instr.field; go_simp; rfl)
                 rotate_left
                 · simp only [Act.put, List.setIfInBounds_toArray, List.set_cons_zero, List.set_cons_succ, i64_w, i32_w]
                   rfl
                 refine take_ (i := 5) (N := some 43) (v := ?_) (a' := ?_) #[true, false, false, true, true, true, false, false, false, false, false, false] rfl rfl (take_ofW HT_.out HW_.out (by kernel_rfl)) (fun _ _ _ h => h) (Or.inl ⟨by rfl, ?_⟩) hHeld ?_ ?_
                 rotate_left
                 · intro w' _
                   go_simp
                   with_reducible rfl
                 rotate_left
                 · simp only [Act.put, List.setIfInBounds_toArray, List.set_cons_zero, List.set_cons_succ, i64_w, i32_w]
                   rfl
                 refine pure_ (i := 6) (N := some 44) (v := ?_) (a' := ?_) #[true, false, false, true, true, true, true, false, false, false, false, false] rfl rfl (any_of HT_.out (by kernel_rfl)) (fun _ _ _ h => h) (Or.inl ⟨by rfl, ?_⟩) ?_ ?_
                 rotate_left
                 · intro w'
                   first | (go_simp; with_reducible rfl) | (go_simp; unfold Instr.field; go_simp; rfl)
                 rotate_left
                 · simp only [Act.put, List.setIfInBounds_toArray, List.set_cons_zero, List.set_cons_succ, i64_w, i32_w]
                   rfl
                 refine pure_ (i := 7) (N := some 45) (v := ?_) (a' := ?_) #[true, false, false, true, true, true, true, true, false, false, false, false] rfl rfl (any_of HT_.out (by kernel_rfl)) (fun _ _ _ h => h) (Or.inl ⟨by rfl, ?_⟩) ?_ ?_
                 rotate_left
                 · intro w'
                   first | (go_simp; with_reducible rfl) | (go_simp; unfold Instr.field; go_simp; rfl)
                 rotate_left
                 · simp only [Act.put, List.setIfInBounds_toArray, List.set_cons_zero, List.set_cons_succ, i64_w, i32_w]
                   rfl
                 refine one_ (i := 1) (N := some 39) #[true, true, false, true, true, true, true, true, false, false, false, false] rfl rfl (one_of HT_.out (by kernel_rfl)) (by decide) (fun K hK => ?_)
                 refine Kd.R_lit_step (Kd.int .i64) _ 3 ?hg (N := 39) ?hd (xs := ([10] : List Int)) (inner := [.int .i64 10]) (ok := fun _ => True) (okp := fun _ => True) ?hr ?hp (fun _ hk => hk) trivial (Below.refl _ _) (Nat.le_refl _) (by simp) ?_; (case hd => rfl); (case hg => rfl); (case hr => first | (go_simp; done) | (go_simp; rfl)); (case hp => exact (Reps.one (show Kd.M (Kd.int .i64) _ _ _ 10 [.int .i64 10] from rfl) (Reps.none _ _)))
                 intro v546 w29 ho30 hb hg_ hnew_
                 clear hg_ hnew_
                 (first | rw [← Ny545.out] at ho30 | (simp only [Int.reduceToNat] at ho30; rw [← Ny545.out] at ho30))
                 have n0_ := ce HO_4 ho30 hb; have HO547 := Aside0.mk (Kd.R_lower (Kd.R_new' ho30 (ql HO_4)) (below_size (hq1 HB GE536))); replace BK536 := cB BK536 hb; replace HB := cs (hq1 HB GE536) hb; replace HO_4 := n0_; clear n0_; clear hb ho30; obtain ⟨Ao31, co31, eo31⟩ := Kd.R_slice HO_4.out
                 (first | subst eo31 | (injection eo31 with f1_ f2_ f3_; have f4_ := f1_.symm; have f5_ := f3_.symm; clear f1_ f2_ f3_; subst f4_; subst f5_))
                 obtain ⟨Ao32, co32, eo32⟩ := Kd.R_slice HO547.out
                 (first | subst eo32 | (injection eo32 with f1_ f2_ f3_; have f4_ := f1_.symm; have f5_ := f3_.symm; clear f1_ f2_ f3_; subst f4_; subst f5_))
                 refine hK.out _ _ trivial (fun hHeld => ?_)
                 clear hK K
                 refine norm_ (a' := ?_) ?_ ?_
                 rotate_left
                 · show Act.put _ (some 39) _ = _
                   simp only [Act.put, List.setIfInBounds_toArray, List.set_cons_zero, List.set_cons_succ, i64_w, i32_w]
                   rfl
                 refine one_ (i := 2) (N := some 40) #[true, true, true, true, true, true, true, true, false, false, false, false] rfl rfl (one_of HT_.out (by kernel_rfl)) (by decide) (fun K hK => ?_)
                 refine goes_ Try.func87 (by kernel_rfl) rfl #[.slice Ao31 x4_2.length co31, .slice Ao32 y545.length co32] (by rfl) rfl rfl (by (try simp only [List.map_toArray, List.map_cons, List.map_nil]); first | done | rfl | (simp only [List.length_drop, List.length_take]; rfl)) ?_
                 with_reducible refine (impl_times.calls kj13 _ _ x4_2 _ _ y545 t548 _ ?side1 ?side2 ?side3 ?side4 A22.out).mono ?_
                 (case side1 => exact cq ((Kd.R_reads' HO_4.out).2.2))
                 (case side2 => exact (Kd.R_reads' HO_4.out).2.1)
                 (case side3 => exact cq ((Kd.R_reads' HO547.out).2.2))
                 (case side4 => exact (Kd.R_reads' HO547.out).2.1)
                 rintro e w33 ⟨v549, rfl, ho0, hb⟩
                 refine ⟨_, rfl, ?_⟩; have n0_ := ce HO_4 ho0 hb; have n1_ := ce HO547 ho0 hb; have HO550 := Aside0.mk (Kd.R_lower (Kd.R_new' (Kd.R_new' ho0 (ql HO_4)) (ql HO547)) (below_size (hq1 HB GE536))); replace BK536 := cB BK536 hb; replace HB := cs (hq1 HB GE536) hb; replace HO_4 := n0_; replace HO547 := n1_; clear n0_ n1_; (try clear hb); (try clear hb2); (try clear hk); (try clear hi); (try clear ho0)
                 refine hK.out _ _ trivial (fun hHeld => ?_)
                 clear hK K
                 refine norm_ (a' := ?_) ?_ ?_
                 rotate_left
                 · show Act.put _ (some 40) _ = _
                   simp only [Act.put, List.setIfInBounds_toArray, List.set_cons_zero, List.set_cons_succ, i64_w, i32_w]
                   rfl
                 refine one_ (i := 8) (N := some 46) #[true, true, true, true, true, true, true, true, true, false, false, false] rfl rfl (one_of HT_.out (by kernel_rfl)) (by decide) (fun K hK => ?_)
                 refine goes_ Try.func94 (by kernel_rfl) rfl #[.int .i64 (((bt a0 x24_2) - 48) % 256)] (by rfl) rfl rfl (by (try simp only [List.map_toArray, List.map_cons, List.map_nil]); first | done | rfl | (simp only [List.length_drop, List.length_take]; rfl) | (refine Eq.trans (b := #[Value.int .i64 (wrap64 (IntKind.u8.wrap ((bt a0 x24_2) - 48)))]) rfl ?_; rw [Go.IntKind.wrap_u8, show wrap64 (((bt a0 x24_2) - 48) % 256) = ((bt a0 x24_2) - 48) % 256 by unfold wrap64; omega])) ?_
                 with_reducible refine (impl_bigOf.calls kj13 (((bt a0 x24_2) - 48) % 256) t551 _ A26.out).mono ?_
                 rintro e w34 ⟨v552, rfl, ho0, hb⟩
                 refine ⟨_, rfl, ?_⟩; have n0_ := ce HO_4 ho0 hb; have n1_ := ce HO547 ho0 hb; have n2_ := ce HO550 ho0 hb; have HO553 := Aside0.mk (Kd.R_lower (Kd.R_new' (Kd.R_new' (Kd.R_new' ho0 (ql HO_4)) (ql HO547)) (ql HO550)) (below_size (hq1 HB GE536))); replace BK536 := cB BK536 hb; replace HB := cs (hq1 HB GE536) hb; replace HO_4 := n0_; replace HO547 := n1_; replace HO550 := n2_; clear n0_ n1_ n2_; (try clear hb); (try clear hb2); (try clear hk); (try clear hi); (try clear ho0); obtain ⟨Ao35, co35, eo35⟩ := Kd.R_slice HO550.out
                 (first | subst eo35 | (injection eo35 with f1_ f2_ f3_; have f4_ := f1_.symm; have f5_ := f3_.symm; clear f1_ f2_ f3_; subst f4_; subst f5_))
                 obtain ⟨Ao36, co36, eo36⟩ := Kd.R_slice HO553.out
                 (first | subst eo36 | (injection eo36 with f1_ f2_ f3_; have f4_ := f1_.symm; have f5_ := f3_.symm; clear f1_ f2_ f3_; subst f4_; subst f5_))
                 refine hK.out _ _ trivial (fun hHeld => ?_)
                 clear hK K
                 refine norm_ (a' := ?_) ?_ ?_
                 rotate_left
                 · show Act.put _ (some 46) _ = _
                   simp only [Act.put, List.setIfInBounds_toArray, List.set_cons_zero, List.set_cons_succ, i64_w, i32_w]
                   rfl
                 refine pure_ (i := 9) (N := some 47) (v := ?_) (a' := ?_) #[true, true, true, true, true, true, true, true, true, true, false, false] rfl rfl (any_of HT_.out (by kernel_rfl)) (fun _ _ _ h => h) (Or.inl ⟨by rfl, ?_⟩) ?_ ?_
                 rotate_left
                 · intro w'
                   first | (go_simp; with_reducible rfl) | (go_simp; unfold Instr.field; go_simp; rfl)
                 rotate_left
                 · simp only [Act.put, List.setIfInBounds_toArray, List.set_cons_zero, List.set_cons_succ, i64_w, i32_w]
                   rfl
                 refine one_ (i := 10) (N := some 48) #[true, true, true, true, true, true, true, true, true, true, true, false] rfl rfl (one_of HT_.out (by kernel_rfl)) (by decide) (fun K hK => ?_)
                 refine goes_ Try.func76 (by kernel_rfl) rfl #[.slice Ao35 t548.length co35, .slice Ao36 t551.length co36] (by rfl) rfl rfl (by (try simp only [List.map_toArray, List.map_cons, List.map_nil]); first | done | rfl | (simp only [List.length_drop, List.length_take]; rfl)) ?_
                 with_reducible refine (impl_sum.calls kj13 _ _ t548 _ _ t551 t554 _ ?side1 ?side2 ?side3 ?side4 A27.out).mono ?_
                 (case side1 => exact cq ((Kd.R_reads' HO550.out).2.2))
                 (case side2 => exact (Kd.R_reads' HO550.out).2.1)
                 (case side3 => exact cq ((Kd.R_reads' HO553.out).2.2))
                 (case side4 => exact (Kd.R_reads' HO553.out).2.1)
                 rintro e w37 ⟨v555, rfl, ho0, hb⟩
                 refine ⟨_, rfl, ?_⟩; have n0_ := ce HO_4 ho0 hb; have n1_ := ce HO547 ho0 hb; have n2_ := ce HO550 ho0 hb; have n3_ := ce HO553 ho0 hb; have HO556 := Aside0.mk (Kd.R_lower (Kd.R_new' (Kd.R_new' (Kd.R_new' (Kd.R_new' ho0 (ql HO_4)) (ql HO547)) (ql HO550)) (ql HO553)) (below_size (hq1 HB GE536))); replace BK536 := cB BK536 hb; replace HB := cs (hq1 HB GE536) hb; replace HO_4 := n0_; replace HO547 := n1_; replace HO550 := n2_; replace HO553 := n3_; clear n0_ n1_ n2_ n3_; (try clear hb); (try clear hb2); (try clear hk); (try clear hi); (try clear ho0)
                 refine hK.out _ _ trivial (fun hHeld => ?_)
                 clear hK K
                 refine norm_ (a' := ?_) ?_ ?_
                 rotate_left
                 · show Act.put _ (some 48) _ = _
                   simp only [Act.put, List.setIfInBounds_toArray, List.set_cons_zero, List.set_cons_succ, i64_w, i32_w]
                   rfl
                 refine pure_ (i := 11) (N := some 4) (v := ?_) (a' := ?_) #[true, true, true, true, true, true, true, true, true, true, true, true] rfl rfl (any_of HT_.out (by kernel_rfl)) (fun _ _ _ h => h) (Or.inl ⟨by rfl, ?_⟩) ?_ ?_
                 rotate_left
                 · intro w'
                   first | (go_simp; with_reducible rfl) | (go_simp; unfold Instr.field; go_simp; rfl)
                 rotate_left
                 · simp only [Act.put, List.setIfInBounds_toArray, List.set_cons_zero, List.set_cons_succ, i64_w, i32_w]
                   rfl
                 refine done_ (done_of HT_.out (by kernel_rfl)) ?_
                 try go_wp2
                 go_roundg kj13
                 case measure => have := HJ1.out; have := HK2.out; have := HJ13.out; omega
                 case rel => exact ⟨(t554), (wrap64 (x24_2 + 1)), (by first | rfl | (simp; done) | (simp [*]; done)), H', ⟨by have := HJ1.out; have := HK2.out; have := HJ13.out; omega⟩, ⟨by (with_reducible repeat (first | apply Kd.R_alloc | apply Kd.R_drewN | apply Kd.R_drew)); exact Kd.R_mono HO556.out (fun _ hk => trivial)⟩, ⟨by (with_reducible repeat (first | refine blk_drewN ?_ _ | refine blk_drew ?_ | refine blk_alloc ?_ _)); exact BK536.out⟩, ⟨hq1 HB GE536⟩⟩
               · rw [if_neg c24] at H
                 exact absurd H (by simp)
             · rw [if_neg c23] at H
               exact absurd H (by simp)
     · rw [if_neg c13] at H
       have c13b0 : decide (x24_2 < (a0.size : Int)) = false := decide_eq_false c13
       clear c13; replace H := Option.bind_eq_some_iff.mp H; obtain ⟨⟨t541, t544⟩, A380, H⟩ := H; (try dsimp only at H); have A38 := Aside0.mk A380; clear A380
       simp only [Option.some.injEq, Prod.mk.injEq] at H
       obtain ⟨rfl, rfl⟩ := H; obtain ⟨Ao39, co39, eo39⟩ := Kd.R_slice HO_4.out; subst eo39
       go_wp2_with (first | ((with_reducible refine gate_callee (f := 75) rfl ?_); refine gC (some 51) Try.func75 #[.slice Ao39 x4_2.length co39] ?_; (with_reducible refine (impl_told.calls k2 (fun k_ => some k_ = (.slice Ao39 x4_2.length co39 : Value).ownBlock) (.slice Ao39 x4_2.length co39) x4_2 t541 t544 w _ ?side1 ?side2 A38.out).mono ?_); (case side1 => repeat (first | (with_reducible first | exact HB.out | apply below_alloc | apply pw_below_drewN | apply below_drew1 | refine below_set ?_ GE536.out) | exact HB.out)); (case side2 => exact Kd.R_tight rfl HO_4.out); rintro e w40 ⟨v542, rfl, ho0, hb, hkp⟩; refine ⟨_, rfl, ?_⟩; replace BK536 := Aside0.mk (blk_kept (bq BK536) hkp (fun hs_ => (fun e_ => (Kd.R_ne HO_4.out BK536.out (by decide)) e_) hs_)); have HO543 := Aside0.mk (Kd.R_mono (ok' := fun k_ => True) ho0 (fun k_ hk_ => trivial)); replace HB := Aside0.mk (hb); clear HO_4; (try clear hb); (try clear hkp); (try clear ho0); obtain ⟨Ao41, co41, eo41⟩ := Kd.R_slice HO543.out; subst eo41; have hcz42_0 : w40.cell? ⟨gb536, 0, none⟩ = some (.slice none 0 0) := (blk_cell BK536.out 0).trans rfl; have hfz42_0 := blk_frozen BK536.out 0))
       refine bodyPost_ret (results_ct rfl _ _ gb536 25 #[.slice Ao41 t541.length co41] (0, 0) _ rfl (by (with_reducible repeat (first | refine blk_drewN ?_ _ | refine blk_drew ?_ | refine blk_alloc ?_ _)); refine blk_put (cs := #[.slice none 0 0]) ?_ 0 _ rfl; (with_reducible repeat (first | refine blk_drewN ?_ _ | refine blk_drew ?_ | refine blk_alloc ?_ _)); exact BK536.out) Try.underlying25 rfl (by kernel_rfl)) rfl ?_
       exact ⟨_, by first | rfl | (simp <;> rfl) | (simp [*] <;> rfl), by (with_reducible repeat (first | apply Kd.R_alloc | apply Kd.R_drewN | apply Kd.R_drew)); exact Kd.R_mono (Kd.R_far (p := ⟨gb536, 0, none⟩) (Kd.R_types HO543.out BK536.out (by decide)) (fun _ hk => hk.2) (.slice Ao41 t541.length co41)) (fun _ hk => trivial), hq1 HB GE536⟩

end Go.Proofs.Ytadooofomkdaoaa.QFnLimbs
