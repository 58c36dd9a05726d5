import Derived.Test.YtcehboknhdmmfaaBn
import Derived.Test.YtcehboknhdmmfaaQFnExactDivBigx0
import Derived.Test.YtcehboknhdmmfaaQFnExactDivBigx1
import Derived.Test.YtcehboknhdmmfaaQFnExactDivBigx3
import Derived.Test.YtcehboknhdmmfaaQFnExactDivBigx6
namespace Go.Proofs.Ytcehboknhdmmfaa.QFnExactDivBig
open Go.RowKit Go.Proofs.YtcehboknhdmmfaaW.PrintWords Go.Proofs.YtcehboknhdmmfaaW.PrintLast Go.Proofs.YtcehboknhdmmfaaW.PrintMore
attribute [local go_sem] max2_int min2_int max_two min_two max_three min_three max_four min_four   -- for this text's walks alone
set_option linter.unusedVariables false
set_option linter.unusedSimpArgs false

/-! ### laws_FnExactDivBig: function 9 -/
theorem sz24 : (Try.prog.info? 24).map (·.size) = some 1 := by kernel_rfl
theorem sz27 : (Try.prog.info? 27).map (·.size) = some 1 := by kernel_rfl
theorem al27 (w : World) : (Instr.alloc 27 true (.tuple #[])).run Try.prog w = .ok (.pointer (some ⟨w.heap.size, 0, none⟩)) (w.alloc (.cells #[.slice none 0 0] 27 (0, 0))) := by have hu27 := Try.underlying27; go_simp
theorem bx24 (v : Value) (w : World) : (Instr.box 24 (.agg #[v])).run Try.prog w = .ok (.pointer (some ⟨w.heap.size, 0, none⟩)) (w.alloc (.cells #[v] 24 (0, 0))) := by have hu24 := Try.underlying24; go_simp
/-- What the plain half shows: how each call of the law answers. -/
def laws_FnExactDivBig.ok (k : Nat) (l0_0 l1_0 : List Int) : Prop :=
  ∃ s0, laws_szBig.f l0_0 1048576 = some s0 ∧ (s0 < 0 ∨ ¬ s0 < 0 ∧ ∃ s1, laws_szBig.f l1_0 s0 = some s1 ∧ (s1 < 0 ∨ ¬ s1 < 0 ∧ ∃ (q r : List Int) (ok : Bool) (n0 : Int) (za : List Int) (n1 : Int) (zb : List Int) (m0 : Int) (zq : List Int) (m1 : Int) (zr : List Int),
    laws_toBig.f k l0_0 = some l0_0 ∧ laws_toBig.f k l1_0 = some l1_0 ∧ spec_DivBig.f k l0_0 l1_0 = some (q, r, ok) ∧ impl_DivBig.f k l0_0 l1_0 = some (q, r, ok) ∧ laws_eqBig.f k q q = some true ∧ laws_eqBig.f k r r = some true ∧
    laws_eqBig.f k l0_0 l0_0 = some true ∧ laws_eqBig.f k l1_0 l1_0 = some true ∧ laws_markBig.f k l0_0 1 = some (n0, za) ∧ laws_markBig.f k l1_0 n0 = some (n1, zb) ∧ ¬ n1 < 0 ∧ laws_markBig.f k q 1 = some (m0, zq) ∧ laws_markBig.f k r m0 = some (m1, zr) ∧
    laws_heldBig.f k zq 1 = some m0 ∧ ¬ m0 < 0 ∧ laws_heldBig.f k zr m0 = some m1 ∧ ¬ m1 < 0))
set_option maxHeartbeats 8000000 in
set_option maxRecDepth 100000 in
theorem laws_FnExactDivBig.calls (k : Nat) (A0_0 : Option Addr) (c0_0 : Nat) (l0_0 : List Int) (A1_0 : Option Addr) (c1_0 : Nat) (l1_0 : List Int) (_r : Bool) (w : World) (hr0_0 : Kd.C (Kd.int .i64) w A0_0 l0_0.length l0_0) (hc0_0 : l0_0.length ≤ c0_0) (hr1_0 : Kd.C (Kd.int .i64) w A1_0 l1_0.length l1_0) (hc1_0 : l1_0.length ≤ c1_0) (h : laws_FnExactDivBig.ok k l0_0 l1_0) :
    Calls Try.prog 9 #[.agg #[.slice A0_0 l0_0.length c0_0], .agg #[.slice A1_0 l1_0.length c1_0]] w fun e w' => e = .returned (.bool true) ∧ Below w.heap.size w w' := by
 have hu24 := Try.underlying24
 have hu27 := Try.underlying27
 have HR0_0 := Aside0.mk hr0_0
 have HC0_0 := Aside0.mk hc0_0
 have HR1_0 := Aside0.mk hr1_0
 have HC1_0 := Aside0.mk hc1_0
 clear hr0_0 hc0_0 hr1_0 hc1_0
 obtain ⟨s0, hs0, h⟩ := h
 replace hs0 := Aside0.mk hs0
 rcases h with h | ⟨hn, s1, hs1, h⟩
 · have hd0 : decide (s0 < 0) = true := decide_eq_true h
   clear h
   have HX := Aside0.mk (Bn.B.start w)
   go_enter Try.func9, Try.ntmps9
   go_wp2_with (first | ((with_reducible refine gate_dst (N := 2) rfl ?_); refine Bn.boxE HX rfl rfl rfl (bx24 (.slice A0_0 l0_0.length c0_0)) ?_; clear HX; intro g1 w2 HX; simp only [List.cons_append, List.nil_append, List.set_cons_succ, List.set_cons_zero] at HX; simp only [Act.put, List.setIfInBounds_toArray, List.set_cons_zero, List.set_cons_succ]) | ((with_reducible refine gate_dst (N := 3) rfl ?_); refine Bn.boxE HX rfl rfl rfl (bx24 (.slice A1_0 l1_0.length c1_0)) ?_; clear HX; intro g3 w4 HX; simp only [List.cons_append, List.nil_append, List.set_cons_succ, List.set_cons_zero] at HX; simp only [Act.put, List.setIfInBounds_toArray, List.set_cons_zero, List.set_cons_succ]) | ((with_reducible refine gate_dst (N := 20) rfl ?_); refine Bn.loadE (x := .tmp 2) (g := g1) (cs := #[.slice A0_0 l0_0.length c0_0]) (t := 24) HX 0 rfl rfl rfl rfl Try.underlying24 sz24 ?_; simp only [Act.put, List.setIfInBounds_toArray, List.set_cons_zero, List.set_cons_succ]) | ((with_reducible refine gate_dst (N := 22) rfl ?_); refine goesL_ (some 22) rfl rfl Try.func15 (by kernel_rfl) rfl #[.agg #[.slice A0_0 l0_0.length c0_0], .int .i64 1048576] rfl (by (try simp only [List.map_toArray, List.map_cons, List.map_nil]); first | done | rfl) ?_; (with_reducible refine (laws_szBig.calls _ _ l0_0 1048576 s0 _ (Kd.C_below HR0_0.out HX.out.below) HC0_0.out hs0.out).mono ?_); rintro e w6 ⟨rfl, hb⟩; refine ⟨_, rfl, ?_⟩; replace HX := Aside0.mk (HX.out.call hb); clear hb; simp only [Act.put, List.setIfInBounds_toArray, List.set_cons_zero, List.set_cons_succ]))
   go_ret
   exact ⟨rfl, HX.out.below⟩
 have hd0 : decide (s0 < 0) = false := decide_eq_false hn
 clear hn
 replace hs1 := Aside0.mk hs1
 rcases h with h | ⟨hn, q, r, ok, n0, za, n1, zb, m0, zq, m1, zr, ht0, ht1, hS, hI, hq, hr, ha, hb_, hm0, hm1, hn1, hm2, hm3, hh0, hp0, hh1, hp1⟩
 · have hd1 : decide (s1 < 0) = true := decide_eq_true h
   clear h
   have HX := Aside0.mk (Bn.B.start w)
   go_enter Try.func9, Try.ntmps9
   go_wp2_with (first | ((with_reducible refine gate_dst (N := 2) rfl ?_); refine Bn.boxE HX rfl rfl rfl (bx24 (.slice A0_0 l0_0.length c0_0)) ?_; clear HX; intro g1 w2 HX; simp only [List.cons_append, List.nil_append, List.set_cons_succ, List.set_cons_zero] at HX; simp only [Act.put, List.setIfInBounds_toArray, List.set_cons_zero, List.set_cons_succ]) | ((with_reducible refine gate_dst (N := 3) rfl ?_); refine Bn.boxE HX rfl rfl rfl (bx24 (.slice A1_0 l1_0.length c1_0)) ?_; clear HX; intro g3 w4 HX; simp only [List.cons_append, List.nil_append, List.set_cons_succ, List.set_cons_zero] at HX; simp only [Act.put, List.setIfInBounds_toArray, List.set_cons_zero, List.set_cons_succ]) | ((with_reducible refine gate_dst (N := 20) rfl ?_); refine Bn.loadE (x := .tmp 2) (g := g1) (cs := #[.slice A0_0 l0_0.length c0_0]) (t := 24) HX 0 rfl rfl rfl rfl Try.underlying24 sz24 ?_; simp only [Act.put, List.setIfInBounds_toArray, List.set_cons_zero, List.set_cons_succ]) | ((with_reducible refine gate_dst (N := 22) rfl ?_); refine goesL_ (some 22) rfl rfl Try.func15 (by kernel_rfl) rfl #[.agg #[.slice A0_0 l0_0.length c0_0], .int .i64 1048576] rfl (by (try simp only [List.map_toArray, List.map_cons, List.map_nil]); first | done | rfl) ?_; (with_reducible refine (laws_szBig.calls _ _ l0_0 1048576 s0 _ (Kd.C_below HR0_0.out HX.out.below) HC0_0.out hs0.out).mono ?_); rintro e w6 ⟨rfl, hb⟩; refine ⟨_, rfl, ?_⟩; replace HX := Aside0.mk (HX.out.call hb); clear hb; simp only [Act.put, List.setIfInBounds_toArray, List.set_cons_zero, List.set_cons_succ]) | ((with_reducible refine gate_dst (N := 25) rfl ?_); refine Bn.loadE (x := .tmp 3) (g := g3) (cs := #[.slice A1_0 l1_0.length c1_0]) (t := 24) HX 1 rfl rfl rfl rfl Try.underlying24 sz24 ?_; simp only [Act.put, List.setIfInBounds_toArray, List.set_cons_zero, List.set_cons_succ]) | ((with_reducible refine gate_dst (N := 27) rfl ?_); refine goesL_ (some 27) rfl rfl Try.func15 (by kernel_rfl) rfl #[.agg #[.slice A1_0 l1_0.length c1_0], .int .i64 s0] rfl (by (try simp only [List.map_toArray, List.map_cons, List.map_nil]); first | done | rfl) ?_; (with_reducible refine (laws_szBig.calls _ _ l1_0 s0 s1 _ (Kd.C_below HR1_0.out HX.out.below) HC1_0.out hs1.out).mono ?_); rintro e w8 ⟨rfl, hb⟩; refine ⟨_, rfl, ?_⟩; replace HX := Aside0.mk (HX.out.call hb); clear hb; simp only [Act.put, List.setIfInBounds_toArray, List.set_cons_zero, List.set_cons_succ]))
   go_ret
   exact ⟨rfl, HX.out.below⟩
 have hd1 : decide (s1 < 0) = false := decide_eq_false hn
 have hd2 : decide (n1 < 0) = false := decide_eq_false hn1
 have hd3 : decide (m0 < 0) = false := decide_eq_false hp0
 have hd4 : decide (m1 < 0) = false := decide_eq_false hp1
 clear hn hn1 hp0 hp1
 replace ht0 := Aside0.mk ht0
 replace ht1 := Aside0.mk ht1
 replace hS := Aside0.mk hS
 replace hI := Aside0.mk hI
 replace hq := Aside0.mk hq
 replace hr := Aside0.mk hr
 replace ha := Aside0.mk ha
 replace hb_ := Aside0.mk hb_
 replace hm0 := Aside0.mk hm0
 replace hm1 := Aside0.mk hm1
 replace hm2 := Aside0.mk hm2
 replace hm3 := Aside0.mk hm3
 replace hh0 := Aside0.mk hh0
 replace hh1 := Aside0.mk hh1
 have HX := Aside0.mk (Bn.B.start w)
 go_enter Try.func9, Try.ntmps9
 go_upto_region 8 with (first | ((with_reducible refine gate_dst (N := 2) rfl ?_); refine Bn.boxE HX rfl rfl rfl (bx24 (.slice A0_0 l0_0.length c0_0)) ?_; clear HX; intro g1 w2 HX; simp only [List.cons_append, List.nil_append, List.set_cons_succ, List.set_cons_zero] at HX; simp only [Act.put, List.setIfInBounds_toArray, List.set_cons_zero, List.set_cons_succ]) | ((with_reducible refine gate_dst (N := 3) rfl ?_); refine Bn.boxE HX rfl rfl rfl (bx24 (.slice A1_0 l1_0.length c1_0)) ?_; clear HX; intro g3 w4 HX; simp only [List.cons_append, List.nil_append, List.set_cons_succ, List.set_cons_zero] at HX; simp only [Act.put, List.setIfInBounds_toArray, List.set_cons_zero, List.set_cons_succ]) | ((with_reducible refine gate_dst (N := 20) rfl ?_); refine Bn.loadE (x := .tmp 2) (g := g1) (cs := #[.slice A0_0 l0_0.length c0_0]) (t := 24) HX 0 rfl rfl rfl rfl Try.underlying24 sz24 ?_; simp only [Act.put, List.setIfInBounds_toArray, List.set_cons_zero, List.set_cons_succ]) | ((with_reducible refine gate_dst (N := 22) rfl ?_); refine goesL_ (some 22) rfl rfl Try.func15 (by kernel_rfl) rfl #[.agg #[.slice A0_0 l0_0.length c0_0], .int .i64 1048576] rfl (by (try simp only [List.map_toArray, List.map_cons, List.map_nil]); first | done | rfl) ?_; (with_reducible refine (laws_szBig.calls _ _ l0_0 1048576 s0 _ (Kd.C_below HR0_0.out HX.out.below) HC0_0.out hs0.out).mono ?_); rintro e w6 ⟨rfl, hb⟩; refine ⟨_, rfl, ?_⟩; replace HX := Aside0.mk (HX.out.call hb); clear hb; simp only [Act.put, List.setIfInBounds_toArray, List.set_cons_zero, List.set_cons_succ]) | ((with_reducible refine gate_dst (N := 25) rfl ?_); refine Bn.loadE (x := .tmp 3) (g := g3) (cs := #[.slice A1_0 l1_0.length c1_0]) (t := 24) HX 1 rfl rfl rfl rfl Try.underlying24 sz24 ?_; simp only [Act.put, List.setIfInBounds_toArray, List.set_cons_zero, List.set_cons_succ]) | ((with_reducible refine gate_dst (N := 27) rfl ?_); refine goesL_ (some 27) rfl rfl Try.func15 (by kernel_rfl) rfl #[.agg #[.slice A1_0 l1_0.length c1_0], .int .i64 s0] rfl (by (try simp only [List.map_toArray, List.map_cons, List.map_nil]); first | done | rfl) ?_; (with_reducible refine (laws_szBig.calls _ _ l1_0 s0 s1 _ (Kd.C_below HR1_0.out HX.out.below) HC1_0.out hs1.out).mono ?_); rintro e w8 ⟨rfl, hb⟩; refine ⟨_, rfl, ?_⟩; replace HX := Aside0.mk (HX.out.call hb); clear hb; simp only [Act.put, List.setIfInBounds_toArray, List.set_cons_zero, List.set_cons_succ]))
 (try simp only [Act.put, List.setIfInBounds_toArray, List.set_cons_zero, List.set_cons_succ])
 refine Bn.inv_ 14 [[], [0], [], [2, 1], [1, 3, 3], [4], [5], [5], [5], [], [], [9, 6, 4, 0, 1, 2, 3, 4, 5, 6, 9, 10], [10, 7, 11, 0, 1, 2, 3, 4, 5, 6, 7, 9, 10, 11], [8, 12, 0, 1, 2, 3, 4, 5, 6, 7, 8, 9, 10, 11, 12]] (fun ov l a w' => ∃ (b0 b1 b2 b3 b4 b5 b6 b7 b8 b9 b10 b11 b12 b13 : Bool) (A10 : Option Addr) (c10 : Nat) (A12 : Option Addr) (c12 : Nat) (A14 : Option Addr) (c14 : Nat) (A15 : Option Addr) (c15 : Nat) (g16 : Nat) (g17 : Nat), l = [b0, b1, b2, b3, b4, b5, b6, b7, b8, b9, b10, b11, b12, b13] ∧ a = ov [(31, cond b0 (.agg #[.slice A0_0 l0_0.length c0_0]) (undef)), (32, cond b1 (.agg #[.slice A10 l0_0.length c10]) (undef)), (33, cond b2 (.agg #[.slice A1_0 l1_0.length c1_0]) (undef)), (34, cond b3 (.agg #[.slice A12 l1_0.length c12]) (undef)), (35, cond b4 (.tuple #[.agg #[.slice A14 q.length c14], .agg #[.slice A15 r.length c15], .bool ok]) (undef)), (30, cond b5 (.tuple #[.agg #[.slice A14 q.length c14], .agg #[.slice A15 r.length c15], .bool ok]) (undef)), (36, cond b6 (.agg #[.slice A14 q.length c14]) (undef)), (37, cond b7 (.agg #[.slice A15 r.length c15]) (undef)), (38, cond b8 (.bool ok) (undef)), (6, cond b9 (.pointer (some ⟨g16, 0, none⟩)) (undef)), (7, cond b10 (.pointer (some ⟨g17, 0, none⟩)) (undef)), (8, cond b13 (.bool ok) (undef))] ∧ Aside0 (Bn.B w w' ([(g1, #[.slice A0_0 l0_0.length c0_0], 24), (g3, #[.slice A1_0 l1_0.length c1_0], 24)] ++ (cond b9 [(g16, #[cond b11 (.slice A14 q.length c14) (.slice none 0 0)], 27)] [] ++ (cond b10 [(g17, #[cond b12 (.slice A15 r.length c15) (.slice none 0 0)], 27)] []))) ([] ++ (cond b1 [⟨(Kd.int .i64), 3, .slice A10 l0_0.length c10, l0_0⟩] [] ++ (cond b3 [⟨(Kd.int .i64), 3, .slice A12 l1_0.length c12, l1_0⟩] [] ++ (cond b4 [⟨(Kd.int .i64), 3, .slice A14 q.length c14, q⟩, ⟨(Kd.int .i64), 3, .slice A15 r.length c15, r⟩] [])))))) (by kernel_rfl) rfl (by kernel_rfl) (by decide) ⟨false, false, false, false, false, false, false, false, false, false, false, false, false, false, none, 0, none, 0, none, 0, none, 0, 0, 0, rfl, (by simp only [Act.put, Bn.over, List.setIfInBounds_toArray, List.set_cons_zero, List.set_cons_succ, cond_true, cond_false]), ⟨HX.out.drew⟩⟩ (Bn.steps_cons ?_ (Bn.steps_cons ?_ (Bn.steps_cons ?_ (Bn.steps_cons ?_ (Bn.steps_cons ?_ (Bn.steps_cons ?_ (Bn.steps_cons ?_ (Bn.steps_cons ?_ (Bn.steps_cons ?_ (Bn.steps_cons ?_ (Bn.steps_cons ?_ (Bn.steps_cons ?_ (Bn.steps_cons ?_ (Bn.steps_cons ?_ Bn.steps_nil)))))))))))))) ?_
 clear HX
 · rintro l a w' ⟨b0, b1, b2, b3, b4, b5, b6, b7, b8, b9, b10, b11, b12, b13, A10, c10, A12, c12, A14, c14, A15, c15, g16, g17, rfl, rfl, HX⟩ hcl hr K hK
   have e_ : b0 = false := Bn.rdy_self hr; subst e_
   have e_ : b1 = false := Bn.cl_off hcl 1 0 rfl rfl; subst e_
   have e_ : b3 = false := Bn.cl_off hcl 3 1 rfl rfl; subst e_
   have e_ : b4 = false := Bn.cl_off hcl 4 1 rfl rfl; subst e_
   have e_ : b5 = false := Bn.cl_off hcl 5 4 rfl rfl; subst e_
   have e_ : b6 = false := Bn.cl_off hcl 6 5 rfl rfl; subst e_
   have e_ : b7 = false := Bn.cl_off hcl 7 5 rfl rfl; subst e_
   have e_ : b8 = false := Bn.cl_off hcl 8 5 rfl rfl; subst e_
   have e_ : b11 = false := Bn.cl_off hcl 11 6 rfl rfl; subst e_
   have e_ : b12 = false := Bn.cl_off hcl 12 7 rfl rfl; subst e_
   have e_ : b13 = false := Bn.cl_off hcl 13 8 rfl rfl; subst e_
   clear hr hcl
   simp only [Bn.over, List.set_cons_zero, List.set_cons_succ, cond_true, cond_false]
   refine Bn.stp_load HX 0 ?_ rfl rfl ?_ Try.underlying24 sz24 ?_
   · rfl
   · rfl
   exact hK.out _ _ ⟨true, false, b2, false, false, false, false, false, false, b9, b10, false, false, false, A10, c10, A12, c12, A14, c14, A15, c15, g16, g17, rfl, (by simp only [Act.put, Bn.over, List.setIfInBounds_toArray, List.set_cons_zero, List.set_cons_succ, cond_true, cond_false]), HX⟩
 · rintro l a w' ⟨b0, b1, b2, b3, b4, b5, b6, b7, b8, b9, b10, b11, b12, b13, A10, c10, A12, c12, A14, c14, A15, c15, g16, g17, rfl, rfl, HX⟩ hcl hr K hK
   have e_ : b1 = false := Bn.rdy_self hr; subst e_
   have e_ : b0 = true := Bn.rdy_need hr 0 rfl; subst e_
   have e_ : b3 = false := Bn.cl_off hcl 3 1 rfl rfl; subst e_
   have e_ : b4 = false := Bn.cl_off hcl 4 1 rfl rfl; subst e_
   have e_ : b5 = false := Bn.cl_off hcl 5 4 rfl rfl; subst e_
   have e_ : b6 = false := Bn.cl_off hcl 6 5 rfl rfl; subst e_
   have e_ : b7 = false := Bn.cl_off hcl 7 5 rfl rfl; subst e_
   have e_ : b8 = false := Bn.cl_off hcl 8 5 rfl rfl; subst e_
   have e_ : b11 = false := Bn.cl_off hcl 11 6 rfl rfl; subst e_
   have e_ : b12 = false := Bn.cl_off hcl 12 7 rfl rfl; subst e_
   have e_ : b13 = false := Bn.cl_off hcl 13 8 rfl rfl; subst e_
   clear hr hcl
   simp only [Bn.over, List.set_cons_zero, List.set_cons_succ, cond_true, cond_false]
   refine Bn.stp_goes Try.func17 (by kernel_rfl) rfl #[.agg #[.slice A0_0 l0_0.length c0_0]] ?_ rfl ?_ ?_
   · rfl
   · (try simp only [List.map_toArray, List.map_cons, List.map_nil]); first | done | rfl
   (with_reducible refine (laws_toBig.calls k _ _ l0_0 l0_0 _ (Kd.C_below HR0_0.out HX.out.below) HC0_0.out ht0.out).mono ?_)
   rintro e w2' ⟨v9_0, rfl, ho0, hb⟩
   refine ⟨_, rfl, ?_⟩
   obtain ⟨A10, c10, rfl⟩ := Kd.R_slice ho0
   exact hK.out _ _ ⟨true, true, b2, false, false, false, false, false, false, b9, b10, false, false, false, A10, c10, A12, c12, A14, c14, A15, c15, g16, g17, rfl, (by simp only [Act.put, Bn.over, List.setIfInBounds_toArray, List.set_cons_zero, List.set_cons_succ, cond_true, cond_false]), ⟨HX.out.rowE ho0 hb⟩⟩
 · rintro l a w' ⟨b0, b1, b2, b3, b4, b5, b6, b7, b8, b9, b10, b11, b12, b13, A10, c10, A12, c12, A14, c14, A15, c15, g16, g17, rfl, rfl, HX⟩ hcl hr K hK
   have e_ : b2 = false := Bn.rdy_self hr; subst e_
   have e_ : b3 = false := Bn.cl_off hcl 3 2 rfl rfl; subst e_
   have e_ : b4 = false := Bn.cl_off hcl 4 3 rfl rfl; subst e_
   have e_ : b5 = false := Bn.cl_off hcl 5 4 rfl rfl; subst e_
   have e_ : b6 = false := Bn.cl_off hcl 6 5 rfl rfl; subst e_
   have e_ : b7 = false := Bn.cl_off hcl 7 5 rfl rfl; subst e_
   have e_ : b8 = false := Bn.cl_off hcl 8 5 rfl rfl; subst e_
   have e_ : b11 = false := Bn.cl_off hcl 11 6 rfl rfl; subst e_
   have e_ : b12 = false := Bn.cl_off hcl 12 7 rfl rfl; subst e_
   have e_ : b13 = false := Bn.cl_off hcl 13 8 rfl rfl; subst e_
   clear hr hcl
   simp only [Bn.over, List.set_cons_zero, List.set_cons_succ, cond_true, cond_false]
   refine Bn.stp_load HX 1 ?_ rfl rfl ?_ Try.underlying24 sz24 ?_
   · rfl
   · rfl
   exact hK.out _ _ ⟨b0, b1, true, false, false, false, false, false, false, b9, b10, false, false, false, A10, c10, A12, c12, A14, c14, A15, c15, g16, g17, rfl, (by simp only [Act.put, Bn.over, List.setIfInBounds_toArray, List.set_cons_zero, List.set_cons_succ, cond_true, cond_false]), HX⟩
 · rintro l a w' ⟨b0, b1, b2, b3, b4, b5, b6, b7, b8, b9, b10, b11, b12, b13, A10, c10, A12, c12, A14, c14, A15, c15, g16, g17, rfl, rfl, HX⟩ hcl hr K hK
   have e_ : b3 = false := Bn.rdy_self hr; subst e_
   have e_ : b2 = true := Bn.rdy_need hr 2 rfl; subst e_
   have e_ : b1 = true := Bn.rdy_need hr 1 rfl; subst e_
   have e_ : b4 = false := Bn.cl_off hcl 4 3 rfl rfl; subst e_
   have e_ : b5 = false := Bn.cl_off hcl 5 4 rfl rfl; subst e_
   have e_ : b6 = false := Bn.cl_off hcl 6 5 rfl rfl; subst e_
   have e_ : b7 = false := Bn.cl_off hcl 7 5 rfl rfl; subst e_
   have e_ : b8 = false := Bn.cl_off hcl 8 5 rfl rfl; subst e_
   have e_ : b11 = false := Bn.cl_off hcl 11 6 rfl rfl; subst e_
   have e_ : b12 = false := Bn.cl_off hcl 12 7 rfl rfl; subst e_
   have e_ : b13 = false := Bn.cl_off hcl 13 8 rfl rfl; subst e_
   clear hr hcl
   simp only [Bn.over, List.set_cons_zero, List.set_cons_succ, cond_true, cond_false]
   refine Bn.stp_goes Try.func17 (by kernel_rfl) rfl #[.agg #[.slice A1_0 l1_0.length c1_0]] ?_ rfl ?_ ?_
   · rfl
   · (try simp only [List.map_toArray, List.map_cons, List.map_nil]); first | done | rfl
   (with_reducible refine (laws_toBig.calls k _ _ l1_0 l1_0 _ (Kd.C_below HR1_0.out HX.out.below) HC1_0.out ht1.out).mono ?_)
   rintro e w2' ⟨v11_0, rfl, ho0, hb⟩
   refine ⟨_, rfl, ?_⟩
   obtain ⟨A12, c12, rfl⟩ := Kd.R_slice ho0
   exact hK.out _ _ ⟨b0, true, true, true, false, false, false, false, false, b9, b10, false, false, false, A10, c10, A12, c12, A14, c14, A15, c15, g16, g17, rfl, (by simp only [Act.put, Bn.over, List.setIfInBounds_toArray, List.set_cons_zero, List.set_cons_succ, cond_true, cond_false]), ⟨HX.out.rowE ho0 hb⟩⟩
 · rintro l a w' ⟨b0, b1, b2, b3, b4, b5, b6, b7, b8, b9, b10, b11, b12, b13, A10, c10, A12, c12, A14, c14, A15, c15, g16, g17, rfl, rfl, HX⟩ hcl hr K hK
   have e_ : b4 = false := Bn.rdy_self hr; subst e_
   have e_ : b1 = true := Bn.rdy_need hr 1 rfl; subst e_
   have e_ : b3 = true := Bn.rdy_need hr 3 rfl; subst e_
   have e_ : b5 = false := Bn.cl_off hcl 5 4 rfl rfl; subst e_
   have e_ : b6 = false := Bn.cl_off hcl 6 5 rfl rfl; subst e_
   have e_ : b7 = false := Bn.cl_off hcl 7 5 rfl rfl; subst e_
   have e_ : b8 = false := Bn.cl_off hcl 8 5 rfl rfl; subst e_
   have e_ : b11 = false := Bn.cl_off hcl 11 6 rfl rfl; subst e_
   have e_ : b12 = false := Bn.cl_off hcl 12 7 rfl rfl; subst e_
   have e_ : b13 = false := Bn.cl_off hcl 13 8 rfl rfl; subst e_
   clear hr hcl
   simp only [Bn.over, List.set_cons_zero, List.set_cons_succ, cond_true, cond_false]
   refine Bn.stp_goes Try.func32 (by kernel_rfl) rfl #[.agg #[.slice A10 l0_0.length c10], .agg #[.slice A12 l1_0.length c12]] ?_ rfl ?_ ?_
   · rfl
   · (try simp only [List.map_toArray, List.map_cons, List.map_nil]); first | done | rfl
   (with_reducible refine (spec_DivBig.calls k _ _ l0_0 _ _ l1_0 q r ok _ (HX.out.C 0 rfl) (HX.out.cap 0 rfl) (HX.out.C 1 rfl) (HX.out.cap 1 rfl) hS.out).mono ?_)
   rintro e w2' ⟨v13_0, v13_1, rfl, ho0, ho1, hb⟩
   refine ⟨_, rfl, ?_⟩
   obtain ⟨A14, c14, rfl⟩ := Kd.R_slice ho0
   obtain ⟨A15, c15, rfl⟩ := Kd.R_slice ho1
   exact hK.out _ _ ⟨b0, true, b2, true, true, false, false, false, false, b9, b10, false, false, false, A10, c10, A12, c12, A14, c14, A15, c15, g16, g17, rfl, (by simp only [Act.put, Bn.over, List.setIfInBounds_toArray, List.set_cons_zero, List.set_cons_succ, cond_true, cond_false]), ⟨HX.out.rowsE ho0 ho1 hb (fun k h1 h2 => by first | exact ho0.1 k h1 h2.symm | exact (ho0.1 k h1).2 h2.symm)⟩⟩
 · rintro l a w' ⟨b0, b1, b2, b3, b4, b5, b6, b7, b8, b9, b10, b11, b12, b13, A10, c10, A12, c12, A14, c14, A15, c15, g16, g17, rfl, rfl, HX⟩ hcl hr K hK
   have e_ : b5 = false := Bn.rdy_self hr; subst e_
   have e_ : b4 = true := Bn.rdy_need hr 4 rfl; subst e_
   have e_ : b6 = false := Bn.cl_off hcl 6 5 rfl rfl; subst e_
   have e_ : b7 = false := Bn.cl_off hcl 7 5 rfl rfl; subst e_
   have e_ : b8 = false := Bn.cl_off hcl 8 5 rfl rfl; subst e_
   have e_ : b11 = false := Bn.cl_off hcl 11 6 rfl rfl; subst e_
   have e_ : b12 = false := Bn.cl_off hcl 12 7 rfl rfl; subst e_
   have e_ : b13 = false := Bn.cl_off hcl 13 8 rfl rfl; subst e_
   clear hr hcl
   simp only [Bn.over, List.set_cons_zero, List.set_cons_succ, cond_true, cond_false]
   refine Bn.stp_value (v := .tuple #[.agg #[.slice A14 q.length c14], .agg #[.slice A15 r.length c15], .bool ok]) (w1 := w') ?_ ?_ ?_
   · rfl
   · first | rfl | (go_simp; done) | (go_simp; rfl)
   exact hK.out _ _ ⟨b0, b1, b2, b3, true, true, false, false, false, b9, b10, false, false, false, A10, c10, A12, c12, A14, c14, A15, c15, g16, g17, rfl, (by simp only [Act.put, Bn.over, List.setIfInBounds_toArray, List.set_cons_zero, List.set_cons_succ, cond_true, cond_false]), HX⟩
 · rintro l a w' ⟨b0, b1, b2, b3, b4, b5, b6, b7, b8, b9, b10, b11, b12, b13, A10, c10, A12, c12, A14, c14, A15, c15, g16, g17, rfl, rfl, HX⟩ hcl hr K hK
   have e_ : b6 = false := Bn.rdy_self hr; subst e_
   have e_ : b5 = true := Bn.rdy_need hr 5 rfl; subst e_
   have e_ : b11 = false := Bn.cl_off hcl 11 6 rfl rfl; subst e_
   have e_ : b12 = false := Bn.cl_off hcl 12 11 rfl rfl; subst e_
   have e_ : b13 = false := Bn.cl_off hcl 13 12 rfl rfl; subst e_
   clear hr hcl
   simp only [Bn.over, List.set_cons_zero, List.set_cons_succ, cond_true, cond_false]
   refine Bn.stp_value (v := .agg #[.slice A14 q.length c14]) (w1 := w') ?_ ?_ ?_
   · rfl
   · first | rfl | (go_simp; done) | (go_simp; rfl)
   exact hK.out _ _ ⟨b0, b1, b2, b3, b4, true, true, b7, b8, b9, b10, false, false, false, A10, c10, A12, c12, A14, c14, A15, c15, g16, g17, rfl, (by simp only [Act.put, Bn.over, List.setIfInBounds_toArray, List.set_cons_zero, List.set_cons_succ, cond_true, cond_false]), HX⟩
 · rintro l a w' ⟨b0, b1, b2, b3, b4, b5, b6, b7, b8, b9, b10, b11, b12, b13, A10, c10, A12, c12, A14, c14, A15, c15, g16, g17, rfl, rfl, HX⟩ hcl hr K hK
   have e_ : b7 = false := Bn.rdy_self hr; subst e_
   have e_ : b5 = true := Bn.rdy_need hr 5 rfl; subst e_
   have e_ : b12 = false := Bn.cl_off hcl 12 7 rfl rfl; subst e_
   have e_ : b13 = false := Bn.cl_off hcl 13 12 rfl rfl; subst e_
   clear hr hcl
   simp only [Bn.over, List.set_cons_zero, List.set_cons_succ, cond_true, cond_false]
   refine Bn.stp_value (v := .agg #[.slice A15 r.length c15]) (w1 := w') ?_ ?_ ?_
   · rfl
   · first | rfl | (go_simp; done) | (go_simp; rfl)
   exact hK.out _ _ ⟨b0, b1, b2, b3, b4, true, b6, true, b8, b9, b10, b11, false, false, A10, c10, A12, c12, A14, c14, A15, c15, g16, g17, rfl, (by simp only [Act.put, Bn.over, List.setIfInBounds_toArray, List.set_cons_zero, List.set_cons_succ, cond_true, cond_false]), HX⟩
 · rintro l a w' ⟨b0, b1, b2, b3, b4, b5, b6, b7, b8, b9, b10, b11, b12, b13, A10, c10, A12, c12, A14, c14, A15, c15, g16, g17, rfl, rfl, HX⟩ hcl hr K hK
   have e_ : b8 = false := Bn.rdy_self hr; subst e_
   have e_ : b5 = true := Bn.rdy_need hr 5 rfl; subst e_
   have e_ : b13 = false := Bn.cl_off hcl 13 8 rfl rfl; subst e_
   clear hr hcl
   simp only [Bn.over, List.set_cons_zero, List.set_cons_succ, cond_true, cond_false]
   refine Bn.stp_value (v := .bool ok) (w1 := w') ?_ ?_ ?_
   · rfl
   · first | rfl | (go_simp; done) | (go_simp; rfl)
   exact hK.out _ _ ⟨b0, b1, b2, b3, b4, true, b6, b7, true, b9, b10, b11, b12, false, A10, c10, A12, c12, A14, c14, A15, c15, g16, g17, rfl, (by simp only [Act.put, Bn.over, List.setIfInBounds_toArray, List.set_cons_zero, List.set_cons_succ, cond_true, cond_false]), HX⟩
 · rintro l a w' ⟨b0, b1, b2, b3, b4, b5, b6, b7, b8, b9, b10, b11, b12, b13, A10, c10, A12, c12, A14, c14, A15, c15, g16, g17, rfl, rfl, HX⟩ hcl hr K hK
   have e_ : b9 = false := Bn.rdy_self hr; subst e_
   have e_ : b11 = false := Bn.cl_off hcl 11 9 rfl rfl; subst e_
   have e_ : b12 = false := Bn.cl_off hcl 12 11 rfl rfl; subst e_
   have e_ : b13 = false := Bn.cl_off hcl 13 12 rfl rfl; subst e_
   clear hr hcl
   simp only [Bn.over, List.set_cons_zero, List.set_cons_succ, cond_true, cond_false]
   refine Bn.stp_alloc HX ?_ rfl al27 ?_
   · rfl
   intro g16 w2' h9
   exact hK.out _ _ ⟨b0, b1, b2, b3, b4, b5, b6, b7, b8, true, b10, false, false, false, A10, c10, A12, c12, A14, c14, A15, c15, g16, g17, rfl, (by simp only [Act.put, Bn.over, List.setIfInBounds_toArray, List.set_cons_zero, List.set_cons_succ, cond_true, cond_false]), (by cases b10; exact ⟨h9⟩; exact ⟨h9.swapE⟩)⟩
 · rintro l a w' ⟨b0, b1, b2, b3, b4, b5, b6, b7, b8, b9, b10, b11, b12, b13, A10, c10, A12, c12, A14, c14, A15, c15, g16, g17, rfl, rfl, HX⟩ hcl hr K hK
   have e_ : b10 = false := Bn.rdy_self hr; subst e_
   have e_ : b11 = false := Bn.cl_off hcl 11 10 rfl rfl; subst e_
   have e_ : b12 = false := Bn.cl_off hcl 12 10 rfl rfl; subst e_
   have e_ : b13 = false := Bn.cl_off hcl 13 12 rfl rfl; subst e_
   clear hr hcl
   simp only [Bn.over, List.set_cons_zero, List.set_cons_succ, cond_true, cond_false]
   refine Bn.stp_alloc HX ?_ rfl al27 ?_
   · rfl
   intro g17 w2' h9
   exact hK.out _ _ ⟨b0, b1, b2, b3, b4, b5, b6, b7, b8, b9, true, false, false, false, A10, c10, A12, c12, A14, c14, A15, c15, g16, g17, rfl, (by simp only [Act.put, Bn.over, List.setIfInBounds_toArray, List.set_cons_zero, List.set_cons_succ, cond_true, cond_false]), (by cases b9 <;> exact ⟨h9⟩)⟩
 · rintro l a w' ⟨b0, b1, b2, b3, b4, b5, b6, b7, b8, b9, b10, b11, b12, b13, A10, c10, A12, c12, A14, c14, A15, c15, g16, g17, rfl, rfl, HX⟩ hcl hr K hK
   have e_ : b11 = false := Bn.rdy_self hr; subst e_
   have e_ : b9 = true := Bn.rdy_need hr 9 rfl; subst e_
   have e_ : b6 = true := Bn.rdy_need hr 6 rfl; subst e_
   have e_ : b4 = true := Bn.rdy_need hr 4 rfl; subst e_
   have e_ : b0 = true := Bn.rdy_need hr 0 rfl; subst e_
   have e_ : b1 = true := Bn.rdy_need hr 1 rfl; subst e_
   have e_ : b2 = true := Bn.rdy_need hr 2 rfl; subst e_
   have e_ : b3 = true := Bn.rdy_need hr 3 rfl; subst e_
   have e_ : b5 = true := Bn.rdy_need hr 5 rfl; subst e_
   have e_ : b10 = true := Bn.rdy_need hr 10 rfl; subst e_
   have e_ : b12 = false := Bn.cl_off hcl 12 11 rfl rfl; subst e_
   have e_ : b13 = false := Bn.cl_off hcl 13 12 rfl rfl; subst e_
   clear hr hcl
   simp only [Bn.over, List.set_cons_zero, List.set_cons_succ, cond_true, cond_false]
   refine Bn.stp_store (cells := #[.slice A14 q.length c14]) HX 2 ?_ rfl rfl rfl ?_ ?_ sz27 rfl rfl ?_
   · rfl
   · rfl
   · rfl
   intro w2' h9
   exact hK.out _ _ ⟨true, true, true, true, true, true, true, b7, b8, true, true, true, false, false, A10, c10, A12, c12, A14, c14, A15, c15, g16, g17, rfl, (by simp only [Act.put, Bn.over, List.setIfInBounds_toArray, List.set_cons_zero, List.set_cons_succ, cond_true, cond_false]), ⟨h9⟩⟩
 · rintro l a w' ⟨b0, b1, b2, b3, b4, b5, b6, b7, b8, b9, b10, b11, b12, b13, A10, c10, A12, c12, A14, c14, A15, c15, g16, g17, rfl, rfl, HX⟩ hcl hr K hK
   have e_ : b12 = false := Bn.rdy_self hr; subst e_
   have e_ : b10 = true := Bn.rdy_need hr 10 rfl; subst e_
   have e_ : b7 = true := Bn.rdy_need hr 7 rfl; subst e_
   have e_ : b11 = true := Bn.rdy_need hr 11 rfl; subst e_
   have e_ : b0 = true := Bn.rdy_need hr 0 rfl; subst e_
   have e_ : b1 = true := Bn.rdy_need hr 1 rfl; subst e_
   have e_ : b2 = true := Bn.rdy_need hr 2 rfl; subst e_
   have e_ : b3 = true := Bn.rdy_need hr 3 rfl; subst e_
   have e_ : b4 = true := Bn.rdy_need hr 4 rfl; subst e_
   have e_ : b5 = true := Bn.rdy_need hr 5 rfl; subst e_
   have e_ : b6 = true := Bn.rdy_need hr 6 rfl; subst e_
   have e_ : b9 = true := Bn.rdy_need hr 9 rfl; subst e_
   have e_ : b13 = false := Bn.cl_off hcl 13 12 rfl rfl; subst e_
   clear hr hcl
   simp only [Bn.over, List.set_cons_zero, List.set_cons_succ, cond_true, cond_false]
   refine Bn.stp_store (cells := #[.slice A15 r.length c15]) HX 3 ?_ rfl rfl rfl ?_ ?_ sz27 rfl rfl ?_
   · rfl
   · rfl
   · rfl
   intro w2' h9
   exact hK.out _ _ ⟨true, true, true, true, true, true, true, true, b8, true, true, true, true, false, A10, c10, A12, c12, A14, c14, A15, c15, g16, g17, rfl, (by simp only [Act.put, Bn.over, List.setIfInBounds_toArray, List.set_cons_zero, List.set_cons_succ, cond_true, cond_false]), ⟨h9⟩⟩
 · rintro l a w' ⟨b0, b1, b2, b3, b4, b5, b6, b7, b8, b9, b10, b11, b12, b13, A10, c10, A12, c12, A14, c14, A15, c15, g16, g17, rfl, rfl, HX⟩ hcl hr K hK
   have e_ : b13 = false := Bn.rdy_self hr; subst e_
   have e_ : b8 = true := Bn.rdy_need hr 8 rfl; subst e_
   have e_ : b12 = true := Bn.rdy_need hr 12 rfl; subst e_
   have e_ : b0 = true := Bn.rdy_need hr 0 rfl; subst e_
   have e_ : b1 = true := Bn.rdy_need hr 1 rfl; subst e_
   have e_ : b2 = true := Bn.rdy_need hr 2 rfl; subst e_
   have e_ : b3 = true := Bn.rdy_need hr 3 rfl; subst e_
   have e_ : b4 = true := Bn.rdy_need hr 4 rfl; subst e_
   have e_ : b5 = true := Bn.rdy_need hr 5 rfl; subst e_
   have e_ : b6 = true := Bn.rdy_need hr 6 rfl; subst e_
   have e_ : b7 = true := Bn.rdy_need hr 7 rfl; subst e_
   have e_ : b9 = true := Bn.rdy_need hr 9 rfl; subst e_
   have e_ : b10 = true := Bn.rdy_need hr 10 rfl; subst e_
   have e_ : b11 = true := Bn.rdy_need hr 11 rfl; subst e_
   clear hr hcl
   simp only [Bn.over, List.set_cons_zero, List.set_cons_succ, cond_true, cond_false]
   refine Bn.stp_value (v := .bool ok) (w1 := w') ?_ ?_ ?_
   · rfl
   · first | rfl | (go_simp; done) | (go_simp; rfl)
   exact hK.out _ _ ⟨true, true, true, true, true, true, true, true, true, true, true, true, true, true, A10, c10, A12, c12, A14, c14, A15, c15, g16, g17, rfl, (by simp only [Act.put, Bn.over, List.setIfInBounds_toArray, List.set_cons_zero, List.set_cons_succ, cond_true, cond_false]), HX⟩
 rintro a w18 ⟨b0, b1, b2, b3, b4, b5, b6, b7, b8, b9, b10, b11, b12, b13, A10, c10, A12, c12, A14, c14, A15, c15, g16, g17, hl, rfl, HX⟩
 simp only [List.replicate, List.cons.injEq, and_true] at hl
 obtain ⟨rfl, rfl, rfl, rfl, rfl, rfl, rfl, rfl, rfl, rfl, rfl, rfl, rfl, rfl⟩ := hl
 simp only [Bn.over, List.set_cons_zero, List.set_cons_succ, cond_true, cond_false]
 simp only [List.cons_append, List.nil_append, cond_true] at HX
 go_upto_region 12 with (first | ((with_reducible refine gate_dst (N := 39) rfl ?_); refine Bn.loadE (x := .tmp 2) (g := g1) (cs := #[.slice A0_0 l0_0.length c0_0]) (t := 24) HX 0 rfl rfl rfl rfl Try.underlying24 sz24 ?_; simp only [Act.put, List.setIfInBounds_toArray, List.set_cons_zero, List.set_cons_succ]) | ((with_reducible refine gate_dst (N := 40) rfl ?_); refine goesL_ (some 40) rfl rfl Try.func17 (by kernel_rfl) rfl #[.agg #[.slice A0_0 l0_0.length c0_0]] rfl (by (try simp only [List.map_toArray, List.map_cons, List.map_nil]); first | done | rfl) ?_; (with_reducible refine (laws_toBig.calls k _ _ l0_0 l0_0 _ (Kd.C_below HR0_0.out HX.out.below) HC0_0.out ht0.out).mono ?_); rintro e w21 ⟨v19_0, rfl, ho0, hb⟩; refine ⟨_, rfl, ?_⟩; obtain ⟨A20, c20, rfl⟩ := Kd.R_slice ho0; replace HX := Aside0.mk (HX.out.rowE ho0 hb); clear ho0 hb; simp only [List.cons_append, List.nil_append, List.set_cons_succ, List.set_cons_zero] at HX; simp only [Act.put, List.setIfInBounds_toArray, List.set_cons_zero, List.set_cons_succ]) | ((with_reducible refine gate_dst (N := 9) rfl ?_); refine Bn.allocE HX rfl rfl al27 ?_; clear HX; intro g22 w23 HX; simp only [List.cons_append, List.nil_append, List.set_cons_succ, List.set_cons_zero] at HX; simp only [Act.put, List.setIfInBounds_toArray, List.set_cons_zero, List.set_cons_succ]) | ((with_reducible refine gate_store (t := 27) (p := 9) rfl ?_); refine Bn.storeE (x := .tmp 9) (y := .tmp 40) (g := g22) (cs := #[.slice none 0 0]) (t := 27) (cells := #[.slice A20 l0_0.length c20]) HX 4 rfl rfl rfl rfl rfl rfl sz27 rfl rfl ?_; clear HX; intro w24 HX; simp only [List.cons_append, List.nil_append, List.set_cons_succ, List.set_cons_zero] at HX) | ((with_reducible refine gate_dst (N := 41) rfl ?_); refine Bn.loadE (x := .tmp 3) (g := g3) (cs := #[.slice A1_0 l1_0.length c1_0]) (t := 24) HX 1 rfl rfl rfl rfl Try.underlying24 sz24 ?_; simp only [Act.put, List.setIfInBounds_toArray, List.set_cons_zero, List.set_cons_succ]) | ((with_reducible refine gate_dst (N := 42) rfl ?_); refine goesL_ (some 42) rfl rfl Try.func17 (by kernel_rfl) rfl #[.agg #[.slice A1_0 l1_0.length c1_0]] rfl (by (try simp only [List.map_toArray, List.map_cons, List.map_nil]); first | done | rfl) ?_; (with_reducible refine (laws_toBig.calls k _ _ l1_0 l1_0 _ (Kd.C_below HR1_0.out HX.out.below) HC1_0.out ht1.out).mono ?_); rintro e w27 ⟨v25_0, rfl, ho0, hb⟩; refine ⟨_, rfl, ?_⟩; obtain ⟨A26, c26, rfl⟩ := Kd.R_slice ho0; replace HX := Aside0.mk (HX.out.rowE ho0 hb); clear ho0 hb; simp only [List.cons_append, List.nil_append, List.set_cons_succ, List.set_cons_zero] at HX; simp only [Act.put, List.setIfInBounds_toArray, List.set_cons_zero, List.set_cons_succ]) | ((with_reducible refine gate_dst (N := 10) rfl ?_); refine Bn.allocE HX rfl rfl al27 ?_; clear HX; intro g28 w29 HX; simp only [List.cons_append, List.nil_append, List.set_cons_succ, List.set_cons_zero] at HX; simp only [Act.put, List.setIfInBounds_toArray, List.set_cons_zero, List.set_cons_succ]) | ((with_reducible refine gate_store (t := 27) (p := 10) rfl ?_); refine Bn.storeE (x := .tmp 10) (y := .tmp 42) (g := g28) (cs := #[.slice none 0 0]) (t := 27) (cells := #[.slice A26 l1_0.length c26]) HX 5 rfl rfl rfl rfl rfl rfl sz27 rfl rfl ?_; clear HX; intro w30 HX; simp only [List.cons_append, List.nil_append, List.set_cons_succ, List.set_cons_zero] at HX) | ((with_reducible refine gate_dst (N := 44) rfl ?_); refine Bn.loadE (x := .tmp 9) (g := g22) (cs := #[.slice A20 l0_0.length c20]) (t := 27) HX 4 rfl rfl rfl rfl Try.underlying27 sz27 ?_; simp only [Act.put, List.setIfInBounds_toArray, List.set_cons_zero, List.set_cons_succ]) | ((with_reducible refine gate_dst (N := 45) rfl ?_); refine Bn.loadE (x := .tmp 10) (g := g28) (cs := #[.slice A26 l1_0.length c26]) (t := 27) HX 5 rfl rfl rfl rfl Try.underlying27 sz27 ?_; simp only [Act.put, List.setIfInBounds_toArray, List.set_cons_zero, List.set_cons_succ]) | ((with_reducible refine gate_dst (N := 46) rfl ?_); refine goesL_ (some 46) rfl rfl Try.func33 (by kernel_rfl) rfl #[.agg #[.slice A20 l0_0.length c20], .agg #[.slice A26 l1_0.length c26]] rfl (by (try simp only [List.map_toArray, List.map_cons, List.map_nil]); first | done | rfl) ?_; (with_reducible refine (impl_DivBig.calls k (fun k_ => (.slice A20 l0_0.length c20 : Value).ownBlock = some k_) _ _ l0_0 (fun k_ => (.slice A26 l1_0.length c26 : Value).ownBlock = some k_) _ _ l1_0 q r ok _ (HX.out.V 4 rfl) (HX.out.V 5 rfl) hI.out).mono ?_); rintro e w34 ⟨v31_0, v31_1, rfl, ho0, ho1, hb⟩; refine ⟨_, rfl, ?_⟩; obtain ⟨A32, c32, rfl⟩ := Kd.R_slice ho0; obtain ⟨A33, c33, rfl⟩ := Kd.R_slice ho1; replace HX := Aside0.mk (HX.out.rowsE ho0 ho1 hb (fun k h1 h2 => by first | exact ho0.1 k h1 h2.symm | exact (ho0.1 k h1).2 h2.symm)); clear ho0 ho1 hb; simp only [List.cons_append, List.nil_append, List.set_cons_succ, List.set_cons_zero] at HX; simp only [Act.put, List.setIfInBounds_toArray, List.set_cons_zero, List.set_cons_succ]) | ((with_reducible refine gate_dst (N := 11) rfl ?_); refine Bn.allocE HX rfl rfl al27 ?_; clear HX; intro g35 w36 HX; simp only [List.cons_append, List.nil_append, List.set_cons_succ, List.set_cons_zero] at HX; simp only [Act.put, List.setIfInBounds_toArray, List.set_cons_zero, List.set_cons_succ]) | ((with_reducible refine gate_dst (N := 12) rfl ?_); refine Bn.allocE HX rfl rfl al27 ?_; clear HX; intro g37 w38 HX; simp only [List.cons_append, List.nil_append, List.set_cons_succ, List.set_cons_zero] at HX; simp only [Act.put, List.setIfInBounds_toArray, List.set_cons_zero, List.set_cons_succ]) | ((with_reducible refine gate_store (t := 27) (p := 11) rfl ?_); refine Bn.storeE (x := .tmp 11) (y := .tmp 47) (g := g35) (cs := #[.slice none 0 0]) (t := 27) (cells := #[.slice A32 q.length c32]) HX 6 rfl rfl rfl rfl rfl rfl sz27 rfl rfl ?_; clear HX; intro w39 HX; simp only [List.cons_append, List.nil_append, List.set_cons_succ, List.set_cons_zero] at HX) | ((with_reducible refine gate_store (t := 27) (p := 12) rfl ?_); refine Bn.storeE (x := .tmp 12) (y := .tmp 48) (g := g37) (cs := #[.slice none 0 0]) (t := 27) (cells := #[.slice A33 r.length c33]) HX 7 rfl rfl rfl rfl rfl rfl sz27 rfl rfl ?_; clear HX; intro w40 HX; simp only [List.cons_append, List.nil_append, List.set_cons_succ, List.set_cons_zero] at HX))
 go_upto_region 14 with (first | ((with_reducible refine gate_dst (N := 50) rfl ?_); refine Bn.loadE (x := .tmp 11) (g := g35) (cs := #[.slice A32 q.length c32]) (t := 27) HX 6 rfl rfl rfl rfl Try.underlying27 sz27 ?_; simp only [Act.put, List.setIfInBounds_toArray, List.set_cons_zero, List.set_cons_succ]) | ((with_reducible refine gate_dst (N := 51) rfl ?_); refine Bn.loadE (x := .tmp 6) (g := g16) (cs := #[.slice A14 q.length c14]) (t := 27) HX 2 rfl rfl rfl rfl Try.underlying27 sz27 ?_; simp only [Act.put, List.setIfInBounds_toArray, List.set_cons_zero, List.set_cons_succ]) | ((with_reducible refine gate_dst (N := 52) rfl ?_); refine goesL_ (some 52) rfl rfl Try.func19 (by kernel_rfl) rfl #[.agg #[.slice A32 q.length c32], .agg #[.slice A14 q.length c14]] rfl (by (try simp only [List.map_toArray, List.map_cons, List.map_nil]); first | done | rfl) ?_; (with_reducible refine (laws_eqBig.calls k _ _ q _ _ q true _ (HX.out.C 6 rfl) (HX.out.cap 6 rfl) (HX.out.C 2 rfl) (HX.out.cap 2 rfl) hq.out).mono ?_); rintro e w42 ⟨rfl, hb⟩; refine ⟨_, rfl, ?_⟩; replace HX := Aside0.mk (HX.out.call hb); clear hb; simp only [Act.put, List.setIfInBounds_toArray, List.set_cons_zero, List.set_cons_succ]) | ((with_reducible refine gate_dst (N := 55) rfl ?_); refine gate_guard (by first | rfl | (go_simp; done)) ?_; refine Bn.loadE (x := .tmp 12) (g := g37) (cs := #[.slice A33 r.length c33]) (t := 27) HX 7 rfl rfl rfl rfl Try.underlying27 sz27 ?_; simp only [Act.put, List.setIfInBounds_toArray, List.set_cons_zero, List.set_cons_succ]) | ((with_reducible refine gate_dst (N := 56) rfl ?_); refine gate_guard (by first | rfl | (go_simp; done)) ?_; refine Bn.loadE (x := .tmp 7) (g := g17) (cs := #[.slice A15 r.length c15]) (t := 27) HX 3 rfl rfl rfl rfl Try.underlying27 sz27 ?_; simp only [Act.put, List.setIfInBounds_toArray, List.set_cons_zero, List.set_cons_succ]) | ((with_reducible refine gate_dst (N := 57) rfl ?_); refine gate_guard (by first | rfl | (go_simp; done)) ?_; refine goesL_ (some 57) rfl rfl Try.func19 (by kernel_rfl) rfl #[.agg #[.slice A33 r.length c33], .agg #[.slice A15 r.length c15]] rfl (by (try simp only [List.map_toArray, List.map_cons, List.map_nil]); first | done | rfl) ?_; (with_reducible refine (laws_eqBig.calls k _ _ r _ _ r true _ (HX.out.C 7 rfl) (HX.out.cap 7 rfl) (HX.out.C 3 rfl) (HX.out.cap 3 rfl) hr.out).mono ?_); rintro e w44 ⟨rfl, hb⟩; refine ⟨_, rfl, ?_⟩; replace HX := Aside0.mk (HX.out.call hb); clear hb; simp only [Act.put, List.setIfInBounds_toArray, List.set_cons_zero, List.set_cons_succ]))
 (try simp only [Act.put, List.setIfInBounds_toArray, List.set_cons_zero, List.set_cons_succ])
 refine Bn.inv_ 5 [[], [], [1], [0, 2, 2], [3]] (fun ov l a w' => ∃ (b0 b1 b2 b3 b4 : Bool) (A46 : Option Addr) (c46 : Nat), l = [b0, b1, b2, b3, b4] ∧ a = ov [(65, cond b0 (.agg #[.slice A20 l0_0.length c20]) (undef)), (66, cond b1 (.agg #[.slice A0_0 l0_0.length c0_0]) (undef)), (67, cond b2 (.agg #[.slice A46 l0_0.length c46]) (undef)), (68, cond b3 (.bool true) (undef)), (69, cond b4 (.bool false) (undef))] ∧ Aside0 (Bn.B w w' ([(g1, #[.slice A0_0 l0_0.length c0_0], 24), (g3, #[.slice A1_0 l1_0.length c1_0], 24), (g16, #[.slice A14 q.length c14], 27), (g17, #[.slice A15 r.length c15], 27), (g22, #[.slice A20 l0_0.length c20], 27), (g28, #[.slice A26 l1_0.length c26], 27), (g35, #[.slice A32 q.length c32], 27), (g37, #[.slice A33 r.length c33], 27)]) ([⟨(Kd.int .i64), 3, .slice A10 l0_0.length c10, l0_0⟩, ⟨(Kd.int .i64), 3, .slice A12 l1_0.length c12, l1_0⟩, ⟨(Kd.int .i64), 3, .slice A14 q.length c14, q⟩, ⟨(Kd.int .i64), 3, .slice A15 r.length c15, r⟩, ⟨(Kd.int .i64), 3, .slice A20 l0_0.length c20, l0_0⟩, ⟨(Kd.int .i64), 3, .slice A26 l1_0.length c26, l1_0⟩, ⟨(Kd.int .i64), 3, .slice A32 q.length c32, q⟩, ⟨(Kd.int .i64), 3, .slice A33 r.length c33, r⟩] ++ (cond b2 [⟨(Kd.int .i64), 3, .slice A46 l0_0.length c46, l0_0⟩] [])))) (by kernel_rfl) rfl (by kernel_rfl) (by decide) ⟨false, false, false, false, false, none, 0, rfl, (by simp only [Act.put, Bn.over, List.setIfInBounds_toArray, List.set_cons_zero, List.set_cons_succ, cond_true, cond_false]), ⟨HX.out.drew⟩⟩ (Bn.steps_cons ?_ (Bn.steps_cons ?_ (Bn.steps_cons ?_ (Bn.steps_cons ?_ (Bn.steps_cons ?_ Bn.steps_nil))))) ?_
 clear HX
 · rintro l a w' ⟨b0, b1, b2, b3, b4, A46, c46, rfl, rfl, HX⟩ hcl hr K hK
   have e_ : b0 = false := Bn.rdy_self hr; subst e_
   have e_ : b3 = false := Bn.cl_off hcl 3 0 rfl rfl; subst e_
   have e_ : b4 = false := Bn.cl_off hcl 4 3 rfl rfl; subst e_
   clear hr hcl
   simp only [Bn.over, List.set_cons_zero, List.set_cons_succ, cond_true, cond_false]
   refine Bn.stp_load HX 4 ?_ rfl rfl ?_ Try.underlying27 sz27 ?_
   · rfl
   · rfl
   exact hK.out _ _ ⟨true, b1, b2, false, false, A46, c46, rfl, (by simp only [Act.put, Bn.over, List.setIfInBounds_toArray, List.set_cons_zero, List.set_cons_succ, cond_true, cond_false]), HX⟩
 · rintro l a w' ⟨b0, b1, b2, b3, b4, A46, c46, rfl, rfl, HX⟩ hcl hr K hK
   have e_ : b1 = false := Bn.rdy_self hr; subst e_
   have e_ : b2 = false := Bn.cl_off hcl 2 1 rfl rfl; subst e_
   have e_ : b3 = false := Bn.cl_off hcl 3 2 rfl rfl; subst e_
   have e_ : b4 = false := Bn.cl_off hcl 4 3 rfl rfl; subst e_
   clear hr hcl
   simp only [Bn.over, List.set_cons_zero, List.set_cons_succ, cond_true, cond_false]
   refine Bn.stp_load HX 0 ?_ rfl rfl ?_ Try.underlying24 sz24 ?_
   · rfl
   · rfl
   exact hK.out _ _ ⟨b0, true, false, false, false, A46, c46, rfl, (by simp only [Act.put, Bn.over, List.setIfInBounds_toArray, List.set_cons_zero, List.set_cons_succ, cond_true, cond_false]), HX⟩
 · rintro l a w' ⟨b0, b1, b2, b3, b4, A46, c46, rfl, rfl, HX⟩ hcl hr K hK
   have e_ : b2 = false := Bn.rdy_self hr; subst e_
   have e_ : b1 = true := Bn.rdy_need hr 1 rfl; subst e_
   have e_ : b3 = false := Bn.cl_off hcl 3 2 rfl rfl; subst e_
   have e_ : b4 = false := Bn.cl_off hcl 4 3 rfl rfl; subst e_
   clear hr hcl
   simp only [Bn.over, List.set_cons_zero, List.set_cons_succ, cond_true, cond_false]
   refine Bn.stp_goes Try.func17 (by kernel_rfl) rfl #[.agg #[.slice A0_0 l0_0.length c0_0]] ?_ rfl ?_ ?_
   · rfl
   · (try simp only [List.map_toArray, List.map_cons, List.map_nil]); first | done | rfl
   (with_reducible refine (laws_toBig.calls k _ _ l0_0 l0_0 _ (Kd.C_below HR0_0.out HX.out.below) HC0_0.out ht0.out).mono ?_)
   rintro e w2' ⟨v45_0, rfl, ho0, hb⟩
   refine ⟨_, rfl, ?_⟩
   obtain ⟨A46, c46, rfl⟩ := Kd.R_slice ho0
   exact hK.out _ _ ⟨b0, true, true, false, false, A46, c46, rfl, (by simp only [Act.put, Bn.over, List.setIfInBounds_toArray, List.set_cons_zero, List.set_cons_succ, cond_true, cond_false]), ⟨HX.out.rowE ho0 hb⟩⟩
 · rintro l a w' ⟨b0, b1, b2, b3, b4, A46, c46, rfl, rfl, HX⟩ hcl hr K hK
   have e_ : b3 = false := Bn.rdy_self hr; subst e_
   have e_ : b0 = true := Bn.rdy_need hr 0 rfl; subst e_
   have e_ : b2 = true := Bn.rdy_need hr 2 rfl; subst e_
   have e_ : b4 = false := Bn.cl_off hcl 4 3 rfl rfl; subst e_
   clear hr hcl
   simp only [Bn.over, List.set_cons_zero, List.set_cons_succ, cond_true, cond_false]
   refine Bn.stp_goes Try.func19 (by kernel_rfl) rfl #[.agg #[.slice A20 l0_0.length c20], .agg #[.slice A46 l0_0.length c46]] ?_ rfl ?_ ?_
   · rfl
   · (try simp only [List.map_toArray, List.map_cons, List.map_nil]); first | done | rfl
   (with_reducible refine (laws_eqBig.calls k _ _ l0_0 _ _ l0_0 true _ (HX.out.C 4 rfl) (HX.out.cap 4 rfl) (HX.out.C 8 rfl) (HX.out.cap 8 rfl) ha.out).mono ?_)
   rintro e w2' ⟨rfl, hb⟩
   refine ⟨_, rfl, ?_⟩
   exact hK.out _ _ ⟨true, b1, true, true, false, A46, c46, rfl, (by simp only [Act.put, Bn.over, List.setIfInBounds_toArray, List.set_cons_zero, List.set_cons_succ, cond_true, cond_false]), ⟨HX.out.call hb⟩⟩
 · rintro l a w' ⟨b0, b1, b2, b3, b4, A46, c46, rfl, rfl, HX⟩ hcl hr K hK
   have e_ : b4 = false := Bn.rdy_self hr; subst e_
   have e_ : b3 = true := Bn.rdy_need hr 3 rfl; subst e_
   clear hr hcl
   simp only [Bn.over, List.set_cons_zero, List.set_cons_succ, cond_true, cond_false]
   refine Bn.stp_value (v := .bool false) (w1 := w') ?_ ?_ ?_
   · rfl
   · first | rfl | (go_simp; done) | (go_simp; rfl)
   exact hK.out _ _ ⟨b0, b1, b2, true, true, A46, c46, rfl, (by simp only [Act.put, Bn.over, List.setIfInBounds_toArray, List.set_cons_zero, List.set_cons_succ, cond_true, cond_false]), HX⟩
 rintro a w48 ⟨b0, b1, b2, b3, b4, A46, c46, hl, rfl, HX⟩
 simp only [List.replicate, List.cons.injEq, and_true] at hl
 obtain ⟨rfl, rfl, rfl, rfl, rfl⟩ := hl
 simp only [Bn.over, List.set_cons_zero, List.set_cons_succ, cond_true, cond_false]
 simp only [List.cons_append, List.nil_append, cond_true] at HX
 go_upto_region 16 with (fail)
 (try simp only [Act.put, List.setIfInBounds_toArray, List.set_cons_zero, List.set_cons_succ])
 refine Bn.inv_ 5 [[], [], [1], [0, 2, 2], [3]] (fun ov l a w' => ∃ (b0 b1 b2 b3 b4 : Bool) (A50 : Option Addr) (c50 : Nat), l = [b0, b1, b2, b3, b4] ∧ a = ov [(70, cond b0 (.agg #[.slice A26 l1_0.length c26]) (undef)), (71, cond b1 (.agg #[.slice A1_0 l1_0.length c1_0]) (undef)), (72, cond b2 (.agg #[.slice A50 l1_0.length c50]) (undef)), (73, cond b3 (.bool true) (undef)), (74, cond b4 (.bool false) (undef))] ∧ Aside0 (Bn.B w w' ([(g1, #[.slice A0_0 l0_0.length c0_0], 24), (g3, #[.slice A1_0 l1_0.length c1_0], 24), (g16, #[.slice A14 q.length c14], 27), (g17, #[.slice A15 r.length c15], 27), (g22, #[.slice A20 l0_0.length c20], 27), (g28, #[.slice A26 l1_0.length c26], 27), (g35, #[.slice A32 q.length c32], 27), (g37, #[.slice A33 r.length c33], 27)]) ([⟨(Kd.int .i64), 3, .slice A10 l0_0.length c10, l0_0⟩, ⟨(Kd.int .i64), 3, .slice A12 l1_0.length c12, l1_0⟩, ⟨(Kd.int .i64), 3, .slice A14 q.length c14, q⟩, ⟨(Kd.int .i64), 3, .slice A15 r.length c15, r⟩, ⟨(Kd.int .i64), 3, .slice A20 l0_0.length c20, l0_0⟩, ⟨(Kd.int .i64), 3, .slice A26 l1_0.length c26, l1_0⟩, ⟨(Kd.int .i64), 3, .slice A32 q.length c32, q⟩, ⟨(Kd.int .i64), 3, .slice A33 r.length c33, r⟩, ⟨(Kd.int .i64), 3, .slice A46 l0_0.length c46, l0_0⟩] ++ (cond b2 [⟨(Kd.int .i64), 3, .slice A50 l1_0.length c50, l1_0⟩] [])))) (by kernel_rfl) rfl (by kernel_rfl) (by decide) ⟨false, false, false, false, false, none, 0, rfl, (by simp only [Act.put, Bn.over, List.setIfInBounds_toArray, List.set_cons_zero, List.set_cons_succ, cond_true, cond_false]), ⟨HX.out.drew⟩⟩ (Bn.steps_cons ?_ (Bn.steps_cons ?_ (Bn.steps_cons ?_ (Bn.steps_cons ?_ (Bn.steps_cons ?_ Bn.steps_nil))))) ?_
 clear HX
 · rintro l a w' ⟨b0, b1, b2, b3, b4, A50, c50, rfl, rfl, HX⟩ hcl hr K hK
   have e_ : b0 = false := Bn.rdy_self hr; subst e_
   have e_ : b3 = false := Bn.cl_off hcl 3 0 rfl rfl; subst e_
   have e_ : b4 = false := Bn.cl_off hcl 4 3 rfl rfl; subst e_
   clear hr hcl
   simp only [Bn.over, List.set_cons_zero, List.set_cons_succ, cond_true, cond_false]
   refine Bn.stp_load HX 5 ?_ rfl rfl ?_ Try.underlying27 sz27 ?_
   · rfl
   · rfl
   exact hK.out _ _ ⟨true, b1, b2, false, false, A50, c50, rfl, (by simp only [Act.put, Bn.over, List.setIfInBounds_toArray, List.set_cons_zero, List.set_cons_succ, cond_true, cond_false]), HX⟩
 · rintro l a w' ⟨b0, b1, b2, b3, b4, A50, c50, rfl, rfl, HX⟩ hcl hr K hK
   have e_ : b1 = false := Bn.rdy_self hr; subst e_
   have e_ : b2 = false := Bn.cl_off hcl 2 1 rfl rfl; subst e_
   have e_ : b3 = false := Bn.cl_off hcl 3 2 rfl rfl; subst e_
   have e_ : b4 = false := Bn.cl_off hcl 4 3 rfl rfl; subst e_
   clear hr hcl
   simp only [Bn.over, List.set_cons_zero, List.set_cons_succ, cond_true, cond_false]
   refine Bn.stp_load HX 1 ?_ rfl rfl ?_ Try.underlying24 sz24 ?_
   · rfl
   · rfl
   exact hK.out _ _ ⟨b0, true, false, false, false, A50, c50, rfl, (by simp only [Act.put, Bn.over, List.setIfInBounds_toArray, List.set_cons_zero, List.set_cons_succ, cond_true, cond_false]), HX⟩
 · rintro l a w' ⟨b0, b1, b2, b3, b4, A50, c50, rfl, rfl, HX⟩ hcl hr K hK
   have e_ : b2 = false := Bn.rdy_self hr; subst e_
   have e_ : b1 = true := Bn.rdy_need hr 1 rfl; subst e_
   have e_ : b3 = false := Bn.cl_off hcl 3 2 rfl rfl; subst e_
   have e_ : b4 = false := Bn.cl_off hcl 4 3 rfl rfl; subst e_
   clear hr hcl
   simp only [Bn.over, List.set_cons_zero, List.set_cons_succ, cond_true, cond_false]
   refine Bn.stp_goes Try.func17 (by kernel_rfl) rfl #[.agg #[.slice A1_0 l1_0.length c1_0]] ?_ rfl ?_ ?_
   · rfl
   · (try simp only [List.map_toArray, List.map_cons, List.map_nil]); first | done | rfl
   (with_reducible refine (laws_toBig.calls k _ _ l1_0 l1_0 _ (Kd.C_below HR1_0.out HX.out.below) HC1_0.out ht1.out).mono ?_)
   rintro e w2' ⟨v49_0, rfl, ho0, hb⟩
   refine ⟨_, rfl, ?_⟩
   obtain ⟨A50, c50, rfl⟩ := Kd.R_slice ho0
   exact hK.out _ _ ⟨b0, true, true, false, false, A50, c50, rfl, (by simp only [Act.put, Bn.over, List.setIfInBounds_toArray, List.set_cons_zero, List.set_cons_succ, cond_true, cond_false]), ⟨HX.out.rowE ho0 hb⟩⟩
 · rintro l a w' ⟨b0, b1, b2, b3, b4, A50, c50, rfl, rfl, HX⟩ hcl hr K hK
   have e_ : b3 = false := Bn.rdy_self hr; subst e_
   have e_ : b0 = true := Bn.rdy_need hr 0 rfl; subst e_
   have e_ : b2 = true := Bn.rdy_need hr 2 rfl; subst e_
   have e_ : b4 = false := Bn.cl_off hcl 4 3 rfl rfl; subst e_
   clear hr hcl
   simp only [Bn.over, List.set_cons_zero, List.set_cons_succ, cond_true, cond_false]
   refine Bn.stp_goes Try.func19 (by kernel_rfl) rfl #[.agg #[.slice A26 l1_0.length c26], .agg #[.slice A50 l1_0.length c50]] ?_ rfl ?_ ?_
   · rfl
   · (try simp only [List.map_toArray, List.map_cons, List.map_nil]); first | done | rfl
   (with_reducible refine (laws_eqBig.calls k _ _ l1_0 _ _ l1_0 true _ (HX.out.C 5 rfl) (HX.out.cap 5 rfl) (HX.out.C 9 rfl) (HX.out.cap 9 rfl) hb_.out).mono ?_)
   rintro e w2' ⟨rfl, hb⟩
   refine ⟨_, rfl, ?_⟩
   exact hK.out _ _ ⟨true, b1, true, true, false, A50, c50, rfl, (by simp only [Act.put, Bn.over, List.setIfInBounds_toArray, List.set_cons_zero, List.set_cons_succ, cond_true, cond_false]), ⟨HX.out.call hb⟩⟩
 · rintro l a w' ⟨b0, b1, b2, b3, b4, A50, c50, rfl, rfl, HX⟩ hcl hr K hK
   have e_ : b4 = false := Bn.rdy_self hr; subst e_
   have e_ : b3 = true := Bn.rdy_need hr 3 rfl; subst e_
   clear hr hcl
   simp only [Bn.over, List.set_cons_zero, List.set_cons_succ, cond_true, cond_false]
   refine Bn.stp_value (v := .bool false) (w1 := w') ?_ ?_ ?_
   · rfl
   · first | rfl | (go_simp; done) | (go_simp; rfl)
   exact hK.out _ _ ⟨b0, b1, b2, true, true, A50, c50, rfl, (by simp only [Act.put, Bn.over, List.setIfInBounds_toArray, List.set_cons_zero, List.set_cons_succ, cond_true, cond_false]), HX⟩
 rintro a w52 ⟨b0, b1, b2, b3, b4, A50, c50, hl, rfl, HX⟩
 simp only [List.replicate, List.cons.injEq, and_true] at hl
 obtain ⟨rfl, rfl, rfl, rfl, rfl⟩ := hl
 simp only [Bn.over, List.set_cons_zero, List.set_cons_succ, cond_true, cond_false]
 simp only [List.cons_append, List.nil_append, cond_true] at HX
 go_upto_region 35 with (first | ((with_reducible refine gate_dst (N := 75) rfl ?_); refine Bn.loadE (x := .tmp 9) (g := g22) (cs := #[.slice A20 l0_0.length c20]) (t := 27) HX 4 rfl rfl rfl rfl Try.underlying27 sz27 ?_; simp only [Act.put, List.setIfInBounds_toArray, List.set_cons_zero, List.set_cons_succ]) | ((with_reducible refine gate_dst (N := 77) rfl ?_); refine goesL_ (some 77) rfl rfl Try.func22 (by kernel_rfl) rfl #[.agg #[.slice A20 l0_0.length c20], .int .i64 1] rfl (by (try simp only [List.map_toArray, List.map_cons, List.map_nil]); first | done | rfl) ?_; (with_reducible refine (laws_markBig.calls k (fun k_ => (.slice A20 l0_0.length c20 : Value).ownBlock = some k_) (.slice A20 l0_0.length c20) l0_0 1 n0 za w _ HX.out.below (HX.out.rowR 4 rfl) hm0.out).mono ?_); rintro e w54 ⟨rfl, ho0, hb, hk⟩; refine ⟨_, rfl, ?_⟩; replace HX := Aside0.mk (HX.out.mark 4 rfl ho0 hb hk); clear ho0 hb hk; simp only [List.cons_append, List.nil_append, List.set_cons_succ, List.set_cons_zero] at HX; simp only [Act.put, List.setIfInBounds_toArray, List.set_cons_zero, List.set_cons_succ]) | ((with_reducible refine gate_dst (N := 78) rfl ?_); refine Bn.loadE (x := .tmp 10) (g := g28) (cs := #[.slice A26 l1_0.length c26]) (t := 27) HX 5 rfl rfl rfl rfl Try.underlying27 sz27 ?_; simp only [Act.put, List.setIfInBounds_toArray, List.set_cons_zero, List.set_cons_succ]) | ((with_reducible refine gate_dst (N := 80) rfl ?_); refine goesL_ (some 80) rfl rfl Try.func22 (by kernel_rfl) rfl #[.agg #[.slice A26 l1_0.length c26], .int .i64 n0] rfl (by (try simp only [List.map_toArray, List.map_cons, List.map_nil]); first | done | rfl) ?_; (with_reducible refine (laws_markBig.calls k (fun k_ => (.slice A26 l1_0.length c26 : Value).ownBlock = some k_) (.slice A26 l1_0.length c26) l1_0 n0 n1 zb w _ HX.out.below (HX.out.rowR 5 rfl) hm1.out).mono ?_); rintro e w56 ⟨rfl, ho0, hb, hk⟩; refine ⟨_, rfl, ?_⟩; replace HX := Aside0.mk (HX.out.mark 5 rfl ho0 hb hk); clear ho0 hb hk; simp only [List.cons_append, List.nil_append, List.set_cons_succ, List.set_cons_zero] at HX; simp only [Act.put, List.setIfInBounds_toArray, List.set_cons_zero, List.set_cons_succ]) | ((with_reducible refine gate_dst (N := 84) rfl ?_); refine gate_guard (by first | rfl | (go_simp; done)) ?_; refine Bn.loadE (x := .tmp 11) (g := g35) (cs := #[.slice A32 q.length c32]) (t := 27) HX 6 rfl rfl rfl rfl Try.underlying27 sz27 ?_; simp only [Act.put, List.setIfInBounds_toArray, List.set_cons_zero, List.set_cons_succ]) | ((with_reducible refine gate_dst (N := 85) rfl ?_); refine gate_guard (by first | rfl | (go_simp; done)) ?_; refine Bn.loadE (x := .tmp 6) (g := g16) (cs := #[.slice A14 q.length c14]) (t := 27) HX 2 rfl rfl rfl rfl Try.underlying27 sz27 ?_; simp only [Act.put, List.setIfInBounds_toArray, List.set_cons_zero, List.set_cons_succ]) | ((with_reducible refine gate_dst (N := 86) rfl ?_); refine gate_guard (by first | rfl | (go_simp; done)) ?_; refine goesL_ (some 86) rfl rfl Try.func19 (by kernel_rfl) rfl #[.agg #[.slice A32 q.length c32], .agg #[.slice A14 q.length c14]] rfl (by (try simp only [List.map_toArray, List.map_cons, List.map_nil]); first | done | rfl) ?_; (with_reducible refine (laws_eqBig.calls k _ _ q _ _ q true _ (HX.out.C 6 rfl) (HX.out.cap 6 rfl) (HX.out.C 2 rfl) (HX.out.cap 2 rfl) hq.out).mono ?_); rintro e w58 ⟨rfl, hb⟩; refine ⟨_, rfl, ?_⟩; replace HX := Aside0.mk (HX.out.call hb); clear hb; simp only [Act.put, List.setIfInBounds_toArray, List.set_cons_zero, List.set_cons_succ]) | ((with_reducible refine gate_dst (N := 90) rfl ?_); refine gate_guard (by first | rfl | (go_simp; done)) ?_; refine Bn.loadE (x := .tmp 12) (g := g37) (cs := #[.slice A33 r.length c33]) (t := 27) HX 7 rfl rfl rfl rfl Try.underlying27 sz27 ?_; simp only [Act.put, List.setIfInBounds_toArray, List.set_cons_zero, List.set_cons_succ]) | ((with_reducible refine gate_dst (N := 91) rfl ?_); refine gate_guard (by first | rfl | (go_simp; done)) ?_; refine Bn.loadE (x := .tmp 7) (g := g17) (cs := #[.slice A15 r.length c15]) (t := 27) HX 3 rfl rfl rfl rfl Try.underlying27 sz27 ?_; simp only [Act.put, List.setIfInBounds_toArray, List.set_cons_zero, List.set_cons_succ]) | ((with_reducible refine gate_dst (N := 92) rfl ?_); refine gate_guard (by first | rfl | (go_simp; done)) ?_; refine goesL_ (some 92) rfl rfl Try.func19 (by kernel_rfl) rfl #[.agg #[.slice A33 r.length c33], .agg #[.slice A15 r.length c15]] rfl (by (try simp only [List.map_toArray, List.map_cons, List.map_nil]); first | done | rfl) ?_; (with_reducible refine (laws_eqBig.calls k _ _ r _ _ r true _ (HX.out.C 7 rfl) (HX.out.cap 7 rfl) (HX.out.C 3 rfl) (HX.out.cap 3 rfl) hr.out).mono ?_); rintro e w60 ⟨rfl, hb⟩; refine ⟨_, rfl, ?_⟩; replace HX := Aside0.mk (HX.out.call hb); clear hb; simp only [Act.put, List.setIfInBounds_toArray, List.set_cons_zero, List.set_cons_succ]) | ((with_reducible refine gate_dst (N := 100) rfl ?_); refine Bn.loadE (x := .tmp 11) (g := g35) (cs := #[.slice A32 q.length c32]) (t := 27) HX 6 rfl rfl rfl rfl Try.underlying27 sz27 ?_; simp only [Act.put, List.setIfInBounds_toArray, List.set_cons_zero, List.set_cons_succ]) | ((with_reducible refine gate_dst (N := 102) rfl ?_); refine goesL_ (some 102) rfl rfl Try.func22 (by kernel_rfl) rfl #[.agg #[.slice A32 q.length c32], .int .i64 1] rfl (by (try simp only [List.map_toArray, List.map_cons, List.map_nil]); first | done | rfl) ?_; (with_reducible refine (laws_markBig.calls k (fun k_ => (.slice A32 q.length c32 : Value).ownBlock = some k_) (.slice A32 q.length c32) q 1 m0 zq w _ HX.out.below (HX.out.rowR 6 rfl) hm2.out).mono ?_); rintro e w62 ⟨rfl, ho0, hb, hk⟩; refine ⟨_, rfl, ?_⟩; replace HX := Aside0.mk (HX.out.mark 6 rfl ho0 hb hk); clear ho0 hb hk; simp only [List.cons_append, List.nil_append, List.set_cons_succ, List.set_cons_zero] at HX; simp only [Act.put, List.setIfInBounds_toArray, List.set_cons_zero, List.set_cons_succ]) | ((with_reducible refine gate_dst (N := 103) rfl ?_); refine Bn.loadE (x := .tmp 12) (g := g37) (cs := #[.slice A33 r.length c33]) (t := 27) HX 7 rfl rfl rfl rfl Try.underlying27 sz27 ?_; simp only [Act.put, List.setIfInBounds_toArray, List.set_cons_zero, List.set_cons_succ]) | ((with_reducible refine gate_dst (N := 105) rfl ?_); refine goesL_ (some 105) rfl rfl Try.func22 (by kernel_rfl) rfl #[.agg #[.slice A33 r.length c33], .int .i64 m0] rfl (by (try simp only [List.map_toArray, List.map_cons, List.map_nil]); first | done | rfl) ?_; (with_reducible refine (laws_markBig.calls k (fun k_ => (.slice A33 r.length c33 : Value).ownBlock = some k_) (.slice A33 r.length c33) r m0 m1 zr w _ HX.out.below (HX.out.rowR 7 rfl) hm3.out).mono ?_); rintro e w64 ⟨rfl, ho0, hb, hk⟩; refine ⟨_, rfl, ?_⟩; replace HX := Aside0.mk (HX.out.mark 7 rfl ho0 hb hk); clear ho0 hb hk; simp only [List.cons_append, List.nil_append, List.set_cons_succ, List.set_cons_zero] at HX; simp only [Act.put, List.setIfInBounds_toArray, List.set_cons_zero, List.set_cons_succ]) | ((with_reducible refine gate_dst (N := 106) rfl ?_); refine Bn.loadE (x := .tmp 11) (g := g35) (cs := #[.slice A32 q.length c32]) (t := 27) HX 6 rfl rfl rfl rfl Try.underlying27 sz27 ?_; simp only [Act.put, List.setIfInBounds_toArray, List.set_cons_zero, List.set_cons_succ]) | ((with_reducible refine gate_dst (N := 108) rfl ?_); refine goesL_ (some 108) rfl rfl Try.func23 (by kernel_rfl) rfl #[.agg #[.slice A32 q.length c32], .int .i64 1] rfl (by (try simp only [List.map_toArray, List.map_cons, List.map_nil]); first | done | rfl) ?_; refine calls_of_args (args' := #[.agg #[.slice A32 zq.length c32], .int .i64 1]) (by rw [HX.out.len 6 rfl]) ?_; (with_reducible refine (laws_heldBig.calls k _ _ zq 1 m0 _ (HX.out.CC 6 rfl) (HX.out.ccap 6 rfl) hh0.out).mono ?_); rintro e w66 ⟨rfl, hb⟩; refine ⟨_, rfl, ?_⟩; replace HX := Aside0.mk (HX.out.call hb); clear hb; simp only [Act.put, List.setIfInBounds_toArray, List.set_cons_zero, List.set_cons_succ]) | ((with_reducible refine gate_dst (N := 111) rfl ?_); refine Bn.loadE (x := .tmp 12) (g := g37) (cs := #[.slice A33 r.length c33]) (t := 27) HX 7 rfl rfl rfl rfl Try.underlying27 sz27 ?_; simp only [Act.put, List.setIfInBounds_toArray, List.set_cons_zero, List.set_cons_succ]) | ((with_reducible refine gate_dst (N := 113) rfl ?_); refine goesL_ (some 113) rfl rfl Try.func23 (by kernel_rfl) rfl #[.agg #[.slice A33 r.length c33], .int .i64 m0] rfl (by (try simp only [List.map_toArray, List.map_cons, List.map_nil]); first | done | rfl) ?_; refine calls_of_args (args' := #[.agg #[.slice A33 zr.length c33], .int .i64 m0]) (by rw [HX.out.len 7 rfl]) ?_; (with_reducible refine (laws_heldBig.calls k _ _ zr m0 m1 _ (HX.out.CC 7 rfl) (HX.out.ccap 7 rfl) hh1.out).mono ?_); rintro e w68 ⟨rfl, hb⟩; refine ⟨_, rfl, ?_⟩; replace HX := Aside0.mk (HX.out.call hb); clear hb; simp only [Act.put, List.setIfInBounds_toArray, List.set_cons_zero, List.set_cons_succ]))
 (try simp only [Act.put, List.setIfInBounds_toArray, List.set_cons_zero, List.set_cons_succ])
 refine Bn.inv_ 14 [[], [0], [], [2, 1], [1, 3, 3], [4], [5], [5], [5], [], [], [9, 6, 4, 0, 1, 2, 3, 4, 5, 6, 9, 10], [10, 7, 11, 0, 1, 2, 3, 4, 5, 6, 7, 9, 10, 11], [8, 12, 0, 1, 2, 3, 4, 5, 6, 7, 8, 9, 10, 11, 12]] (fun ov l a w' => ∃ (b0 b1 b2 b3 b4 b5 b6 b7 b8 b9 b10 b11 b12 b13 : Bool) (A70 : Option Addr) (c70 : Nat) (A72 : Option Addr) (c72 : Nat) (A74 : Option Addr) (c74 : Nat) (A75 : Option Addr) (c75 : Nat) (g76 : Nat) (g77 : Nat), l = [b0, b1, b2, b3, b4, b5, b6, b7, b8, b9, b10, b11, b12, b13] ∧ a = ov [(120, cond b0 (.agg #[.slice A0_0 l0_0.length c0_0]) (undef)), (121, cond b1 (.agg #[.slice A70 l0_0.length c70]) (undef)), (122, cond b2 (.agg #[.slice A1_0 l1_0.length c1_0]) (undef)), (123, cond b3 (.agg #[.slice A72 l1_0.length c72]) (undef)), (124, cond b4 (.tuple #[.agg #[.slice A74 q.length c74], .agg #[.slice A75 r.length c75], .bool ok]) (undef)), (119, cond b5 (.tuple #[.agg #[.slice A74 q.length c74], .agg #[.slice A75 r.length c75], .bool ok]) (undef)), (125, cond b6 (.agg #[.slice A74 q.length c74]) (undef)), (126, cond b7 (.agg #[.slice A75 r.length c75]) (undef)), (127, cond b8 (.bool ok) (undef)), (17, cond b9 (.pointer (some ⟨g76, 0, none⟩)) (undef)), (18, cond b10 (.pointer (some ⟨g77, 0, none⟩)) (undef)), (19, cond b13 (.bool ok) (undef))] ∧ Aside0 (Bn.B w w' ([(g1, #[.slice A0_0 l0_0.length c0_0], 24), (g3, #[.slice A1_0 l1_0.length c1_0], 24), (g16, #[.slice A14 q.length c14], 27), (g17, #[.slice A15 r.length c15], 27), (g22, #[.slice A20 l0_0.length c20], 27), (g28, #[.slice A26 l1_0.length c26], 27), (g35, #[.slice A32 q.length c32], 27), (g37, #[.slice A33 r.length c33], 27)] ++ (cond b9 [(g76, #[cond b11 (.slice A74 q.length c74) (.slice none 0 0)], 27)] [] ++ (cond b10 [(g77, #[cond b12 (.slice A75 r.length c75) (.slice none 0 0)], 27)] []))) ([⟨(Kd.int .i64), 3, .slice A10 l0_0.length c10, l0_0⟩, ⟨(Kd.int .i64), 3, .slice A12 l1_0.length c12, l1_0⟩, ⟨(Kd.int .i64), 3, .slice A14 q.length c14, q⟩, ⟨(Kd.int .i64), 3, .slice A15 r.length c15, r⟩, ⟨(Kd.int .i64), 3, .slice A20 l0_0.length c20, za⟩, ⟨(Kd.int .i64), 3, .slice A26 l1_0.length c26, zb⟩, ⟨(Kd.int .i64), 3, .slice A32 q.length c32, zq⟩, ⟨(Kd.int .i64), 3, .slice A33 r.length c33, zr⟩, ⟨(Kd.int .i64), 3, .slice A46 l0_0.length c46, l0_0⟩, ⟨(Kd.int .i64), 3, .slice A50 l1_0.length c50, l1_0⟩] ++ (cond b1 [⟨(Kd.int .i64), 3, .slice A70 l0_0.length c70, l0_0⟩] [] ++ (cond b3 [⟨(Kd.int .i64), 3, .slice A72 l1_0.length c72, l1_0⟩] [] ++ (cond b4 [⟨(Kd.int .i64), 3, .slice A74 q.length c74, q⟩, ⟨(Kd.int .i64), 3, .slice A75 r.length c75, r⟩] [])))))) (by kernel_rfl) rfl (by kernel_rfl) (by decide) ⟨false, false, false, false, false, false, false, false, false, false, false, false, false, false, none, 0, none, 0, none, 0, none, 0, 0, 0, rfl, (by simp only [Act.put, Bn.over, List.setIfInBounds_toArray, List.set_cons_zero, List.set_cons_succ, cond_true, cond_false]), ⟨HX.out.drew⟩⟩ (Bn.steps_cons ?_ (Bn.steps_cons ?_ (Bn.steps_cons ?_ (Bn.steps_cons ?_ (Bn.steps_cons ?_ (Bn.steps_cons ?_ (Bn.steps_cons ?_ (Bn.steps_cons ?_ (Bn.steps_cons ?_ (Bn.steps_cons ?_ (Bn.steps_cons ?_ (Bn.steps_cons ?_ (Bn.steps_cons ?_ (Bn.steps_cons ?_ Bn.steps_nil)))))))))))))) ?_
 clear HX
 · rintro l a w' ⟨b0, b1, b2, b3, b4, b5, b6, b7, b8, b9, b10, b11, b12, b13, A70, c70, A72, c72, A74, c74, A75, c75, g76, g77, rfl, rfl, HX⟩ hcl hr K hK
   have e_ : b0 = false := Bn.rdy_self hr; subst e_
   have e_ : b1 = false := Bn.cl_off hcl 1 0 rfl rfl; subst e_
   have e_ : b3 = false := Bn.cl_off hcl 3 1 rfl rfl; subst e_
   have e_ : b4 = false := Bn.cl_off hcl 4 1 rfl rfl; subst e_
   have e_ : b5 = false := Bn.cl_off hcl 5 4 rfl rfl; subst e_
   have e_ : b6 = false := Bn.cl_off hcl 6 5 rfl rfl; subst e_
   have e_ : b7 = false := Bn.cl_off hcl 7 5 rfl rfl; subst e_
   have e_ : b8 = false := Bn.cl_off hcl 8 5 rfl rfl; subst e_
   have e_ : b11 = false := Bn.cl_off hcl 11 6 rfl rfl; subst e_
   have e_ : b12 = false := Bn.cl_off hcl 12 7 rfl rfl; subst e_
   have e_ : b13 = false := Bn.cl_off hcl 13 8 rfl rfl; subst e_
   clear hr hcl
   simp only [Bn.over, List.set_cons_zero, List.set_cons_succ, cond_true, cond_false]
   refine Bn.stp_load HX 0 ?_ rfl rfl ?_ Try.underlying24 sz24 ?_
   · rfl
   · rfl
   exact hK.out _ _ ⟨true, false, b2, false, false, false, false, false, false, b9, b10, false, false, false, A70, c70, A72, c72, A74, c74, A75, c75, g76, g77, rfl, (by simp only [Act.put, Bn.over, List.setIfInBounds_toArray, List.set_cons_zero, List.set_cons_succ, cond_true, cond_false]), HX⟩
 · rintro l a w' ⟨b0, b1, b2, b3, b4, b5, b6, b7, b8, b9, b10, b11, b12, b13, A70, c70, A72, c72, A74, c74, A75, c75, g76, g77, rfl, rfl, HX⟩ hcl hr K hK
   have e_ : b1 = false := Bn.rdy_self hr; subst e_
   have e_ : b0 = true := Bn.rdy_need hr 0 rfl; subst e_
   have e_ : b3 = false := Bn.cl_off hcl 3 1 rfl rfl; subst e_
   have e_ : b4 = false := Bn.cl_off hcl 4 1 rfl rfl; subst e_
   have e_ : b5 = false := Bn.cl_off hcl 5 4 rfl rfl; subst e_
   have e_ : b6 = false := Bn.cl_off hcl 6 5 rfl rfl; subst e_
   have e_ : b7 = false := Bn.cl_off hcl 7 5 rfl rfl; subst e_
   have e_ : b8 = false := Bn.cl_off hcl 8 5 rfl rfl; subst e_
   have e_ : b11 = false := Bn.cl_off hcl 11 6 rfl rfl; subst e_
   have e_ : b12 = false := Bn.cl_off hcl 12 7 rfl rfl; subst e_
   have e_ : b13 = false := Bn.cl_off hcl 13 8 rfl rfl; subst e_
   clear hr hcl
   simp only [Bn.over, List.set_cons_zero, List.set_cons_succ, cond_true, cond_false]
   refine Bn.stp_goes Try.func17 (by kernel_rfl) rfl #[.agg #[.slice A0_0 l0_0.length c0_0]] ?_ rfl ?_ ?_
   · rfl
   · (try simp only [List.map_toArray, List.map_cons, List.map_nil]); first | done | rfl
   (with_reducible refine (laws_toBig.calls k _ _ l0_0 l0_0 _ (Kd.C_below HR0_0.out HX.out.below) HC0_0.out ht0.out).mono ?_)
   rintro e w2' ⟨v69_0, rfl, ho0, hb⟩
   refine ⟨_, rfl, ?_⟩
   obtain ⟨A70, c70, rfl⟩ := Kd.R_slice ho0
   exact hK.out _ _ ⟨true, true, b2, false, false, false, false, false, false, b9, b10, false, false, false, A70, c70, A72, c72, A74, c74, A75, c75, g76, g77, rfl, (by simp only [Act.put, Bn.over, List.setIfInBounds_toArray, List.set_cons_zero, List.set_cons_succ, cond_true, cond_false]), ⟨HX.out.rowE ho0 hb⟩⟩
 · rintro l a w' ⟨b0, b1, b2, b3, b4, b5, b6, b7, b8, b9, b10, b11, b12, b13, A70, c70, A72, c72, A74, c74, A75, c75, g76, g77, rfl, rfl, HX⟩ hcl hr K hK
   have e_ : b2 = false := Bn.rdy_self hr; subst e_
   have e_ : b3 = false := Bn.cl_off hcl 3 2 rfl rfl; subst e_
   have e_ : b4 = false := Bn.cl_off hcl 4 3 rfl rfl; subst e_
   have e_ : b5 = false := Bn.cl_off hcl 5 4 rfl rfl; subst e_
   have e_ : b6 = false := Bn.cl_off hcl 6 5 rfl rfl; subst e_
   have e_ : b7 = false := Bn.cl_off hcl 7 5 rfl rfl; subst e_
   have e_ : b8 = false := Bn.cl_off hcl 8 5 rfl rfl; subst e_
   have e_ : b11 = false := Bn.cl_off hcl 11 6 rfl rfl; subst e_
   have e_ : b12 = false := Bn.cl_off hcl 12 7 rfl rfl; subst e_
   have e_ : b13 = false := Bn.cl_off hcl 13 8 rfl rfl; subst e_
   clear hr hcl
   simp only [Bn.over, List.set_cons_zero, List.set_cons_succ, cond_true, cond_false]
   refine Bn.stp_load HX 1 ?_ rfl rfl ?_ Try.underlying24 sz24 ?_
   · rfl
   · rfl
   exact hK.out _ _ ⟨b0, b1, true, false, false, false, false, false, false, b9, b10, false, false, false, A70, c70, A72, c72, A74, c74, A75, c75, g76, g77, rfl, (by simp only [Act.put, Bn.over, List.setIfInBounds_toArray, List.set_cons_zero, List.set_cons_succ, cond_true, cond_false]), HX⟩
 · rintro l a w' ⟨b0, b1, b2, b3, b4, b5, b6, b7, b8, b9, b10, b11, b12, b13, A70, c70, A72, c72, A74, c74, A75, c75, g76, g77, rfl, rfl, HX⟩ hcl hr K hK
   have e_ : b3 = false := Bn.rdy_self hr; subst e_
   have e_ : b2 = true := Bn.rdy_need hr 2 rfl; subst e_
   have e_ : b1 = true := Bn.rdy_need hr 1 rfl; subst e_
   have e_ : b4 = false := Bn.cl_off hcl 4 3 rfl rfl; subst e_
   have e_ : b5 = false := Bn.cl_off hcl 5 4 rfl rfl; subst e_
   have e_ : b6 = false := Bn.cl_off hcl 6 5 rfl rfl; subst e_
   have e_ : b7 = false := Bn.cl_off hcl 7 5 rfl rfl; subst e_
   have e_ : b8 = false := Bn.cl_off hcl 8 5 rfl rfl; subst e_
   have e_ : b11 = false := Bn.cl_off hcl 11 6 rfl rfl; subst e_
   have e_ : b12 = false := Bn.cl_off hcl 12 7 rfl rfl; subst e_
   have e_ : b13 = false := Bn.cl_off hcl 13 8 rfl rfl; subst e_
   clear hr hcl
   simp only [Bn.over, List.set_cons_zero, List.set_cons_succ, cond_true, cond_false]
   refine Bn.stp_goes Try.func17 (by kernel_rfl) rfl #[.agg #[.slice A1_0 l1_0.length c1_0]] ?_ rfl ?_ ?_
   · rfl
   · (try simp only [List.map_toArray, List.map_cons, List.map_nil]); first | done | rfl
   (with_reducible refine (laws_toBig.calls k _ _ l1_0 l1_0 _ (Kd.C_below HR1_0.out HX.out.below) HC1_0.out ht1.out).mono ?_)
   rintro e w2' ⟨v71_0, rfl, ho0, hb⟩
   refine ⟨_, rfl, ?_⟩
   obtain ⟨A72, c72, rfl⟩ := Kd.R_slice ho0
   exact hK.out _ _ ⟨b0, true, true, true, false, false, false, false, false, b9, b10, false, false, false, A70, c70, A72, c72, A74, c74, A75, c75, g76, g77, rfl, (by simp only [Act.put, Bn.over, List.setIfInBounds_toArray, List.set_cons_zero, List.set_cons_succ, cond_true, cond_false]), ⟨HX.out.rowE ho0 hb⟩⟩
 · rintro l a w' ⟨b0, b1, b2, b3, b4, b5, b6, b7, b8, b9, b10, b11, b12, b13, A70, c70, A72, c72, A74, c74, A75, c75, g76, g77, rfl, rfl, HX⟩ hcl hr K hK
   have e_ : b4 = false := Bn.rdy_self hr; subst e_
   have e_ : b1 = true := Bn.rdy_need hr 1 rfl; subst e_
   have e_ : b3 = true := Bn.rdy_need hr 3 rfl; subst e_
   have e_ : b5 = false := Bn.cl_off hcl 5 4 rfl rfl; subst e_
   have e_ : b6 = false := Bn.cl_off hcl 6 5 rfl rfl; subst e_
   have e_ : b7 = false := Bn.cl_off hcl 7 5 rfl rfl; subst e_
   have e_ : b8 = false := Bn.cl_off hcl 8 5 rfl rfl; subst e_
   have e_ : b11 = false := Bn.cl_off hcl 11 6 rfl rfl; subst e_
   have e_ : b12 = false := Bn.cl_off hcl 12 7 rfl rfl; subst e_
   have e_ : b13 = false := Bn.cl_off hcl 13 8 rfl rfl; subst e_
   clear hr hcl
   simp only [Bn.over, List.set_cons_zero, List.set_cons_succ, cond_true, cond_false]
   refine Bn.stp_goes Try.func33 (by kernel_rfl) rfl #[.agg #[.slice A70 l0_0.length c70], .agg #[.slice A72 l1_0.length c72]] ?_ rfl ?_ ?_
   · rfl
   · (try simp only [List.map_toArray, List.map_cons, List.map_nil]); first | done | rfl
   (with_reducible refine (impl_DivBig.calls k (fun k_ => (.slice A70 l0_0.length c70 : Value).ownBlock = some k_) _ _ l0_0 (fun k_ => (.slice A72 l1_0.length c72 : Value).ownBlock = some k_) _ _ l1_0 q r ok _ (HX.out.V 10 rfl) (HX.out.V 11 rfl) hI.out).mono ?_)
   rintro e w2' ⟨v73_0, v73_1, rfl, ho0, ho1, hb⟩
   refine ⟨_, rfl, ?_⟩
   obtain ⟨A74, c74, rfl⟩ := Kd.R_slice ho0
   obtain ⟨A75, c75, rfl⟩ := Kd.R_slice ho1
   exact hK.out _ _ ⟨b0, true, b2, true, true, false, false, false, false, b9, b10, false, false, false, A70, c70, A72, c72, A74, c74, A75, c75, g76, g77, rfl, (by simp only [Act.put, Bn.over, List.setIfInBounds_toArray, List.set_cons_zero, List.set_cons_succ, cond_true, cond_false]), ⟨HX.out.rowsE ho0 ho1 hb (fun k h1 h2 => by first | exact ho0.1 k h1 h2.symm | exact (ho0.1 k h1).2 h2.symm)⟩⟩
 · rintro l a w' ⟨b0, b1, b2, b3, b4, b5, b6, b7, b8, b9, b10, b11, b12, b13, A70, c70, A72, c72, A74, c74, A75, c75, g76, g77, rfl, rfl, HX⟩ hcl hr K hK
   have e_ : b5 = false := Bn.rdy_self hr; subst e_
   have e_ : b4 = true := Bn.rdy_need hr 4 rfl; subst e_
   have e_ : b6 = false := Bn.cl_off hcl 6 5 rfl rfl; subst e_
   have e_ : b7 = false := Bn.cl_off hcl 7 5 rfl rfl; subst e_
   have e_ : b8 = false := Bn.cl_off hcl 8 5 rfl rfl; subst e_
   have e_ : b11 = false := Bn.cl_off hcl 11 6 rfl rfl; subst e_
   have e_ : b12 = false := Bn.cl_off hcl 12 7 rfl rfl; subst e_
   have e_ : b13 = false := Bn.cl_off hcl 13 8 rfl rfl; subst e_
   clear hr hcl
   simp only [Bn.over, List.set_cons_zero, List.set_cons_succ, cond_true, cond_false]
   refine Bn.stp_value (v := .tuple #[.agg #[.slice A74 q.length c74], .agg #[.slice A75 r.length c75], .bool ok]) (w1 := w') ?_ ?_ ?_
   · rfl
   · first | rfl | (go_simp; done) | (go_simp; rfl)
   exact hK.out _ _ ⟨b0, b1, b2, b3, true, true, false, false, false, b9, b10, false, false, false, A70, c70, A72, c72, A74, c74, A75, c75, g76, g77, rfl, (by simp only [Act.put, Bn.over, List.setIfInBounds_toArray, List.set_cons_zero, List.set_cons_succ, cond_true, cond_false]), HX⟩
 · rintro l a w' ⟨b0, b1, b2, b3, b4, b5, b6, b7, b8, b9, b10, b11, b12, b13, A70, c70, A72, c72, A74, c74, A75, c75, g76, g77, rfl, rfl, HX⟩ hcl hr K hK
   have e_ : b6 = false := Bn.rdy_self hr; subst e_
   have e_ : b5 = true := Bn.rdy_need hr 5 rfl; subst e_
   have e_ : b11 = false := Bn.cl_off hcl 11 6 rfl rfl; subst e_
   have e_ : b12 = false := Bn.cl_off hcl 12 11 rfl rfl; subst e_
   have e_ : b13 = false := Bn.cl_off hcl 13 12 rfl rfl; subst e_
   clear hr hcl
   simp only [Bn.over, List.set_cons_zero, List.set_cons_succ, cond_true, cond_false]
   refine Bn.stp_value (v := .agg #[.slice A74 q.length c74]) (w1 := w') ?_ ?_ ?_
   · rfl
   · first | rfl | (go_simp; done) | (go_simp; rfl)
   exact hK.out _ _ ⟨b0, b1, b2, b3, b4, true, true, b7, b8, b9, b10, false, false, false, A70, c70, A72, c72, A74, c74, A75, c75, g76, g77, rfl, (by simp only [Act.put, Bn.over, List.setIfInBounds_toArray, List.set_cons_zero, List.set_cons_succ, cond_true, cond_false]), HX⟩
 · rintro l a w' ⟨b0, b1, b2, b3, b4, b5, b6, b7, b8, b9, b10, b11, b12, b13, A70, c70, A72, c72, A74, c74, A75, c75, g76, g77, rfl, rfl, HX⟩ hcl hr K hK
   have e_ : b7 = false := Bn.rdy_self hr; subst e_
   have e_ : b5 = true := Bn.rdy_need hr 5 rfl; subst e_
   have e_ : b12 = false := Bn.cl_off hcl 12 7 rfl rfl; subst e_
   have e_ : b13 = false := Bn.cl_off hcl 13 12 rfl rfl; subst e_
   clear hr hcl
   simp only [Bn.over, List.set_cons_zero, List.set_cons_succ, cond_true, cond_false]
   refine Bn.stp_value (v := .agg #[.slice A75 r.length c75]) (w1 := w') ?_ ?_ ?_
   · rfl
   · first | rfl | (go_simp; done) | (go_simp; rfl)
   exact hK.out _ _ ⟨b0, b1, b2, b3, b4, true, b6, true, b8, b9, b10, b11, false, false, A70, c70, A72, c72, A74, c74, A75, c75, g76, g77, rfl, (by simp only [Act.put, Bn.over, List.setIfInBounds_toArray, List.set_cons_zero, List.set_cons_succ, cond_true, cond_false]), HX⟩
 · rintro l a w' ⟨b0, b1, b2, b3, b4, b5, b6, b7, b8, b9, b10, b11, b12, b13, A70, c70, A72, c72, A74, c74, A75, c75, g76, g77, rfl, rfl, HX⟩ hcl hr K hK
   have e_ : b8 = false := Bn.rdy_self hr; subst e_
   have e_ : b5 = true := Bn.rdy_need hr 5 rfl; subst e_
   have e_ : b13 = false := Bn.cl_off hcl 13 8 rfl rfl; subst e_
   clear hr hcl
   simp only [Bn.over, List.set_cons_zero, List.set_cons_succ, cond_true, cond_false]
   refine Bn.stp_value (v := .bool ok) (w1 := w') ?_ ?_ ?_
   · rfl
   · first | rfl | (go_simp; done) | (go_simp; rfl)
   exact hK.out _ _ ⟨b0, b1, b2, b3, b4, true, b6, b7, true, b9, b10, b11, b12, false, A70, c70, A72, c72, A74, c74, A75, c75, g76, g77, rfl, (by simp only [Act.put, Bn.over, List.setIfInBounds_toArray, List.set_cons_zero, List.set_cons_succ, cond_true, cond_false]), HX⟩
 · rintro l a w' ⟨b0, b1, b2, b3, b4, b5, b6, b7, b8, b9, b10, b11, b12, b13, A70, c70, A72, c72, A74, c74, A75, c75, g76, g77, rfl, rfl, HX⟩ hcl hr K hK
   have e_ : b9 = false := Bn.rdy_self hr; subst e_
   have e_ : b11 = false := Bn.cl_off hcl 11 9 rfl rfl; subst e_
   have e_ : b12 = false := Bn.cl_off hcl 12 11 rfl rfl; subst e_
   have e_ : b13 = false := Bn.cl_off hcl 13 12 rfl rfl; subst e_
   clear hr hcl
   simp only [Bn.over, List.set_cons_zero, List.set_cons_succ, cond_true, cond_false]
   refine Bn.stp_alloc HX ?_ rfl al27 ?_
   · rfl
   intro g76 w2' h9
   exact hK.out _ _ ⟨b0, b1, b2, b3, b4, b5, b6, b7, b8, true, b10, false, false, false, A70, c70, A72, c72, A74, c74, A75, c75, g76, g77, rfl, (by simp only [Act.put, Bn.over, List.setIfInBounds_toArray, List.set_cons_zero, List.set_cons_succ, cond_true, cond_false]), (by cases b10; exact ⟨h9⟩; exact ⟨h9.swapE⟩)⟩
 · rintro l a w' ⟨b0, b1, b2, b3, b4, b5, b6, b7, b8, b9, b10, b11, b12, b13, A70, c70, A72, c72, A74, c74, A75, c75, g76, g77, rfl, rfl, HX⟩ hcl hr K hK
   have e_ : b10 = false := Bn.rdy_self hr; subst e_
   have e_ : b11 = false := Bn.cl_off hcl 11 10 rfl rfl; subst e_
   have e_ : b12 = false := Bn.cl_off hcl 12 10 rfl rfl; subst e_
   have e_ : b13 = false := Bn.cl_off hcl 13 12 rfl rfl; subst e_
   clear hr hcl
   simp only [Bn.over, List.set_cons_zero, List.set_cons_succ, cond_true, cond_false]
   refine Bn.stp_alloc HX ?_ rfl al27 ?_
   · rfl
   intro g77 w2' h9
   exact hK.out _ _ ⟨b0, b1, b2, b3, b4, b5, b6, b7, b8, b9, true, false, false, false, A70, c70, A72, c72, A74, c74, A75, c75, g76, g77, rfl, (by simp only [Act.put, Bn.over, List.setIfInBounds_toArray, List.set_cons_zero, List.set_cons_succ, cond_true, cond_false]), (by cases b9 <;> exact ⟨h9⟩)⟩
 · rintro l a w' ⟨b0, b1, b2, b3, b4, b5, b6, b7, b8, b9, b10, b11, b12, b13, A70, c70, A72, c72, A74, c74, A75, c75, g76, g77, rfl, rfl, HX⟩ hcl hr K hK
   have e_ : b11 = false := Bn.rdy_self hr; subst e_
   have e_ : b9 = true := Bn.rdy_need hr 9 rfl; subst e_
   have e_ : b6 = true := Bn.rdy_need hr 6 rfl; subst e_
   have e_ : b4 = true := Bn.rdy_need hr 4 rfl; subst e_
   have e_ : b0 = true := Bn.rdy_need hr 0 rfl; subst e_
   have e_ : b1 = true := Bn.rdy_need hr 1 rfl; subst e_
   have e_ : b2 = true := Bn.rdy_need hr 2 rfl; subst e_
   have e_ : b3 = true := Bn.rdy_need hr 3 rfl; subst e_
   have e_ : b5 = true := Bn.rdy_need hr 5 rfl; subst e_
   have e_ : b10 = true := Bn.rdy_need hr 10 rfl; subst e_
   have e_ : b12 = false := Bn.cl_off hcl 12 11 rfl rfl; subst e_
   have e_ : b13 = false := Bn.cl_off hcl 13 12 rfl rfl; subst e_
   clear hr hcl
   simp only [Bn.over, List.set_cons_zero, List.set_cons_succ, cond_true, cond_false]
   refine Bn.stp_store (cells := #[.slice A74 q.length c74]) HX 8 ?_ rfl rfl rfl ?_ ?_ sz27 rfl rfl ?_
   · rfl
   · rfl
   · rfl
   intro w2' h9
   exact hK.out _ _ ⟨true, true, true, true, true, true, true, b7, b8, true, true, true, false, false, A70, c70, A72, c72, A74, c74, A75, c75, g76, g77, rfl, (by simp only [Act.put, Bn.over, List.setIfInBounds_toArray, List.set_cons_zero, List.set_cons_succ, cond_true, cond_false]), ⟨h9⟩⟩
 · rintro l a w' ⟨b0, b1, b2, b3, b4, b5, b6, b7, b8, b9, b10, b11, b12, b13, A70, c70, A72, c72, A74, c74, A75, c75, g76, g77, rfl, rfl, HX⟩ hcl hr K hK
   have e_ : b12 = false := Bn.rdy_self hr; subst e_
   have e_ : b10 = true := Bn.rdy_need hr 10 rfl; subst e_
   have e_ : b7 = true := Bn.rdy_need hr 7 rfl; subst e_
   have e_ : b11 = true := Bn.rdy_need hr 11 rfl; subst e_
   have e_ : b0 = true := Bn.rdy_need hr 0 rfl; subst e_
   have e_ : b1 = true := Bn.rdy_need hr 1 rfl; subst e_
   have e_ : b2 = true := Bn.rdy_need hr 2 rfl; subst e_
   have e_ : b3 = true := Bn.rdy_need hr 3 rfl; subst e_
   have e_ : b4 = true := Bn.rdy_need hr 4 rfl; subst e_
   have e_ : b5 = true := Bn.rdy_need hr 5 rfl; subst e_
   have e_ : b6 = true := Bn.rdy_need hr 6 rfl; subst e_
   have e_ : b9 = true := Bn.rdy_need hr 9 rfl; subst e_
   have e_ : b13 = false := Bn.cl_off hcl 13 12 rfl rfl; subst e_
   clear hr hcl
   simp only [Bn.over, List.set_cons_zero, List.set_cons_succ, cond_true, cond_false]
   refine Bn.stp_store (cells := #[.slice A75 r.length c75]) HX 9 ?_ rfl rfl rfl ?_ ?_ sz27 rfl rfl ?_
   · rfl
   · rfl
   · rfl
   intro w2' h9
   exact hK.out _ _ ⟨true, true, true, true, true, true, true, true, b8, true, true, true, true, false, A70, c70, A72, c72, A74, c74, A75, c75, g76, g77, rfl, (by simp only [Act.put, Bn.over, List.setIfInBounds_toArray, List.set_cons_zero, List.set_cons_succ, cond_true, cond_false]), ⟨h9⟩⟩
 · rintro l a w' ⟨b0, b1, b2, b3, b4, b5, b6, b7, b8, b9, b10, b11, b12, b13, A70, c70, A72, c72, A74, c74, A75, c75, g76, g77, rfl, rfl, HX⟩ hcl hr K hK
   have e_ : b13 = false := Bn.rdy_self hr; subst e_
   have e_ : b8 = true := Bn.rdy_need hr 8 rfl; subst e_
   have e_ : b12 = true := Bn.rdy_need hr 12 rfl; subst e_
   have e_ : b0 = true := Bn.rdy_need hr 0 rfl; subst e_
   have e_ : b1 = true := Bn.rdy_need hr 1 rfl; subst e_
   have e_ : b2 = true := Bn.rdy_need hr 2 rfl; subst e_
   have e_ : b3 = true := Bn.rdy_need hr 3 rfl; subst e_
   have e_ : b4 = true := Bn.rdy_need hr 4 rfl; subst e_
   have e_ : b5 = true := Bn.rdy_need hr 5 rfl; subst e_
   have e_ : b6 = true := Bn.rdy_need hr 6 rfl; subst e_
   have e_ : b7 = true := Bn.rdy_need hr 7 rfl; subst e_
   have e_ : b9 = true := Bn.rdy_need hr 9 rfl; subst e_
   have e_ : b10 = true := Bn.rdy_need hr 10 rfl; subst e_
   have e_ : b11 = true := Bn.rdy_need hr 11 rfl; subst e_
   clear hr hcl
   simp only [Bn.over, List.set_cons_zero, List.set_cons_succ, cond_true, cond_false]
   refine Bn.stp_value (v := .bool ok) (w1 := w') ?_ ?_ ?_
   · rfl
   · first | rfl | (go_simp; done) | (go_simp; rfl)
   exact hK.out _ _ ⟨true, true, true, true, true, true, true, true, true, true, true, true, true, true, A70, c70, A72, c72, A74, c74, A75, c75, g76, g77, rfl, (by simp only [Act.put, Bn.over, List.setIfInBounds_toArray, List.set_cons_zero, List.set_cons_succ, cond_true, cond_false]), HX⟩
 rintro a w78 ⟨b0, b1, b2, b3, b4, b5, b6, b7, b8, b9, b10, b11, b12, b13, A70, c70, A72, c72, A74, c74, A75, c75, g76, g77, hl, rfl, HX⟩
 simp only [List.replicate, List.cons.injEq, and_true] at hl
 obtain ⟨rfl, rfl, rfl, rfl, rfl, rfl, rfl, rfl, rfl, rfl, rfl, rfl, rfl, rfl⟩ := hl
 simp only [Bn.over, List.set_cons_zero, List.set_cons_succ, cond_true, cond_false]
 simp only [List.cons_append, List.nil_append, cond_true] at HX
 go_wp2_with (first | ((with_reducible refine gate_dst (N := 128) rfl ?_); refine Bn.loadE (x := .tmp 17) (g := g76) (cs := #[.slice A74 q.length c74]) (t := 27) HX 8 rfl rfl rfl rfl Try.underlying27 sz27 ?_; simp only [Act.put, List.setIfInBounds_toArray, List.set_cons_zero, List.set_cons_succ]) | ((with_reducible refine gate_dst (N := 129) rfl ?_); refine Bn.loadE (x := .tmp 6) (g := g16) (cs := #[.slice A14 q.length c14]) (t := 27) HX 2 rfl rfl rfl rfl Try.underlying27 sz27 ?_; simp only [Act.put, List.setIfInBounds_toArray, List.set_cons_zero, List.set_cons_succ]) | ((with_reducible refine gate_dst (N := 130) rfl ?_); refine goesL_ (some 130) rfl rfl Try.func19 (by kernel_rfl) rfl #[.agg #[.slice A74 q.length c74], .agg #[.slice A14 q.length c14]] rfl (by (try simp only [List.map_toArray, List.map_cons, List.map_nil]); first | done | rfl) ?_; (with_reducible refine (laws_eqBig.calls k _ _ q _ _ q true _ (HX.out.C 12 rfl) (HX.out.cap 12 rfl) (HX.out.C 2 rfl) (HX.out.cap 2 rfl) hq.out).mono ?_); rintro e w80 ⟨rfl, hb⟩; refine ⟨_, rfl, ?_⟩; replace HX := Aside0.mk (HX.out.call hb); clear hb; simp only [Act.put, List.setIfInBounds_toArray, List.set_cons_zero, List.set_cons_succ]) | ((with_reducible refine gate_dst (N := 133) rfl ?_); refine gate_guard (by first | rfl | (go_simp; done)) ?_; refine Bn.loadE (x := .tmp 18) (g := g77) (cs := #[.slice A75 r.length c75]) (t := 27) HX 9 rfl rfl rfl rfl Try.underlying27 sz27 ?_; simp only [Act.put, List.setIfInBounds_toArray, List.set_cons_zero, List.set_cons_succ]) | ((with_reducible refine gate_dst (N := 134) rfl ?_); refine gate_guard (by first | rfl | (go_simp; done)) ?_; refine Bn.loadE (x := .tmp 7) (g := g17) (cs := #[.slice A15 r.length c15]) (t := 27) HX 3 rfl rfl rfl rfl Try.underlying27 sz27 ?_; simp only [Act.put, List.setIfInBounds_toArray, List.set_cons_zero, List.set_cons_succ]) | ((with_reducible refine gate_dst (N := 135) rfl ?_); refine gate_guard (by first | rfl | (go_simp; done)) ?_; refine goesL_ (some 135) rfl rfl Try.func19 (by kernel_rfl) rfl #[.agg #[.slice A75 r.length c75], .agg #[.slice A15 r.length c15]] rfl (by (try simp only [List.map_toArray, List.map_cons, List.map_nil]); first | done | rfl) ?_; (with_reducible refine (laws_eqBig.calls k _ _ r _ _ r true _ (HX.out.C 13 rfl) (HX.out.cap 13 rfl) (HX.out.C 3 rfl) (HX.out.cap 3 rfl) hr.out).mono ?_); rintro e w82 ⟨rfl, hb⟩; refine ⟨_, rfl, ?_⟩; replace HX := Aside0.mk (HX.out.call hb); clear hb; simp only [Act.put, List.setIfInBounds_toArray, List.set_cons_zero, List.set_cons_succ]) | ((with_reducible refine gate_dst (N := 143) rfl ?_); refine Bn.loadE (x := .tmp 11) (g := g35) (cs := #[.slice A32 q.length c32]) (t := 27) HX 6 rfl rfl rfl rfl Try.underlying27 sz27 ?_; simp only [Act.put, List.setIfInBounds_toArray, List.set_cons_zero, List.set_cons_succ]) | ((with_reducible refine gate_dst (N := 145) rfl ?_); refine goesL_ (some 145) rfl rfl Try.func23 (by kernel_rfl) rfl #[.agg #[.slice A32 q.length c32], .int .i64 1] rfl (by (try simp only [List.map_toArray, List.map_cons, List.map_nil]); first | done | rfl) ?_; refine calls_of_args (args' := #[.agg #[.slice A32 zq.length c32], .int .i64 1]) (by rw [HX.out.len 6 rfl]) ?_; (with_reducible refine (laws_heldBig.calls k _ _ zq 1 m0 _ (HX.out.CC 6 rfl) (HX.out.ccap 6 rfl) hh0.out).mono ?_); rintro e w84 ⟨rfl, hb⟩; refine ⟨_, rfl, ?_⟩; replace HX := Aside0.mk (HX.out.call hb); clear hb; simp only [Act.put, List.setIfInBounds_toArray, List.set_cons_zero, List.set_cons_succ]) | ((with_reducible refine gate_dst (N := 148) rfl ?_); refine Bn.loadE (x := .tmp 12) (g := g37) (cs := #[.slice A33 r.length c33]) (t := 27) HX 7 rfl rfl rfl rfl Try.underlying27 sz27 ?_; simp only [Act.put, List.setIfInBounds_toArray, List.set_cons_zero, List.set_cons_succ]) | ((with_reducible refine gate_dst (N := 150) rfl ?_); refine goesL_ (some 150) rfl rfl Try.func23 (by kernel_rfl) rfl #[.agg #[.slice A33 r.length c33], .int .i64 m0] rfl (by (try simp only [List.map_toArray, List.map_cons, List.map_nil]); first | done | rfl) ?_; refine calls_of_args (args' := #[.agg #[.slice A33 zr.length c33], .int .i64 m0]) (by rw [HX.out.len 7 rfl]) ?_; (with_reducible refine (laws_heldBig.calls k _ _ zr m0 m1 _ (HX.out.CC 7 rfl) (HX.out.ccap 7 rfl) hh1.out).mono ?_); rintro e w86 ⟨rfl, hb⟩; refine ⟨_, rfl, ?_⟩; replace HX := Aside0.mk (HX.out.call hb); clear hb; simp only [Act.put, List.setIfInBounds_toArray, List.set_cons_zero, List.set_cons_succ]))
 go_ret
 exact ⟨rfl, HX.out.below⟩

end Go.Proofs.Ytcehboknhdmmfaa.QFnExactDivBig
