import Derived.Test.YtadooofomkdaoaaBn
import Derived.Test.YtadooofomkdaoaaQFnLimbsx0
import Derived.Test.YtadooofomkdaoaaQFnLimbsx1
import Derived.Test.YtadooofomkdaoaaQFnLimbsx2
import Derived.Test.YtadooofomkdaoaaQFnLimbsx3
import Derived.Test.YtadooofomkdaoaaQFnLimbsx4
import Derived.Test.YtadooofomkdaoaaQFnLimbsx5
import Derived.Test.YtadooofomkdaoaaQFnLimbsx7
import Derived.Test.YtadooofomkdaoaaQFnLimbsx8
import Derived.Test.YtadooofomkdaoaaQFnLimbsx9
import Derived.Test.YtadooofomkdaoaaQFnLimbsx10
import Derived.Test.YtadooofomkdaoaaQFnLimbsx12
import Derived.Test.YtadooofomkdaoaaQFnLimbsx13
import Derived.Test.YtadooofomkdaoaaQFnLimbsx14
namespace Go.Proofs.Ytadooofomkdaoaa.QFnLimbs
open Go.RowKit Go.Proofs.YtadooofomkdaoaaW.PrintWords Go.Proofs.YtadooofomkdaoaaW.PrintLast Go.Proofs.YtadooofomkdaoaaW.PrintMore
attribute [local go_sem] max2_int min2_int max_two min_two max_three min_three max_four min_four   -- for this text's walks alone
set_option linter.unusedVariables false
set_option linter.unusedSimpArgs false

/-! ### laws_FnLimbs: function 3 -/
theorem sz25 : (Try.prog.info? 25).map (·.size) = some 1 := by kernel_rfl
theorem al25 (w : World) : (Instr.alloc 25 true (.tuple #[])).run Try.prog w = .ok (.pointer (some ⟨w.heap.size, 0, none⟩)) (w.alloc (.cells #[.slice none 0 0] 25 (0, 0))) := by have hu25 := Try.underlying25; go_simp
/-- What the plain half shows: how each call of the law answers. -/
def laws_FnLimbs.ok (k : Nat) (l0 l1 : List Int) : Prop :=
  (wrap64 ((l0.length : Int) + (l1.length : Int))) > 1048576 ∨ ¬ (wrap64 ((l0.length : Int) + (l1.length : Int))) > 1048576 ∧ ∃ (a b s : List Int) (ok : Bool) (q r : List Int) (one g : Bool) (x : List Int) (t : ByteArray) (two : Bool) (u : ByteArray) (y : List Int) (four : Bool) (z : List Int) (sh : Int) (h : List Int) (six : Bool) (n : Int) (o : List Int) (eight : Bool),
    spec_DrawAddBig.f k l0 = some (a, b) ∧ impl_AddBig.f k a b = some (s, ok) ∧ spec_AddBig.f k a b = some (s, ok) ∧ impl_DivBig.f k a b = some (q, r, one) ∧ spec_DivBig.f k a b = some (q, r, one) ∧ laws_sameBig.f k s s = some true ∧ laws_sameBig.f k q q = some true ∧ laws_sameBig.f k r r = some true ∧
    impl_GoodBig.f k a = some g ∧ spec_GoodBig.f k a = some g ∧ laws_sameBig.f k a a = some true ∧ (ok = true → impl_LessBig.f k s b = some (a, true) ∧ impl_GoodBig.f k s = some true) ∧
    (one = true → ∃ p, impl_TimesBig.f k q b = some (p, true) ∧ impl_AddBig.f k p r = some (a, true) ∧ impl_CompareBig.f k r b = some ((-1), true)) ∧
    spec_DrawDigitsOf.f k l1 = some x ∧ impl_DigitsOf.f k x = some (t, two) ∧ spec_DigitsOf.f k x = some (t, two) ∧ spec_DrawOfDigits.f k l1 = some u ∧ impl_OfDigits.f k u = some (y, four) ∧ spec_OfDigits.f k u = some (y, four) ∧ laws_sameBig.f k y y = some true ∧
    (two = true → impl_OfDigits.f k t = some (x, true) ∧ laws_sameBig.f k x x = some true) ∧
    spec_DrawShiftBig.f k l1 = some (z, sh) ∧ impl_ShiftBig.f k z sh = some (h, six) ∧ spec_ShiftBig.f k z sh = some (h, six) ∧ spec_DrawBigOf.f l1 = some n ∧ impl_BigOf.f k n = some (o, eight) ∧ spec_BigOf.f k n = some (o, eight) ∧ laws_sameBig.f k h h = some true ∧ laws_sameBig.f k o o = some true ∧
    (sh ≤ 1000) ∧ (six = true → 0 ≤ sh → impl_ShiftBig.f k h (-sh) = some (z, true) ∧ laws_sameBig.f k z z = some true)
set_option maxHeartbeats 16000000 in
set_option maxRecDepth 100000 in
theorem laws_FnLimbs.calls (k : Nat) (A0 : Option Addr) (c0 : Nat) (l0 : List Int) (A1 : Option Addr) (c1 : Nat) (l1 : List Int) (_r : Bool) (w : World) (hr0 : Kd.C (Kd.int .u8) w A0 l0.length l0) (hc0 : l0.length ≤ c0) (hr1 : Kd.C (Kd.int .u8) w A1 l1.length l1) (hc1 : l1.length ≤ c1) (h : laws_FnLimbs.ok k l0 l1) :
    Calls Try.prog 3 #[.slice A0 l0.length c0, .slice A1 l1.length c1] w fun e w' => e = .returned (.bool true) ∧ Below w.heap.size w w' := by
 have hu25 := Try.underlying25
 have HR0 := Aside0.mk hr0
 have HC0 := Aside0.mk hc0
 have HR1 := Aside0.mk hr1
 have HC1 := Aside0.mk hc1
 clear hr0 hc0 hr1 hc1
 rcases h with h | ⟨hn_, a, b, s, ok, q, r, one, g, x, t, two, u, y, four, z, sh, h, six, n, o, eight, hab, hs, hs2, hq, hq2, hss, hqq, hrr, hga, hga2, haa, hO, hOne, hx, ht, ht2, hu, hy, hy2, hyy, hTwo, hz, hh, hh2, hn, ho, ho2, hhh, hoo, hsb, hSix⟩
 · have hd0 : decide (1048576 < (wrap64 ((l0.length : Int) + (l1.length : Int)))) = true := decide_eq_true h
   clear h
   go_enter Try.func3, Try.ntmps3
   go_wp2
   go_ret
   exact ⟨rfl, Below.refl _ _⟩
 have hd0 : decide (1048576 < (wrap64 ((l0.length : Int) + (l1.length : Int)))) = false := decide_eq_false hn_
 clear hn_
 replace hab := Aside0.mk hab
 replace hs := Aside0.mk hs
 replace hs2 := Aside0.mk hs2
 replace hq := Aside0.mk hq
 replace hq2 := Aside0.mk hq2
 replace hss := Aside0.mk hss
 replace hqq := Aside0.mk hqq
 replace hrr := Aside0.mk hrr
 replace hga := Aside0.mk hga
 replace hga2 := Aside0.mk hga2
 replace haa := Aside0.mk haa
 replace hO := Aside0.mk hO
 replace hOne := Aside0.mk hOne
 replace hx := Aside0.mk hx
 replace ht := Aside0.mk ht
 replace ht2 := Aside0.mk ht2
 replace hu := Aside0.mk hu
 replace hy := Aside0.mk hy
 replace hy2 := Aside0.mk hy2
 replace hyy := Aside0.mk hyy
 replace hTwo := Aside0.mk hTwo
 replace hz := Aside0.mk hz
 replace hh := Aside0.mk hh
 replace hh2 := Aside0.mk hh2
 replace hn := Aside0.mk hn
 replace ho := Aside0.mk ho
 replace ho2 := Aside0.mk ho2
 replace hhh := Aside0.mk hhh
 replace hoo := Aside0.mk hoo
 replace hSix := Aside0.mk hSix
 have HX := Aside0.mk (Bn.B.start w)
 go_enter Try.func3, Try.ntmps3
 go_upto_region 6 with (first | ((with_reducible refine gate_dst (N := 58) rfl ?_); refine goesL_ (some 58) rfl rfl Try.func13 (by kernel_rfl) rfl #[.slice A0 l0.length c0] rfl (by (try simp only [List.map_toArray, List.map_cons, List.map_nil]); first | done | rfl) ?_; (with_reducible refine (spec_DrawAddBig.calls k _ _ l0 a b _ (Kd.C_below HR0.out HX.out.below) HC0.out hab.out).mono ?_); rintro e w4 ⟨v1_0, v1_1, rfl, ho0, ho1, hb⟩; refine ⟨_, rfl, ?_⟩; obtain ⟨A2, c2, rfl⟩ := Kd.R_slice ho0; obtain ⟨A3, c3, rfl⟩ := Kd.R_slice ho1; replace HX := Aside0.mk (HX.out.rowsE ho0 ho1 hb (fun k h1 h2 => by first | exact ho0.1 k h1 h2.symm | exact (ho0.1 k h1).2 h2.symm)); clear ho0 ho1 hb; simp only [List.cons_append, List.nil_append, List.set_cons_succ, List.set_cons_zero] at HX; simp only [Act.put, List.setIfInBounds_toArray, List.set_cons_zero, List.set_cons_succ]) | ((with_reducible refine gate_dst (N := 5) rfl ?_); refine Bn.allocE HX rfl rfl al25 ?_; clear HX; intro g5 w6 HX; simp only [List.cons_append, List.nil_append, List.set_cons_succ, List.set_cons_zero] at HX; simp only [Act.put, List.setIfInBounds_toArray, List.set_cons_zero, List.set_cons_succ]) | ((with_reducible refine gate_dst (N := 6) rfl ?_); refine Bn.allocE HX rfl rfl al25 ?_; clear HX; intro g7 w8 HX; simp only [List.cons_append, List.nil_append, List.set_cons_succ, List.set_cons_zero] at HX; simp only [Act.put, List.setIfInBounds_toArray, List.set_cons_zero, List.set_cons_succ]) | ((with_reducible refine gate_store (t := 25) (p := 5) rfl ?_); refine Bn.storeE (x := .tmp 5) (y := .tmp 59) (g := g5) (cs := #[.slice none 0 0]) (t := 25) (cells := #[.slice A2 a.length c2]) HX 0 rfl rfl rfl rfl rfl rfl sz25 rfl rfl ?_; clear HX; intro w9 HX; simp only [List.cons_append, List.nil_append, List.set_cons_succ, List.set_cons_zero] at HX) | ((with_reducible refine gate_store (t := 25) (p := 6) rfl ?_); refine Bn.storeE (x := .tmp 6) (y := .tmp 60) (g := g7) (cs := #[.slice none 0 0]) (t := 25) (cells := #[.slice A3 b.length c3]) HX 1 rfl rfl rfl rfl rfl rfl sz25 rfl rfl ?_; clear HX; intro w10 HX; simp only [List.cons_append, List.nil_append, List.set_cons_succ, List.set_cons_zero] at HX) | ((with_reducible refine gate_dst (N := 62) rfl ?_); refine Bn.loadE (x := .tmp 5) (g := g5) (cs := #[.slice A2 a.length c2]) (t := 25) HX 0 rfl rfl rfl rfl Try.underlying25 sz25 ?_; simp only [Act.put, List.setIfInBounds_toArray, List.set_cons_zero, List.set_cons_succ]) | ((with_reducible refine gate_dst (N := 63) rfl ?_); refine Bn.loadE (x := .tmp 6) (g := g7) (cs := #[.slice A3 b.length c3]) (t := 25) HX 1 rfl rfl rfl rfl Try.underlying25 sz25 ?_; simp only [Act.put, List.setIfInBounds_toArray, List.set_cons_zero, List.set_cons_succ]) | ((with_reducible refine gate_dst (N := 64) rfl ?_); refine goesL_ (some 64) rfl rfl Try.func14 (by kernel_rfl) rfl #[.agg #[.slice A2 a.length c2], .agg #[.slice A3 b.length c3]] rfl (by (try simp only [List.map_toArray, List.map_cons, List.map_nil]); first | done | rfl) ?_; (with_reducible refine (impl_AddBig.calls k (fun k_ => (.slice A2 a.length c2 : Value).ownBlock = some k_) _ _ a (fun k_ => (.slice A3 b.length c3 : Value).ownBlock = some k_) _ _ b s ok _ (HX.out.V 0 rfl) (HX.out.V 1 rfl) hs.out).mono ?_); rintro e w13 ⟨v11_0, rfl, ho0, hb⟩; refine ⟨_, rfl, ?_⟩; obtain ⟨A12, c12, rfl⟩ := Kd.R_slice ho0; replace HX := Aside0.mk (HX.out.rowE ho0 hb); clear ho0 hb; simp only [List.cons_append, List.nil_append, List.set_cons_succ, List.set_cons_zero] at HX; simp only [Act.put, List.setIfInBounds_toArray, List.set_cons_zero, List.set_cons_succ]) | ((with_reducible refine gate_dst (N := 7) rfl ?_); refine Bn.allocE HX rfl rfl al25 ?_; clear HX; intro g14 w15 HX; simp only [List.cons_append, List.nil_append, List.set_cons_succ, List.set_cons_zero] at HX; simp only [Act.put, List.setIfInBounds_toArray, List.set_cons_zero, List.set_cons_succ]) | ((with_reducible refine gate_store (t := 25) (p := 7) rfl ?_); refine Bn.storeE (x := .tmp 7) (y := .tmp 65) (g := g14) (cs := #[.slice none 0 0]) (t := 25) (cells := #[.slice A12 s.length c12]) HX 2 rfl rfl rfl rfl rfl rfl sz25 rfl rfl ?_; clear HX; intro w16 HX; simp only [List.cons_append, List.nil_append, List.set_cons_succ, List.set_cons_zero] at HX) | ((with_reducible refine gate_dst (N := 68) rfl ?_); refine Bn.loadE (x := .tmp 5) (g := g5) (cs := #[.slice A2 a.length c2]) (t := 25) HX 0 rfl rfl rfl rfl Try.underlying25 sz25 ?_; simp only [Act.put, List.setIfInBounds_toArray, List.set_cons_zero, List.set_cons_succ]) | ((with_reducible refine gate_dst (N := 69) rfl ?_); refine Bn.loadE (x := .tmp 6) (g := g7) (cs := #[.slice A3 b.length c3]) (t := 25) HX 1 rfl rfl rfl rfl Try.underlying25 sz25 ?_; simp only [Act.put, List.setIfInBounds_toArray, List.set_cons_zero, List.set_cons_succ]) | ((with_reducible refine gate_dst (N := 70) rfl ?_); refine goesL_ (some 70) rfl rfl Try.func15 (by kernel_rfl) rfl #[.agg #[.slice A2 a.length c2], .agg #[.slice A3 b.length c3]] rfl (by (try simp only [List.map_toArray, List.map_cons, List.map_nil]); first | done | rfl) ?_; (with_reducible refine (spec_AddBig.calls k _ _ a _ _ b s ok _ (HX.out.C 0 rfl) (HX.out.cap 0 rfl) (HX.out.C 1 rfl) (HX.out.cap 1 rfl) hs2.out).mono ?_); rintro e w19 ⟨v17_0, rfl, ho0, hb⟩; refine ⟨_, rfl, ?_⟩; obtain ⟨A18, c18, rfl⟩ := Kd.R_slice ho0; replace HX := Aside0.mk (HX.out.rowE ho0 hb); clear ho0 hb; simp only [List.cons_append, List.nil_append, List.set_cons_succ, List.set_cons_zero] at HX; simp only [Act.put, List.setIfInBounds_toArray, List.set_cons_zero, List.set_cons_succ]) | ((with_reducible refine gate_dst (N := 9) rfl ?_); refine Bn.allocE HX rfl rfl al25 ?_; clear HX; intro g20 w21 HX; simp only [List.cons_append, List.nil_append, List.set_cons_succ, List.set_cons_zero] at HX; simp only [Act.put, List.setIfInBounds_toArray, List.set_cons_zero, List.set_cons_succ]) | ((with_reducible refine gate_store (t := 25) (p := 9) rfl ?_); refine Bn.storeE (x := .tmp 9) (y := .tmp 71) (g := g20) (cs := #[.slice none 0 0]) (t := 25) (cells := #[.slice A18 s.length c18]) HX 3 rfl rfl rfl rfl rfl rfl sz25 rfl rfl ?_; clear HX; intro w22 HX; simp only [List.cons_append, List.nil_append, List.set_cons_succ, List.set_cons_zero] at HX))
 go_upto_region 8 with (first | ((with_reducible refine gate_dst (N := 74) rfl ?_); refine Bn.loadE (x := .tmp 5) (g := g5) (cs := #[.slice A2 a.length c2]) (t := 25) HX 0 rfl rfl rfl rfl Try.underlying25 sz25 ?_; simp only [Act.put, List.setIfInBounds_toArray, List.set_cons_zero, List.set_cons_succ]) | ((with_reducible refine gate_dst (N := 75) rfl ?_); refine Bn.loadE (x := .tmp 6) (g := g7) (cs := #[.slice A3 b.length c3]) (t := 25) HX 1 rfl rfl rfl rfl Try.underlying25 sz25 ?_; simp only [Act.put, List.setIfInBounds_toArray, List.set_cons_zero, List.set_cons_succ]) | ((with_reducible refine gate_dst (N := 76) rfl ?_); refine goesL_ (some 76) rfl rfl Try.func16 (by kernel_rfl) rfl #[.agg #[.slice A2 a.length c2], .agg #[.slice A3 b.length c3]] rfl (by (try simp only [List.map_toArray, List.map_cons, List.map_nil]); first | done | rfl) ?_; (with_reducible refine (impl_DivBig.calls k (fun k_ => (.slice A2 a.length c2 : Value).ownBlock = some k_) _ _ a (fun k_ => (.slice A3 b.length c3 : Value).ownBlock = some k_) _ _ b q r one _ (HX.out.V 0 rfl) (HX.out.V 1 rfl) hq.out).mono ?_); rintro e w26 ⟨v23_0, v23_1, rfl, ho0, ho1, hb⟩; refine ⟨_, rfl, ?_⟩; obtain ⟨A24, c24, rfl⟩ := Kd.R_slice ho0; obtain ⟨A25, c25, rfl⟩ := Kd.R_slice ho1; replace HX := Aside0.mk (HX.out.rowsE ho0 ho1 hb (fun k h1 h2 => by first | exact ho0.1 k h1 h2.symm | exact (ho0.1 k h1).2 h2.symm)); clear ho0 ho1 hb; simp only [List.cons_append, List.nil_append, List.set_cons_succ, List.set_cons_zero] at HX; simp only [Act.put, List.setIfInBounds_toArray, List.set_cons_zero, List.set_cons_succ]) | ((with_reducible refine gate_dst (N := 11) rfl ?_); refine Bn.allocE HX rfl rfl al25 ?_; clear HX; intro g27 w28 HX; simp only [List.cons_append, List.nil_append, List.set_cons_succ, List.set_cons_zero] at HX; simp only [Act.put, List.setIfInBounds_toArray, List.set_cons_zero, List.set_cons_succ]) | ((with_reducible refine gate_dst (N := 12) rfl ?_); refine Bn.allocE HX rfl rfl al25 ?_; clear HX; intro g29 w30 HX; simp only [List.cons_append, List.nil_append, List.set_cons_succ, List.set_cons_zero] at HX; simp only [Act.put, List.setIfInBounds_toArray, List.set_cons_zero, List.set_cons_succ]) | ((with_reducible refine gate_store (t := 25) (p := 11) rfl ?_); refine Bn.storeE (x := .tmp 11) (y := .tmp 77) (g := g27) (cs := #[.slice none 0 0]) (t := 25) (cells := #[.slice A24 q.length c24]) HX 4 rfl rfl rfl rfl rfl rfl sz25 rfl rfl ?_; clear HX; intro w31 HX; simp only [List.cons_append, List.nil_append, List.set_cons_succ, List.set_cons_zero] at HX) | ((with_reducible refine gate_store (t := 25) (p := 12) rfl ?_); refine Bn.storeE (x := .tmp 12) (y := .tmp 78) (g := g29) (cs := #[.slice none 0 0]) (t := 25) (cells := #[.slice A25 r.length c25]) HX 5 rfl rfl rfl rfl rfl rfl sz25 rfl rfl ?_; clear HX; intro w32 HX; simp only [List.cons_append, List.nil_append, List.set_cons_succ, List.set_cons_zero] at HX) | ((with_reducible refine gate_dst (N := 81) rfl ?_); refine Bn.loadE (x := .tmp 5) (g := g5) (cs := #[.slice A2 a.length c2]) (t := 25) HX 0 rfl rfl rfl rfl Try.underlying25 sz25 ?_; simp only [Act.put, List.setIfInBounds_toArray, List.set_cons_zero, List.set_cons_succ]) | ((with_reducible refine gate_dst (N := 82) rfl ?_); refine Bn.loadE (x := .tmp 6) (g := g7) (cs := #[.slice A3 b.length c3]) (t := 25) HX 1 rfl rfl rfl rfl Try.underlying25 sz25 ?_; simp only [Act.put, List.setIfInBounds_toArray, List.set_cons_zero, List.set_cons_succ]) | ((with_reducible refine gate_dst (N := 83) rfl ?_); refine goesL_ (some 83) rfl rfl Try.func17 (by kernel_rfl) rfl #[.agg #[.slice A2 a.length c2], .agg #[.slice A3 b.length c3]] rfl (by (try simp only [List.map_toArray, List.map_cons, List.map_nil]); first | done | rfl) ?_; (with_reducible refine (spec_DivBig.calls k _ _ a _ _ b q r one _ (HX.out.C 0 rfl) (HX.out.cap 0 rfl) (HX.out.C 1 rfl) (HX.out.cap 1 rfl) hq2.out).mono ?_); rintro e w36 ⟨v33_0, v33_1, rfl, ho0, ho1, hb⟩; refine ⟨_, rfl, ?_⟩; obtain ⟨A34, c34, rfl⟩ := Kd.R_slice ho0; obtain ⟨A35, c35, rfl⟩ := Kd.R_slice ho1; replace HX := Aside0.mk (HX.out.rowsE ho0 ho1 hb (fun k h1 h2 => by first | exact ho0.1 k h1 h2.symm | exact (ho0.1 k h1).2 h2.symm)); clear ho0 ho1 hb; simp only [List.cons_append, List.nil_append, List.set_cons_succ, List.set_cons_zero] at HX; simp only [Act.put, List.setIfInBounds_toArray, List.set_cons_zero, List.set_cons_succ]) | ((with_reducible refine gate_dst (N := 14) rfl ?_); refine Bn.allocE HX rfl rfl al25 ?_; clear HX; intro g37 w38 HX; simp only [List.cons_append, List.nil_append, List.set_cons_succ, List.set_cons_zero] at HX; simp only [Act.put, List.setIfInBounds_toArray, List.set_cons_zero, List.set_cons_succ]) | ((with_reducible refine gate_dst (N := 15) rfl ?_); refine Bn.allocE HX rfl rfl al25 ?_; clear HX; intro g39 w40 HX; simp only [List.cons_append, List.nil_append, List.set_cons_succ, List.set_cons_zero] at HX; simp only [Act.put, List.setIfInBounds_toArray, List.set_cons_zero, List.set_cons_succ]) | ((with_reducible refine gate_store (t := 25) (p := 14) rfl ?_); refine Bn.storeE (x := .tmp 14) (y := .tmp 84) (g := g37) (cs := #[.slice none 0 0]) (t := 25) (cells := #[.slice A34 q.length c34]) HX 6 rfl rfl rfl rfl rfl rfl sz25 rfl rfl ?_; clear HX; intro w41 HX; simp only [List.cons_append, List.nil_append, List.set_cons_succ, List.set_cons_zero] at HX) | ((with_reducible refine gate_store (t := 25) (p := 15) rfl ?_); refine Bn.storeE (x := .tmp 15) (y := .tmp 85) (g := g39) (cs := #[.slice none 0 0]) (t := 25) (cells := #[.slice A35 r.length c35]) HX 7 rfl rfl rfl rfl rfl rfl sz25 rfl rfl ?_; clear HX; intro w42 HX; simp only [List.cons_append, List.nil_append, List.set_cons_succ, List.set_cons_zero] at HX))
 (try simp only [Act.put, List.setIfInBounds_toArray, List.set_cons_zero, List.set_cons_succ])
 refine Bn.inv_ 33 [[], [], [0, 1], [2], [3], [3], [4, 5, 3, 3], [6, 3], [3, 7], [8, 6], [9], [9], [10, 11, 9], [9, 12], [13, 9], [14], [14], [15, 16, 14, 14], [17, 14], [14, 18], [19, 17], [20], [20], [21, 22, 20, 20], [23, 20], [20, 24], [25, 23], [26], [27, 26, 26], [26], [29, 28, 26], [28, 30, 26], [26, 31]] (fun ov l_ a_ w' => ∃ (b0 b1 b2 b3 b4 b5 b6 b7 b8 b9 b10 b11 b12 b13 b14 b15 b16 b17 b18 b19 b20 b21 b22 b23 b24 b25 b26 b27 b28 b29 b30 b31 b32 : Bool), l_ = [b0, b1, b2, b3, b4, b5, b6, b7, b8, b9, b10, b11, b12, b13, b14, b15, b16, b17, b18, b19, b20, b21, b22, b23, b24, b25, b26, b27, b28, b29, b30, b31, b32] ∧ a_ = ov [(87, cond b0 (.bool ok) (undef)), (88, cond b1 (.bool ok) (undef)), (89, cond b2 (.bool false) (undef)), (90, cond b3 (.bool false) (undef)), (91, cond b4 (.agg #[.slice A12 s.length c12]) (undef)), (92, cond b5 (.agg #[.slice A18 s.length c18]) (undef)), (93, cond b6 (.bool true) (undef)), (94, cond b7 (.bool false) (undef)), (95, cond b8 (.bool false) (undef)), (96, cond b9 (.bool false) (undef)), (97, cond b10 (.bool one) (undef)), (98, cond b11 (.bool one) (undef)), (99, cond b12 (.bool false) (undef)), (100, cond b13 (.bool false) (undef)), (101, cond b14 (.bool false) (undef)), (102, cond b15 (.agg #[.slice A24 q.length c24]) (undef)), (103, cond b16 (.agg #[.slice A34 q.length c34]) (undef)), (104, cond b17 (.bool true) (undef)), (105, cond b18 (.bool false) (undef)), (106, cond b19 (.bool false) (undef)), (107, cond b20 (.bool false) (undef)), (108, cond b21 (.agg #[.slice A25 r.length c25]) (undef)), (109, cond b22 (.agg #[.slice A35 r.length c35]) (undef)), (110, cond b23 (.bool true) (undef)), (111, cond b24 (.bool false) (undef)), (112, cond b25 (.bool false) (undef)), (113, cond b26 (.bool false) (undef)), (114, cond b27 (.agg #[.slice A2 a.length c2]) (undef)), (115, cond b28 (.bool g) (undef)), (116, cond b29 (.agg #[.slice A2 a.length c2]) (undef)), (117, cond b30 (.bool g) (undef)), (118, cond b31 (.bool false) (undef)), (119, cond b32 (.bool false) (undef))] ∧ Aside0 (Bn.B w w' ([(g5, #[.slice A2 a.length c2], 25), (g7, #[.slice A3 b.length c3], 25), (g14, #[.slice A12 s.length c12], 25), (g20, #[.slice A18 s.length c18], 25), (g27, #[.slice A24 q.length c24], 25), (g29, #[.slice A25 r.length c25], 25), (g37, #[.slice A34 q.length c34], 25), (g39, #[.slice A35 r.length c35], 25)]) ([⟨(Kd.int .i64), 3, .slice A2 a.length c2, a⟩, ⟨(Kd.int .i64), 3, .slice A3 b.length c3, b⟩, ⟨(Kd.int .i64), 3, .slice A12 s.length c12, s⟩, ⟨(Kd.int .i64), 3, .slice A18 s.length c18, s⟩, ⟨(Kd.int .i64), 3, .slice A24 q.length c24, q⟩, ⟨(Kd.int .i64), 3, .slice A25 r.length c25, r⟩, ⟨(Kd.int .i64), 3, .slice A34 q.length c34, q⟩, ⟨(Kd.int .i64), 3, .slice A35 r.length c35, r⟩]))) (by kernel_rfl) rfl (by kernel_rfl) (by decide) ⟨false, false, false, false, false, false, false, false, false, false, false, false, false, false, false, false, false, false, false, false, false, false, false, false, false, false, false, false, false, false, false, false, false, rfl, (by simp only [Act.put, Bn.over, List.setIfInBounds_toArray, List.set_cons_zero, List.set_cons_succ, cond_true, cond_false]), ⟨HX.out.drew⟩⟩ (Bn.steps_cons ?_ (Bn.steps_cons ?_ (Bn.steps_cons ?_ (Bn.steps_cons ?_ (Bn.steps_cons ?_ (Bn.steps_cons ?_ (Bn.steps_cons ?_ (Bn.steps_cons ?_ (Bn.steps_cons ?_ (Bn.steps_cons ?_ (Bn.steps_cons ?_ (Bn.steps_cons ?_ (Bn.steps_cons ?_ (Bn.steps_cons ?_ (Bn.steps_cons ?_ (Bn.steps_cons ?_ (Bn.steps_cons ?_ (Bn.steps_cons ?_ (Bn.steps_cons ?_ (Bn.steps_cons ?_ (Bn.steps_cons ?_ (Bn.steps_cons ?_ (Bn.steps_cons ?_ (Bn.steps_cons ?_ (Bn.steps_cons ?_ (Bn.steps_cons ?_ (Bn.steps_cons ?_ (Bn.steps_cons ?_ (Bn.steps_cons ?_ (Bn.steps_cons ?_ (Bn.steps_cons ?_ (Bn.steps_cons ?_ (Bn.steps_cons ?_ Bn.steps_nil))))))))))))))))))))))))))))))))) ?_
 clear HX
 · rintro l_ a_ w' ⟨b0, b1, b2, b3, b4, b5, b6, b7, b8, b9, b10, b11, b12, b13, b14, b15, b16, b17, b18, b19, b20, b21, b22, b23, b24, b25, b26, b27, b28, b29, b30, b31, b32, rfl, rfl, HX⟩ hcl hr K hK
   have e_ : b0 = false := Bn.rdy_self hr; subst e_
   clear hr hcl
   simp only [Bn.over, List.set_cons_zero, List.set_cons_succ, cond_true, cond_false]
   refine Bn.stp_value (v := .bool ok) (w1 := w') ?_ ?_ ?_
   · rfl
   · first | rfl | (go_simp; done) | (go_simp; rfl)
   exact hK.out _ _ ⟨true, b1, b2, b3, b4, b5, b6, b7, b8, b9, b10, b11, b12, b13, b14, b15, b16, b17, b18, b19, b20, b21, b22, b23, b24, b25, b26, b27, b28, b29, b30, b31, b32, rfl, (by simp only [Act.put, Bn.over, List.setIfInBounds_toArray, List.set_cons_zero, List.set_cons_succ, cond_true, cond_false]), HX⟩
 · rintro l_ a_ w' ⟨b0, b1, b2, b3, b4, b5, b6, b7, b8, b9, b10, b11, b12, b13, b14, b15, b16, b17, b18, b19, b20, b21, b22, b23, b24, b25, b26, b27, b28, b29, b30, b31, b32, rfl, rfl, HX⟩ hcl hr K hK
   have e_ : b1 = false := Bn.rdy_self hr; subst e_
   clear hr hcl
   simp only [Bn.over, List.set_cons_zero, List.set_cons_succ, cond_true, cond_false]
   refine Bn.stp_value (v := .bool ok) (w1 := w') ?_ ?_ ?_
   · rfl
   · first | rfl | (go_simp; done) | (go_simp; rfl)
   exact hK.out _ _ ⟨b0, true, b2, b3, b4, b5, b6, b7, b8, b9, b10, b11, b12, b13, b14, b15, b16, b17, b18, b19, b20, b21, b22, b23, b24, b25, b26, b27, b28, b29, b30, b31, b32, rfl, (by simp only [Act.put, Bn.over, List.setIfInBounds_toArray, List.set_cons_zero, List.set_cons_succ, cond_true, cond_false]), HX⟩
 · rintro l_ a_ w' ⟨b0, b1, b2, b3, b4, b5, b6, b7, b8, b9, b10, b11, b12, b13, b14, b15, b16, b17, b18, b19, b20, b21, b22, b23, b24, b25, b26, b27, b28, b29, b30, b31, b32, rfl, rfl, HX⟩ hcl hr K hK
   have e_ : b2 = false := Bn.rdy_self hr; subst e_
   have e_ : b0 = true := Bn.rdy_need hr 0 rfl; subst e_
   have e_ : b1 = true := Bn.rdy_need hr 1 rfl; subst e_
   clear hr hcl
   simp only [Bn.over, List.set_cons_zero, List.set_cons_succ, cond_true, cond_false]
   refine Bn.stp_value (v := .bool false) (w1 := w') ?_ ?_ ?_
   · rfl
   · first | rfl | (go_simp; done) | (go_simp; rfl)
   exact hK.out _ _ ⟨true, true, true, b3, b4, b5, b6, b7, b8, b9, b10, b11, b12, b13, b14, b15, b16, b17, b18, b19, b20, b21, b22, b23, b24, b25, b26, b27, b28, b29, b30, b31, b32, rfl, (by simp only [Act.put, Bn.over, List.setIfInBounds_toArray, List.set_cons_zero, List.set_cons_succ, cond_true, cond_false]), HX⟩
 · rintro l_ a_ w' ⟨b0, b1, b2, b3, b4, b5, b6, b7, b8, b9, b10, b11, b12, b13, b14, b15, b16, b17, b18, b19, b20, b21, b22, b23, b24, b25, b26, b27, b28, b29, b30, b31, b32, rfl, rfl, HX⟩ hcl hr K hK
   have e_ : b3 = false := Bn.rdy_self hr; subst e_
   have e_ : b2 = true := Bn.rdy_need hr 2 rfl; subst e_
   clear hr hcl
   simp only [Bn.over, List.set_cons_zero, List.set_cons_succ, cond_true, cond_false]
   refine Bn.stp_value (v := .bool false) (w1 := w') ?_ ?_ ?_
   · rfl
   · first | rfl | (go_simp; done) | (go_simp; rfl)
   exact hK.out _ _ ⟨b0, b1, true, true, b4, b5, b6, b7, b8, b9, b10, b11, b12, b13, b14, b15, b16, b17, b18, b19, b20, b21, b22, b23, b24, b25, b26, b27, b28, b29, b30, b31, b32, rfl, (by simp only [Act.put, Bn.over, List.setIfInBounds_toArray, List.set_cons_zero, List.set_cons_succ, cond_true, cond_false]), HX⟩
 · rintro l_ a_ w' ⟨b0, b1, b2, b3, b4, b5, b6, b7, b8, b9, b10, b11, b12, b13, b14, b15, b16, b17, b18, b19, b20, b21, b22, b23, b24, b25, b26, b27, b28, b29, b30, b31, b32, rfl, rfl, HX⟩ hcl hr K hK
   have e_ : b4 = false := Bn.rdy_self hr; subst e_
   have e_ : b3 = true := Bn.rdy_need hr 3 rfl; subst e_
   clear hr hcl
   simp only [Bn.over, List.set_cons_zero, List.set_cons_succ, cond_true, cond_false]
   refine Bn.stp_load HX 2 ?_ rfl rfl ?_ Try.underlying25 sz25 ?_
   · rfl
   · rfl
   exact hK.out _ _ ⟨b0, b1, b2, true, true, b5, b6, b7, b8, b9, b10, b11, b12, b13, b14, b15, b16, b17, b18, b19, b20, b21, b22, b23, b24, b25, b26, b27, b28, b29, b30, b31, b32, rfl, (by simp only [Act.put, Bn.over, List.setIfInBounds_toArray, List.set_cons_zero, List.set_cons_succ, cond_true, cond_false]), HX⟩
 · rintro l_ a_ w' ⟨b0, b1, b2, b3, b4, b5, b6, b7, b8, b9, b10, b11, b12, b13, b14, b15, b16, b17, b18, b19, b20, b21, b22, b23, b24, b25, b26, b27, b28, b29, b30, b31, b32, rfl, rfl, HX⟩ hcl hr K hK
   have e_ : b5 = false := Bn.rdy_self hr; subst e_
   have e_ : b3 = true := Bn.rdy_need hr 3 rfl; subst e_
   clear hr hcl
   simp only [Bn.over, List.set_cons_zero, List.set_cons_succ, cond_true, cond_false]
   refine Bn.stp_load HX 3 ?_ rfl rfl ?_ Try.underlying25 sz25 ?_
   · rfl
   · rfl
   exact hK.out _ _ ⟨b0, b1, b2, true, b4, true, b6, b7, b8, b9, b10, b11, b12, b13, b14, b15, b16, b17, b18, b19, b20, b21, b22, b23, b24, b25, b26, b27, b28, b29, b30, b31, b32, rfl, (by simp only [Act.put, Bn.over, List.setIfInBounds_toArray, List.set_cons_zero, List.set_cons_succ, cond_true, cond_false]), HX⟩
 · rintro l_ a_ w' ⟨b0, b1, b2, b3, b4, b5, b6, b7, b8, b9, b10, b11, b12, b13, b14, b15, b16, b17, b18, b19, b20, b21, b22, b23, b24, b25, b26, b27, b28, b29, b30, b31, b32, rfl, rfl, HX⟩ hcl hr K hK
   have e_ : b6 = false := Bn.rdy_self hr; subst e_
   have e_ : b4 = true := Bn.rdy_need hr 4 rfl; subst e_
   have e_ : b5 = true := Bn.rdy_need hr 5 rfl; subst e_
   have e_ : b3 = true := Bn.rdy_need hr 3 rfl; subst e_
   clear hr hcl
   simp only [Bn.over, List.set_cons_zero, List.set_cons_succ, cond_true, cond_false]
   refine Bn.stp_goes Try.func18 (by kernel_rfl) rfl #[.agg #[.slice A12 s.length c12], .agg #[.slice A18 s.length c18]] ?_ rfl ?_ ?_
   · rfl
   · (try simp only [List.map_toArray, List.map_cons, List.map_nil]); first | done | rfl
   (with_reducible refine (laws_sameBig.calls k _ _ s _ _ s true _ (HX.out.C 2 rfl) (HX.out.cap 2 rfl) (HX.out.C 3 rfl) (HX.out.cap 3 rfl) hss.out).mono ?_)
   rintro e w2' ⟨rfl, hb⟩
   refine ⟨_, rfl, ?_⟩
   exact hK.out _ _ ⟨b0, b1, b2, true, true, true, true, b7, b8, b9, b10, b11, b12, b13, b14, b15, b16, b17, b18, b19, b20, b21, b22, b23, b24, b25, b26, b27, b28, b29, b30, b31, b32, rfl, (by simp only [Act.put, Bn.over, List.setIfInBounds_toArray, List.set_cons_zero, List.set_cons_succ, cond_true, cond_false]), ⟨HX.out.call hb⟩⟩
 · rintro l_ a_ w' ⟨b0, b1, b2, b3, b4, b5, b6, b7, b8, b9, b10, b11, b12, b13, b14, b15, b16, b17, b18, b19, b20, b21, b22, b23, b24, b25, b26, b27, b28, b29, b30, b31, b32, rfl, rfl, HX⟩ hcl hr K hK
   have e_ : b7 = false := Bn.rdy_self hr; subst e_
   have e_ : b6 = true := Bn.rdy_need hr 6 rfl; subst e_
   have e_ : b3 = true := Bn.rdy_need hr 3 rfl; subst e_
   clear hr hcl
   simp only [Bn.over, List.set_cons_zero, List.set_cons_succ, cond_true, cond_false]
   refine Bn.stp_value (v := .bool false) (w1 := w') ?_ ?_ ?_
   · rfl
   · first | rfl | (go_simp; done) | (go_simp; rfl)
   exact hK.out _ _ ⟨b0, b1, b2, true, b4, b5, true, true, b8, b9, b10, b11, b12, b13, b14, b15, b16, b17, b18, b19, b20, b21, b22, b23, b24, b25, b26, b27, b28, b29, b30, b31, b32, rfl, (by simp only [Act.put, Bn.over, List.setIfInBounds_toArray, List.set_cons_zero, List.set_cons_succ, cond_true, cond_false]), HX⟩
 · rintro l_ a_ w' ⟨b0, b1, b2, b3, b4, b5, b6, b7, b8, b9, b10, b11, b12, b13, b14, b15, b16, b17, b18, b19, b20, b21, b22, b23, b24, b25, b26, b27, b28, b29, b30, b31, b32, rfl, rfl, HX⟩ hcl hr K hK
   have e_ : b8 = false := Bn.rdy_self hr; subst e_
   have e_ : b3 = true := Bn.rdy_need hr 3 rfl; subst e_
   have e_ : b7 = true := Bn.rdy_need hr 7 rfl; subst e_
   clear hr hcl
   simp only [Bn.over, List.set_cons_zero, List.set_cons_succ, cond_true, cond_false]
   refine Bn.stp_value (v := .bool false) (w1 := w') ?_ ?_ ?_
   · rfl
   · first | rfl | (go_simp; done) | (go_simp; rfl)
   exact hK.out _ _ ⟨b0, b1, b2, true, b4, b5, b6, true, true, b9, b10, b11, b12, b13, b14, b15, b16, b17, b18, b19, b20, b21, b22, b23, b24, b25, b26, b27, b28, b29, b30, b31, b32, rfl, (by simp only [Act.put, Bn.over, List.setIfInBounds_toArray, List.set_cons_zero, List.set_cons_succ, cond_true, cond_false]), HX⟩
 · rintro l_ a_ w' ⟨b0, b1, b2, b3, b4, b5, b6, b7, b8, b9, b10, b11, b12, b13, b14, b15, b16, b17, b18, b19, b20, b21, b22, b23, b24, b25, b26, b27, b28, b29, b30, b31, b32, rfl, rfl, HX⟩ hcl hr K hK
   have e_ : b9 = false := Bn.rdy_self hr; subst e_
   have e_ : b8 = true := Bn.rdy_need hr 8 rfl; subst e_
   clear hr hcl
   simp only [Bn.over, List.set_cons_zero, List.set_cons_succ, cond_true, cond_false]
   refine Bn.stp_value (v := .bool false) (w1 := w') ?_ ?_ ?_
   · rfl
   · first | rfl | (go_simp; done) | (go_simp; rfl)
   exact hK.out _ _ ⟨b0, b1, b2, b3, b4, b5, b6, b7, true, true, b10, b11, b12, b13, b14, b15, b16, b17, b18, b19, b20, b21, b22, b23, b24, b25, b26, b27, b28, b29, b30, b31, b32, rfl, (by simp only [Act.put, Bn.over, List.setIfInBounds_toArray, List.set_cons_zero, List.set_cons_succ, cond_true, cond_false]), HX⟩
 · rintro l_ a_ w' ⟨b0, b1, b2, b3, b4, b5, b6, b7, b8, b9, b10, b11, b12, b13, b14, b15, b16, b17, b18, b19, b20, b21, b22, b23, b24, b25, b26, b27, b28, b29, b30, b31, b32, rfl, rfl, HX⟩ hcl hr K hK
   have e_ : b10 = false := Bn.rdy_self hr; subst e_
   have e_ : b9 = true := Bn.rdy_need hr 9 rfl; subst e_
   clear hr hcl
   simp only [Bn.over, List.set_cons_zero, List.set_cons_succ, cond_true, cond_false]
   refine Bn.stp_value (v := .bool one) (w1 := w') ?_ ?_ ?_
   · rfl
   · first | rfl | (go_simp; done) | (go_simp; rfl)
   exact hK.out _ _ ⟨b0, b1, b2, b3, b4, b5, b6, b7, b8, true, true, b11, b12, b13, b14, b15, b16, b17, b18, b19, b20, b21, b22, b23, b24, b25, b26, b27, b28, b29, b30, b31, b32, rfl, (by simp only [Act.put, Bn.over, List.setIfInBounds_toArray, List.set_cons_zero, List.set_cons_succ, cond_true, cond_false]), HX⟩
 · rintro l_ a_ w' ⟨b0, b1, b2, b3, b4, b5, b6, b7, b8, b9, b10, b11, b12, b13, b14, b15, b16, b17, b18, b19, b20, b21, b22, b23, b24, b25, b26, b27, b28, b29, b30, b31, b32, rfl, rfl, HX⟩ hcl hr K hK
   have e_ : b11 = false := Bn.rdy_self hr; subst e_
   have e_ : b9 = true := Bn.rdy_need hr 9 rfl; subst e_
   clear hr hcl
   simp only [Bn.over, List.set_cons_zero, List.set_cons_succ, cond_true, cond_false]
   refine Bn.stp_value (v := .bool one) (w1 := w') ?_ ?_ ?_
   · rfl
   · first | rfl | (go_simp; done) | (go_simp; rfl)
   exact hK.out _ _ ⟨b0, b1, b2, b3, b4, b5, b6, b7, b8, true, b10, true, b12, b13, b14, b15, b16, b17, b18, b19, b20, b21, b22, b23, b24, b25, b26, b27, b28, b29, b30, b31, b32, rfl, (by simp only [Act.put, Bn.over, List.setIfInBounds_toArray, List.set_cons_zero, List.set_cons_succ, cond_true, cond_false]), HX⟩
 · rintro l_ a_ w' ⟨b0, b1, b2, b3, b4, b5, b6, b7, b8, b9, b10, b11, b12, b13, b14, b15, b16, b17, b18, b19, b20, b21, b22, b23, b24, b25, b26, b27, b28, b29, b30, b31, b32, rfl, rfl, HX⟩ hcl hr K hK
   have e_ : b12 = false := Bn.rdy_self hr; subst e_
   have e_ : b10 = true := Bn.rdy_need hr 10 rfl; subst e_
   have e_ : b11 = true := Bn.rdy_need hr 11 rfl; subst e_
   have e_ : b9 = true := Bn.rdy_need hr 9 rfl; subst e_
   clear hr hcl
   simp only [Bn.over, List.set_cons_zero, List.set_cons_succ, cond_true, cond_false]
   refine Bn.stp_value (v := .bool false) (w1 := w') ?_ ?_ ?_
   · rfl
   · first | rfl | (go_simp; done) | (go_simp; rfl)
   exact hK.out _ _ ⟨b0, b1, b2, b3, b4, b5, b6, b7, b8, true, true, true, true, b13, b14, b15, b16, b17, b18, b19, b20, b21, b22, b23, b24, b25, b26, b27, b28, b29, b30, b31, b32, rfl, (by simp only [Act.put, Bn.over, List.setIfInBounds_toArray, List.set_cons_zero, List.set_cons_succ, cond_true, cond_false]), HX⟩
 · rintro l_ a_ w' ⟨b0, b1, b2, b3, b4, b5, b6, b7, b8, b9, b10, b11, b12, b13, b14, b15, b16, b17, b18, b19, b20, b21, b22, b23, b24, b25, b26, b27, b28, b29, b30, b31, b32, rfl, rfl, HX⟩ hcl hr K hK
   have e_ : b13 = false := Bn.rdy_self hr; subst e_
   have e_ : b9 = true := Bn.rdy_need hr 9 rfl; subst e_
   have e_ : b12 = true := Bn.rdy_need hr 12 rfl; subst e_
   clear hr hcl
   simp only [Bn.over, List.set_cons_zero, List.set_cons_succ, cond_true, cond_false]
   refine Bn.stp_value (v := .bool false) (w1 := w') ?_ ?_ ?_
   · rfl
   · first | rfl | (go_simp; done) | (go_simp; rfl)
   exact hK.out _ _ ⟨b0, b1, b2, b3, b4, b5, b6, b7, b8, true, b10, b11, true, true, b14, b15, b16, b17, b18, b19, b20, b21, b22, b23, b24, b25, b26, b27, b28, b29, b30, b31, b32, rfl, (by simp only [Act.put, Bn.over, List.setIfInBounds_toArray, List.set_cons_zero, List.set_cons_succ, cond_true, cond_false]), HX⟩
 · rintro l_ a_ w' ⟨b0, b1, b2, b3, b4, b5, b6, b7, b8, b9, b10, b11, b12, b13, b14, b15, b16, b17, b18, b19, b20, b21, b22, b23, b24, b25, b26, b27, b28, b29, b30, b31, b32, rfl, rfl, HX⟩ hcl hr K hK
   have e_ : b14 = false := Bn.rdy_self hr; subst e_
   have e_ : b13 = true := Bn.rdy_need hr 13 rfl; subst e_
   clear hr hcl
   simp only [Bn.over, List.set_cons_zero, List.set_cons_succ, cond_true, cond_false]
   refine Bn.stp_value (v := .bool false) (w1 := w') ?_ ?_ ?_
   · rfl
   · first | rfl | (go_simp; done) | (go_simp; rfl)
   exact hK.out _ _ ⟨b0, b1, b2, b3, b4, b5, b6, b7, b8, b9, b10, b11, b12, true, true, b15, b16, b17, b18, b19, b20, b21, b22, b23, b24, b25, b26, b27, b28, b29, b30, b31, b32, rfl, (by simp only [Act.put, Bn.over, List.setIfInBounds_toArray, List.set_cons_zero, List.set_cons_succ, cond_true, cond_false]), HX⟩
 · rintro l_ a_ w' ⟨b0, b1, b2, b3, b4, b5, b6, b7, b8, b9, b10, b11, b12, b13, b14, b15, b16, b17, b18, b19, b20, b21, b22, b23, b24, b25, b26, b27, b28, b29, b30, b31, b32, rfl, rfl, HX⟩ hcl hr K hK
   have e_ : b15 = false := Bn.rdy_self hr; subst e_
   have e_ : b14 = true := Bn.rdy_need hr 14 rfl; subst e_
   clear hr hcl
   simp only [Bn.over, List.set_cons_zero, List.set_cons_succ, cond_true, cond_false]
   refine Bn.stp_load HX 4 ?_ rfl rfl ?_ Try.underlying25 sz25 ?_
   · rfl
   · rfl
   exact hK.out _ _ ⟨b0, b1, b2, b3, b4, b5, b6, b7, b8, b9, b10, b11, b12, b13, true, true, b16, b17, b18, b19, b20, b21, b22, b23, b24, b25, b26, b27, b28, b29, b30, b31, b32, rfl, (by simp only [Act.put, Bn.over, List.setIfInBounds_toArray, List.set_cons_zero, List.set_cons_succ, cond_true, cond_false]), HX⟩
 · rintro l_ a_ w' ⟨b0, b1, b2, b3, b4, b5, b6, b7, b8, b9, b10, b11, b12, b13, b14, b15, b16, b17, b18, b19, b20, b21, b22, b23, b24, b25, b26, b27, b28, b29, b30, b31, b32, rfl, rfl, HX⟩ hcl hr K hK
   have e_ : b16 = false := Bn.rdy_self hr; subst e_
   have e_ : b14 = true := Bn.rdy_need hr 14 rfl; subst e_
   clear hr hcl
   simp only [Bn.over, List.set_cons_zero, List.set_cons_succ, cond_true, cond_false]
   refine Bn.stp_load HX 6 ?_ rfl rfl ?_ Try.underlying25 sz25 ?_
   · rfl
   · rfl
   exact hK.out _ _ ⟨b0, b1, b2, b3, b4, b5, b6, b7, b8, b9, b10, b11, b12, b13, true, b15, true, b17, b18, b19, b20, b21, b22, b23, b24, b25, b26, b27, b28, b29, b30, b31, b32, rfl, (by simp only [Act.put, Bn.over, List.setIfInBounds_toArray, List.set_cons_zero, List.set_cons_succ, cond_true, cond_false]), HX⟩
 · rintro l_ a_ w' ⟨b0, b1, b2, b3, b4, b5, b6, b7, b8, b9, b10, b11, b12, b13, b14, b15, b16, b17, b18, b19, b20, b21, b22, b23, b24, b25, b26, b27, b28, b29, b30, b31, b32, rfl, rfl, HX⟩ hcl hr K hK
   have e_ : b17 = false := Bn.rdy_self hr; subst e_
   have e_ : b15 = true := Bn.rdy_need hr 15 rfl; subst e_
   have e_ : b16 = true := Bn.rdy_need hr 16 rfl; subst e_
   have e_ : b14 = true := Bn.rdy_need hr 14 rfl; subst e_
   clear hr hcl
   simp only [Bn.over, List.set_cons_zero, List.set_cons_succ, cond_true, cond_false]
   refine Bn.stp_goes Try.func18 (by kernel_rfl) rfl #[.agg #[.slice A24 q.length c24], .agg #[.slice A34 q.length c34]] ?_ rfl ?_ ?_
   · rfl
   · (try simp only [List.map_toArray, List.map_cons, List.map_nil]); first | done | rfl
   (with_reducible refine (laws_sameBig.calls k _ _ q _ _ q true _ (HX.out.C 4 rfl) (HX.out.cap 4 rfl) (HX.out.C 6 rfl) (HX.out.cap 6 rfl) hqq.out).mono ?_)
   rintro e w2' ⟨rfl, hb⟩
   refine ⟨_, rfl, ?_⟩
   exact hK.out _ _ ⟨b0, b1, b2, b3, b4, b5, b6, b7, b8, b9, b10, b11, b12, b13, true, true, true, true, b18, b19, b20, b21, b22, b23, b24, b25, b26, b27, b28, b29, b30, b31, b32, rfl, (by simp only [Act.put, Bn.over, List.setIfInBounds_toArray, List.set_cons_zero, List.set_cons_succ, cond_true, cond_false]), ⟨HX.out.call hb⟩⟩
 · rintro l_ a_ w' ⟨b0, b1, b2, b3, b4, b5, b6, b7, b8, b9, b10, b11, b12, b13, b14, b15, b16, b17, b18, b19, b20, b21, b22, b23, b24, b25, b26, b27, b28, b29, b30, b31, b32, rfl, rfl, HX⟩ hcl hr K hK
   have e_ : b18 = false := Bn.rdy_self hr; subst e_
   have e_ : b17 = true := Bn.rdy_need hr 17 rfl; subst e_
   have e_ : b14 = true := Bn.rdy_need hr 14 rfl; subst e_
   clear hr hcl
   simp only [Bn.over, List.set_cons_zero, List.set_cons_succ, cond_true, cond_false]
   refine Bn.stp_value (v := .bool false) (w1 := w') ?_ ?_ ?_
   · rfl
   · first | rfl | (go_simp; done) | (go_simp; rfl)
   exact hK.out _ _ ⟨b0, b1, b2, b3, b4, b5, b6, b7, b8, b9, b10, b11, b12, b13, true, b15, b16, true, true, b19, b20, b21, b22, b23, b24, b25, b26, b27, b28, b29, b30, b31, b32, rfl, (by simp only [Act.put, Bn.over, List.setIfInBounds_toArray, List.set_cons_zero, List.set_cons_succ, cond_true, cond_false]), HX⟩
 · rintro l_ a_ w' ⟨b0, b1, b2, b3, b4, b5, b6, b7, b8, b9, b10, b11, b12, b13, b14, b15, b16, b17, b18, b19, b20, b21, b22, b23, b24, b25, b26, b27, b28, b29, b30, b31, b32, rfl, rfl, HX⟩ hcl hr K hK
   have e_ : b19 = false := Bn.rdy_self hr; subst e_
   have e_ : b14 = true := Bn.rdy_need hr 14 rfl; subst e_
   have e_ : b18 = true := Bn.rdy_need hr 18 rfl; subst e_
   clear hr hcl
   simp only [Bn.over, List.set_cons_zero, List.set_cons_succ, cond_true, cond_false]
   refine Bn.stp_value (v := .bool false) (w1 := w') ?_ ?_ ?_
   · rfl
   · first | rfl | (go_simp; done) | (go_simp; rfl)
   exact hK.out _ _ ⟨b0, b1, b2, b3, b4, b5, b6, b7, b8, b9, b10, b11, b12, b13, true, b15, b16, b17, true, true, b20, b21, b22, b23, b24, b25, b26, b27, b28, b29, b30, b31, b32, rfl, (by simp only [Act.put, Bn.over, List.setIfInBounds_toArray, List.set_cons_zero, List.set_cons_succ, cond_true, cond_false]), HX⟩
 · rintro l_ a_ w' ⟨b0, b1, b2, b3, b4, b5, b6, b7, b8, b9, b10, b11, b12, b13, b14, b15, b16, b17, b18, b19, b20, b21, b22, b23, b24, b25, b26, b27, b28, b29, b30, b31, b32, rfl, rfl, HX⟩ hcl hr K hK
   have e_ : b20 = false := Bn.rdy_self hr; subst e_
   have e_ : b19 = true := Bn.rdy_need hr 19 rfl; subst e_
   clear hr hcl
   simp only [Bn.over, List.set_cons_zero, List.set_cons_succ, cond_true, cond_false]
   refine Bn.stp_value (v := .bool false) (w1 := w') ?_ ?_ ?_
   · rfl
   · first | rfl | (go_simp; done) | (go_simp; rfl)
   exact hK.out _ _ ⟨b0, b1, b2, b3, b4, b5, b6, b7, b8, b9, b10, b11, b12, b13, b14, b15, b16, b17, b18, true, true, b21, b22, b23, b24, b25, b26, b27, b28, b29, b30, b31, b32, rfl, (by simp only [Act.put, Bn.over, List.setIfInBounds_toArray, List.set_cons_zero, List.set_cons_succ, cond_true, cond_false]), HX⟩
 · rintro l_ a_ w' ⟨b0, b1, b2, b3, b4, b5, b6, b7, b8, b9, b10, b11, b12, b13, b14, b15, b16, b17, b18, b19, b20, b21, b22, b23, b24, b25, b26, b27, b28, b29, b30, b31, b32, rfl, rfl, HX⟩ hcl hr K hK
   have e_ : b21 = false := Bn.rdy_self hr; subst e_
   have e_ : b20 = true := Bn.rdy_need hr 20 rfl; subst e_
   clear hr hcl
   simp only [Bn.over, List.set_cons_zero, List.set_cons_succ, cond_true, cond_false]
   refine Bn.stp_load HX 5 ?_ rfl rfl ?_ Try.underlying25 sz25 ?_
   · rfl
   · rfl
   exact hK.out _ _ ⟨b0, b1, b2, b3, b4, b5, b6, b7, b8, b9, b10, b11, b12, b13, b14, b15, b16, b17, b18, b19, true, true, b22, b23, b24, b25, b26, b27, b28, b29, b30, b31, b32, rfl, (by simp only [Act.put, Bn.over, List.setIfInBounds_toArray, List.set_cons_zero, List.set_cons_succ, cond_true, cond_false]), HX⟩
 · rintro l_ a_ w' ⟨b0, b1, b2, b3, b4, b5, b6, b7, b8, b9, b10, b11, b12, b13, b14, b15, b16, b17, b18, b19, b20, b21, b22, b23, b24, b25, b26, b27, b28, b29, b30, b31, b32, rfl, rfl, HX⟩ hcl hr K hK
   have e_ : b22 = false := Bn.rdy_self hr; subst e_
   have e_ : b20 = true := Bn.rdy_need hr 20 rfl; subst e_
   clear hr hcl
   simp only [Bn.over, List.set_cons_zero, List.set_cons_succ, cond_true, cond_false]
   refine Bn.stp_load HX 7 ?_ rfl rfl ?_ Try.underlying25 sz25 ?_
   · rfl
   · rfl
   exact hK.out _ _ ⟨b0, b1, b2, b3, b4, b5, b6, b7, b8, b9, b10, b11, b12, b13, b14, b15, b16, b17, b18, b19, true, b21, true, b23, b24, b25, b26, b27, b28, b29, b30, b31, b32, rfl, (by simp only [Act.put, Bn.over, List.setIfInBounds_toArray, List.set_cons_zero, List.set_cons_succ, cond_true, cond_false]), HX⟩
 · rintro l_ a_ w' ⟨b0, b1, b2, b3, b4, b5, b6, b7, b8, b9, b10, b11, b12, b13, b14, b15, b16, b17, b18, b19, b20, b21, b22, b23, b24, b25, b26, b27, b28, b29, b30, b31, b32, rfl, rfl, HX⟩ hcl hr K hK
   have e_ : b23 = false := Bn.rdy_self hr; subst e_
   have e_ : b21 = true := Bn.rdy_need hr 21 rfl; subst e_
   have e_ : b22 = true := Bn.rdy_need hr 22 rfl; subst e_
   have e_ : b20 = true := Bn.rdy_need hr 20 rfl; subst e_
   clear hr hcl
   simp only [Bn.over, List.set_cons_zero, List.set_cons_succ, cond_true, cond_false]
   refine Bn.stp_goes Try.func18 (by kernel_rfl) rfl #[.agg #[.slice A25 r.length c25], .agg #[.slice A35 r.length c35]] ?_ rfl ?_ ?_
   · rfl
   · (try simp only [List.map_toArray, List.map_cons, List.map_nil]); first | done | rfl
   (with_reducible refine (laws_sameBig.calls k _ _ r _ _ r true _ (HX.out.C 5 rfl) (HX.out.cap 5 rfl) (HX.out.C 7 rfl) (HX.out.cap 7 rfl) hrr.out).mono ?_)
   rintro e w2' ⟨rfl, hb⟩
   refine ⟨_, rfl, ?_⟩
   exact hK.out _ _ ⟨b0, b1, b2, b3, b4, b5, b6, b7, b8, b9, b10, b11, b12, b13, b14, b15, b16, b17, b18, b19, true, true, true, true, b24, b25, b26, b27, b28, b29, b30, b31, b32, rfl, (by simp only [Act.put, Bn.over, List.setIfInBounds_toArray, List.set_cons_zero, List.set_cons_succ, cond_true, cond_false]), ⟨HX.out.call hb⟩⟩
 · rintro l_ a_ w' ⟨b0, b1, b2, b3, b4, b5, b6, b7, b8, b9, b10, b11, b12, b13, b14, b15, b16, b17, b18, b19, b20, b21, b22, b23, b24, b25, b26, b27, b28, b29, b30, b31, b32, rfl, rfl, HX⟩ hcl hr K hK
   have e_ : b24 = false := Bn.rdy_self hr; subst e_
   have e_ : b23 = true := Bn.rdy_need hr 23 rfl; subst e_
   have e_ : b20 = true := Bn.rdy_need hr 20 rfl; subst e_
   clear hr hcl
   simp only [Bn.over, List.set_cons_zero, List.set_cons_succ, cond_true, cond_false]
   refine Bn.stp_value (v := .bool false) (w1 := w') ?_ ?_ ?_
   · rfl
   · first | rfl | (go_simp; done) | (go_simp; rfl)
   exact hK.out _ _ ⟨b0, b1, b2, b3, b4, b5, b6, b7, b8, b9, b10, b11, b12, b13, b14, b15, b16, b17, b18, b19, true, b21, b22, true, true, b25, b26, b27, b28, b29, b30, b31, b32, rfl, (by simp only [Act.put, Bn.over, List.setIfInBounds_toArray, List.set_cons_zero, List.set_cons_succ, cond_true, cond_false]), HX⟩
 · rintro l_ a_ w' ⟨b0, b1, b2, b3, b4, b5, b6, b7, b8, b9, b10, b11, b12, b13, b14, b15, b16, b17, b18, b19, b20, b21, b22, b23, b24, b25, b26, b27, b28, b29, b30, b31, b32, rfl, rfl, HX⟩ hcl hr K hK
   have e_ : b25 = false := Bn.rdy_self hr; subst e_
   have e_ : b20 = true := Bn.rdy_need hr 20 rfl; subst e_
   have e_ : b24 = true := Bn.rdy_need hr 24 rfl; subst e_
   clear hr hcl
   simp only [Bn.over, List.set_cons_zero, List.set_cons_succ, cond_true, cond_false]
   refine Bn.stp_value (v := .bool false) (w1 := w') ?_ ?_ ?_
   · rfl
   · first | rfl | (go_simp; done) | (go_simp; rfl)
   exact hK.out _ _ ⟨b0, b1, b2, b3, b4, b5, b6, b7, b8, b9, b10, b11, b12, b13, b14, b15, b16, b17, b18, b19, true, b21, b22, b23, true, true, b26, b27, b28, b29, b30, b31, b32, rfl, (by simp only [Act.put, Bn.over, List.setIfInBounds_toArray, List.set_cons_zero, List.set_cons_succ, cond_true, cond_false]), HX⟩
 · rintro l_ a_ w' ⟨b0, b1, b2, b3, b4, b5, b6, b7, b8, b9, b10, b11, b12, b13, b14, b15, b16, b17, b18, b19, b20, b21, b22, b23, b24, b25, b26, b27, b28, b29, b30, b31, b32, rfl, rfl, HX⟩ hcl hr K hK
   have e_ : b26 = false := Bn.rdy_self hr; subst e_
   have e_ : b25 = true := Bn.rdy_need hr 25 rfl; subst e_
   clear hr hcl
   simp only [Bn.over, List.set_cons_zero, List.set_cons_succ, cond_true, cond_false]
   refine Bn.stp_value (v := .bool false) (w1 := w') ?_ ?_ ?_
   · rfl
   · first | rfl | (go_simp; done) | (go_simp; rfl)
   exact hK.out _ _ ⟨b0, b1, b2, b3, b4, b5, b6, b7, b8, b9, b10, b11, b12, b13, b14, b15, b16, b17, b18, b19, b20, b21, b22, b23, b24, true, true, b27, b28, b29, b30, b31, b32, rfl, (by simp only [Act.put, Bn.over, List.setIfInBounds_toArray, List.set_cons_zero, List.set_cons_succ, cond_true, cond_false]), HX⟩
 · rintro l_ a_ w' ⟨b0, b1, b2, b3, b4, b5, b6, b7, b8, b9, b10, b11, b12, b13, b14, b15, b16, b17, b18, b19, b20, b21, b22, b23, b24, b25, b26, b27, b28, b29, b30, b31, b32, rfl, rfl, HX⟩ hcl hr K hK
   have e_ : b27 = false := Bn.rdy_self hr; subst e_
   have e_ : b26 = true := Bn.rdy_need hr 26 rfl; subst e_
   clear hr hcl
   simp only [Bn.over, List.set_cons_zero, List.set_cons_succ, cond_true, cond_false]
   refine Bn.stp_load HX 0 ?_ rfl rfl ?_ Try.underlying25 sz25 ?_
   · rfl
   · rfl
   exact hK.out _ _ ⟨b0, b1, b2, b3, b4, b5, b6, b7, b8, b9, b10, b11, b12, b13, b14, b15, b16, b17, b18, b19, b20, b21, b22, b23, b24, b25, true, true, b28, b29, b30, b31, b32, rfl, (by simp only [Act.put, Bn.over, List.setIfInBounds_toArray, List.set_cons_zero, List.set_cons_succ, cond_true, cond_false]), HX⟩
 · rintro l_ a_ w' ⟨b0, b1, b2, b3, b4, b5, b6, b7, b8, b9, b10, b11, b12, b13, b14, b15, b16, b17, b18, b19, b20, b21, b22, b23, b24, b25, b26, b27, b28, b29, b30, b31, b32, rfl, rfl, HX⟩ hcl hr K hK
   have e_ : b28 = false := Bn.rdy_self hr; subst e_
   have e_ : b27 = true := Bn.rdy_need hr 27 rfl; subst e_
   have e_ : b26 = true := Bn.rdy_need hr 26 rfl; subst e_
   clear hr hcl
   simp only [Bn.over, List.set_cons_zero, List.set_cons_succ, cond_true, cond_false]
   refine Bn.stp_goes Try.func19 (by kernel_rfl) rfl #[.agg #[.slice A2 a.length c2]] ?_ rfl ?_ ?_
   · rfl
   · (try simp only [List.map_toArray, List.map_cons, List.map_nil]); first | done | rfl
   (with_reducible refine (impl_GoodBig.calls k _ _ a g _ (HX.out.C 0 rfl) (HX.out.cap 0 rfl) hga.out).mono ?_)
   rintro e w2' ⟨rfl, hb⟩
   refine ⟨_, rfl, ?_⟩
   exact hK.out _ _ ⟨b0, b1, b2, b3, b4, b5, b6, b7, b8, b9, b10, b11, b12, b13, b14, b15, b16, b17, b18, b19, b20, b21, b22, b23, b24, b25, true, true, true, b29, b30, b31, b32, rfl, (by simp only [Act.put, Bn.over, List.setIfInBounds_toArray, List.set_cons_zero, List.set_cons_succ, cond_true, cond_false]), ⟨HX.out.call hb⟩⟩
 · rintro l_ a_ w' ⟨b0, b1, b2, b3, b4, b5, b6, b7, b8, b9, b10, b11, b12, b13, b14, b15, b16, b17, b18, b19, b20, b21, b22, b23, b24, b25, b26, b27, b28, b29, b30, b31, b32, rfl, rfl, HX⟩ hcl hr K hK
   have e_ : b29 = false := Bn.rdy_self hr; subst e_
   have e_ : b26 = true := Bn.rdy_need hr 26 rfl; subst e_
   clear hr hcl
   simp only [Bn.over, List.set_cons_zero, List.set_cons_succ, cond_true, cond_false]
   refine Bn.stp_load HX 0 ?_ rfl rfl ?_ Try.underlying25 sz25 ?_
   · rfl
   · rfl
   exact hK.out _ _ ⟨b0, b1, b2, b3, b4, b5, b6, b7, b8, b9, b10, b11, b12, b13, b14, b15, b16, b17, b18, b19, b20, b21, b22, b23, b24, b25, true, b27, b28, true, b30, b31, b32, rfl, (by simp only [Act.put, Bn.over, List.setIfInBounds_toArray, List.set_cons_zero, List.set_cons_succ, cond_true, cond_false]), HX⟩
 · rintro l_ a_ w' ⟨b0, b1, b2, b3, b4, b5, b6, b7, b8, b9, b10, b11, b12, b13, b14, b15, b16, b17, b18, b19, b20, b21, b22, b23, b24, b25, b26, b27, b28, b29, b30, b31, b32, rfl, rfl, HX⟩ hcl hr K hK
   have e_ : b30 = false := Bn.rdy_self hr; subst e_
   have e_ : b29 = true := Bn.rdy_need hr 29 rfl; subst e_
   have e_ : b26 = true := Bn.rdy_need hr 26 rfl; subst e_
   clear hr hcl
   simp only [Bn.over, List.set_cons_zero, List.set_cons_succ, cond_true, cond_false]
   refine Bn.stp_goes Try.func20 (by kernel_rfl) rfl #[.agg #[.slice A2 a.length c2]] ?_ rfl ?_ ?_
   · rfl
   · (try simp only [List.map_toArray, List.map_cons, List.map_nil]); first | done | rfl
   (with_reducible refine (spec_GoodBig.calls k _ _ a g _ (HX.out.C 0 rfl) (HX.out.cap 0 rfl) hga2.out).mono ?_)
   rintro e w2' ⟨rfl, hb⟩
   refine ⟨_, rfl, ?_⟩
   exact hK.out _ _ ⟨b0, b1, b2, b3, b4, b5, b6, b7, b8, b9, b10, b11, b12, b13, b14, b15, b16, b17, b18, b19, b20, b21, b22, b23, b24, b25, true, b27, b28, true, true, b31, b32, rfl, (by simp only [Act.put, Bn.over, List.setIfInBounds_toArray, List.set_cons_zero, List.set_cons_succ, cond_true, cond_false]), ⟨HX.out.call hb⟩⟩
 · rintro l_ a_ w' ⟨b0, b1, b2, b3, b4, b5, b6, b7, b8, b9, b10, b11, b12, b13, b14, b15, b16, b17, b18, b19, b20, b21, b22, b23, b24, b25, b26, b27, b28, b29, b30, b31, b32, rfl, rfl, HX⟩ hcl hr K hK
   have e_ : b31 = false := Bn.rdy_self hr; subst e_
   have e_ : b28 = true := Bn.rdy_need hr 28 rfl; subst e_
   have e_ : b30 = true := Bn.rdy_need hr 30 rfl; subst e_
   have e_ : b26 = true := Bn.rdy_need hr 26 rfl; subst e_
   clear hr hcl
   simp only [Bn.over, List.set_cons_zero, List.set_cons_succ, cond_true, cond_false]
   refine Bn.stp_value (v := .bool false) (w1 := w') ?_ ?_ ?_
   · rfl
   · first | rfl | (go_simp; done) | (go_simp; rfl)
   exact hK.out _ _ ⟨b0, b1, b2, b3, b4, b5, b6, b7, b8, b9, b10, b11, b12, b13, b14, b15, b16, b17, b18, b19, b20, b21, b22, b23, b24, b25, true, b27, true, b29, true, true, b32, rfl, (by simp only [Act.put, Bn.over, List.setIfInBounds_toArray, List.set_cons_zero, List.set_cons_succ, cond_true, cond_false]), HX⟩
 · rintro l_ a_ w' ⟨b0, b1, b2, b3, b4, b5, b6, b7, b8, b9, b10, b11, b12, b13, b14, b15, b16, b17, b18, b19, b20, b21, b22, b23, b24, b25, b26, b27, b28, b29, b30, b31, b32, rfl, rfl, HX⟩ hcl hr K hK
   have e_ : b32 = false := Bn.rdy_self hr; subst e_
   have e_ : b26 = true := Bn.rdy_need hr 26 rfl; subst e_
   have e_ : b31 = true := Bn.rdy_need hr 31 rfl; subst e_
   clear hr hcl
   simp only [Bn.over, List.set_cons_zero, List.set_cons_succ, cond_true, cond_false]
   refine Bn.stp_value (v := .bool false) (w1 := w') ?_ ?_ ?_
   · rfl
   · first | rfl | (go_simp; done) | (go_simp; rfl)
   exact hK.out _ _ ⟨b0, b1, b2, b3, b4, b5, b6, b7, b8, b9, b10, b11, b12, b13, b14, b15, b16, b17, b18, b19, b20, b21, b22, b23, b24, b25, true, b27, b28, b29, b30, true, true, rfl, (by simp only [Act.put, Bn.over, List.setIfInBounds_toArray, List.set_cons_zero, List.set_cons_succ, cond_true, cond_false]), HX⟩
 rintro a_ w48 ⟨b0, b1, b2, b3, b4, b5, b6, b7, b8, b9, b10, b11, b12, b13, b14, b15, b16, b17, b18, b19, b20, b21, b22, b23, b24, b25, b26, b27, b28, b29, b30, b31, b32, hl, rfl, HX⟩
 simp only [List.replicate, List.cons.injEq, and_true] at hl
 obtain ⟨rfl, rfl, rfl, rfl, rfl, rfl, rfl, rfl, rfl, rfl, rfl, rfl, rfl, rfl, rfl, rfl, rfl, rfl, rfl, rfl, rfl, rfl, rfl, rfl, rfl, rfl, rfl, rfl, rfl, rfl, rfl, rfl, rfl⟩ := hl
 simp only [Bn.over, List.set_cons_zero, List.set_cons_succ, cond_true, cond_false]
 (try simp only [List.cons_append, List.nil_append, cond_true] at HX)
 go_upto_if 120 with (fail)
 go_cut [] from 121 to 139 (fun wc => Aside0 (Bn.B w wc [(g5, #[.slice A2 a.length c2], 25), (g7, #[.slice A3 b.length c3], 25), (g14, #[.slice A12 s.length c12], 25), (g20, #[.slice A18 s.length c18], 25), (g27, #[.slice A24 q.length c24], 25), (g29, #[.slice A25 r.length c25], 25), (g37, #[.slice A34 q.length c34], 25), (g39, #[.slice A35 r.length c35], 25)] [⟨(Kd.int .i64), 3, .slice A2 a.length c2, a⟩, ⟨(Kd.int .i64), 3, .slice A3 b.length c3, b⟩, ⟨(Kd.int .i64), 3, .slice A12 s.length c12, s⟩, ⟨(Kd.int .i64), 3, .slice A18 s.length c18, s⟩, ⟨(Kd.int .i64), 3, .slice A24 q.length c24, q⟩, ⟨(Kd.int .i64), 3, .slice A25 r.length c25, r⟩, ⟨(Kd.int .i64), 3, .slice A34 q.length c34, q⟩, ⟨(Kd.int .i64), 3, .slice A35 r.length c35, r⟩]))
 case first =>
  obtain _ | _ := ok
  · go_wp2
    go_meet
    case rel => exact HX
  obtain ⟨hl, hgs⟩ := hO.out rfl
  replace hl := Aside0.mk hl
  replace hgs := Aside0.mk hgs
  go_wp2_with (first | ((with_reducible refine gate_dst (N := 122) rfl ?_); refine Bn.loadE (x := .tmp 7) (g := g14) (cs := #[.slice A12 s.length c12]) (t := 25) HX 2 rfl rfl rfl rfl Try.underlying25 sz25 ?_; simp only [Act.put, List.setIfInBounds_toArray, List.set_cons_zero, List.set_cons_succ]) | ((with_reducible refine gate_dst (N := 123) rfl ?_); refine Bn.loadE (x := .tmp 6) (g := g7) (cs := #[.slice A3 b.length c3]) (t := 25) HX 1 rfl rfl rfl rfl Try.underlying25 sz25 ?_; simp only [Act.put, List.setIfInBounds_toArray, List.set_cons_zero, List.set_cons_succ]) | ((with_reducible refine gate_dst (N := 124) rfl ?_); refine goesL_ (some 124) rfl rfl Try.func21 (by kernel_rfl) rfl #[.agg #[.slice A12 s.length c12], .agg #[.slice A3 b.length c3]] rfl (by (try simp only [List.map_toArray, List.map_cons, List.map_nil]); first | done | rfl) ?_; (with_reducible refine (impl_LessBig.calls k (fun k_ => (.slice A12 s.length c12 : Value).ownBlock = some k_) _ _ s (fun k_ => (.slice A3 b.length c3 : Value).ownBlock = some k_) _ _ b a true _ (HX.out.V 2 rfl) (HX.out.V 1 rfl) hl.out).mono ?_); rintro e w51 ⟨v49_0, rfl, ho0, hb⟩; refine ⟨_, rfl, ?_⟩; obtain ⟨A50, c50, rfl⟩ := Kd.R_slice ho0; replace HX := Aside0.mk (HX.out.rowE ho0 hb); clear ho0 hb; simp only [List.cons_append, List.nil_append, List.set_cons_succ, List.set_cons_zero] at HX; simp only [Act.put, List.setIfInBounds_toArray, List.set_cons_zero, List.set_cons_succ]) | ((with_reducible refine gate_dst (N := 17) rfl ?_); refine Bn.allocE HX rfl rfl al25 ?_; clear HX; intro g52 w53 HX; simp only [List.cons_append, List.nil_append, List.set_cons_succ, List.set_cons_zero] at HX; simp only [Act.put, List.setIfInBounds_toArray, List.set_cons_zero, List.set_cons_succ]) | ((with_reducible refine gate_store (t := 25) (p := 17) rfl ?_); refine Bn.storeE (x := .tmp 17) (y := .tmp 125) (g := g52) (cs := #[.slice none 0 0]) (t := 25) (cells := #[.slice A50 a.length c50]) HX 8 rfl rfl rfl rfl rfl rfl sz25 rfl rfl ?_; clear HX; intro w54 HX; simp only [List.cons_append, List.nil_append, List.set_cons_succ, List.set_cons_zero] at HX) | ((with_reducible refine gate_dst (N := 127) rfl ?_); refine Bn.loadE (x := .tmp 7) (g := g14) (cs := #[.slice A12 s.length c12]) (t := 25) HX 2 rfl rfl rfl rfl Try.underlying25 sz25 ?_; simp only [Act.put, List.setIfInBounds_toArray, List.set_cons_zero, List.set_cons_succ]) | ((with_reducible refine gate_dst (N := 128) rfl ?_); refine goesL_ (some 128) rfl rfl Try.func19 (by kernel_rfl) rfl #[.agg #[.slice A12 s.length c12]] rfl (by (try simp only [List.map_toArray, List.map_cons, List.map_nil]); first | done | rfl) ?_; (with_reducible refine (impl_GoodBig.calls k _ _ s true _ (HX.out.C 2 rfl) (HX.out.cap 2 rfl) hgs.out).mono ?_); rintro e w56 ⟨rfl, hb⟩; refine ⟨_, rfl, ?_⟩; replace HX := Aside0.mk (HX.out.call hb); clear hb; simp only [Act.put, List.setIfInBounds_toArray, List.set_cons_zero, List.set_cons_succ]) | ((with_reducible refine gate_dst (N := 135) rfl ?_); refine gate_guard (by first | rfl | (go_simp; done)) ?_; refine Bn.loadE (x := .tmp 17) (g := g52) (cs := #[.slice A50 a.length c50]) (t := 25) HX 8 rfl rfl rfl rfl Try.underlying25 sz25 ?_; simp only [Act.put, List.setIfInBounds_toArray, List.set_cons_zero, List.set_cons_succ]) | ((with_reducible refine gate_dst (N := 136) rfl ?_); refine gate_guard (by first | rfl | (go_simp; done)) ?_; refine Bn.loadE (x := .tmp 5) (g := g5) (cs := #[.slice A2 a.length c2]) (t := 25) HX 0 rfl rfl rfl rfl Try.underlying25 sz25 ?_; simp only [Act.put, List.setIfInBounds_toArray, List.set_cons_zero, List.set_cons_succ]) | ((with_reducible refine gate_dst (N := 137) rfl ?_); refine gate_guard (by first | rfl | (go_simp; done)) ?_; refine goesL_ (some 137) rfl rfl Try.func18 (by kernel_rfl) rfl #[.agg #[.slice A50 a.length c50], .agg #[.slice A2 a.length c2]] rfl (by (try simp only [List.map_toArray, List.map_cons, List.map_nil]); first | done | rfl) ?_; (with_reducible refine (laws_sameBig.calls k _ _ a _ _ a true _ (HX.out.C 8 rfl) (HX.out.cap 8 rfl) (HX.out.C 0 rfl) (HX.out.cap 0 rfl) haa.out).mono ?_); rintro e w58 ⟨rfl, hb⟩; refine ⟨_, rfl, ?_⟩; replace HX := Aside0.mk (HX.out.call hb); clear hb; simp only [Act.put, List.setIfInBounds_toArray, List.set_cons_zero, List.set_cons_succ]))
  go_meet
  case rel => exact ⟨HX.out.take 8 8⟩
 clear HX
 have HX := hcut
 clear hcut
 go_upto_if 140 with (fail)
 go_cut [] from 141 to 178 (fun wc => Aside0 (Bn.B w wc [(g5, #[.slice A2 a.length c2], 25), (g7, #[.slice A3 b.length c3], 25), (g14, #[.slice A12 s.length c12], 25), (g20, #[.slice A18 s.length c18], 25), (g27, #[.slice A24 q.length c24], 25), (g29, #[.slice A25 r.length c25], 25), (g37, #[.slice A34 q.length c34], 25), (g39, #[.slice A35 r.length c35], 25)] [⟨(Kd.int .i64), 3, .slice A2 a.length c2, a⟩, ⟨(Kd.int .i64), 3, .slice A3 b.length c3, b⟩, ⟨(Kd.int .i64), 3, .slice A12 s.length c12, s⟩, ⟨(Kd.int .i64), 3, .slice A18 s.length c18, s⟩, ⟨(Kd.int .i64), 3, .slice A24 q.length c24, q⟩, ⟨(Kd.int .i64), 3, .slice A25 r.length c25, r⟩, ⟨(Kd.int .i64), 3, .slice A34 q.length c34, q⟩, ⟨(Kd.int .i64), 3, .slice A35 r.length c35, r⟩]))
 case first =>
  obtain _ | _ := one
  · go_wp2
    go_meet
    case rel => exact HX
  obtain ⟨p, hp, hpa, hcm⟩ := hOne.out rfl
  replace hp := Aside0.mk hp
  replace hpa := Aside0.mk hpa
  replace hcm := Aside0.mk hcm
  go_upto_region 18 with (first | ((with_reducible refine gate_dst (N := 142) rfl ?_); refine Bn.loadE (x := .tmp 11) (g := g27) (cs := #[.slice A24 q.length c24]) (t := 25) HX 4 rfl rfl rfl rfl Try.underlying25 sz25 ?_; simp only [Act.put, List.setIfInBounds_toArray, List.set_cons_zero, List.set_cons_succ]) | ((with_reducible refine gate_dst (N := 143) rfl ?_); refine Bn.loadE (x := .tmp 6) (g := g7) (cs := #[.slice A3 b.length c3]) (t := 25) HX 1 rfl rfl rfl rfl Try.underlying25 sz25 ?_; simp only [Act.put, List.setIfInBounds_toArray, List.set_cons_zero, List.set_cons_succ]) | ((with_reducible refine gate_dst (N := 144) rfl ?_); refine goesL_ (some 144) rfl rfl Try.func22 (by kernel_rfl) rfl #[.agg #[.slice A24 q.length c24], .agg #[.slice A3 b.length c3]] rfl (by (try simp only [List.map_toArray, List.map_cons, List.map_nil]); first | done | rfl) ?_; (with_reducible refine (impl_TimesBig.calls k (fun k_ => (.slice A24 q.length c24 : Value).ownBlock = some k_) _ _ q (fun k_ => (.slice A3 b.length c3 : Value).ownBlock = some k_) _ _ b p true _ (HX.out.V 4 rfl) (HX.out.V 1 rfl) hp.out).mono ?_); rintro e w61 ⟨v59_0, rfl, ho0, hb⟩; refine ⟨_, rfl, ?_⟩; obtain ⟨A60, c60, rfl⟩ := Kd.R_slice ho0; replace HX := Aside0.mk (HX.out.rowE ho0 hb); clear ho0 hb; simp only [List.cons_append, List.nil_append, List.set_cons_succ, List.set_cons_zero] at HX; simp only [Act.put, List.setIfInBounds_toArray, List.set_cons_zero, List.set_cons_succ]) | ((with_reducible refine gate_dst (N := 19) rfl ?_); refine Bn.allocE HX rfl rfl al25 ?_; clear HX; intro g62 w63 HX; simp only [List.cons_append, List.nil_append, List.set_cons_succ, List.set_cons_zero] at HX; simp only [Act.put, List.setIfInBounds_toArray, List.set_cons_zero, List.set_cons_succ]) | ((with_reducible refine gate_store (t := 25) (p := 19) rfl ?_); refine Bn.storeE (x := .tmp 19) (y := .tmp 145) (g := g62) (cs := #[.slice none 0 0]) (t := 25) (cells := #[.slice A60 p.length c60]) HX 8 rfl rfl rfl rfl rfl rfl sz25 rfl rfl ?_; clear HX; intro w64 HX; simp only [List.cons_append, List.nil_append, List.set_cons_succ, List.set_cons_zero] at HX) | ((with_reducible refine gate_dst (N := 148) rfl ?_); refine Bn.loadE (x := .tmp 19) (g := g62) (cs := #[.slice A60 p.length c60]) (t := 25) HX 8 rfl rfl rfl rfl Try.underlying25 sz25 ?_; simp only [Act.put, List.setIfInBounds_toArray, List.set_cons_zero, List.set_cons_succ]) | ((with_reducible refine gate_dst (N := 149) rfl ?_); refine Bn.loadE (x := .tmp 12) (g := g29) (cs := #[.slice A25 r.length c25]) (t := 25) HX 5 rfl rfl rfl rfl Try.underlying25 sz25 ?_; simp only [Act.put, List.setIfInBounds_toArray, List.set_cons_zero, List.set_cons_succ]) | ((with_reducible refine gate_dst (N := 150) rfl ?_); refine goesL_ (some 150) rfl rfl Try.func14 (by kernel_rfl) rfl #[.agg #[.slice A60 p.length c60], .agg #[.slice A25 r.length c25]] rfl (by (try simp only [List.map_toArray, List.map_cons, List.map_nil]); first | done | rfl) ?_; (with_reducible refine (impl_AddBig.calls k (fun k_ => (.slice A60 p.length c60 : Value).ownBlock = some k_) _ _ p (fun k_ => (.slice A25 r.length c25 : Value).ownBlock = some k_) _ _ r a true _ (HX.out.V 8 rfl) (HX.out.V 5 rfl) hpa.out).mono ?_); rintro e w67 ⟨v65_0, rfl, ho0, hb⟩; refine ⟨_, rfl, ?_⟩; obtain ⟨A66, c66, rfl⟩ := Kd.R_slice ho0; replace HX := Aside0.mk (HX.out.rowE ho0 hb); clear ho0 hb; simp only [List.cons_append, List.nil_append, List.set_cons_succ, List.set_cons_zero] at HX; simp only [Act.put, List.setIfInBounds_toArray, List.set_cons_zero, List.set_cons_succ]) | ((with_reducible refine gate_dst (N := 21) rfl ?_); refine Bn.allocE HX rfl rfl al25 ?_; clear HX; intro g68 w69 HX; simp only [List.cons_append, List.nil_append, List.set_cons_succ, List.set_cons_zero] at HX; simp only [Act.put, List.setIfInBounds_toArray, List.set_cons_zero, List.set_cons_succ]) | ((with_reducible refine gate_store (t := 25) (p := 21) rfl ?_); refine Bn.storeE (x := .tmp 21) (y := .tmp 151) (g := g68) (cs := #[.slice none 0 0]) (t := 25) (cells := #[.slice A66 a.length c66]) HX 9 rfl rfl rfl rfl rfl rfl sz25 rfl rfl ?_; clear HX; intro w70 HX; simp only [List.cons_append, List.nil_append, List.set_cons_succ, List.set_cons_zero] at HX) | ((with_reducible refine gate_dst (N := 154) rfl ?_); refine Bn.loadE (x := .tmp 12) (g := g29) (cs := #[.slice A25 r.length c25]) (t := 25) HX 5 rfl rfl rfl rfl Try.underlying25 sz25 ?_; simp only [Act.put, List.setIfInBounds_toArray, List.set_cons_zero, List.set_cons_succ]) | ((with_reducible refine gate_dst (N := 155) rfl ?_); refine Bn.loadE (x := .tmp 6) (g := g7) (cs := #[.slice A3 b.length c3]) (t := 25) HX 1 rfl rfl rfl rfl Try.underlying25 sz25 ?_; simp only [Act.put, List.setIfInBounds_toArray, List.set_cons_zero, List.set_cons_succ]) | ((with_reducible refine gate_dst (N := 156) rfl ?_); refine goesL_ (some 156) rfl rfl Try.func23 (by kernel_rfl) rfl #[.agg #[.slice A25 r.length c25], .agg #[.slice A3 b.length c3]] rfl (by (try simp only [List.map_toArray, List.map_cons, List.map_nil]); first | done | rfl) ?_; (with_reducible refine (impl_CompareBig.calls k (fun k_ => (.slice A25 r.length c25 : Value).ownBlock = some k_) _ _ r (fun k_ => (.slice A3 b.length c3 : Value).ownBlock = some k_) _ _ b (-1) true _ (HX.out.V 5 rfl) (HX.out.V 1 rfl) hcm.out).mono ?_); rintro e w72 ⟨rfl, hb⟩; refine ⟨_, rfl, ?_⟩; replace HX := Aside0.mk (HX.out.call hb); clear hb; simp only [Act.put, List.setIfInBounds_toArray, List.set_cons_zero, List.set_cons_succ]))
  go_wp2_with (first | ((with_reducible refine gate_dst (N := 166) rfl ?_); refine gate_guard (by first | rfl | (go_simp; done)) ?_; refine Bn.loadE (x := .tmp 21) (g := g68) (cs := #[.slice A66 a.length c66]) (t := 25) HX 9 rfl rfl rfl rfl Try.underlying25 sz25 ?_; simp only [Act.put, List.setIfInBounds_toArray, List.set_cons_zero, List.set_cons_succ]) | ((with_reducible refine gate_dst (N := 167) rfl ?_); refine gate_guard (by first | rfl | (go_simp; done)) ?_; refine Bn.loadE (x := .tmp 5) (g := g5) (cs := #[.slice A2 a.length c2]) (t := 25) HX 0 rfl rfl rfl rfl Try.underlying25 sz25 ?_; simp only [Act.put, List.setIfInBounds_toArray, List.set_cons_zero, List.set_cons_succ]) | ((with_reducible refine gate_dst (N := 168) rfl ?_); refine gate_guard (by first | rfl | (go_simp; done)) ?_; refine goesL_ (some 168) rfl rfl Try.func18 (by kernel_rfl) rfl #[.agg #[.slice A66 a.length c66], .agg #[.slice A2 a.length c2]] rfl (by (try simp only [List.map_toArray, List.map_cons, List.map_nil]); first | done | rfl) ?_; (with_reducible refine (laws_sameBig.calls k _ _ a _ _ a true _ (HX.out.C 9 rfl) (HX.out.cap 9 rfl) (HX.out.C 0 rfl) (HX.out.cap 0 rfl) haa.out).mono ?_); rintro e w74 ⟨rfl, hb⟩; refine ⟨_, rfl, ?_⟩; replace HX := Aside0.mk (HX.out.call hb); clear hb; simp only [Act.put, List.setIfInBounds_toArray, List.set_cons_zero, List.set_cons_succ]))
  go_meet
  case rel => exact ⟨HX.out.take 8 8⟩
 clear HX
 have HX := hcut
 clear hcut
 go_upto_region 26 with (first | ((with_reducible refine gate_dst (N := 180) rfl ?_); refine goesL_ (some 180) rfl rfl Try.func24 (by kernel_rfl) rfl #[.slice A1 l1.length c1] rfl (by (try simp only [List.map_toArray, List.map_cons, List.map_nil]); first | done | rfl) ?_; (with_reducible refine (spec_DrawDigitsOf.calls k _ _ l1 x _ (Kd.C_below HR1.out HX.out.below) HC1.out hx.out).mono ?_); rintro e w77 ⟨v75_0, rfl, ho0, hb⟩; refine ⟨_, rfl, ?_⟩; obtain ⟨A76, c76, rfl⟩ := Kd.R_slice ho0; replace HX := Aside0.mk (HX.out.rowE ho0 hb); clear ho0 hb; simp only [List.cons_append, List.nil_append, List.set_cons_succ, List.set_cons_zero] at HX; simp only [Act.put, List.setIfInBounds_toArray, List.set_cons_zero, List.set_cons_succ]) | ((with_reducible refine gate_dst (N := 25) rfl ?_); refine Bn.allocE HX rfl rfl al25 ?_; clear HX; intro g78 w79 HX; simp only [List.cons_append, List.nil_append, List.set_cons_succ, List.set_cons_zero] at HX; simp only [Act.put, List.setIfInBounds_toArray, List.set_cons_zero, List.set_cons_succ]) | ((with_reducible refine gate_store (t := 25) (p := 25) rfl ?_); refine Bn.storeE (x := .tmp 25) (y := .tmp 180) (g := g78) (cs := #[.slice none 0 0]) (t := 25) (cells := #[.slice A76 x.length c76]) HX 8 rfl rfl rfl rfl rfl rfl sz25 rfl rfl ?_; clear HX; intro w80 HX; simp only [List.cons_append, List.nil_append, List.set_cons_succ, List.set_cons_zero] at HX) | ((with_reducible refine gate_dst (N := 182) rfl ?_); refine Bn.loadE (x := .tmp 25) (g := g78) (cs := #[.slice A76 x.length c76]) (t := 25) HX 8 rfl rfl rfl rfl Try.underlying25 sz25 ?_; simp only [Act.put, List.setIfInBounds_toArray, List.set_cons_zero, List.set_cons_succ]) | ((with_reducible refine gate_dst (N := 183) rfl ?_); refine goesL_ (some 183) rfl rfl Try.func25 (by kernel_rfl) rfl #[.agg #[.slice A76 x.length c76]] rfl (by (try simp only [List.map_toArray, List.map_cons, List.map_nil]); first | done | rfl) ?_; (with_reducible refine (impl_DigitsOf.calls k (fun k_ => (.slice A76 x.length c76 : Value).ownBlock = some k_) _ _ x t two _ (HX.out.V 8 rfl) ht.out).mono ?_); rintro e w82 ⟨rfl, hb⟩; refine ⟨_, rfl, ?_⟩; replace HX := Aside0.mk (HX.out.call hb); clear hb; simp only [Act.put, List.setIfInBounds_toArray, List.set_cons_zero, List.set_cons_succ]) | ((with_reducible refine gate_dst (N := 187) rfl ?_); refine Bn.loadE (x := .tmp 25) (g := g78) (cs := #[.slice A76 x.length c76]) (t := 25) HX 8 rfl rfl rfl rfl Try.underlying25 sz25 ?_; simp only [Act.put, List.setIfInBounds_toArray, List.set_cons_zero, List.set_cons_succ]) | ((with_reducible refine gate_dst (N := 188) rfl ?_); refine goesL_ (some 188) rfl rfl Try.func26 (by kernel_rfl) rfl #[.agg #[.slice A76 x.length c76]] rfl (by (try simp only [List.map_toArray, List.map_cons, List.map_nil]); first | done | rfl) ?_; (with_reducible refine (spec_DigitsOf.calls k (fun k_ => (.slice A76 x.length c76 : Value).ownBlock = some k_) _ _ x t two _ (HX.out.V 8 rfl) ht2.out).mono ?_); rintro e w84 ⟨rfl, hb⟩; refine ⟨_, rfl, ?_⟩; replace HX := Aside0.mk (HX.out.call hb); clear hb; simp only [Act.put, List.setIfInBounds_toArray, List.set_cons_zero, List.set_cons_succ]) | ((with_reducible refine gate_dst (N := 192) rfl ?_); refine goesL_ (some 192) rfl rfl Try.func27 (by kernel_rfl) rfl #[.slice A1 l1.length c1] rfl (by (try simp only [List.map_toArray, List.map_cons, List.map_nil]); first | done | rfl) ?_; (with_reducible refine (spec_DrawOfDigits.calls k _ _ l1 u _ (Kd.C_below HR1.out HX.out.below) HC1.out hu.out).mono ?_); rintro e w86 ⟨rfl, hb⟩; refine ⟨_, rfl, ?_⟩; replace HX := Aside0.mk (HX.out.call hb); clear hb; simp only [Act.put, List.setIfInBounds_toArray, List.set_cons_zero, List.set_cons_succ]) | ((with_reducible refine gate_dst (N := 195) rfl ?_); refine goesL_ (some 195) rfl rfl Try.func28 (by kernel_rfl) rfl #[.string u] rfl (by (try simp only [List.map_toArray, List.map_cons, List.map_nil]); first | done | rfl) ?_; (with_reducible refine (impl_OfDigits.calls k u y four _ hy.out).mono ?_); rintro e w89 ⟨v87_0, rfl, ho0, hb⟩; refine ⟨_, rfl, ?_⟩; obtain ⟨A88, c88, rfl⟩ := Kd.R_slice ho0; replace HX := Aside0.mk (HX.out.rowE ho0 hb); clear ho0 hb; simp only [List.cons_append, List.nil_append, List.set_cons_succ, List.set_cons_zero] at HX; simp only [Act.put, List.setIfInBounds_toArray, List.set_cons_zero, List.set_cons_succ]) | ((with_reducible refine gate_dst (N := 31) rfl ?_); refine Bn.allocE HX rfl rfl al25 ?_; clear HX; intro g90 w91 HX; simp only [List.cons_append, List.nil_append, List.set_cons_succ, List.set_cons_zero] at HX; simp only [Act.put, List.setIfInBounds_toArray, List.set_cons_zero, List.set_cons_succ]) | ((with_reducible refine gate_store (t := 25) (p := 31) rfl ?_); refine Bn.storeE (x := .tmp 31) (y := .tmp 196) (g := g90) (cs := #[.slice none 0 0]) (t := 25) (cells := #[.slice A88 y.length c88]) HX 9 rfl rfl rfl rfl rfl rfl sz25 rfl rfl ?_; clear HX; intro w92 HX; simp only [List.cons_append, List.nil_append, List.set_cons_succ, List.set_cons_zero] at HX) | ((with_reducible refine gate_dst (N := 200) rfl ?_); refine goesL_ (some 200) rfl rfl Try.func29 (by kernel_rfl) rfl #[.string u] rfl (by (try simp only [List.map_toArray, List.map_cons, List.map_nil]); first | done | rfl) ?_; (with_reducible refine (spec_OfDigits.calls k u y four _ hy2.out).mono ?_); rintro e w95 ⟨v93_0, rfl, ho0, hb⟩; refine ⟨_, rfl, ?_⟩; obtain ⟨A94, c94, rfl⟩ := Kd.R_slice ho0; replace HX := Aside0.mk (HX.out.rowE ho0 hb); clear ho0 hb; simp only [List.cons_append, List.nil_append, List.set_cons_succ, List.set_cons_zero] at HX; simp only [Act.put, List.setIfInBounds_toArray, List.set_cons_zero, List.set_cons_succ]) | ((with_reducible refine gate_dst (N := 33) rfl ?_); refine Bn.allocE HX rfl rfl al25 ?_; clear HX; intro g96 w97 HX; simp only [List.cons_append, List.nil_append, List.set_cons_succ, List.set_cons_zero] at HX; simp only [Act.put, List.setIfInBounds_toArray, List.set_cons_zero, List.set_cons_succ]) | ((with_reducible refine gate_store (t := 25) (p := 33) rfl ?_); refine Bn.storeE (x := .tmp 33) (y := .tmp 201) (g := g96) (cs := #[.slice none 0 0]) (t := 25) (cells := #[.slice A94 y.length c94]) HX 10 rfl rfl rfl rfl rfl rfl sz25 rfl rfl ?_; clear HX; intro w98 HX; simp only [List.cons_append, List.nil_append, List.set_cons_succ, List.set_cons_zero] at HX))
 go_upto_if 222 with (first | ((with_reducible refine gate_dst (N := 217) rfl ?_); refine gate_guard (by first | rfl | (go_simp; done)) ?_; refine Bn.loadE (x := .tmp 31) (g := g90) (cs := #[.slice A88 y.length c88]) (t := 25) HX 9 rfl rfl rfl rfl Try.underlying25 sz25 ?_; simp only [Act.put, List.setIfInBounds_toArray, List.set_cons_zero, List.set_cons_succ]) | ((with_reducible refine gate_dst (N := 218) rfl ?_); refine gate_guard (by first | rfl | (go_simp; done)) ?_; refine Bn.loadE (x := .tmp 33) (g := g96) (cs := #[.slice A94 y.length c94]) (t := 25) HX 10 rfl rfl rfl rfl Try.underlying25 sz25 ?_; simp only [Act.put, List.setIfInBounds_toArray, List.set_cons_zero, List.set_cons_succ]) | ((with_reducible refine gate_dst (N := 219) rfl ?_); refine gate_guard (by first | rfl | (go_simp; done)) ?_; refine goesL_ (some 219) rfl rfl Try.func18 (by kernel_rfl) rfl #[.agg #[.slice A88 y.length c88], .agg #[.slice A94 y.length c94]] rfl (by (try simp only [List.map_toArray, List.map_cons, List.map_nil]); first | done | rfl) ?_; (with_reducible refine (laws_sameBig.calls k _ _ y _ _ y true _ (HX.out.C 9 rfl) (HX.out.cap 9 rfl) (HX.out.C 10 rfl) (HX.out.cap 10 rfl) hyy.out).mono ?_); rintro e w100 ⟨rfl, hb⟩; refine ⟨_, rfl, ?_⟩; replace HX := Aside0.mk (HX.out.call hb); clear hb; simp only [Act.put, List.setIfInBounds_toArray, List.set_cons_zero, List.set_cons_succ]))
 go_cut [] from 223 to 235 (fun wc => Aside0 (Bn.B w wc [(g5, #[.slice A2 a.length c2], 25), (g7, #[.slice A3 b.length c3], 25), (g14, #[.slice A12 s.length c12], 25), (g20, #[.slice A18 s.length c18], 25), (g27, #[.slice A24 q.length c24], 25), (g29, #[.slice A25 r.length c25], 25), (g37, #[.slice A34 q.length c34], 25), (g39, #[.slice A35 r.length c35], 25), (g78, #[.slice A76 x.length c76], 25), (g90, #[.slice A88 y.length c88], 25), (g96, #[.slice A94 y.length c94], 25)] [⟨(Kd.int .i64), 3, .slice A2 a.length c2, a⟩, ⟨(Kd.int .i64), 3, .slice A3 b.length c3, b⟩, ⟨(Kd.int .i64), 3, .slice A12 s.length c12, s⟩, ⟨(Kd.int .i64), 3, .slice A18 s.length c18, s⟩, ⟨(Kd.int .i64), 3, .slice A24 q.length c24, q⟩, ⟨(Kd.int .i64), 3, .slice A25 r.length c25, r⟩, ⟨(Kd.int .i64), 3, .slice A34 q.length c34, q⟩, ⟨(Kd.int .i64), 3, .slice A35 r.length c35, r⟩, ⟨(Kd.int .i64), 3, .slice A76 x.length c76, x⟩, ⟨(Kd.int .i64), 3, .slice A88 y.length c88, y⟩, ⟨(Kd.int .i64), 3, .slice A94 y.length c94, y⟩]))
 case first =>
  obtain _ | _ := two
  · go_wp2
    go_meet
    case rel => exact HX
  obtain ⟨hox, hxx⟩ := hTwo.out rfl
  replace hox := Aside0.mk hox
  replace hxx := Aside0.mk hxx
  go_wp2_with (first | ((with_reducible refine gate_dst (N := 225) rfl ?_); refine goesL_ (some 225) rfl rfl Try.func28 (by kernel_rfl) rfl #[.string t] rfl (by (try simp only [List.map_toArray, List.map_cons, List.map_nil]); first | done | rfl) ?_; (with_reducible refine (impl_OfDigits.calls k t x true _ hox.out).mono ?_); rintro e w103 ⟨v101_0, rfl, ho0, hb⟩; refine ⟨_, rfl, ?_⟩; obtain ⟨A102, c102, rfl⟩ := Kd.R_slice ho0; replace HX := Aside0.mk (HX.out.rowE ho0 hb); clear ho0 hb; simp only [List.cons_append, List.nil_append, List.set_cons_succ, List.set_cons_zero] at HX; simp only [Act.put, List.setIfInBounds_toArray, List.set_cons_zero, List.set_cons_succ]) | ((with_reducible refine gate_dst (N := 35) rfl ?_); refine Bn.allocE HX rfl rfl al25 ?_; clear HX; intro g104 w105 HX; simp only [List.cons_append, List.nil_append, List.set_cons_succ, List.set_cons_zero] at HX; simp only [Act.put, List.setIfInBounds_toArray, List.set_cons_zero, List.set_cons_succ]) | ((with_reducible refine gate_store (t := 25) (p := 35) rfl ?_); refine Bn.storeE (x := .tmp 35) (y := .tmp 226) (g := g104) (cs := #[.slice none 0 0]) (t := 25) (cells := #[.slice A102 x.length c102]) HX 11 rfl rfl rfl rfl rfl rfl sz25 rfl rfl ?_; clear HX; intro w106 HX; simp only [List.cons_append, List.nil_append, List.set_cons_succ, List.set_cons_zero] at HX) | ((with_reducible refine gate_dst (N := 231) rfl ?_); refine gate_guard (by first | rfl | (go_simp; done)) ?_; refine Bn.loadE (x := .tmp 35) (g := g104) (cs := #[.slice A102 x.length c102]) (t := 25) HX 11 rfl rfl rfl rfl Try.underlying25 sz25 ?_; simp only [Act.put, List.setIfInBounds_toArray, List.set_cons_zero, List.set_cons_succ]) | ((with_reducible refine gate_dst (N := 232) rfl ?_); refine gate_guard (by first | rfl | (go_simp; done)) ?_; refine Bn.loadE (x := .tmp 25) (g := g78) (cs := #[.slice A76 x.length c76]) (t := 25) HX 8 rfl rfl rfl rfl Try.underlying25 sz25 ?_; simp only [Act.put, List.setIfInBounds_toArray, List.set_cons_zero, List.set_cons_succ]) | ((with_reducible refine gate_dst (N := 233) rfl ?_); refine gate_guard (by first | rfl | (go_simp; done)) ?_; refine goesL_ (some 233) rfl rfl Try.func18 (by kernel_rfl) rfl #[.agg #[.slice A102 x.length c102], .agg #[.slice A76 x.length c76]] rfl (by (try simp only [List.map_toArray, List.map_cons, List.map_nil]); first | done | rfl) ?_; (with_reducible refine (laws_sameBig.calls k _ _ x _ _ x true _ (HX.out.C 11 rfl) (HX.out.cap 11 rfl) (HX.out.C 8 rfl) (HX.out.cap 8 rfl) hxx.out).mono ?_); rintro e w108 ⟨rfl, hb⟩; refine ⟨_, rfl, ?_⟩; replace HX := Aside0.mk (HX.out.call hb); clear hb; simp only [Act.put, List.setIfInBounds_toArray, List.set_cons_zero, List.set_cons_succ]))
  go_meet
  case rel => exact ⟨HX.out.take 11 11⟩
 clear HX
 have HX := hcut
 clear hcut
 go_upto_region 37 with (first | ((with_reducible refine gate_dst (N := 238) rfl ?_); refine goesL_ (some 238) rfl rfl Try.func30 (by kernel_rfl) rfl #[.slice A1 l1.length c1] rfl (by (try simp only [List.map_toArray, List.map_cons, List.map_nil]); first | done | rfl) ?_; (with_reducible refine (spec_DrawShiftBig.calls k _ _ l1 z sh _ (Kd.C_below HR1.out HX.out.below) HC1.out hz.out).mono ?_); rintro e w111 ⟨v109_0, rfl, ho0, hb⟩; refine ⟨_, rfl, ?_⟩; obtain ⟨A110, c110, rfl⟩ := Kd.R_slice ho0; replace HX := Aside0.mk (HX.out.rowE ho0 hb); clear ho0 hb; simp only [List.cons_append, List.nil_append, List.set_cons_succ, List.set_cons_zero] at HX; simp only [Act.put, List.setIfInBounds_toArray, List.set_cons_zero, List.set_cons_succ]) | ((with_reducible refine gate_dst (N := 37) rfl ?_); refine Bn.allocE HX rfl rfl al25 ?_; clear HX; intro g112 w113 HX; simp only [List.cons_append, List.nil_append, List.set_cons_succ, List.set_cons_zero] at HX; simp only [Act.put, List.setIfInBounds_toArray, List.set_cons_zero, List.set_cons_succ]) | ((with_reducible refine gate_store (t := 25) (p := 37) rfl ?_); refine Bn.storeE (x := .tmp 37) (y := .tmp 239) (g := g112) (cs := #[.slice none 0 0]) (t := 25) (cells := #[.slice A110 z.length c110]) HX 11 rfl rfl rfl rfl rfl rfl sz25 rfl rfl ?_; clear HX; intro w114 HX; simp only [List.cons_append, List.nil_append, List.set_cons_succ, List.set_cons_zero] at HX) | ((with_reducible refine gate_dst (N := 242) rfl ?_); refine Bn.loadE (x := .tmp 37) (g := g112) (cs := #[.slice A110 z.length c110]) (t := 25) HX 11 rfl rfl rfl rfl Try.underlying25 sz25 ?_; simp only [Act.put, List.setIfInBounds_toArray, List.set_cons_zero, List.set_cons_succ]) | ((with_reducible refine gate_dst (N := 244) rfl ?_); refine goesL_ (some 244) rfl rfl Try.func31 (by kernel_rfl) rfl #[.agg #[.slice A110 z.length c110], .int .i64 sh] rfl (by (try simp only [List.map_toArray, List.map_cons, List.map_nil]); first | done | rfl) ?_; (with_reducible refine (impl_ShiftBig.calls k _ _ z sh h six _ (HX.out.C 11 rfl) (HX.out.cap 11 rfl) hh.out).mono ?_); rintro e w117 ⟨v115_0, rfl, ho0, hb⟩; refine ⟨_, rfl, ?_⟩; obtain ⟨A116, c116, rfl⟩ := Kd.R_slice ho0; replace HX := Aside0.mk (HX.out.rowE ho0 hb); clear ho0 hb; simp only [List.cons_append, List.nil_append, List.set_cons_succ, List.set_cons_zero] at HX; simp only [Act.put, List.setIfInBounds_toArray, List.set_cons_zero, List.set_cons_succ]) | ((with_reducible refine gate_dst (N := 39) rfl ?_); refine Bn.allocE HX rfl rfl al25 ?_; clear HX; intro g118 w119 HX; simp only [List.cons_append, List.nil_append, List.set_cons_succ, List.set_cons_zero] at HX; simp only [Act.put, List.setIfInBounds_toArray, List.set_cons_zero, List.set_cons_succ]) | ((with_reducible refine gate_store (t := 25) (p := 39) rfl ?_); refine Bn.storeE (x := .tmp 39) (y := .tmp 245) (g := g118) (cs := #[.slice none 0 0]) (t := 25) (cells := #[.slice A116 h.length c116]) HX 12 rfl rfl rfl rfl rfl rfl sz25 rfl rfl ?_; clear HX; intro w120 HX; simp only [List.cons_append, List.nil_append, List.set_cons_succ, List.set_cons_zero] at HX) | ((with_reducible refine gate_dst (N := 248) rfl ?_); refine Bn.loadE (x := .tmp 37) (g := g112) (cs := #[.slice A110 z.length c110]) (t := 25) HX 11 rfl rfl rfl rfl Try.underlying25 sz25 ?_; simp only [Act.put, List.setIfInBounds_toArray, List.set_cons_zero, List.set_cons_succ]) | ((with_reducible refine gate_dst (N := 250) rfl ?_); refine goesL_ (some 250) rfl rfl Try.func32 (by kernel_rfl) rfl #[.agg #[.slice A110 z.length c110], .int .i64 sh] rfl (by (try simp only [List.map_toArray, List.map_cons, List.map_nil]); first | done | rfl) ?_; (with_reducible refine (spec_ShiftBig.calls k (fun k_ => (.slice A110 z.length c110 : Value).ownBlock = some k_) _ _ z sh h six _ (HX.out.V 11 rfl) hh2.out).mono ?_); rintro e w123 ⟨v121_0, rfl, ho0, hb⟩; refine ⟨_, rfl, ?_⟩; obtain ⟨A122, c122, rfl⟩ := Kd.R_slice ho0; replace HX := Aside0.mk (HX.out.rowE ho0 hb); clear ho0 hb; simp only [List.cons_append, List.nil_append, List.set_cons_succ, List.set_cons_zero] at HX; simp only [Act.put, List.setIfInBounds_toArray, List.set_cons_zero, List.set_cons_succ]) | ((with_reducible refine gate_dst (N := 41) rfl ?_); refine Bn.allocE HX rfl rfl al25 ?_; clear HX; intro g124 w125 HX; simp only [List.cons_append, List.nil_append, List.set_cons_succ, List.set_cons_zero] at HX; simp only [Act.put, List.setIfInBounds_toArray, List.set_cons_zero, List.set_cons_succ]) | ((with_reducible refine gate_store (t := 25) (p := 41) rfl ?_); refine Bn.storeE (x := .tmp 41) (y := .tmp 251) (g := g124) (cs := #[.slice none 0 0]) (t := 25) (cells := #[.slice A122 h.length c122]) HX 13 rfl rfl rfl rfl rfl rfl sz25 rfl rfl ?_; clear HX; intro w126 HX; simp only [List.cons_append, List.nil_append, List.set_cons_succ, List.set_cons_zero] at HX) | ((with_reducible refine gate_dst (N := 254) rfl ?_); refine goesL_ (some 254) rfl rfl Try.func33 (by kernel_rfl) rfl #[.slice A1 l1.length c1] rfl (by (try simp only [List.map_toArray, List.map_cons, List.map_nil]); first | done | rfl) ?_; (with_reducible refine (spec_DrawBigOf.calls _ _ l1 n _ (Kd.C_below HR1.out HX.out.below) HC1.out hn.out).mono ?_); rintro e w128 ⟨rfl, hb⟩; refine ⟨_, rfl, ?_⟩; replace HX := Aside0.mk (HX.out.call hb); clear hb; simp only [Act.put, List.setIfInBounds_toArray, List.set_cons_zero, List.set_cons_succ]) | ((with_reducible refine gate_dst (N := 257) rfl ?_); refine goesL_ (some 257) rfl rfl Try.func34 (by kernel_rfl) rfl #[.int .i64 n] rfl (by (try simp only [List.map_toArray, List.map_cons, List.map_nil]); first | done | rfl) ?_; (with_reducible refine (impl_BigOf.calls k n o eight _ ho.out).mono ?_); rintro e w131 ⟨v129_0, rfl, ho0, hb⟩; refine ⟨_, rfl, ?_⟩; obtain ⟨A130, c130, rfl⟩ := Kd.R_slice ho0; replace HX := Aside0.mk (HX.out.rowE ho0 hb); clear ho0 hb; simp only [List.cons_append, List.nil_append, List.set_cons_succ, List.set_cons_zero] at HX; simp only [Act.put, List.setIfInBounds_toArray, List.set_cons_zero, List.set_cons_succ]) | ((with_reducible refine gate_dst (N := 44) rfl ?_); refine Bn.allocE HX rfl rfl al25 ?_; clear HX; intro g132 w133 HX; simp only [List.cons_append, List.nil_append, List.set_cons_succ, List.set_cons_zero] at HX; simp only [Act.put, List.setIfInBounds_toArray, List.set_cons_zero, List.set_cons_succ]) | ((with_reducible refine gate_store (t := 25) (p := 44) rfl ?_); refine Bn.storeE (x := .tmp 44) (y := .tmp 258) (g := g132) (cs := #[.slice none 0 0]) (t := 25) (cells := #[.slice A130 o.length c130]) HX 14 rfl rfl rfl rfl rfl rfl sz25 rfl rfl ?_; clear HX; intro w134 HX; simp only [List.cons_append, List.nil_append, List.set_cons_succ, List.set_cons_zero] at HX))
 go_upto_region 40 with (first | ((with_reducible refine gate_dst (N := 262) rfl ?_); refine goesL_ (some 262) rfl rfl Try.func35 (by kernel_rfl) rfl #[.int .i64 n] rfl (by (try simp only [List.map_toArray, List.map_cons, List.map_nil]); first | done | rfl) ?_; (with_reducible refine (spec_BigOf.calls k n o eight _ ho2.out).mono ?_); rintro e w137 ⟨v135_0, rfl, ho0, hb⟩; refine ⟨_, rfl, ?_⟩; obtain ⟨A136, c136, rfl⟩ := Kd.R_slice ho0; replace HX := Aside0.mk (HX.out.rowE ho0 hb); clear ho0 hb; simp only [List.cons_append, List.nil_append, List.set_cons_succ, List.set_cons_zero] at HX; simp only [Act.put, List.setIfInBounds_toArray, List.set_cons_zero, List.set_cons_succ]) | ((with_reducible refine gate_dst (N := 46) rfl ?_); refine Bn.allocE HX rfl rfl al25 ?_; clear HX; intro g138 w139 HX; simp only [List.cons_append, List.nil_append, List.set_cons_succ, List.set_cons_zero] at HX; simp only [Act.put, List.setIfInBounds_toArray, List.set_cons_zero, List.set_cons_succ]) | ((with_reducible refine gate_store (t := 25) (p := 46) rfl ?_); refine Bn.storeE (x := .tmp 46) (y := .tmp 263) (g := g138) (cs := #[.slice none 0 0]) (t := 25) (cells := #[.slice A136 o.length c136]) HX 15 rfl rfl rfl rfl rfl rfl sz25 rfl rfl ?_; clear HX; intro w140 HX; simp only [List.cons_append, List.nil_append, List.set_cons_succ, List.set_cons_zero] at HX) | ((with_reducible refine gate_dst (N := 269) rfl ?_); refine gate_guard (by first | rfl | (go_simp; done)) ?_; refine Bn.loadE (x := .tmp 39) (g := g118) (cs := #[.slice A116 h.length c116]) (t := 25) HX 12 rfl rfl rfl rfl Try.underlying25 sz25 ?_; simp only [Act.put, List.setIfInBounds_toArray, List.set_cons_zero, List.set_cons_succ]) | ((with_reducible refine gate_dst (N := 270) rfl ?_); refine gate_guard (by first | rfl | (go_simp; done)) ?_; refine Bn.loadE (x := .tmp 41) (g := g124) (cs := #[.slice A122 h.length c122]) (t := 25) HX 13 rfl rfl rfl rfl Try.underlying25 sz25 ?_; simp only [Act.put, List.setIfInBounds_toArray, List.set_cons_zero, List.set_cons_succ]) | ((with_reducible refine gate_dst (N := 271) rfl ?_); refine gate_guard (by first | rfl | (go_simp; done)) ?_; refine goesL_ (some 271) rfl rfl Try.func18 (by kernel_rfl) rfl #[.agg #[.slice A116 h.length c116], .agg #[.slice A122 h.length c122]] rfl (by (try simp only [List.map_toArray, List.map_cons, List.map_nil]); first | done | rfl) ?_; (with_reducible refine (laws_sameBig.calls k _ _ h _ _ h true _ (HX.out.C 12 rfl) (HX.out.cap 12 rfl) (HX.out.C 13 rfl) (HX.out.cap 13 rfl) hhh.out).mono ?_); rintro e w142 ⟨rfl, hb⟩; refine ⟨_, rfl, ?_⟩; replace HX := Aside0.mk (HX.out.call hb); clear hb; simp only [Act.put, List.setIfInBounds_toArray, List.set_cons_zero, List.set_cons_succ]) | ((with_reducible refine gate_dst (N := 280) rfl ?_); refine gate_guard (by first | rfl | (go_simp; done)) ?_; refine Bn.loadE (x := .tmp 44) (g := g132) (cs := #[.slice A130 o.length c130]) (t := 25) HX 14 rfl rfl rfl rfl Try.underlying25 sz25 ?_; simp only [Act.put, List.setIfInBounds_toArray, List.set_cons_zero, List.set_cons_succ]) | ((with_reducible refine gate_dst (N := 281) rfl ?_); refine gate_guard (by first | rfl | (go_simp; done)) ?_; refine Bn.loadE (x := .tmp 46) (g := g138) (cs := #[.slice A136 o.length c136]) (t := 25) HX 15 rfl rfl rfl rfl Try.underlying25 sz25 ?_; simp only [Act.put, List.setIfInBounds_toArray, List.set_cons_zero, List.set_cons_succ]) | ((with_reducible refine gate_dst (N := 282) rfl ?_); refine gate_guard (by first | rfl | (go_simp; done)) ?_; refine goesL_ (some 282) rfl rfl Try.func18 (by kernel_rfl) rfl #[.agg #[.slice A130 o.length c130], .agg #[.slice A136 o.length c136]] rfl (by (try simp only [List.map_toArray, List.map_cons, List.map_nil]); first | done | rfl) ?_; (with_reducible refine (laws_sameBig.calls k _ _ o _ _ o true _ (HX.out.C 14 rfl) (HX.out.cap 14 rfl) (HX.out.C 15 rfl) (HX.out.cap 15 rfl) hoo.out).mono ?_); rintro e w144 ⟨rfl, hb⟩; refine ⟨_, rfl, ?_⟩; replace HX := Aside0.mk (HX.out.call hb); clear hb; simp only [Act.put, List.setIfInBounds_toArray, List.set_cons_zero, List.set_cons_succ]))
 obtain _ | _ := six
 · go_wp2
   go_ret
   exact ⟨rfl, HX.out.below⟩
 by_cases hsh : 0 ≤ sh
 rotate_left
 · have hd9 : decide (0 ≤ sh) = false := decide_eq_false hsh
   clear hsh
   go_wp2
   go_ret
   exact ⟨rfl, HX.out.below⟩
 obtain ⟨hbk, hzz⟩ := hSix.out rfl hsh
 replace hbk := Aside0.mk hbk
 replace hzz := Aside0.mk hzz
 have hd9 : decide (0 ≤ sh) = true := decide_eq_true hsh
 go_wp2_with (first | ((with_reducible refine gate_dst (N := 291) rfl ?_); refine Bn.loadE (x := .tmp 39) (g := g118) (cs := #[.slice A116 h.length c116]) (t := 25) HX 12 rfl rfl rfl rfl Try.underlying25 sz25 ?_; simp only [Act.put, List.setIfInBounds_toArray, List.set_cons_zero, List.set_cons_succ]) | ((with_reducible refine gate_dst (N := 294) rfl ?_); refine goesL_ (some 294) rfl rfl Try.func31 (by kernel_rfl) rfl #[.agg #[.slice A116 h.length c116], .int .i64 (-sh)] rfl (by (try simp only [List.map_toArray, List.map_cons, List.map_nil]); first | done | rfl) ?_; (with_reducible refine (impl_ShiftBig.calls k _ _ h (-sh) z true _ (HX.out.C 12 rfl) (HX.out.cap 12 rfl) hbk.out).mono ?_); rintro e w147 ⟨v145_0, rfl, ho0, hb⟩; refine ⟨_, rfl, ?_⟩; obtain ⟨A146, c146, rfl⟩ := Kd.R_slice ho0; replace HX := Aside0.mk (HX.out.rowE ho0 hb); clear ho0 hb; simp only [List.cons_append, List.nil_append, List.set_cons_succ, List.set_cons_zero] at HX; simp only [Act.put, List.setIfInBounds_toArray, List.set_cons_zero, List.set_cons_succ]) | ((with_reducible refine gate_dst (N := 48) rfl ?_); refine Bn.allocE HX rfl rfl al25 ?_; clear HX; intro g148 w149 HX; simp only [List.cons_append, List.nil_append, List.set_cons_succ, List.set_cons_zero] at HX; simp only [Act.put, List.setIfInBounds_toArray, List.set_cons_zero, List.set_cons_succ]) | ((with_reducible refine gate_store (t := 25) (p := 48) rfl ?_); refine Bn.storeE (x := .tmp 48) (y := .tmp 295) (g := g148) (cs := #[.slice none 0 0]) (t := 25) (cells := #[.slice A146 z.length c146]) HX 16 rfl rfl rfl rfl rfl rfl sz25 rfl rfl ?_; clear HX; intro w150 HX; simp only [List.cons_append, List.nil_append, List.set_cons_succ, List.set_cons_zero] at HX) | ((with_reducible refine gate_dst (N := 299) rfl ?_); refine gate_guard (by first | rfl | (go_simp; done)) ?_; refine Bn.loadE (x := .tmp 48) (g := g148) (cs := #[.slice A146 z.length c146]) (t := 25) HX 16 rfl rfl rfl rfl Try.underlying25 sz25 ?_; simp only [Act.put, List.setIfInBounds_toArray, List.set_cons_zero, List.set_cons_succ]) | ((with_reducible refine gate_dst (N := 300) rfl ?_); refine gate_guard (by first | rfl | (go_simp; done)) ?_; refine Bn.loadE (x := .tmp 37) (g := g112) (cs := #[.slice A110 z.length c110]) (t := 25) HX 11 rfl rfl rfl rfl Try.underlying25 sz25 ?_; simp only [Act.put, List.setIfInBounds_toArray, List.set_cons_zero, List.set_cons_succ]) | ((with_reducible refine gate_dst (N := 301) rfl ?_); refine gate_guard (by first | rfl | (go_simp; done)) ?_; refine goesL_ (some 301) rfl rfl Try.func18 (by kernel_rfl) rfl #[.agg #[.slice A146 z.length c146], .agg #[.slice A110 z.length c110]] rfl (by (try simp only [List.map_toArray, List.map_cons, List.map_nil]); first | done | rfl) ?_; (with_reducible refine (laws_sameBig.calls k _ _ z _ _ z true _ (HX.out.C 16 rfl) (HX.out.cap 16 rfl) (HX.out.C 11 rfl) (HX.out.cap 11 rfl) hzz.out).mono ?_); rintro e w152 ⟨rfl, hb⟩; refine ⟨_, rfl, ?_⟩; replace HX := Aside0.mk (HX.out.call hb); clear hb; simp only [Act.put, List.setIfInBounds_toArray, List.set_cons_zero, List.set_cons_succ]))
 go_ret
 exact ⟨rfl, HX.out.below⟩
end Go.Proofs.Ytadooofomkdaoaa.QFnLimbs
