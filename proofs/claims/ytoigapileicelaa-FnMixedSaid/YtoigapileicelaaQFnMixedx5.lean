import Derived.Test.YtoigapileicelaaSqueeze
import Derived.Test.YtoigapileicelaaQFnMixedx0
import Derived.Test.YtoigapileicelaaQFnMixedx3
import Derived.Test.YtoigapileicelaaQFnMixedx4
namespace Go.Proofs.Ytoigapileicelaa.QFnMixed
open Go.RowKit Go.Proofs.YtoigapileicelaaW.PrintWords Go.Proofs.YtoigapileicelaaW.PrintLast Go.Proofs.YtoigapileicelaaW.PrintMore
attribute [local go_sem] max2_int min2_int max_two min_two max_three min_three max_four min_four   -- for this text's walks alone
set_option linter.unusedVariables false
set_option linter.unusedSimpArgs false

/-! ### spec_DrawMixText: function 41 -/
def spec_DrawMixText.f (k : Nat) (l0 : List Int) : Option (List Int × Int × ByteArray) := (spec_l1Cur_keys.f k l0 0 0).bind fun bt255 => ((spec_l1Cur_block.f l0 bt255.2.1 bt255.2.2).bind fun bt260 => (if 40 ≤ 281474976710656 then (if 42 ≤ 281474976710656 then ((spec_l1Cur_of.f l0 bt260.2.1 bt260.2.2 (([(⟨#[]⟩ : ByteArray), (⟨#[97, 98]⟩ : ByteArray), (⟨#[97, 98, 99]⟩ : ByteArray), (⟨#[115, 111, 109, 101, 32, 116, 101, 120, 116, 33]⟩ : ByteArray), strOfNums (List.replicate 40 0), strOfNums (List.replicate 42 0)] : List ByteArray))).bind fun bt272 => (some (bt255.1, bt260.1, bt272.1))) else (none)) else (none)))
theorem spec_DrawMixText.mono : ∀ a0 k, LeO (spec_DrawMixText.f k a0) (spec_DrawMixText.f (k + 1) a0) := by
  intro a0 k
  unfold spec_DrawMixText.f
  repeat' first
      | (with_reducible exact spec_l1Cur_keys.mono _ _ _ _)
      | (with_reducible exact LeO.refl _)
      | (with_reducible exact LeO.none _)
      | (with_reducible refine LeO.ite ?_ ?_)
      | (with_reducible refine LeO.bind ?_ (fun _ => ?_))
      | exact spec_l1Cur_keys.mono _ _ _ _
      | exact LeO.none _
      | refine LeO.ite ?_ ?_
      | refine LeO.bind ?_ (fun _ => ?_)
def spec_DrawMixText.T2 : Bool × List (List Nat × List Nat) := (true, [([], []), ([0], [0]), ([], []), ([2, 1], [2]), ([], []), ([], []), ([5], [5]), ([], []), ([7], [7]), ([6, 8], [6, 8]), ([4, 9, 3], [4, 9]), ([1, 10, 0, 1], [1]), ([3, 11, 0, 1, 2, 3, 11], [3]), ([10, 12, 0, 1, 2, 3, 4, 5, 6, 7, 8, 9, 10, 11, 12], [10])])
def spec_DrawMixText.B2 : List Nat := [0, 1, 0, 7, 0, 0, 32, 0, 128, 480, 1023, 2047, 4095, 8191]
theorem spec_DrawMixText.tab2 : rtab .any (opsOf Try.f41 2) = spec_DrawMixText.T2 := by kernel_rfl
theorem spec_DrawMixText.bits2 : waitsOk spec_DrawMixText.T2.2 spec_DrawMixText.B2 = true := by kernel_rfl
set_option maxHeartbeats 8000000 in
set_option maxRecDepth 100000 in
theorem spec_DrawMixText.calls (k : Nat) (A0 : Option Addr) (c0 : Nat) (l0 : List Int) (r1 : List Int) (r2 : Int) (r3 : ByteArray) (w : World) (hr0 : Kd.C (Kd.int .u8) w A0 l0.length l0) (hc0 : l0.length ≤ c0) (h : spec_DrawMixText.f k l0 = some (r1, r2, r3)) :
    Calls Try.prog 41 #[.slice A0 l0.length c0] w fun e w' => ∃ v0_ : Value, e = .returned (.tuple #[v0_, .int .i64 r2, .string r3]) ∧ Kd.R (Kd.int .i64) 3 w' w.heap.size (fun _ => True) v0_ r1 ∧ Below w.heap.size w w' := by
 have hu74 := Try.underlying74
 have HR0 := Aside0.mk hr0
 have HC0 := Aside0.mk hc0
 clear hr0 hc0
 have HB := Aside0.mk (Below.refl w.heap.size w)
 have H : ((spec_l1Cur_keys.f k l0 0 0).bind fun bt255 => ((spec_l1Cur_block.f l0 bt255.2.1 bt255.2.2).bind fun bt260 => (if 40 ≤ 281474976710656 then (if 42 ≤ 281474976710656 then ((spec_l1Cur_of.f l0 bt260.2.1 bt260.2.2 (([(⟨#[]⟩ : ByteArray), (⟨#[97, 98]⟩ : ByteArray), (⟨#[97, 98, 99]⟩ : ByteArray), (⟨#[115, 111, 109, 101, 32, 116, 101, 120, 116, 33]⟩ : ByteArray), strOfNums (List.replicate 40 0), strOfNums (List.replicate 42 0)] : List ByteArray))).bind fun bt272 => (some (bt255.1, bt260.1, bt272.1))) else (none)) else (none)))) = some (r1, r2, r3) := h
 clear h
 replace H := Option.bind_eq_some_iff.mp H
 obtain ⟨⟨t255, t258, t259⟩, A20, H⟩ := H
 replace H : ((spec_l1Cur_block.f l0 t258 t259).bind fun bt260 => (if 40 ≤ 281474976710656 then (if 42 ≤ 281474976710656 then ((spec_l1Cur_of.f l0 bt260.2.1 bt260.2.2 (([(⟨#[]⟩ : ByteArray), (⟨#[97, 98]⟩ : ByteArray), (⟨#[97, 98, 99]⟩ : ByteArray), (⟨#[115, 111, 109, 101, 32, 116, 101, 120, 116, 33]⟩ : ByteArray), strOfNums (List.replicate 40 0), strOfNums (List.replicate 42 0)] : List ByteArray))).bind fun bt272 => (some (t255, bt260.1, bt272.1))) else (none)) else (none))) = some (r1, r2, r3) := H
 have A2 := Aside0.mk A20
 clear A20
 replace H := Option.bind_eq_some_iff.mp H
 obtain ⟨⟨t260, t261, t262⟩, A30, H⟩ := H
 replace H : (if 40 ≤ 281474976710656 then (if 42 ≤ 281474976710656 then ((spec_l1Cur_of.f l0 t261 t262 (([(⟨#[]⟩ : ByteArray), (⟨#[97, 98]⟩ : ByteArray), (⟨#[97, 98, 99]⟩ : ByteArray), (⟨#[115, 111, 109, 101, 32, 116, 101, 120, 116, 33]⟩ : ByteArray), strOfNums (List.replicate 40 0), strOfNums (List.replicate 42 0)] : List ByteArray))).bind fun bt272 => (some (t255, t260, bt272.1))) else (none)) else (none)) = some (r1, r2, r3) := H
 have A3 := Aside0.mk A30
 clear A30
 by_cases c4 : 40 ≤ 281474976710656
 rotate_left
 · rw [if_neg c4] at H
   exact absurd H (by simp)

 rw [if_pos c4] at H
 have c4b0 := eq_true c4
 have c4b1 : decide (40 ≤ 281474976710656) = true := decide_eq_true c4
 clear c4
 obtain ⟨y263, hy263⟩ : ∃ y_ : List Int, y_ = (List.replicate 40 0) := ⟨_, rfl⟩
 replace H : (if 42 ≤ 281474976710656 then ((spec_l1Cur_of.f l0 t261 t262 (([(⟨#[]⟩ : ByteArray), (⟨#[97, 98]⟩ : ByteArray), (⟨#[97, 98, 99]⟩ : ByteArray), (⟨#[115, 111, 109, 101, 32, 116, 101, 120, 116, 33]⟩ : ByteArray), strOfNums y263, strOfNums (List.replicate 42 0)] : List ByteArray))).bind fun bt272 => (some (t255, t260, bt272.1))) else (none)) = some (r1, r2, r3) := by first | (rw [hy263]; with_reducible exact H) | (have H2_ := (Option.bind_some _ _).symm.trans H; rw [hy263]; with_reducible exact H2_) | (have H2_ := (Option.bind_some _ _).symm.trans H; with_reducible exact H2_) | with_reducible exact H | (rw [hy263]; exact H) | exact H
 have Ny263 := Aside0.mk hy263
 clear hy263
 by_cases c5 : 42 ≤ 281474976710656
 rotate_left
 · rw [if_neg c5] at H
   exact absurd H (by simp)
 rw [if_pos c5] at H
 have c5b0 := eq_true c5
 have c5b1 : decide (42 ≤ 281474976710656) = true := decide_eq_true c5
 clear c5
 obtain ⟨y266, hy266⟩ : ∃ y_ : List Int, y_ = (List.replicate 42 0) := ⟨_, rfl⟩
 replace H : ((spec_l1Cur_of.f l0 t261 t262 (([(⟨#[]⟩ : ByteArray), (⟨#[97, 98]⟩ : ByteArray), (⟨#[97, 98, 99]⟩ : ByteArray), (⟨#[115, 111, 109, 101, 32, 116, 101, 120, 116, 33]⟩ : ByteArray), strOfNums y263, strOfNums y266] : List ByteArray))).bind fun bt272 => (some (t255, t260, bt272.1))) = some (r1, r2, r3) := by first | (rw [hy266]; with_reducible exact H) | (have H2_ := (Option.bind_some _ _).symm.trans H; rw [hy266]; with_reducible exact H2_) | (have H2_ := (Option.bind_some _ _).symm.trans H; with_reducible exact H2_) | with_reducible exact H | (rw [hy266]; exact H) | exact H
 have Ny266 := Aside0.mk hy266
 clear hy266
 obtain ⟨y269, hy269⟩ : ∃ y_ : List ByteArray, y_ = (([(⟨#[]⟩ : ByteArray), (⟨#[97, 98]⟩ : ByteArray), (⟨#[97, 98, 99]⟩ : ByteArray), (⟨#[115, 111, 109, 101, 32, 116, 101, 120, 116, 33]⟩ : ByteArray), strOfNums y263, strOfNums y266] : List ByteArray)) := ⟨_, rfl⟩
 replace H : ((spec_l1Cur_of.f l0 t261 t262 y269).bind fun bt272 => (some (t255, t260, bt272.1))) = some (r1, r2, r3) := by first | (rw [hy269]; with_reducible exact H) | (have H2_ := (Option.bind_some _ _).symm.trans H; rw [hy269]; with_reducible exact H2_) | (have H2_ := (Option.bind_some _ _).symm.trans H; with_reducible exact H2_) | with_reducible exact H | (rw [hy269]; exact H) | exact H
 have Ny269 := Aside0.mk hy269
 clear hy269
 replace H := Option.bind_eq_some_iff.mp H
 obtain ⟨⟨t272, t273, t274⟩, A60, H⟩ := H
 replace H : (some (t255, t260, t272)) = some (r1, r2, r3) := H
 have A6 := Aside0.mk A60
 clear A60
 simp only [Option.some.injEq, Prod.mk.injEq] at H
 obtain ⟨rfl, rfl, rfl⟩ := H
 go_enter Try.func41, Try.ntmps41
 try go_wp2_with (first | ((with_reducible refine gate_dst (N := 8) rfl ?_); refine box_event ?hg (N := 8) ?hd (cs := #[.slice A0 l0.length c0, .int .i64 0, .int .u64 0]) (t := 74) ?hr ?_; (case hd => rfl); (case hg => rfl); (case hr => first | (go_simp; done) | (go_simp; rfl)); intro gb254 hg w7 hbox hb; have n0_ := cs (hq HB) hb; have GW254 := cg hg (hq HB); have GE254 := cg hg (hq HB); have HI254 := Aside0.mk ((⟨_, _, hbox, (by rw [hg]; exact (below_size (hq HB))), HR0.out⟩ : IsS74 w w7 gb254 l0 0 0)); replace HB := n0_; clear n0_; clear hb hbox hg))
 replace HI254 := Aside0.mk (IsS74.drew HI254.out)
 replace HB := Aside0.mk (below_drew1 HB.out)
 refine start_ (n := 14) (S := fun w' => True) (ds := []) #[false, false, false, false, false, false, false, false, false, false, false, false, false, false] (by kernel_rfl) rfl rfl trivial (fun hHeld => ?_); refine with_tabW spec_DrawMixText.tab2 spec_DrawMixText.bits2 (fun HT_ HW_ => ?_)
 generalize w7.drew = w8 at HI254 HB hHeld ⊢
 refine pure_ (i := 0) (N := some 9) (v := ?_) (a' := ?_) #[true, false, false, false, false, false, false, false, false, false, false, false, false, false] rfl rfl (any_of HT_.out (by kernel_rfl)) (fun _ _ _ h => h) (Or.inl ⟨by rfl, ?_⟩) ?_ ?_
 rotate_left
 · intro w'
   first | (go_simp; with_reducible rfl) | (go_simp; unfold Instr.field; go_simp; rfl)
 rotate_left
 · simp only [Act.put, List.setIfInBounds_toArray, List.set_cons_zero, List.set_cons_succ, i64_w, i32_w]
   rfl
 refine pure_ (i := 2) (N := some 11) (v := ?_) (a' := ?_) #[true, false, true, false, false, false, false, false, false, false, false, false, false, false] rfl rfl (any_of HT_.out (by kernel_rfl)) (fun _ _ _ h => h) (Or.inl ⟨by rfl, ?_⟩) ?_ ?_
 rotate_left
 · intro w'
   first | (go_simp; with_reducible rfl) | (go_simp; unfold Instr.field; go_simp; rfl)
 rotate_left
 · simp only [Act.put, List.setIfInBounds_toArray, List.set_cons_zero, List.set_cons_succ, i64_w, i32_w]
   rfl
 refine pure_ (i := 4) (N := some 13) (v := ?_) (a' := ?_) #[true, false, true, false, true, false, false, false, false, false, false, false, false, false] rfl rfl (any_of HT_.out (by kernel_rfl)) (fun _ _ _ h => h) (Or.inl ⟨by rfl, ?_⟩) ?_ ?_
 rotate_left
 · intro w'
   first | (go_simp; with_reducible rfl) | (go_simp; unfold Instr.field; go_simp; rfl)
 rotate_left
 · simp only [Act.put, List.setIfInBounds_toArray, List.set_cons_zero, List.set_cons_succ, i64_w, i32_w]
   rfl
 refine join_ (σ := Value × Value × Value × Value) 4 #[true, true, true, true, true, true, true, true, true, true, false, false, false, false] (fun s_ => [(10, s_.1), (12, .int .i64 t260), (14, s_.2.1), (15, .string (strOfNums y263)), (16, s_.2.2.1), (17, .string (strOfNums y266)), (18, s_.2.2.2)]) (fun s_ w' => (Kd.R (Kd.int .i64) 3 w' w.heap.size (fun _ => True) s_.1 t255) ∧ (Kd.R (Kd.int .u8) 5 w' w.heap.size (fun k_ => some k_ ≠ (s_.2.2.1 : Value).ownBlock) s_.2.1 y263) ∧ (Kd.R (Kd.int .u8) 5 w' w.heap.size (fun k_ => some k_ ≠ (s_.2.1 : Value).ownBlock) s_.2.2.1 y266) ∧ (Kd.R Kd.string 9 w' w.heap.size (fun _ => True) s_.2.2.2 y269) ∧ (IsS74 w w' gb254 l0 t261 t262) ∧ (Below w.heap.size w w')) ?_ ?_
 rotate_left
 · intro hJ1_3_5_6_7_8_9
   refine join_ (σ := Value × Value × Value) 5 #[true, true, true, true, true, true, true, true, true, false, false, false, false, false] (fun s_ => [(10, s_.1), (12, .int .i64 t260), (14, s_.2.1), (15, .string (strOfNums y263)), (16, s_.2.2), (17, .string (strOfNums y266))]) (fun s_ w' => (Kd.R (Kd.int .i64) 3 w' w.heap.size (fun _ => True) s_.1 t255) ∧ (Kd.R (Kd.int .u8) 5 w' w.heap.size (fun k_ => some k_ ≠ (s_.2.2 : Value).ownBlock) s_.2.1 y263) ∧ (Kd.R (Kd.int .u8) 5 w' w.heap.size (fun k_ => some k_ ≠ (s_.2.1 : Value).ownBlock) s_.2.2 y266) ∧ (IsS74 w w' gb254 l0 t261 t262) ∧ (Below w.heap.size w w')) ?_ ?_
   rotate_left
   · intro hJ1_3_5_6_7_8
     refine join_ (σ := Value × Value × Value × Value) 5 #[true, true, true, false, true, true, true, true, true, true, false, false, false, false] (fun s_ => [(10, s_.1), (14, s_.2.1), (15, .string (strOfNums y263)), (16, s_.2.2.1), (17, .string (strOfNums y266)), (18, s_.2.2.2)]) (fun s_ w' => (Kd.R (Kd.int .i64) 3 w' w.heap.size (fun _ => True) s_.1 t255) ∧ (Kd.R (Kd.int .u8) 5 w' w.heap.size (fun k_ => some k_ ≠ (s_.2.2.1 : Value).ownBlock) s_.2.1 y263) ∧ (Kd.R (Kd.int .u8) 5 w' w.heap.size (fun k_ => some k_ ≠ (s_.2.1 : Value).ownBlock) s_.2.2.1 y266) ∧ (Kd.R Kd.string 9 w' w.heap.size (fun _ => True) s_.2.2.2 y269) ∧ (IsS74 w w' gb254 l0 t258 t259) ∧ (Below w.heap.size w w')) ?_ ?_
     rotate_left
     · intro hJ1_5_6_7_8_9
       refine join_ (σ := Value × Value × Value) 6 #[true, true, true, true, true, true, true, true, false, false, false, false, false, false] (fun s_ => [(10, s_.1), (12, .int .i64 t260), (14, s_.2.1), (15, .string (strOfNums y263)), (16, s_.2.2)]) (fun s_ w' => (Kd.R (Kd.int .i64) 3 w' w.heap.size (fun _ => True) s_.1 t255) ∧ (Kd.R (Kd.int .u8) 5 w' w.heap.size (fun k_ => some k_ ≠ (s_.2.2 : Value).ownBlock) s_.2.1 y263) ∧ (Kd.R (Kd.int .u8) 5 w' w.heap.size (fun k_ => some k_ ≠ (s_.2.1 : Value).ownBlock) s_.2.2 y266) ∧ (IsS74 w w' gb254 l0 t261 t262) ∧ (Below w.heap.size w w')) ?_ ?_
       rotate_left
       · intro hJ1_3_5_6_7
         refine join_ (σ := Value × Value × Value) 6 #[true, true, true, true, true, true, false, true, true, false, false, false, false, false] (fun s_ => [(10, s_.1), (12, .int .i64 t260), (14, s_.2.1), (16, s_.2.2), (17, .string (strOfNums y266))]) (fun s_ w' => (Kd.R (Kd.int .i64) 3 w' w.heap.size (fun _ => True) s_.1 t255) ∧ (Kd.R (Kd.int .u8) 5 w' w.heap.size (fun k_ => some k_ ≠ (s_.2.2 : Value).ownBlock) s_.2.1 y263) ∧ (Kd.R (Kd.int .u8) 5 w' w.heap.size (fun k_ => some k_ ≠ (s_.2.1 : Value).ownBlock) s_.2.2 y266) ∧ (IsS74 w w' gb254 l0 t261 t262) ∧ (Below w.heap.size w w')) ?_ ?_
         rotate_left
         · intro hJ1_3_5_7_8
           refine join_ (σ := Value × Value × Value) 6 #[true, true, true, false, true, true, true, true, true, false, false, false, false, false] (fun s_ => [(10, s_.1), (14, s_.2.1), (15, .string (strOfNums y263)), (16, s_.2.2), (17, .string (strOfNums y266))]) (fun s_ w' => (Kd.R (Kd.int .i64) 3 w' w.heap.size (fun _ => True) s_.1 t255) ∧ (Kd.R (Kd.int .u8) 5 w' w.heap.size (fun k_ => some k_ ≠ (s_.2.2 : Value).ownBlock) s_.2.1 y263) ∧ (Kd.R (Kd.int .u8) 5 w' w.heap.size (fun k_ => some k_ ≠ (s_.2.1 : Value).ownBlock) s_.2.2 y266) ∧ (IsS74 w w' gb254 l0 t258 t259) ∧ (Below w.heap.size w w')) ?_ ?_
           rotate_left
           · intro hJ1_5_6_7_8
             refine join_ (σ := Value × Value × Value) 6 #[true, false, true, false, true, true, true, true, true, true, false, false, false, false] (fun s_ => [(14, s_.1), (15, .string (strOfNums y263)), (16, s_.2.1), (17, .string (strOfNums y266)), (18, s_.2.2)]) (fun s_ w' => (Kd.R (Kd.int .u8) 5 w' w.heap.size (fun k_ => some k_ ≠ (s_.2.1 : Value).ownBlock) s_.1 y263) ∧ (Kd.R (Kd.int .u8) 5 w' w.heap.size (fun k_ => some k_ ≠ (s_.1 : Value).ownBlock) s_.2.1 y266) ∧ (Kd.R Kd.string 9 w' w.heap.size (fun _ => True) s_.2.2 y269) ∧ (IsS74 w w' gb254 l0 0 0) ∧ (Below w.heap.size w w')) ?_ ?_
             rotate_left
             · intro hJ5_6_7_8_9
               refine join_ (σ := Value × Value) 7 #[true, true, true, true, true, true, true, false, false, false, false, false, false, false] (fun s_ => [(10, s_.1), (12, .int .i64 t260), (14, s_.2), (15, .string (strOfNums y263))]) (fun s_ w' => (Kd.R (Kd.int .i64) 3 w' w.heap.size (fun _ => True) s_.1 t255) ∧ (Kd.R (Kd.int .u8) 5 w' w.heap.size (fun _ => True) s_.2 y263) ∧ (IsS74 w w' gb254 l0 t261 t262) ∧ (Below w.heap.size w w')) ?_ ?_
               rotate_left
               · intro hJ1_3_5_6
                 refine join_ (σ := Value × Value × Value) 7 #[true, true, true, true, true, true, false, true, false, false, false, false, false, false] (fun s_ => [(10, s_.1), (12, .int .i64 t260), (14, s_.2.1), (16, s_.2.2)]) (fun s_ w' => (Kd.R (Kd.int .i64) 3 w' w.heap.size (fun _ => True) s_.1 t255) ∧ (Kd.R (Kd.int .u8) 5 w' w.heap.size (fun k_ => some k_ ≠ (s_.2.2 : Value).ownBlock) s_.2.1 y263) ∧ (Kd.R (Kd.int .u8) 5 w' w.heap.size (fun k_ => some k_ ≠ (s_.2.1 : Value).ownBlock) s_.2.2 y266) ∧ (IsS74 w w' gb254 l0 t261 t262) ∧ (Below w.heap.size w w')) ?_ ?_
                 rotate_left
                 · intro hJ1_3_5_7
                   refine join_ (σ := Value × Value) 7 #[true, true, true, true, true, false, false, true, true, false, false, false, false, false] (fun s_ => [(10, s_.1), (12, .int .i64 t260), (16, s_.2), (17, .string (strOfNums y266))]) (fun s_ w' => (Kd.R (Kd.int .i64) 3 w' w.heap.size (fun _ => True) s_.1 t255) ∧ (Kd.R (Kd.int .u8) 5 w' w.heap.size (fun _ => True) s_.2 y266) ∧ (IsS74 w w' gb254 l0 t261 t262) ∧ (Below w.heap.size w w')) ?_ ?_
                   rotate_left
                   · intro hJ1_3_7_8
                     refine join_ (σ := Value × Value × Value) 7 #[true, true, true, false, true, true, true, true, false, false, false, false, false, false] (fun s_ => [(10, s_.1), (14, s_.2.1), (15, .string (strOfNums y263)), (16, s_.2.2)]) (fun s_ w' => (Kd.R (Kd.int .i64) 3 w' w.heap.size (fun _ => True) s_.1 t255) ∧ (Kd.R (Kd.int .u8) 5 w' w.heap.size (fun k_ => some k_ ≠ (s_.2.2 : Value).ownBlock) s_.2.1 y263) ∧ (Kd.R (Kd.int .u8) 5 w' w.heap.size (fun k_ => some k_ ≠ (s_.2.1 : Value).ownBlock) s_.2.2 y266) ∧ (IsS74 w w' gb254 l0 t258 t259) ∧ (Below w.heap.size w w')) ?_ ?_
                     rotate_left
                     · intro hJ1_5_6_7
                       refine join_ (σ := Value × Value × Value) 7 #[true, true, true, false, true, true, false, true, true, false, false, false, false, false] (fun s_ => [(10, s_.1), (14, s_.2.1), (16, s_.2.2), (17, .string (strOfNums y266))]) (fun s_ w' => (Kd.R (Kd.int .i64) 3 w' w.heap.size (fun _ => True) s_.1 t255) ∧ (Kd.R (Kd.int .u8) 5 w' w.heap.size (fun k_ => some k_ ≠ (s_.2.2 : Value).ownBlock) s_.2.1 y263) ∧ (Kd.R (Kd.int .u8) 5 w' w.heap.size (fun k_ => some k_ ≠ (s_.2.1 : Value).ownBlock) s_.2.2 y266) ∧ (IsS74 w w' gb254 l0 t258 t259) ∧ (Below w.heap.size w w')) ?_ ?_
                       rotate_left
                       · intro hJ1_5_7_8
                         refine join_ (σ := Value × Value) 7 #[true, false, true, false, true, true, true, true, true, false, false, false, false, false] (fun s_ => [(14, s_.1), (15, .string (strOfNums y263)), (16, s_.2), (17, .string (strOfNums y266))]) (fun s_ w' => (Kd.R (Kd.int .u8) 5 w' w.heap.size (fun k_ => some k_ ≠ (s_.2 : Value).ownBlock) s_.1 y263) ∧ (Kd.R (Kd.int .u8) 5 w' w.heap.size (fun k_ => some k_ ≠ (s_.1 : Value).ownBlock) s_.2 y266) ∧ (IsS74 w w' gb254 l0 0 0) ∧ (Below w.heap.size w w')) ?_ ?_
                         rotate_left
                         · intro hJ5_6_7_8
                           refine join_ (σ := Value × Value) 8 #[true, true, true, true, true, true, false, false, false, false, false, false, false, false] (fun s_ => [(10, s_.1), (12, .int .i64 t260), (14, s_.2)]) (fun s_ w' => (Kd.R (Kd.int .i64) 3 w' w.heap.size (fun _ => True) s_.1 t255) ∧ (Kd.R (Kd.int .u8) 5 w' w.heap.size (fun _ => True) s_.2 y263) ∧ (IsS74 w w' gb254 l0 t261 t262) ∧ (Below w.heap.size w w')) ?_ ?_
                           rotate_left
                           · intro hJ1_3_5
                             refine join_ (σ := Value × Value) 8 #[true, true, true, true, true, false, false, true, false, false, false, false, false, false] (fun s_ => [(10, s_.1), (12, .int .i64 t260), (16, s_.2)]) (fun s_ w' => (Kd.R (Kd.int .i64) 3 w' w.heap.size (fun _ => True) s_.1 t255) ∧ (Kd.R (Kd.int .u8) 5 w' w.heap.size (fun _ => True) s_.2 y266) ∧ (IsS74 w w' gb254 l0 t261 t262) ∧ (Below w.heap.size w w')) ?_ ?_
                             rotate_left
                             · intro hJ1_3_7
                               refine join_ (σ := Value × Value) 8 #[true, true, true, false, true, true, true, false, false, false, false, false, false, false] (fun s_ => [(10, s_.1), (14, s_.2), (15, .string (strOfNums y263))]) (fun s_ w' => (Kd.R (Kd.int .i64) 3 w' w.heap.size (fun _ => True) s_.1 t255) ∧ (Kd.R (Kd.int .u8) 5 w' w.heap.size (fun _ => True) s_.2 y263) ∧ (IsS74 w w' gb254 l0 t258 t259) ∧ (Below w.heap.size w w')) ?_ ?_
                               rotate_left
                               · intro hJ1_5_6
                                 refine join_ (σ := Value × Value × Value) 8 #[true, true, true, false, true, true, false, true, false, false, false, false, false, false] (fun s_ => [(10, s_.1), (14, s_.2.1), (16, s_.2.2)]) (fun s_ w' => (Kd.R (Kd.int .i64) 3 w' w.heap.size (fun _ => True) s_.1 t255) ∧ (Kd.R (Kd.int .u8) 5 w' w.heap.size (fun k_ => some k_ ≠ (s_.2.2 : Value).ownBlock) s_.2.1 y263) ∧ (Kd.R (Kd.int .u8) 5 w' w.heap.size (fun k_ => some k_ ≠ (s_.2.1 : Value).ownBlock) s_.2.2 y266) ∧ (IsS74 w w' gb254 l0 t258 t259) ∧ (Below w.heap.size w w')) ?_ ?_
                                 rotate_left
                                 · intro hJ1_5_7
                                   refine join_ (σ := Value × Value) 8 #[true, true, true, false, true, false, false, true, true, false, false, false, false, false] (fun s_ => [(10, s_.1), (16, s_.2), (17, .string (strOfNums y266))]) (fun s_ w' => (Kd.R (Kd.int .i64) 3 w' w.heap.size (fun _ => True) s_.1 t255) ∧ (Kd.R (Kd.int .u8) 5 w' w.heap.size (fun _ => True) s_.2 y266) ∧ (IsS74 w w' gb254 l0 t258 t259) ∧ (Below w.heap.size w w')) ?_ ?_
                                   rotate_left
                                   · intro hJ1_7_8
                                     refine join_ (σ := Value × Value) 8 #[true, false, true, false, true, true, true, true, false, false, false, false, false, false] (fun s_ => [(14, s_.1), (15, .string (strOfNums y263)), (16, s_.2)]) (fun s_ w' => (Kd.R (Kd.int .u8) 5 w' w.heap.size (fun k_ => some k_ ≠ (s_.2 : Value).ownBlock) s_.1 y263) ∧ (Kd.R (Kd.int .u8) 5 w' w.heap.size (fun k_ => some k_ ≠ (s_.1 : Value).ownBlock) s_.2 y266) ∧ (IsS74 w w' gb254 l0 0 0) ∧ (Below w.heap.size w w')) ?_ ?_
                                     rotate_left
                                     · intro hJ5_6_7
                                       refine join_ (σ := Value × Value) 8 #[true, false, true, false, true, true, false, true, true, false, false, false, false, false] (fun s_ => [(14, s_.1), (16, s_.2), (17, .string (strOfNums y266))]) (fun s_ w' => (Kd.R (Kd.int .u8) 5 w' w.heap.size (fun k_ => some k_ ≠ (s_.2 : Value).ownBlock) s_.1 y263) ∧ (Kd.R (Kd.int .u8) 5 w' w.heap.size (fun k_ => some k_ ≠ (s_.1 : Value).ownBlock) s_.2 y266) ∧ (IsS74 w w' gb254 l0 0 0) ∧ (Below w.heap.size w w')) ?_ ?_
                                       rotate_left
                                       · intro hJ5_7_8
                                         refine join_ (σ := Value) 9 #[true, true, true, true, true, false, false, false, false, false, false, false, false, false] (fun s_ => [(10, s_), (12, .int .i64 t260)]) (fun s_ w' => (Kd.R (Kd.int .i64) 3 w' w.heap.size (fun _ => True) s_ t255) ∧ (IsS74 w w' gb254 l0 t261 t262) ∧ (Below w.heap.size w w')) ?_ ?_
                                         rotate_left
                                         · intro hJ1_3
                                           refine join_ (σ := Value × Value) 9 #[true, true, true, false, true, true, false, false, false, false, false, false, false, false] (fun s_ => [(10, s_.1), (14, s_.2)]) (fun s_ w' => (Kd.R (Kd.int .i64) 3 w' w.heap.size (fun _ => True) s_.1 t255) ∧ (Kd.R (Kd.int .u8) 5 w' w.heap.size (fun _ => True) s_.2 y263) ∧ (IsS74 w w' gb254 l0 t258 t259) ∧ (Below w.heap.size w w')) ?_ ?_
                                           rotate_left
                                           · intro hJ1_5
                                             refine join_ (σ := Value × Value) 9 #[true, true, true, false, true, false, false, true, false, false, false, false, false, false] (fun s_ => [(10, s_.1), (16, s_.2)]) (fun s_ w' => (Kd.R (Kd.int .i64) 3 w' w.heap.size (fun _ => True) s_.1 t255) ∧ (Kd.R (Kd.int .u8) 5 w' w.heap.size (fun _ => True) s_.2 y266) ∧ (IsS74 w w' gb254 l0 t258 t259) ∧ (Below w.heap.size w w')) ?_ ?_
                                             rotate_left
                                             · intro hJ1_7
                                               refine join_ (σ := Value) 9 #[true, false, true, false, true, true, true, false, false, false, false, false, false, false] (fun s_ => [(14, s_), (15, .string (strOfNums y263))]) (fun s_ w' => (Kd.R (Kd.int .u8) 5 w' w.heap.size (fun _ => True) s_ y263) ∧ (IsS74 w w' gb254 l0 0 0) ∧ (Below w.heap.size w w')) ?_ ?_
                                               rotate_left
                                               · intro hJ5_6
                                                 refine join_ (σ := Value × Value) 9 #[true, false, true, false, true, true, false, true, false, false, false, false, false, false] (fun s_ => [(14, s_.1), (16, s_.2)]) (fun s_ w' => (Kd.R (Kd.int .u8) 5 w' w.heap.size (fun k_ => some k_ ≠ (s_.2 : Value).ownBlock) s_.1 y263) ∧ (Kd.R (Kd.int .u8) 5 w' w.heap.size (fun k_ => some k_ ≠ (s_.1 : Value).ownBlock) s_.2 y266) ∧ (IsS74 w w' gb254 l0 0 0) ∧ (Below w.heap.size w w')) ?_ ?_
                                                 rotate_left
                                                 · intro hJ5_7
                                                   refine join_ (σ := Value) 9 #[true, false, true, false, true, false, false, true, true, false, false, false, false, false] (fun s_ => [(16, s_), (17, .string (strOfNums y266))]) (fun s_ w' => (Kd.R (Kd.int .u8) 5 w' w.heap.size (fun _ => True) s_ y266) ∧ (IsS74 w w' gb254 l0 0 0) ∧ (Below w.heap.size w w')) ?_ ?_
                                                   rotate_left
                                                   · intro hJ7_8
                                                     refine join_ (σ := Value) 10 #[true, true, true, false, true, false, false, false, false, false, false, false, false, false] (fun s_ => [(10, s_)]) (fun s_ w' => (Kd.R (Kd.int .i64) 3 w' w.heap.size (fun _ => True) s_ t255) ∧ (IsS74 w w' gb254 l0 t258 t259) ∧ (Below w.heap.size w w')) ?_ ?_
                                                     rotate_left
                                                     · intro hJ1
                                                       refine join_ (σ := Value) 10 #[true, false, true, false, true, true, false, false, false, false, false, false, false, false] (fun s_ => [(14, s_)]) (fun s_ w' => (Kd.R (Kd.int .u8) 5 w' w.heap.size (fun _ => True) s_ y263) ∧ (IsS74 w w' gb254 l0 0 0) ∧ (Below w.heap.size w w')) ?_ ?_
                                                       rotate_left
                                                       · intro hJ5
                                                         refine join_ (σ := Value) 10 #[true, false, true, false, true, false, false, true, false, false, false, false, false, false] (fun s_ => [(16, s_)]) (fun s_ w' => (Kd.R (Kd.int .u8) 5 w' w.heap.size (fun _ => True) s_ y266) ∧ (IsS74 w w' gb254 l0 0 0) ∧ (Below w.heap.size w w')) ?_ ?_
                                                         rotate_left
                                                         · intro hJ7
                                                           refine three_ (i := 1) (j := 5) (k := 7) (Ni := some 10) (Nj := some 14) (Nk := some 16) #[true, true, true, false, true, false, false, false, false, false, false, false, false, false] #[true, false, true, false, true, true, false, false, false, false, false, false, false, false] #[true, false, true, false, true, false, false, true, false, false, false, false, false, false] rfl rfl rfl rfl rfl rfl (three_of HT_.out (by kernel_rfl)) (by decide) (by decide) (by decide) (fun K hK => ?_) (fun K hK => ?_) (fun K hK => ?_)
                                                           · skip
                                                             refine goes_ Try.func83 (by kernel_rfl) rfl #[.pointer (some ⟨gb254, 0, none⟩)] (by rfl) rfl rfl (by (try simp only [List.map_toArray, List.map_cons, List.map_nil]); first | done | rfl | (simp only [List.length_drop, List.length_take]; rfl)) ?_
                                                             with_reducible refine (spec_l1Cur_keys.calls k gb254 l0 0 0 t255 t258 t259 w _ ?side1 ?side2 A2.out).mono ?_
                                                             (case side1 => repeat (first | (with_reducible first | exact HI254.out | apply IsS74.alloc | apply IsS74.drewN | apply IsS74.drew | apply IsS74.set_1 | apply IsS74.set_2) | exact HI254.out))
                                                             (case side2 => repeat (first | (with_reducible first | exact HB.out | apply below_alloc | apply pw_below_drewN | apply below_drew1 | refine below_set ?_ (IsS74.ge HI254.out)) | exact HB.out))
                                                             rintro e w9 ⟨v256, rfl, ho0, hi, hb, hk⟩
                                                             refine ⟨_, rfl, ?_⟩
                                                             have HO257 := Aside0.mk (Kd.R_lower ho0 (below_size (by repeat (first | (with_reducible first | exact HB.out | apply below_alloc | apply pw_below_drewN | apply below_drew1 | refine below_set ?_ (IsS74.ge HI254.out)) | exact HB.out))))
                                                             replace HB := Aside0.mk (hb)
                                                             replace HI254 := Aside0.mk (hi)
                                                             (try clear hb)
                                                             (try clear hb2)
                                                             (try clear hk)
                                                             (try clear hi)
                                                             (try clear ho0)
                                                             refine hK.out _ _ trivial (fun hHeld => ?_)
                                                             clear hK K
                                                             refine norm_ (a' := ?_) ?_ ?_
                                                             rotate_left
                                                             · show Act.put _ (some 10) _ = _
                                                               simp only [Act.put, List.setIfInBounds_toArray, List.set_cons_zero, List.set_cons_succ, i64_w, i32_w]
                                                               rfl
                                                             exact norm_ (by first | (simp only [putAll, Act.put, List.setIfInBounds_toArray, List.set_cons_zero, List.set_cons_succ]; done) | (simp only [putAll, Act.put, List.setIfInBounds_toArray, List.set_cons_zero, List.set_cons_succ]; rfl)) (hJ1 (v256) _ ⟨(rq HO257), (by repeat (first | (with_reducible first | exact HI254.out | apply IsS74.alloc | apply IsS74.drewN | apply IsS74.drew | apply IsS74.set_1 | apply IsS74.set_2) | exact HI254.out)), (by repeat (first | (with_reducible first | exact HB.out | apply below_alloc | apply pw_below_drewN | apply below_drew1 | refine below_set ?_ (IsS74.ge HI254.out)) | exact HB.out))⟩)
                                                           · skip
                                                             refine Kd.R_make_step (Kd.int .u8) _ 5 (by rfl) (N := 14) rfl 45 _ _ rfl 40 rfl rfl Try.underlying45 (.int .u8 0) 1 info5 rfl (by decide) (by omega) 0 (ok := fun _ => True) (okp := fun _ => True) rfl (fun _ hk => hk) trivial (by omega) (by omega) (Below.refl _ _) (Nat.le_refl _) ?_
                                                             intro v264 w9 ho10 hb hg_ hnew_
                                                             clear hg_ hnew_
                                                             (first | rw [← Ny263.out] at ho10 | (simp only [Int.reduceToNat] at ho10; rw [← Ny263.out] at ho10))
                                                             have HO265 := Aside0.mk (Kd.R_lower ho10 (below_size (by repeat (first | (with_reducible first | exact HB.out | apply below_alloc | apply pw_below_drewN | apply below_drew1 | refine below_set ?_ (IsS74.ge HI254.out)) | exact HB.out))))
                                                             have n1_ := Aside0.mk (IsS74.below (by repeat (first | (with_reducible first | exact HI254.out | apply IsS74.alloc | apply IsS74.drewN | apply IsS74.drew | apply IsS74.set_1 | apply IsS74.set_2) | exact HI254.out)) hb)
                                                             replace HB := Aside0.mk (below_step (by repeat (first | (with_reducible first | exact HB.out | apply below_alloc | apply pw_below_drewN | apply below_drew1 | refine below_set ?_ (IsS74.ge HI254.out)) | exact HB.out)) hb)
                                                             replace HI254 := n1_
                                                             clear n1_
                                                             clear hb ho10
                                                             refine hK.out _ _ trivial (fun hHeld => ?_)
                                                             clear hK K
                                                             refine norm_ (a' := ?_) ?_ ?_
                                                             rotate_left
                                                             · show Act.put _ (some 14) _ = _
                                                               simp only [Act.put, List.setIfInBounds_toArray, List.set_cons_zero, List.set_cons_succ, i64_w, i32_w]
                                                               rfl
                                                             exact norm_ (by first | (simp only [putAll, Act.put, List.setIfInBounds_toArray, List.set_cons_zero, List.set_cons_succ]; done) | (simp only [putAll, Act.put, List.setIfInBounds_toArray, List.set_cons_zero, List.set_cons_succ]; rfl)) (hJ5 (v264) _ ⟨(rq HO265), (by repeat (first | (with_reducible first | exact HI254.out | apply IsS74.alloc | apply IsS74.drewN | apply IsS74.drew | apply IsS74.set_1 | apply IsS74.set_2) | exact HI254.out)), (by repeat (first | (with_reducible first | exact HB.out | apply below_alloc | apply pw_below_drewN | apply below_drew1 | refine below_set ?_ (IsS74.ge HI254.out)) | exact HB.out))⟩)
                                                           skip
                                                           refine Kd.R_make_step (Kd.int .u8) _ 5 (by rfl) (N := 16) rfl 45 _ _ rfl 42 rfl rfl Try.underlying45 (.int .u8 0) 1 info5 rfl (by decide) (by omega) 0 (ok := fun _ => True) (okp := fun _ => True) rfl (fun _ hk => hk) trivial (by omega) (by omega) (Below.refl _ _) (Nat.le_refl _) ?_
                                                           intro v267 w9 ho10 hb hg_ hnew_
                                                           clear hg_ hnew_
                                                           (first | rw [← Ny266.out] at ho10 | (simp only [Int.reduceToNat] at ho10; rw [← Ny266.out] at ho10))
                                                           have HO268 := Aside0.mk (Kd.R_lower ho10 (below_size (by repeat (first | (with_reducible first | exact HB.out | apply below_alloc | apply pw_below_drewN | apply below_drew1 | refine below_set ?_ (IsS74.ge HI254.out)) | exact HB.out))))
                                                           have n1_ := Aside0.mk (IsS74.below (by repeat (first | (with_reducible first | exact HI254.out | apply IsS74.alloc | apply IsS74.drewN | apply IsS74.drew | apply IsS74.set_1 | apply IsS74.set_2) | exact HI254.out)) hb)
                                                           replace HB := Aside0.mk (below_step (by repeat (first | (with_reducible first | exact HB.out | apply below_alloc | apply pw_below_drewN | apply below_drew1 | refine below_set ?_ (IsS74.ge HI254.out)) | exact HB.out)) hb)
                                                           replace HI254 := n1_
                                                           clear n1_
                                                           clear hb ho10
                                                           refine hK.out _ _ trivial (fun hHeld => ?_)
                                                           clear hK K
                                                           refine norm_ (a' := ?_) ?_ ?_
                                                           rotate_left
                                                           · show Act.put _ (some 16) _ = _
                                                             simp only [Act.put, List.setIfInBounds_toArray, List.set_cons_zero, List.set_cons_succ, i64_w, i32_w]
                                                             rfl
                                                           exact norm_ (by first | (simp only [putAll, Act.put, List.setIfInBounds_toArray, List.set_cons_zero, List.set_cons_succ]; done) | (simp only [putAll, Act.put, List.setIfInBounds_toArray, List.set_cons_zero, List.set_cons_succ]; rfl)) (hJ7 (v267) _ ⟨(rq HO268), (by repeat (first | (with_reducible first | exact HI254.out | apply IsS74.alloc | apply IsS74.drewN | apply IsS74.drew | apply IsS74.set_1 | apply IsS74.set_2) | exact HI254.out)), (by repeat (first | (with_reducible first | exact HB.out | apply below_alloc | apply pw_below_drewN | apply below_drew1 | refine below_set ?_ (IsS74.ge HI254.out)) | exact HB.out))⟩)
                                                         skip
                                                         rintro v267 w11 ⟨h0_, h1_, h2_⟩
                                                         have n0_ : Aside0 (Kd.R (Kd.int .u8) 5 w11 w.heap.size (fun _ => True) v267 y266) := ⟨h0_⟩
                                                         have n1_ : Aside0 (IsS74 w w11 gb254 l0 0 0) := ⟨h1_⟩
                                                         have n2_ : Aside0 (Below w.heap.size w w11) := ⟨h2_⟩
                                                         clear HI254
                                                         clear HB
                                                         clear h0_ h1_ h2_
                                                         have HO268 := n0_
                                                         have HI254 := n1_
                                                         have HB := n2_
                                                         clear n0_ n1_ n2_
                                                         have hHeld := trivial
                                                         refine norm_ (a' := ?_) ?_ ?_
                                                         rotate_left
                                                         · simp only [putAll, Act.put, List.setIfInBounds_toArray, List.set_cons_zero, List.set_cons_succ]
                                                           rfl
                                                         refine three_ (i := 1) (j := 5) (k := 8) (Ni := some 10) (Nj := some 14) (Nk := some 17) #[true, true, true, false, true, false, false, true, false, false, false, false, false, false] #[true, false, true, false, true, true, false, true, false, false, false, false, false, false] #[true, false, true, false, true, false, false, true, true, false, false, false, false, false] rfl rfl rfl rfl rfl rfl (three_of HT_.out (by kernel_rfl)) (by decide) (by decide) (by decide) (fun K hK => ?_) (fun K hK => ?_) (fun K hK => ?_)
                                                         · skip
                                                           refine goes_ Try.func83 (by kernel_rfl) rfl #[.pointer (some ⟨gb254, 0, none⟩)] (by rfl) rfl rfl (by (try simp only [List.map_toArray, List.map_cons, List.map_nil]); first | done | rfl | (simp only [List.length_drop, List.length_take]; rfl)) ?_
                                                           with_reducible refine (spec_l1Cur_keys.calls k gb254 l0 0 0 t255 t258 t259 w _ ?side1 ?side2 A2.out).mono ?_
                                                           (case side1 => repeat (first | (with_reducible first | exact HI254.out | apply IsS74.alloc | apply IsS74.drewN | apply IsS74.drew | apply IsS74.set_1 | apply IsS74.set_2) | exact HI254.out))
                                                           (case side2 => repeat (first | (with_reducible first | exact HB.out | apply below_alloc | apply pw_below_drewN | apply below_drew1 | refine below_set ?_ (IsS74.ge HI254.out)) | exact HB.out))
                                                           rintro e w12 ⟨v256, rfl, ho0, hi, hb, hk⟩
                                                           refine ⟨_, rfl, ?_⟩
                                                           replace HO268 := Aside0.mk (Kd.R_mono (Kd.R_keep (IsS74.apart (show IsS74 w _ gb254 l0 0 0 from by repeat (first | (with_reducible first | exact HI254.out | apply IsS74.alloc | apply IsS74.drewN | apply IsS74.drew | apply IsS74.set_1 | apply IsS74.set_2) | exact HI254.out)) (rq HO268) (by decide)) hk (fun _ h => h.2)) (fun _ h => h.1))
                                                           have HO257 := Aside0.mk (Kd.R_lower ho0 (below_size (by repeat (first | (with_reducible first | exact HB.out | apply below_alloc | apply pw_below_drewN | apply below_drew1 | refine below_set ?_ (IsS74.ge HI254.out)) | exact HB.out))))
                                                           replace HB := Aside0.mk (hb)
                                                           replace HI254 := Aside0.mk (hi)
                                                           (try clear hb)
                                                           (try clear hb2)
                                                           (try clear hk)
                                                           (try clear hi)
                                                           (try clear ho0)
                                                           refine hK.out _ _ trivial (fun hHeld => ?_)
                                                           clear hK K
                                                           refine norm_ (a' := ?_) ?_ ?_
                                                           rotate_left
                                                           · show Act.put _ (some 10) _ = _
                                                             simp only [Act.put, List.setIfInBounds_toArray, List.set_cons_zero, List.set_cons_succ, i64_w, i32_w]
                                                             rfl
                                                           exact norm_ (by first | (simp only [putAll, Act.put, List.setIfInBounds_toArray, List.set_cons_zero, List.set_cons_succ]; done) | (simp only [putAll, Act.put, List.setIfInBounds_toArray, List.set_cons_zero, List.set_cons_succ]; rfl)) (hJ1_7 (v256, v267) _ ⟨(rq HO257), (rq HO268), (by repeat (first | (with_reducible first | exact HI254.out | apply IsS74.alloc | apply IsS74.drewN | apply IsS74.drew | apply IsS74.set_1 | apply IsS74.set_2) | exact HI254.out)), (by repeat (first | (with_reducible first | exact HB.out | apply below_alloc | apply pw_below_drewN | apply below_drew1 | refine below_set ?_ (IsS74.ge HI254.out)) | exact HB.out))⟩)
                                                         · skip
                                                           refine Kd.R_make_step (Kd.int .u8) _ 5 (by rfl) (N := 14) rfl 45 _ _ rfl 40 rfl rfl Try.underlying45 (.int .u8 0) 1 info5 rfl (by decide) (by omega) 0 (ok := fun _ => True) (okp := fun _ => True) rfl (fun _ hk => hk) trivial (by omega) (by omega) (Below.refl _ _) (Nat.le_refl _) ?_
                                                           intro v264 w12 ho13 hb hg_ hnew_
                                                           clear hg_ hnew_
                                                           (first | rw [← Ny263.out] at ho13 | (simp only [Int.reduceToNat] at ho13; rw [← Ny263.out] at ho13))
                                                           have n0_ := ce HO268 ho13 hb
                                                           have HO265 := Aside0.mk (Kd.R_lower (Kd.R_new' ho13 (ql HO268)) (below_size (by repeat (first | (with_reducible first | exact HB.out | apply below_alloc | apply pw_below_drewN | apply below_drew1 | refine below_set ?_ (IsS74.ge HI254.out)) | exact HB.out))))
                                                           have n2_ := Aside0.mk (IsS74.below (by repeat (first | (with_reducible first | exact HI254.out | apply IsS74.alloc | apply IsS74.drewN | apply IsS74.drew | apply IsS74.set_1 | apply IsS74.set_2) | exact HI254.out)) hb)
                                                           replace HB := Aside0.mk (below_step (by repeat (first | (with_reducible first | exact HB.out | apply below_alloc | apply pw_below_drewN | apply below_drew1 | refine below_set ?_ (IsS74.ge HI254.out)) | exact HB.out)) hb)
                                                           replace HO268 := n0_
                                                           replace HI254 := n2_
                                                           clear n0_ n2_
                                                           clear hb ho13
                                                           refine hK.out _ _ trivial (fun hHeld => ?_)
                                                           clear hK K
                                                           refine norm_ (a' := ?_) ?_ ?_
                                                           rotate_left
                                                           · show Act.put _ (some 14) _ = _
                                                             simp only [Act.put, List.setIfInBounds_toArray, List.set_cons_zero, List.set_cons_succ, i64_w, i32_w]
                                                             rfl
                                                           exact norm_ (by first | (simp only [putAll, Act.put, List.setIfInBounds_toArray, List.set_cons_zero, List.set_cons_succ]; done) | (simp only [putAll, Act.put, List.setIfInBounds_toArray, List.set_cons_zero, List.set_cons_succ]; rfl)) (hJ5_7 (v264, v267) _ ⟨(by (with_reducible repeat (first | apply Kd.R_alloc | apply Kd.R_drewN | apply Kd.R_drew)); exact Kd.R_mono HO265.out (fun _ hk => hk.2)), (by (with_reducible repeat (first | apply Kd.R_alloc | apply Kd.R_drewN | apply Kd.R_drew)); exact Kd.R_mono HO268.out (fun _ hk => hk.2)), (by repeat (first | (with_reducible first | exact HI254.out | apply IsS74.alloc | apply IsS74.drewN | apply IsS74.drew | apply IsS74.set_1 | apply IsS74.set_2) | exact HI254.out)), (by repeat (first | (with_reducible first | exact HB.out | apply below_alloc | apply pw_below_drewN | apply below_drew1 | refine below_set ?_ (IsS74.ge HI254.out)) | exact HB.out))⟩)
                                                         skip
                                                         have hcv12 := own_string (P := Try.prog) Try.underlying45 Try.underlying5 Try.underlying9 (Kd.own_of_R HO268.out)
                                                         refine value_ (w1 := ?_) (v := ?_) (by rfl) rfl ?_ ?_
                                                         rotate_left 2
                                                         · go_simp
                                                           constructor
                                                           · rfl
                                                           rfl
                                                         clear hcv12
                                                         refine hK.out _ _ trivial (fun hHeld => ?_)
                                                         clear hK K
                                                         refine norm_ (a' := ?_) ?_ ?_
                                                         rotate_left
                                                         · show Act.put _ (some 17) _ = _
                                                           simp only [Act.put, List.setIfInBounds_toArray, List.set_cons_zero, List.set_cons_succ, i64_w, i32_w]
                                                           rfl
                                                         exact norm_ (by first | (simp only [putAll, Act.put, List.setIfInBounds_toArray, List.set_cons_zero, List.set_cons_succ]; done) | (simp only [putAll, Act.put, List.setIfInBounds_toArray, List.set_cons_zero, List.set_cons_succ]; rfl)) (hJ7_8 (v267) _ ⟨(rq HO268), (by repeat (first | (with_reducible first | exact HI254.out | apply IsS74.alloc | apply IsS74.drewN | apply IsS74.drew | apply IsS74.set_1 | apply IsS74.set_2) | exact HI254.out)), (by repeat (first | (with_reducible first | exact HB.out | apply below_alloc | apply pw_below_drewN | apply below_drew1 | refine below_set ?_ (IsS74.ge HI254.out)) | exact HB.out))⟩)
                                                       skip
                                                       rintro v264 w11 ⟨h0_, h1_, h2_⟩
                                                       have n0_ : Aside0 (Kd.R (Kd.int .u8) 5 w11 w.heap.size (fun _ => True) v264 y263) := ⟨h0_⟩
                                                       have n1_ : Aside0 (IsS74 w w11 gb254 l0 0 0) := ⟨h1_⟩
                                                       have n2_ : Aside0 (Below w.heap.size w w11) := ⟨h2_⟩
                                                       clear HI254
                                                       clear HB
                                                       clear h0_ h1_ h2_
                                                       have HO265 := n0_
                                                       have HI254 := n1_
                                                       have HB := n2_
                                                       clear n0_ n1_ n2_
                                                       have hHeld := trivial
                                                       refine norm_ (a' := ?_) ?_ ?_
                                                       rotate_left
                                                       · simp only [putAll, Act.put, List.setIfInBounds_toArray, List.set_cons_zero, List.set_cons_succ]
                                                         rfl
                                                       refine three_ (i := 1) (j := 6) (k := 7) (Ni := some 10) (Nj := some 15) (Nk := some 16) #[true, true, true, false, true, true, false, false, false, false, false, false, false, false] #[true, false, true, false, true, true, true, false, false, false, false, false, false, false] #[true, false, true, false, true, true, false, true, false, false, false, false, false, false] rfl rfl rfl rfl rfl rfl (three_of HT_.out (by kernel_rfl)) (by decide) (by decide) (by decide) (fun K hK => ?_) (fun K hK => ?_) (fun K hK => ?_)
                                                       · skip
                                                         refine goes_ Try.func83 (by kernel_rfl) rfl #[.pointer (some ⟨gb254, 0, none⟩)] (by rfl) rfl rfl (by (try simp only [List.map_toArray, List.map_cons, List.map_nil]); first | done | rfl | (simp only [List.length_drop, List.length_take]; rfl)) ?_
                                                         with_reducible refine (spec_l1Cur_keys.calls k gb254 l0 0 0 t255 t258 t259 w _ ?side1 ?side2 A2.out).mono ?_
                                                         (case side1 => repeat (first | (with_reducible first | exact HI254.out | apply IsS74.alloc | apply IsS74.drewN | apply IsS74.drew | apply IsS74.set_1 | apply IsS74.set_2) | exact HI254.out))
                                                         (case side2 => repeat (first | (with_reducible first | exact HB.out | apply below_alloc | apply pw_below_drewN | apply below_drew1 | refine below_set ?_ (IsS74.ge HI254.out)) | exact HB.out))
                                                         rintro e w12 ⟨v256, rfl, ho0, hi, hb, hk⟩
                                                         refine ⟨_, rfl, ?_⟩
                                                         replace HO265 := Aside0.mk (Kd.R_mono (Kd.R_keep (IsS74.apart (show IsS74 w _ gb254 l0 0 0 from by repeat (first | (with_reducible first | exact HI254.out | apply IsS74.alloc | apply IsS74.drewN | apply IsS74.drew | apply IsS74.set_1 | apply IsS74.set_2) | exact HI254.out)) (rq HO265) (by decide)) hk (fun _ h => h.2)) (fun _ h => h.1))
                                                         have HO257 := Aside0.mk (Kd.R_lower ho0 (below_size (by repeat (first | (with_reducible first | exact HB.out | apply below_alloc | apply pw_below_drewN | apply below_drew1 | refine below_set ?_ (IsS74.ge HI254.out)) | exact HB.out))))
                                                         replace HB := Aside0.mk (hb)
                                                         replace HI254 := Aside0.mk (hi)
                                                         (try clear hb)
                                                         (try clear hb2)
                                                         (try clear hk)
                                                         (try clear hi)
                                                         (try clear ho0)
                                                         refine hK.out _ _ trivial (fun hHeld => ?_)
                                                         clear hK K
                                                         refine norm_ (a' := ?_) ?_ ?_
                                                         rotate_left
                                                         · show Act.put _ (some 10) _ = _
                                                           simp only [Act.put, List.setIfInBounds_toArray, List.set_cons_zero, List.set_cons_succ, i64_w, i32_w]
                                                           rfl
                                                         exact norm_ (by first | (simp only [putAll, Act.put, List.setIfInBounds_toArray, List.set_cons_zero, List.set_cons_succ]; done) | (simp only [putAll, Act.put, List.setIfInBounds_toArray, List.set_cons_zero, List.set_cons_succ]; rfl)) (hJ1_5 (v256, v264) _ ⟨(rq HO257), (rq HO265), (by repeat (first | (with_reducible first | exact HI254.out | apply IsS74.alloc | apply IsS74.drewN | apply IsS74.drew | apply IsS74.set_1 | apply IsS74.set_2) | exact HI254.out)), (by repeat (first | (with_reducible first | exact HB.out | apply below_alloc | apply pw_below_drewN | apply below_drew1 | refine below_set ?_ (IsS74.ge HI254.out)) | exact HB.out))⟩)
                                                       · skip
                                                         have hcv12 := own_string (P := Try.prog) Try.underlying45 Try.underlying5 Try.underlying9 (Kd.own_of_R HO265.out)
                                                         refine value_ (w1 := ?_) (v := ?_) (by rfl) rfl ?_ ?_
                                                         rotate_left 2
                                                         · go_simp
                                                           constructor
                                                           · rfl
                                                           rfl
                                                         clear hcv12
                                                         refine hK.out _ _ trivial (fun hHeld => ?_)
                                                         clear hK K
                                                         refine norm_ (a' := ?_) ?_ ?_
                                                         rotate_left
                                                         · show Act.put _ (some 15) _ = _
                                                           simp only [Act.put, List.setIfInBounds_toArray, List.set_cons_zero, List.set_cons_succ, i64_w, i32_w]
                                                           rfl
                                                         exact norm_ (by first | (simp only [putAll, Act.put, List.setIfInBounds_toArray, List.set_cons_zero, List.set_cons_succ]; done) | (simp only [putAll, Act.put, List.setIfInBounds_toArray, List.set_cons_zero, List.set_cons_succ]; rfl)) (hJ5_6 (v264) _ ⟨(rq HO265), (by repeat (first | (with_reducible first | exact HI254.out | apply IsS74.alloc | apply IsS74.drewN | apply IsS74.drew | apply IsS74.set_1 | apply IsS74.set_2) | exact HI254.out)), (by repeat (first | (with_reducible first | exact HB.out | apply below_alloc | apply pw_below_drewN | apply below_drew1 | refine below_set ?_ (IsS74.ge HI254.out)) | exact HB.out))⟩)
                                                       skip
                                                       refine Kd.R_make_step (Kd.int .u8) _ 5 (by rfl) (N := 16) rfl 45 _ _ rfl 42 rfl rfl Try.underlying45 (.int .u8 0) 1 info5 rfl (by decide) (by omega) 0 (ok := fun _ => True) (okp := fun _ => True) rfl (fun _ hk => hk) trivial (by omega) (by omega) (Below.refl _ _) (Nat.le_refl _) ?_
                                                       intro v267 w12 ho13 hb hg_ hnew_
                                                       clear hg_ hnew_
                                                       (first | rw [← Ny266.out] at ho13 | (simp only [Int.reduceToNat] at ho13; rw [← Ny266.out] at ho13))
                                                       have n0_ := ce HO265 ho13 hb
                                                       have HO268 := Aside0.mk (Kd.R_lower (Kd.R_new' ho13 (ql HO265)) (below_size (by repeat (first | (with_reducible first | exact HB.out | apply below_alloc | apply pw_below_drewN | apply below_drew1 | refine below_set ?_ (IsS74.ge HI254.out)) | exact HB.out))))
                                                       have n2_ := Aside0.mk (IsS74.below (by repeat (first | (with_reducible first | exact HI254.out | apply IsS74.alloc | apply IsS74.drewN | apply IsS74.drew | apply IsS74.set_1 | apply IsS74.set_2) | exact HI254.out)) hb)
                                                       replace HB := Aside0.mk (below_step (by repeat (first | (with_reducible first | exact HB.out | apply below_alloc | apply pw_below_drewN | apply below_drew1 | refine below_set ?_ (IsS74.ge HI254.out)) | exact HB.out)) hb)
                                                       replace HO265 := n0_
                                                       replace HI254 := n2_
                                                       clear n0_ n2_
                                                       clear hb ho13
                                                       refine hK.out _ _ trivial (fun hHeld => ?_)
                                                       clear hK K
                                                       refine norm_ (a' := ?_) ?_ ?_
                                                       rotate_left
                                                       · show Act.put _ (some 16) _ = _
                                                         simp only [Act.put, List.setIfInBounds_toArray, List.set_cons_zero, List.set_cons_succ, i64_w, i32_w]
                                                         rfl
                                                       exact norm_ (by first | (simp only [putAll, Act.put, List.setIfInBounds_toArray, List.set_cons_zero, List.set_cons_succ]; done) | (simp only [putAll, Act.put, List.setIfInBounds_toArray, List.set_cons_zero, List.set_cons_succ]; rfl)) (hJ5_7 (v264, v267) _ ⟨(by (with_reducible repeat (first | apply Kd.R_alloc | apply Kd.R_drewN | apply Kd.R_drew)); exact Kd.R_mono HO265.out (fun _ hk => hk.2)), (by (with_reducible repeat (first | apply Kd.R_alloc | apply Kd.R_drewN | apply Kd.R_drew)); exact Kd.R_mono HO268.out (fun _ hk => hk.2)), (by repeat (first | (with_reducible first | exact HI254.out | apply IsS74.alloc | apply IsS74.drewN | apply IsS74.drew | apply IsS74.set_1 | apply IsS74.set_2) | exact HI254.out)), (by repeat (first | (with_reducible first | exact HB.out | apply below_alloc | apply pw_below_drewN | apply below_drew1 | refine below_set ?_ (IsS74.ge HI254.out)) | exact HB.out))⟩)
                                                     skip
                                                     rintro v256 w10 ⟨h0_, h1_, h2_⟩
                                                     have n0_ : Aside0 (Kd.R (Kd.int .i64) 3 w10 w.heap.size (fun _ => True) v256 t255) := ⟨h0_⟩
                                                     have n1_ : Aside0 (IsS74 w w10 gb254 l0 t258 t259) := ⟨h1_⟩
                                                     have n2_ : Aside0 (Below w.heap.size w w10) := ⟨h2_⟩
                                                     clear HI254
                                                     clear HB
                                                     clear h0_ h1_ h2_
                                                     have HO257 := n0_
                                                     have HI254 := n1_
                                                     have HB := n2_
                                                     clear n0_ n1_ n2_
                                                     have hHeld := trivial
                                                     refine norm_ (a' := ?_) ?_ ?_
                                                     rotate_left
                                                     · simp only [putAll, Act.put, List.setIfInBounds_toArray, List.set_cons_zero, List.set_cons_succ]
                                                       rfl
                                                     refine three_ (i := 3) (j := 5) (k := 7) (Ni := some 12) (Nj := some 14) (Nk := some 16) #[true, true, true, true, true, false, false, false, false, false, false, false, false, false] #[true, true, true, false, true, true, false, false, false, false, false, false, false, false] #[true, true, true, false, true, false, false, true, false, false, false, false, false, false] rfl rfl rfl rfl rfl rfl (three_of HT_.out (by kernel_rfl)) (by decide) (by decide) (by decide) (fun K hK => ?_) (fun K hK => ?_) (fun K hK => ?_)
                                                     · skip
                                                       refine goes_ Try.func84 (by kernel_rfl) rfl #[.pointer (some ⟨gb254, 0, none⟩)] (by rfl) rfl rfl (by (try simp only [List.map_toArray, List.map_cons, List.map_nil]); first | done | rfl | (simp only [List.length_drop, List.length_take]; rfl)) ?_
                                                       with_reducible refine (spec_l1Cur_block.calls gb254 l0 t258 t259 t260 t261 t262 w _ ?side1 ?side2 A3.out).mono ?_
                                                       (case side1 => repeat (first | (with_reducible first | exact HI254.out | apply IsS74.alloc | apply IsS74.drewN | apply IsS74.drew | apply IsS74.set_1 | apply IsS74.set_2) | exact HI254.out))
                                                       (case side2 => repeat (first | (with_reducible first | exact HB.out | apply below_alloc | apply pw_below_drewN | apply below_drew1 | refine below_set ?_ (IsS74.ge HI254.out)) | exact HB.out))
                                                       rintro e w11 ⟨rfl, hi, hb, hk⟩
                                                       refine ⟨_, rfl, ?_⟩
                                                       replace HO257 := Aside0.mk (Kd.R_mono (Kd.R_keep (IsS74.apart (show IsS74 w _ gb254 l0 t258 t259 from by repeat (first | (with_reducible first | exact HI254.out | apply IsS74.alloc | apply IsS74.drewN | apply IsS74.drew | apply IsS74.set_1 | apply IsS74.set_2) | exact HI254.out)) (rq HO257) (by decide)) hk (fun _ h => h.2)) (fun _ h => h.1))
                                                       replace HB := Aside0.mk (hb)
                                                       replace HI254 := Aside0.mk (hi)
                                                       (try clear hb)
                                                       (try clear hb2)
                                                       (try clear hk)
                                                       (try clear hi)
                                                       refine hK.out _ _ trivial (fun hHeld => ?_)
                                                       clear hK K
                                                       refine norm_ (a' := ?_) ?_ ?_
                                                       rotate_left
                                                       · show Act.put _ (some 12) _ = _
                                                         simp only [Act.put, List.setIfInBounds_toArray, List.set_cons_zero, List.set_cons_succ, i64_w, i32_w]
                                                         rfl
                                                       exact norm_ (by first | (simp only [putAll, Act.put, List.setIfInBounds_toArray, List.set_cons_zero, List.set_cons_succ]; done) | (simp only [putAll, Act.put, List.setIfInBounds_toArray, List.set_cons_zero, List.set_cons_succ]; rfl)) (hJ1_3 (v256) _ ⟨(rq HO257), (by repeat (first | (with_reducible first | exact HI254.out | apply IsS74.alloc | apply IsS74.drewN | apply IsS74.drew | apply IsS74.set_1 | apply IsS74.set_2) | exact HI254.out)), (by repeat (first | (with_reducible first | exact HB.out | apply below_alloc | apply pw_below_drewN | apply below_drew1 | refine below_set ?_ (IsS74.ge HI254.out)) | exact HB.out))⟩)
                                                     · skip
                                                       refine Kd.R_make_step (Kd.int .u8) _ 5 (by rfl) (N := 14) rfl 45 _ _ rfl 40 rfl rfl Try.underlying45 (.int .u8 0) 1 info5 rfl (by decide) (by omega) 0 (ok := fun _ => True) (okp := fun _ => True) rfl (fun _ hk => hk) trivial (by omega) (by omega) (Below.refl _ _) (Nat.le_refl _) ?_
                                                       intro v264 w11 ho12 hb hg_ hnew_
                                                       clear hg_ hnew_
                                                       (first | rw [← Ny263.out] at ho12 | (simp only [Int.reduceToNat] at ho12; rw [← Ny263.out] at ho12))
                                                       replace HO257 := cb HO257 hb
                                                       have HO265 := Aside0.mk (Kd.R_lower ho12 (below_size (by repeat (first | (with_reducible first | exact HB.out | apply below_alloc | apply pw_below_drewN | apply below_drew1 | refine below_set ?_ (IsS74.ge HI254.out)) | exact HB.out))))
                                                       have n2_ := Aside0.mk (IsS74.below (by repeat (first | (with_reducible first | exact HI254.out | apply IsS74.alloc | apply IsS74.drewN | apply IsS74.drew | apply IsS74.set_1 | apply IsS74.set_2) | exact HI254.out)) hb)
                                                       replace HB := Aside0.mk (below_step (by repeat (first | (with_reducible first | exact HB.out | apply below_alloc | apply pw_below_drewN | apply below_drew1 | refine below_set ?_ (IsS74.ge HI254.out)) | exact HB.out)) hb)
                                                       replace HI254 := n2_
                                                       clear n2_
                                                       clear hb ho12
                                                       refine hK.out _ _ trivial (fun hHeld => ?_)
                                                       clear hK K
                                                       refine norm_ (a' := ?_) ?_ ?_
                                                       rotate_left
                                                       · show Act.put _ (some 14) _ = _
                                                         simp only [Act.put, List.setIfInBounds_toArray, List.set_cons_zero, List.set_cons_succ, i64_w, i32_w]
                                                         rfl
                                                       exact norm_ (by first | (simp only [putAll, Act.put, List.setIfInBounds_toArray, List.set_cons_zero, List.set_cons_succ]; done) | (simp only [putAll, Act.put, List.setIfInBounds_toArray, List.set_cons_zero, List.set_cons_succ]; rfl)) (hJ1_5 (v256, v264) _ ⟨(rq HO257), (rq HO265), (by repeat (first | (with_reducible first | exact HI254.out | apply IsS74.alloc | apply IsS74.drewN | apply IsS74.drew | apply IsS74.set_1 | apply IsS74.set_2) | exact HI254.out)), (by repeat (first | (with_reducible first | exact HB.out | apply below_alloc | apply pw_below_drewN | apply below_drew1 | refine below_set ?_ (IsS74.ge HI254.out)) | exact HB.out))⟩)
                                                     skip
                                                     refine Kd.R_make_step (Kd.int .u8) _ 5 (by rfl) (N := 16) rfl 45 _ _ rfl 42 rfl rfl Try.underlying45 (.int .u8 0) 1 info5 rfl (by decide) (by omega) 0 (ok := fun _ => True) (okp := fun _ => True) rfl (fun _ hk => hk) trivial (by omega) (by omega) (Below.refl _ _) (Nat.le_refl _) ?_
                                                     intro v267 w11 ho12 hb hg_ hnew_
                                                     clear hg_ hnew_
                                                     (first | rw [← Ny266.out] at ho12 | (simp only [Int.reduceToNat] at ho12; rw [← Ny266.out] at ho12))
                                                     replace HO257 := cb HO257 hb
                                                     have HO268 := Aside0.mk (Kd.R_lower ho12 (below_size (by repeat (first | (with_reducible first | exact HB.out | apply below_alloc | apply pw_below_drewN | apply below_drew1 | refine below_set ?_ (IsS74.ge HI254.out)) | exact HB.out))))
                                                     have n2_ := Aside0.mk (IsS74.below (by repeat (first | (with_reducible first | exact HI254.out | apply IsS74.alloc | apply IsS74.drewN | apply IsS74.drew | apply IsS74.set_1 | apply IsS74.set_2) | exact HI254.out)) hb)
                                                     replace HB := Aside0.mk (below_step (by repeat (first | (with_reducible first | exact HB.out | apply below_alloc | apply pw_below_drewN | apply below_drew1 | refine below_set ?_ (IsS74.ge HI254.out)) | exact HB.out)) hb)
                                                     replace HI254 := n2_
                                                     clear n2_
                                                     clear hb ho12
                                                     refine hK.out _ _ trivial (fun hHeld => ?_)
                                                     clear hK K
                                                     refine norm_ (a' := ?_) ?_ ?_
                                                     rotate_left
                                                     · show Act.put _ (some 16) _ = _
                                                       simp only [Act.put, List.setIfInBounds_toArray, List.set_cons_zero, List.set_cons_succ, i64_w, i32_w]
                                                       rfl
                                                     exact norm_ (by first | (simp only [putAll, Act.put, List.setIfInBounds_toArray, List.set_cons_zero, List.set_cons_succ]; done) | (simp only [putAll, Act.put, List.setIfInBounds_toArray, List.set_cons_zero, List.set_cons_succ]; rfl)) (hJ1_7 (v256, v267) _ ⟨(rq HO257), (rq HO268), (by repeat (first | (with_reducible first | exact HI254.out | apply IsS74.alloc | apply IsS74.drewN | apply IsS74.drew | apply IsS74.set_1 | apply IsS74.set_2) | exact HI254.out)), (by repeat (first | (with_reducible first | exact HB.out | apply below_alloc | apply pw_below_drewN | apply below_drew1 | refine below_set ?_ (IsS74.ge HI254.out)) | exact HB.out))⟩)
                                                   skip
                                                   rintro v267 w12 ⟨h0_, h1_, h2_⟩
                                                   have n0_ : Aside0 (Kd.R (Kd.int .u8) 5 w12 w.heap.size (fun _ => True) v267 y266) := ⟨h0_⟩
                                                   have n1_ : Aside0 (IsS74 w w12 gb254 l0 0 0) := ⟨h1_⟩
                                                   have n2_ : Aside0 (Below w.heap.size w w12) := ⟨h2_⟩
                                                   clear HI254
                                                   clear HB
                                                   clear h0_ h1_ h2_
                                                   have HO268 := n0_
                                                   have HI254 := n1_
                                                   have HB := n2_
                                                   clear n0_ n1_ n2_
                                                   have hHeld := trivial
                                                   refine norm_ (a' := ?_) ?_ ?_
                                                   rotate_left
                                                   · simp only [putAll, Act.put, List.setIfInBounds_toArray, List.set_cons_zero, List.set_cons_succ]
                                                     rfl
                                                   refine two_ (i := 1) (j := 5) (Ni := some 10) (Nj := some 14) #[true, true, true, false, true, false, false, true, true, false, false, false, false, false] #[true, false, true, false, true, true, false, true, true, false, false, false, false, false] rfl rfl rfl rfl (two_of HT_.out (by kernel_rfl)) (by decide) (by decide) (fun K hK => ?_) (fun K hK => ?_)
                                                   · skip
                                                     refine goes_ Try.func83 (by kernel_rfl) rfl #[.pointer (some ⟨gb254, 0, none⟩)] (by rfl) rfl rfl (by (try simp only [List.map_toArray, List.map_cons, List.map_nil]); first | done | rfl | (simp only [List.length_drop, List.length_take]; rfl)) ?_
                                                     with_reducible refine (spec_l1Cur_keys.calls k gb254 l0 0 0 t255 t258 t259 w _ ?side1 ?side2 A2.out).mono ?_
                                                     (case side1 => repeat (first | (with_reducible first | exact HI254.out | apply IsS74.alloc | apply IsS74.drewN | apply IsS74.drew | apply IsS74.set_1 | apply IsS74.set_2) | exact HI254.out))
                                                     (case side2 => repeat (first | (with_reducible first | exact HB.out | apply below_alloc | apply pw_below_drewN | apply below_drew1 | refine below_set ?_ (IsS74.ge HI254.out)) | exact HB.out))
                                                     rintro e w13 ⟨v256, rfl, ho0, hi, hb, hk⟩
                                                     refine ⟨_, rfl, ?_⟩
                                                     replace HO268 := Aside0.mk (Kd.R_mono (Kd.R_keep (IsS74.apart (show IsS74 w _ gb254 l0 0 0 from by repeat (first | (with_reducible first | exact HI254.out | apply IsS74.alloc | apply IsS74.drewN | apply IsS74.drew | apply IsS74.set_1 | apply IsS74.set_2) | exact HI254.out)) (rq HO268) (by decide)) hk (fun _ h => h.2)) (fun _ h => h.1))
                                                     have HO257 := Aside0.mk (Kd.R_lower ho0 (below_size (by repeat (first | (with_reducible first | exact HB.out | apply below_alloc | apply pw_below_drewN | apply below_drew1 | refine below_set ?_ (IsS74.ge HI254.out)) | exact HB.out))))
                                                     replace HB := Aside0.mk (hb)
                                                     replace HI254 := Aside0.mk (hi)
                                                     (try clear hb)
                                                     (try clear hb2)
                                                     (try clear hk)
                                                     (try clear hi)
                                                     (try clear ho0)
                                                     refine hK.out _ _ trivial (fun hHeld => ?_)
                                                     clear hK K
                                                     refine norm_ (a' := ?_) ?_ ?_
                                                     rotate_left
                                                     · show Act.put _ (some 10) _ = _
                                                       simp only [Act.put, List.setIfInBounds_toArray, List.set_cons_zero, List.set_cons_succ, i64_w, i32_w]
                                                       rfl
                                                     exact norm_ (by first | (simp only [putAll, Act.put, List.setIfInBounds_toArray, List.set_cons_zero, List.set_cons_succ]; done) | (simp only [putAll, Act.put, List.setIfInBounds_toArray, List.set_cons_zero, List.set_cons_succ]; rfl)) (hJ1_7_8 (v256, v267) _ ⟨(rq HO257), (rq HO268), (by repeat (first | (with_reducible first | exact HI254.out | apply IsS74.alloc | apply IsS74.drewN | apply IsS74.drew | apply IsS74.set_1 | apply IsS74.set_2) | exact HI254.out)), (by repeat (first | (with_reducible first | exact HB.out | apply below_alloc | apply pw_below_drewN | apply below_drew1 | refine below_set ?_ (IsS74.ge HI254.out)) | exact HB.out))⟩)
                                                   skip
                                                   refine Kd.R_make_step (Kd.int .u8) _ 5 (by rfl) (N := 14) rfl 45 _ _ rfl 40 rfl rfl Try.underlying45 (.int .u8 0) 1 info5 rfl (by decide) (by omega) 0 (ok := fun _ => True) (okp := fun _ => True) rfl (fun _ hk => hk) trivial (by omega) (by omega) (Below.refl _ _) (Nat.le_refl _) ?_
                                                   intro v264 w13 ho14 hb hg_ hnew_
                                                   clear hg_ hnew_
                                                   (first | rw [← Ny263.out] at ho14 | (simp only [Int.reduceToNat] at ho14; rw [← Ny263.out] at ho14))
                                                   have n0_ := ce HO268 ho14 hb
                                                   have HO265 := Aside0.mk (Kd.R_lower (Kd.R_new' ho14 (ql HO268)) (below_size (by repeat (first | (with_reducible first | exact HB.out | apply below_alloc | apply pw_below_drewN | apply below_drew1 | refine below_set ?_ (IsS74.ge HI254.out)) | exact HB.out))))
                                                   have n2_ := Aside0.mk (IsS74.below (by repeat (first | (with_reducible first | exact HI254.out | apply IsS74.alloc | apply IsS74.drewN | apply IsS74.drew | apply IsS74.set_1 | apply IsS74.set_2) | exact HI254.out)) hb)
                                                   replace HB := Aside0.mk (below_step (by repeat (first | (with_reducible first | exact HB.out | apply below_alloc | apply pw_below_drewN | apply below_drew1 | refine below_set ?_ (IsS74.ge HI254.out)) | exact HB.out)) hb)
                                                   replace HO268 := n0_
                                                   replace HI254 := n2_
                                                   clear n0_ n2_
                                                   clear hb ho14
                                                   refine hK.out _ _ trivial (fun hHeld => ?_)
                                                   clear hK K
                                                   refine norm_ (a' := ?_) ?_ ?_
                                                   rotate_left
                                                   · show Act.put _ (some 14) _ = _
                                                     simp only [Act.put, List.setIfInBounds_toArray, List.set_cons_zero, List.set_cons_succ, i64_w, i32_w]
                                                     rfl
                                                   exact norm_ (by first | (simp only [putAll, Act.put, List.setIfInBounds_toArray, List.set_cons_zero, List.set_cons_succ]; done) | (simp only [putAll, Act.put, List.setIfInBounds_toArray, List.set_cons_zero, List.set_cons_succ]; rfl)) (hJ5_7_8 (v264, v267) _ ⟨(by (with_reducible repeat (first | apply Kd.R_alloc | apply Kd.R_drewN | apply Kd.R_drew)); exact Kd.R_mono HO265.out (fun _ hk => hk.2)), (by (with_reducible repeat (first | apply Kd.R_alloc | apply Kd.R_drewN | apply Kd.R_drew)); exact Kd.R_mono HO268.out (fun _ hk => hk.2)), (by repeat (first | (with_reducible first | exact HI254.out | apply IsS74.alloc | apply IsS74.drewN | apply IsS74.drew | apply IsS74.set_1 | apply IsS74.set_2) | exact HI254.out)), (by repeat (first | (with_reducible first | exact HB.out | apply below_alloc | apply pw_below_drewN | apply below_drew1 | refine below_set ?_ (IsS74.ge HI254.out)) | exact HB.out))⟩)
                                                 skip
                                                 rintro ⟨v264, v267⟩ w13 ⟨h0_, h1_, h2_, h3_⟩
                                                 have n0_ : Aside0 (Kd.R (Kd.int .u8) 5 w13 w.heap.size (fun k_ => some k_ ≠ (v267 : Value).ownBlock) v264 y263) := ⟨h0_⟩
                                                 have n1_ : Aside0 (Kd.R (Kd.int .u8) 5 w13 w.heap.size (fun k_ => some k_ ≠ (v264 : Value).ownBlock) v267 y266) := ⟨h1_⟩
                                                 have n2_ : Aside0 (IsS74 w w13 gb254 l0 0 0) := ⟨h2_⟩
                                                 have n3_ : Aside0 (Below w.heap.size w w13) := ⟨h3_⟩
                                                 clear HI254
                                                 clear HB
                                                 clear h0_ h1_ h2_ h3_
                                                 have HO265 := n0_
                                                 have HO268 := n1_
                                                 have HI254 := n2_
                                                 have HB := n3_
                                                 clear n0_ n1_ n2_ n3_
                                                 have hHeld := trivial
                                                 refine norm_ (a' := ?_) ?_ ?_
                                                 rotate_left
                                                 · simp only [putAll, Act.put, List.setIfInBounds_toArray, List.set_cons_zero, List.set_cons_succ]
                                                   rfl
                                                 refine three_ (i := 1) (j := 6) (k := 8) (Ni := some 10) (Nj := some 15) (Nk := some 17) #[true, true, true, false, true, true, false, true, false, false, false, false, false, false] #[true, false, true, false, true, true, true, true, false, false, false, false, false, false] #[true, false, true, false, true, true, false, true, true, false, false, false, false, false] rfl rfl rfl rfl rfl rfl (three_of HT_.out (by kernel_rfl)) (by decide) (by decide) (by decide) (fun K hK => ?_) (fun K hK => ?_) (fun K hK => ?_)
                                                 · skip
                                                   refine goes_ Try.func83 (by kernel_rfl) rfl #[.pointer (some ⟨gb254, 0, none⟩)] (by rfl) rfl rfl (by (try simp only [List.map_toArray, List.map_cons, List.map_nil]); first | done | rfl | (simp only [List.length_drop, List.length_take]; rfl)) ?_
                                                   with_reducible refine (spec_l1Cur_keys.calls k gb254 l0 0 0 t255 t258 t259 w _ ?side1 ?side2 A2.out).mono ?_
                                                   (case side1 => repeat (first | (with_reducible first | exact HI254.out | apply IsS74.alloc | apply IsS74.drewN | apply IsS74.drew | apply IsS74.set_1 | apply IsS74.set_2) | exact HI254.out))
                                                   (case side2 => repeat (first | (with_reducible first | exact HB.out | apply below_alloc | apply pw_below_drewN | apply below_drew1 | refine below_set ?_ (IsS74.ge HI254.out)) | exact HB.out))
                                                   rintro e w14 ⟨v256, rfl, ho0, hi, hb, hk⟩
                                                   refine ⟨_, rfl, ?_⟩
                                                   replace HO265 := Aside0.mk (Kd.R_mono (Kd.R_keep (IsS74.apart (show IsS74 w _ gb254 l0 0 0 from by repeat (first | (with_reducible first | exact HI254.out | apply IsS74.alloc | apply IsS74.drewN | apply IsS74.drew | apply IsS74.set_1 | apply IsS74.set_2) | exact HI254.out)) (rq HO265) (by decide)) hk (fun _ h => h.2)) (fun _ h => h.1))
                                                   replace HO268 := Aside0.mk (Kd.R_mono (Kd.R_keep (IsS74.apart (show IsS74 w _ gb254 l0 0 0 from by repeat (first | (with_reducible first | exact HI254.out | apply IsS74.alloc | apply IsS74.drewN | apply IsS74.drew | apply IsS74.set_1 | apply IsS74.set_2) | exact HI254.out)) (rq HO268) (by decide)) hk (fun _ h => h.2)) (fun _ h => h.1))
                                                   have HO257 := Aside0.mk (Kd.R_lower ho0 (below_size (by repeat (first | (with_reducible first | exact HB.out | apply below_alloc | apply pw_below_drewN | apply below_drew1 | refine below_set ?_ (IsS74.ge HI254.out)) | exact HB.out))))
                                                   replace HB := Aside0.mk (hb)
                                                   replace HI254 := Aside0.mk (hi)
                                                   (try clear hb)
                                                   (try clear hb2)
                                                   (try clear hk)
                                                   (try clear hi)
                                                   (try clear ho0)
                                                   refine hK.out _ _ trivial (fun hHeld => ?_)
                                                   clear hK K
                                                   refine norm_ (a' := ?_) ?_ ?_
                                                   rotate_left
                                                   · show Act.put _ (some 10) _ = _
                                                     simp only [Act.put, List.setIfInBounds_toArray, List.set_cons_zero, List.set_cons_succ, i64_w, i32_w]
                                                     rfl
                                                   exact norm_ (by first | (simp only [putAll, Act.put, List.setIfInBounds_toArray, List.set_cons_zero, List.set_cons_succ]; done) | (simp only [putAll, Act.put, List.setIfInBounds_toArray, List.set_cons_zero, List.set_cons_succ]; rfl)) (hJ1_5_7 (v256, v264, v267) _ ⟨(rq HO257), (rq HO265), (rq HO268), (by repeat (first | (with_reducible first | exact HI254.out | apply IsS74.alloc | apply IsS74.drewN | apply IsS74.drew | apply IsS74.set_1 | apply IsS74.set_2) | exact HI254.out)), (by repeat (first | (with_reducible first | exact HB.out | apply below_alloc | apply pw_below_drewN | apply below_drew1 | refine below_set ?_ (IsS74.ge HI254.out)) | exact HB.out))⟩)
                                                 · skip
                                                   have hcv14 := own_string (P := Try.prog) Try.underlying45 Try.underlying5 Try.underlying9 (Kd.own_of_R HO265.out)
                                                   refine value_ (w1 := ?_) (v := ?_) (by rfl) rfl ?_ ?_
                                                   rotate_left 2
                                                   · go_simp
                                                     constructor
                                                     · rfl
                                                     rfl
                                                   clear hcv14
                                                   refine hK.out _ _ trivial (fun hHeld => ?_)
                                                   clear hK K
                                                   refine norm_ (a' := ?_) ?_ ?_
                                                   rotate_left
                                                   · show Act.put _ (some 15) _ = _
                                                     simp only [Act.put, List.setIfInBounds_toArray, List.set_cons_zero, List.set_cons_succ, i64_w, i32_w]
                                                     rfl
                                                   exact norm_ (by first | (simp only [putAll, Act.put, List.setIfInBounds_toArray, List.set_cons_zero, List.set_cons_succ]; done) | (simp only [putAll, Act.put, List.setIfInBounds_toArray, List.set_cons_zero, List.set_cons_succ]; rfl)) (hJ5_6_7 (v264, v267) _ ⟨(rq HO265), (rq HO268), (by repeat (first | (with_reducible first | exact HI254.out | apply IsS74.alloc | apply IsS74.drewN | apply IsS74.drew | apply IsS74.set_1 | apply IsS74.set_2) | exact HI254.out)), (by repeat (first | (with_reducible first | exact HB.out | apply below_alloc | apply pw_below_drewN | apply below_drew1 | refine below_set ?_ (IsS74.ge HI254.out)) | exact HB.out))⟩)
                                                 skip
                                                 have hcv14 := own_string (P := Try.prog) Try.underlying45 Try.underlying5 Try.underlying9 (Kd.own_of_R HO268.out)
                                                 refine value_ (w1 := ?_) (v := ?_) (by rfl) rfl ?_ ?_
                                                 rotate_left 2
                                                 · go_simp
                                                   constructor
                                                   · rfl
                                                   rfl
                                                 clear hcv14
                                                 refine hK.out _ _ trivial (fun hHeld => ?_)
                                                 clear hK K
                                                 refine norm_ (a' := ?_) ?_ ?_
                                                 rotate_left
                                                 · show Act.put _ (some 17) _ = _
                                                   simp only [Act.put, List.setIfInBounds_toArray, List.set_cons_zero, List.set_cons_succ, i64_w, i32_w]
                                                   rfl
                                                 exact norm_ (by first | (simp only [putAll, Act.put, List.setIfInBounds_toArray, List.set_cons_zero, List.set_cons_succ]; done) | (simp only [putAll, Act.put, List.setIfInBounds_toArray, List.set_cons_zero, List.set_cons_succ]; rfl)) (hJ5_7_8 (v264, v267) _ ⟨(rq HO265), (rq HO268), (by repeat (first | (with_reducible first | exact HI254.out | apply IsS74.alloc | apply IsS74.drewN | apply IsS74.drew | apply IsS74.set_1 | apply IsS74.set_2) | exact HI254.out)), (by repeat (first | (with_reducible first | exact HB.out | apply below_alloc | apply pw_below_drewN | apply below_drew1 | refine below_set ?_ (IsS74.ge HI254.out)) | exact HB.out))⟩)
                                               skip
                                               rintro v264 w12 ⟨h0_, h1_, h2_⟩
                                               have n0_ : Aside0 (Kd.R (Kd.int .u8) 5 w12 w.heap.size (fun _ => True) v264 y263) := ⟨h0_⟩
                                               have n1_ : Aside0 (IsS74 w w12 gb254 l0 0 0) := ⟨h1_⟩
                                               have n2_ : Aside0 (Below w.heap.size w w12) := ⟨h2_⟩
                                               clear HI254
                                               clear HB
                                               clear h0_ h1_ h2_
                                               have HO265 := n0_
                                               have HI254 := n1_
                                               have HB := n2_
                                               clear n0_ n1_ n2_
                                               have hHeld := trivial
                                               refine norm_ (a' := ?_) ?_ ?_
                                               rotate_left
                                               · simp only [putAll, Act.put, List.setIfInBounds_toArray, List.set_cons_zero, List.set_cons_succ]
                                                 rfl
                                               refine two_ (i := 1) (j := 7) (Ni := some 10) (Nj := some 16) #[true, true, true, false, true, true, true, false, false, false, false, false, false, false] #[true, false, true, false, true, true, true, true, false, false, false, false, false, false] rfl rfl rfl rfl (two_of HT_.out (by kernel_rfl)) (by decide) (by decide) (fun K hK => ?_) (fun K hK => ?_)
                                               · skip
                                                 refine goes_ Try.func83 (by kernel_rfl) rfl #[.pointer (some ⟨gb254, 0, none⟩)] (by rfl) rfl rfl (by (try simp only [List.map_toArray, List.map_cons, List.map_nil]); first | done | rfl | (simp only [List.length_drop, List.length_take]; rfl)) ?_
                                                 with_reducible refine (spec_l1Cur_keys.calls k gb254 l0 0 0 t255 t258 t259 w _ ?side1 ?side2 A2.out).mono ?_
                                                 (case side1 => repeat (first | (with_reducible first | exact HI254.out | apply IsS74.alloc | apply IsS74.drewN | apply IsS74.drew | apply IsS74.set_1 | apply IsS74.set_2) | exact HI254.out))
                                                 (case side2 => repeat (first | (with_reducible first | exact HB.out | apply below_alloc | apply pw_below_drewN | apply below_drew1 | refine below_set ?_ (IsS74.ge HI254.out)) | exact HB.out))
                                                 rintro e w13 ⟨v256, rfl, ho0, hi, hb, hk⟩
                                                 refine ⟨_, rfl, ?_⟩
                                                 replace HO265 := Aside0.mk (Kd.R_mono (Kd.R_keep (IsS74.apart (show IsS74 w _ gb254 l0 0 0 from by repeat (first | (with_reducible first | exact HI254.out | apply IsS74.alloc | apply IsS74.drewN | apply IsS74.drew | apply IsS74.set_1 | apply IsS74.set_2) | exact HI254.out)) (rq HO265) (by decide)) hk (fun _ h => h.2)) (fun _ h => h.1))
                                                 have HO257 := Aside0.mk (Kd.R_lower ho0 (below_size (by repeat (first | (with_reducible first | exact HB.out | apply below_alloc | apply pw_below_drewN | apply below_drew1 | refine below_set ?_ (IsS74.ge HI254.out)) | exact HB.out))))
                                                 replace HB := Aside0.mk (hb)
                                                 replace HI254 := Aside0.mk (hi)
                                                 (try clear hb)
                                                 (try clear hb2)
                                                 (try clear hk)
                                                 (try clear hi)
                                                 (try clear ho0)
                                                 refine hK.out _ _ trivial (fun hHeld => ?_)
                                                 clear hK K
                                                 refine norm_ (a' := ?_) ?_ ?_
                                                 rotate_left
                                                 · show Act.put _ (some 10) _ = _
                                                   simp only [Act.put, List.setIfInBounds_toArray, List.set_cons_zero, List.set_cons_succ, i64_w, i32_w]
                                                   rfl
                                                 exact norm_ (by first | (simp only [putAll, Act.put, List.setIfInBounds_toArray, List.set_cons_zero, List.set_cons_succ]; done) | (simp only [putAll, Act.put, List.setIfInBounds_toArray, List.set_cons_zero, List.set_cons_succ]; rfl)) (hJ1_5_6 (v256, v264) _ ⟨(rq HO257), (rq HO265), (by repeat (first | (with_reducible first | exact HI254.out | apply IsS74.alloc | apply IsS74.drewN | apply IsS74.drew | apply IsS74.set_1 | apply IsS74.set_2) | exact HI254.out)), (by repeat (first | (with_reducible first | exact HB.out | apply below_alloc | apply pw_below_drewN | apply below_drew1 | refine below_set ?_ (IsS74.ge HI254.out)) | exact HB.out))⟩)
                                               skip
                                               refine Kd.R_make_step (Kd.int .u8) _ 5 (by rfl) (N := 16) rfl 45 _ _ rfl 42 rfl rfl Try.underlying45 (.int .u8 0) 1 info5 rfl (by decide) (by omega) 0 (ok := fun _ => True) (okp := fun _ => True) rfl (fun _ hk => hk) trivial (by omega) (by omega) (Below.refl _ _) (Nat.le_refl _) ?_
                                               intro v267 w13 ho14 hb hg_ hnew_
                                               clear hg_ hnew_
                                               (first | rw [← Ny266.out] at ho14 | (simp only [Int.reduceToNat] at ho14; rw [← Ny266.out] at ho14))
                                               have n0_ := ce HO265 ho14 hb
                                               have HO268 := Aside0.mk (Kd.R_lower (Kd.R_new' ho14 (ql HO265)) (below_size (by repeat (first | (with_reducible first | exact HB.out | apply below_alloc | apply pw_below_drewN | apply below_drew1 | refine below_set ?_ (IsS74.ge HI254.out)) | exact HB.out))))
                                               have n2_ := Aside0.mk (IsS74.below (by repeat (first | (with_reducible first | exact HI254.out | apply IsS74.alloc | apply IsS74.drewN | apply IsS74.drew | apply IsS74.set_1 | apply IsS74.set_2) | exact HI254.out)) hb)
                                               replace HB := Aside0.mk (below_step (by repeat (first | (with_reducible first | exact HB.out | apply below_alloc | apply pw_below_drewN | apply below_drew1 | refine below_set ?_ (IsS74.ge HI254.out)) | exact HB.out)) hb)
                                               replace HO265 := n0_
                                               replace HI254 := n2_
                                               clear n0_ n2_
                                               clear hb ho14
                                               refine hK.out _ _ trivial (fun hHeld => ?_)
                                               clear hK K
                                               refine norm_ (a' := ?_) ?_ ?_
                                               rotate_left
                                               · show Act.put _ (some 16) _ = _
                                                 simp only [Act.put, List.setIfInBounds_toArray, List.set_cons_zero, List.set_cons_succ, i64_w, i32_w]
                                                 rfl
                                               exact norm_ (by first | (simp only [putAll, Act.put, List.setIfInBounds_toArray, List.set_cons_zero, List.set_cons_succ]; done) | (simp only [putAll, Act.put, List.setIfInBounds_toArray, List.set_cons_zero, List.set_cons_succ]; rfl)) (hJ5_6_7 (v264, v267) _ ⟨(by (with_reducible repeat (first | apply Kd.R_alloc | apply Kd.R_drewN | apply Kd.R_drew)); exact Kd.R_mono HO265.out (fun _ hk => hk.2)), (by (with_reducible repeat (first | apply Kd.R_alloc | apply Kd.R_drewN | apply Kd.R_drew)); exact Kd.R_mono HO268.out (fun _ hk => hk.2)), (by repeat (first | (with_reducible first | exact HI254.out | apply IsS74.alloc | apply IsS74.drewN | apply IsS74.drew | apply IsS74.set_1 | apply IsS74.set_2) | exact HI254.out)), (by repeat (first | (with_reducible first | exact HB.out | apply below_alloc | apply pw_below_drewN | apply below_drew1 | refine below_set ?_ (IsS74.ge HI254.out)) | exact HB.out))⟩)
                                             skip
                                             rintro ⟨v256, v267⟩ w12 ⟨h0_, h1_, h2_, h3_⟩
                                             have n0_ : Aside0 (Kd.R (Kd.int .i64) 3 w12 w.heap.size (fun _ => True) v256 t255) := ⟨h0_⟩
                                             have n1_ : Aside0 (Kd.R (Kd.int .u8) 5 w12 w.heap.size (fun _ => True) v267 y266) := ⟨h1_⟩
                                             have n2_ : Aside0 (IsS74 w w12 gb254 l0 t258 t259) := ⟨h2_⟩
                                             have n3_ : Aside0 (Below w.heap.size w w12) := ⟨h3_⟩
                                             clear HI254
                                             clear HB
                                             clear h0_ h1_ h2_ h3_
                                             have HO257 := n0_
                                             have HO268 := n1_
                                             have HI254 := n2_
                                             have HB := n3_
                                             clear n0_ n1_ n2_ n3_
                                             have hHeld := trivial
                                             refine norm_ (a' := ?_) ?_ ?_
                                             rotate_left
                                             · simp only [putAll, Act.put, List.setIfInBounds_toArray, List.set_cons_zero, List.set_cons_succ]
                                               rfl
                                             refine three_ (i := 3) (j := 5) (k := 8) (Ni := some 12) (Nj := some 14) (Nk := some 17) #[true, true, true, true, true, false, false, true, false, false, false, false, false, false] #[true, true, true, false, true, true, false, true, false, false, false, false, false, false] #[true, true, true, false, true, false, false, true, true, false, false, false, false, false] rfl rfl rfl rfl rfl rfl (three_of HT_.out (by kernel_rfl)) (by decide) (by decide) (by decide) (fun K hK => ?_) (fun K hK => ?_) (fun K hK => ?_)
                                             · skip
                                               refine goes_ Try.func84 (by kernel_rfl) rfl #[.pointer (some ⟨gb254, 0, none⟩)] (by rfl) rfl rfl (by (try simp only [List.map_toArray, List.map_cons, List.map_nil]); first | done | rfl | (simp only [List.length_drop, List.length_take]; rfl)) ?_
                                               with_reducible refine (spec_l1Cur_block.calls gb254 l0 t258 t259 t260 t261 t262 w _ ?side1 ?side2 A3.out).mono ?_
                                               (case side1 => repeat (first | (with_reducible first | exact HI254.out | apply IsS74.alloc | apply IsS74.drewN | apply IsS74.drew | apply IsS74.set_1 | apply IsS74.set_2) | exact HI254.out))
                                               (case side2 => repeat (first | (with_reducible first | exact HB.out | apply below_alloc | apply pw_below_drewN | apply below_drew1 | refine below_set ?_ (IsS74.ge HI254.out)) | exact HB.out))
                                               rintro e w13 ⟨rfl, hi, hb, hk⟩
                                               refine ⟨_, rfl, ?_⟩
                                               replace HO257 := Aside0.mk (Kd.R_mono (Kd.R_keep (IsS74.apart (show IsS74 w _ gb254 l0 t258 t259 from by repeat (first | (with_reducible first | exact HI254.out | apply IsS74.alloc | apply IsS74.drewN | apply IsS74.drew | apply IsS74.set_1 | apply IsS74.set_2) | exact HI254.out)) (rq HO257) (by decide)) hk (fun _ h => h.2)) (fun _ h => h.1))
                                               replace HO268 := Aside0.mk (Kd.R_mono (Kd.R_keep (IsS74.apart (show IsS74 w _ gb254 l0 t258 t259 from by repeat (first | (with_reducible first | exact HI254.out | apply IsS74.alloc | apply IsS74.drewN | apply IsS74.drew | apply IsS74.set_1 | apply IsS74.set_2) | exact HI254.out)) (rq HO268) (by decide)) hk (fun _ h => h.2)) (fun _ h => h.1))
                                               replace HB := Aside0.mk (hb)
                                               replace HI254 := Aside0.mk (hi)
                                               (try clear hb)
                                               (try clear hb2)
                                               (try clear hk)
                                               (try clear hi)
                                               refine hK.out _ _ trivial (fun hHeld => ?_)
                                               clear hK K
                                               refine norm_ (a' := ?_) ?_ ?_
                                               rotate_left
                                               · show Act.put _ (some 12) _ = _
                                                 simp only [Act.put, List.setIfInBounds_toArray, List.set_cons_zero, List.set_cons_succ, i64_w, i32_w]
                                                 rfl
                                               exact norm_ (by first | (simp only [putAll, Act.put, List.setIfInBounds_toArray, List.set_cons_zero, List.set_cons_succ]; done) | (simp only [putAll, Act.put, List.setIfInBounds_toArray, List.set_cons_zero, List.set_cons_succ]; rfl)) (hJ1_3_7 (v256, v267) _ ⟨(rq HO257), (rq HO268), (by repeat (first | (with_reducible first | exact HI254.out | apply IsS74.alloc | apply IsS74.drewN | apply IsS74.drew | apply IsS74.set_1 | apply IsS74.set_2) | exact HI254.out)), (by repeat (first | (with_reducible first | exact HB.out | apply below_alloc | apply pw_below_drewN | apply below_drew1 | refine below_set ?_ (IsS74.ge HI254.out)) | exact HB.out))⟩)
                                             · skip
                                               refine Kd.R_make_step (Kd.int .u8) _ 5 (by rfl) (N := 14) rfl 45 _ _ rfl 40 rfl rfl Try.underlying45 (.int .u8 0) 1 info5 rfl (by decide) (by omega) 0 (ok := fun _ => True) (okp := fun _ => True) rfl (fun _ hk => hk) trivial (by omega) (by omega) (Below.refl _ _) (Nat.le_refl _) ?_
                                               intro v264 w13 ho14 hb hg_ hnew_
                                               clear hg_ hnew_
                                               (first | rw [← Ny263.out] at ho14 | (simp only [Int.reduceToNat] at ho14; rw [← Ny263.out] at ho14))
                                               replace HO257 := cb HO257 hb
                                               have n1_ := ce HO268 ho14 hb
                                               have HO265 := Aside0.mk (Kd.R_lower (Kd.R_new' ho14 (ql HO268)) (below_size (by repeat (first | (with_reducible first | exact HB.out | apply below_alloc | apply pw_below_drewN | apply below_drew1 | refine below_set ?_ (IsS74.ge HI254.out)) | exact HB.out))))
                                               have n3_ := Aside0.mk (IsS74.below (by repeat (first | (with_reducible first | exact HI254.out | apply IsS74.alloc | apply IsS74.drewN | apply IsS74.drew | apply IsS74.set_1 | apply IsS74.set_2) | exact HI254.out)) hb)
                                               replace HB := Aside0.mk (below_step (by repeat (first | (with_reducible first | exact HB.out | apply below_alloc | apply pw_below_drewN | apply below_drew1 | refine below_set ?_ (IsS74.ge HI254.out)) | exact HB.out)) hb)
                                               replace HO268 := n1_
                                               replace HI254 := n3_
                                               clear n1_ n3_
                                               clear hb ho14
                                               refine hK.out _ _ trivial (fun hHeld => ?_)
                                               clear hK K
                                               refine norm_ (a' := ?_) ?_ ?_
                                               rotate_left
                                               · show Act.put _ (some 14) _ = _
                                                 simp only [Act.put, List.setIfInBounds_toArray, List.set_cons_zero, List.set_cons_succ, i64_w, i32_w]
                                                 rfl
                                               exact norm_ (by first | (simp only [putAll, Act.put, List.setIfInBounds_toArray, List.set_cons_zero, List.set_cons_succ]; done) | (simp only [putAll, Act.put, List.setIfInBounds_toArray, List.set_cons_zero, List.set_cons_succ]; rfl)) (hJ1_5_7 (v256, v264, v267) _ ⟨(rq HO257), (by (with_reducible repeat (first | apply Kd.R_alloc | apply Kd.R_drewN | apply Kd.R_drew)); exact Kd.R_mono HO265.out (fun _ hk => hk.2)), (by (with_reducible repeat (first | apply Kd.R_alloc | apply Kd.R_drewN | apply Kd.R_drew)); exact Kd.R_mono HO268.out (fun _ hk => hk.2)), (by repeat (first | (with_reducible first | exact HI254.out | apply IsS74.alloc | apply IsS74.drewN | apply IsS74.drew | apply IsS74.set_1 | apply IsS74.set_2) | exact HI254.out)), (by repeat (first | (with_reducible first | exact HB.out | apply below_alloc | apply pw_below_drewN | apply below_drew1 | refine below_set ?_ (IsS74.ge HI254.out)) | exact HB.out))⟩)
                                             skip
                                             have hcv13 := own_string (P := Try.prog) Try.underlying45 Try.underlying5 Try.underlying9 (Kd.own_of_R HO268.out)
                                             refine value_ (w1 := ?_) (v := ?_) (by rfl) rfl ?_ ?_
                                             rotate_left 2
                                             · go_simp
                                               constructor
                                               · rfl
                                               rfl
                                             clear hcv13
                                             refine hK.out _ _ trivial (fun hHeld => ?_)
                                             clear hK K
                                             refine norm_ (a' := ?_) ?_ ?_
                                             rotate_left
                                             · show Act.put _ (some 17) _ = _
                                               simp only [Act.put, List.setIfInBounds_toArray, List.set_cons_zero, List.set_cons_succ, i64_w, i32_w]
                                               rfl
                                             exact norm_ (by first | (simp only [putAll, Act.put, List.setIfInBounds_toArray, List.set_cons_zero, List.set_cons_succ]; done) | (simp only [putAll, Act.put, List.setIfInBounds_toArray, List.set_cons_zero, List.set_cons_succ]; rfl)) (hJ1_7_8 (v256, v267) _ ⟨(rq HO257), (rq HO268), (by repeat (first | (with_reducible first | exact HI254.out | apply IsS74.alloc | apply IsS74.drewN | apply IsS74.drew | apply IsS74.set_1 | apply IsS74.set_2) | exact HI254.out)), (by repeat (first | (with_reducible first | exact HB.out | apply below_alloc | apply pw_below_drewN | apply below_drew1 | refine below_set ?_ (IsS74.ge HI254.out)) | exact HB.out))⟩)
                                           skip
                                           rintro ⟨v256, v264⟩ w12 ⟨h0_, h1_, h2_, h3_⟩
                                           have n0_ : Aside0 (Kd.R (Kd.int .i64) 3 w12 w.heap.size (fun _ => True) v256 t255) := ⟨h0_⟩
                                           have n1_ : Aside0 (Kd.R (Kd.int .u8) 5 w12 w.heap.size (fun _ => True) v264 y263) := ⟨h1_⟩
                                           have n2_ : Aside0 (IsS74 w w12 gb254 l0 t258 t259) := ⟨h2_⟩
                                           have n3_ : Aside0 (Below w.heap.size w w12) := ⟨h3_⟩
                                           clear HI254
                                           clear HB
                                           clear h0_ h1_ h2_ h3_
                                           have HO257 := n0_
                                           have HO265 := n1_
                                           have HI254 := n2_
                                           have HB := n3_
                                           clear n0_ n1_ n2_ n3_
                                           have hHeld := trivial
                                           refine norm_ (a' := ?_) ?_ ?_
                                           rotate_left
                                           · simp only [putAll, Act.put, List.setIfInBounds_toArray, List.set_cons_zero, List.set_cons_succ]
                                             rfl
                                           refine three_ (i := 3) (j := 6) (k := 7) (Ni := some 12) (Nj := some 15) (Nk := some 16) #[true, true, true, true, true, true, false, false, false, false, false, false, false, false] #[true, true, true, false, true, true, true, false, false, false, false, false, false, false] #[true, true, true, false, true, true, false, true, false, false, false, false, false, false] rfl rfl rfl rfl rfl rfl (three_of HT_.out (by kernel_rfl)) (by decide) (by decide) (by decide) (fun K hK => ?_) (fun K hK => ?_) (fun K hK => ?_)
                                           · skip
                                             refine goes_ Try.func84 (by kernel_rfl) rfl #[.pointer (some ⟨gb254, 0, none⟩)] (by rfl) rfl rfl (by (try simp only [List.map_toArray, List.map_cons, List.map_nil]); first | done | rfl | (simp only [List.length_drop, List.length_take]; rfl)) ?_
                                             with_reducible refine (spec_l1Cur_block.calls gb254 l0 t258 t259 t260 t261 t262 w _ ?side1 ?side2 A3.out).mono ?_
                                             (case side1 => repeat (first | (with_reducible first | exact HI254.out | apply IsS74.alloc | apply IsS74.drewN | apply IsS74.drew | apply IsS74.set_1 | apply IsS74.set_2) | exact HI254.out))
                                             (case side2 => repeat (first | (with_reducible first | exact HB.out | apply below_alloc | apply pw_below_drewN | apply below_drew1 | refine below_set ?_ (IsS74.ge HI254.out)) | exact HB.out))
                                             rintro e w13 ⟨rfl, hi, hb, hk⟩
                                             refine ⟨_, rfl, ?_⟩
                                             replace HO257 := Aside0.mk (Kd.R_mono (Kd.R_keep (IsS74.apart (show IsS74 w _ gb254 l0 t258 t259 from by repeat (first | (with_reducible first | exact HI254.out | apply IsS74.alloc | apply IsS74.drewN | apply IsS74.drew | apply IsS74.set_1 | apply IsS74.set_2) | exact HI254.out)) (rq HO257) (by decide)) hk (fun _ h => h.2)) (fun _ h => h.1))
                                             replace HO265 := Aside0.mk (Kd.R_mono (Kd.R_keep (IsS74.apart (show IsS74 w _ gb254 l0 t258 t259 from by repeat (first | (with_reducible first | exact HI254.out | apply IsS74.alloc | apply IsS74.drewN | apply IsS74.drew | apply IsS74.set_1 | apply IsS74.set_2) | exact HI254.out)) (rq HO265) (by decide)) hk (fun _ h => h.2)) (fun _ h => h.1))
                                             replace HB := Aside0.mk (hb)
                                             replace HI254 := Aside0.mk (hi)
                                             (try clear hb)
                                             (try clear hb2)
                                             (try clear hk)
                                             (try clear hi)
                                             refine hK.out _ _ trivial (fun hHeld => ?_)
                                             clear hK K
                                             refine norm_ (a' := ?_) ?_ ?_
                                             rotate_left
                                             · show Act.put _ (some 12) _ = _
                                               simp only [Act.put, List.setIfInBounds_toArray, List.set_cons_zero, List.set_cons_succ, i64_w, i32_w]
                                               rfl
                                             exact norm_ (by first | (simp only [putAll, Act.put, List.setIfInBounds_toArray, List.set_cons_zero, List.set_cons_succ]; done) | (simp only [putAll, Act.put, List.setIfInBounds_toArray, List.set_cons_zero, List.set_cons_succ]; rfl)) (hJ1_3_5 (v256, v264) _ ⟨(rq HO257), (rq HO265), (by repeat (first | (with_reducible first | exact HI254.out | apply IsS74.alloc | apply IsS74.drewN | apply IsS74.drew | apply IsS74.set_1 | apply IsS74.set_2) | exact HI254.out)), (by repeat (first | (with_reducible first | exact HB.out | apply below_alloc | apply pw_below_drewN | apply below_drew1 | refine below_set ?_ (IsS74.ge HI254.out)) | exact HB.out))⟩)
                                           · skip
                                             have hcv13 := own_string (P := Try.prog) Try.underlying45 Try.underlying5 Try.underlying9 (Kd.own_of_R HO265.out)
                                             refine value_ (w1 := ?_) (v := ?_) (by rfl) rfl ?_ ?_
                                             rotate_left 2
                                             · go_simp
                                               constructor
                                               · rfl
                                               rfl
                                             clear hcv13
                                             refine hK.out _ _ trivial (fun hHeld => ?_)
                                             clear hK K
                                             refine norm_ (a' := ?_) ?_ ?_
                                             rotate_left
                                             · show Act.put _ (some 15) _ = _
                                               simp only [Act.put, List.setIfInBounds_toArray, List.set_cons_zero, List.set_cons_succ, i64_w, i32_w]
                                               rfl
                                             exact norm_ (by first | (simp only [putAll, Act.put, List.setIfInBounds_toArray, List.set_cons_zero, List.set_cons_succ]; done) | (simp only [putAll, Act.put, List.setIfInBounds_toArray, List.set_cons_zero, List.set_cons_succ]; rfl)) (hJ1_5_6 (v256, v264) _ ⟨(rq HO257), (rq HO265), (by repeat (first | (with_reducible first | exact HI254.out | apply IsS74.alloc | apply IsS74.drewN | apply IsS74.drew | apply IsS74.set_1 | apply IsS74.set_2) | exact HI254.out)), (by repeat (first | (with_reducible first | exact HB.out | apply below_alloc | apply pw_below_drewN | apply below_drew1 | refine below_set ?_ (IsS74.ge HI254.out)) | exact HB.out))⟩)
                                           skip
                                           refine Kd.R_make_step (Kd.int .u8) _ 5 (by rfl) (N := 16) rfl 45 _ _ rfl 42 rfl rfl Try.underlying45 (.int .u8 0) 1 info5 rfl (by decide) (by omega) 0 (ok := fun _ => True) (okp := fun _ => True) rfl (fun _ hk => hk) trivial (by omega) (by omega) (Below.refl _ _) (Nat.le_refl _) ?_
                                           intro v267 w13 ho14 hb hg_ hnew_
                                           clear hg_ hnew_
                                           (first | rw [← Ny266.out] at ho14 | (simp only [Int.reduceToNat] at ho14; rw [← Ny266.out] at ho14))
                                           replace HO257 := cb HO257 hb
                                           have n1_ := ce HO265 ho14 hb
                                           have HO268 := Aside0.mk (Kd.R_lower (Kd.R_new' ho14 (ql HO265)) (below_size (by repeat (first | (with_reducible first | exact HB.out | apply below_alloc | apply pw_below_drewN | apply below_drew1 | refine below_set ?_ (IsS74.ge HI254.out)) | exact HB.out))))
                                           have n3_ := Aside0.mk (IsS74.below (by repeat (first | (with_reducible first | exact HI254.out | apply IsS74.alloc | apply IsS74.drewN | apply IsS74.drew | apply IsS74.set_1 | apply IsS74.set_2) | exact HI254.out)) hb)
                                           replace HB := Aside0.mk (below_step (by repeat (first | (with_reducible first | exact HB.out | apply below_alloc | apply pw_below_drewN | apply below_drew1 | refine below_set ?_ (IsS74.ge HI254.out)) | exact HB.out)) hb)
                                           replace HO265 := n1_
                                           replace HI254 := n3_
                                           clear n1_ n3_
                                           clear hb ho14
                                           refine hK.out _ _ trivial (fun hHeld => ?_)
                                           clear hK K
                                           refine norm_ (a' := ?_) ?_ ?_
                                           rotate_left
                                           · show Act.put _ (some 16) _ = _
                                             simp only [Act.put, List.setIfInBounds_toArray, List.set_cons_zero, List.set_cons_succ, i64_w, i32_w]
                                             rfl
                                           exact norm_ (by first | (simp only [putAll, Act.put, List.setIfInBounds_toArray, List.set_cons_zero, List.set_cons_succ]; done) | (simp only [putAll, Act.put, List.setIfInBounds_toArray, List.set_cons_zero, List.set_cons_succ]; rfl)) (hJ1_5_7 (v256, v264, v267) _ ⟨(rq HO257), (by (with_reducible repeat (first | apply Kd.R_alloc | apply Kd.R_drewN | apply Kd.R_drew)); exact Kd.R_mono HO265.out (fun _ hk => hk.2)), (by (with_reducible repeat (first | apply Kd.R_alloc | apply Kd.R_drewN | apply Kd.R_drew)); exact Kd.R_mono HO268.out (fun _ hk => hk.2)), (by repeat (first | (with_reducible first | exact HI254.out | apply IsS74.alloc | apply IsS74.drewN | apply IsS74.drew | apply IsS74.set_1 | apply IsS74.set_2) | exact HI254.out)), (by repeat (first | (with_reducible first | exact HB.out | apply below_alloc | apply pw_below_drewN | apply below_drew1 | refine below_set ?_ (IsS74.ge HI254.out)) | exact HB.out))⟩)
                                         skip
                                         rintro v256 w11 ⟨h0_, h1_, h2_⟩
                                         have n0_ : Aside0 (Kd.R (Kd.int .i64) 3 w11 w.heap.size (fun _ => True) v256 t255) := ⟨h0_⟩
                                         have n1_ : Aside0 (IsS74 w w11 gb254 l0 t261 t262) := ⟨h1_⟩
                                         have n2_ : Aside0 (Below w.heap.size w w11) := ⟨h2_⟩
                                         clear HI254
                                         clear HB
                                         clear h0_ h1_ h2_
                                         have HO257 := n0_
                                         have HI254 := n1_
                                         have HB := n2_
                                         clear n0_ n1_ n2_
                                         have hHeld := trivial
                                         refine norm_ (a' := ?_) ?_ ?_
                                         rotate_left
                                         · simp only [putAll, Act.put, List.setIfInBounds_toArray, List.set_cons_zero, List.set_cons_succ]
                                           rfl
                                         refine two_ (i := 5) (j := 7) (Ni := some 14) (Nj := some 16) #[true, true, true, true, true, true, false, false, false, false, false, false, false, false] #[true, true, true, true, true, false, false, true, false, false, false, false, false, false] rfl rfl rfl rfl (two_of HT_.out (by kernel_rfl)) (by decide) (by decide) (fun K hK => ?_) (fun K hK => ?_)
                                         · skip
                                           refine Kd.R_make_step (Kd.int .u8) _ 5 (by rfl) (N := 14) rfl 45 _ _ rfl 40 rfl rfl Try.underlying45 (.int .u8 0) 1 info5 rfl (by decide) (by omega) 0 (ok := fun _ => True) (okp := fun _ => True) rfl (fun _ hk => hk) trivial (by omega) (by omega) (Below.refl _ _) (Nat.le_refl _) ?_
                                           intro v264 w12 ho13 hb hg_ hnew_
                                           clear hg_ hnew_
                                           (first | rw [← Ny263.out] at ho13 | (simp only [Int.reduceToNat] at ho13; rw [← Ny263.out] at ho13))
                                           replace HO257 := cb HO257 hb
                                           have HO265 := Aside0.mk (Kd.R_lower ho13 (below_size (by repeat (first | (with_reducible first | exact HB.out | apply below_alloc | apply pw_below_drewN | apply below_drew1 | refine below_set ?_ (IsS74.ge HI254.out)) | exact HB.out))))
                                           have n2_ := Aside0.mk (IsS74.below (by repeat (first | (with_reducible first | exact HI254.out | apply IsS74.alloc | apply IsS74.drewN | apply IsS74.drew | apply IsS74.set_1 | apply IsS74.set_2) | exact HI254.out)) hb)
                                           replace HB := Aside0.mk (below_step (by repeat (first | (with_reducible first | exact HB.out | apply below_alloc | apply pw_below_drewN | apply below_drew1 | refine below_set ?_ (IsS74.ge HI254.out)) | exact HB.out)) hb)
                                           replace HI254 := n2_
                                           clear n2_
                                           clear hb ho13
                                           refine hK.out _ _ trivial (fun hHeld => ?_)
                                           clear hK K
                                           refine norm_ (a' := ?_) ?_ ?_
                                           rotate_left
                                           · show Act.put _ (some 14) _ = _
                                             simp only [Act.put, List.setIfInBounds_toArray, List.set_cons_zero, List.set_cons_succ, i64_w, i32_w]
                                             rfl
                                           exact norm_ (by first | (simp only [putAll, Act.put, List.setIfInBounds_toArray, List.set_cons_zero, List.set_cons_succ]; done) | (simp only [putAll, Act.put, List.setIfInBounds_toArray, List.set_cons_zero, List.set_cons_succ]; rfl)) (hJ1_3_5 (v256, v264) _ ⟨(rq HO257), (rq HO265), (by repeat (first | (with_reducible first | exact HI254.out | apply IsS74.alloc | apply IsS74.drewN | apply IsS74.drew | apply IsS74.set_1 | apply IsS74.set_2) | exact HI254.out)), (by repeat (first | (with_reducible first | exact HB.out | apply below_alloc | apply pw_below_drewN | apply below_drew1 | refine below_set ?_ (IsS74.ge HI254.out)) | exact HB.out))⟩)
                                         skip
                                         refine Kd.R_make_step (Kd.int .u8) _ 5 (by rfl) (N := 16) rfl 45 _ _ rfl 42 rfl rfl Try.underlying45 (.int .u8 0) 1 info5 rfl (by decide) (by omega) 0 (ok := fun _ => True) (okp := fun _ => True) rfl (fun _ hk => hk) trivial (by omega) (by omega) (Below.refl _ _) (Nat.le_refl _) ?_
                                         intro v267 w12 ho13 hb hg_ hnew_
                                         clear hg_ hnew_
                                         (first | rw [← Ny266.out] at ho13 | (simp only [Int.reduceToNat] at ho13; rw [← Ny266.out] at ho13))
                                         replace HO257 := cb HO257 hb
                                         have HO268 := Aside0.mk (Kd.R_lower ho13 (below_size (by repeat (first | (with_reducible first | exact HB.out | apply below_alloc | apply pw_below_drewN | apply below_drew1 | refine below_set ?_ (IsS74.ge HI254.out)) | exact HB.out))))
                                         have n2_ := Aside0.mk (IsS74.below (by repeat (first | (with_reducible first | exact HI254.out | apply IsS74.alloc | apply IsS74.drewN | apply IsS74.drew | apply IsS74.set_1 | apply IsS74.set_2) | exact HI254.out)) hb)
                                         replace HB := Aside0.mk (below_step (by repeat (first | (with_reducible first | exact HB.out | apply below_alloc | apply pw_below_drewN | apply below_drew1 | refine below_set ?_ (IsS74.ge HI254.out)) | exact HB.out)) hb)
                                         replace HI254 := n2_
                                         clear n2_
                                         clear hb ho13
                                         refine hK.out _ _ trivial (fun hHeld => ?_)
                                         clear hK K
                                         refine norm_ (a' := ?_) ?_ ?_
                                         rotate_left
                                         · show Act.put _ (some 16) _ = _
                                           simp only [Act.put, List.setIfInBounds_toArray, List.set_cons_zero, List.set_cons_succ, i64_w, i32_w]
                                           rfl
                                         exact norm_ (by first | (simp only [putAll, Act.put, List.setIfInBounds_toArray, List.set_cons_zero, List.set_cons_succ]; done) | (simp only [putAll, Act.put, List.setIfInBounds_toArray, List.set_cons_zero, List.set_cons_succ]; rfl)) (hJ1_3_7 (v256, v267) _ ⟨(rq HO257), (rq HO268), (by repeat (first | (with_reducible first | exact HI254.out | apply IsS74.alloc | apply IsS74.drewN | apply IsS74.drew | apply IsS74.set_1 | apply IsS74.set_2) | exact HI254.out)), (by repeat (first | (with_reducible first | exact HB.out | apply below_alloc | apply pw_below_drewN | apply below_drew1 | refine below_set ?_ (IsS74.ge HI254.out)) | exact HB.out))⟩)
                                       skip
                                       rintro ⟨v264, v267⟩ w14 ⟨h0_, h1_, h2_, h3_⟩
                                       have n0_ : Aside0 (Kd.R (Kd.int .u8) 5 w14 w.heap.size (fun k_ => some k_ ≠ (v267 : Value).ownBlock) v264 y263) := ⟨h0_⟩
                                       have n1_ : Aside0 (Kd.R (Kd.int .u8) 5 w14 w.heap.size (fun k_ => some k_ ≠ (v264 : Value).ownBlock) v267 y266) := ⟨h1_⟩
                                       have n2_ : Aside0 (IsS74 w w14 gb254 l0 0 0) := ⟨h2_⟩
                                       have n3_ : Aside0 (Below w.heap.size w w14) := ⟨h3_⟩
                                       clear HI254
                                       clear HB
                                       clear h0_ h1_ h2_ h3_
                                       have HO265 := n0_
                                       have HO268 := n1_
                                       have HI254 := n2_
                                       have HB := n3_
                                       clear n0_ n1_ n2_ n3_
                                       have hHeld := trivial
                                       refine norm_ (a' := ?_) ?_ ?_
                                       rotate_left
                                       · simp only [putAll, Act.put, List.setIfInBounds_toArray, List.set_cons_zero, List.set_cons_succ]
                                         rfl
                                       refine two_ (i := 1) (j := 6) (Ni := some 10) (Nj := some 15) #[true, true, true, false, true, true, false, true, true, false, false, false, false, false] #[true, false, true, false, true, true, true, true, true, false, false, false, false, false] rfl rfl rfl rfl (two_of HT_.out (by kernel_rfl)) (by decide) (by decide) (fun K hK => ?_) (fun K hK => ?_)
                                       · skip
                                         refine goes_ Try.func83 (by kernel_rfl) rfl #[.pointer (some ⟨gb254, 0, none⟩)] (by rfl) rfl rfl (by (try simp only [List.map_toArray, List.map_cons, List.map_nil]); first | done | rfl | (simp only [List.length_drop, List.length_take]; rfl)) ?_
                                         with_reducible refine (spec_l1Cur_keys.calls k gb254 l0 0 0 t255 t258 t259 w _ ?side1 ?side2 A2.out).mono ?_
                                         (case side1 => repeat (first | (with_reducible first | exact HI254.out | apply IsS74.alloc | apply IsS74.drewN | apply IsS74.drew | apply IsS74.set_1 | apply IsS74.set_2) | exact HI254.out))
                                         (case side2 => repeat (first | (with_reducible first | exact HB.out | apply below_alloc | apply pw_below_drewN | apply below_drew1 | refine below_set ?_ (IsS74.ge HI254.out)) | exact HB.out))
                                         rintro e w15 ⟨v256, rfl, ho0, hi, hb, hk⟩
                                         refine ⟨_, rfl, ?_⟩
                                         replace HO265 := Aside0.mk (Kd.R_mono (Kd.R_keep (IsS74.apart (show IsS74 w _ gb254 l0 0 0 from by repeat (first | (with_reducible first | exact HI254.out | apply IsS74.alloc | apply IsS74.drewN | apply IsS74.drew | apply IsS74.set_1 | apply IsS74.set_2) | exact HI254.out)) (rq HO265) (by decide)) hk (fun _ h => h.2)) (fun _ h => h.1))
                                         replace HO268 := Aside0.mk (Kd.R_mono (Kd.R_keep (IsS74.apart (show IsS74 w _ gb254 l0 0 0 from by repeat (first | (with_reducible first | exact HI254.out | apply IsS74.alloc | apply IsS74.drewN | apply IsS74.drew | apply IsS74.set_1 | apply IsS74.set_2) | exact HI254.out)) (rq HO268) (by decide)) hk (fun _ h => h.2)) (fun _ h => h.1))
                                         have HO257 := Aside0.mk (Kd.R_lower ho0 (below_size (by repeat (first | (with_reducible first | exact HB.out | apply below_alloc | apply pw_below_drewN | apply below_drew1 | refine below_set ?_ (IsS74.ge HI254.out)) | exact HB.out))))
                                         replace HB := Aside0.mk (hb)
                                         replace HI254 := Aside0.mk (hi)
                                         (try clear hb)
                                         (try clear hb2)
                                         (try clear hk)
                                         (try clear hi)
                                         (try clear ho0)
                                         refine hK.out _ _ trivial (fun hHeld => ?_)
                                         clear hK K
                                         refine norm_ (a' := ?_) ?_ ?_
                                         rotate_left
                                         · show Act.put _ (some 10) _ = _
                                           simp only [Act.put, List.setIfInBounds_toArray, List.set_cons_zero, List.set_cons_succ, i64_w, i32_w]
                                           rfl
                                         exact norm_ (by first | (simp only [putAll, Act.put, List.setIfInBounds_toArray, List.set_cons_zero, List.set_cons_succ]; done) | (simp only [putAll, Act.put, List.setIfInBounds_toArray, List.set_cons_zero, List.set_cons_succ]; rfl)) (hJ1_5_7_8 (v256, v264, v267) _ ⟨(rq HO257), (rq HO265), (rq HO268), (by repeat (first | (with_reducible first | exact HI254.out | apply IsS74.alloc | apply IsS74.drewN | apply IsS74.drew | apply IsS74.set_1 | apply IsS74.set_2) | exact HI254.out)), (by repeat (first | (with_reducible first | exact HB.out | apply below_alloc | apply pw_below_drewN | apply below_drew1 | refine below_set ?_ (IsS74.ge HI254.out)) | exact HB.out))⟩)
                                       skip
                                       have hcv15 := own_string (P := Try.prog) Try.underlying45 Try.underlying5 Try.underlying9 (Kd.own_of_R HO265.out)
                                       refine value_ (w1 := ?_) (v := ?_) (by rfl) rfl ?_ ?_
                                       rotate_left 2
                                       · go_simp
                                         constructor
                                         · rfl
                                         rfl
                                       clear hcv15
                                       refine hK.out _ _ trivial (fun hHeld => ?_)
                                       clear hK K
                                       refine norm_ (a' := ?_) ?_ ?_
                                       rotate_left
                                       · show Act.put _ (some 15) _ = _
                                         simp only [Act.put, List.setIfInBounds_toArray, List.set_cons_zero, List.set_cons_succ, i64_w, i32_w]
                                         rfl
                                       exact norm_ (by first | (simp only [putAll, Act.put, List.setIfInBounds_toArray, List.set_cons_zero, List.set_cons_succ]; done) | (simp only [putAll, Act.put, List.setIfInBounds_toArray, List.set_cons_zero, List.set_cons_succ]; rfl)) (hJ5_6_7_8 (v264, v267) _ ⟨(rq HO265), (rq HO268), (by repeat (first | (with_reducible first | exact HI254.out | apply IsS74.alloc | apply IsS74.drewN | apply IsS74.drew | apply IsS74.set_1 | apply IsS74.set_2) | exact HI254.out)), (by repeat (first | (with_reducible first | exact HB.out | apply below_alloc | apply pw_below_drewN | apply below_drew1 | refine below_set ?_ (IsS74.ge HI254.out)) | exact HB.out))⟩)
                                     skip
                                     rintro ⟨v264, v267⟩ w14 ⟨h0_, h1_, h2_, h3_⟩
                                     have n0_ : Aside0 (Kd.R (Kd.int .u8) 5 w14 w.heap.size (fun k_ => some k_ ≠ (v267 : Value).ownBlock) v264 y263) := ⟨h0_⟩
                                     have n1_ : Aside0 (Kd.R (Kd.int .u8) 5 w14 w.heap.size (fun k_ => some k_ ≠ (v264 : Value).ownBlock) v267 y266) := ⟨h1_⟩
                                     have n2_ : Aside0 (IsS74 w w14 gb254 l0 0 0) := ⟨h2_⟩
                                     have n3_ : Aside0 (Below w.heap.size w w14) := ⟨h3_⟩
                                     clear HI254
                                     clear HB
                                     clear h0_ h1_ h2_ h3_
                                     have HO265 := n0_
                                     have HO268 := n1_
                                     have HI254 := n2_
                                     have HB := n3_
                                     clear n0_ n1_ n2_ n3_
                                     have hHeld := trivial
                                     refine norm_ (a' := ?_) ?_ ?_
                                     rotate_left
                                     · simp only [putAll, Act.put, List.setIfInBounds_toArray, List.set_cons_zero, List.set_cons_succ]
                                       rfl
                                     refine two_ (i := 1) (j := 8) (Ni := some 10) (Nj := some 17) #[true, true, true, false, true, true, true, true, false, false, false, false, false, false] #[true, false, true, false, true, true, true, true, true, false, false, false, false, false] rfl rfl rfl rfl (two_of HT_.out (by kernel_rfl)) (by decide) (by decide) (fun K hK => ?_) (fun K hK => ?_)
                                     · skip
                                       refine goes_ Try.func83 (by kernel_rfl) rfl #[.pointer (some ⟨gb254, 0, none⟩)] (by rfl) rfl rfl (by (try simp only [List.map_toArray, List.map_cons, List.map_nil]); first | done | rfl | (simp only [List.length_drop, List.length_take]; rfl)) ?_
                                       with_reducible refine (spec_l1Cur_keys.calls k gb254 l0 0 0 t255 t258 t259 w _ ?side1 ?side2 A2.out).mono ?_
                                       (case side1 => repeat (first | (with_reducible first | exact HI254.out | apply IsS74.alloc | apply IsS74.drewN | apply IsS74.drew | apply IsS74.set_1 | apply IsS74.set_2) | exact HI254.out))
                                       (case side2 => repeat (first | (with_reducible first | exact HB.out | apply below_alloc | apply pw_below_drewN | apply below_drew1 | refine below_set ?_ (IsS74.ge HI254.out)) | exact HB.out))
                                       rintro e w15 ⟨v256, rfl, ho0, hi, hb, hk⟩
                                       refine ⟨_, rfl, ?_⟩
                                       replace HO265 := Aside0.mk (Kd.R_mono (Kd.R_keep (IsS74.apart (show IsS74 w _ gb254 l0 0 0 from by repeat (first | (with_reducible first | exact HI254.out | apply IsS74.alloc | apply IsS74.drewN | apply IsS74.drew | apply IsS74.set_1 | apply IsS74.set_2) | exact HI254.out)) (rq HO265) (by decide)) hk (fun _ h => h.2)) (fun _ h => h.1))
                                       replace HO268 := Aside0.mk (Kd.R_mono (Kd.R_keep (IsS74.apart (show IsS74 w _ gb254 l0 0 0 from by repeat (first | (with_reducible first | exact HI254.out | apply IsS74.alloc | apply IsS74.drewN | apply IsS74.drew | apply IsS74.set_1 | apply IsS74.set_2) | exact HI254.out)) (rq HO268) (by decide)) hk (fun _ h => h.2)) (fun _ h => h.1))
                                       have HO257 := Aside0.mk (Kd.R_lower ho0 (below_size (by repeat (first | (with_reducible first | exact HB.out | apply below_alloc | apply pw_below_drewN | apply below_drew1 | refine below_set ?_ (IsS74.ge HI254.out)) | exact HB.out))))
                                       replace HB := Aside0.mk (hb)
                                       replace HI254 := Aside0.mk (hi)
                                       (try clear hb)
                                       (try clear hb2)
                                       (try clear hk)
                                       (try clear hi)
                                       (try clear ho0)
                                       refine hK.out _ _ trivial (fun hHeld => ?_)
                                       clear hK K
                                       refine norm_ (a' := ?_) ?_ ?_
                                       rotate_left
                                       · show Act.put _ (some 10) _ = _
                                         simp only [Act.put, List.setIfInBounds_toArray, List.set_cons_zero, List.set_cons_succ, i64_w, i32_w]
                                         rfl
                                       exact norm_ (by first | (simp only [putAll, Act.put, List.setIfInBounds_toArray, List.set_cons_zero, List.set_cons_succ]; done) | (simp only [putAll, Act.put, List.setIfInBounds_toArray, List.set_cons_zero, List.set_cons_succ]; rfl)) (hJ1_5_6_7 (v256, v264, v267) _ ⟨(rq HO257), (rq HO265), (rq HO268), (by repeat (first | (with_reducible first | exact HI254.out | apply IsS74.alloc | apply IsS74.drewN | apply IsS74.drew | apply IsS74.set_1 | apply IsS74.set_2) | exact HI254.out)), (by repeat (first | (with_reducible first | exact HB.out | apply below_alloc | apply pw_below_drewN | apply below_drew1 | refine below_set ?_ (IsS74.ge HI254.out)) | exact HB.out))⟩)
                                     skip
                                     have hcv15 := own_string (P := Try.prog) Try.underlying45 Try.underlying5 Try.underlying9 (Kd.own_of_R HO268.out)
                                     refine value_ (w1 := ?_) (v := ?_) (by rfl) rfl ?_ ?_
                                     rotate_left 2
                                     · go_simp
                                       constructor
                                       · rfl
                                       rfl
                                     clear hcv15
                                     refine hK.out _ _ trivial (fun hHeld => ?_)
                                     clear hK K
                                     refine norm_ (a' := ?_) ?_ ?_
                                     rotate_left
                                     · show Act.put _ (some 17) _ = _
                                       simp only [Act.put, List.setIfInBounds_toArray, List.set_cons_zero, List.set_cons_succ, i64_w, i32_w]
                                       rfl
                                     exact norm_ (by first | (simp only [putAll, Act.put, List.setIfInBounds_toArray, List.set_cons_zero, List.set_cons_succ]; done) | (simp only [putAll, Act.put, List.setIfInBounds_toArray, List.set_cons_zero, List.set_cons_succ]; rfl)) (hJ5_6_7_8 (v264, v267) _ ⟨(rq HO265), (rq HO268), (by repeat (first | (with_reducible first | exact HI254.out | apply IsS74.alloc | apply IsS74.drewN | apply IsS74.drew | apply IsS74.set_1 | apply IsS74.set_2) | exact HI254.out)), (by repeat (first | (with_reducible first | exact HB.out | apply below_alloc | apply pw_below_drewN | apply below_drew1 | refine below_set ?_ (IsS74.ge HI254.out)) | exact HB.out))⟩)
                                   skip
                                   rintro ⟨v256, v267⟩ w13 ⟨h0_, h1_, h2_, h3_⟩
                                   have n0_ : Aside0 (Kd.R (Kd.int .i64) 3 w13 w.heap.size (fun _ => True) v256 t255) := ⟨h0_⟩
                                   have n1_ : Aside0 (Kd.R (Kd.int .u8) 5 w13 w.heap.size (fun _ => True) v267 y266) := ⟨h1_⟩
                                   have n2_ : Aside0 (IsS74 w w13 gb254 l0 t258 t259) := ⟨h2_⟩
                                   have n3_ : Aside0 (Below w.heap.size w w13) := ⟨h3_⟩
                                   clear HI254
                                   clear HB
                                   clear h0_ h1_ h2_ h3_
                                   have HO257 := n0_
                                   have HO268 := n1_
                                   have HI254 := n2_
                                   have HB := n3_
                                   clear n0_ n1_ n2_ n3_
                                   have hHeld := trivial
                                   refine norm_ (a' := ?_) ?_ ?_
                                   rotate_left
                                   · simp only [putAll, Act.put, List.setIfInBounds_toArray, List.set_cons_zero, List.set_cons_succ]
                                     rfl
                                   refine two_ (i := 3) (j := 5) (Ni := some 12) (Nj := some 14) #[true, true, true, true, true, false, false, true, true, false, false, false, false, false] #[true, true, true, false, true, true, false, true, true, false, false, false, false, false] rfl rfl rfl rfl (two_of HT_.out (by kernel_rfl)) (by decide) (by decide) (fun K hK => ?_) (fun K hK => ?_)
                                   · skip
                                     refine goes_ Try.func84 (by kernel_rfl) rfl #[.pointer (some ⟨gb254, 0, none⟩)] (by rfl) rfl rfl (by (try simp only [List.map_toArray, List.map_cons, List.map_nil]); first | done | rfl | (simp only [List.length_drop, List.length_take]; rfl)) ?_
                                     with_reducible refine (spec_l1Cur_block.calls gb254 l0 t258 t259 t260 t261 t262 w _ ?side1 ?side2 A3.out).mono ?_
                                     (case side1 => repeat (first | (with_reducible first | exact HI254.out | apply IsS74.alloc | apply IsS74.drewN | apply IsS74.drew | apply IsS74.set_1 | apply IsS74.set_2) | exact HI254.out))
                                     (case side2 => repeat (first | (with_reducible first | exact HB.out | apply below_alloc | apply pw_below_drewN | apply below_drew1 | refine below_set ?_ (IsS74.ge HI254.out)) | exact HB.out))
                                     rintro e w14 ⟨rfl, hi, hb, hk⟩
                                     refine ⟨_, rfl, ?_⟩
                                     replace HO257 := Aside0.mk (Kd.R_mono (Kd.R_keep (IsS74.apart (show IsS74 w _ gb254 l0 t258 t259 from by repeat (first | (with_reducible first | exact HI254.out | apply IsS74.alloc | apply IsS74.drewN | apply IsS74.drew | apply IsS74.set_1 | apply IsS74.set_2) | exact HI254.out)) (rq HO257) (by decide)) hk (fun _ h => h.2)) (fun _ h => h.1))
                                     replace HO268 := Aside0.mk (Kd.R_mono (Kd.R_keep (IsS74.apart (show IsS74 w _ gb254 l0 t258 t259 from by repeat (first | (with_reducible first | exact HI254.out | apply IsS74.alloc | apply IsS74.drewN | apply IsS74.drew | apply IsS74.set_1 | apply IsS74.set_2) | exact HI254.out)) (rq HO268) (by decide)) hk (fun _ h => h.2)) (fun _ h => h.1))
                                     replace HB := Aside0.mk (hb)
                                     replace HI254 := Aside0.mk (hi)
                                     (try clear hb)
                                     (try clear hb2)
                                     (try clear hk)
                                     (try clear hi)
                                     refine hK.out _ _ trivial (fun hHeld => ?_)
                                     clear hK K
                                     refine norm_ (a' := ?_) ?_ ?_
                                     rotate_left
                                     · show Act.put _ (some 12) _ = _
                                       simp only [Act.put, List.setIfInBounds_toArray, List.set_cons_zero, List.set_cons_succ, i64_w, i32_w]
                                       rfl
                                     exact norm_ (by first | (simp only [putAll, Act.put, List.setIfInBounds_toArray, List.set_cons_zero, List.set_cons_succ]; done) | (simp only [putAll, Act.put, List.setIfInBounds_toArray, List.set_cons_zero, List.set_cons_succ]; rfl)) (hJ1_3_7_8 (v256, v267) _ ⟨(rq HO257), (rq HO268), (by repeat (first | (with_reducible first | exact HI254.out | apply IsS74.alloc | apply IsS74.drewN | apply IsS74.drew | apply IsS74.set_1 | apply IsS74.set_2) | exact HI254.out)), (by repeat (first | (with_reducible first | exact HB.out | apply below_alloc | apply pw_below_drewN | apply below_drew1 | refine below_set ?_ (IsS74.ge HI254.out)) | exact HB.out))⟩)
                                   skip
                                   refine Kd.R_make_step (Kd.int .u8) _ 5 (by rfl) (N := 14) rfl 45 _ _ rfl 40 rfl rfl Try.underlying45 (.int .u8 0) 1 info5 rfl (by decide) (by omega) 0 (ok := fun _ => True) (okp := fun _ => True) rfl (fun _ hk => hk) trivial (by omega) (by omega) (Below.refl _ _) (Nat.le_refl _) ?_
                                   intro v264 w14 ho15 hb hg_ hnew_
                                   clear hg_ hnew_
                                   (first | rw [← Ny263.out] at ho15 | (simp only [Int.reduceToNat] at ho15; rw [← Ny263.out] at ho15))
                                   replace HO257 := cb HO257 hb
                                   have n1_ := ce HO268 ho15 hb
                                   have HO265 := Aside0.mk (Kd.R_lower (Kd.R_new' ho15 (ql HO268)) (below_size (by repeat (first | (with_reducible first | exact HB.out | apply below_alloc | apply pw_below_drewN | apply below_drew1 | refine below_set ?_ (IsS74.ge HI254.out)) | exact HB.out))))
                                   have n3_ := Aside0.mk (IsS74.below (by repeat (first | (with_reducible first | exact HI254.out | apply IsS74.alloc | apply IsS74.drewN | apply IsS74.drew | apply IsS74.set_1 | apply IsS74.set_2) | exact HI254.out)) hb)
                                   replace HB := Aside0.mk (below_step (by repeat (first | (with_reducible first | exact HB.out | apply below_alloc | apply pw_below_drewN | apply below_drew1 | refine below_set ?_ (IsS74.ge HI254.out)) | exact HB.out)) hb)
                                   replace HO268 := n1_
                                   replace HI254 := n3_
                                   clear n1_ n3_
                                   clear hb ho15
                                   refine hK.out _ _ trivial (fun hHeld => ?_)
                                   clear hK K
                                   refine norm_ (a' := ?_) ?_ ?_
                                   rotate_left
                                   · show Act.put _ (some 14) _ = _
                                     simp only [Act.put, List.setIfInBounds_toArray, List.set_cons_zero, List.set_cons_succ, i64_w, i32_w]
                                     rfl
                                   exact norm_ (by first | (simp only [putAll, Act.put, List.setIfInBounds_toArray, List.set_cons_zero, List.set_cons_succ]; done) | (simp only [putAll, Act.put, List.setIfInBounds_toArray, List.set_cons_zero, List.set_cons_succ]; rfl)) (hJ1_5_7_8 (v256, v264, v267) _ ⟨(rq HO257), (by (with_reducible repeat (first | apply Kd.R_alloc | apply Kd.R_drewN | apply Kd.R_drew)); exact Kd.R_mono HO265.out (fun _ hk => hk.2)), (by (with_reducible repeat (first | apply Kd.R_alloc | apply Kd.R_drewN | apply Kd.R_drew)); exact Kd.R_mono HO268.out (fun _ hk => hk.2)), (by repeat (first | (with_reducible first | exact HI254.out | apply IsS74.alloc | apply IsS74.drewN | apply IsS74.drew | apply IsS74.set_1 | apply IsS74.set_2) | exact HI254.out)), (by repeat (first | (with_reducible first | exact HB.out | apply below_alloc | apply pw_below_drewN | apply below_drew1 | refine below_set ?_ (IsS74.ge HI254.out)) | exact HB.out))⟩)
                                 skip
                                 rintro ⟨v256, v264, v267⟩ w14 ⟨h0_, h1_, h2_, h3_, h4_⟩
                                 have n0_ : Aside0 (Kd.R (Kd.int .i64) 3 w14 w.heap.size (fun _ => True) v256 t255) := ⟨h0_⟩
                                 have n1_ : Aside0 (Kd.R (Kd.int .u8) 5 w14 w.heap.size (fun k_ => some k_ ≠ (v267 : Value).ownBlock) v264 y263) := ⟨h1_⟩
                                 have n2_ : Aside0 (Kd.R (Kd.int .u8) 5 w14 w.heap.size (fun k_ => some k_ ≠ (v264 : Value).ownBlock) v267 y266) := ⟨h2_⟩
                                 have n3_ : Aside0 (IsS74 w w14 gb254 l0 t258 t259) := ⟨h3_⟩
                                 have n4_ : Aside0 (Below w.heap.size w w14) := ⟨h4_⟩
                                 clear HI254
                                 clear HB
                                 clear h0_ h1_ h2_ h3_ h4_
                                 have HO257 := n0_
                                 have HO265 := n1_
                                 have HO268 := n2_
                                 have HI254 := n3_
                                 have HB := n4_
                                 clear n0_ n1_ n2_ n3_ n4_
                                 have hHeld := trivial
                                 refine norm_ (a' := ?_) ?_ ?_
                                 rotate_left
                                 · simp only [putAll, Act.put, List.setIfInBounds_toArray, List.set_cons_zero, List.set_cons_succ]
                                   rfl
                                 refine three_ (i := 3) (j := 6) (k := 8) (Ni := some 12) (Nj := some 15) (Nk := some 17) #[true, true, true, true, true, true, false, true, false, false, false, false, false, false] #[true, true, true, false, true, true, true, true, false, false, false, false, false, false] #[true, true, true, false, true, true, false, true, true, false, false, false, false, false] rfl rfl rfl rfl rfl rfl (three_of HT_.out (by kernel_rfl)) (by decide) (by decide) (by decide) (fun K hK => ?_) (fun K hK => ?_) (fun K hK => ?_)
                                 · skip
                                   refine goes_ Try.func84 (by kernel_rfl) rfl #[.pointer (some ⟨gb254, 0, none⟩)] (by rfl) rfl rfl (by (try simp only [List.map_toArray, List.map_cons, List.map_nil]); first | done | rfl | (simp only [List.length_drop, List.length_take]; rfl)) ?_
                                   with_reducible refine (spec_l1Cur_block.calls gb254 l0 t258 t259 t260 t261 t262 w _ ?side1 ?side2 A3.out).mono ?_
                                   (case side1 => repeat (first | (with_reducible first | exact HI254.out | apply IsS74.alloc | apply IsS74.drewN | apply IsS74.drew | apply IsS74.set_1 | apply IsS74.set_2) | exact HI254.out))
                                   (case side2 => repeat (first | (with_reducible first | exact HB.out | apply below_alloc | apply pw_below_drewN | apply below_drew1 | refine below_set ?_ (IsS74.ge HI254.out)) | exact HB.out))
                                   rintro e w15 ⟨rfl, hi, hb, hk⟩
                                   refine ⟨_, rfl, ?_⟩
                                   replace HO257 := Aside0.mk (Kd.R_mono (Kd.R_keep (IsS74.apart (show IsS74 w _ gb254 l0 t258 t259 from by repeat (first | (with_reducible first | exact HI254.out | apply IsS74.alloc | apply IsS74.drewN | apply IsS74.drew | apply IsS74.set_1 | apply IsS74.set_2) | exact HI254.out)) (rq HO257) (by decide)) hk (fun _ h => h.2)) (fun _ h => h.1))
                                   replace HO265 := Aside0.mk (Kd.R_mono (Kd.R_keep (IsS74.apart (show IsS74 w _ gb254 l0 t258 t259 from by repeat (first | (with_reducible first | exact HI254.out | apply IsS74.alloc | apply IsS74.drewN | apply IsS74.drew | apply IsS74.set_1 | apply IsS74.set_2) | exact HI254.out)) (rq HO265) (by decide)) hk (fun _ h => h.2)) (fun _ h => h.1))
                                   replace HO268 := Aside0.mk (Kd.R_mono (Kd.R_keep (IsS74.apart (show IsS74 w _ gb254 l0 t258 t259 from by repeat (first | (with_reducible first | exact HI254.out | apply IsS74.alloc | apply IsS74.drewN | apply IsS74.drew | apply IsS74.set_1 | apply IsS74.set_2) | exact HI254.out)) (rq HO268) (by decide)) hk (fun _ h => h.2)) (fun _ h => h.1))
                                   replace HB := Aside0.mk (hb)
                                   replace HI254 := Aside0.mk (hi)
                                   (try clear hb)
                                   (try clear hb2)
                                   (try clear hk)
                                   (try clear hi)
                                   refine hK.out _ _ trivial (fun hHeld => ?_)
                                   clear hK K
                                   refine norm_ (a' := ?_) ?_ ?_
                                   rotate_left
                                   · show Act.put _ (some 12) _ = _
                                     simp only [Act.put, List.setIfInBounds_toArray, List.set_cons_zero, List.set_cons_succ, i64_w, i32_w]
                                     rfl
                                   exact norm_ (by first | (simp only [putAll, Act.put, List.setIfInBounds_toArray, List.set_cons_zero, List.set_cons_succ]; done) | (simp only [putAll, Act.put, List.setIfInBounds_toArray, List.set_cons_zero, List.set_cons_succ]; rfl)) (hJ1_3_5_7 (v256, v264, v267) _ ⟨(rq HO257), (rq HO265), (rq HO268), (by repeat (first | (with_reducible first | exact HI254.out | apply IsS74.alloc | apply IsS74.drewN | apply IsS74.drew | apply IsS74.set_1 | apply IsS74.set_2) | exact HI254.out)), (by repeat (first | (with_reducible first | exact HB.out | apply below_alloc | apply pw_below_drewN | apply below_drew1 | refine below_set ?_ (IsS74.ge HI254.out)) | exact HB.out))⟩)
                                 · skip
                                   have hcv15 := own_string (P := Try.prog) Try.underlying45 Try.underlying5 Try.underlying9 (Kd.own_of_R HO265.out)
                                   refine value_ (w1 := ?_) (v := ?_) (by rfl) rfl ?_ ?_
                                   rotate_left 2
                                   · go_simp
                                     constructor
                                     · rfl
                                     rfl
                                   clear hcv15
                                   refine hK.out _ _ trivial (fun hHeld => ?_)
                                   clear hK K
                                   refine norm_ (a' := ?_) ?_ ?_
                                   rotate_left
                                   · show Act.put _ (some 15) _ = _
                                     simp only [Act.put, List.setIfInBounds_toArray, List.set_cons_zero, List.set_cons_succ, i64_w, i32_w]
                                     rfl
                                   exact norm_ (by first | (simp only [putAll, Act.put, List.setIfInBounds_toArray, List.set_cons_zero, List.set_cons_succ]; done) | (simp only [putAll, Act.put, List.setIfInBounds_toArray, List.set_cons_zero, List.set_cons_succ]; rfl)) (hJ1_5_6_7 (v256, v264, v267) _ ⟨(rq HO257), (rq HO265), (rq HO268), (by repeat (first | (with_reducible first | exact HI254.out | apply IsS74.alloc | apply IsS74.drewN | apply IsS74.drew | apply IsS74.set_1 | apply IsS74.set_2) | exact HI254.out)), (by repeat (first | (with_reducible first | exact HB.out | apply below_alloc | apply pw_below_drewN | apply below_drew1 | refine below_set ?_ (IsS74.ge HI254.out)) | exact HB.out))⟩)
                                 skip
                                 have hcv15 := own_string (P := Try.prog) Try.underlying45 Try.underlying5 Try.underlying9 (Kd.own_of_R HO268.out)
                                 refine value_ (w1 := ?_) (v := ?_) (by rfl) rfl ?_ ?_
                                 rotate_left 2
                                 · go_simp
                                   constructor
                                   · rfl
                                   rfl
                                 clear hcv15
                                 refine hK.out _ _ trivial (fun hHeld => ?_)
                                 clear hK K
                                 refine norm_ (a' := ?_) ?_ ?_
                                 rotate_left
                                 · show Act.put _ (some 17) _ = _
                                   simp only [Act.put, List.setIfInBounds_toArray, List.set_cons_zero, List.set_cons_succ, i64_w, i32_w]
                                   rfl
                                 exact norm_ (by first | (simp only [putAll, Act.put, List.setIfInBounds_toArray, List.set_cons_zero, List.set_cons_succ]; done) | (simp only [putAll, Act.put, List.setIfInBounds_toArray, List.set_cons_zero, List.set_cons_succ]; rfl)) (hJ1_5_7_8 (v256, v264, v267) _ ⟨(rq HO257), (rq HO265), (rq HO268), (by repeat (first | (with_reducible first | exact HI254.out | apply IsS74.alloc | apply IsS74.drewN | apply IsS74.drew | apply IsS74.set_1 | apply IsS74.set_2) | exact HI254.out)), (by repeat (first | (with_reducible first | exact HB.out | apply below_alloc | apply pw_below_drewN | apply below_drew1 | refine below_set ?_ (IsS74.ge HI254.out)) | exact HB.out))⟩)
                               skip
                               rintro ⟨v256, v264⟩ w13 ⟨h0_, h1_, h2_, h3_⟩
                               have n0_ : Aside0 (Kd.R (Kd.int .i64) 3 w13 w.heap.size (fun _ => True) v256 t255) := ⟨h0_⟩
                               have n1_ : Aside0 (Kd.R (Kd.int .u8) 5 w13 w.heap.size (fun _ => True) v264 y263) := ⟨h1_⟩
                               have n2_ : Aside0 (IsS74 w w13 gb254 l0 t258 t259) := ⟨h2_⟩
                               have n3_ : Aside0 (Below w.heap.size w w13) := ⟨h3_⟩
                               clear HI254
                               clear HB
                               clear h0_ h1_ h2_ h3_
                               have HO257 := n0_
                               have HO265 := n1_
                               have HI254 := n2_
                               have HB := n3_
                               clear n0_ n1_ n2_ n3_
                               have hHeld := trivial
                               refine norm_ (a' := ?_) ?_ ?_
                               rotate_left
                               · simp only [putAll, Act.put, List.setIfInBounds_toArray, List.set_cons_zero, List.set_cons_succ]
                                 rfl
                               refine two_ (i := 3) (j := 7) (Ni := some 12) (Nj := some 16) #[true, true, true, true, true, true, true, false, false, false, false, false, false, false] #[true, true, true, false, true, true, true, true, false, false, false, false, false, false] rfl rfl rfl rfl (two_of HT_.out (by kernel_rfl)) (by decide) (by decide) (fun K hK => ?_) (fun K hK => ?_)
                               · skip
                                 refine goes_ Try.func84 (by kernel_rfl) rfl #[.pointer (some ⟨gb254, 0, none⟩)] (by rfl) rfl rfl (by (try simp only [List.map_toArray, List.map_cons, List.map_nil]); first | done | rfl | (simp only [List.length_drop, List.length_take]; rfl)) ?_
                                 with_reducible refine (spec_l1Cur_block.calls gb254 l0 t258 t259 t260 t261 t262 w _ ?side1 ?side2 A3.out).mono ?_
                                 (case side1 => repeat (first | (with_reducible first | exact HI254.out | apply IsS74.alloc | apply IsS74.drewN | apply IsS74.drew | apply IsS74.set_1 | apply IsS74.set_2) | exact HI254.out))
                                 (case side2 => repeat (first | (with_reducible first | exact HB.out | apply below_alloc | apply pw_below_drewN | apply below_drew1 | refine below_set ?_ (IsS74.ge HI254.out)) | exact HB.out))
                                 rintro e w14 ⟨rfl, hi, hb, hk⟩
                                 refine ⟨_, rfl, ?_⟩
                                 replace HO257 := Aside0.mk (Kd.R_mono (Kd.R_keep (IsS74.apart (show IsS74 w _ gb254 l0 t258 t259 from by repeat (first | (with_reducible first | exact HI254.out | apply IsS74.alloc | apply IsS74.drewN | apply IsS74.drew | apply IsS74.set_1 | apply IsS74.set_2) | exact HI254.out)) (rq HO257) (by decide)) hk (fun _ h => h.2)) (fun _ h => h.1))
                                 replace HO265 := Aside0.mk (Kd.R_mono (Kd.R_keep (IsS74.apart (show IsS74 w _ gb254 l0 t258 t259 from by repeat (first | (with_reducible first | exact HI254.out | apply IsS74.alloc | apply IsS74.drewN | apply IsS74.drew | apply IsS74.set_1 | apply IsS74.set_2) | exact HI254.out)) (rq HO265) (by decide)) hk (fun _ h => h.2)) (fun _ h => h.1))
                                 replace HB := Aside0.mk (hb)
                                 replace HI254 := Aside0.mk (hi)
                                 (try clear hb)
                                 (try clear hb2)
                                 (try clear hk)
                                 (try clear hi)
                                 refine hK.out _ _ trivial (fun hHeld => ?_)
                                 clear hK K
                                 refine norm_ (a' := ?_) ?_ ?_
                                 rotate_left
                                 · show Act.put _ (some 12) _ = _
                                   simp only [Act.put, List.setIfInBounds_toArray, List.set_cons_zero, List.set_cons_succ, i64_w, i32_w]
                                   rfl
                                 exact norm_ (by first | (simp only [putAll, Act.put, List.setIfInBounds_toArray, List.set_cons_zero, List.set_cons_succ]; done) | (simp only [putAll, Act.put, List.setIfInBounds_toArray, List.set_cons_zero, List.set_cons_succ]; rfl)) (hJ1_3_5_6 (v256, v264) _ ⟨(rq HO257), (rq HO265), (by repeat (first | (with_reducible first | exact HI254.out | apply IsS74.alloc | apply IsS74.drewN | apply IsS74.drew | apply IsS74.set_1 | apply IsS74.set_2) | exact HI254.out)), (by repeat (first | (with_reducible first | exact HB.out | apply below_alloc | apply pw_below_drewN | apply below_drew1 | refine below_set ?_ (IsS74.ge HI254.out)) | exact HB.out))⟩)
                               skip
                               refine Kd.R_make_step (Kd.int .u8) _ 5 (by rfl) (N := 16) rfl 45 _ _ rfl 42 rfl rfl Try.underlying45 (.int .u8 0) 1 info5 rfl (by decide) (by omega) 0 (ok := fun _ => True) (okp := fun _ => True) rfl (fun _ hk => hk) trivial (by omega) (by omega) (Below.refl _ _) (Nat.le_refl _) ?_
                               intro v267 w14 ho15 hb hg_ hnew_
                               clear hg_ hnew_
                               (first | rw [← Ny266.out] at ho15 | (simp only [Int.reduceToNat] at ho15; rw [← Ny266.out] at ho15))
                               replace HO257 := cb HO257 hb
                               have n1_ := ce HO265 ho15 hb
                               have HO268 := Aside0.mk (Kd.R_lower (Kd.R_new' ho15 (ql HO265)) (below_size (by repeat (first | (with_reducible first | exact HB.out | apply below_alloc | apply pw_below_drewN | apply below_drew1 | refine below_set ?_ (IsS74.ge HI254.out)) | exact HB.out))))
                               have n3_ := Aside0.mk (IsS74.below (by repeat (first | (with_reducible first | exact HI254.out | apply IsS74.alloc | apply IsS74.drewN | apply IsS74.drew | apply IsS74.set_1 | apply IsS74.set_2) | exact HI254.out)) hb)
                               replace HB := Aside0.mk (below_step (by repeat (first | (with_reducible first | exact HB.out | apply below_alloc | apply pw_below_drewN | apply below_drew1 | refine below_set ?_ (IsS74.ge HI254.out)) | exact HB.out)) hb)
                               replace HO265 := n1_
                               replace HI254 := n3_
                               clear n1_ n3_
                               clear hb ho15
                               refine hK.out _ _ trivial (fun hHeld => ?_)
                               clear hK K
                               refine norm_ (a' := ?_) ?_ ?_
                               rotate_left
                               · show Act.put _ (some 16) _ = _
                                 simp only [Act.put, List.setIfInBounds_toArray, List.set_cons_zero, List.set_cons_succ, i64_w, i32_w]
                                 rfl
                               exact norm_ (by first | (simp only [putAll, Act.put, List.setIfInBounds_toArray, List.set_cons_zero, List.set_cons_succ]; done) | (simp only [putAll, Act.put, List.setIfInBounds_toArray, List.set_cons_zero, List.set_cons_succ]; rfl)) (hJ1_5_6_7 (v256, v264, v267) _ ⟨(rq HO257), (by (with_reducible repeat (first | apply Kd.R_alloc | apply Kd.R_drewN | apply Kd.R_drew)); exact Kd.R_mono HO265.out (fun _ hk => hk.2)), (by (with_reducible repeat (first | apply Kd.R_alloc | apply Kd.R_drewN | apply Kd.R_drew)); exact Kd.R_mono HO268.out (fun _ hk => hk.2)), (by repeat (first | (with_reducible first | exact HI254.out | apply IsS74.alloc | apply IsS74.drewN | apply IsS74.drew | apply IsS74.set_1 | apply IsS74.set_2) | exact HI254.out)), (by repeat (first | (with_reducible first | exact HB.out | apply below_alloc | apply pw_below_drewN | apply below_drew1 | refine below_set ?_ (IsS74.ge HI254.out)) | exact HB.out))⟩)
                             skip
                             rintro ⟨v256, v267⟩ w13 ⟨h0_, h1_, h2_, h3_⟩
                             have n0_ : Aside0 (Kd.R (Kd.int .i64) 3 w13 w.heap.size (fun _ => True) v256 t255) := ⟨h0_⟩
                             have n1_ : Aside0 (Kd.R (Kd.int .u8) 5 w13 w.heap.size (fun _ => True) v267 y266) := ⟨h1_⟩
                             have n2_ : Aside0 (IsS74 w w13 gb254 l0 t261 t262) := ⟨h2_⟩
                             have n3_ : Aside0 (Below w.heap.size w w13) := ⟨h3_⟩
                             clear HI254
                             clear HB
                             clear h0_ h1_ h2_ h3_
                             have HO257 := n0_
                             have HO268 := n1_
                             have HI254 := n2_
                             have HB := n3_
                             clear n0_ n1_ n2_ n3_
                             have hHeld := trivial
                             refine norm_ (a' := ?_) ?_ ?_
                             rotate_left
                             · simp only [putAll, Act.put, List.setIfInBounds_toArray, List.set_cons_zero, List.set_cons_succ]
                               rfl
                             refine two_ (i := 5) (j := 8) (Ni := some 14) (Nj := some 17) #[true, true, true, true, true, true, false, true, false, false, false, false, false, false] #[true, true, true, true, true, false, false, true, true, false, false, false, false, false] rfl rfl rfl rfl (two_of HT_.out (by kernel_rfl)) (by decide) (by decide) (fun K hK => ?_) (fun K hK => ?_)
                             · skip
                               refine Kd.R_make_step (Kd.int .u8) _ 5 (by rfl) (N := 14) rfl 45 _ _ rfl 40 rfl rfl Try.underlying45 (.int .u8 0) 1 info5 rfl (by decide) (by omega) 0 (ok := fun _ => True) (okp := fun _ => True) rfl (fun _ hk => hk) trivial (by omega) (by omega) (Below.refl _ _) (Nat.le_refl _) ?_
                               intro v264 w14 ho15 hb hg_ hnew_
                               clear hg_ hnew_
                               (first | rw [← Ny263.out] at ho15 | (simp only [Int.reduceToNat] at ho15; rw [← Ny263.out] at ho15))
                               replace HO257 := cb HO257 hb
                               have n1_ := ce HO268 ho15 hb
                               have HO265 := Aside0.mk (Kd.R_lower (Kd.R_new' ho15 (ql HO268)) (below_size (by repeat (first | (with_reducible first | exact HB.out | apply below_alloc | apply pw_below_drewN | apply below_drew1 | refine below_set ?_ (IsS74.ge HI254.out)) | exact HB.out))))
                               have n3_ := Aside0.mk (IsS74.below (by repeat (first | (with_reducible first | exact HI254.out | apply IsS74.alloc | apply IsS74.drewN | apply IsS74.drew | apply IsS74.set_1 | apply IsS74.set_2) | exact HI254.out)) hb)
                               replace HB := Aside0.mk (below_step (by repeat (first | (with_reducible first | exact HB.out | apply below_alloc | apply pw_below_drewN | apply below_drew1 | refine below_set ?_ (IsS74.ge HI254.out)) | exact HB.out)) hb)
                               replace HO268 := n1_
                               replace HI254 := n3_
                               clear n1_ n3_
                               clear hb ho15
                               refine hK.out _ _ trivial (fun hHeld => ?_)
                               clear hK K
                               refine norm_ (a' := ?_) ?_ ?_
                               rotate_left
                               · show Act.put _ (some 14) _ = _
                                 simp only [Act.put, List.setIfInBounds_toArray, List.set_cons_zero, List.set_cons_succ, i64_w, i32_w]
                                 rfl
                               exact norm_ (by first | (simp only [putAll, Act.put, List.setIfInBounds_toArray, List.set_cons_zero, List.set_cons_succ]; done) | (simp only [putAll, Act.put, List.setIfInBounds_toArray, List.set_cons_zero, List.set_cons_succ]; rfl)) (hJ1_3_5_7 (v256, v264, v267) _ ⟨(rq HO257), (by (with_reducible repeat (first | apply Kd.R_alloc | apply Kd.R_drewN | apply Kd.R_drew)); exact Kd.R_mono HO265.out (fun _ hk => hk.2)), (by (with_reducible repeat (first | apply Kd.R_alloc | apply Kd.R_drewN | apply Kd.R_drew)); exact Kd.R_mono HO268.out (fun _ hk => hk.2)), (by repeat (first | (with_reducible first | exact HI254.out | apply IsS74.alloc | apply IsS74.drewN | apply IsS74.drew | apply IsS74.set_1 | apply IsS74.set_2) | exact HI254.out)), (by repeat (first | (with_reducible first | exact HB.out | apply below_alloc | apply pw_below_drewN | apply below_drew1 | refine below_set ?_ (IsS74.ge HI254.out)) | exact HB.out))⟩)
                             skip
                             have hcv14 := own_string (P := Try.prog) Try.underlying45 Try.underlying5 Try.underlying9 (Kd.own_of_R HO268.out)
                             refine value_ (w1 := ?_) (v := ?_) (by rfl) rfl ?_ ?_
                             rotate_left 2
                             · go_simp
                               constructor
                               · rfl
                               rfl
                             clear hcv14
                             refine hK.out _ _ trivial (fun hHeld => ?_)
                             clear hK K
                             refine norm_ (a' := ?_) ?_ ?_
                             rotate_left
                             · show Act.put _ (some 17) _ = _
                               simp only [Act.put, List.setIfInBounds_toArray, List.set_cons_zero, List.set_cons_succ, i64_w, i32_w]
                               rfl
                             exact norm_ (by first | (simp only [putAll, Act.put, List.setIfInBounds_toArray, List.set_cons_zero, List.set_cons_succ]; done) | (simp only [putAll, Act.put, List.setIfInBounds_toArray, List.set_cons_zero, List.set_cons_succ]; rfl)) (hJ1_3_7_8 (v256, v267) _ ⟨(rq HO257), (rq HO268), (by repeat (first | (with_reducible first | exact HI254.out | apply IsS74.alloc | apply IsS74.drewN | apply IsS74.drew | apply IsS74.set_1 | apply IsS74.set_2) | exact HI254.out)), (by repeat (first | (with_reducible first | exact HB.out | apply below_alloc | apply pw_below_drewN | apply below_drew1 | refine below_set ?_ (IsS74.ge HI254.out)) | exact HB.out))⟩)
                           skip
                           rintro ⟨v256, v264⟩ w13 ⟨h0_, h1_, h2_, h3_⟩
                           have n0_ : Aside0 (Kd.R (Kd.int .i64) 3 w13 w.heap.size (fun _ => True) v256 t255) := ⟨h0_⟩
                           have n1_ : Aside0 (Kd.R (Kd.int .u8) 5 w13 w.heap.size (fun _ => True) v264 y263) := ⟨h1_⟩
                           have n2_ : Aside0 (IsS74 w w13 gb254 l0 t261 t262) := ⟨h2_⟩
                           have n3_ : Aside0 (Below w.heap.size w w13) := ⟨h3_⟩
                           clear HI254
                           clear HB
                           clear h0_ h1_ h2_ h3_
                           have HO257 := n0_
                           have HO265 := n1_
                           have HI254 := n2_
                           have HB := n3_
                           clear n0_ n1_ n2_ n3_
                           have hHeld := trivial
                           refine norm_ (a' := ?_) ?_ ?_
                           rotate_left
                           · simp only [putAll, Act.put, List.setIfInBounds_toArray, List.set_cons_zero, List.set_cons_succ]
                             rfl
                           refine two_ (i := 6) (j := 7) (Ni := some 15) (Nj := some 16) #[true, true, true, true, true, true, true, false, false, false, false, false, false, false] #[true, true, true, true, true, true, false, true, false, false, false, false, false, false] rfl rfl rfl rfl (two_of HT_.out (by kernel_rfl)) (by decide) (by decide) (fun K hK => ?_) (fun K hK => ?_)
                           · skip
                             have hcv14 := own_string (P := Try.prog) Try.underlying45 Try.underlying5 Try.underlying9 (Kd.own_of_R HO265.out)
                             refine value_ (w1 := ?_) (v := ?_) (by rfl) rfl ?_ ?_
                             rotate_left 2
                             · go_simp
                               constructor
                               · rfl
                               rfl
                             clear hcv14
                             refine hK.out _ _ trivial (fun hHeld => ?_)
                             clear hK K
                             refine norm_ (a' := ?_) ?_ ?_
                             rotate_left
                             · show Act.put _ (some 15) _ = _
                               simp only [Act.put, List.setIfInBounds_toArray, List.set_cons_zero, List.set_cons_succ, i64_w, i32_w]
                               rfl
                             exact norm_ (by first | (simp only [putAll, Act.put, List.setIfInBounds_toArray, List.set_cons_zero, List.set_cons_succ]; done) | (simp only [putAll, Act.put, List.setIfInBounds_toArray, List.set_cons_zero, List.set_cons_succ]; rfl)) (hJ1_3_5_6 (v256, v264) _ ⟨(rq HO257), (rq HO265), (by repeat (first | (with_reducible first | exact HI254.out | apply IsS74.alloc | apply IsS74.drewN | apply IsS74.drew | apply IsS74.set_1 | apply IsS74.set_2) | exact HI254.out)), (by repeat (first | (with_reducible first | exact HB.out | apply below_alloc | apply pw_below_drewN | apply below_drew1 | refine below_set ?_ (IsS74.ge HI254.out)) | exact HB.out))⟩)
                           skip
                           refine Kd.R_make_step (Kd.int .u8) _ 5 (by rfl) (N := 16) rfl 45 _ _ rfl 42 rfl rfl Try.underlying45 (.int .u8 0) 1 info5 rfl (by decide) (by omega) 0 (ok := fun _ => True) (okp := fun _ => True) rfl (fun _ hk => hk) trivial (by omega) (by omega) (Below.refl _ _) (Nat.le_refl _) ?_
                           intro v267 w14 ho15 hb hg_ hnew_
                           clear hg_ hnew_
                           (first | rw [← Ny266.out] at ho15 | (simp only [Int.reduceToNat] at ho15; rw [← Ny266.out] at ho15))
                           replace HO257 := cb HO257 hb
                           have n1_ := ce HO265 ho15 hb
                           have HO268 := Aside0.mk (Kd.R_lower (Kd.R_new' ho15 (ql HO265)) (below_size (by repeat (first | (with_reducible first | exact HB.out | apply below_alloc | apply pw_below_drewN | apply below_drew1 | refine below_set ?_ (IsS74.ge HI254.out)) | exact HB.out))))
                           have n3_ := Aside0.mk (IsS74.below (by repeat (first | (with_reducible first | exact HI254.out | apply IsS74.alloc | apply IsS74.drewN | apply IsS74.drew | apply IsS74.set_1 | apply IsS74.set_2) | exact HI254.out)) hb)
                           replace HB := Aside0.mk (below_step (by repeat (first | (with_reducible first | exact HB.out | apply below_alloc | apply pw_below_drewN | apply below_drew1 | refine below_set ?_ (IsS74.ge HI254.out)) | exact HB.out)) hb)
                           replace HO265 := n1_
                           replace HI254 := n3_
                           clear n1_ n3_
                           clear hb ho15
                           refine hK.out _ _ trivial (fun hHeld => ?_)
                           clear hK K
                           refine norm_ (a' := ?_) ?_ ?_
                           rotate_left
                           · show Act.put _ (some 16) _ = _
                             simp only [Act.put, List.setIfInBounds_toArray, List.set_cons_zero, List.set_cons_succ, i64_w, i32_w]
                             rfl
                           exact norm_ (by first | (simp only [putAll, Act.put, List.setIfInBounds_toArray, List.set_cons_zero, List.set_cons_succ]; done) | (simp only [putAll, Act.put, List.setIfInBounds_toArray, List.set_cons_zero, List.set_cons_succ]; rfl)) (hJ1_3_5_7 (v256, v264, v267) _ ⟨(rq HO257), (by (with_reducible repeat (first | apply Kd.R_alloc | apply Kd.R_drewN | apply Kd.R_drew)); exact Kd.R_mono HO265.out (fun _ hk => hk.2)), (by (with_reducible repeat (first | apply Kd.R_alloc | apply Kd.R_drewN | apply Kd.R_drew)); exact Kd.R_mono HO268.out (fun _ hk => hk.2)), (by repeat (first | (with_reducible first | exact HI254.out | apply IsS74.alloc | apply IsS74.drewN | apply IsS74.drew | apply IsS74.set_1 | apply IsS74.set_2) | exact HI254.out)), (by repeat (first | (with_reducible first | exact HB.out | apply below_alloc | apply pw_below_drewN | apply below_drew1 | refine below_set ?_ (IsS74.ge HI254.out)) | exact HB.out))⟩)
                         skip
                         rintro ⟨v264, v267⟩ w15 ⟨h0_, h1_, h2_, h3_⟩
                         have n0_ : Aside0 (Kd.R (Kd.int .u8) 5 w15 w.heap.size (fun k_ => some k_ ≠ (v267 : Value).ownBlock) v264 y263) := ⟨h0_⟩
                         have n1_ : Aside0 (Kd.R (Kd.int .u8) 5 w15 w.heap.size (fun k_ => some k_ ≠ (v264 : Value).ownBlock) v267 y266) := ⟨h1_⟩
                         have n2_ : Aside0 (IsS74 w w15 gb254 l0 0 0) := ⟨h2_⟩
                         have n3_ : Aside0 (Below w.heap.size w w15) := ⟨h3_⟩
                         clear HI254
                         clear HB
                         clear h0_ h1_ h2_ h3_
                         have HO265 := n0_
                         have HO268 := n1_
                         have HI254 := n2_
                         have HB := n3_
                         clear n0_ n1_ n2_ n3_
                         have hHeld := trivial
                         refine norm_ (a' := ?_) ?_ ?_
                         rotate_left
                         · simp only [putAll, Act.put, List.setIfInBounds_toArray, List.set_cons_zero, List.set_cons_succ]
                           rfl
                         refine two_ (i := 1) (j := 9) (Ni := some 10) (Nj := some 18) #[true, true, true, false, true, true, true, true, true, false, false, false, false, false] #[true, false, true, false, true, true, true, true, true, true, false, false, false, false] rfl rfl rfl rfl (two_of HT_.out (by kernel_rfl)) (by decide) (by decide) (fun K hK => ?_) (fun K hK => ?_)
                         · skip
                           refine goes_ Try.func83 (by kernel_rfl) rfl #[.pointer (some ⟨gb254, 0, none⟩)] (by rfl) rfl rfl (by (try simp only [List.map_toArray, List.map_cons, List.map_nil]); first | done | rfl | (simp only [List.length_drop, List.length_take]; rfl)) ?_
                           with_reducible refine (spec_l1Cur_keys.calls k gb254 l0 0 0 t255 t258 t259 w _ ?side1 ?side2 A2.out).mono ?_
                           (case side1 => repeat (first | (with_reducible first | exact HI254.out | apply IsS74.alloc | apply IsS74.drewN | apply IsS74.drew | apply IsS74.set_1 | apply IsS74.set_2) | exact HI254.out))
                           (case side2 => repeat (first | (with_reducible first | exact HB.out | apply below_alloc | apply pw_below_drewN | apply below_drew1 | refine below_set ?_ (IsS74.ge HI254.out)) | exact HB.out))
                           rintro e w16 ⟨v256, rfl, ho0, hi, hb, hk⟩
                           refine ⟨_, rfl, ?_⟩
                           replace HO265 := Aside0.mk (Kd.R_mono (Kd.R_keep (IsS74.apart (show IsS74 w _ gb254 l0 0 0 from by repeat (first | (with_reducible first | exact HI254.out | apply IsS74.alloc | apply IsS74.drewN | apply IsS74.drew | apply IsS74.set_1 | apply IsS74.set_2) | exact HI254.out)) (rq HO265) (by decide)) hk (fun _ h => h.2)) (fun _ h => h.1))
                           replace HO268 := Aside0.mk (Kd.R_mono (Kd.R_keep (IsS74.apart (show IsS74 w _ gb254 l0 0 0 from by repeat (first | (with_reducible first | exact HI254.out | apply IsS74.alloc | apply IsS74.drewN | apply IsS74.drew | apply IsS74.set_1 | apply IsS74.set_2) | exact HI254.out)) (rq HO268) (by decide)) hk (fun _ h => h.2)) (fun _ h => h.1))
                           have HO257 := Aside0.mk (Kd.R_lower ho0 (below_size (by repeat (first | (with_reducible first | exact HB.out | apply below_alloc | apply pw_below_drewN | apply below_drew1 | refine below_set ?_ (IsS74.ge HI254.out)) | exact HB.out))))
                           replace HB := Aside0.mk (hb)
                           replace HI254 := Aside0.mk (hi)
                           (try clear hb)
                           (try clear hb2)
                           (try clear hk)
                           (try clear hi)
                           (try clear ho0)
                           refine hK.out _ _ trivial (fun hHeld => ?_)
                           clear hK K
                           refine norm_ (a' := ?_) ?_ ?_
                           rotate_left
                           · show Act.put _ (some 10) _ = _
                             simp only [Act.put, List.setIfInBounds_toArray, List.set_cons_zero, List.set_cons_succ, i64_w, i32_w]
                             rfl
                           exact norm_ (by first | (simp only [putAll, Act.put, List.setIfInBounds_toArray, List.set_cons_zero, List.set_cons_succ]; done) | (simp only [putAll, Act.put, List.setIfInBounds_toArray, List.set_cons_zero, List.set_cons_succ]; rfl)) (hJ1_5_6_7_8 (v256, v264, v267) _ ⟨(rq HO257), (rq HO265), (rq HO268), (by repeat (first | (with_reducible first | exact HI254.out | apply IsS74.alloc | apply IsS74.drewN | apply IsS74.drew | apply IsS74.set_1 | apply IsS74.set_2) | exact HI254.out)), (by repeat (first | (with_reducible first | exact HB.out | apply below_alloc | apply pw_below_drewN | apply below_drew1 | refine below_set ?_ (IsS74.ge HI254.out)) | exact HB.out))⟩)
                         skip
                         refine Kd.R_lit_step Kd.string _ 9 ?hg (N := 18) ?hd (xs := ([(⟨#[]⟩ : ByteArray), (⟨#[97, 98]⟩ : ByteArray), (⟨#[97, 98, 99]⟩ : ByteArray), (⟨#[115, 111, 109, 101, 32, 116, 101, 120, 116, 33]⟩ : ByteArray), strOfNums y263, strOfNums y266] : List ByteArray)) (inner := [.string (⟨#[]⟩ : ByteArray), .string (⟨#[97, 98]⟩ : ByteArray), .string (⟨#[97, 98, 99]⟩ : ByteArray), .string (⟨#[115, 111, 109, 101, 32, 116, 101, 120, 116, 33]⟩ : ByteArray), .string (strOfNums y263), .string (strOfNums y266)]) (ok := fun _ => True) (okp := fun _ => True) ?hr ?hp (fun _ hk => hk) trivial (Below.refl _ _) (Nat.le_refl _) (by simp) ?_; (case hd => rfl); (case hg => rfl); (case hr => first | (go_simp; done) | (go_simp; rfl)); (case hp => exact (Reps.one (show Kd.M Kd.string _ _ _ (⟨#[]⟩ : ByteArray) [.string (⟨#[]⟩ : ByteArray)] from rfl) (Reps.one (show Kd.M Kd.string _ _ _ (⟨#[97, 98]⟩ : ByteArray) [.string (⟨#[97, 98]⟩ : ByteArray)] from rfl) (Reps.one (show Kd.M Kd.string _ _ _ (⟨#[97, 98, 99]⟩ : ByteArray) [.string (⟨#[97, 98, 99]⟩ : ByteArray)] from rfl) (Reps.one (show Kd.M Kd.string _ _ _ (⟨#[115, 111, 109, 101, 32, 116, 101, 120, 116, 33]⟩ : ByteArray) [.string (⟨#[115, 111, 109, 101, 32, 116, 101, 120, 116, 33]⟩ : ByteArray)] from rfl) (Reps.one (show Kd.M Kd.string _ _ _ (strOfNums y263) [.string (strOfNums y263)] from rfl) (Reps.one (show Kd.M Kd.string _ _ _ (strOfNums y266) [.string (strOfNums y266)] from rfl) (Reps.none _ _))))))))
                         intro v270 w16 ho17 hb hg_ hnew_
                         clear hg_ hnew_
                         (first | rw [← Ny269.out] at ho17 | (simp only [Int.reduceToNat] at ho17; rw [← Ny269.out] at ho17))
                         replace HO265 := cb HO265 hb
                         replace HO268 := cb HO268 hb
                         have HO271 := Aside0.mk (Kd.R_lower ho17 (below_size (by repeat (first | (with_reducible first | exact HB.out | apply below_alloc | apply pw_below_drewN | apply below_drew1 | refine below_set ?_ (IsS74.ge HI254.out)) | exact HB.out))))
                         have n3_ := Aside0.mk (IsS74.below (by repeat (first | (with_reducible first | exact HI254.out | apply IsS74.alloc | apply IsS74.drewN | apply IsS74.drew | apply IsS74.set_1 | apply IsS74.set_2) | exact HI254.out)) hb)
                         replace HB := Aside0.mk (below_step (by repeat (first | (with_reducible first | exact HB.out | apply below_alloc | apply pw_below_drewN | apply below_drew1 | refine below_set ?_ (IsS74.ge HI254.out)) | exact HB.out)) hb)
                         replace HI254 := n3_
                         clear n3_
                         clear hb ho17
                         refine hK.out _ _ trivial (fun hHeld => ?_)
                         clear hK K
                         refine norm_ (a' := ?_) ?_ ?_
                         rotate_left
                         · show Act.put _ (some 18) _ = _
                           simp only [Act.put, List.setIfInBounds_toArray, List.set_cons_zero, List.set_cons_succ, i64_w, i32_w]
                           rfl
                         exact norm_ (by first | (simp only [putAll, Act.put, List.setIfInBounds_toArray, List.set_cons_zero, List.set_cons_succ]; done) | (simp only [putAll, Act.put, List.setIfInBounds_toArray, List.set_cons_zero, List.set_cons_succ]; rfl)) (hJ5_6_7_8_9 (v264, v267, v270) _ ⟨(rq HO265), (rq HO268), (rq HO271), (by repeat (first | (with_reducible first | exact HI254.out | apply IsS74.alloc | apply IsS74.drewN | apply IsS74.drew | apply IsS74.set_1 | apply IsS74.set_2) | exact HI254.out)), (by repeat (first | (with_reducible first | exact HB.out | apply below_alloc | apply pw_below_drewN | apply below_drew1 | refine below_set ?_ (IsS74.ge HI254.out)) | exact HB.out))⟩)
                       skip
                       rintro ⟨v256, v264, v267⟩ w15 ⟨h0_, h1_, h2_, h3_, h4_⟩
                       have n0_ : Aside0 (Kd.R (Kd.int .i64) 3 w15 w.heap.size (fun _ => True) v256 t255) := ⟨h0_⟩
                       have n1_ : Aside0 (Kd.R (Kd.int .u8) 5 w15 w.heap.size (fun k_ => some k_ ≠ (v267 : Value).ownBlock) v264 y263) := ⟨h1_⟩
                       have n2_ : Aside0 (Kd.R (Kd.int .u8) 5 w15 w.heap.size (fun k_ => some k_ ≠ (v264 : Value).ownBlock) v267 y266) := ⟨h2_⟩
                       have n3_ : Aside0 (IsS74 w w15 gb254 l0 t258 t259) := ⟨h3_⟩
                       have n4_ : Aside0 (Below w.heap.size w w15) := ⟨h4_⟩
                       clear HI254
                       clear HB
                       clear h0_ h1_ h2_ h3_ h4_
                       have HO257 := n0_
                       have HO265 := n1_
                       have HO268 := n2_
                       have HI254 := n3_
                       have HB := n4_
                       clear n0_ n1_ n2_ n3_ n4_
                       have hHeld := trivial
                       refine norm_ (a' := ?_) ?_ ?_
                       rotate_left
                       · simp only [putAll, Act.put, List.setIfInBounds_toArray, List.set_cons_zero, List.set_cons_succ]
                         rfl
                       refine two_ (i := 3) (j := 6) (Ni := some 12) (Nj := some 15) #[true, true, true, true, true, true, false, true, true, false, false, false, false, false] #[true, true, true, false, true, true, true, true, true, false, false, false, false, false] rfl rfl rfl rfl (two_of HT_.out (by kernel_rfl)) (by decide) (by decide) (fun K hK => ?_) (fun K hK => ?_)
                       · skip
                         refine goes_ Try.func84 (by kernel_rfl) rfl #[.pointer (some ⟨gb254, 0, none⟩)] (by rfl) rfl rfl (by (try simp only [List.map_toArray, List.map_cons, List.map_nil]); first | done | rfl | (simp only [List.length_drop, List.length_take]; rfl)) ?_
                         with_reducible refine (spec_l1Cur_block.calls gb254 l0 t258 t259 t260 t261 t262 w _ ?side1 ?side2 A3.out).mono ?_
                         (case side1 => repeat (first | (with_reducible first | exact HI254.out | apply IsS74.alloc | apply IsS74.drewN | apply IsS74.drew | apply IsS74.set_1 | apply IsS74.set_2) | exact HI254.out))
                         (case side2 => repeat (first | (with_reducible first | exact HB.out | apply below_alloc | apply pw_below_drewN | apply below_drew1 | refine below_set ?_ (IsS74.ge HI254.out)) | exact HB.out))
                         rintro e w16 ⟨rfl, hi, hb, hk⟩
                         refine ⟨_, rfl, ?_⟩
                         replace HO257 := Aside0.mk (Kd.R_mono (Kd.R_keep (IsS74.apart (show IsS74 w _ gb254 l0 t258 t259 from by repeat (first | (with_reducible first | exact HI254.out | apply IsS74.alloc | apply IsS74.drewN | apply IsS74.drew | apply IsS74.set_1 | apply IsS74.set_2) | exact HI254.out)) (rq HO257) (by decide)) hk (fun _ h => h.2)) (fun _ h => h.1))
                         replace HO265 := Aside0.mk (Kd.R_mono (Kd.R_keep (IsS74.apart (show IsS74 w _ gb254 l0 t258 t259 from by repeat (first | (with_reducible first | exact HI254.out | apply IsS74.alloc | apply IsS74.drewN | apply IsS74.drew | apply IsS74.set_1 | apply IsS74.set_2) | exact HI254.out)) (rq HO265) (by decide)) hk (fun _ h => h.2)) (fun _ h => h.1))
                         replace HO268 := Aside0.mk (Kd.R_mono (Kd.R_keep (IsS74.apart (show IsS74 w _ gb254 l0 t258 t259 from by repeat (first | (with_reducible first | exact HI254.out | apply IsS74.alloc | apply IsS74.drewN | apply IsS74.drew | apply IsS74.set_1 | apply IsS74.set_2) | exact HI254.out)) (rq HO268) (by decide)) hk (fun _ h => h.2)) (fun _ h => h.1))
                         replace HB := Aside0.mk (hb)
                         replace HI254 := Aside0.mk (hi)
                         (try clear hb)
                         (try clear hb2)
                         (try clear hk)
                         (try clear hi)
                         refine hK.out _ _ trivial (fun hHeld => ?_)
                         clear hK K
                         refine norm_ (a' := ?_) ?_ ?_
                         rotate_left
                         · show Act.put _ (some 12) _ = _
                           simp only [Act.put, List.setIfInBounds_toArray, List.set_cons_zero, List.set_cons_succ, i64_w, i32_w]
                           rfl
                         exact norm_ (by first | (simp only [putAll, Act.put, List.setIfInBounds_toArray, List.set_cons_zero, List.set_cons_succ]; done) | (simp only [putAll, Act.put, List.setIfInBounds_toArray, List.set_cons_zero, List.set_cons_succ]; rfl)) (hJ1_3_5_7_8 (v256, v264, v267) _ ⟨(rq HO257), (rq HO265), (rq HO268), (by repeat (first | (with_reducible first | exact HI254.out | apply IsS74.alloc | apply IsS74.drewN | apply IsS74.drew | apply IsS74.set_1 | apply IsS74.set_2) | exact HI254.out)), (by repeat (first | (with_reducible first | exact HB.out | apply below_alloc | apply pw_below_drewN | apply below_drew1 | refine below_set ?_ (IsS74.ge HI254.out)) | exact HB.out))⟩)
                       skip
                       have hcv16 := own_string (P := Try.prog) Try.underlying45 Try.underlying5 Try.underlying9 (Kd.own_of_R HO265.out)
                       refine value_ (w1 := ?_) (v := ?_) (by rfl) rfl ?_ ?_
                       rotate_left 2
                       · go_simp
                         constructor
                         · rfl
                         rfl
                       clear hcv16
                       refine hK.out _ _ trivial (fun hHeld => ?_)
                       clear hK K
                       refine norm_ (a' := ?_) ?_ ?_
                       rotate_left
                       · show Act.put _ (some 15) _ = _
                         simp only [Act.put, List.setIfInBounds_toArray, List.set_cons_zero, List.set_cons_succ, i64_w, i32_w]
                         rfl
                       exact norm_ (by first | (simp only [putAll, Act.put, List.setIfInBounds_toArray, List.set_cons_zero, List.set_cons_succ]; done) | (simp only [putAll, Act.put, List.setIfInBounds_toArray, List.set_cons_zero, List.set_cons_succ]; rfl)) (hJ1_5_6_7_8 (v256, v264, v267) _ ⟨(rq HO257), (rq HO265), (rq HO268), (by repeat (first | (with_reducible first | exact HI254.out | apply IsS74.alloc | apply IsS74.drewN | apply IsS74.drew | apply IsS74.set_1 | apply IsS74.set_2) | exact HI254.out)), (by repeat (first | (with_reducible first | exact HB.out | apply below_alloc | apply pw_below_drewN | apply below_drew1 | refine below_set ?_ (IsS74.ge HI254.out)) | exact HB.out))⟩)
                     skip
                     rintro ⟨v256, v264, v267⟩ w15 ⟨h0_, h1_, h2_, h3_, h4_⟩
                     have n0_ : Aside0 (Kd.R (Kd.int .i64) 3 w15 w.heap.size (fun _ => True) v256 t255) := ⟨h0_⟩
                     have n1_ : Aside0 (Kd.R (Kd.int .u8) 5 w15 w.heap.size (fun k_ => some k_ ≠ (v267 : Value).ownBlock) v264 y263) := ⟨h1_⟩
                     have n2_ : Aside0 (Kd.R (Kd.int .u8) 5 w15 w.heap.size (fun k_ => some k_ ≠ (v264 : Value).ownBlock) v267 y266) := ⟨h2_⟩
                     have n3_ : Aside0 (IsS74 w w15 gb254 l0 t258 t259) := ⟨h3_⟩
                     have n4_ : Aside0 (Below w.heap.size w w15) := ⟨h4_⟩
                     clear HI254
                     clear HB
                     clear h0_ h1_ h2_ h3_ h4_
                     have HO257 := n0_
                     have HO265 := n1_
                     have HO268 := n2_
                     have HI254 := n3_
                     have HB := n4_
                     clear n0_ n1_ n2_ n3_ n4_
                     have hHeld := trivial
                     refine norm_ (a' := ?_) ?_ ?_
                     rotate_left
                     · simp only [putAll, Act.put, List.setIfInBounds_toArray, List.set_cons_zero, List.set_cons_succ]
                       rfl
                     refine two_ (i := 3) (j := 8) (Ni := some 12) (Nj := some 17) #[true, true, true, true, true, true, true, true, false, false, false, false, false, false] #[true, true, true, false, true, true, true, true, true, false, false, false, false, false] rfl rfl rfl rfl (two_of HT_.out (by kernel_rfl)) (by decide) (by decide) (fun K hK => ?_) (fun K hK => ?_)
                     · skip
                       refine goes_ Try.func84 (by kernel_rfl) rfl #[.pointer (some ⟨gb254, 0, none⟩)] (by rfl) rfl rfl (by (try simp only [List.map_toArray, List.map_cons, List.map_nil]); first | done | rfl | (simp only [List.length_drop, List.length_take]; rfl)) ?_
                       with_reducible refine (spec_l1Cur_block.calls gb254 l0 t258 t259 t260 t261 t262 w _ ?side1 ?side2 A3.out).mono ?_
                       (case side1 => repeat (first | (with_reducible first | exact HI254.out | apply IsS74.alloc | apply IsS74.drewN | apply IsS74.drew | apply IsS74.set_1 | apply IsS74.set_2) | exact HI254.out))
                       (case side2 => repeat (first | (with_reducible first | exact HB.out | apply below_alloc | apply pw_below_drewN | apply below_drew1 | refine below_set ?_ (IsS74.ge HI254.out)) | exact HB.out))
                       rintro e w16 ⟨rfl, hi, hb, hk⟩
                       refine ⟨_, rfl, ?_⟩
                       replace HO257 := Aside0.mk (Kd.R_mono (Kd.R_keep (IsS74.apart (show IsS74 w _ gb254 l0 t258 t259 from by repeat (first | (with_reducible first | exact HI254.out | apply IsS74.alloc | apply IsS74.drewN | apply IsS74.drew | apply IsS74.set_1 | apply IsS74.set_2) | exact HI254.out)) (rq HO257) (by decide)) hk (fun _ h => h.2)) (fun _ h => h.1))
                       replace HO265 := Aside0.mk (Kd.R_mono (Kd.R_keep (IsS74.apart (show IsS74 w _ gb254 l0 t258 t259 from by repeat (first | (with_reducible first | exact HI254.out | apply IsS74.alloc | apply IsS74.drewN | apply IsS74.drew | apply IsS74.set_1 | apply IsS74.set_2) | exact HI254.out)) (rq HO265) (by decide)) hk (fun _ h => h.2)) (fun _ h => h.1))
                       replace HO268 := Aside0.mk (Kd.R_mono (Kd.R_keep (IsS74.apart (show IsS74 w _ gb254 l0 t258 t259 from by repeat (first | (with_reducible first | exact HI254.out | apply IsS74.alloc | apply IsS74.drewN | apply IsS74.drew | apply IsS74.set_1 | apply IsS74.set_2) | exact HI254.out)) (rq HO268) (by decide)) hk (fun _ h => h.2)) (fun _ h => h.1))
                       replace HB := Aside0.mk (hb)
                       replace HI254 := Aside0.mk (hi)
                       (try clear hb)
                       (try clear hb2)
                       (try clear hk)
                       (try clear hi)
                       refine hK.out _ _ trivial (fun hHeld => ?_)
                       clear hK K
                       refine norm_ (a' := ?_) ?_ ?_
                       rotate_left
                       · show Act.put _ (some 12) _ = _
                         simp only [Act.put, List.setIfInBounds_toArray, List.set_cons_zero, List.set_cons_succ, i64_w, i32_w]
                         rfl
                       exact norm_ (by first | (simp only [putAll, Act.put, List.setIfInBounds_toArray, List.set_cons_zero, List.set_cons_succ]; done) | (simp only [putAll, Act.put, List.setIfInBounds_toArray, List.set_cons_zero, List.set_cons_succ]; rfl)) (hJ1_3_5_6_7 (v256, v264, v267) _ ⟨(rq HO257), (rq HO265), (rq HO268), (by repeat (first | (with_reducible first | exact HI254.out | apply IsS74.alloc | apply IsS74.drewN | apply IsS74.drew | apply IsS74.set_1 | apply IsS74.set_2) | exact HI254.out)), (by repeat (first | (with_reducible first | exact HB.out | apply below_alloc | apply pw_below_drewN | apply below_drew1 | refine below_set ?_ (IsS74.ge HI254.out)) | exact HB.out))⟩)
                     skip
                     have hcv16 := own_string (P := Try.prog) Try.underlying45 Try.underlying5 Try.underlying9 (Kd.own_of_R HO268.out)
                     refine value_ (w1 := ?_) (v := ?_) (by rfl) rfl ?_ ?_
                     rotate_left 2
                     · go_simp
                       constructor
                       · rfl
                       rfl
                     clear hcv16
                     refine hK.out _ _ trivial (fun hHeld => ?_)
                     clear hK K
                     refine norm_ (a' := ?_) ?_ ?_
                     rotate_left
                     · show Act.put _ (some 17) _ = _
                       simp only [Act.put, List.setIfInBounds_toArray, List.set_cons_zero, List.set_cons_succ, i64_w, i32_w]
                       rfl
                     exact norm_ (by first | (simp only [putAll, Act.put, List.setIfInBounds_toArray, List.set_cons_zero, List.set_cons_succ]; done) | (simp only [putAll, Act.put, List.setIfInBounds_toArray, List.set_cons_zero, List.set_cons_succ]; rfl)) (hJ1_5_6_7_8 (v256, v264, v267) _ ⟨(rq HO257), (rq HO265), (rq HO268), (by repeat (first | (with_reducible first | exact HI254.out | apply IsS74.alloc | apply IsS74.drewN | apply IsS74.drew | apply IsS74.set_1 | apply IsS74.set_2) | exact HI254.out)), (by repeat (first | (with_reducible first | exact HB.out | apply below_alloc | apply pw_below_drewN | apply below_drew1 | refine below_set ?_ (IsS74.ge HI254.out)) | exact HB.out))⟩)
                   skip
                   rintro ⟨v256, v267⟩ w14 ⟨h0_, h1_, h2_, h3_⟩
                   have n0_ : Aside0 (Kd.R (Kd.int .i64) 3 w14 w.heap.size (fun _ => True) v256 t255) := ⟨h0_⟩
                   have n1_ : Aside0 (Kd.R (Kd.int .u8) 5 w14 w.heap.size (fun _ => True) v267 y266) := ⟨h1_⟩
                   have n2_ : Aside0 (IsS74 w w14 gb254 l0 t261 t262) := ⟨h2_⟩
                   have n3_ : Aside0 (Below w.heap.size w w14) := ⟨h3_⟩
                   clear HI254
                   clear HB
                   clear h0_ h1_ h2_ h3_
                   have HO257 := n0_
                   have HO268 := n1_
                   have HI254 := n2_
                   have HB := n3_
                   clear n0_ n1_ n2_ n3_
                   have hHeld := trivial
                   refine norm_ (a' := ?_) ?_ ?_
                   rotate_left
                   · simp only [putAll, Act.put, List.setIfInBounds_toArray, List.set_cons_zero, List.set_cons_succ]
                     rfl
                   refine one_ (i := 5) (N := some 14) #[true, true, true, true, true, true, false, true, true, false, false, false, false, false] rfl rfl (one_of HT_.out (by kernel_rfl)) (by decide) (fun K hK => ?_)
                   refine Kd.R_make_step (Kd.int .u8) _ 5 (by rfl) (N := 14) rfl 45 _ _ rfl 40 rfl rfl Try.underlying45 (.int .u8 0) 1 info5 rfl (by decide) (by omega) 0 (ok := fun _ => True) (okp := fun _ => True) rfl (fun _ hk => hk) trivial (by omega) (by omega) (Below.refl _ _) (Nat.le_refl _) ?_
                   intro v264 w15 ho16 hb hg_ hnew_
                   clear hg_ hnew_
                   (first | rw [← Ny263.out] at ho16 | (simp only [Int.reduceToNat] at ho16; rw [← Ny263.out] at ho16))
                   replace HO257 := cb HO257 hb
                   have n1_ := ce HO268 ho16 hb
                   have HO265 := Aside0.mk (Kd.R_lower (Kd.R_new' ho16 (ql HO268)) (below_size (by repeat (first | (with_reducible first | exact HB.out | apply below_alloc | apply pw_below_drewN | apply below_drew1 | refine below_set ?_ (IsS74.ge HI254.out)) | exact HB.out))))
                   have n3_ := Aside0.mk (IsS74.below (by repeat (first | (with_reducible first | exact HI254.out | apply IsS74.alloc | apply IsS74.drewN | apply IsS74.drew | apply IsS74.set_1 | apply IsS74.set_2) | exact HI254.out)) hb)
                   replace HB := Aside0.mk (below_step (by repeat (first | (with_reducible first | exact HB.out | apply below_alloc | apply pw_below_drewN | apply below_drew1 | refine below_set ?_ (IsS74.ge HI254.out)) | exact HB.out)) hb)
                   replace HO268 := n1_
                   replace HI254 := n3_
                   clear n1_ n3_
                   clear hb ho16
                   refine hK.out _ _ trivial (fun hHeld => ?_)
                   clear hK K
                   refine norm_ (a' := ?_) ?_ ?_
                   rotate_left
                   · show Act.put _ (some 14) _ = _
                     simp only [Act.put, List.setIfInBounds_toArray, List.set_cons_zero, List.set_cons_succ, i64_w, i32_w]
                     rfl
                   exact norm_ (by first | (simp only [putAll, Act.put, List.setIfInBounds_toArray, List.set_cons_zero, List.set_cons_succ]; done) | (simp only [putAll, Act.put, List.setIfInBounds_toArray, List.set_cons_zero, List.set_cons_succ]; rfl)) (hJ1_3_5_7_8 (v256, v264, v267) _ ⟨(rq HO257), (by (with_reducible repeat (first | apply Kd.R_alloc | apply Kd.R_drewN | apply Kd.R_drew)); exact Kd.R_mono HO265.out (fun _ hk => hk.2)), (by (with_reducible repeat (first | apply Kd.R_alloc | apply Kd.R_drewN | apply Kd.R_drew)); exact Kd.R_mono HO268.out (fun _ hk => hk.2)), (by repeat (first | (with_reducible first | exact HI254.out | apply IsS74.alloc | apply IsS74.drewN | apply IsS74.drew | apply IsS74.set_1 | apply IsS74.set_2) | exact HI254.out)), (by repeat (first | (with_reducible first | exact HB.out | apply below_alloc | apply pw_below_drewN | apply below_drew1 | refine below_set ?_ (IsS74.ge HI254.out)) | exact HB.out))⟩)
                 skip
                 rintro ⟨v256, v264, v267⟩ w15 ⟨h0_, h1_, h2_, h3_, h4_⟩
                 have n0_ : Aside0 (Kd.R (Kd.int .i64) 3 w15 w.heap.size (fun _ => True) v256 t255) := ⟨h0_⟩
                 have n1_ : Aside0 (Kd.R (Kd.int .u8) 5 w15 w.heap.size (fun k_ => some k_ ≠ (v267 : Value).ownBlock) v264 y263) := ⟨h1_⟩
                 have n2_ : Aside0 (Kd.R (Kd.int .u8) 5 w15 w.heap.size (fun k_ => some k_ ≠ (v264 : Value).ownBlock) v267 y266) := ⟨h2_⟩
                 have n3_ : Aside0 (IsS74 w w15 gb254 l0 t261 t262) := ⟨h3_⟩
                 have n4_ : Aside0 (Below w.heap.size w w15) := ⟨h4_⟩
                 clear HI254
                 clear HB
                 clear h0_ h1_ h2_ h3_ h4_
                 have HO257 := n0_
                 have HO265 := n1_
                 have HO268 := n2_
                 have HI254 := n3_
                 have HB := n4_
                 clear n0_ n1_ n2_ n3_ n4_
                 have hHeld := trivial
                 refine norm_ (a' := ?_) ?_ ?_
                 rotate_left
                 · simp only [putAll, Act.put, List.setIfInBounds_toArray, List.set_cons_zero, List.set_cons_succ]
                   rfl
                 refine two_ (i := 6) (j := 8) (Ni := some 15) (Nj := some 17) #[true, true, true, true, true, true, true, true, false, false, false, false, false, false] #[true, true, true, true, true, true, false, true, true, false, false, false, false, false] rfl rfl rfl rfl (two_of HT_.out (by kernel_rfl)) (by decide) (by decide) (fun K hK => ?_) (fun K hK => ?_)
                 · skip
                   have hcv16 := own_string (P := Try.prog) Try.underlying45 Try.underlying5 Try.underlying9 (Kd.own_of_R HO265.out)
                   refine value_ (w1 := ?_) (v := ?_) (by rfl) rfl ?_ ?_
                   rotate_left 2
                   · go_simp
                     constructor
                     · rfl
                     rfl
                   clear hcv16
                   refine hK.out _ _ trivial (fun hHeld => ?_)
                   clear hK K
                   refine norm_ (a' := ?_) ?_ ?_
                   rotate_left
                   · show Act.put _ (some 15) _ = _
                     simp only [Act.put, List.setIfInBounds_toArray, List.set_cons_zero, List.set_cons_succ, i64_w, i32_w]
                     rfl
                   exact norm_ (by first | (simp only [putAll, Act.put, List.setIfInBounds_toArray, List.set_cons_zero, List.set_cons_succ]; done) | (simp only [putAll, Act.put, List.setIfInBounds_toArray, List.set_cons_zero, List.set_cons_succ]; rfl)) (hJ1_3_5_6_7 (v256, v264, v267) _ ⟨(rq HO257), (rq HO265), (rq HO268), (by repeat (first | (with_reducible first | exact HI254.out | apply IsS74.alloc | apply IsS74.drewN | apply IsS74.drew | apply IsS74.set_1 | apply IsS74.set_2) | exact HI254.out)), (by repeat (first | (with_reducible first | exact HB.out | apply below_alloc | apply pw_below_drewN | apply below_drew1 | refine below_set ?_ (IsS74.ge HI254.out)) | exact HB.out))⟩)
                 skip
                 have hcv16 := own_string (P := Try.prog) Try.underlying45 Try.underlying5 Try.underlying9 (Kd.own_of_R HO268.out)
                 refine value_ (w1 := ?_) (v := ?_) (by rfl) rfl ?_ ?_
                 rotate_left 2
                 · go_simp
                   constructor
                   · rfl
                   rfl
                 clear hcv16
                 refine hK.out _ _ trivial (fun hHeld => ?_)
                 clear hK K
                 refine norm_ (a' := ?_) ?_ ?_
                 rotate_left
                 · show Act.put _ (some 17) _ = _
                   simp only [Act.put, List.setIfInBounds_toArray, List.set_cons_zero, List.set_cons_succ, i64_w, i32_w]
                   rfl
                 exact norm_ (by first | (simp only [putAll, Act.put, List.setIfInBounds_toArray, List.set_cons_zero, List.set_cons_succ]; done) | (simp only [putAll, Act.put, List.setIfInBounds_toArray, List.set_cons_zero, List.set_cons_succ]; rfl)) (hJ1_3_5_7_8 (v256, v264, v267) _ ⟨(rq HO257), (rq HO265), (rq HO268), (by repeat (first | (with_reducible first | exact HI254.out | apply IsS74.alloc | apply IsS74.drewN | apply IsS74.drew | apply IsS74.set_1 | apply IsS74.set_2) | exact HI254.out)), (by repeat (first | (with_reducible first | exact HB.out | apply below_alloc | apply pw_below_drewN | apply below_drew1 | refine below_set ?_ (IsS74.ge HI254.out)) | exact HB.out))⟩)
               skip
               rintro ⟨v256, v264⟩ w14 ⟨h0_, h1_, h2_, h3_⟩
               have n0_ : Aside0 (Kd.R (Kd.int .i64) 3 w14 w.heap.size (fun _ => True) v256 t255) := ⟨h0_⟩
               have n1_ : Aside0 (Kd.R (Kd.int .u8) 5 w14 w.heap.size (fun _ => True) v264 y263) := ⟨h1_⟩
               have n2_ : Aside0 (IsS74 w w14 gb254 l0 t261 t262) := ⟨h2_⟩
               have n3_ : Aside0 (Below w.heap.size w w14) := ⟨h3_⟩
               clear HI254
               clear HB
               clear h0_ h1_ h2_ h3_
               have HO257 := n0_
               have HO265 := n1_
               have HI254 := n2_
               have HB := n3_
               clear n0_ n1_ n2_ n3_
               have hHeld := trivial
               refine norm_ (a' := ?_) ?_ ?_
               rotate_left
               · simp only [putAll, Act.put, List.setIfInBounds_toArray, List.set_cons_zero, List.set_cons_succ]
                 rfl
               refine one_ (i := 7) (N := some 16) #[true, true, true, true, true, true, true, true, false, false, false, false, false, false] rfl rfl (one_of HT_.out (by kernel_rfl)) (by decide) (fun K hK => ?_)
               refine Kd.R_make_step (Kd.int .u8) _ 5 (by rfl) (N := 16) rfl 45 _ _ rfl 42 rfl rfl Try.underlying45 (.int .u8 0) 1 info5 rfl (by decide) (by omega) 0 (ok := fun _ => True) (okp := fun _ => True) rfl (fun _ hk => hk) trivial (by omega) (by omega) (Below.refl _ _) (Nat.le_refl _) ?_
               intro v267 w15 ho16 hb hg_ hnew_
               clear hg_ hnew_
               (first | rw [← Ny266.out] at ho16 | (simp only [Int.reduceToNat] at ho16; rw [← Ny266.out] at ho16))
               replace HO257 := cb HO257 hb
               have n1_ := ce HO265 ho16 hb
               have HO268 := Aside0.mk (Kd.R_lower (Kd.R_new' ho16 (ql HO265)) (below_size (by repeat (first | (with_reducible first | exact HB.out | apply below_alloc | apply pw_below_drewN | apply below_drew1 | refine below_set ?_ (IsS74.ge HI254.out)) | exact HB.out))))
               have n3_ := Aside0.mk (IsS74.below (by repeat (first | (with_reducible first | exact HI254.out | apply IsS74.alloc | apply IsS74.drewN | apply IsS74.drew | apply IsS74.set_1 | apply IsS74.set_2) | exact HI254.out)) hb)
               replace HB := Aside0.mk (below_step (by repeat (first | (with_reducible first | exact HB.out | apply below_alloc | apply pw_below_drewN | apply below_drew1 | refine below_set ?_ (IsS74.ge HI254.out)) | exact HB.out)) hb)
               replace HO265 := n1_
               replace HI254 := n3_
               clear n1_ n3_
               clear hb ho16
               refine hK.out _ _ trivial (fun hHeld => ?_)
               clear hK K
               refine norm_ (a' := ?_) ?_ ?_
               rotate_left
               · show Act.put _ (some 16) _ = _
                 simp only [Act.put, List.setIfInBounds_toArray, List.set_cons_zero, List.set_cons_succ, i64_w, i32_w]
                 rfl
               exact norm_ (by first | (simp only [putAll, Act.put, List.setIfInBounds_toArray, List.set_cons_zero, List.set_cons_succ]; done) | (simp only [putAll, Act.put, List.setIfInBounds_toArray, List.set_cons_zero, List.set_cons_succ]; rfl)) (hJ1_3_5_6_7 (v256, v264, v267) _ ⟨(rq HO257), (by (with_reducible repeat (first | apply Kd.R_alloc | apply Kd.R_drewN | apply Kd.R_drew)); exact Kd.R_mono HO265.out (fun _ hk => hk.2)), (by (with_reducible repeat (first | apply Kd.R_alloc | apply Kd.R_drewN | apply Kd.R_drew)); exact Kd.R_mono HO268.out (fun _ hk => hk.2)), (by repeat (first | (with_reducible first | exact HI254.out | apply IsS74.alloc | apply IsS74.drewN | apply IsS74.drew | apply IsS74.set_1 | apply IsS74.set_2) | exact HI254.out)), (by repeat (first | (with_reducible first | exact HB.out | apply below_alloc | apply pw_below_drewN | apply below_drew1 | refine below_set ?_ (IsS74.ge HI254.out)) | exact HB.out))⟩)
             skip
             rintro ⟨v264, v267, v270⟩ w17 ⟨h0_, h1_, h2_, h3_, h4_⟩
             have n0_ : Aside0 (Kd.R (Kd.int .u8) 5 w17 w.heap.size (fun k_ => some k_ ≠ (v267 : Value).ownBlock) v264 y263) := ⟨h0_⟩
             have n1_ : Aside0 (Kd.R (Kd.int .u8) 5 w17 w.heap.size (fun k_ => some k_ ≠ (v264 : Value).ownBlock) v267 y266) := ⟨h1_⟩
             have n2_ : Aside0 (Kd.R Kd.string 9 w17 w.heap.size (fun _ => True) v270 y269) := ⟨h2_⟩
             have n3_ : Aside0 (IsS74 w w17 gb254 l0 0 0) := ⟨h3_⟩
             have n4_ : Aside0 (Below w.heap.size w w17) := ⟨h4_⟩
             clear HI254
             clear HB
             clear h0_ h1_ h2_ h3_ h4_
             have HO265 := n0_
             have HO268 := n1_
             have HO271 := n2_
             have HI254 := n3_
             have HB := n4_
             clear n0_ n1_ n2_ n3_ n4_
             have hHeld := trivial
             refine norm_ (a' := ?_) ?_ ?_
             rotate_left
             · simp only [putAll, Act.put, List.setIfInBounds_toArray, List.set_cons_zero, List.set_cons_succ]
               rfl
             refine one_ (i := 1) (N := some 10) #[true, true, true, false, true, true, true, true, true, true, false, false, false, false] rfl rfl (one_of HT_.out (by kernel_rfl)) (by decide) (fun K hK => ?_)
             refine goes_ Try.func83 (by kernel_rfl) rfl #[.pointer (some ⟨gb254, 0, none⟩)] (by rfl) rfl rfl (by (try simp only [List.map_toArray, List.map_cons, List.map_nil]); first | done | rfl | (simp only [List.length_drop, List.length_take]; rfl)) ?_
             with_reducible refine (spec_l1Cur_keys.calls k gb254 l0 0 0 t255 t258 t259 w _ ?side1 ?side2 A2.out).mono ?_
             (case side1 => repeat (first | (with_reducible first | exact HI254.out | apply IsS74.alloc | apply IsS74.drewN | apply IsS74.drew | apply IsS74.set_1 | apply IsS74.set_2) | exact HI254.out))
             (case side2 => repeat (first | (with_reducible first | exact HB.out | apply below_alloc | apply pw_below_drewN | apply below_drew1 | refine below_set ?_ (IsS74.ge HI254.out)) | exact HB.out))
             rintro e w18 ⟨v256, rfl, ho0, hi, hb, hk⟩
             refine ⟨_, rfl, ?_⟩
             replace HO265 := Aside0.mk (Kd.R_mono (Kd.R_keep (IsS74.apart (show IsS74 w _ gb254 l0 0 0 from by repeat (first | (with_reducible first | exact HI254.out | apply IsS74.alloc | apply IsS74.drewN | apply IsS74.drew | apply IsS74.set_1 | apply IsS74.set_2) | exact HI254.out)) (rq HO265) (by decide)) hk (fun _ h => h.2)) (fun _ h => h.1))
             replace HO268 := Aside0.mk (Kd.R_mono (Kd.R_keep (IsS74.apart (show IsS74 w _ gb254 l0 0 0 from by repeat (first | (with_reducible first | exact HI254.out | apply IsS74.alloc | apply IsS74.drewN | apply IsS74.drew | apply IsS74.set_1 | apply IsS74.set_2) | exact HI254.out)) (rq HO268) (by decide)) hk (fun _ h => h.2)) (fun _ h => h.1))
             replace HO271 := Aside0.mk (Kd.R_mono (Kd.R_keep (IsS74.apart (show IsS74 w _ gb254 l0 0 0 from by repeat (first | (with_reducible first | exact HI254.out | apply IsS74.alloc | apply IsS74.drewN | apply IsS74.drew | apply IsS74.set_1 | apply IsS74.set_2) | exact HI254.out)) (rq HO271) (by decide)) hk (fun _ h => h.2)) (fun _ h => h.1))
             have HO257 := Aside0.mk (Kd.R_lower ho0 (below_size (by repeat (first | (with_reducible first | exact HB.out | apply below_alloc | apply pw_below_drewN | apply below_drew1 | refine below_set ?_ (IsS74.ge HI254.out)) | exact HB.out))))
             replace HB := Aside0.mk (hb)
             replace HI254 := Aside0.mk (hi)
             (try clear hb)
             (try clear hb2)
             (try clear hk)
             (try clear hi)
             (try clear ho0)
             refine hK.out _ _ trivial (fun hHeld => ?_)
             clear hK K
             refine norm_ (a' := ?_) ?_ ?_
             rotate_left
             · show Act.put _ (some 10) _ = _
               simp only [Act.put, List.setIfInBounds_toArray, List.set_cons_zero, List.set_cons_succ, i64_w, i32_w]
               rfl
             exact norm_ (by first | (simp only [putAll, Act.put, List.setIfInBounds_toArray, List.set_cons_zero, List.set_cons_succ]; done) | (simp only [putAll, Act.put, List.setIfInBounds_toArray, List.set_cons_zero, List.set_cons_succ]; rfl)) (hJ1_5_6_7_8_9 (v256, v264, v267, v270) _ ⟨(rq HO257), (rq HO265), (rq HO268), (rq HO271), (by repeat (first | (with_reducible first | exact HI254.out | apply IsS74.alloc | apply IsS74.drewN | apply IsS74.drew | apply IsS74.set_1 | apply IsS74.set_2) | exact HI254.out)), (by repeat (first | (with_reducible first | exact HB.out | apply below_alloc | apply pw_below_drewN | apply below_drew1 | refine below_set ?_ (IsS74.ge HI254.out)) | exact HB.out))⟩)
           skip
           rintro ⟨v256, v264, v267⟩ w16 ⟨h0_, h1_, h2_, h3_, h4_⟩
           have n0_ : Aside0 (Kd.R (Kd.int .i64) 3 w16 w.heap.size (fun _ => True) v256 t255) := ⟨h0_⟩
           have n1_ : Aside0 (Kd.R (Kd.int .u8) 5 w16 w.heap.size (fun k_ => some k_ ≠ (v267 : Value).ownBlock) v264 y263) := ⟨h1_⟩
           have n2_ : Aside0 (Kd.R (Kd.int .u8) 5 w16 w.heap.size (fun k_ => some k_ ≠ (v264 : Value).ownBlock) v267 y266) := ⟨h2_⟩
           have n3_ : Aside0 (IsS74 w w16 gb254 l0 t258 t259) := ⟨h3_⟩
           have n4_ : Aside0 (Below w.heap.size w w16) := ⟨h4_⟩
           clear HI254
           clear HB
           clear h0_ h1_ h2_ h3_ h4_
           have HO257 := n0_
           have HO265 := n1_
           have HO268 := n2_
           have HI254 := n3_
           have HB := n4_
           clear n0_ n1_ n2_ n3_ n4_
           have hHeld := trivial
           refine norm_ (a' := ?_) ?_ ?_
           rotate_left
           · simp only [putAll, Act.put, List.setIfInBounds_toArray, List.set_cons_zero, List.set_cons_succ]
             rfl
           refine two_ (i := 3) (j := 9) (Ni := some 12) (Nj := some 18) #[true, true, true, true, true, true, true, true, true, false, false, false, false, false] #[true, true, true, false, true, true, true, true, true, true, false, false, false, false] rfl rfl rfl rfl (two_of HT_.out (by kernel_rfl)) (by decide) (by decide) (fun K hK => ?_) (fun K hK => ?_)
           · skip
             refine goes_ Try.func84 (by kernel_rfl) rfl #[.pointer (some ⟨gb254, 0, none⟩)] (by rfl) rfl rfl (by (try simp only [List.map_toArray, List.map_cons, List.map_nil]); first | done | rfl | (simp only [List.length_drop, List.length_take]; rfl)) ?_
             with_reducible refine (spec_l1Cur_block.calls gb254 l0 t258 t259 t260 t261 t262 w _ ?side1 ?side2 A3.out).mono ?_
             (case side1 => repeat (first | (with_reducible first | exact HI254.out | apply IsS74.alloc | apply IsS74.drewN | apply IsS74.drew | apply IsS74.set_1 | apply IsS74.set_2) | exact HI254.out))
             (case side2 => repeat (first | (with_reducible first | exact HB.out | apply below_alloc | apply pw_below_drewN | apply below_drew1 | refine below_set ?_ (IsS74.ge HI254.out)) | exact HB.out))
             rintro e w17 ⟨rfl, hi, hb, hk⟩
             refine ⟨_, rfl, ?_⟩
             replace HO257 := Aside0.mk (Kd.R_mono (Kd.R_keep (IsS74.apart (show IsS74 w _ gb254 l0 t258 t259 from by repeat (first | (with_reducible first | exact HI254.out | apply IsS74.alloc | apply IsS74.drewN | apply IsS74.drew | apply IsS74.set_1 | apply IsS74.set_2) | exact HI254.out)) (rq HO257) (by decide)) hk (fun _ h => h.2)) (fun _ h => h.1))
             replace HO265 := Aside0.mk (Kd.R_mono (Kd.R_keep (IsS74.apart (show IsS74 w _ gb254 l0 t258 t259 from by repeat (first | (with_reducible first | exact HI254.out | apply IsS74.alloc | apply IsS74.drewN | apply IsS74.drew | apply IsS74.set_1 | apply IsS74.set_2) | exact HI254.out)) (rq HO265) (by decide)) hk (fun _ h => h.2)) (fun _ h => h.1))
             replace HO268 := Aside0.mk (Kd.R_mono (Kd.R_keep (IsS74.apart (show IsS74 w _ gb254 l0 t258 t259 from by repeat (first | (with_reducible first | exact HI254.out | apply IsS74.alloc | apply IsS74.drewN | apply IsS74.drew | apply IsS74.set_1 | apply IsS74.set_2) | exact HI254.out)) (rq HO268) (by decide)) hk (fun _ h => h.2)) (fun _ h => h.1))
             replace HB := Aside0.mk (hb)
             replace HI254 := Aside0.mk (hi)
             (try clear hb)
             (try clear hb2)
             (try clear hk)
             (try clear hi)
             refine hK.out _ _ trivial (fun hHeld => ?_)
             clear hK K
             refine norm_ (a' := ?_) ?_ ?_
             rotate_left
             · show Act.put _ (some 12) _ = _
               simp only [Act.put, List.setIfInBounds_toArray, List.set_cons_zero, List.set_cons_succ, i64_w, i32_w]
               rfl
             exact norm_ (by first | (simp only [putAll, Act.put, List.setIfInBounds_toArray, List.set_cons_zero, List.set_cons_succ]; done) | (simp only [putAll, Act.put, List.setIfInBounds_toArray, List.set_cons_zero, List.set_cons_succ]; rfl)) (hJ1_3_5_6_7_8 (v256, v264, v267) _ ⟨(rq HO257), (rq HO265), (rq HO268), (by repeat (first | (with_reducible first | exact HI254.out | apply IsS74.alloc | apply IsS74.drewN | apply IsS74.drew | apply IsS74.set_1 | apply IsS74.set_2) | exact HI254.out)), (by repeat (first | (with_reducible first | exact HB.out | apply below_alloc | apply pw_below_drewN | apply below_drew1 | refine below_set ?_ (IsS74.ge HI254.out)) | exact HB.out))⟩)
           skip
           refine Kd.R_lit_step Kd.string _ 9 ?hg (N := 18) ?hd (xs := ([(⟨#[]⟩ : ByteArray), (⟨#[97, 98]⟩ : ByteArray), (⟨#[97, 98, 99]⟩ : ByteArray), (⟨#[115, 111, 109, 101, 32, 116, 101, 120, 116, 33]⟩ : ByteArray), strOfNums y263, strOfNums y266] : List ByteArray)) (inner := [.string (⟨#[]⟩ : ByteArray), .string (⟨#[97, 98]⟩ : ByteArray), .string (⟨#[97, 98, 99]⟩ : ByteArray), .string (⟨#[115, 111, 109, 101, 32, 116, 101, 120, 116, 33]⟩ : ByteArray), .string (strOfNums y263), .string (strOfNums y266)]) (ok := fun _ => True) (okp := fun _ => True) ?hr ?hp (fun _ hk => hk) trivial (Below.refl _ _) (Nat.le_refl _) (by simp) ?_; (case hd => rfl); (case hg => rfl); (case hr => first | (go_simp; done) | (go_simp; rfl)); (case hp => exact (Reps.one (show Kd.M Kd.string _ _ _ (⟨#[]⟩ : ByteArray) [.string (⟨#[]⟩ : ByteArray)] from rfl) (Reps.one (show Kd.M Kd.string _ _ _ (⟨#[97, 98]⟩ : ByteArray) [.string (⟨#[97, 98]⟩ : ByteArray)] from rfl) (Reps.one (show Kd.M Kd.string _ _ _ (⟨#[97, 98, 99]⟩ : ByteArray) [.string (⟨#[97, 98, 99]⟩ : ByteArray)] from rfl) (Reps.one (show Kd.M Kd.string _ _ _ (⟨#[115, 111, 109, 101, 32, 116, 101, 120, 116, 33]⟩ : ByteArray) [.string (⟨#[115, 111, 109, 101, 32, 116, 101, 120, 116, 33]⟩ : ByteArray)] from rfl) (Reps.one (show Kd.M Kd.string _ _ _ (strOfNums y263) [.string (strOfNums y263)] from rfl) (Reps.one (show Kd.M Kd.string _ _ _ (strOfNums y266) [.string (strOfNums y266)] from rfl) (Reps.none _ _))))))))
           intro v270 w17 ho18 hb hg_ hnew_
           clear hg_ hnew_
           (first | rw [← Ny269.out] at ho18 | (simp only [Int.reduceToNat] at ho18; rw [← Ny269.out] at ho18))
           replace HO257 := cb HO257 hb
           replace HO265 := cb HO265 hb
           replace HO268 := cb HO268 hb
           have HO271 := Aside0.mk (Kd.R_lower ho18 (below_size (by repeat (first | (with_reducible first | exact HB.out | apply below_alloc | apply pw_below_drewN | apply below_drew1 | refine below_set ?_ (IsS74.ge HI254.out)) | exact HB.out))))
           have n4_ := Aside0.mk (IsS74.below (by repeat (first | (with_reducible first | exact HI254.out | apply IsS74.alloc | apply IsS74.drewN | apply IsS74.drew | apply IsS74.set_1 | apply IsS74.set_2) | exact HI254.out)) hb)
           replace HB := Aside0.mk (below_step (by repeat (first | (with_reducible first | exact HB.out | apply below_alloc | apply pw_below_drewN | apply below_drew1 | refine below_set ?_ (IsS74.ge HI254.out)) | exact HB.out)) hb)
           replace HI254 := n4_
           clear n4_
           clear hb ho18
           refine hK.out _ _ trivial (fun hHeld => ?_)
           clear hK K
           refine norm_ (a' := ?_) ?_ ?_
           rotate_left
           · show Act.put _ (some 18) _ = _
             simp only [Act.put, List.setIfInBounds_toArray, List.set_cons_zero, List.set_cons_succ, i64_w, i32_w]
             rfl
           exact norm_ (by first | (simp only [putAll, Act.put, List.setIfInBounds_toArray, List.set_cons_zero, List.set_cons_succ]; done) | (simp only [putAll, Act.put, List.setIfInBounds_toArray, List.set_cons_zero, List.set_cons_succ]; rfl)) (hJ1_5_6_7_8_9 (v256, v264, v267, v270) _ ⟨(rq HO257), (rq HO265), (rq HO268), (rq HO271), (by repeat (first | (with_reducible first | exact HI254.out | apply IsS74.alloc | apply IsS74.drewN | apply IsS74.drew | apply IsS74.set_1 | apply IsS74.set_2) | exact HI254.out)), (by repeat (first | (with_reducible first | exact HB.out | apply below_alloc | apply pw_below_drewN | apply below_drew1 | refine below_set ?_ (IsS74.ge HI254.out)) | exact HB.out))⟩)
         skip
         rintro ⟨v256, v264, v267⟩ w16 ⟨h0_, h1_, h2_, h3_, h4_⟩
         have n0_ : Aside0 (Kd.R (Kd.int .i64) 3 w16 w.heap.size (fun _ => True) v256 t255) := ⟨h0_⟩
         have n1_ : Aside0 (Kd.R (Kd.int .u8) 5 w16 w.heap.size (fun k_ => some k_ ≠ (v267 : Value).ownBlock) v264 y263) := ⟨h1_⟩
         have n2_ : Aside0 (Kd.R (Kd.int .u8) 5 w16 w.heap.size (fun k_ => some k_ ≠ (v264 : Value).ownBlock) v267 y266) := ⟨h2_⟩
         have n3_ : Aside0 (IsS74 w w16 gb254 l0 t261 t262) := ⟨h3_⟩
         have n4_ : Aside0 (Below w.heap.size w w16) := ⟨h4_⟩
         clear HI254
         clear HB
         clear h0_ h1_ h2_ h3_ h4_
         have HO257 := n0_
         have HO265 := n1_
         have HO268 := n2_
         have HI254 := n3_
         have HB := n4_
         clear n0_ n1_ n2_ n3_ n4_
         have hHeld := trivial
         refine norm_ (a' := ?_) ?_ ?_
         rotate_left
         · simp only [putAll, Act.put, List.setIfInBounds_toArray, List.set_cons_zero, List.set_cons_succ]
           rfl
         refine one_ (i := 6) (N := some 15) #[true, true, true, true, true, true, true, true, true, false, false, false, false, false] rfl rfl (one_of HT_.out (by kernel_rfl)) (by decide) (fun K hK => ?_)
         have hcv17 := own_string (P := Try.prog) Try.underlying45 Try.underlying5 Try.underlying9 (Kd.own_of_R HO265.out)
         refine value_ (w1 := ?_) (v := ?_) (by rfl) rfl ?_ ?_
         rotate_left 2
         · go_simp
           constructor
           · rfl
           rfl
         clear hcv17
         refine hK.out _ _ trivial (fun hHeld => ?_)
         clear hK K
         refine norm_ (a' := ?_) ?_ ?_
         rotate_left
         · show Act.put _ (some 15) _ = _
           simp only [Act.put, List.setIfInBounds_toArray, List.set_cons_zero, List.set_cons_succ, i64_w, i32_w]
           rfl
         exact norm_ (by first | (simp only [putAll, Act.put, List.setIfInBounds_toArray, List.set_cons_zero, List.set_cons_succ]; done) | (simp only [putAll, Act.put, List.setIfInBounds_toArray, List.set_cons_zero, List.set_cons_succ]; rfl)) (hJ1_3_5_6_7_8 (v256, v264, v267) _ ⟨(rq HO257), (rq HO265), (rq HO268), (by repeat (first | (with_reducible first | exact HI254.out | apply IsS74.alloc | apply IsS74.drewN | apply IsS74.drew | apply IsS74.set_1 | apply IsS74.set_2) | exact HI254.out)), (by repeat (first | (with_reducible first | exact HB.out | apply below_alloc | apply pw_below_drewN | apply below_drew1 | refine below_set ?_ (IsS74.ge HI254.out)) | exact HB.out))⟩)
       skip
       rintro ⟨v256, v264, v267⟩ w16 ⟨h0_, h1_, h2_, h3_, h4_⟩
       have n0_ : Aside0 (Kd.R (Kd.int .i64) 3 w16 w.heap.size (fun _ => True) v256 t255) := ⟨h0_⟩
       have n1_ : Aside0 (Kd.R (Kd.int .u8) 5 w16 w.heap.size (fun k_ => some k_ ≠ (v267 : Value).ownBlock) v264 y263) := ⟨h1_⟩
       have n2_ : Aside0 (Kd.R (Kd.int .u8) 5 w16 w.heap.size (fun k_ => some k_ ≠ (v264 : Value).ownBlock) v267 y266) := ⟨h2_⟩
       have n3_ : Aside0 (IsS74 w w16 gb254 l0 t261 t262) := ⟨h3_⟩
       have n4_ : Aside0 (Below w.heap.size w w16) := ⟨h4_⟩
       clear HI254
       clear HB
       clear h0_ h1_ h2_ h3_ h4_
       have HO257 := n0_
       have HO265 := n1_
       have HO268 := n2_
       have HI254 := n3_
       have HB := n4_
       clear n0_ n1_ n2_ n3_ n4_
       have hHeld := trivial
       refine norm_ (a' := ?_) ?_ ?_
       rotate_left
       · simp only [putAll, Act.put, List.setIfInBounds_toArray, List.set_cons_zero, List.set_cons_succ]
         rfl
       refine one_ (i := 8) (N := some 17) #[true, true, true, true, true, true, true, true, true, false, false, false, false, false] rfl rfl (one_of HT_.out (by kernel_rfl)) (by decide) (fun K hK => ?_)
       have hcv17 := own_string (P := Try.prog) Try.underlying45 Try.underlying5 Try.underlying9 (Kd.own_of_R HO268.out)
       refine value_ (w1 := ?_) (v := ?_) (by rfl) rfl ?_ ?_
       rotate_left 2
       · go_simp
         constructor
         · rfl
         rfl
       clear hcv17
       refine hK.out _ _ trivial (fun hHeld => ?_)
       clear hK K
       refine norm_ (a' := ?_) ?_ ?_
       rotate_left
       · show Act.put _ (some 17) _ = _
         simp only [Act.put, List.setIfInBounds_toArray, List.set_cons_zero, List.set_cons_succ, i64_w, i32_w]
         rfl
       exact norm_ (by first | (simp only [putAll, Act.put, List.setIfInBounds_toArray, List.set_cons_zero, List.set_cons_succ]; done) | (simp only [putAll, Act.put, List.setIfInBounds_toArray, List.set_cons_zero, List.set_cons_succ]; rfl)) (hJ1_3_5_6_7_8 (v256, v264, v267) _ ⟨(rq HO257), (rq HO265), (rq HO268), (by repeat (first | (with_reducible first | exact HI254.out | apply IsS74.alloc | apply IsS74.drewN | apply IsS74.drew | apply IsS74.set_1 | apply IsS74.set_2) | exact HI254.out)), (by repeat (first | (with_reducible first | exact HB.out | apply below_alloc | apply pw_below_drewN | apply below_drew1 | refine below_set ?_ (IsS74.ge HI254.out)) | exact HB.out))⟩)
     skip
     rintro ⟨v256, v264, v267, v270⟩ w18 ⟨h0_, h1_, h2_, h3_, h4_, h5_⟩
     have n0_ : Aside0 (Kd.R (Kd.int .i64) 3 w18 w.heap.size (fun _ => True) v256 t255) := ⟨h0_⟩
     have n1_ : Aside0 (Kd.R (Kd.int .u8) 5 w18 w.heap.size (fun k_ => some k_ ≠ (v267 : Value).ownBlock) v264 y263) := ⟨h1_⟩
     have n2_ : Aside0 (Kd.R (Kd.int .u8) 5 w18 w.heap.size (fun k_ => some k_ ≠ (v264 : Value).ownBlock) v267 y266) := ⟨h2_⟩
     have n3_ : Aside0 (Kd.R Kd.string 9 w18 w.heap.size (fun _ => True) v270 y269) := ⟨h3_⟩
     have n4_ : Aside0 (IsS74 w w18 gb254 l0 t258 t259) := ⟨h4_⟩
     have n5_ : Aside0 (Below w.heap.size w w18) := ⟨h5_⟩
     clear HI254
     clear HB
     clear h0_ h1_ h2_ h3_ h4_ h5_
     have HO257 := n0_
     have HO265 := n1_
     have HO268 := n2_
     have HO271 := n3_
     have HI254 := n4_
     have HB := n5_
     clear n0_ n1_ n2_ n3_ n4_ n5_
     have hHeld := trivial
     refine norm_ (a' := ?_) ?_ ?_
     rotate_left
     · simp only [putAll, Act.put, List.setIfInBounds_toArray, List.set_cons_zero, List.set_cons_succ]
       rfl
     refine one_ (i := 3) (N := some 12) #[true, true, true, true, true, true, true, true, true, true, false, false, false, false] rfl rfl (one_of HT_.out (by kernel_rfl)) (by decide) (fun K hK => ?_)
     refine goes_ Try.func84 (by kernel_rfl) rfl #[.pointer (some ⟨gb254, 0, none⟩)] (by rfl) rfl rfl (by (try simp only [List.map_toArray, List.map_cons, List.map_nil]); first | done | rfl | (simp only [List.length_drop, List.length_take]; rfl)) ?_
     with_reducible refine (spec_l1Cur_block.calls gb254 l0 t258 t259 t260 t261 t262 w _ ?side1 ?side2 A3.out).mono ?_
     (case side1 => repeat (first | (with_reducible first | exact HI254.out | apply IsS74.alloc | apply IsS74.drewN | apply IsS74.drew | apply IsS74.set_1 | apply IsS74.set_2) | exact HI254.out))
     (case side2 => repeat (first | (with_reducible first | exact HB.out | apply below_alloc | apply pw_below_drewN | apply below_drew1 | refine below_set ?_ (IsS74.ge HI254.out)) | exact HB.out))
     rintro e w19 ⟨rfl, hi, hb, hk⟩
     refine ⟨_, rfl, ?_⟩
     replace HO257 := Aside0.mk (Kd.R_mono (Kd.R_keep (IsS74.apart (show IsS74 w _ gb254 l0 t258 t259 from by repeat (first | (with_reducible first | exact HI254.out | apply IsS74.alloc | apply IsS74.drewN | apply IsS74.drew | apply IsS74.set_1 | apply IsS74.set_2) | exact HI254.out)) (rq HO257) (by decide)) hk (fun _ h => h.2)) (fun _ h => h.1))
     replace HO265 := Aside0.mk (Kd.R_mono (Kd.R_keep (IsS74.apart (show IsS74 w _ gb254 l0 t258 t259 from by repeat (first | (with_reducible first | exact HI254.out | apply IsS74.alloc | apply IsS74.drewN | apply IsS74.drew | apply IsS74.set_1 | apply IsS74.set_2) | exact HI254.out)) (rq HO265) (by decide)) hk (fun _ h => h.2)) (fun _ h => h.1))
     replace HO268 := Aside0.mk (Kd.R_mono (Kd.R_keep (IsS74.apart (show IsS74 w _ gb254 l0 t258 t259 from by repeat (first | (with_reducible first | exact HI254.out | apply IsS74.alloc | apply IsS74.drewN | apply IsS74.drew | apply IsS74.set_1 | apply IsS74.set_2) | exact HI254.out)) (rq HO268) (by decide)) hk (fun _ h => h.2)) (fun _ h => h.1))
     replace HO271 := Aside0.mk (Kd.R_mono (Kd.R_keep (IsS74.apart (show IsS74 w _ gb254 l0 t258 t259 from by repeat (first | (with_reducible first | exact HI254.out | apply IsS74.alloc | apply IsS74.drewN | apply IsS74.drew | apply IsS74.set_1 | apply IsS74.set_2) | exact HI254.out)) (rq HO271) (by decide)) hk (fun _ h => h.2)) (fun _ h => h.1))
     replace HB := Aside0.mk (hb)
     replace HI254 := Aside0.mk (hi)
     (try clear hb)
     (try clear hb2)
     (try clear hk)
     (try clear hi)
     refine hK.out _ _ trivial (fun hHeld => ?_)
     clear hK K
     refine norm_ (a' := ?_) ?_ ?_
     rotate_left
     · show Act.put _ (some 12) _ = _
       simp only [Act.put, List.setIfInBounds_toArray, List.set_cons_zero, List.set_cons_succ, i64_w, i32_w]
       rfl
     exact norm_ (by first | (simp only [putAll, Act.put, List.setIfInBounds_toArray, List.set_cons_zero, List.set_cons_succ]; done) | (simp only [putAll, Act.put, List.setIfInBounds_toArray, List.set_cons_zero, List.set_cons_succ]; rfl)) (hJ1_3_5_6_7_8_9 (v256, v264, v267, v270) _ ⟨(rq HO257), (rq HO265), (rq HO268), (rq HO271), (by repeat (first | (with_reducible first | exact HI254.out | apply IsS74.alloc | apply IsS74.drewN | apply IsS74.drew | apply IsS74.set_1 | apply IsS74.set_2) | exact HI254.out)), (by repeat (first | (with_reducible first | exact HB.out | apply below_alloc | apply pw_below_drewN | apply below_drew1 | refine below_set ?_ (IsS74.ge HI254.out)) | exact HB.out))⟩)
   skip
   rintro ⟨v256, v264, v267⟩ w17 ⟨h0_, h1_, h2_, h3_, h4_⟩
   have n0_ : Aside0 (Kd.R (Kd.int .i64) 3 w17 w.heap.size (fun _ => True) v256 t255) := ⟨h0_⟩
   have n1_ : Aside0 (Kd.R (Kd.int .u8) 5 w17 w.heap.size (fun k_ => some k_ ≠ (v267 : Value).ownBlock) v264 y263) := ⟨h1_⟩
   have n2_ : Aside0 (Kd.R (Kd.int .u8) 5 w17 w.heap.size (fun k_ => some k_ ≠ (v264 : Value).ownBlock) v267 y266) := ⟨h2_⟩
   have n3_ : Aside0 (IsS74 w w17 gb254 l0 t261 t262) := ⟨h3_⟩
   have n4_ : Aside0 (Below w.heap.size w w17) := ⟨h4_⟩
   clear HI254
   clear HB
   clear h0_ h1_ h2_ h3_ h4_
   have HO257 := n0_
   have HO265 := n1_
   have HO268 := n2_
   have HI254 := n3_
   have HB := n4_
   clear n0_ n1_ n2_ n3_ n4_
   have hHeld := trivial
   refine norm_ (a' := ?_) ?_ ?_
   rotate_left
   · simp only [putAll, Act.put, List.setIfInBounds_toArray, List.set_cons_zero, List.set_cons_succ]
     rfl
   refine one_ (i := 9) (N := some 18) #[true, true, true, true, true, true, true, true, true, true, false, false, false, false] rfl rfl (one_of HT_.out (by kernel_rfl)) (by decide) (fun K hK => ?_)
   refine Kd.R_lit_step Kd.string _ 9 ?hg (N := 18) ?hd (xs := ([(⟨#[]⟩ : ByteArray), (⟨#[97, 98]⟩ : ByteArray), (⟨#[97, 98, 99]⟩ : ByteArray), (⟨#[115, 111, 109, 101, 32, 116, 101, 120, 116, 33]⟩ : ByteArray), strOfNums y263, strOfNums y266] : List ByteArray)) (inner := [.string (⟨#[]⟩ : ByteArray), .string (⟨#[97, 98]⟩ : ByteArray), .string (⟨#[97, 98, 99]⟩ : ByteArray), .string (⟨#[115, 111, 109, 101, 32, 116, 101, 120, 116, 33]⟩ : ByteArray), .string (strOfNums y263), .string (strOfNums y266)]) (ok := fun _ => True) (okp := fun _ => True) ?hr ?hp (fun _ hk => hk) trivial (Below.refl _ _) (Nat.le_refl _) (by simp) ?_; (case hd => rfl); (case hg => rfl); (case hr => first | (go_simp; done) | (go_simp; rfl)); (case hp => exact (Reps.one (show Kd.M Kd.string _ _ _ (⟨#[]⟩ : ByteArray) [.string (⟨#[]⟩ : ByteArray)] from rfl) (Reps.one (show Kd.M Kd.string _ _ _ (⟨#[97, 98]⟩ : ByteArray) [.string (⟨#[97, 98]⟩ : ByteArray)] from rfl) (Reps.one (show Kd.M Kd.string _ _ _ (⟨#[97, 98, 99]⟩ : ByteArray) [.string (⟨#[97, 98, 99]⟩ : ByteArray)] from rfl) (Reps.one (show Kd.M Kd.string _ _ _ (⟨#[115, 111, 109, 101, 32, 116, 101, 120, 116, 33]⟩ : ByteArray) [.string (⟨#[115, 111, 109, 101, 32, 116, 101, 120, 116, 33]⟩ : ByteArray)] from rfl) (Reps.one (show Kd.M Kd.string _ _ _ (strOfNums y263) [.string (strOfNums y263)] from rfl) (Reps.one (show Kd.M Kd.string _ _ _ (strOfNums y266) [.string (strOfNums y266)] from rfl) (Reps.none _ _))))))))
   intro v270 w18 ho19 hb hg_ hnew_
   clear hg_ hnew_
   (first | rw [← Ny269.out] at ho19 | (simp only [Int.reduceToNat] at ho19; rw [← Ny269.out] at ho19))
   replace HO257 := cb HO257 hb
   replace HO265 := cb HO265 hb
   replace HO268 := cb HO268 hb
   have HO271 := Aside0.mk (Kd.R_lower ho19 (below_size (by repeat (first | (with_reducible first | exact HB.out | apply below_alloc | apply pw_below_drewN | apply below_drew1 | refine below_set ?_ (IsS74.ge HI254.out)) | exact HB.out))))
   have n4_ := Aside0.mk (IsS74.below (by repeat (first | (with_reducible first | exact HI254.out | apply IsS74.alloc | apply IsS74.drewN | apply IsS74.drew | apply IsS74.set_1 | apply IsS74.set_2) | exact HI254.out)) hb)
   replace HB := Aside0.mk (below_step (by repeat (first | (with_reducible first | exact HB.out | apply below_alloc | apply pw_below_drewN | apply below_drew1 | refine below_set ?_ (IsS74.ge HI254.out)) | exact HB.out)) hb)
   replace HI254 := n4_
   clear n4_
   clear hb ho19
   refine hK.out _ _ trivial (fun hHeld => ?_)
   clear hK K
   refine norm_ (a' := ?_) ?_ ?_
   rotate_left
   · show Act.put _ (some 18) _ = _
     simp only [Act.put, List.setIfInBounds_toArray, List.set_cons_zero, List.set_cons_succ, i64_w, i32_w]
     rfl
   exact norm_ (by first | (simp only [putAll, Act.put, List.setIfInBounds_toArray, List.set_cons_zero, List.set_cons_succ]; done) | (simp only [putAll, Act.put, List.setIfInBounds_toArray, List.set_cons_zero, List.set_cons_succ]; rfl)) (hJ1_3_5_6_7_8_9 (v256, v264, v267, v270) _ ⟨(rq HO257), (rq HO265), (rq HO268), (rq HO271), (by repeat (first | (with_reducible first | exact HI254.out | apply IsS74.alloc | apply IsS74.drewN | apply IsS74.drew | apply IsS74.set_1 | apply IsS74.set_2) | exact HI254.out)), (by repeat (first | (with_reducible first | exact HB.out | apply below_alloc | apply pw_below_drewN | apply below_drew1 | refine below_set ?_ (IsS74.ge HI254.out)) | exact HB.out))⟩)
 rintro ⟨v256, v264, v267, v270⟩ w19 ⟨h0_, h1_, h2_, h3_, h4_, h5_⟩
 have n0_ : Aside0 (Kd.R (Kd.int .i64) 3 w19 w.heap.size (fun _ => True) v256 t255) := ⟨h0_⟩
 have n1_ : Aside0 (Kd.R (Kd.int .u8) 5 w19 w.heap.size (fun k_ => some k_ ≠ (v267 : Value).ownBlock) v264 y263) := ⟨h1_⟩
 have n2_ : Aside0 (Kd.R (Kd.int .u8) 5 w19 w.heap.size (fun k_ => some k_ ≠ (v264 : Value).ownBlock) v267 y266) := ⟨h2_⟩
 have n3_ : Aside0 (Kd.R Kd.string 9 w19 w.heap.size (fun _ => True) v270 y269) := ⟨h3_⟩
 have n4_ : Aside0 (IsS74 w w19 gb254 l0 t261 t262) := ⟨h4_⟩
 have n5_ : Aside0 (Below w.heap.size w w19) := ⟨h5_⟩
 clear HI254
 clear HB
 clear h0_ h1_ h2_ h3_ h4_ h5_
 have HO257 := n0_
 have HO265 := n1_
 have HO268 := n2_
 have HO271 := n3_
 have HI254 := n4_
 have HB := n5_
 clear n0_ n1_ n2_ n3_ n4_ n5_
 have hHeld := trivial
 obtain ⟨Ao20, co20, eo20⟩ := Kd.R_slice HO271.out
 (first | subst eo20 | (injection eo20 with f1_ f2_ f3_; have f4_ := f1_.symm; have f5_ := f3_.symm; clear f1_ f2_ f3_; subst f4_; subst f5_))
 refine norm_ (a' := ?_) ?_ ?_
 rotate_left
 · simp only [putAll, Act.put, List.setIfInBounds_toArray, List.set_cons_zero, List.set_cons_succ]
   rfl
 refine one_ (i := 10) (N := some 19) #[true, true, true, true, true, true, true, true, true, true, true, false, false, false] rfl rfl (one_of HT_.out (by kernel_rfl)) (by decide) (fun K hK => ?_)
 refine goes_ Try.func85 (by kernel_rfl) rfl #[.pointer (some ⟨gb254, 0, none⟩), .slice Ao20 y269.length co20] (by rfl) rfl rfl (by (try simp only [List.map_toArray, List.map_cons, List.map_nil]); first | done | rfl | (simp only [List.length_drop, List.length_take]; rfl)) ?_
 with_reducible refine (spec_l1Cur_of.calls gb254 l0 t261 t262 _ _ y269 t272 t273 t274 w _ ?side1 ?side2 ?side3 ?side4 ?side5 A6.out).mono ?_
 (case side1 => repeat (first | (with_reducible first | exact HI254.out | apply IsS74.alloc | apply IsS74.drewN | apply IsS74.drew | apply IsS74.set_1 | apply IsS74.set_2) | exact HI254.out))
 (case side2 => repeat (first | (with_reducible first | exact HB.out | apply below_alloc | apply pw_below_drewN | apply below_drew1 | refine below_set ?_ (IsS74.ge HI254.out)) | exact HB.out))
 (case side3 => repeat (first | exact (Kd.R_reads' HO271.out).2.2 | (with_reducible refine Kd.C_alloc ?_ _) | (with_reducible refine Kd.C_drewN ?_ _) | (with_reducible refine Kd.C_drew ?_)))
 (case side4 => exact (Kd.R_reads' HO271.out).2.1)
 (case side5 => exact far_slice (IsS74.own_ne HI254.out HO271.out (by decide)))
 rintro e w21 ⟨rfl, hi, hb, hk⟩
 refine ⟨_, rfl, ?_⟩
 replace HO257 := Aside0.mk (Kd.R_mono (Kd.R_keep (IsS74.apart (show IsS74 w _ gb254 l0 t261 t262 from by repeat (first | (with_reducible first | exact HI254.out | apply IsS74.alloc | apply IsS74.drewN | apply IsS74.drew | apply IsS74.set_1 | apply IsS74.set_2) | exact HI254.out)) (rq HO257) (by decide)) hk (fun _ h => h.2)) (fun _ h => h.1))
 replace HO265 := Aside0.mk (Kd.R_mono (Kd.R_keep (IsS74.apart (show IsS74 w _ gb254 l0 t261 t262 from by repeat (first | (with_reducible first | exact HI254.out | apply IsS74.alloc | apply IsS74.drewN | apply IsS74.drew | apply IsS74.set_1 | apply IsS74.set_2) | exact HI254.out)) (rq HO265) (by decide)) hk (fun _ h => h.2)) (fun _ h => h.1))
 replace HO268 := Aside0.mk (Kd.R_mono (Kd.R_keep (IsS74.apart (show IsS74 w _ gb254 l0 t261 t262 from by repeat (first | (with_reducible first | exact HI254.out | apply IsS74.alloc | apply IsS74.drewN | apply IsS74.drew | apply IsS74.set_1 | apply IsS74.set_2) | exact HI254.out)) (rq HO268) (by decide)) hk (fun _ h => h.2)) (fun _ h => h.1))
 replace HO271 := Aside0.mk (Kd.R_mono (Kd.R_keep (IsS74.apart (show IsS74 w _ gb254 l0 t261 t262 from by repeat (first | (with_reducible first | exact HI254.out | apply IsS74.alloc | apply IsS74.drewN | apply IsS74.drew | apply IsS74.set_1 | apply IsS74.set_2) | exact HI254.out)) (rq HO271) (by decide)) hk (fun _ h => h.2)) (fun _ h => h.1))
 replace HB := Aside0.mk (hb)
 replace HI254 := Aside0.mk (hi)
 (try clear hb)
 (try clear hb2)
 (try clear hk)
 (try clear hi)
 refine hK.out _ _ trivial (fun hHeld => ?_)
 clear hK K
 refine norm_ (a' := ?_) ?_ ?_
 rotate_left
 · show Act.put _ (some 19) _ = _
   simp only [Act.put, List.setIfInBounds_toArray, List.set_cons_zero, List.set_cons_succ, i64_w, i32_w]
   rfl
 refine pure_ (i := 11) (N := some 2) (v := ?_) (a' := ?_) #[true, true, true, true, true, true, true, true, true, true, true, true, false, false] rfl rfl (any_of HT_.out (by kernel_rfl)) (fun _ _ _ h => h) (Or.inl ⟨by rfl, ?_⟩) ?_ ?_
 rotate_left
 · intro w'
   first | (go_simp; with_reducible rfl) | (go_simp; unfold Instr.field; go_simp; rfl)
 rotate_left
 · simp only [Act.put, List.setIfInBounds_toArray, List.set_cons_zero, List.set_cons_succ, i64_w, i32_w]
   rfl
 refine pure_ (i := 12) (N := some 3) (v := ?_) (a' := ?_) #[true, true, true, true, true, true, true, true, true, true, true, true, true, false] rfl rfl (any_of HT_.out (by kernel_rfl)) (fun _ _ _ h => h) (Or.inl ⟨by rfl, ?_⟩) ?_ ?_
 rotate_left
 · intro w'
   first | (go_simp; with_reducible rfl) | (go_simp; unfold Instr.field; go_simp; rfl)
 rotate_left
 · simp only [Act.put, List.setIfInBounds_toArray, List.set_cons_zero, List.set_cons_succ, i64_w, i32_w]
   rfl
 refine pure_ (i := 13) (N := some 4) (v := ?_) (a' := ?_) #[true, true, true, true, true, true, true, true, true, true, true, true, true, true] rfl rfl (any_of HT_.out (by kernel_rfl)) (fun _ _ _ h => h) (Or.inl ⟨by rfl, ?_⟩) ?_ ?_
 rotate_left
 · intro w'
   first | (go_simp; with_reducible rfl) | (go_simp; unfold Instr.field; go_simp; rfl)
 rotate_left
 · simp only [Act.put, List.setIfInBounds_toArray, List.set_cons_zero, List.set_cons_succ, i64_w, i32_w]
   rfl
 refine done_ (done_of HT_.out (by kernel_rfl)) ?_
 try go_wp2
 go_ret3
 exact ⟨_, by first | rfl | (simp [errW_none, errW_some] <;> rfl) | (simp [*, errW_none, errW_some] <;> rfl), by (with_reducible repeat (first | apply Kd.R_alloc | apply Kd.R_drewN | apply Kd.R_drew)); exact HO257.out, by repeat (first | (with_reducible first | exact HB.out | apply below_alloc | apply pw_below_drewN | apply below_drew1 | refine below_set ?_ (IsS74.ge HI254.out)) | exact HB.out)⟩
end Go.Proofs.Ytoigapileicelaa.QFnMixed
