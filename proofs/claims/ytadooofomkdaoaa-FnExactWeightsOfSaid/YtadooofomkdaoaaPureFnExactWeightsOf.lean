/- WeightsOf answers as the reference does, leaves its argument alone and owns its answer, for every list (the plain half). -/
import Derived.Test.YtadooofomkdaoaaQFnExactWeightsOfx
set_option linter.unusedVariables false
set_option linter.unusedSimpArgs false
namespace Go.Proofs.Ytadooofomkdaoaa.Pure
open Go.RowKit Go.Proofs.Ytadooofomkdaoaa.QFnExactWeightsOf Go.Proofs.YtadooofomkdaoaaW.PrintWords Go.Proofs.YtadooofomkdaoaaW.PrintLast Go.Proofs.YtadooofomkdaoaaW.PrintMore

/-! base: sums of int that stay in range; `tmod` and `tdiv` of what is not negative -/
theorem wr {x : Int} (h1 : -9223372036854775808 ≤ x) (h2 : x ≤ 9223372036854775807) : wrap64 x = x := by
  unfold wrap64; omega
theorem tmod_pos {a b : Int} (h : 0 ≤ a) : Int.tmod a b = a % b := Int.tmod_eq_emod_of_nonneg h
theorem tdiv_pos {a b : Int} (h : 0 ≤ a) : Int.tdiv a b = a / b := Int.tdiv_eq_ediv_of_nonneg h
theorem rounds_of {α : Type} {g : Nat → Option α} {r : α} (N : Nat) (h : ∀ k, N < k → g k = some r) : ∃ k, g k = some r := ⟨N + 1, h _ (Nat.lt_succ_self N)⟩

/-! lists: reading a list at a place; a copy of a list; a list is like itself -/
theorem rd_at (xs : List Int) (i : Nat) (h : i < xs.length) : rd xs (i : Int) = xs[i] := by
  simp [rd, List.getD_eq_getElem?_getD, h]
theorem wr_succ (i : Nat) (h : i < 9000000000000000000) : wrap64 ((i : Int) + 1) = ((i + 1 : Nat) : Int) := by
  rw [wr (by omega) (by omega)]; omega
theorem same_list {α : Type} {xs ys : List α} (hl : ys.length = xs.length) (h : ∀ j, j < xs.length → ys[j]? = xs[j]?) : ys = xs := by
  apply List.ext_getElem?
  intro j
  by_cases hj : j < xs.length
  · exact h j hj
  · rw [List.getElem?_eq_none (by omega), List.getElem?_eq_none (by omega)]
theorem set_upto {α : Type} {xs ys : List α} {i : Nat} (hl : ys.length = xs.length) (hi : i < xs.length) (h : ∀ j, j < i → ys[j]? = xs[j]?) :
    ∀ j, j < i + 1 → (ys.set i xs[i])[j]? = xs[j]? := by
  intro j hj
  rw [List.getElem?_set]
  by_cases e : i = j
  · subst e; rw [if_pos rfl, if_pos (by omega), List.getElem?_eq_getElem hi]
  · rw [if_neg e]; exact h j (by omega)

/-! toints: laws.toIntS copies -/
theorem toIntS_loop (xs : List Int) (hn : xs.length ≤ 35184372088832) (d : Nat) : ∀ (k : Nat) (ys : List Int) (i : Nat), ys.length = xs.length → (∀ j, j < i → ys[j]? = xs[j]?) → i + d = xs.length → d < k →
    laws_toIntS.l0 k xs ys (i : Int) = some xs := by
  induction d with
  | zero =>
    intro k ys i hl h hd hk
    obtain ⟨k, rfl⟩ : ∃ m, k = m + 1 := ⟨k - 1, by omega⟩
    simp only [laws_toIntS.l0]
    rw [if_neg (by omega), same_list hl (fun j hj => h j (by omega))]
  | succ d ih =>
    intro k ys i hl h hd hk
    obtain ⟨k, rfl⟩ : ∃ m, k = m + 1 := ⟨k - 1, by omega⟩
    have hi : i < xs.length := by omega
    have h1 : (i : Int) < (xs.length : Int) := by omega
    have h2 : (0 : Int) ≤ (i : Int) := by omega
    have h3 : (i : Int) < (ys.length : Int) := by omega
    simp only [laws_toIntS.l0]
    rw [if_pos h1, if_pos h2, if_pos h3, rd_at xs i hi, wr_succ i (by omega), Int.toNat_natCast]
    exact ih k _ (i + 1) (by simpa using hl) (set_upto hl hi h) (by omega) (by omega)
theorem toIntS_eq {k : Nat} (xs : List Int) (hn : xs.length ≤ 35184372088832) (hk : xs.length < k) : laws_toIntS.f k xs = some xs := by
  unfold laws_toIntS.f
  rw [if_pos (by omega), if_pos (by omega)]
  exact toIntS_loop xs hn xs.length k _ 0 (by simp) (fun j hj => by omega) (by omega) hk

/-! eqints: laws.eqIntS says that a list is itself -/
theorem eqIntS_loop (xs : List Int) (hn : xs.length ≤ 35184372088832) (d : Nat) : ∀ (k : Nat) (i : Nat), i + d = xs.length → d < k → laws_eqIntS.l0 k xs xs (i : Int) = some true := by
  induction d with
  | zero =>
    intro k i hd hk
    obtain ⟨k, rfl⟩ : ∃ m, k = m + 1 := ⟨k - 1, by omega⟩
    simp only [laws_eqIntS.l0]
    rw [if_neg (by omega)]
  | succ d ih =>
    intro k i hd hk
    obtain ⟨k, rfl⟩ : ∃ m, k = m + 1 := ⟨k - 1, by omega⟩
    have h1 : (i : Int) < (xs.length : Int) := by omega
    have h2 : (0 : Int) ≤ (i : Int) := by omega
    simp only [laws_eqIntS.l0, if_pos h1, if_pos h2, if_true, wr_succ i (by omega)]
    exact ih k (i + 1) (by omega) (by omega)
theorem eqIntS_self {k : Nat} (xs : List Int) (hn : xs.length ≤ 35184372088832) (hk : xs.length < k) : laws_eqIntS.f k xs xs = some true := by
  unfold laws_eqIntS.f
  rw [if_pos rfl]
  exact eqIntS_loop xs hn xs.length k 0 (by omega) hk

/-! markintonly: laws.markIntS writes marks -/
theorem markIntS_loop (n : Nat) (hn : n ≤ 35184372088832) (c : Int) (hc : 0 ≤ c) (hc' : c ≤ 1000000000000000000) (d : Nat) : ∀ (k : Nat) (ys : List Int) (i : Nat), ys.length = n → i + d = n → d < k →
    (∀ j, j < i → ys[j]? = some (c + j)) →
    ∃ zs, zs.length = n ∧ laws_markIntS.l0 k ys (c + i) (i : Int) = some (c + n, zs) ∧ ∀ j, j < n → zs[j]? = some (c + j) := by
  induction d with
  | zero =>
    intro k ys i hl hd hk h
    obtain ⟨k, rfl⟩ : ∃ m, k = m + 1 := ⟨k - 1, by omega⟩
    obtain rfl : i = n := by omega
    refine ⟨ys, hl, ?_, h⟩
    simp only [laws_markIntS.l0]
    rw [if_neg (by omega)]
  | succ d ih =>
    intro k ys i hl hd hk h
    obtain ⟨k, rfl⟩ : ∃ m, k = m + 1 := ⟨k - 1, by omega⟩
    have h1 : (i : Int) < (ys.length : Int) := by omega
    have h2 : (0 : Int) ≤ (i : Int) := by omega
    have e : wrap64 (c + (i : Int) + 1) = c + ((i + 1 : Nat) : Int) := by rw [wr (by omega) (by omega)]; omega
    obtain ⟨zs, z1, z2, z3⟩ := ih k (ys.set i (c + i)) (i + 1) (by simpa using hl) (by omega) (by omega) (by
      intro j hj
      rw [List.getElem?_set]
      by_cases e : i = j
      · subst e; rw [if_pos rfl, if_pos (by omega)]
      · rw [if_neg e]; exact h j (by omega))
    refine ⟨zs, z1, ?_, z3⟩
    simp only [laws_markIntS.l0]
    rw [if_pos h1, if_pos h2, e, wr_succ i (by omega), Int.toNat_natCast]
    exact z2
theorem markIntS_some (xs : List Int) (hn : xs.length ≤ 35184372088832) (c : Int) (hc : 0 ≤ c) (hc' : c ≤ 1000000000000000000) {k : Nat} (hk : xs.length < k) : ∃ zs, laws_markIntS.f k xs c = some (c + xs.length, zs) := by
  obtain ⟨zs, _, h, _⟩ := markIntS_loop xs.length hn c hc hc' xs.length k xs 0 rfl (by omega) hk (fun j hj => by omega)
  exact ⟨zs, by simpa [laws_markIntS.f] using h⟩

/-! markints: laws.heldIntS finds the marks -/
theorem heldIntS_loop (zs : List Int) (hn : zs.length ≤ 35184372088832) (c : Int) (hc : 0 ≤ c) (hc' : c ≤ 1000000000000000000) (hz : ∀ j, j < zs.length → zs[j]? = some (c + j)) (d : Nat) : ∀ (k : Nat) (i : Nat), i + d = zs.length → d < k →
    laws_heldIntS.l0 k zs (c + i) (i : Int) = some (c + zs.length) := by
  induction d with
  | zero =>
    intro k i hd hk
    obtain ⟨k, rfl⟩ : ∃ m, k = m + 1 := ⟨k - 1, by omega⟩
    simp only [laws_heldIntS.l0]
    rw [if_neg (by omega), show i = zs.length by omega]
  | succ d ih =>
    intro k i hd hk
    obtain ⟨k, rfl⟩ : ∃ m, k = m + 1 := ⟨k - 1, by omega⟩
    have hi : i < zs.length := by omega
    have h1 : (i : Int) < (zs.length : Int) := by omega
    have h2 : (0 : Int) ≤ (i : Int) := by omega
    have e : wrap64 (c + (i : Int) + 1) = c + ((i + 1 : Nat) : Int) := by rw [wr (by omega) (by omega)]; omega
    have hv : zs[i] = c + i := by
      have := hz i hi
      rw [List.getElem?_eq_getElem hi] at this
      exact Option.some.inj this
    have hr : rd zs (i : Int) = c + i := by rw [rd_at zs i hi, hv]
    simp only [laws_heldIntS.l0]
    rw [if_pos h1, if_pos h2, if_pos hr, e, wr_succ i (by omega)]
    exact ih k (i + 1) (by omega) (by omega)
theorem markIntS_held (xs : List Int) (hn : xs.length ≤ 35184372088832) (c : Int) (hc : 0 ≤ c) (hc' : c ≤ 1000000000000000000) :
    ∃ zs, zs.length = xs.length ∧ (∀ k, xs.length < k → laws_markIntS.f k xs c = some (c + xs.length, zs)) ∧ (∀ k, xs.length < k → laws_heldIntS.f k zs c = some (c + xs.length)) := by
  have all : ∀ k, xs.length < k → ∃ zs, zs.length = xs.length ∧ laws_markIntS.f k xs c = some (c + xs.length, zs) ∧ ∀ j, j < xs.length → zs[j]? = some (c + j) := by
    intro k hk
    have := markIntS_loop xs.length hn c hc hc' xs.length k xs 0 rfl (by omega) hk (fun j hj => by omega)
    simpa [laws_markIntS.f] using this
  obtain ⟨zs, z1, _, z3⟩ := all (xs.length + 1) (by omega)
  refine ⟨zs, z1, fun k hk => ?_, fun k hk => ?_⟩
  · obtain ⟨us, u1, u2, u3⟩ := all k hk
    rw [u2, show us = zs from same_list (by omega) (fun j hj => by rw [u3 j (by omega), z3 j (by omega)])]
  · have := heldIntS_loop zs (by omega) c hc hc' (fun j hj => z3 j (by omega)) zs.length k 0 (by omega) (by omega)
    simpa [laws_heldIntS.f, z1] using this

/-! ins: between two numbers, in the reference -/
theorem in_some (a b c : Int) : spec_l1In.f a b c = some (decide (b ≤ a) && decide (a ≤ c)) := by
  unfold spec_l1In.f
  by_cases h : a ≥ b
  · rw [if_pos h]; have : b ≤ a := h; simp [this]
  · rw [if_neg h]; have : ¬ b ≤ a := h; simp [this]

/-! in: between two numbers -/
theorem within_eq (a b c : Int) : impl_within.f a b c = spec_l1In.f a b c := rfl

/-! inall: all numbers of a list between two numbers -/
def inAll (lo hi : Int) (xs : List Int) : Bool := xs.all fun x => decide (lo ≤ x) && decide (x ≤ hi)
theorem inAll_mem {lo hi : Int} {xs : List Int} (h : inAll lo hi xs = true) : ∀ x ∈ xs, lo ≤ x ∧ x ≤ hi := by
  intro x hx
  have := List.all_eq_true.1 h x hx
  simpa using this

/-! iall: all numbers of a list between two numbers, in the program -/
theorem iall_loop (lo up : Int) (xs : List Int) (hn : xs.length ≤ 35184372088832) (d : Nat) : ∀ (k : Nat) (i : Nat), i + d = xs.length → d < k →
    impl_allWithin.l0 k lo up xs (xs.length : Int) (i : Int) = some (inAll lo up (xs.drop i)) := by
  induction d with
  | zero =>
    intro k i hd hk
    obtain ⟨k, rfl⟩ : ∃ m, k = m + 1 := ⟨k - 1, by omega⟩
    simp only [impl_allWithin.l0]
    rw [if_neg (by omega), List.drop_of_length_le (by omega)]; rfl
  | succ d ih =>
    intro k i hd hk
    obtain ⟨k, rfl⟩ : ∃ m, k = m + 1 := ⟨k - 1, by omega⟩
    have hi : i < xs.length := by omega
    have h1 : (i : Int) < (xs.length : Int) := by omega
    have h2 : (0 : Int) ≤ (i : Int) := by omega
    simp only [impl_allWithin.l0]
    rw [if_pos h1, if_pos h2, if_pos h1, rd_at xs i hi, within_eq, in_some, wr_succ i (by omega), ih k (i + 1) (by omega) (by omega), List.drop_eq_getElem_cons hi]
    simp only [Option.bind_some, inAll, List.all_cons]
    generalize (decide (lo ≤ xs[i]) && decide (xs[i] ≤ up)) = b
    cases b <;> simp
theorem impl_all {k : Nat} (lo hi : Int) (xs : List Int) (hn : xs.length ≤ 35184372088832) (hk : xs.length < k) : impl_allWithin.f k xs lo hi = some (inAll lo hi xs) := by
  unfold impl_allWithin.f
  have := iall_loop lo hi xs hn xs.length k 0 (by omega) hk
  simpa using this

/-! has: a list has a number, in the reference -/
theorem mem_drop_step (xs : List Int) (v : Int) (i : Nat) (h : i < xs.length) : (v ∈ xs.drop i) ↔ xs[i] = v ∨ v ∈ xs.drop (i + 1) := by
  rw [List.drop_eq_getElem_cons h, List.mem_cons]
  constructor
  · rintro (h | h)
    · exact .inl h.symm
    · exact .inr h
  · rintro (h | h)
    · exact .inl h.symm
    · exact .inr h
theorem has_loop (xs : List Int) (v : Int) (hn : xs.length ≤ 35184372088832) (d : Nat) : ∀ (k : Nat) (i : Nat), i + d = xs.length → d < k → spec_l1Has.l0 k v xs (xs.length : Int) (i : Int) = some (decide (v ∈ xs.drop i)) := by
  induction d with
  | zero =>
    intro k i hd hk
    obtain ⟨k, rfl⟩ : ∃ m, k = m + 1 := ⟨k - 1, by omega⟩
    simp only [spec_l1Has.l0]
    rw [if_neg (by omega), List.drop_of_length_le (by omega)]; simp
  | succ d ih =>
    intro k i hd hk
    obtain ⟨k, rfl⟩ : ∃ m, k = m + 1 := ⟨k - 1, by omega⟩
    have hi : i < xs.length := by omega
    have h1 : (i : Int) < (xs.length : Int) := by omega
    have h2 : (0 : Int) ≤ (i : Int) := by omega
    simp only [spec_l1Has.l0]
    rw [if_pos h1, if_pos h2, if_pos h1, rd_at xs i hi, wr_succ i (by omega), ih k (i + 1) (by omega) (by omega)]
    simp only [mem_drop_step xs v i hi]
    by_cases h : xs[i] = v
    · rw [if_pos h]; simp [h]
    · rw [if_neg h]; simp [h]
theorem spec_has {k : Nat} (xs : List Int) (v : Int) (hn : xs.length ≤ 35184372088832) (hk : xs.length < k) : spec_l1Has.f k xs v = some (decide (v ∈ xs)) := by
  unfold spec_l1Has.f
  have := has_loop xs v hn xs.length k 0 (by omega) hk
  simpa using this

/-! contains: a list has a number, in the library's words -/
theorem mem_drop_step' (xs : List Int) (v : Int) (i : Nat) (h : i < xs.length) : (v ∈ xs.drop i) ↔ v = xs[i] ∨ v ∈ xs.drop (i + 1) := by
  rw [List.drop_eq_getElem_cons h, List.mem_cons]
theorem index_loop (xs : List Int) (v : Int) (hn : xs.length ≤ 35184372088832) (d : Nat) : ∀ (k : Nat) (i : Nat), i + d = xs.length → d < k → ∃ r, slices_Index_int_int.l0 k xs v (xs.length : Int) (i : Int) = some r ∧ (r ≥ 0 ↔ v ∈ xs.drop i) := by
  induction d with
  | zero =>
    intro k i hd hk
    obtain ⟨k, rfl⟩ : ∃ m, k = m + 1 := ⟨k - 1, by omega⟩
    simp only [slices_Index_int_int.l0]
    rw [if_neg (by omega), List.drop_of_length_le (by omega)]
    exact ⟨-1, rfl, by simp⟩
  | succ d ih =>
    intro k i hd hk
    obtain ⟨k, rfl⟩ : ∃ m, k = m + 1 := ⟨k - 1, by omega⟩
    have hi : i < xs.length := by omega
    have h1 : (i : Int) < (xs.length : Int) := by omega
    have h2 : (0 : Int) ≤ (i : Int) := by omega
    simp only [slices_Index_int_int.l0]
    rw [if_pos h1, if_pos h2, if_pos h1, rd_at xs i hi, wr_succ i (by omega), mem_drop_step' xs v i hi]
    by_cases h : v = xs[i]
    · rw [if_pos h]
      exact ⟨i, rfl, by simp [h]⟩
    · rw [if_neg h]
      obtain ⟨r, h3, h4⟩ := ih k (i + 1) (by omega) (by omega)
      exact ⟨r, h3, by rw [h4]; simp [h]⟩
theorem lib_contains {k : Nat} (xs : List Int) (v : Int) (hn : xs.length ≤ 35184372088832) (hk : xs.length < k) : slices_Contains_int_int.f k xs v = some (decide (v ∈ xs)) := by
  unfold slices_Contains_int_int.f slices_Index_int_int.f
  obtain ⟨r, h1, h2⟩ := index_loop xs v hn xs.length k 0 (by omega) hk
  rw [show ((0 : Nat) : Int) = 0 from rfl] at h1
  rw [List.drop_zero] at h2
  simp only [h1, Option.bind_some, h2]

/-! unlikexs: numbers unlike each other, in both texts -/
def uq (xs : List Int) : Nat → Nat → Bool
  | 0, _ => true
  | d + 1, i => !decide (xs.getD i 0 ∈ xs.take i) && uq xs d (i + 1)
def goodXs (xs : List Int) : Bool := uq xs xs.length 0 && (decide (1 ≤ (xs.length : Int)) && decide ((xs.length : Int) ≤ 8)) && inAll 1 1498 xs
theorem spec_xs_loop (xs : List Int) (hn : xs.length ≤ 35184372088832) (d : Nat) : ∀ (k : Nat) (i : Nat), i + d = xs.length → d + xs.length < k →
    spec_l5Xs.l0 k xs xs (xs.length : Int) (i : Int) = some (uq xs d i && (decide (1 ≤ (xs.length : Int)) && decide ((xs.length : Int) ≤ 8)) && inAll 1 1498 (xs.drop i)) := by
  induction d with
  | zero =>
    intro k i hd hk
    obtain ⟨k, rfl⟩ : ∃ m, k = m + 1 := ⟨k - 1, by omega⟩
    simp only [spec_l5Xs.l0]
    rw [if_neg (by omega), in_some, List.drop_of_length_le (by omega)]
    simp [uq, inAll]
  | succ d ih =>
    intro k i hd hk
    obtain ⟨k, rfl⟩ : ∃ m, k = m + 1 := ⟨k - 1, by omega⟩
    have hi : i < xs.length := by omega
    have h1 : (i : Int) < (xs.length : Int) := by omega
    have h2 : (0 : Int) ≤ (i : Int) := by omega
    have h3 : (i : Int) ≤ (xs.length : Int) := by omega
    have hg : xs.getD i 0 = xs[i] := by rw [List.getD_eq_getElem?_getD, List.getElem?_eq_getElem hi]; rfl
    have ht : (xs.take i).length ≤ xs.length := by simp; omega
    simp only [spec_l5Xs.l0, uq]
    rw [if_pos h1, if_pos h2, if_pos h1, if_pos h3, rd_at xs i hi, hg, wr_succ i (by omega), in_some, Int.toNat_natCast, spec_has (k := k) _ _ (by omega) (by omega), ih k (i + 1) (by omega) (by omega), List.drop_eq_getElem_cons hi]
    simp only [Option.bind_some, inAll, List.all_cons]
    generalize (decide (1 ≤ xs[i]) && decide (xs[i] ≤ 1498)) = b
    generalize decide (xs[i] ∈ xs.take i) = c
    cases b <;> cases c <;> simp
theorem spec_xs {k : Nat} (xs : List Int) (hn : xs.length ≤ 35184372088832) (hk : 2 * xs.length < k) : spec_l5Xs.f k xs = some (goodXs xs) := by
  unfold spec_l5Xs.f
  have := spec_xs_loop xs hn xs.length k 0 (by omega) (by omega)
  simpa [goodXs] using this
theorem impl_xs_loop (xs : List Int) (hn : xs.length ≤ 35184372088832) (d : Nat) : ∀ (k : Nat) (i : Nat), i + d = xs.length → d + 1 + xs.length < k →
    impl_areUnlike.l0 k xs xs (xs.length : Int) (i : Int) = some (uq xs d i && (decide (1 ≤ (xs.length : Int)) && decide ((xs.length : Int) ≤ 8)) && inAll 1 1498 xs) := by
  induction d with
  | zero =>
    intro k i hd hk
    obtain ⟨k, rfl⟩ : ∃ m, k = m + 1 := ⟨k - 1, by omega⟩
    simp only [impl_areUnlike.l0]
    rw [if_neg (by omega), within_eq, in_some, impl_all 1 1498 xs hn (by omega)]
    simp only [Option.bind_some, uq, Bool.true_and]
    cases (decide (1 ≤ (xs.length : Int)) && decide ((xs.length : Int) ≤ 8)) <;> simp
  | succ d ih =>
    intro k i hd hk
    obtain ⟨k, rfl⟩ : ∃ m, k = m + 1 := ⟨k - 1, by omega⟩
    have hi : i < xs.length := by omega
    have h1 : (i : Int) < (xs.length : Int) := by omega
    have h2 : (0 : Int) ≤ (i : Int) := by omega
    have h3 : (i : Int) ≤ (xs.length : Int) := by omega
    have hg : xs.getD i 0 = xs[i] := by rw [List.getD_eq_getElem?_getD, List.getElem?_eq_getElem hi]; rfl
    have ht : (xs.take i).length ≤ xs.length := by simp; omega
    simp only [impl_areUnlike.l0, uq]
    rw [if_pos h1, if_pos h2, if_pos h1, if_pos h3, rd_at xs i hi, hg, wr_succ i (by omega), Int.toNat_natCast, lib_contains (k := k) _ _ (by omega) (by omega), ih k (i + 1) (by omega) (by omega)]
    simp only [Option.bind_some]
    generalize decide (xs[i] ∈ xs.take i) = c
    cases c <;> simp
theorem impl_xs {k : Nat} (xs : List Int) (hn : xs.length ≤ 35184372088832) (hk : 2 * xs.length + 1 < k) : impl_areUnlike.f k xs = some (goodXs xs) := by
  unfold impl_areUnlike.f
  have := impl_xs_loop xs hn xs.length k 0 (by omega) (by omega)
  simpa [goodXs] using this
theorem goodXs_all {xs : List Int} (h : goodXs xs = true) : 1 ≤ xs.length ∧ xs.length ≤ 8 ∧ ∀ x ∈ xs, 1 ≤ x ∧ x ≤ 1498 := by
  simp [goodXs] at h
  exact ⟨by omega, by omega, inAll_mem h.2⟩

/-! modp: numbers modulo 1499, in both texts -/
theorem mod_some (a : Int) (h : -4000000000000000000 ≤ a) (h' : a ≤ 4000000000000000000) : Int.tmod (wrap64 (Int.tmod a 1499 + 1499)) 1499 = a % 1499 := by
  have e := Int.tmod_eq_emod (a := a) (b := 1499)
  have : Int.tmod a 1499 = a % 1499 ∨ Int.tmod a 1499 = a % 1499 - 1499 := by
    rw [e]
    split
    · left; omega
    · right; rfl
  rcases this with h1 | h1
  · rw [h1, wr (by omega) (by omega), tmod_pos (by omega)]; omega
  · rw [h1, wr (by omega) (by omega), tmod_pos (by omega)]; omega
theorem spec_mod (a : Int) (h : -4000000000000000000 ≤ a) (h' : a ≤ 4000000000000000000) : spec_l5Mod.f a = some (a % 1499) := by
  unfold spec_l5Mod.f; rw [mod_some a h h']
theorem impl_mod (a : Int) (h : -4000000000000000000 ≤ a) (h' : a ≤ 4000000000000000000) : impl_modulo.f a = some (a % 1499) := by
  unfold impl_modulo.f; rw [mod_some a h h']
theorem pq_step (c m q : Nat) : (c * m % 1499) * (m * m % 1499) ^ q % 1499 = c * m ^ (2 * q + 1) % 1499 := by
  rw [Nat.mul_mod, Nat.mod_mod, ← Nat.pow_mod, ← Nat.mul_mod]
  congr 1
  rw [Nat.pow_succ, Nat.pow_mul, Nat.pow_two, Nat.mul_assoc, Nat.mul_comm m]
theorem pq_step0 (c m q : Nat) : c * (m * m % 1499) ^ q % 1499 = c * m ^ (2 * q) % 1499 := by
  rw [Nat.mul_mod, ← Nat.pow_mod, ← Nat.mul_mod]
  congr 1
  rw [Nat.pow_mul, Nat.pow_two]
theorem pq_mul (x y : Nat) (hx : x < 1499) (hy : y < 1499) : Int.tmod (wrap64 ((x : Int) * (y : Int))) 1499 = ((x * y % 1499 : Nat) : Int) := by
  have h : x * y ≤ 1499 * 1499 := Nat.mul_le_mul (by omega) (by omega)
  have e : (x : Int) * (y : Int) = ((x * y : Nat) : Int) := by push_cast; rfl
  rw [e, wr (by omega) (by omega), tmod_pos (by omega)]
  omega
theorem pq_half (e : Nat) (h : e < 9000000000000000000) : wrap64 (Int.tdiv (e : Int) 2) = ((e / 2 : Nat) : Int) := by
  rw [tdiv_pos (by omega), wr (by omega) (by omega)]; omega
/-- c * m ^ e modulo 1499 -/
theorem spec_inv_loop (n : Nat) : ∀ (e m c k : Nat), e ≤ n → n < k → m < 1499 → c < 1499 → e < 9000000000000000000 →
    spec_l5Inverse.l0 k (m : Int) (c : Int) (e : Int) = some ((c * m ^ e % 1499 : Nat) : Int) := by
  induction n with
  | zero =>
    intro e m c k he hk hm hc hb
    obtain ⟨k, rfl⟩ : ∃ j, k = j + 1 := ⟨k - 1, by omega⟩
    obtain rfl : e = 0 := by omega
    simp only [spec_l5Inverse.l0]
    rw [if_neg (by omega), Nat.pow_zero, Nat.mul_one, Nat.mod_eq_of_lt hc]
  | succ n ih =>
    intro e m c k he hk hm hc hb
    obtain ⟨k, rfl⟩ : ∃ j, k = j + 1 := ⟨k - 1, by omega⟩
    simp only [spec_l5Inverse.l0]
    by_cases h0 : e = 0
    · subst h0
      rw [if_neg (by omega), Nat.pow_zero, Nat.mul_one, Nat.mod_eq_of_lt hc]
    · rw [if_pos (by omega), pq_mul m m hm hm, pq_half e hb, tmod_pos (by omega)]
      have hm2 : m * m % 1499 < 1499 := Nat.mod_lt _ (by omega)
      by_cases h1 : e % 2 = 1
      · rw [if_pos (by omega), pq_mul c m hc hm, ih (e / 2) _ _ k (by omega) (by omega) hm2 (Nat.mod_lt _ (by omega)) (by omega), pq_step]
        rw [show 2 * (e / 2) + 1 = e by omega]
      · rw [if_neg (by omega), ih (e / 2) _ _ k (by omega) (by omega) hm2 hc (by omega), pq_step0]
        rw [show 2 * (e / 2) = e by omega]
theorem inv_one (e m k : Nat) (hk : e < k) (hm : m < 1499) (hb : e < 9000000000000000000) : spec_l5Inverse.l0 k (m : Int) 1 (e : Int) = some ((((m : Int).toNat) ^ e % 1499 : Nat) : Int) := by
  have := spec_inv_loop e e m 1 k (by omega) hk hm (by omega) hb
  rw [Nat.one_mul] at this
  exact this
/-- one divided by a -/
def iv (a : Int) : Int := ((a.toNat ^ 1497 % 1499 : Nat) : Int)
theorem iv_range (a : Int) : 0 ≤ iv a ∧ iv a ≤ 1498 := by unfold iv; omega
theorem spec_iv {k : Nat} (hk : 1500 < k) (a : Int) (h : 0 ≤ a) (h' : a ≤ 1498) : spec_l5Inverse.f k a = some (iv a) := by
  obtain ⟨m, rfl⟩ := Int.eq_ofNat_of_zero_le h
  unfold spec_l5Inverse.f iv
  exact inv_one 1497 m k (by omega) (by omega) (by omega)
theorem cast_mod (c z : Nat) : some (((c * z % 1499 : Nat) : Nat) : Int) = some ((c : Int) * (z : Int) % 1499) := by
  rw [← Int.natCast_mul]
  generalize c * z = n
  refine congrArg some ?_
  omega
theorem divided_l0_eq (k : Nat) : ∀ b a e, impl_divided.l0 k b a e = spec_l5Inverse.l0 k b a e := by
  induction k with
  | zero => intros; rfl
  | succ k ih => intro b a e; simp only [impl_divided.l0, spec_l5Inverse.l0, ih]
theorem impl_div {k : Nat} (hk : 1500 < k) (a b : Int) (ha : -4000000000000000000 ≤ a) (ha' : a ≤ 4000000000000000000) (hb : -4000000000000000000 ≤ b) (hb' : b ≤ 4000000000000000000) :
    impl_divided.f k a b = some (a % 1499 * iv (b % 1499) % 1499) := by
  unfold impl_divided.f
  rw [impl_mod a ha ha', impl_mod b hb hb']
  simp only [Option.bind_some, divided_l0_eq]
  obtain ⟨m, hm⟩ := Int.eq_ofNat_of_zero_le (show 0 ≤ b % 1499 by omega)
  obtain ⟨c, hc⟩ := Int.eq_ofNat_of_zero_le (show 0 ≤ a % 1499 by omega)
  rw [hm, hc]
  have := spec_inv_loop 1497 1497 m c k (by omega) (by omega) (by omega) (by omega) (by omega)
  rw [show ((1497 : Nat) : Int) = 1497 from rfl] at this
  rw [this, iv, Int.toNat_natCast, Nat.mul_mod, Nat.mod_eq_of_lt (show c < 1499 by omega)]
  exact cast_mod _ _

/-! weights: the weights of numbers unlike each other, in both texts -/
theorem le_sq (x y : Int) (hx : 0 ≤ x) (hx' : x ≤ 1498) (hy : 0 ≤ y) (hy' : y ≤ 1498) : 0 ≤ x * y ∧ x * y ≤ 2244004 := by
  refine ⟨Int.mul_nonneg hx hy, ?_⟩
  have := Int.mul_le_mul hx' hy' hy (by omega : (0 : Int) ≤ 1498)
  omega
theorem wt_spec (c p q : Int) (hc : 0 ≤ c) (hc' : c ≤ 1498) (hp : 0 ≤ p) (hp' : p ≤ 1498) (hq : 0 ≤ q) (hq' : q ≤ 1498) :
    Int.tmod (wrap64 ((Int.tmod (wrap64 (c * p)) 1499) * q)) 1499 = c * (p * q % 1499) % 1499 := by
  obtain ⟨a1, a2⟩ := le_sq c p hc hc' hp hp'
  have b1 : 0 ≤ c * p % 1499 := by omega
  have b2 : c * p % 1499 ≤ 1498 := by omega
  obtain ⟨d1, d2⟩ := le_sq _ q b1 b2 hq hq'
  rw [wr (x := c * p) (by omega) (by omega), tmod_pos a1, wr (x := c * p % 1499 * q) (by omega) (by omega), tmod_pos d1]
  rw [Int.mul_emod, Int.emod_emod_of_dvd _ (Int.dvd_refl 1499), ← Int.mul_emod, Int.mul_assoc, Int.mul_emod, Int.mul_emod c (p * q % 1499), Int.emod_emod_of_dvd _ (Int.dvd_refl 1499)]
theorem wt_impl (c v : Int) (hc : 0 ≤ c) (hc' : c ≤ 1498) (hv : 0 ≤ v) (hv' : v ≤ 1498) : Int.tmod (wrap64 (c * v)) 1499 = c * v % 1499 := by
  obtain ⟨a1, a2⟩ := le_sq c v hc hc' hv hv'
  rw [wr (by omega) (by omega), tmod_pos a1]
def wt (xs : List Int) (a : Int) (i : Nat) : Nat → Int → Nat → Int
  | 0, c, _ => c
  | d + 1, c, j => if j = i then wt xs a i d c (j + 1) else wt xs a i d (c * ((rd xs (j : Int) - a) % 1499 * iv ((rd xs (j : Int) - rd xs (i : Int)) % 1499) % 1499) % 1499) (j + 1)
theorem rd_in {xs : List Int} (h : ∀ x ∈ xs, 1 ≤ x ∧ x ≤ 1498) (j : Nat) (hj : j < xs.length) : 1 ≤ rd xs (j : Int) ∧ rd xs (j : Int) ≤ 1498 := by
  rw [rd_at xs j hj]
  exact h _ (List.getElem_mem hj)
theorem spec_at_inner (xs : List Int) (h : ∀ x ∈ xs, 1 ≤ x ∧ x ≤ 1498) (hn : xs.length ≤ 8) (i : Nat) (hi : i < xs.length) (ys : List Int) (hy : ys.length ≤ 8) (ws : List Int) (n m : Int) (k : Nat) (hk : 1500 < k) (d : Nat) :
    ∀ (c : Int) (j : Nat), 0 ≤ c → c ≤ 1498 → j + d = xs.length →
    spec_l5At.l1 (k + d + 1) xs 0 ys (i : Int) (rd xs (i : Int)) c ws n m xs (xs.length : Int) (j : Int) = spec_l5At.l0 k xs 0 (ys ++ [wt xs 0 i d c j]) ws n (wrap64 (m + 1)) := by
  induction d with
  | zero =>
    intro c j hc hc' hj
    simp only [spec_l5At.l1, wt]
    rw [if_neg (by omega), if_pos (by omega)]
  | succ d ih =>
    intro c j hc hc' hj
    have h1 : (j : Int) < (xs.length : Int) := by omega
    have h2 : (0 : Int) ≤ (j : Int) := by omega
    obtain ⟨r1, r2⟩ := rd_in h i hi
    obtain ⟨s1, s2⟩ := rd_in h j (by omega)
    rw [show k + (d + 1) + 1 = (k + d + 1) + 1 by omega]
    simp only [spec_l5At.l1, wt]
    rw [if_pos h1, if_pos h2, if_pos h1, wr_succ j (by omega)]
    by_cases e : j = i
    · rw [if_pos (show (j : Int) = (i : Int) by omega), if_pos e]
      exact ih c (j + 1) hc hc' (by omega)
    · rw [if_neg (show ¬ (j : Int) = (i : Int) by omega), if_neg e]
      generalize rd xs (i : Int) = u at *
      generalize rd xs (j : Int) = v at *
      obtain ⟨i1, i2⟩ := iv_range ((v - u) % 1499)
      rw [wr (x := v - 0) (by omega) (by omega), wr (x := v - u) (by omega) (by omega), spec_mod _ (by omega) (by omega), spec_mod _ (by omega) (by omega), Option.bind_some, Option.bind_some, spec_iv (by omega) _ (by omega) (by omega), Option.bind_some, wt_spec c _ _ hc hc' (by omega) (by omega) i1 i2]
      exact ih _ (j + 1) (by omega) (by omega) (by omega)
theorem impl_weight_loop (xs : List Int) (h : ∀ x ∈ xs, 1 ≤ x ∧ x ≤ 1498) (hn : xs.length ≤ 8) (i : Nat) (hi : i < xs.length) (d : Nat) :
    ∀ (k : Nat) (c : Int) (j : Nat), 0 ≤ c → c ≤ 1498 → j + d = xs.length → 1501 + d < k →
    impl_weight.l0 k xs (i : Int) 0 c xs (xs.length : Int) (j : Int) = some (wt xs 0 i d c j) := by
  induction d with
  | zero =>
    intro k c j hc hc' hj hk
    obtain ⟨k, rfl⟩ : ∃ m, k = m + 1 := ⟨k - 1, by omega⟩
    simp only [impl_weight.l0, wt]
    rw [if_neg (by omega)]
  | succ d ih =>
    intro k c j hc hc' hj hk
    obtain ⟨k, rfl⟩ : ∃ m, k = m + 1 := ⟨k - 1, by omega⟩
    have h1 : (j : Int) < (xs.length : Int) := by omega
    have h2 : (0 : Int) ≤ (j : Int) := by omega
    have h3 : (i : Int) < (xs.length : Int) := by omega
    have h4 : (0 : Int) ≤ (i : Int) := by omega
    obtain ⟨r1, r2⟩ := rd_in h i hi
    obtain ⟨s1, s2⟩ := rd_in h j (by omega)
    simp only [impl_weight.l0, wt]
    rw [if_pos h1, if_pos h2, if_pos h1, wr_succ j (by omega)]
    by_cases e : j = i
    · rw [if_pos (show (j : Int) = (i : Int) by omega), if_pos e]
      exact ih k c (j + 1) hc hc' (by omega) (by omega)
    · rw [if_neg (show ¬ (j : Int) = (i : Int) by omega), if_neg e, if_pos h4, if_pos h3]
      generalize rd xs (i : Int) = u at *
      generalize rd xs (j : Int) = v at *
      obtain ⟨i1, i2⟩ := iv_range ((v - u) % 1499)
      rw [wr (x := v - 0) (by omega) (by omega), wr (x := v - u) (by omega) (by omega), impl_div (by omega) _ _ (by omega) (by omega) (by omega) (by omega), Option.bind_some, wt_impl c _ hc hc' (by omega) (by omega)]
      exact ih k _ (j + 1) (by omega) (by omega) (by omega) (by omega)
def wts (xs : List Int) : Nat → List Int → Nat → List Int
  | 0, o, _ => o
  | d + 1, o, i => wts xs d (o ++ [wt xs 0 i xs.length 1 0]) (i + 1)
theorem wts_len (xs : List Int) (d : Nat) : ∀ (o : List Int) (i : Nat), (wts xs d o i).length = o.length + d := by
  induction d with
  | zero => intro o i; rfl
  | succ d ih => intro o i; simp only [wts]; rw [ih]; simp; omega
theorem spec_at_loop (xs : List Int) (h : ∀ x ∈ xs, 1 ≤ x ∧ x ≤ 1498) (hn : xs.length ≤ 8) (d : Nat) : ∀ (k : Nat) (o : List Int) (i : Nat), o.length = i → i + d = xs.length → 2000 + d * 20 < k →
    spec_l5At.l0 k xs 0 o xs (xs.length : Int) (i : Int) = some (wts xs d o i) := by
  induction d with
  | zero =>
    intro k o i ho hi hk
    obtain ⟨k, rfl⟩ : ∃ m, k = m + 1 := ⟨k - 1, by omega⟩
    simp only [spec_l5At.l0, wts]
    rw [if_neg (by omega)]
  | succ d ih =>
    intro k o i ho hi hk
    obtain ⟨k, rfl⟩ : ∃ m, k = (m + xs.length + 1) + 1 := ⟨k - xs.length - 2, by omega⟩
    have h1 : (i : Int) < (xs.length : Int) := by omega
    have h2 : (0 : Int) ≤ (i : Int) := by omega
    simp only [spec_l5At.l0, wts]
    have hi0 := spec_at_inner xs h hn i (by omega) o (by omega) xs (xs.length : Int) (i : Int) k (by omega) xs.length 1 0 (by omega) (by omega) (by omega)
    rw [show ((0 : Nat) : Int) = 0 from rfl] at hi0
    rw [if_pos h1, if_pos h2, if_pos h1, hi0, wr_succ i (by omega)]
    exact ih k _ (i + 1) (by simp; omega) (by omega) (by omega)
theorem impl_at_loop (xs : List Int) (h : ∀ x ∈ xs, 1 ≤ x ∧ x ≤ 1498) (hn : xs.length ≤ 8) (d : Nat) : ∀ (k : Nat) (o : List Int) (i : Nat), o.length = i → i + d = xs.length → 2000 + d * 20 < k →
    impl_WeightsOf.l0 k xs o (xs.length : Int) (i : Int) = some (wts xs d o i, true) := by
  induction d with
  | zero =>
    intro k o i ho hi hk
    obtain ⟨k, rfl⟩ : ∃ m, k = m + 1 := ⟨k - 1, by omega⟩
    simp only [impl_WeightsOf.l0, wts]
    rw [if_neg (by omega)]
  | succ d ih =>
    intro k o i ho hi hk
    obtain ⟨k, rfl⟩ : ∃ m, k = m + 1 := ⟨k - 1, by omega⟩
    have h1 : (i : Int) < (xs.length : Int) := by omega
    simp only [impl_WeightsOf.l0, impl_weight.f, wts]
    have hi0 := impl_weight_loop xs h hn i (by omega) xs.length k 1 0 (by omega) (by omega) (by omega) (by omega)
    rw [show ((0 : Nat) : Int) = 0 from rfl] at hi0
    rw [if_pos h1, hi0, Option.bind_some, if_pos (by omega), wr_succ i (by omega)]
    exact ih k _ (i + 1) (by simp; omega) (by omega) (by omega)
theorem weights_of {k : Nat} (xs : List Int) (hn : xs.length ≤ 35184372088832) (hk : 2 * xs.length + 3000 < k) : ∃ r : List Int × Bool, r.1.length ≤ 8 ∧ spec_WeightsOf.f k xs = some r ∧ impl_WeightsOf.f k xs = some r := by
  unfold spec_WeightsOf.f impl_WeightsOf.f
  rw [spec_xs xs hn (by omega), impl_xs xs hn (by omega), Option.bind_some, Option.bind_some]
  by_cases h : goodXs xs = true
  · obtain ⟨h1, h2, h3⟩ := goodXs_all h
    have e1 : spec_l5At.f k xs 0 = some (wts xs xs.length [] 0) := by
      unfold spec_l5At.f
      exact spec_at_loop xs h3 h2 xs.length k [] 0 rfl (by omega) (by omega)
    have e2 : impl_WeightsOf.l0 k xs [] (xs.length : Int) 0 = some (wts xs xs.length [] 0, true) := impl_at_loop xs h3 h2 xs.length k [] 0 rfl (by omega) (by omega)
    refine ⟨(wts xs xs.length [] 0, true), by rw [wts_len]; simp; omega, ?_, ?_⟩
    · rw [if_pos h, e1, Option.bind_some]
    · rw [if_pos h, e2]
  · rw [if_neg h, if_neg h]
    exact ⟨([], false), by simp, rfl, rfl⟩

theorem FnExactWeightsOf : ∀ (l0 : List Int), l0.length ≤ maxLen → (∀ x ∈ l0, (Lit.int .i64 x).wf = true) → ∃ k, laws_FnExactWeightsOf.f k l0 = some true := by
  intro p _ _
  refine rounds_of (2 * p.length + 4000) fun k hk => ?_
  obtain ⟨k, rfl⟩ : ∃ j, k = j + 3 := ⟨k - 3, by omega⟩
  unfold laws_FnExactWeightsOf.f
  by_cases h : (p.length : Int) > 1048576
  · rw [if_pos h]
  · rw [if_neg h]
    obtain ⟨r, hl, s1, i1⟩ := weights_of (k := k + 1) p (by omega) (by omega)
    have s3 := at_rounds (fun k => spec_WeightsOf.mono p k) (by omega : k + 1 ≤ k + 3) s1
    have i3 := at_rounds (fun k => impl_WeightsOf.mono p k) (by omega : k + 1 ≤ k + 3) i1
    obtain ⟨za, za2⟩ := markIntS_some p (by omega) 1 (by omega) (by omega) (by omega : p.length < k + 2)
    obtain ⟨zo, zo1, zo2, zo3⟩ := markIntS_held r.1 (by omega) 1 (by omega) (by omega)
    have q1 : ¬ (1 + (p.length : Int) < 0) := by omega
    have q2 : ¬ (1 + (r.1.length : Int) < 0) := by omega
    simp only [toIntS_eq (k := k + 3) p (by omega) (by omega), s3, i3, eqIntS_self (k := k + 3) r.1 (by omega) (by omega), Option.bind_some, bne_self_eq_false, if_true]
    simp only [laws_FnExactWeightsOf.j0, toIntS_eq (k := k + 2) p (by omega) (by omega), eqIntS_self (k := k + 2) p (by omega) (by omega), eqIntS_self (k := k + 2) r.1 (by omega) (by omega), za2, Option.bind_some, if_true, if_neg q1, bne_self_eq_false, Bool.false_eq_true, if_false]
    simp only [laws_FnExactWeightsOf.j1, toIntS_eq (k := k + 1) p (by omega) (by omega), i1, eqIntS_self (k := k + 1) r.1 (by omega) (by omega), zo2 (k + 1) (by omega), zo3 (k + 1) (by omega), Option.bind_some, if_true, if_neg q2, bne_self_eq_false, Bool.false_eq_true, if_false]
    simp only [laws_FnExactWeightsOf.j2, zo3 k (by omega), Option.bind_some, if_true, if_neg q2, Bool.false_eq_true, if_false]

end Go.Proofs.Ytadooofomkdaoaa.Pure
