/- StreamOf answers as the reference does, leaves its arguments alone and owns its answer, for all lists and numbers (the plain half). -/
import Derived.Test.YticchbgbbnpgoaaQFnExactStreamOfx
set_option linter.unusedVariables false
set_option linter.unusedSimpArgs false
namespace Go.Proofs.Yticchbgbbnpgoaa.Pure
open Go.RowKit Go.Proofs.Yticchbgbbnpgoaa.QFnExactStreamOf Go.Proofs.YticchbgbbnpgoaaW.PrintWords Go.Proofs.YticchbgbbnpgoaaW.PrintLast Go.Proofs.YticchbgbbnpgoaaW.PrintMore

/-! base: sums of int that stay in range; `tmod` and `tdiv` of what is not negative -/
theorem wr {x : Int} (h1 : -9223372036854775808 ≤ x) (h2 : x ≤ 9223372036854775807) : wrap64 x = x := by
  unfold wrap64; omega
theorem tmod_pos {a b : Int} (h : 0 ≤ a) : Int.tmod a b = a % b := Int.tmod_eq_emod_of_nonneg h
theorem tdiv_pos {a b : Int} (h : 0 ≤ a) : Int.tdiv a b = a / b := Int.tdiv_eq_ediv_of_nonneg h
theorem rounds_of {α : Type} {g : Nat → Option α} {r : α} (N : Nat) (h : ∀ k, N < k → g k = some r) : ∃ k, g k = some r := ⟨N + 1, h _ (Nat.lt_succ_self N)⟩

/-! lists: reading a list at a place; a copy of a list; a list is like itself -/
theorem rd_at (xs : List Int) (i : Nat) (h : i < xs.length) : rd xs (i : Int) = xs[i] := by
  simp [rd, List.getD_eq_getElem?_getD, h]
theorem wr_succ (i : Nat) (h : i < 9000000000000000000) : wrap64 ((i : Int) + 1) = ((i + 1 : Nat) : Int) := by
  rw [wr (by omega) (by omega)]; omega
theorem same_list {α : Type} {xs ys : List α} (hl : ys.length = xs.length) (h : ∀ j, j < xs.length → ys[j]? = xs[j]?) : ys = xs := by
  apply List.ext_getElem?
  intro j
  by_cases hj : j < xs.length
  · exact h j hj
  · rw [List.getElem?_eq_none (by omega), List.getElem?_eq_none (by omega)]
theorem set_upto {α : Type} {xs ys : List α} {i : Nat} (hl : ys.length = xs.length) (hi : i < xs.length) (h : ∀ j, j < i → ys[j]? = xs[j]?) :
    ∀ j, j < i + 1 → (ys.set i xs[i])[j]? = xs[j]? := by
  intro j hj
  rw [List.getElem?_set]
  by_cases e : i = j
  · subst e; rw [if_pos rfl, if_pos (by omega), List.getElem?_eq_getElem hi]
  · rw [if_neg e]; exact h j (by omega)

/-! toints: laws.toIntS copies -/
theorem toIntS_loop (xs : List Int) (hn : xs.length ≤ 35184372088832) (d : Nat) : ∀ (k : Nat) (ys : List Int) (i : Nat), ys.length = xs.length → (∀ j, j < i → ys[j]? = xs[j]?) → i + d = xs.length → d < k →
    laws_toIntS.l0 k xs ys (i : Int) = some xs := by
  induction d with
  | zero =>
    intro k ys i hl h hd hk
    obtain ⟨k, rfl⟩ : ∃ m, k = m + 1 := ⟨k - 1, by omega⟩
    simp only [laws_toIntS.l0]
    rw [if_neg (by omega), same_list hl (fun j hj => h j (by omega))]
  | succ d ih =>
    intro k ys i hl h hd hk
    obtain ⟨k, rfl⟩ : ∃ m, k = m + 1 := ⟨k - 1, by omega⟩
    have hi : i < xs.length := by omega
    have h1 : (i : Int) < (xs.length : Int) := by omega
    have h2 : (0 : Int) ≤ (i : Int) := by omega
    have h3 : (i : Int) < (ys.length : Int) := by omega
    simp only [laws_toIntS.l0]
    rw [if_pos h1, if_pos h2, if_pos h3, rd_at xs i hi, wr_succ i (by omega), Int.toNat_natCast]
    exact ih k _ (i + 1) (by simpa using hl) (set_upto hl hi h) (by omega) (by omega)
theorem toIntS_eq {k : Nat} (xs : List Int) (hn : xs.length ≤ 35184372088832) (hk : xs.length < k) : laws_toIntS.f k xs = some xs := by
  unfold laws_toIntS.f
  rw [if_pos (by omega), if_pos (by omega)]
  exact toIntS_loop xs hn xs.length k _ 0 (by simp) (fun j hj => by omega) (by omega) hk

/-! eqints: laws.eqIntS says that a list is itself -/
theorem eqIntS_loop (xs : List Int) (hn : xs.length ≤ 35184372088832) (d : Nat) : ∀ (k : Nat) (i : Nat), i + d = xs.length → d < k → laws_eqIntS.l0 k xs xs (i : Int) = some true := by
  induction d with
  | zero =>
    intro k i hd hk
    obtain ⟨k, rfl⟩ : ∃ m, k = m + 1 := ⟨k - 1, by omega⟩
    simp only [laws_eqIntS.l0]
    rw [if_neg (by omega)]
  | succ d ih =>
    intro k i hd hk
    obtain ⟨k, rfl⟩ : ∃ m, k = m + 1 := ⟨k - 1, by omega⟩
    have h1 : (i : Int) < (xs.length : Int) := by omega
    have h2 : (0 : Int) ≤ (i : Int) := by omega
    simp only [laws_eqIntS.l0, if_pos h1, if_pos h2, if_true, wr_succ i (by omega)]
    exact ih k (i + 1) (by omega) (by omega)
theorem eqIntS_self {k : Nat} (xs : List Int) (hn : xs.length ≤ 35184372088832) (hk : xs.length < k) : laws_eqIntS.f k xs xs = some true := by
  unfold laws_eqIntS.f
  rw [if_pos rfl]
  exact eqIntS_loop xs hn xs.length k 0 (by omega) hk

/-! markintonly: laws.markIntS writes marks -/
theorem markIntS_loop (n : Nat) (hn : n ≤ 35184372088832) (c : Int) (hc : 0 ≤ c) (hc' : c ≤ 1000000000000000000) (d : Nat) : ∀ (k : Nat) (ys : List Int) (i : Nat), ys.length = n → i + d = n → d < k →
    (∀ j, j < i → ys[j]? = some (c + j)) →
    ∃ zs, zs.length = n ∧ laws_markIntS.l0 k ys (c + i) (i : Int) = some (c + n, zs) ∧ ∀ j, j < n → zs[j]? = some (c + j) := by
  induction d with
  | zero =>
    intro k ys i hl hd hk h
    obtain ⟨k, rfl⟩ : ∃ m, k = m + 1 := ⟨k - 1, by omega⟩
    obtain rfl : i = n := by omega
    refine ⟨ys, hl, ?_, h⟩
    simp only [laws_markIntS.l0]
    rw [if_neg (by omega)]
  | succ d ih =>
    intro k ys i hl hd hk h
    obtain ⟨k, rfl⟩ : ∃ m, k = m + 1 := ⟨k - 1, by omega⟩
    have h1 : (i : Int) < (ys.length : Int) := by omega
    have h2 : (0 : Int) ≤ (i : Int) := by omega
    have e : wrap64 (c + (i : Int) + 1) = c + ((i + 1 : Nat) : Int) := by rw [wr (by omega) (by omega)]; omega
    obtain ⟨zs, z1, z2, z3⟩ := ih k (ys.set i (c + i)) (i + 1) (by simpa using hl) (by omega) (by omega) (by
      intro j hj
      rw [List.getElem?_set]
      by_cases e : i = j
      · subst e; rw [if_pos rfl, if_pos (by omega)]
      · rw [if_neg e]; exact h j (by omega))
    refine ⟨zs, z1, ?_, z3⟩
    simp only [laws_markIntS.l0]
    rw [if_pos h1, if_pos h2, e, wr_succ i (by omega), Int.toNat_natCast]
    exact z2
theorem markIntS_some (xs : List Int) (hn : xs.length ≤ 35184372088832) (c : Int) (hc : 0 ≤ c) (hc' : c ≤ 1000000000000000000) {k : Nat} (hk : xs.length < k) : ∃ zs, laws_markIntS.f k xs c = some (c + xs.length, zs) := by
  obtain ⟨zs, _, h, _⟩ := markIntS_loop xs.length hn c hc hc' xs.length k xs 0 rfl (by omega) hk (fun j hj => by omega)
  exact ⟨zs, by simpa [laws_markIntS.f] using h⟩

/-! rdb: a bool at a place -/
theorem rdb_at (xs : List Bool) (i : Nat) (h : i < xs.length) : rdOf false xs (i : Int) = xs[i] := by
  simp [rdOf, List.getD_eq_getElem?_getD, h]

/-! tobools: laws.toBoolS copies -/
theorem toBoolS_loop (xs : List Bool) (hn : xs.length ≤ 35184372088832) (d : Nat) : ∀ (k : Nat) (ys : List Bool) (i : Nat), ys.length = xs.length → (∀ j, j < i → ys[j]? = xs[j]?) → i + d = xs.length → d < k →
    laws_toBoolS.l0 k xs ys (i : Int) = some xs := by
  induction d with
  | zero =>
    intro k ys i hl h hd hk
    obtain ⟨k, rfl⟩ : ∃ m, k = m + 1 := ⟨k - 1, by omega⟩
    simp only [laws_toBoolS.l0]
    rw [if_neg (by omega), same_list hl (fun j hj => h j (by omega))]
  | succ d ih =>
    intro k ys i hl h hd hk
    obtain ⟨k, rfl⟩ : ∃ m, k = m + 1 := ⟨k - 1, by omega⟩
    have hi : i < xs.length := by omega
    have h1 : (i : Int) < (xs.length : Int) := by omega
    have h2 : (0 : Int) ≤ (i : Int) := by omega
    have h3 : (i : Int) < (ys.length : Int) := by omega
    simp only [laws_toBoolS.l0]
    rw [if_pos h1, if_pos h2, if_pos h3, rdb_at xs i hi, wr_succ i (by omega), Int.toNat_natCast]
    exact ih k _ (i + 1) (by simpa using hl) (set_upto hl hi h) (by omega) (by omega)
theorem toBoolS_eq {k : Nat} (xs : List Bool) (hn : xs.length ≤ 35184372088832) (hk : xs.length < k) : laws_toBoolS.f k xs = some xs := by
  unfold laws_toBoolS.f
  rw [if_pos (by omega), if_pos (by omega)]
  exact toBoolS_loop xs hn xs.length k _ 0 (by simp) (fun j hj => by omega) (by omega) hk

/-! eqbools: laws.eqBoolS says that a list is itself -/
theorem eqBoolS_loop (xs : List Bool) (hn : xs.length ≤ 35184372088832) (d : Nat) : ∀ (k : Nat) (i : Nat), i + d = xs.length → d < k → laws_eqBoolS.l0 k xs xs (i : Int) = some true := by
  induction d with
  | zero =>
    intro k i hd hk
    obtain ⟨k, rfl⟩ : ∃ m, k = m + 1 := ⟨k - 1, by omega⟩
    simp only [laws_eqBoolS.l0]
    rw [if_neg (by omega)]
  | succ d ih =>
    intro k i hd hk
    obtain ⟨k, rfl⟩ : ∃ m, k = m + 1 := ⟨k - 1, by omega⟩
    have h1 : (i : Int) < (xs.length : Int) := by omega
    have h2 : (0 : Int) ≤ (i : Int) := by omega
    simp only [laws_eqBoolS.l0, if_pos h1, if_pos h2, bne_self_eq_false, wr_succ i (by omega)]
    exact ih k (i + 1) (by omega) (by omega)
theorem eqBoolS_self {k : Nat} (xs : List Bool) (hn : xs.length ≤ 35184372088832) (hk : xs.length < k) : laws_eqBoolS.f k xs xs = some true := by
  unfold laws_eqBoolS.f
  rw [if_pos rfl]
  exact eqBoolS_loop xs hn xs.length k 0 (by omega) hk

/-! markboolonly: laws.markBoolS writes marks -/
theorem markBoolS_loop (n : Nat) (hn : n ≤ 35184372088832) (c : Int) (hc : 0 ≤ c) (hc' : c ≤ 1000000000000000000) (d : Nat) : ∀ (k : Nat) (ys : List Bool) (i : Nat), ys.length = n → i + d = n → d < k →
    (∀ j, j < i → ys[j]? = some (Int.tmod (c + j) 3 == 0)) →
    ∃ zs, zs.length = n ∧ laws_markBoolS.l0 k ys (c + i) (i : Int) = some (c + n, zs) ∧ ∀ j, j < n → zs[j]? = some (Int.tmod (c + j) 3 == 0) := by
  induction d with
  | zero =>
    intro k ys i hl hd hk h
    obtain ⟨k, rfl⟩ : ∃ m, k = m + 1 := ⟨k - 1, by omega⟩
    obtain rfl : i = n := by omega
    refine ⟨ys, hl, ?_, h⟩
    simp only [laws_markBoolS.l0]
    rw [if_neg (by omega)]
  | succ d ih =>
    intro k ys i hl hd hk h
    obtain ⟨k, rfl⟩ : ∃ m, k = m + 1 := ⟨k - 1, by omega⟩
    have h1 : (i : Int) < (ys.length : Int) := by omega
    have h2 : (0 : Int) ≤ (i : Int) := by omega
    have e : wrap64 (c + (i : Int) + 1) = c + ((i + 1 : Nat) : Int) := by rw [wr (by omega) (by omega)]; omega
    obtain ⟨zs, z1, z2, z3⟩ := ih k (ys.set i (Int.tmod (c + i) 3 == 0)) (i + 1) (by simpa using hl) (by omega) (by omega) (by
      intro j hj
      rw [List.getElem?_set]
      by_cases e : i = j
      · subst e; rw [if_pos rfl, if_pos (by omega)]
      · rw [if_neg e]; exact h j (by omega))
    refine ⟨zs, z1, ?_, z3⟩
    simp only [laws_markBoolS.l0]
    rw [if_pos h1, if_pos h2, e, wr_succ i (by omega), Int.toNat_natCast]
    exact z2
theorem markBoolS_some (xs : List Bool) (hn : xs.length ≤ 35184372088832) (c : Int) (hc : 0 ≤ c) (hc' : c ≤ 1000000000000000000) {k : Nat} (hk : xs.length < k) : ∃ zs, laws_markBoolS.f k xs c = some (c + xs.length, zs) := by
  obtain ⟨zs, _, h, _⟩ := markBoolS_loop xs.length hn c hc hc' xs.length k xs 0 rfl (by omega) hk (fun j hj => by omega)
  exact ⟨zs, by simpa [laws_markBoolS.f] using h⟩

/-! markbools: laws.heldBoolS finds the marks -/
theorem heldBoolS_loop (zs : List Bool) (hn : zs.length ≤ 35184372088832) (c : Int) (hc : 0 ≤ c) (hc' : c ≤ 1000000000000000000) (hz : ∀ j, j < zs.length → zs[j]? = some (Int.tmod (c + j) 3 == 0)) (d : Nat) : ∀ (k : Nat) (i : Nat), i + d = zs.length → d < k →
    laws_heldBoolS.l0 k zs (c + i) (i : Int) = some (c + zs.length) := by
  induction d with
  | zero =>
    intro k i hd hk
    obtain ⟨k, rfl⟩ : ∃ m, k = m + 1 := ⟨k - 1, by omega⟩
    simp only [laws_heldBoolS.l0]
    rw [if_neg (by omega), show i = zs.length by omega]
  | succ d ih =>
    intro k i hd hk
    obtain ⟨k, rfl⟩ : ∃ m, k = m + 1 := ⟨k - 1, by omega⟩
    have hi : i < zs.length := by omega
    have h1 : (i : Int) < (zs.length : Int) := by omega
    have h2 : (0 : Int) ≤ (i : Int) := by omega
    have e : wrap64 (c + (i : Int) + 1) = c + ((i + 1 : Nat) : Int) := by rw [wr (by omega) (by omega)]; omega
    have hv : zs[i] = (Int.tmod (c + i) 3 == 0) := by
      have := hz i hi
      rw [List.getElem?_eq_getElem hi] at this
      exact Option.some.inj this
    simp only [laws_heldBoolS.l0]
    rw [if_pos h1, if_pos h2, rdb_at zs i hi, hv, bne_self_eq_false, if_neg (by simp), e, wr_succ i (by omega)]
    exact ih k (i + 1) (by omega) (by omega)
theorem markBoolS_held (xs : List Bool) (hn : xs.length ≤ 35184372088832) (c : Int) (hc : 0 ≤ c) (hc' : c ≤ 1000000000000000000) :
    ∃ zs, zs.length = xs.length ∧ (∀ k, xs.length < k → laws_markBoolS.f k xs c = some (c + xs.length, zs)) ∧ (∀ k, xs.length < k → laws_heldBoolS.f k zs c = some (c + xs.length)) := by
  have all : ∀ k, xs.length < k → ∃ zs, zs.length = xs.length ∧ laws_markBoolS.f k xs c = some (c + xs.length, zs) ∧ ∀ j, j < xs.length → zs[j]? = some (Int.tmod (c + j) 3 == 0) := by
    intro k hk
    have := markBoolS_loop xs.length hn c hc hc' xs.length k xs 0 rfl (by omega) hk (fun j hj => by omega)
    simpa [laws_markBoolS.f] using this
  obtain ⟨zs, z1, _, z3⟩ := all (xs.length + 1) (by omega)
  refine ⟨zs, z1, fun k hk => ?_, fun k hk => ?_⟩
  · obtain ⟨us, u1, u2, u3⟩ := all k hk
    rw [u2, show us = zs from same_list (by omega) (fun j hj => by rw [u3 j (by omega), z3 j (by omega)])]
  · have := heldBoolS_loop zs (by omega) c hc hc' (fun j hj => z3 j (by omega)) zs.length k 0 (by omega) (by omega)
    simpa [laws_heldBoolS.f, z1] using this

/-! ins: between two numbers, in the reference -/
theorem in_some (a b c : Int) : spec_l1In.f a b c = some (decide (b ≤ a) && decide (a ≤ c)) := by
  unfold spec_l1In.f
  by_cases h : a ≥ b
  · rw [if_pos h]; have : b ≤ a := h; simp [this]
  · rw [if_neg h]; have : ¬ b ≤ a := h; simp [this]

/-! in: between two numbers -/
theorem within_eq (a b c : Int) : impl_within.f a b c = spec_l1In.f a b c := rfl

/-! inall: all numbers of a list between two numbers -/
def inAll (lo hi : Int) (xs : List Int) : Bool := xs.all fun x => decide (lo ≤ x) && decide (x ≤ hi)
theorem inAll_mem {lo hi : Int} {xs : List Int} (h : inAll lo hi xs = true) : ∀ x ∈ xs, lo ≤ x ∧ x ≤ hi := by
  intro x hx
  have := List.all_eq_true.1 h x hx
  simpa using this

/-! iall: all numbers of a list between two numbers, in the program -/
theorem iall_loop (lo up : Int) (xs : List Int) (hn : xs.length ≤ 35184372088832) (d : Nat) : ∀ (k : Nat) (i : Nat), i + d = xs.length → d < k →
    impl_allWithin.l0 k lo up xs (xs.length : Int) (i : Int) = some (inAll lo up (xs.drop i)) := by
  induction d with
  | zero =>
    intro k i hd hk
    obtain ⟨k, rfl⟩ : ∃ m, k = m + 1 := ⟨k - 1, by omega⟩
    simp only [impl_allWithin.l0]
    rw [if_neg (by omega), List.drop_of_length_le (by omega)]; rfl
  | succ d ih =>
    intro k i hd hk
    obtain ⟨k, rfl⟩ : ∃ m, k = m + 1 := ⟨k - 1, by omega⟩
    have hi : i < xs.length := by omega
    have h1 : (i : Int) < (xs.length : Int) := by omega
    have h2 : (0 : Int) ≤ (i : Int) := by omega
    simp only [impl_allWithin.l0]
    rw [if_pos h1, if_pos h2, if_pos h1, rd_at xs i hi, within_eq, in_some, wr_succ i (by omega), ih k (i + 1) (by omega) (by omega), List.drop_eq_getElem_cons hi]
    simp only [Option.bind_some, inAll, List.all_cons]
    generalize (decide (lo ≤ xs[i]) && decide (xs[i] ≤ up)) = b
    cases b <;> simp
theorem impl_all {k : Nat} (lo hi : Int) (xs : List Int) (hn : xs.length ≤ 35184372088832) (hk : xs.length < k) : impl_allWithin.f k xs lo hi = some (inAll lo hi xs) := by
  unfold impl_allWithin.f
  have := iall_loop lo hi xs hn xs.length k 0 (by omega) hk
  simpa using this

/-! taps: good taps, in both texts -/
def rise : List Int → Bool
  | x :: y :: l => decide (x < y) && rise (y :: l)
  | _ => true
def goodTaps (xs : List Int) : Bool := rise xs && inAll 1 12 xs
theorem rise_short {l : List Int} (h : l.length ≤ 1) : rise l = true := by
  match l, h with
  | [], _ => rfl
  | [_], _ => rfl
theorem drop2 (xs : List Int) (i : Nat) (h : i + 1 < xs.length) : xs.drop i = xs[i]'(by omega) :: xs[i + 1] :: xs.drop (i + 2) := by
  rw [List.drop_eq_getElem_cons (by omega), List.drop_eq_getElem_cons h]
theorem rising_loop (lo up : Int) (xs : List Int) (hn : xs.length ≤ 35184372088832) (d : Nat) : ∀ (k : Nat) (i : Nat), i + 1 + d = xs.length → d + 1 + xs.length < k →
    impl_isRising.l0 k xs lo up ((i + 1 : Nat) : Int) = some (rise (xs.drop i) && inAll lo up xs) := by
  induction d with
  | zero =>
    intro k i hd hk
    obtain ⟨k, rfl⟩ : ∃ m, k = m + 1 := ⟨k - 1, by omega⟩
    simp only [impl_isRising.l0]
    have hx : rise (xs.drop i) = true := rise_short (by simp; omega)
    rw [if_neg (by omega), impl_all lo up xs hn (by omega), hx]
    simp
  | succ d ih =>
    intro k i hd hk
    obtain ⟨k, rfl⟩ : ∃ m, k = m + 1 := ⟨k - 1, by omega⟩
    have hi : i + 1 < xs.length := by omega
    have h1 : ((i + 1 : Nat) : Int) < (xs.length : Int) := by omega
    have e : wrap64 (((i + 1 : Nat) : Int) - 1) = (i : Int) := by rw [wr (by omega) (by omega)]; omega
    have h2 : (0 : Int) ≤ (i : Int) := by omega
    have h3 : (i : Int) < (xs.length : Int) := by omega
    have h4 : (0 : Int) ≤ ((i + 1 : Nat) : Int) := by omega
    simp only [impl_isRising.l0]
    rw [if_pos h1, e, if_pos h2, if_pos h3, if_pos h4, rd_at xs i (by omega), rd_at xs (i + 1) hi, wr_succ (i + 1) (by omega), drop2 xs i hi]
    simp only [rise]
    by_cases h : xs[i] ≥ xs[i + 1]
    · have hx : ¬ xs[i] < xs[i + 1] := by omega
      rw [if_pos h]; simp [hx]
    · have hx : xs[i] < xs[i + 1] := by omega
      rw [if_neg h, ih k (i + 1) (by omega) (by omega), List.drop_eq_getElem_cons hi]
      simp [hx]
theorem impl_rising {k : Nat} (lo up : Int) (xs : List Int) (hn : xs.length ≤ 35184372088832) (hk : 2 * xs.length + 1 < k) : impl_isRising.f k xs lo up = some (rise xs && inAll lo up xs) := by
  unfold impl_isRising.f
  by_cases h : xs = []
  · subst h
    obtain ⟨k, rfl⟩ : ∃ m, k = m + 1 := ⟨k - 1, by omega⟩
    simp only [impl_isRising.l0]
    rw [if_neg (by simp), impl_all lo up [] hn (by simp at hk ⊢; omega)]
    rfl
  · have : 0 < xs.length := List.length_pos_iff.2 h
    have := rising_loop lo up xs hn (xs.length - 1) k 0 (by omega) (by omega)
    simpa using this
theorem spec_rising_loop (lo up : Int) (xs : List Int) (hn : xs.length ≤ 35184372088832) (d : Nat) : ∀ (k : Nat) (i : Nat), i + 1 + d = xs.length → d < k →
    spec_l1Rising.l0 k xs lo up xs (xs.length : Int) ((i + 1 : Nat) : Int) = some (rise (xs.drop i) && inAll lo up (xs.drop (i + 1))) := by
  induction d with
  | zero =>
    intro k i hd hk
    obtain ⟨k, rfl⟩ : ∃ m, k = m + 1 := ⟨k - 1, by omega⟩
    simp only [spec_l1Rising.l0]
    have hx : rise (xs.drop i) = true := rise_short (by simp; omega)
    rw [if_neg (by omega), hx, List.drop_of_length_le (by omega)]
    rfl
  | succ d ih =>
    intro k i hd hk
    obtain ⟨k, rfl⟩ : ∃ m, k = m + 1 := ⟨k - 1, by omega⟩
    have hi : i + 1 < xs.length := by omega
    have h1 : ((i + 1 : Nat) : Int) < (xs.length : Int) := by omega
    have e : wrap64 (((i + 1 : Nat) : Int) - 1) = (i : Int) := by rw [wr (by omega) (by omega)]; omega
    have h2 : (0 : Int) ≤ (i : Int) := by omega
    have h3 : (i : Int) < (xs.length : Int) := by omega
    have h4 : (0 : Int) ≤ ((i + 1 : Nat) : Int) := by omega
    have h5 : ((i + 1 : Nat) : Int) > 0 := by omega
    simp only [spec_l1Rising.l0]
    rw [if_pos h1, if_pos h4, if_pos h1, if_pos h5, e, if_pos h2, if_pos h3, rd_at xs i (by omega), rd_at xs (i + 1) hi, wr_succ (i + 1) (by omega), in_some, ih k (i + 1) (by omega) (by omega), drop2 xs i hi, List.drop_eq_getElem_cons hi]
    simp only [rise, Option.bind_some, inAll, List.all_cons]
    generalize (decide (lo ≤ xs[i + 1]) && decide (xs[i + 1] ≤ up)) = b
    by_cases h : xs[i] ≥ xs[i + 1]
    · have hx : ¬ xs[i] < xs[i + 1] := by omega
      rw [if_pos h]; cases b <;> simp [hx]
    · have hx : xs[i] < xs[i + 1] := by omega
      rw [if_neg h]; cases b <;> simp [hx]
theorem spec_rising {k : Nat} (lo up : Int) (xs : List Int) (hn : xs.length ≤ 35184372088832) (hk : xs.length < k) : spec_l1Rising.f k xs lo up = some (rise xs && inAll lo up xs) := by
  unfold spec_l1Rising.f
  obtain ⟨k, rfl⟩ : ∃ m, k = m + 1 := ⟨k - 1, by omega⟩
  simp only [spec_l1Rising.l0]
  cases xs with
  | nil => simp [rise, inAll]
  | cons x l =>
    have h1 : (0 : Int) < ((x :: l).length : Int) := by simp
    have h0 : ¬ (0 : Int) > 0 := by omega
    have := spec_rising_loop lo up (x :: l) hn l.length k 0 (by simp; omega) (by simp at hk; omega)
    rw [show ((0 + 1 : Nat) : Int) = 1 from rfl] at this
    rw [if_pos h1, if_pos (by omega), if_pos h1, if_neg h0, show wrap64 (0 + 1) = 1 from wr (by omega) (by omega), this, show rd (x :: l) 0 = x from rfl, in_some]
    simp only [Option.bind_some, inAll, List.all_cons, List.drop_zero, List.drop_succ_cons]
    generalize (decide (lo ≤ x) && decide (x ≤ up)) = b
    cases b <;> simp
theorem spec_goodTaps {k : Nat} (xs : List Int) (hn : xs.length ≤ 35184372088832) (hk : xs.length < k) : spec_GoodTaps.f k xs = some (goodTaps xs) := by
  simp [spec_GoodTaps.f, spec_rising 1 12 xs hn hk, goodTaps]
theorem impl_goodTaps {k : Nat} (xs : List Int) (hn : xs.length ≤ 35184372088832) (hk : 2 * xs.length + 1 < k) : impl_GoodTaps.f k xs = some (goodTaps xs) := by
  simp [impl_GoodTaps.f, impl_rising 1 12 xs hn hk, goodTaps]

/-! bitval: a bit at a place, none ahead of the first -/
def sAt (bits : List Bool) (i : Int) : Bool := if 0 ≤ i then bits.getD i.toNat false else false
theorem sAt_neg {bits : List Bool} {i : Int} (h : i < 0) : sAt bits i = false := by unfold sAt; rw [if_neg (by omega)]
theorem sAt_rd {bits : List Bool} {i : Int} (h : 0 ≤ i) : rdOf false bits i = sAt bits i := by unfold sAt rdOf; rw [if_pos h]
theorem sAt_nat (bits : List Bool) (i : Nat) (h : i < bits.length) : sAt bits (i : Int) = bits[i] := by
  simp [sAt, List.getD_eq_getElem?_getD, h]

/-! xdef: unlike sums over taps -/
def X : List Int → (Int → Bool) → Bool
  | [], _ => false
  | t :: l, f => (f t ^^ X l f)
theorem X_congr {l : List Int} {f g : Int → Bool} (h : ∀ t ∈ l, f t = g t) : X l f = X l g := by
  induction l with
  | nil => rfl
  | cons t l ih => simp only [X]; rw [h t (by simp), ih (fun t ht => h t (by simp [ht]))]
theorem X_none {l : List Int} {f : Int → Bool} (h : ∀ t ∈ l, f t = false) : X l f = false := by
  induction l with
  | nil => rfl
  | cons t l ih => simp only [X]; rw [h t (by simp), ih (fun t ht => h t (by simp [ht]))]; rfl
theorem X_xor (l : List Int) (f g : Int → Bool) : X l (fun t => f t ^^ g t) = (X l f ^^ X l g) := by
  induction l with
  | nil => rfl
  | cons t l ih => simp only [X]; rw [ih]; cases f t <;> cases g t <;> cases X l f <;> cases X l g <;> rfl
theorem X_swap (A B : List Int) (f : Int → Int → Bool) : X A (fun a => X B (fun b => f a b)) = X B (fun b => X A (fun a => f a b)) := by
  induction A with
  | nil => simp only [X]; exact (X_none (fun _ _ => rfl)).symm
  | cons a A ih => simp only [X]; rw [ih, X_xor]
theorem X_map (l : List Int) (g : Int → Int) (f : Int → Bool) : X (l.map g) f = X l (fun t => f (g t)) := by
  induction l with
  | nil => rfl
  | cons t l ih => simp only [X, List.map_cons]; rw [ih]
/-- The unlikeness at a place: the bit there and the bits at the taps. -/
def Dis (s : Int → Bool) (T : List Int) (i : Int) : Bool := X (0 :: T) (fun t => s (i - t))
theorem Dis_eq (s : Int → Bool) (T : List Int) (i : Int) : Dis s T i = (s i ^^ X T (fun t => s (i - t))) := by
  simp [Dis, X]

/-! next: the next bit by taps, in the reference -/
theorem X_append (a b : List Int) (f : Int → Bool) : X (a ++ b) f = (X a f ^^ X b f) := by
  induction a with
  | nil => simp [X]
  | cons t a ih => simp only [List.cons_append, X]; rw [ih]; cases f t <;> cases X a f <;> cases X b f <;> rfl
theorem next_loop (bits : List Bool) (taps : List Int) (at_ : Int) (h0 : 0 ≤ at_) (h1 : at_ ≤ bits.length) (hb : bits.length ≤ 1000000000000) (ht : ∀ t ∈ taps, 1 ≤ t ∧ t ≤ 1000000000000) (hn : taps.length ≤ 35184372088832) (d : Nat) :
    ∀ (k : Nat) (o : Bool) (i : Nat), i + d = taps.length → d < k → spec_l3Next.l0 k bits at_ o taps (taps.length : Int) (i : Int) = some (o ^^ X (taps.drop i) (fun t => sAt bits (at_ - t))) := by
  induction d with
  | zero =>
    intro k o i hd hk
    obtain ⟨k, rfl⟩ : ∃ m, k = m + 1 := ⟨k - 1, by omega⟩
    simp only [spec_l3Next.l0]
    rw [if_neg (by omega), List.drop_of_length_le (by omega)]
    simp [X]
  | succ d ih =>
    intro k o i hd hk
    obtain ⟨k, rfl⟩ : ∃ m, k = m + 1 := ⟨k - 1, by omega⟩
    have hi : i < taps.length := by omega
    have g1 : (i : Int) < (taps.length : Int) := by omega
    have g2 : (0 : Int) ≤ (i : Int) := by omega
    have hx := ht taps[i] (List.getElem_mem hi)
    simp only [spec_l3Next.l0]
    rw [if_pos g1, if_pos g2, if_pos g1, rd_at taps i hi, List.drop_eq_getElem_cons hi]
    by_cases h : at_ ≥ taps[i]
    · have g3 : (0 : Int) ≤ at_ - taps[i] := by omega
      have g4 : at_ - taps[i] < (bits.length : Int) := by omega
      rw [if_pos h, wr (x := at_ - taps[i]) (by omega) (by omega), if_pos g3, if_pos g4, sAt_rd g3, wr_succ i (by omega)]
      simp only [X]
      cases hv : sAt bits (at_ - taps[i])
      · rw [if_neg (by simp), ih k o (i + 1) (by omega) (by omega)]; simp
      · rw [if_pos rfl, ih k (!o) (i + 1) (by omega) (by omega)]; simp
    · have g3 : at_ - taps[i] < 0 := by omega
      rw [if_neg h, wr_succ i (by omega), ih k o (i + 1) (by omega) (by omega)]
      simp only [X]
      rw [sAt_neg g3]; simp
theorem spec_next {k : Nat} (bits : List Bool) (taps : List Int) (at_ : Int) (h0 : 0 ≤ at_) (h1 : at_ ≤ bits.length) (hb : bits.length ≤ 1000000000000) (ht : ∀ t ∈ taps, 1 ≤ t ∧ t ≤ 1000000000000) (hn : taps.length ≤ 35184372088832) (hk : taps.length < k) :
    spec_l3Next.f k bits taps at_ = some (X taps (fun t => sAt bits (at_ - t))) := by
  unfold spec_l3Next.f
  have := next_loop bits taps at_ h0 h1 hb ht hn taps.length k false 0 (by omega) hk
  simpa using this

/-! tapped: the next bit by taps, in the program -/
theorem tapped_key (o b : Bool) (F : Bool → Option Bool) : F (o != b) = if b = true then F (!o) else F o := by cases o <;> cases b <;> rfl
theorem tapped_l0_eq (k : Nat) : ∀ bits at_ o xs n i, impl_tapped.l0 k bits at_ o xs n i = spec_l3Next.l0 k bits at_ o xs n i := by
  induction k with
  | zero => intros; rfl
  | succ k ih =>
    intro bits at_ o xs n i
    have key := tapped_key o (rdOf false bits (wrap64 (at_ - rd xs i))) (fun z => spec_l3Next.l0 k bits at_ z xs n (wrap64 (i + 1)))
    simp only [impl_tapped.l0, spec_l3Next.l0, ih, ge_iff_le, key]
theorem tapped_eq (k : Nat) (taps : List Int) (bits : List Bool) (at_ : Int) : impl_tapped.f k taps bits at_ = spec_l3Next.f k bits taps at_ := by
  simp only [impl_tapped.f, spec_l3Next.f, tapped_l0_eq]

/-! top: the greatest tap, in both texts -/
def topTap (xs : List Int) : Int := xs.getLast?.getD 0
theorem spec_top (xs : List Int) (hn : xs.length ≤ 35184372088832) : spec_l3Top.f xs = some (topTap xs) := by
  unfold spec_l3Top.f
  rcases List.eq_nil_or_concat xs with rfl | ⟨l, x, rfl⟩
  · rfl
  · rw [List.concat_eq_append] at *
    have hl : (l ++ [x]).length = l.length + 1 := by simp
    have e : wrap64 (((l ++ [x]).length : Int) - 1) = ((l.length : Nat) : Int) := by rw [wr (by omega) (by omega)]; omega
    rw [if_neg (by omega), e, if_pos (by omega), if_pos (by omega), rd_at _ l.length (by omega)]
    simp [topTap]
theorem impl_top (xs : List Int) : impl_greatest.f xs = spec_l3Top.f xs := rfl

/-! gens: whether taps make the bits from a place on -/
def genB (s : Int → Bool) (T : List Int) : Nat → Int → Bool
  | 0, _ => true
  | d + 1, i => !Dis s T i && genB s T d (i + 1)
theorem genB_iff (s : Int → Bool) (T : List Int) (d : Nat) : ∀ i, genB s T d i = true ↔ ∀ j, i ≤ j → j < i + d → Dis s T j = false := by
  induction d with
  | zero => intro i; simp only [genB, true_iff]; intro j h1 h2; omega
  | succ d ih =>
    intro i
    simp only [genB, Bool.and_eq_true, Bool.not_eq_true', ih]
    constructor
    · rintro ⟨h1, h2⟩ j h3 h4
      by_cases e : j = i
      · rw [e]; exact h1
      · exact h2 j (by omega) (by omega)
    · intro h
      exact ⟨h i (by omega) (by omega), fun j h1 h2 => h j (by omega) (by omega)⟩

/-! tapsin: what good taps are between -/
theorem goodTaps_mem {taps : List Int} (h : goodTaps taps = true) : ∀ t ∈ taps, 1 ≤ t ∧ t ≤ 12 := by
  simp [goodTaps] at h; exact inAll_mem h.2
theorem topTap_nonneg {taps : List Int} (h : goodTaps taps = true) : 0 ≤ topTap taps := by
  unfold topTap
  rcases List.eq_nil_or_concat taps with rfl | ⟨l, x, rfl⟩
  · simp
  · have := goodTaps_mem h x (by simp)
    simp; omega

/-! stream: StreamOf, in both texts -/
def strV (taps : List Int) : Nat → List Bool → List Bool
  | 0, o => o
  | d + 1, o => strV taps d (o ++ [X taps (fun t => sAt o ((o.length : Int) - t))])
theorem strV_len (taps : List Int) (d : Nat) : ∀ o : List Bool, (strV taps d o).length = o.length + d := by
  induction d with
  | zero => intro o; rfl
  | succ d ih => intro o; simp only [strV]; rw [ih]; simp; omega
theorem stream_loop (taps : List Int) (hm : ∀ t ∈ taps, 1 ≤ t ∧ t ≤ 12) (hn : taps.length ≤ 35184372088832) (n : Int) (h0 : 0 ≤ n) (d : Nat) : ∀ (k : Nat) (o : List Bool), (n - (o.length : Int)).toNat = d → o.length + d ≤ 1000 → d + taps.length + 1 < k →
    spec_StreamOf.l0 k taps n o = some ((strV taps d o).take n.toNat, true) ∧ impl_stream.l0 k taps n o = some (strV taps d o) := by
  induction d with
  | zero =>
    intro k o hd ho hk
    obtain ⟨k, rfl⟩ : ∃ m, k = m + 1 := ⟨k - 1, by omega⟩
    have h : ¬ (o.length : Int) < n := by omega
    have h2 : n ≤ (o.length : Int) := by omega
    have h3 : ([] : List Bool).length + (o.take n.toNat).length < 140737488355328 := by simp; omega
    simp only [spec_StreamOf.l0, impl_stream.l0, strV]
    rw [if_neg h, if_neg h, Option.bind_some, if_pos h0, if_pos h2, Option.bind_some, if_pos h3]
    exact ⟨rfl, rfl⟩
  | succ d ih =>
    intro k o hd ho hk
    obtain ⟨k, rfl⟩ : ∃ m, k = m + 1 := ⟨k - 1, by omega⟩
    have h : (o.length : Int) < n := by omega
    have h3 : o.length < 140737488355328 := by omega
    have hv := spec_next (k := k) o taps (o.length : Int) (by omega) (by omega) (by omega) (fun t ht => by have := hm t ht; omega) hn (by omega)
    obtain ⟨r1, r2⟩ := ih k (o ++ [X taps (fun t => sAt o ((o.length : Int) - t))]) (by simp; omega) (by simp; omega) (by omega)
    simp only [spec_StreamOf.l0, impl_stream.l0, strV]
    rw [if_pos h, if_pos h, tapped_eq, hv, Option.bind_some, Option.bind_some, if_pos h3, if_pos h3]
    exact ⟨r1, r2⟩
def streamV (taps : List Int) (bits : List Bool) (n : Int) : List Bool × Bool :=
  if goodTaps taps = true ∧ (bits.length : Int) = topTap taps ∧ 0 ≤ n ∧ n ≤ 40 then ((strV taps (n - (bits.length : Int)).toNat bits).take n.toNat, true) else ([], false)
theorem streamV_len (taps : List Int) (bits : List Bool) (n : Int) : (streamV taps bits n).1.length ≤ 40 := by
  unfold streamV
  by_cases h : goodTaps taps = true ∧ (bits.length : Int) = topTap taps ∧ 0 ≤ n ∧ n ≤ 40
  · rw [if_pos h]; simp; omega
  · rw [if_neg h]; simp
theorem topTap_le {taps : List Int} (h : goodTaps taps = true) : topTap taps ≤ 12 := by
  unfold topTap
  rcases List.eq_nil_or_concat taps with rfl | ⟨l, x, rfl⟩
  · simp
  · have := goodTaps_mem h x (by simp)
    simp; omega
theorem stream_of {k : Nat} (taps : List Int) (bits : List Bool) (n : Int) (hn : taps.length ≤ 35184372088832) (hk : 2 * taps.length + 100 < k) :
    spec_StreamOf.f k taps bits n = some (streamV taps bits n) ∧ impl_StreamOf.f k taps bits n = some (streamV taps bits n) := by
  obtain ⟨k, rfl⟩ : ∃ m, k = m + 1 := ⟨k - 1, by omega⟩
  unfold spec_StreamOf.f impl_StreamOf.f impl_isStart.f streamV
  rw [spec_goodTaps taps hn (by omega), impl_goodTaps taps hn (by omega), impl_top, spec_top taps hn, within_eq, in_some]
  simp only [Option.bind_some]
  by_cases hg : goodTaps taps = true
  · by_cases hl : (bits.length : Int) = topTap taps
    · by_cases hb : 0 ≤ n ∧ n ≤ 40
      · have ht := topTap_le hg
        have hc : ([] : List Bool).length + bits.length < 140737488355328 := by simp; omega
        have hd : (decide (0 ≤ n) && decide (n ≤ 40)) = true := by simp; omega
        have e : ((bits.length : Int) == topTap taps) = true := by simp [hl]
        obtain ⟨r1, _⟩ := stream_loop taps (goodTaps_mem hg) hn n hb.1 (n - (bits.length : Int)).toNat k bits rfl (by omega) (by omega)
        obtain ⟨_, r2⟩ := stream_loop taps (goodTaps_mem hg) hn n hb.1 (n - (bits.length : Int)).toNat (k + 1) bits rfl (by omega) (by omega)
        have hlen : n ≤ ((strV taps (n - (bits.length : Int)).toNat bits).length : Int) := by rw [strV_len]; omega
        rw [if_pos hg, if_pos hg, if_pos hl, e, Option.bind_some, if_pos rfl, hd, if_pos rfl, if_pos ⟨hg, hl, hb.1, hb.2⟩]
        simp only [spec_StreamOf.j0, Bool.not_true, Bool.false_eq_true, if_false, impl_stream.f, slices_Clone_bool_bool.f]
        rw [Option.bind_some, Option.bind_some, if_pos hc, if_pos hc, Option.bind_some, List.nil_append, r1, r2, Option.bind_some, if_pos hb.1, if_pos hlen]
        exact ⟨rfl, rfl⟩
      · have hd : (decide (0 ≤ n) && decide (n ≤ 40)) = false := by simpa using hb
        have e : ((bits.length : Int) == topTap taps) = true := by simp [hl]
        rw [if_pos hg, if_pos hg, if_pos hl, e, Option.bind_some, if_pos rfl, hd, if_neg (fun h => hb ⟨h.2.2.1, h.2.2.2⟩)]
        simp [spec_StreamOf.j0]
    · have e : ((bits.length : Int) == topTap taps) = false := by simp [hl]
      rw [if_pos hg, if_pos hg, if_neg hl, e, if_neg (fun h => hl h.2.1)]
      simp [spec_StreamOf.j0]
  · rw [if_neg hg, if_neg hg, if_neg (fun h => hg h.1)]
    simp [spec_StreamOf.j0]

theorem FnExactStreamOf : ∀ (l0 : List Int) (l1 : List Bool) (a2 : Int), l0.length ≤ maxLen → (∀ n ∈ l0, (Lit.int .i64 n).wf = true) → l1.length ≤ maxLen → (Lit.int .i64 a2).wf = true → ∃ k, laws_FnExactStreamOf.f k l0 l1 a2 = some true := by
  intro taps bits n _ _ _ _
  refine rounds_of (2 * taps.length + bits.length + 300) fun k hk => ?_
  obtain ⟨k, rfl⟩ : ∃ j, k = j + 3 := ⟨k - 3, by omega⟩
  unfold laws_FnExactStreamOf.f
  by_cases h : (taps.length : Int) > 1048576
  · rw [if_pos h]
  · rw [if_neg h]
    by_cases h' : (bits.length : Int) > 1048576
    · rw [if_pos h']
    · rw [if_neg h']
      have hl := streamV_len taps bits n
      obtain ⟨s3, i3⟩ := stream_of (k := k + 3) taps bits n (by omega) (by omega)
      obtain ⟨_, i1⟩ := stream_of (k := k + 1) taps bits n (by omega) (by omega)
      generalize streamV taps bits n = r at *
      obtain ⟨za, za2⟩ := markIntS_some taps (by omega) 1 (by omega) (by omega) (by omega : taps.length < k + 2)
      obtain ⟨zb, zb2⟩ := markBoolS_some bits (by omega) (1 + taps.length) (by omega) (by omega) (by omega : bits.length < k + 2)
      obtain ⟨zo, zo1, zo2, zo3⟩ := markBoolS_held r.1 (by omega) 1 (by omega) (by omega)
      have q1 : ¬ (1 + (taps.length : Int) + (bits.length : Int) < 0) := by omega
      have q2 : ¬ (1 + (r.1.length : Int) < 0) := by omega
      simp only [toIntS_eq (k := k + 3) taps (by omega) (by omega), toBoolS_eq (k := k + 3) bits (by omega) (by omega), s3, i3, eqBoolS_self (k := k + 3) r.1 (by omega) (by omega), Option.bind_some, bne_self_eq_false, if_true]
      simp only [laws_FnExactStreamOf.j0, toIntS_eq (k := k + 2) taps (by omega) (by omega), eqIntS_self (k := k + 2) taps (by omega) (by omega), toBoolS_eq (k := k + 2) bits (by omega) (by omega), eqBoolS_self (k := k + 2) bits (by omega) (by omega), eqBoolS_self (k := k + 2) r.1 (by omega) (by omega), za2, zb2, Option.bind_some, if_true, if_neg q1, bne_self_eq_false, Bool.false_eq_true, if_false]
      simp only [laws_FnExactStreamOf.j1, toIntS_eq (k := k + 1) taps (by omega) (by omega), toBoolS_eq (k := k + 1) bits (by omega) (by omega), i1, eqBoolS_self (k := k + 1) r.1 (by omega) (by omega), zo2 (k + 1) (by omega), zo3 (k + 1) (by omega), Option.bind_some, if_true, if_neg q2, bne_self_eq_false, Bool.false_eq_true, if_false]
      simp only [laws_FnExactStreamOf.j2, zo3 k (by omega), Option.bind_some, if_true, if_neg q2, Bool.false_eq_true, if_false]

end Go.Proofs.Yticchbgbbnpgoaa.Pure
