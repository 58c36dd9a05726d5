/- GoodTaps answers as the reference does and leaves its argument alone, for every list (the plain half). -/
import Derived.Test.YticchbgbbnpgoaaPFnExactGoodTapsx
set_option linter.unusedVariables false
set_option linter.unusedSimpArgs false
namespace Go.Proofs.Yticchbgbbnpgoaa.Pure
open Go.RowKit Go.Proofs.Yticchbgbbnpgoaa.PFnExactGoodTaps Go.Proofs.YticchbgbbnpgoaaW.PrintWords Go.Proofs.YticchbgbbnpgoaaW.PrintLast

/-! base: sums of int that stay in range; `tmod` and `tdiv` of what is not negative -/
theorem wr {x : Int} (h1 : -9223372036854775808 ≤ x) (h2 : x ≤ 9223372036854775807) : wrap64 x = x := by
  unfold wrap64; omega
theorem tmod_pos {a b : Int} (h : 0 ≤ a) : Int.tmod a b = a % b := Int.tmod_eq_emod_of_nonneg h
theorem tdiv_pos {a b : Int} (h : 0 ≤ a) : Int.tdiv a b = a / b := Int.tdiv_eq_ediv_of_nonneg h
theorem rounds_of {α : Type} {g : Nat → Option α} {r : α} (N : Nat) (h : ∀ k, N < k → g k = some r) : ∃ k, g k = some r := ⟨N + 1, h _ (Nat.lt_succ_self N)⟩

/-! lists: reading a list at a place; a copy of a list; a list is like itself -/
theorem rd_at (xs : List Int) (i : Nat) (h : i < xs.length) : rd xs (i : Int) = xs[i] := by
  simp [rd, List.getD_eq_getElem?_getD, h]
theorem wr_succ (i : Nat) (h : i < 9000000000000000000) : wrap64 ((i : Int) + 1) = ((i + 1 : Nat) : Int) := by
  rw [wr (by omega) (by omega)]; omega
theorem same_list {α : Type} {xs ys : List α} (hl : ys.length = xs.length) (h : ∀ j, j < xs.length → ys[j]? = xs[j]?) : ys = xs := by
  apply List.ext_getElem?
  intro j
  by_cases hj : j < xs.length
  · exact h j hj
  · rw [List.getElem?_eq_none (by omega), List.getElem?_eq_none (by omega)]
theorem set_upto {α : Type} {xs ys : List α} {i : Nat} (hl : ys.length = xs.length) (hi : i < xs.length) (h : ∀ j, j < i → ys[j]? = xs[j]?) :
    ∀ j, j < i + 1 → (ys.set i xs[i])[j]? = xs[j]? := by
  intro j hj
  rw [List.getElem?_set]
  by_cases e : i = j
  · subst e; rw [if_pos rfl, if_pos (by omega), List.getElem?_eq_getElem hi]
  · rw [if_neg e]; exact h j (by omega)

/-! toints: laws.toIntS copies -/
theorem toIntS_loop (xs : List Int) (hn : xs.length ≤ 35184372088832) (d : Nat) : ∀ (k : Nat) (ys : List Int) (i : Nat), ys.length = xs.length → (∀ j, j < i → ys[j]? = xs[j]?) → i + d = xs.length → d < k →
    laws_toIntS.l0 k xs ys (i : Int) = some xs := by
  induction d with
  | zero =>
    intro k ys i hl h hd hk
    obtain ⟨k, rfl⟩ : ∃ m, k = m + 1 := ⟨k - 1, by omega⟩
    simp only [laws_toIntS.l0]
    rw [if_neg (by omega), same_list hl (fun j hj => h j (by omega))]
  | succ d ih =>
    intro k ys i hl h hd hk
    obtain ⟨k, rfl⟩ : ∃ m, k = m + 1 := ⟨k - 1, by omega⟩
    have hi : i < xs.length := by omega
    have h1 : (i : Int) < (xs.length : Int) := by omega
    have h2 : (0 : Int) ≤ (i : Int) := by omega
    have h3 : (i : Int) < (ys.length : Int) := by omega
    simp only [laws_toIntS.l0]
    rw [if_pos h1, if_pos h2, if_pos h3, rd_at xs i hi, wr_succ i (by omega), Int.toNat_natCast]
    exact ih k _ (i + 1) (by simpa using hl) (set_upto hl hi h) (by omega) (by omega)
theorem toIntS_eq {k : Nat} (xs : List Int) (hn : xs.length ≤ 35184372088832) (hk : xs.length < k) : laws_toIntS.f k xs = some xs := by
  unfold laws_toIntS.f
  rw [if_pos (by omega), if_pos (by omega)]
  exact toIntS_loop xs hn xs.length k _ 0 (by simp) (fun j hj => by omega) (by omega) hk

/-! eqints: laws.eqIntS says that a list is itself -/
theorem eqIntS_loop (xs : List Int) (hn : xs.length ≤ 35184372088832) (d : Nat) : ∀ (k : Nat) (i : Nat), i + d = xs.length → d < k → laws_eqIntS.l0 k xs xs (i : Int) = some true := by
  induction d with
  | zero =>
    intro k i hd hk
    obtain ⟨k, rfl⟩ : ∃ m, k = m + 1 := ⟨k - 1, by omega⟩
    simp only [laws_eqIntS.l0]
    rw [if_neg (by omega)]
  | succ d ih =>
    intro k i hd hk
    obtain ⟨k, rfl⟩ : ∃ m, k = m + 1 := ⟨k - 1, by omega⟩
    have h1 : (i : Int) < (xs.length : Int) := by omega
    have h2 : (0 : Int) ≤ (i : Int) := by omega
    simp only [laws_eqIntS.l0, if_pos h1, if_pos h2, if_true, wr_succ i (by omega)]
    exact ih k (i + 1) (by omega) (by omega)
theorem eqIntS_self {k : Nat} (xs : List Int) (hn : xs.length ≤ 35184372088832) (hk : xs.length < k) : laws_eqIntS.f k xs xs = some true := by
  unfold laws_eqIntS.f
  rw [if_pos rfl]
  exact eqIntS_loop xs hn xs.length k 0 (by omega) hk

/-! in: between two numbers -/
theorem within_eq (a b c : Int) : impl_within.f a b c = spec_l1In.f a b c := rfl
theorem in_some (a b c : Int) : spec_l1In.f a b c = some (decide (b ≤ a) && decide (a ≤ c)) := by
  unfold spec_l1In.f
  by_cases h : a ≥ b
  · rw [if_pos h]; have : b ≤ a := h; simp [this]
  · rw [if_neg h]; have : ¬ b ≤ a := h; simp [this]

/-! inall: all numbers of a list between two numbers -/
def inAll (lo hi : Int) (xs : List Int) : Bool := xs.all fun x => decide (lo ≤ x) && decide (x ≤ hi)
theorem inAll_mem {lo hi : Int} {xs : List Int} (h : inAll lo hi xs = true) : ∀ x ∈ xs, lo ≤ x ∧ x ≤ hi := by
  intro x hx
  have := List.all_eq_true.1 h x hx
  simpa using this

/-! iall: all numbers of a list between two numbers, in the program -/
theorem iall_loop (lo up : Int) (xs : List Int) (hn : xs.length ≤ 35184372088832) (d : Nat) : ∀ (k : Nat) (i : Nat), i + d = xs.length → d < k →
    impl_allWithin.l0 k lo up xs (xs.length : Int) (i : Int) = some (inAll lo up (xs.drop i)) := by
  induction d with
  | zero =>
    intro k i hd hk
    obtain ⟨k, rfl⟩ : ∃ m, k = m + 1 := ⟨k - 1, by omega⟩
    simp only [impl_allWithin.l0]
    rw [if_neg (by omega), List.drop_of_length_le (by omega)]; rfl
  | succ d ih =>
    intro k i hd hk
    obtain ⟨k, rfl⟩ : ∃ m, k = m + 1 := ⟨k - 1, by omega⟩
    have hi : i < xs.length := by omega
    have h1 : (i : Int) < (xs.length : Int) := by omega
    have h2 : (0 : Int) ≤ (i : Int) := by omega
    simp only [impl_allWithin.l0]
    rw [if_pos h1, if_pos h2, if_pos h1, rd_at xs i hi, within_eq, in_some, wr_succ i (by omega), ih k (i + 1) (by omega) (by omega), List.drop_eq_getElem_cons hi]
    simp only [Option.bind_some, inAll, List.all_cons]
    generalize (decide (lo ≤ xs[i]) && decide (xs[i] ≤ up)) = b
    cases b <;> simp
theorem impl_all {k : Nat} (lo hi : Int) (xs : List Int) (hn : xs.length ≤ 35184372088832) (hk : xs.length < k) : impl_allWithin.f k xs lo hi = some (inAll lo hi xs) := by
  unfold impl_allWithin.f
  have := iall_loop lo hi xs hn xs.length k 0 (by omega) hk
  simpa using this

/-! taps: good taps, in both texts -/
def rise : List Int → Bool
  | x :: y :: l => decide (x < y) && rise (y :: l)
  | _ => true
def goodTaps (xs : List Int) : Bool := rise xs && inAll 1 12 xs
theorem rise_short {l : List Int} (h : l.length ≤ 1) : rise l = true := by
  match l, h with
  | [], _ => rfl
  | [_], _ => rfl
theorem drop2 (xs : List Int) (i : Nat) (h : i + 1 < xs.length) : xs.drop i = xs[i]'(by omega) :: xs[i + 1] :: xs.drop (i + 2) := by
  rw [List.drop_eq_getElem_cons (by omega), List.drop_eq_getElem_cons h]
theorem rising_loop (lo up : Int) (xs : List Int) (hn : xs.length ≤ 35184372088832) (d : Nat) : ∀ (k : Nat) (i : Nat), i + 1 + d = xs.length → d + 1 + xs.length < k →
    impl_isRising.l0 k xs lo up ((i + 1 : Nat) : Int) = some (rise (xs.drop i) && inAll lo up xs) := by
  induction d with
  | zero =>
    intro k i hd hk
    obtain ⟨k, rfl⟩ : ∃ m, k = m + 1 := ⟨k - 1, by omega⟩
    simp only [impl_isRising.l0]
    have hx : rise (xs.drop i) = true := rise_short (by simp; omega)
    rw [if_neg (by omega), impl_all lo up xs hn (by omega), hx]
    simp
  | succ d ih =>
    intro k i hd hk
    obtain ⟨k, rfl⟩ : ∃ m, k = m + 1 := ⟨k - 1, by omega⟩
    have hi : i + 1 < xs.length := by omega
    have h1 : ((i + 1 : Nat) : Int) < (xs.length : Int) := by omega
    have e : wrap64 (((i + 1 : Nat) : Int) - 1) = (i : Int) := by rw [wr (by omega) (by omega)]; omega
    have h2 : (0 : Int) ≤ (i : Int) := by omega
    have h3 : (i : Int) < (xs.length : Int) := by omega
    have h4 : (0 : Int) ≤ ((i + 1 : Nat) : Int) := by omega
    simp only [impl_isRising.l0]
    rw [if_pos h1, e, if_pos h2, if_pos h3, if_pos h4, rd_at xs i (by omega), rd_at xs (i + 1) hi, wr_succ (i + 1) (by omega), drop2 xs i hi]
    simp only [rise]
    by_cases h : xs[i] ≥ xs[i + 1]
    · have hx : ¬ xs[i] < xs[i + 1] := by omega
      rw [if_pos h]; simp [hx]
    · have hx : xs[i] < xs[i + 1] := by omega
      rw [if_neg h, ih k (i + 1) (by omega) (by omega), List.drop_eq_getElem_cons hi]
      simp [hx]
theorem impl_rising {k : Nat} (lo up : Int) (xs : List Int) (hn : xs.length ≤ 35184372088832) (hk : 2 * xs.length + 1 < k) : impl_isRising.f k xs lo up = some (rise xs && inAll lo up xs) := by
  unfold impl_isRising.f
  by_cases h : xs = []
  · subst h
    obtain ⟨k, rfl⟩ : ∃ m, k = m + 1 := ⟨k - 1, by omega⟩
    simp only [impl_isRising.l0]
    rw [if_neg (by simp), impl_all lo up [] hn (by simp at hk ⊢; omega)]
    rfl
  · have : 0 < xs.length := List.length_pos_iff.2 h
    have := rising_loop lo up xs hn (xs.length - 1) k 0 (by omega) (by omega)
    simpa using this
theorem spec_rising_loop (lo up : Int) (xs : List Int) (hn : xs.length ≤ 35184372088832) (d : Nat) : ∀ (k : Nat) (i : Nat), i + 1 + d = xs.length → d < k →
    spec_l1Rising.l0 k xs lo up xs (xs.length : Int) ((i + 1 : Nat) : Int) = some (rise (xs.drop i) && inAll lo up (xs.drop (i + 1))) := by
  induction d with
  | zero =>
    intro k i hd hk
    obtain ⟨k, rfl⟩ : ∃ m, k = m + 1 := ⟨k - 1, by omega⟩
    simp only [spec_l1Rising.l0]
    have hx : rise (xs.drop i) = true := rise_short (by simp; omega)
    rw [if_neg (by omega), hx, List.drop_of_length_le (by omega)]
    rfl
  | succ d ih =>
    intro k i hd hk
    obtain ⟨k, rfl⟩ : ∃ m, k = m + 1 := ⟨k - 1, by omega⟩
    have hi : i + 1 < xs.length := by omega
    have h1 : ((i + 1 : Nat) : Int) < (xs.length : Int) := by omega
    have e : wrap64 (((i + 1 : Nat) : Int) - 1) = (i : Int) := by rw [wr (by omega) (by omega)]; omega
    have h2 : (0 : Int) ≤ (i : Int) := by omega
    have h3 : (i : Int) < (xs.length : Int) := by omega
    have h4 : (0 : Int) ≤ ((i + 1 : Nat) : Int) := by omega
    have h5 : ((i + 1 : Nat) : Int) > 0 := by omega
    simp only [spec_l1Rising.l0]
    rw [if_pos h1, if_pos h4, if_pos h1, if_pos h5, e, if_pos h2, if_pos h3, rd_at xs i (by omega), rd_at xs (i + 1) hi, wr_succ (i + 1) (by omega), in_some, ih k (i + 1) (by omega) (by omega), drop2 xs i hi, List.drop_eq_getElem_cons hi]
    simp only [rise, Option.bind_some, inAll, List.all_cons]
    generalize (decide (lo ≤ xs[i + 1]) && decide (xs[i + 1] ≤ up)) = b
    by_cases h : xs[i] ≥ xs[i + 1]
    · have hx : ¬ xs[i] < xs[i + 1] := by omega
      rw [if_pos h]; cases b <;> simp [hx]
    · have hx : xs[i] < xs[i + 1] := by omega
      rw [if_neg h]; cases b <;> simp [hx]
theorem spec_rising {k : Nat} (lo up : Int) (xs : List Int) (hn : xs.length ≤ 35184372088832) (hk : xs.length < k) : spec_l1Rising.f k xs lo up = some (rise xs && inAll lo up xs) := by
  unfold spec_l1Rising.f
  obtain ⟨k, rfl⟩ : ∃ m, k = m + 1 := ⟨k - 1, by omega⟩
  simp only [spec_l1Rising.l0]
  cases xs with
  | nil => simp [rise, inAll]
  | cons x l =>
    have h1 : (0 : Int) < ((x :: l).length : Int) := by simp
    have h0 : ¬ (0 : Int) > 0 := by omega
    have := spec_rising_loop lo up (x :: l) hn l.length k 0 (by simp; omega) (by simp at hk; omega)
    rw [show ((0 + 1 : Nat) : Int) = 1 from rfl] at this
    rw [if_pos h1, if_pos (by omega), if_pos h1, if_neg h0, show wrap64 (0 + 1) = 1 from wr (by omega) (by omega), this, show rd (x :: l) 0 = x from rfl, in_some]
    simp only [Option.bind_some, inAll, List.all_cons, List.drop_zero, List.drop_succ_cons]
    generalize (decide (lo ≤ x) && decide (x ≤ up)) = b
    cases b <;> simp
theorem spec_goodTaps {k : Nat} (xs : List Int) (hn : xs.length ≤ 35184372088832) (hk : xs.length < k) : spec_GoodTaps.f k xs = some (goodTaps xs) := by
  simp [spec_GoodTaps.f, spec_rising 1 12 xs hn hk, goodTaps]
theorem impl_goodTaps {k : Nat} (xs : List Int) (hn : xs.length ≤ 35184372088832) (hk : 2 * xs.length + 1 < k) : impl_GoodTaps.f k xs = some (goodTaps xs) := by
  simp [impl_GoodTaps.f, impl_rising 1 12 xs hn hk, goodTaps]

theorem FnExactGoodTaps : laws_FnExactGoodTaps.Pure := by
  intro xs _ hn _
  refine rounds_of (2 * xs.length + 10) fun k hk => ?_
  unfold laws_FnExactGoodTaps.f
  by_cases h : (xs.length : Int) > 1048576
  · rw [if_pos h]
  · rw [if_neg h]
    simp [toIntS_eq (k := k) xs (by omega) (by omega), eqIntS_self (k := k) xs (by omega) (by omega), spec_goodTaps (k := k) xs (by omega) (by omega), impl_goodTaps (k := k) xs (by omega) (by omega)]

end Go.Proofs.Yticchbgbbnpgoaa.Pure
