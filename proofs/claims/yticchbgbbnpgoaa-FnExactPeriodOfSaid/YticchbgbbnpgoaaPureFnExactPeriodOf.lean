/- PeriodOf answers as the reference does and leaves its arguments alone, for all lists (the plain half). -/
import Derived.Test.YticchbgbbnpgoaaQFnExactPeriodOfx
set_option linter.unusedVariables false
set_option linter.unusedSimpArgs false
namespace Go.Proofs.Yticchbgbbnpgoaa.Pure
open Go.RowKit Go.Proofs.Yticchbgbbnpgoaa.QFnExactPeriodOf Go.Proofs.YticchbgbbnpgoaaW.PrintWords Go.Proofs.YticchbgbbnpgoaaW.PrintLast Go.Proofs.YticchbgbbnpgoaaW.PrintMore

/-! base: sums of int that stay in range; `tmod` and `tdiv` of what is not negative -/
theorem wr {x : Int} (h1 : -9223372036854775808 ≤ x) (h2 : x ≤ 9223372036854775807) : wrap64 x = x := by
  unfold wrap64; omega
theorem tmod_pos {a b : Int} (h : 0 ≤ a) : Int.tmod a b = a % b := Int.tmod_eq_emod_of_nonneg h
theorem tdiv_pos {a b : Int} (h : 0 ≤ a) : Int.tdiv a b = a / b := Int.tdiv_eq_ediv_of_nonneg h
theorem rounds_of {α : Type} {g : Nat → Option α} {r : α} (N : Nat) (h : ∀ k, N < k → g k = some r) : ∃ k, g k = some r := ⟨N + 1, h _ (Nat.lt_succ_self N)⟩

/-! lists: reading a list at a place; a copy of a list; a list is like itself -/
theorem rd_at (xs : List Int) (i : Nat) (h : i < xs.length) : rd xs (i : Int) = xs[i] := by
  simp [rd, List.getD_eq_getElem?_getD, h]
theorem wr_succ (i : Nat) (h : i < 9000000000000000000) : wrap64 ((i : Int) + 1) = ((i + 1 : Nat) : Int) := by
  rw [wr (by omega) (by omega)]; omega
theorem same_list {α : Type} {xs ys : List α} (hl : ys.length = xs.length) (h : ∀ j, j < xs.length → ys[j]? = xs[j]?) : ys = xs := by
  apply List.ext_getElem?
  intro j
  by_cases hj : j < xs.length
  · exact h j hj
  · rw [List.getElem?_eq_none (by omega), List.getElem?_eq_none (by omega)]
theorem set_upto {α : Type} {xs ys : List α} {i : Nat} (hl : ys.length = xs.length) (hi : i < xs.length) (h : ∀ j, j < i → ys[j]? = xs[j]?) :
    ∀ j, j < i + 1 → (ys.set i xs[i])[j]? = xs[j]? := by
  intro j hj
  rw [List.getElem?_set]
  by_cases e : i = j
  · subst e; rw [if_pos rfl, if_pos (by omega), List.getElem?_eq_getElem hi]
  · rw [if_neg e]; exact h j (by omega)

/-! toints: laws.toIntS copies -/
theorem toIntS_loop (xs : List Int) (hn : xs.length ≤ 35184372088832) (d : Nat) : ∀ (k : Nat) (ys : List Int) (i : Nat), ys.length = xs.length → (∀ j, j < i → ys[j]? = xs[j]?) → i + d = xs.length → d < k →
    laws_toIntS.l0 k xs ys (i : Int) = some xs := by
  induction d with
  | zero =>
    intro k ys i hl h hd hk
    obtain ⟨k, rfl⟩ : ∃ m, k = m + 1 := ⟨k - 1, by omega⟩
    simp only [laws_toIntS.l0]
    rw [if_neg (by omega), same_list hl (fun j hj => h j (by omega))]
  | succ d ih =>
    intro k ys i hl h hd hk
    obtain ⟨k, rfl⟩ : ∃ m, k = m + 1 := ⟨k - 1, by omega⟩
    have hi : i < xs.length := by omega
    have h1 : (i : Int) < (xs.length : Int) := by omega
    have h2 : (0 : Int) ≤ (i : Int) := by omega
    have h3 : (i : Int) < (ys.length : Int) := by omega
    simp only [laws_toIntS.l0]
    rw [if_pos h1, if_pos h2, if_pos h3, rd_at xs i hi, wr_succ i (by omega), Int.toNat_natCast]
    exact ih k _ (i + 1) (by simpa using hl) (set_upto hl hi h) (by omega) (by omega)
theorem toIntS_eq {k : Nat} (xs : List Int) (hn : xs.length ≤ 35184372088832) (hk : xs.length < k) : laws_toIntS.f k xs = some xs := by
  unfold laws_toIntS.f
  rw [if_pos (by omega), if_pos (by omega)]
  exact toIntS_loop xs hn xs.length k _ 0 (by simp) (fun j hj => by omega) (by omega) hk

/-! eqints: laws.eqIntS says that a list is itself -/
theorem eqIntS_loop (xs : List Int) (hn : xs.length ≤ 35184372088832) (d : Nat) : ∀ (k : Nat) (i : Nat), i + d = xs.length → d < k → laws_eqIntS.l0 k xs xs (i : Int) = some true := by
  induction d with
  | zero =>
    intro k i hd hk
    obtain ⟨k, rfl⟩ : ∃ m, k = m + 1 := ⟨k - 1, by omega⟩
    simp only [laws_eqIntS.l0]
    rw [if_neg (by omega)]
  | succ d ih =>
    intro k i hd hk
    obtain ⟨k, rfl⟩ : ∃ m, k = m + 1 := ⟨k - 1, by omega⟩
    have h1 : (i : Int) < (xs.length : Int) := by omega
    have h2 : (0 : Int) ≤ (i : Int) := by omega
    simp only [laws_eqIntS.l0, if_pos h1, if_pos h2, if_true, wr_succ i (by omega)]
    exact ih k (i + 1) (by omega) (by omega)
theorem eqIntS_self {k : Nat} (xs : List Int) (hn : xs.length ≤ 35184372088832) (hk : xs.length < k) : laws_eqIntS.f k xs xs = some true := by
  unfold laws_eqIntS.f
  rw [if_pos rfl]
  exact eqIntS_loop xs hn xs.length k 0 (by omega) hk

/-! rdb: a bool at a place -/
theorem rdb_at (xs : List Bool) (i : Nat) (h : i < xs.length) : rdOf false xs (i : Int) = xs[i] := by
  simp [rdOf, List.getD_eq_getElem?_getD, h]

/-! tobools: laws.toBoolS copies -/
theorem toBoolS_loop (xs : List Bool) (hn : xs.length ≤ 35184372088832) (d : Nat) : ∀ (k : Nat) (ys : List Bool) (i : Nat), ys.length = xs.length → (∀ j, j < i → ys[j]? = xs[j]?) → i + d = xs.length → d < k →
    laws_toBoolS.l0 k xs ys (i : Int) = some xs := by
  induction d with
  | zero =>
    intro k ys i hl h hd hk
    obtain ⟨k, rfl⟩ : ∃ m, k = m + 1 := ⟨k - 1, by omega⟩
    simp only [laws_toBoolS.l0]
    rw [if_neg (by omega), same_list hl (fun j hj => h j (by omega))]
  | succ d ih =>
    intro k ys i hl h hd hk
    obtain ⟨k, rfl⟩ : ∃ m, k = m + 1 := ⟨k - 1, by omega⟩
    have hi : i < xs.length := by omega
    have h1 : (i : Int) < (xs.length : Int) := by omega
    have h2 : (0 : Int) ≤ (i : Int) := by omega
    have h3 : (i : Int) < (ys.length : Int) := by omega
    simp only [laws_toBoolS.l0]
    rw [if_pos h1, if_pos h2, if_pos h3, rdb_at xs i hi, wr_succ i (by omega), Int.toNat_natCast]
    exact ih k _ (i + 1) (by simpa using hl) (set_upto hl hi h) (by omega) (by omega)
theorem toBoolS_eq {k : Nat} (xs : List Bool) (hn : xs.length ≤ 35184372088832) (hk : xs.length < k) : laws_toBoolS.f k xs = some xs := by
  unfold laws_toBoolS.f
  rw [if_pos (by omega), if_pos (by omega)]
  exact toBoolS_loop xs hn xs.length k _ 0 (by simp) (fun j hj => by omega) (by omega) hk

/-! eqbools: laws.eqBoolS says that a list is itself -/
theorem eqBoolS_loop (xs : List Bool) (hn : xs.length ≤ 35184372088832) (d : Nat) : ∀ (k : Nat) (i : Nat), i + d = xs.length → d < k → laws_eqBoolS.l0 k xs xs (i : Int) = some true := by
  induction d with
  | zero =>
    intro k i hd hk
    obtain ⟨k, rfl⟩ : ∃ m, k = m + 1 := ⟨k - 1, by omega⟩
    simp only [laws_eqBoolS.l0]
    rw [if_neg (by omega)]
  | succ d ih =>
    intro k i hd hk
    obtain ⟨k, rfl⟩ : ∃ m, k = m + 1 := ⟨k - 1, by omega⟩
    have h1 : (i : Int) < (xs.length : Int) := by omega
    have h2 : (0 : Int) ≤ (i : Int) := by omega
    simp only [laws_eqBoolS.l0, if_pos h1, if_pos h2, bne_self_eq_false, wr_succ i (by omega)]
    exact ih k (i + 1) (by omega) (by omega)
theorem eqBoolS_self {k : Nat} (xs : List Bool) (hn : xs.length ≤ 35184372088832) (hk : xs.length < k) : laws_eqBoolS.f k xs xs = some true := by
  unfold laws_eqBoolS.f
  rw [if_pos rfl]
  exact eqBoolS_loop xs hn xs.length k 0 (by omega) hk

/-! ins: between two numbers, in the reference -/
theorem in_some (a b c : Int) : spec_l1In.f a b c = some (decide (b ≤ a) && decide (a ≤ c)) := by
  unfold spec_l1In.f
  by_cases h : a ≥ b
  · rw [if_pos h]; have : b ≤ a := h; simp [this]
  · rw [if_neg h]; have : ¬ b ≤ a := h; simp [this]

/-! in: between two numbers -/
theorem within_eq (a b c : Int) : impl_within.f a b c = spec_l1In.f a b c := rfl

/-! inall: all numbers of a list between two numbers -/
def inAll (lo hi : Int) (xs : List Int) : Bool := xs.all fun x => decide (lo ≤ x) && decide (x ≤ hi)
theorem inAll_mem {lo hi : Int} {xs : List Int} (h : inAll lo hi xs = true) : ∀ x ∈ xs, lo ≤ x ∧ x ≤ hi := by
  intro x hx
  have := List.all_eq_true.1 h x hx
  simpa using this

/-! iall: all numbers of a list between two numbers, in the program -/
theorem iall_loop (lo up : Int) (xs : List Int) (hn : xs.length ≤ 35184372088832) (d : Nat) : ∀ (k : Nat) (i : Nat), i + d = xs.length → d < k →
    impl_allWithin.l0 k lo up xs (xs.length : Int) (i : Int) = some (inAll lo up (xs.drop i)) := by
  induction d with
  | zero =>
    intro k i hd hk
    obtain ⟨k, rfl⟩ : ∃ m, k = m + 1 := ⟨k - 1, by omega⟩
    simp only [impl_allWithin.l0]
    rw [if_neg (by omega), List.drop_of_length_le (by omega)]; rfl
  | succ d ih =>
    intro k i hd hk
    obtain ⟨k, rfl⟩ : ∃ m, k = m + 1 := ⟨k - 1, by omega⟩
    have hi : i < xs.length := by omega
    have h1 : (i : Int) < (xs.length : Int) := by omega
    have h2 : (0 : Int) ≤ (i : Int) := by omega
    simp only [impl_allWithin.l0]
    rw [if_pos h1, if_pos h2, if_pos h1, rd_at xs i hi, within_eq, in_some, wr_succ i (by omega), ih k (i + 1) (by omega) (by omega), List.drop_eq_getElem_cons hi]
    simp only [Option.bind_some, inAll, List.all_cons]
    generalize (decide (lo ≤ xs[i]) && decide (xs[i] ≤ up)) = b
    cases b <;> simp
theorem impl_all {k : Nat} (lo hi : Int) (xs : List Int) (hn : xs.length ≤ 35184372088832) (hk : xs.length < k) : impl_allWithin.f k xs lo hi = some (inAll lo hi xs) := by
  unfold impl_allWithin.f
  have := iall_loop lo hi xs hn xs.length k 0 (by omega) hk
  simpa using this

/-! taps: good taps, in both texts -/
def rise : List Int → Bool
  | x :: y :: l => decide (x < y) && rise (y :: l)
  | _ => true
def goodTaps (xs : List Int) : Bool := rise xs && inAll 1 12 xs
theorem rise_short {l : List Int} (h : l.length ≤ 1) : rise l = true := by
  match l, h with
  | [], _ => rfl
  | [_], _ => rfl
theorem drop2 (xs : List Int) (i : Nat) (h : i + 1 < xs.length) : xs.drop i = xs[i]'(by omega) :: xs[i + 1] :: xs.drop (i + 2) := by
  rw [List.drop_eq_getElem_cons (by omega), List.drop_eq_getElem_cons h]
theorem rising_loop (lo up : Int) (xs : List Int) (hn : xs.length ≤ 35184372088832) (d : Nat) : ∀ (k : Nat) (i : Nat), i + 1 + d = xs.length → d + 1 + xs.length < k →
    impl_isRising.l0 k xs lo up ((i + 1 : Nat) : Int) = some (rise (xs.drop i) && inAll lo up xs) := by
  induction d with
  | zero =>
    intro k i hd hk
    obtain ⟨k, rfl⟩ : ∃ m, k = m + 1 := ⟨k - 1, by omega⟩
    simp only [impl_isRising.l0]
    have hx : rise (xs.drop i) = true := rise_short (by simp; omega)
    rw [if_neg (by omega), impl_all lo up xs hn (by omega), hx]
    simp
  | succ d ih =>
    intro k i hd hk
    obtain ⟨k, rfl⟩ : ∃ m, k = m + 1 := ⟨k - 1, by omega⟩
    have hi : i + 1 < xs.length := by omega
    have h1 : ((i + 1 : Nat) : Int) < (xs.length : Int) := by omega
    have e : wrap64 (((i + 1 : Nat) : Int) - 1) = (i : Int) := by rw [wr (by omega) (by omega)]; omega
    have h2 : (0 : Int) ≤ (i : Int) := by omega
    have h3 : (i : Int) < (xs.length : Int) := by omega
    have h4 : (0 : Int) ≤ ((i + 1 : Nat) : Int) := by omega
    simp only [impl_isRising.l0]
    rw [if_pos h1, e, if_pos h2, if_pos h3, if_pos h4, rd_at xs i (by omega), rd_at xs (i + 1) hi, wr_succ (i + 1) (by omega), drop2 xs i hi]
    simp only [rise]
    by_cases h : xs[i] ≥ xs[i + 1]
    · have hx : ¬ xs[i] < xs[i + 1] := by omega
      rw [if_pos h]; simp [hx]
    · have hx : xs[i] < xs[i + 1] := by omega
      rw [if_neg h, ih k (i + 1) (by omega) (by omega), List.drop_eq_getElem_cons hi]
      simp [hx]
theorem impl_rising {k : Nat} (lo up : Int) (xs : List Int) (hn : xs.length ≤ 35184372088832) (hk : 2 * xs.length + 1 < k) : impl_isRising.f k xs lo up = some (rise xs && inAll lo up xs) := by
  unfold impl_isRising.f
  by_cases h : xs = []
  · subst h
    obtain ⟨k, rfl⟩ : ∃ m, k = m + 1 := ⟨k - 1, by omega⟩
    simp only [impl_isRising.l0]
    rw [if_neg (by simp), impl_all lo up [] hn (by simp at hk ⊢; omega)]
    rfl
  · have : 0 < xs.length := List.length_pos_iff.2 h
    have := rising_loop lo up xs hn (xs.length - 1) k 0 (by omega) (by omega)
    simpa using this
theorem spec_rising_loop (lo up : Int) (xs : List Int) (hn : xs.length ≤ 35184372088832) (d : Nat) : ∀ (k : Nat) (i : Nat), i + 1 + d = xs.length → d < k →
    spec_l1Rising.l0 k xs lo up xs (xs.length : Int) ((i + 1 : Nat) : Int) = some (rise (xs.drop i) && inAll lo up (xs.drop (i + 1))) := by
  induction d with
  | zero =>
    intro k i hd hk
    obtain ⟨k, rfl⟩ : ∃ m, k = m + 1 := ⟨k - 1, by omega⟩
    simp only [spec_l1Rising.l0]
    have hx : rise (xs.drop i) = true := rise_short (by simp; omega)
    rw [if_neg (by omega), hx, List.drop_of_length_le (by omega)]
    rfl
  | succ d ih =>
    intro k i hd hk
    obtain ⟨k, rfl⟩ : ∃ m, k = m + 1 := ⟨k - 1, by omega⟩
    have hi : i + 1 < xs.length := by omega
    have h1 : ((i + 1 : Nat) : Int) < (xs.length : Int) := by omega
    have e : wrap64 (((i + 1 : Nat) : Int) - 1) = (i : Int) := by rw [wr (by omega) (by omega)]; omega
    have h2 : (0 : Int) ≤ (i : Int) := by omega
    have h3 : (i : Int) < (xs.length : Int) := by omega
    have h4 : (0 : Int) ≤ ((i + 1 : Nat) : Int) := by omega
    have h5 : ((i + 1 : Nat) : Int) > 0 := by omega
    simp only [spec_l1Rising.l0]
    rw [if_pos h1, if_pos h4, if_pos h1, if_pos h5, e, if_pos h2, if_pos h3, rd_at xs i (by omega), rd_at xs (i + 1) hi, wr_succ (i + 1) (by omega), in_some, ih k (i + 1) (by omega) (by omega), drop2 xs i hi, List.drop_eq_getElem_cons hi]
    simp only [rise, Option.bind_some, inAll, List.all_cons]
    generalize (decide (lo ≤ xs[i + 1]) && decide (xs[i + 1] ≤ up)) = b
    by_cases h : xs[i] ≥ xs[i + 1]
    · have hx : ¬ xs[i] < xs[i + 1] := by omega
      rw [if_pos h]; cases b <;> simp [hx]
    · have hx : xs[i] < xs[i + 1] := by omega
      rw [if_neg h]; cases b <;> simp [hx]
theorem spec_rising {k : Nat} (lo up : Int) (xs : List Int) (hn : xs.length ≤ 35184372088832) (hk : xs.length < k) : spec_l1Rising.f k xs lo up = some (rise xs && inAll lo up xs) := by
  unfold spec_l1Rising.f
  obtain ⟨k, rfl⟩ : ∃ m, k = m + 1 := ⟨k - 1, by omega⟩
  simp only [spec_l1Rising.l0]
  cases xs with
  | nil => simp [rise, inAll]
  | cons x l =>
    have h1 : (0 : Int) < ((x :: l).length : Int) := by simp
    have h0 : ¬ (0 : Int) > 0 := by omega
    have := spec_rising_loop lo up (x :: l) hn l.length k 0 (by simp; omega) (by simp at hk; omega)
    rw [show ((0 + 1 : Nat) : Int) = 1 from rfl] at this
    rw [if_pos h1, if_pos (by omega), if_pos h1, if_neg h0, show wrap64 (0 + 1) = 1 from wr (by omega) (by omega), this, show rd (x :: l) 0 = x from rfl, in_some]
    simp only [Option.bind_some, inAll, List.all_cons, List.drop_zero, List.drop_succ_cons]
    generalize (decide (lo ≤ x) && decide (x ≤ up)) = b
    cases b <;> simp
theorem spec_goodTaps {k : Nat} (xs : List Int) (hn : xs.length ≤ 35184372088832) (hk : xs.length < k) : spec_GoodTaps.f k xs = some (goodTaps xs) := by
  simp [spec_GoodTaps.f, spec_rising 1 12 xs hn hk, goodTaps]
theorem impl_goodTaps {k : Nat} (xs : List Int) (hn : xs.length ≤ 35184372088832) (hk : 2 * xs.length + 1 < k) : impl_GoodTaps.f k xs = some (goodTaps xs) := by
  simp [impl_GoodTaps.f, impl_rising 1 12 xs hn hk, goodTaps]

/-! bitval: a bit at a place, none ahead of the first -/
def sAt (bits : List Bool) (i : Int) : Bool := if 0 ≤ i then bits.getD i.toNat false else false
theorem sAt_neg {bits : List Bool} {i : Int} (h : i < 0) : sAt bits i = false := by unfold sAt; rw [if_neg (by omega)]
theorem sAt_rd {bits : List Bool} {i : Int} (h : 0 ≤ i) : rdOf false bits i = sAt bits i := by unfold sAt rdOf; rw [if_pos h]
theorem sAt_nat (bits : List Bool) (i : Nat) (h : i < bits.length) : sAt bits (i : Int) = bits[i] := by
  simp [sAt, List.getD_eq_getElem?_getD, h]

/-! xdef: unlike sums over taps -/
def X : List Int → (Int → Bool) → Bool
  | [], _ => false
  | t :: l, f => (f t ^^ X l f)
theorem X_congr {l : List Int} {f g : Int → Bool} (h : ∀ t ∈ l, f t = g t) : X l f = X l g := by
  induction l with
  | nil => rfl
  | cons t l ih => simp only [X]; rw [h t (by simp), ih (fun t ht => h t (by simp [ht]))]
theorem X_none {l : List Int} {f : Int → Bool} (h : ∀ t ∈ l, f t = false) : X l f = false := by
  induction l with
  | nil => rfl
  | cons t l ih => simp only [X]; rw [h t (by simp), ih (fun t ht => h t (by simp [ht]))]; rfl
theorem X_xor (l : List Int) (f g : Int → Bool) : X l (fun t => f t ^^ g t) = (X l f ^^ X l g) := by
  induction l with
  | nil => rfl
  | cons t l ih => simp only [X]; rw [ih]; cases f t <;> cases g t <;> cases X l f <;> cases X l g <;> rfl
theorem X_swap (A B : List Int) (f : Int → Int → Bool) : X A (fun a => X B (fun b => f a b)) = X B (fun b => X A (fun a => f a b)) := by
  induction A with
  | nil => simp only [X]; exact (X_none (fun _ _ => rfl)).symm
  | cons a A ih => simp only [X]; rw [ih, X_xor]
theorem X_map (l : List Int) (g : Int → Int) (f : Int → Bool) : X (l.map g) f = X l (fun t => f (g t)) := by
  induction l with
  | nil => rfl
  | cons t l ih => simp only [X, List.map_cons]; rw [ih]
/-- The unlikeness at a place: the bit there and the bits at the taps. -/
def Dis (s : Int → Bool) (T : List Int) (i : Int) : Bool := X (0 :: T) (fun t => s (i - t))
theorem Dis_eq (s : Int → Bool) (T : List Int) (i : Int) : Dis s T i = (s i ^^ X T (fun t => s (i - t))) := by
  simp [Dis, X]

/-! next: the next bit by taps, in the reference -/
theorem X_append (a b : List Int) (f : Int → Bool) : X (a ++ b) f = (X a f ^^ X b f) := by
  induction a with
  | nil => simp [X]
  | cons t a ih => simp only [List.cons_append, X]; rw [ih]; cases f t <;> cases X a f <;> cases X b f <;> rfl
theorem next_loop (bits : List Bool) (taps : List Int) (at_ : Int) (h0 : 0 ≤ at_) (h1 : at_ ≤ bits.length) (hb : bits.length ≤ 1000000000000) (ht : ∀ t ∈ taps, 1 ≤ t ∧ t ≤ 1000000000000) (hn : taps.length ≤ 35184372088832) (d : Nat) :
    ∀ (k : Nat) (o : Bool) (i : Nat), i + d = taps.length → d < k → spec_l3Next.l0 k bits at_ o taps (taps.length : Int) (i : Int) = some (o ^^ X (taps.drop i) (fun t => sAt bits (at_ - t))) := by
  induction d with
  | zero =>
    intro k o i hd hk
    obtain ⟨k, rfl⟩ : ∃ m, k = m + 1 := ⟨k - 1, by omega⟩
    simp only [spec_l3Next.l0]
    rw [if_neg (by omega), List.drop_of_length_le (by omega)]
    simp [X]
  | succ d ih =>
    intro k o i hd hk
    obtain ⟨k, rfl⟩ : ∃ m, k = m + 1 := ⟨k - 1, by omega⟩
    have hi : i < taps.length := by omega
    have g1 : (i : Int) < (taps.length : Int) := by omega
    have g2 : (0 : Int) ≤ (i : Int) := by omega
    have hx := ht taps[i] (List.getElem_mem hi)
    simp only [spec_l3Next.l0]
    rw [if_pos g1, if_pos g2, if_pos g1, rd_at taps i hi, List.drop_eq_getElem_cons hi]
    by_cases h : at_ ≥ taps[i]
    · have g3 : (0 : Int) ≤ at_ - taps[i] := by omega
      have g4 : at_ - taps[i] < (bits.length : Int) := by omega
      rw [if_pos h, wr (x := at_ - taps[i]) (by omega) (by omega), if_pos g3, if_pos g4, sAt_rd g3, wr_succ i (by omega)]
      simp only [X]
      cases hv : sAt bits (at_ - taps[i])
      · rw [if_neg (by simp), ih k o (i + 1) (by omega) (by omega)]; simp
      · rw [if_pos rfl, ih k (!o) (i + 1) (by omega) (by omega)]; simp
    · have g3 : at_ - taps[i] < 0 := by omega
      rw [if_neg h, wr_succ i (by omega), ih k o (i + 1) (by omega) (by omega)]
      simp only [X]
      rw [sAt_neg g3]; simp
theorem spec_next {k : Nat} (bits : List Bool) (taps : List Int) (at_ : Int) (h0 : 0 ≤ at_) (h1 : at_ ≤ bits.length) (hb : bits.length ≤ 1000000000000) (ht : ∀ t ∈ taps, 1 ≤ t ∧ t ≤ 1000000000000) (hn : taps.length ≤ 35184372088832) (hk : taps.length < k) :
    spec_l3Next.f k bits taps at_ = some (X taps (fun t => sAt bits (at_ - t))) := by
  unfold spec_l3Next.f
  have := next_loop bits taps at_ h0 h1 hb ht hn taps.length k false 0 (by omega) hk
  simpa using this

/-! tapped: the next bit by taps, in the program -/
theorem tapped_key (o b : Bool) (F : Bool → Option Bool) : F (o != b) = if b = true then F (!o) else F o := by cases o <;> cases b <;> rfl
theorem tapped_l0_eq (k : Nat) : ∀ bits at_ o xs n i, impl_tapped.l0 k bits at_ o xs n i = spec_l3Next.l0 k bits at_ o xs n i := by
  induction k with
  | zero => intros; rfl
  | succ k ih =>
    intro bits at_ o xs n i
    have key := tapped_key o (rdOf false bits (wrap64 (at_ - rd xs i))) (fun z => spec_l3Next.l0 k bits at_ z xs n (wrap64 (i + 1)))
    simp only [impl_tapped.l0, spec_l3Next.l0, ih, ge_iff_le, key]
theorem tapped_eq (k : Nat) (taps : List Int) (bits : List Bool) (at_ : Int) : impl_tapped.f k taps bits at_ = spec_l3Next.f k bits taps at_ := by
  simp only [impl_tapped.f, spec_l3Next.f, tapped_l0_eq]

/-! top: the greatest tap, in both texts -/
def topTap (xs : List Int) : Int := xs.getLast?.getD 0
theorem spec_top (xs : List Int) (hn : xs.length ≤ 35184372088832) : spec_l3Top.f xs = some (topTap xs) := by
  unfold spec_l3Top.f
  rcases List.eq_nil_or_concat xs with rfl | ⟨l, x, rfl⟩
  · rfl
  · rw [List.concat_eq_append] at *
    have hl : (l ++ [x]).length = l.length + 1 := by simp
    have e : wrap64 (((l ++ [x]).length : Int) - 1) = ((l.length : Nat) : Int) := by rw [wr (by omega) (by omega)]; omega
    rw [if_neg (by omega), e, if_pos (by omega), if_pos (by omega), rd_at _ l.length (by omega)]
    simp [topTap]
theorem impl_top (xs : List Int) : impl_greatest.f xs = spec_l3Top.f xs := rfl

/-! gens: whether taps make the bits from a place on -/
def genB (s : Int → Bool) (T : List Int) : Nat → Int → Bool
  | 0, _ => true
  | d + 1, i => !Dis s T i && genB s T d (i + 1)
theorem genB_iff (s : Int → Bool) (T : List Int) (d : Nat) : ∀ i, genB s T d i = true ↔ ∀ j, i ≤ j → j < i + d → Dis s T j = false := by
  induction d with
  | zero => intro i; simp only [genB, true_iff]; intro j h1 h2; omega
  | succ d ih =>
    intro i
    simp only [genB, Bool.and_eq_true, Bool.not_eq_true', ih]
    constructor
    · rintro ⟨h1, h2⟩ j h3 h4
      by_cases e : j = i
      · rw [e]; exact h1
      · exact h2 j (by omega) (by omega)
    · intro h
      exact ⟨h i (by omega) (by omega), fun j h1 h2 => h j (by omega) (by omega)⟩

/-! tapsin: what good taps are between -/
theorem goodTaps_mem {taps : List Int} (h : goodTaps taps = true) : ∀ t ∈ taps, 1 ≤ t ∧ t ≤ 12 := by
  simp [goodTaps] at h; exact inAll_mem h.2
theorem topTap_nonneg {taps : List Int} (h : goodTaps taps = true) : 0 ≤ topTap taps := by
  unfold topTap
  rcases List.eq_nil_or_concat taps with rfl | ⟨l, x, rfl⟩
  · simp
  · have := goodTaps_mem h x (by simp)
    simp; omega

/-! strv: the stream that taps make -/
def strV (taps : List Int) : Nat → List Bool → List Bool
  | 0, o => o
  | d + 1, o => strV taps d (o ++ [X taps (fun t => sAt o ((o.length : Int) - t))])
theorem strV_len (taps : List Int) (d : Nat) : ∀ o : List Bool, (strV taps d o).length = o.length + d := by
  induction d with
  | zero => intro o; rfl
  | succ d ih => intro o; simp only [strV]; rw [ih]; simp; omega
theorem topTap_le {taps : List Int} (h : goodTaps taps = true) : topTap taps ≤ 12 := by
  unfold topTap
  rcases List.eq_nil_or_concat taps with rfl | ⟨l, x, rfl⟩
  · simp
  · have := goodTaps_mem h x (by simp)
    simp; omega

/-! streami: the stream that taps make, in the program -/
theorem impl_stream_loop (taps : List Int) (hm : ∀ t ∈ taps, 1 ≤ t ∧ t ≤ 12) (hn : taps.length ≤ 35184372088832) (n : Int) (d : Nat) : ∀ (k : Nat) (o : List Bool), (n - (o.length : Int)).toNat = d → o.length + d ≤ 100000 → d + taps.length + 1 < k →
    impl_stream.l0 k taps n o = some (strV taps d o) := by
  induction d with
  | zero =>
    intro k o hd ho hk
    obtain ⟨k, rfl⟩ : ∃ m, k = m + 1 := ⟨k - 1, by omega⟩
    have h : ¬ (o.length : Int) < n := by omega
    simp only [impl_stream.l0, strV]
    rw [if_neg h]
  | succ d ih =>
    intro k o hd ho hk
    obtain ⟨k, rfl⟩ : ∃ m, k = m + 1 := ⟨k - 1, by omega⟩
    have h : (o.length : Int) < n := by omega
    have h3 : o.length < 140737488355328 := by omega
    have hv := spec_next (k := k) o taps (o.length : Int) (by omega) (by omega) (by omega) (fun t ht => by have := hm t ht; omega) hn (by omega)
    simp only [impl_stream.l0, strV]
    rw [if_pos h, tapped_eq, hv, Option.bind_some, if_pos h3]
    exact ih k _ (by simp; omega) (by simp; omega) (by omega)
theorem impl_stream_eq {k : Nat} (taps : List Int) (hm : ∀ t ∈ taps, 1 ≤ t ∧ t ≤ 12) (hn : taps.length ≤ 35184372088832) (bits : List Bool) (hb : bits.length ≤ 100) (n : Int) (hn1 : n ≤ 90000) (hk : 90000 + taps.length + 1 < k) :
    impl_stream.f k taps bits n = some (strV taps (n - (bits.length : Int)).toNat bits) := by
  have hc : ([] : List Bool).length + bits.length < 140737488355328 := by simp; omega
  unfold impl_stream.f slices_Clone_bool_bool.f
  rw [Option.bind_some, if_pos hc, Option.bind_some, List.nil_append]
  exact impl_stream_loop taps hm hn n _ k bits rfl (by omega) (by omega)

/-! eqlib: slices.Equal and slices.Contains over bools -/
theorem equal_loop (a b : List Bool) (hab : a.length = b.length) (hn : a.length ≤ 35184372088832) (d : Nat) : ∀ (k : Nat) (i : Nat), i + d = a.length → d < k →
    slices_Equal_bool_bool.l0 k a b (a.length : Int) (i : Int) = some (decide (a.drop i = b.drop i)) := by
  induction d with
  | zero =>
    intro k i hd hk
    obtain ⟨k, rfl⟩ : ∃ m, k = m + 1 := ⟨k - 1, by omega⟩
    simp only [slices_Equal_bool_bool.l0]
    rw [if_neg (by omega), List.drop_of_length_le (by omega), List.drop_of_length_le (by omega)]
    simp
  | succ d ih =>
    intro k i hd hk
    obtain ⟨k, rfl⟩ : ∃ m, k = m + 1 := ⟨k - 1, by omega⟩
    have h1 : (i : Int) < (a.length : Int) := by omega
    have h2 : (0 : Int) ≤ (i : Int) := by omega
    have h3 : (i : Int) < (b.length : Int) := by omega
    simp only [slices_Equal_bool_bool.l0]
    rw [if_pos h1, if_pos h2, if_pos h1, if_pos h3, rdb_at a i (by omega), rdb_at b i (by omega), wr_succ i (by omega), ih k (i + 1) (by omega) (by omega), List.drop_eq_getElem_cons (show i < a.length by omega), List.drop_eq_getElem_cons (show i < b.length by omega)]
    simp only [List.cons.injEq]
    by_cases e : a[i] = b[i]
    · simp [e]
    · have e' : (a[i] != b[i]) = true := by simp [e]
      simp [e, e']
theorem lib_equal {k : Nat} (a b : List Bool) (hn : a.length ≤ 35184372088832) (hk : a.length < k) : slices_Equal_bool_bool.f k a b = some (decide (a = b)) := by
  unfold slices_Equal_bool_bool.f
  by_cases h : a.length = b.length
  · rw [if_pos (by omega)]
    have := equal_loop a b h hn a.length k 0 (by omega) hk
    simpa using this
  · rw [if_neg (by omega)]
    have : ¬ a = b := fun e => h (by rw [e])
    simp [this]
theorem holds_loop (a : List Bool) (hn : a.length ≤ 35184372088832) (d : Nat) : ∀ (k : Nat) (i : Nat), i + d = a.length → d < k →
    ∃ r, slices_Index_bool_bool.l0 k a true (a.length : Int) (i : Int) = some r ∧ (r ≥ 0 ↔ (a.drop i).any id = true) := by
  induction d with
  | zero =>
    intro k i hd hk
    obtain ⟨k, rfl⟩ : ∃ m, k = m + 1 := ⟨k - 1, by omega⟩
    simp only [slices_Index_bool_bool.l0]
    rw [if_neg (by omega), List.drop_of_length_le (by omega)]
    exact ⟨-1, rfl, by simp⟩
  | succ d ih =>
    intro k i hd hk
    obtain ⟨k, rfl⟩ : ∃ m, k = m + 1 := ⟨k - 1, by omega⟩
    have h1 : (i : Int) < (a.length : Int) := by omega
    have h2 : (0 : Int) ≤ (i : Int) := by omega
    simp only [slices_Index_bool_bool.l0]
    rw [if_pos h1, if_pos h2, if_pos h1, rdb_at a i (by omega), wr_succ i (by omega), List.drop_eq_getElem_cons (show i < a.length by omega)]
    cases e : a[i]
    · obtain ⟨r, r1, r2⟩ := ih k (i + 1) (by omega) (by omega)
      exact ⟨r, by simpa using r1, by simpa using r2⟩
    · exact ⟨(i : Int), by simp, by simp⟩
theorem lib_holds {k : Nat} (a : List Bool) (hn : a.length ≤ 35184372088832) (hk : a.length < k) : slices_Contains_bool_bool.f k a true = some (a.any id) := by
  obtain ⟨r, r1, r2⟩ := holds_loop a hn a.length k 0 (by omega) hk
  unfold slices_Contains_bool_bool.f slices_Index_bool_bool.f
  rw [show ((0 : Nat) : Int) = 0 from rfl] at r1
  rw [r1, Option.bind_some, List.drop_zero] at *
  congr 1
  rw [Bool.eq_iff_iff, decide_eq_true_eq]
  exact r2

/-! hd: an equation that the search for linear facts is to leave alone -/
def Hd (p : Prop) : Prop := p
theorem Hd.mk {p : Prop} (h : p) : Hd p := h
theorem Hd.out {p : Prop} (h : Hd p) : p := h

/-! period: PeriodOf, in both texts -/
theorem strV_pre (taps : List Int) (d : Nat) : ∀ o : List Bool, ∃ e, strV taps d o = o ++ e := by
  induction d with
  | zero => intro o; exact ⟨[], by simp [strV]⟩
  | succ d ih =>
    intro o
    obtain ⟨e, he⟩ := ih (o ++ [X taps (fun t => sAt o ((o.length : Int) - t))])
    exact ⟨_, by simp only [strV]; rw [he, List.append_assoc]⟩
theorem sAt_left (o e : List Bool) (j : Int) (h : j < o.length) : sAt (o ++ e) j = sAt o j := by
  unfold sAt
  by_cases h0 : 0 ≤ j
  · rw [if_pos h0, if_pos h0, List.getD_eq_getElem?_getD, List.getD_eq_getElem?_getD, List.getElem?_append_left (by omega)]
  · rw [if_neg h0, if_neg h0]
theorem sAt_mid (o e : List Bool) (b : Bool) : sAt (o ++ [b] ++ e) (o.length : Int) = b := by
  rw [sAt_left _ _ _ (by simp; omega)]
  rw [sAt_nat _ _ (by simp)]
  simp
theorem strV_rec (taps : List Int) (ht : ∀ t ∈ taps, 1 ≤ t) (d : Nat) : ∀ (o : List Bool) (j : Nat), o.length ≤ j → j < o.length + d →
    sAt (strV taps d o) (j : Int) = X taps (fun t => sAt (strV taps d o) ((j : Int) - t)) := by
  induction d with
  | zero => intro o j h1 h2; omega
  | succ d ih =>
    intro o j h1 h2
    by_cases e : j = o.length
    · subst e
      obtain ⟨r, hr⟩ := strV_pre taps d (o ++ [X taps (fun t => sAt o ((o.length : Int) - t))])
      simp only [strV]
      rw [hr, sAt_mid]
      refine X_congr fun t h => ?_
      have := ht t h
      rw [List.append_assoc, sAt_left _ _ _ (by omega)]
    · simp only [strV]
      exact ih _ j (by simp; omega) (by simp; omega)
theorem rise_top {taps : List Int} (h : rise taps = true) : ∀ t ∈ taps, t ≤ topTap taps := by
  induction taps with
  | nil => intro t ht; simp at ht
  | cons x l ih =>
    cases l with
    | nil => intro t ht; simp at ht; subst ht; simp [topTap]
    | cons y l =>
      simp only [rise, Bool.and_eq_true, decide_eq_true_eq] at h
      have ih := ih h.2
      have e : topTap (x :: y :: l) = topTap (y :: l) := by simp [topTap]
      intro t ht
      rw [e]
      rcases List.mem_cons.1 ht with rfl | ht
      · have := ih y (by simp); omega
      · exact ih t ht
def win (S : List Bool) (n i : Nat) : List Bool := (S.drop i).take n
theorem win_len (S : List Bool) (n i : Nat) (h : i + n ≤ S.length) : (win S n i).length = n := by simp [win]; omega
theorem win_at (S : List Bool) (n i : Nat) (h : i + n ≤ S.length) (j : Int) (h0 : 0 ≤ j) (h1 : j < n) : sAt (win S n i) j = sAt S ((i : Int) + j) := by
  unfold sAt win
  rw [if_pos h0, if_pos (by omega), List.getD_eq_getElem?_getD, List.getD_eq_getElem?_getD, List.getElem?_take_of_lt (by omega), List.getElem?_drop]
  rw [show i + j.toNat = ((i : Int) + j).toNat by omega]
theorem win_step (S : List Bool) (n i : Nat) (hn : 1 ≤ n) (h : i + n < S.length) : (win S n i).drop 1 ++ [sAt S ((i : Int) + n)] = win S n (i + 1) := by
  obtain ⟨m, rfl⟩ : ∃ m, n = m + 1 := ⟨n - 1, by omega⟩
  unfold win
  rw [List.drop_take, List.drop_drop, List.take_add_one, List.getElem?_drop, show m + 1 - 1 = m by omega]
  rw [show i + 1 + m = i + (m + 1) by omega]
  have e : sAt S ((i : Int) + ((m + 1 : Nat) : Int)) = S[i + (m + 1)] := by
    rw [show (i : Int) + ((m + 1 : Nat) : Int) = ((i + (m + 1) : Nat) : Int) by omega, sAt_nat S _ h]
  rw [e, List.getElem?_eq_getElem h]
  rfl
theorem win_next (taps : List Int) (hg : goodTaps taps = true) (bits : List Bool) (hb : (bits.length : Int) = topTap taps) (N i : Nat) (h : i < N) (hn : 1 ≤ bits.length) :
    (win (strV taps N bits) bits.length i).drop 1 ++ [X taps (fun t => sAt (win (strV taps N bits) bits.length i) ((bits.length : Int) - t))] = win (strV taps N bits) bits.length (i + 1) := by
  have hl := strV_len taps N bits
  have hr : rise taps = true := by simp [goodTaps] at hg; exact hg.1
  rw [← win_step _ _ _ hn (by omega)]
  congr 2
  have := strV_rec taps (fun t ht => (goodTaps_mem hg t ht).1) N bits (i + bits.length) (by omega) (by omega)
  rw [show (i : Int) + (bits.length : Int) = ((i + bits.length : Nat) : Int) by omega, this]
  refine X_congr fun t ht => ?_
  have h1 := (goodTaps_mem hg t ht).1
  have h2 := rise_top hr t ht
  rw [win_at _ _ _ (by omega) _ (by omega) (by omega)]
  rw [show (i : Int) + ((bits.length : Int) - t) = ((i + bits.length : Nat) : Int) - t by omega]
theorem periodN_ex : ∃ N : Nat, N = 5000 := ⟨_, rfl⟩
noncomputable def periodN : Nat := Classical.choose periodN_ex
theorem periodN_eq : periodN = 5000 := Classical.choose_spec periodN_ex
def perV (S bits : List Bool) : Nat → Nat → Int × Bool
  | 0, _ => (0, false)
  | d + 1, i => if win S bits.length i = bits then ((i : Int), true) else perV S bits d (i + 1)
theorem same_loop (taps : List Int) (st bits : List Bool) (top x11 : Int) (hs : st.length = bits.length) (hb : bits.length ≤ 100) (k : Nat) (d : Nat) : ∀ (b : Bool) (j : Nat), j + d = bits.length →
    spec_PeriodOf.l2 (k + d + 1) taps bits top st x11 b bits (bits.length : Int) (j : Int) = if (b && decide (st.drop j = bits.drop j)) = true then some (x11, true) else spec_PeriodOf.l1 k taps bits top st (wrap64 (x11 + 1)) := by
  induction d with
  | zero =>
    intro b j hj
    simp only [spec_PeriodOf.l2]
    rw [if_neg (by omega), List.drop_of_length_le (by omega), List.drop_of_length_le (by omega)]
    simp
  | succ d ih =>
    intro b j hj
    have h1 : (j : Int) < (bits.length : Int) := by omega
    have h2 : (0 : Int) ≤ (j : Int) := by omega
    have h3 : (j : Int) < (st.length : Int) := by omega
    have ih' := fun b => ih b (j + 1) (by omega)
    rw [show k + (d + 1) + 1 = (k + d + 1) + 1 by omega]
    generalize k + d + 1 = K at *
    simp only [spec_PeriodOf.l2]
    rw [if_pos h1, if_pos h2, if_pos h1, wr_succ j (by omega), if_pos h3, rdb_at st j (by omega), rdb_at bits j (by omega), ih', ih', List.drop_eq_getElem_cons (show j < st.length by omega), List.drop_eq_getElem_cons (show j < bits.length by omega)]
    cases b
    · simp
    · rw [if_pos rfl]
      simp only [List.cons.injEq, Bool.true_and]
      by_cases e : st[j] = bits[j]
      · simp [e]
      · have e' : (st[j] == bits[j]) = false := by simp [e]
        simp [e, e']
theorem period_loop (taps : List Int) (hg : goodTaps taps = true) (bits : List Bool) (hb : (bits.length : Int) = topTap taps) (hn : 1 ≤ bits.length) (hn' : bits.length ≤ 12) (ht : taps.length ≤ 35184372088832) (d : Nat) : ∀ (k i : Nat), i + 1 + d = 5001 → d * 20 + taps.length + 100 < k →
    spec_PeriodOf.l1 k taps bits (topTap taps) (win (strV taps periodN bits) bits.length i) ((i + 1 : Nat) : Int) = some (perV (strV taps periodN bits) bits d (i + 1)) ∧
    impl_PeriodOf.l0 k bits (bits.length : Int) (strV taps periodN bits) ((i + 1 : Nat) : Int) = some (perV (strV taps periodN bits) bits d (i + 1)) := by
  have hl := strV_len taps periodN bits
  have hN := periodN_eq
  induction d with
  | zero =>
    intro k i hd hk
    obtain ⟨k, rfl⟩ : ∃ m, k = m + 1 := ⟨k - 1, by omega⟩
    have h : ¬ ((i + 1 : Nat) : Int) ≤ 5000 := by omega
    simp only [spec_PeriodOf.l1, impl_PeriodOf.l0, if_neg h, perV]
    exact ⟨trivial, trivial⟩
  | succ d ih =>
    intro k i hd hk
    obtain ⟨k, rfl⟩ : ∃ m, k = (m + bits.length + 1) + 1 := ⟨k - bits.length - 2, by omega⟩
    have h : ((i + 1 : Nat) : Int) ≤ 5000 := by omega
    have hw := win_len (strV taps periodN bits) bits.length i (by omega)
    have hw1 := win_len (strV taps periodN bits) bits.length (i + 1) (by omega)
    have h1 : (1 : Int) ≤ ((win (strV taps periodN bits) bits.length i).length : Int) := by omega
    have c1 : ([] : List Bool).length + ((win (strV taps periodN bits) bits.length i).drop 1).length < 140737488355328 := by simp; omega
    have c2 : (([] : List Bool) ++ (win (strV taps periodN bits) bits.length i).drop 1).length < 140737488355328 := by simp; omega
    have hx := spec_next (k := k + bits.length + 1) (win (strV taps periodN bits) bits.length i) taps (bits.length : Int) (by omega) (by omega) (by omega) (fun t ht => by have := goodTaps_mem hg t ht; omega) ht (by omega)
    have hs := win_next taps hg bits hb periodN i (by omega) hn
    obtain ⟨r1, _⟩ := ih k (i + 1) (by omega) (by omega)
    obtain ⟨_, r2⟩ := ih (k + bits.length + 1) (i + 1) (by omega) (by omega)
    have e0 : Hd (wrap64 (((i + 1 : Nat) : Int) + (bits.length : Int)) = ((i + 1 + bits.length : Nat) : Int)) := Hd.mk (by rw [wr (by omega) (by omega)]; omega)
    have e1 : Hd (wrap64 (((i + 1 : Nat) : Int) + 1) = ((i + 1 + 1 : Nat) : Int)) := Hd.mk (by rw [wr (by omega) (by omega)]; omega)
    have g1 : (0 : Int) ≤ ((i + 1 : Nat) : Int) := by omega
    have g2 : ((i + 1 : Nat) : Int) ≤ ((i + 1 + bits.length : Nat) : Int) := by omega
    have g3 : ((i + 1 + bits.length : Nat) : Int) ≤ ((strV taps periodN bits).length : Int) := by omega
    have g4 : ((strV taps periodN bits).take (i + 1 + bits.length)).drop (i + 1) = win (strV taps periodN bits) bits.length (i + 1) := by
      unfold win; rw [List.drop_take, show i + 1 + bits.length - (i + 1) = bits.length by omega]
    constructor
    · simp only [spec_PeriodOf.l1]
      rw [if_pos h, Option.bind_some, if_pos h1, Option.bind_some, if_pos c1, Option.bind_some, ← hb, hx, Option.bind_some, if_pos c2, List.nil_append, hs]
      have hsl := same_loop taps (win (strV taps periodN bits) bits.length (i + 1)) bits (bits.length : Int) ((i + 1 : Nat) : Int) hw1 (by omega) k bits.length true 0 (by omega)
      rw [show ((0 : Nat) : Int) = 0 from rfl] at hsl
      rw [hsl, e1.out, hb, r1]
      simp only [perV, List.drop_zero, Bool.true_and, decide_eq_true_eq]
      by_cases e : win (strV taps periodN bits) bits.length (i + 1) = bits
      · rw [if_pos e, if_pos e]
      · rw [if_neg e, if_neg e]
    · have hq := lib_equal (k := k + bits.length + 1) (win (strV taps periodN bits) bits.length (i + 1)) bits (by omega) (by omega)
      generalize k + bits.length + 1 = K at *
      simp only [impl_PeriodOf.l0]
      rw [if_pos h, if_pos g1, e0.out, if_pos g2, if_pos g3, Int.toNat_natCast, Int.toNat_natCast, g4, hq, Option.bind_some, e1.out, r2]
      simp only [perV, decide_eq_true_eq]
      by_cases e : win (strV taps periodN bits) bits.length (i + 1) = bits
      · rw [if_pos e, if_pos e]
      · rw [if_neg e, if_neg e]
theorem any_loop (taps : List Int) (bits : List Bool) (top : Int) (hb : bits.length ≤ 100) (k : Nat) (d : Nat) : ∀ (b : Bool) (j : Nat), j + d = bits.length →
    spec_PeriodOf.l0 (k + d + 1) taps bits top b bits (bits.length : Int) (j : Int) = if (b || (bits.drop j).any id) = true then spec_PeriodOf.l1 k taps bits top bits 1 else some (0, false) := by
  induction d with
  | zero =>
    intro b j hj
    have c1 : ([] : List Bool).length + bits.length < 140737488355328 := by simp; omega
    have h1 : ¬ (j : Int) < (bits.length : Int) := by omega
    have e : (bits.drop j) = [] := List.drop_of_length_le (by omega)
    simp only [spec_PeriodOf.l0]
    rw [if_neg h1, e, Option.bind_some, if_pos c1, List.nil_append]
    simp
  | succ d ih =>
    intro b j hj
    have h1 : (j : Int) < (bits.length : Int) := by omega
    have h2 : (0 : Int) ≤ (j : Int) := by omega
    have ih' := fun b => ih b (j + 1) (by omega)
    rw [show k + (d + 1) + 1 = (k + d + 1) + 1 by omega]
    generalize k + d + 1 = K at *
    simp only [spec_PeriodOf.l0]
    rw [if_pos h1, if_pos h2, if_pos h1, wr_succ j (by omega), rdb_at bits j (by omega), ih', ih', List.drop_eq_getElem_cons (show j < bits.length by omega)]
    cases b
    · rw [if_neg Bool.false_ne_true]; simp only [List.any_cons, Bool.false_or, id]
    · rw [if_pos rfl]; simp only [Bool.true_or]
noncomputable def periodV (taps : List Int) (bits : List Bool) : Int × Bool :=
  if goodTaps taps = true ∧ (bits.length : Int) = topTap taps ∧ bits.any id = true then perV (strV taps periodN bits) bits periodN 1 else (0, false)
theorem period_of {k : Nat} (taps : List Int) (bits : List Bool) (hn : taps.length ≤ 35184372088832) (hn' : bits.length ≤ 35184372088832) (hk : 2 * taps.length + bits.length + 200000 < k) :
    spec_PeriodOf.f k taps bits = some (periodV taps bits) ∧ impl_PeriodOf.f k taps bits = some (periodV taps bits) := by
  obtain ⟨k, rfl⟩ : ∃ m, k = m + 1 := ⟨k - 1, by omega⟩
  unfold spec_PeriodOf.f impl_PeriodOf.f impl_isStart.f periodV
  rw [spec_goodTaps taps hn (by omega), impl_goodTaps taps hn (by omega), impl_top, spec_top taps hn, lib_holds bits hn' (by omega), Option.bind_some, Option.bind_some, Option.bind_some, Option.bind_some]
  by_cases hg : goodTaps taps = true
  · by_cases hl : (bits.length : Int) = topTap taps
    · have e : ((bits.length : Int) == topTap taps) = true := by simp [hl]
      have e' : ((bits.length : Int) != topTap taps) = false := by simp [hl]
      have ht := topTap_le hg
      rw [if_pos hg, if_pos hg, e, e', Option.bind_some, if_pos rfl, Option.bind_some]
      obtain ⟨m, hm⟩ : ∃ m, k = m + bits.length + 1 := ⟨k - bits.length - 1, by omega⟩
      have ha := any_loop taps bits (topTap taps) (by omega) m bits.length false 0 (by omega)
      rw [← hm, show ((0 : Nat) : Int) = 0 from rfl, List.drop_zero, Bool.false_or] at ha
      simp only [spec_PeriodOf.j0, impl_PeriodOf.j0]
      rw [if_neg Bool.false_ne_true, ha]
      by_cases hy : bits.any id = true
      · have hp : 1 ≤ bits.length := by
          cases bits with
          | nil => simp at hy
          | cons _ _ => simp
        have hw0 : win (strV taps periodN bits) bits.length 0 = bits := by
          obtain ⟨r, hr⟩ := strV_pre taps periodN bits
          unfold win; rw [hr]; simp
        have hz : Hd (wrap64 (5000 + (bits.length : Int)) = 5000 + (bits.length : Int)) := Hd.mk (wr (by omega) (by omega))
        have hN := periodN_eq
        have hz2 : (5000 + (bits.length : Int) - (bits.length : Int)).toNat = periodN := by omega
        have hst := impl_stream_eq (k := k) taps (goodTaps_mem hg) hn bits (by omega) (5000 + (bits.length : Int)) (by omega) (by omega)
        rw [hz2] at hst
        rw [if_pos hy, hy, Bool.not_true, if_neg Bool.false_ne_true, hz.out, hst, Option.bind_some, if_pos ⟨hg, hl, rfl⟩]
        obtain ⟨r1, _⟩ := period_loop taps hg bits hl hp (by omega) hn periodN m 0 (by omega) (by omega)
        obtain ⟨_, r2⟩ := period_loop taps hg bits hl hp (by omega) hn periodN k 0 (by omega) (by omega)
        rw [hw0] at r1
        exact ⟨r1, r2⟩
      · have hy' : bits.any id = false := by simpa using hy
        rw [if_neg hy, hy', Bool.not_false, if_pos rfl, if_neg (fun h => Bool.false_ne_true h.2.2)]
        exact ⟨rfl, rfl⟩
    · have e : ((bits.length : Int) == topTap taps) = false := by simp [hl]
      have e' : ((bits.length : Int) != topTap taps) = true := by simp [hl]
      rw [if_pos hg, if_pos hg, e, e', Option.bind_some, if_neg Bool.false_ne_true, if_neg (fun h => hl h.2.1)]
      simp only [spec_PeriodOf.j0, impl_PeriodOf.j0, if_true]
      exact ⟨trivial, trivial⟩
  · rw [if_neg hg, if_neg hg, Option.bind_some, if_neg Bool.false_ne_true, if_neg (fun h => hg h.1)]
    simp only [spec_PeriodOf.j0, impl_PeriodOf.j0, if_true]
    exact ⟨trivial, trivial⟩

theorem FnExactPeriodOf : ∀ (l0 : List Int) (l1 : List Bool), l0.length ≤ maxLen → (∀ n ∈ l0, (Lit.int .i64 n).wf = true) → l1.length ≤ maxLen → ∃ k, laws_FnExactPeriodOf.f k l0 l1 = some true := by
  intro taps bits _ _ _
  refine rounds_of (2 * taps.length + bits.length + 300000) fun k hk => ?_
  obtain ⟨k, rfl⟩ : ∃ j, k = j + 1 := ⟨k - 1, by omega⟩
  unfold laws_FnExactPeriodOf.f
  by_cases h : (taps.length : Int) > 1048576
  · rw [if_pos h]
  · rw [if_neg h]
    by_cases h' : (bits.length : Int) > 1048576
    · rw [if_pos h']
    · rw [if_neg h']
      obtain ⟨r1, r2⟩ := period_of (k := k + 1) taps bits (by omega) (by omega) (by omega)
      generalize periodV taps bits = r at *
      simp only [toIntS_eq (k := k + 1) taps (by omega) (by omega), toBoolS_eq (k := k + 1) bits (by omega) (by omega), r1, r2, Option.bind_some, bne_self_eq_false]
      simp [laws_FnExactPeriodOf.j0, toIntS_eq (k := k) taps (by omega) (by omega), eqIntS_self (k := k) taps (by omega) (by omega), toBoolS_eq (k := k) bits (by omega) (by omega), eqBoolS_self (k := k) bits (by omega) (by omega)]

end Go.Proofs.Yticchbgbbnpgoaa.Pure
