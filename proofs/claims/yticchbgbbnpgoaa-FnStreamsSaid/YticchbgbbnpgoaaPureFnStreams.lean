/- FnStreams holds for all bytes: streams, periods, bits, texts and runs are those of the reference, taps make their streams, and a text's bits make the text (the plain half). -/
import Derived.Test.YticchbgbbnpgoaaQFnStreamsx
set_option linter.unusedVariables false
set_option linter.unusedSimpArgs false
namespace Go.Proofs.Yticchbgbbnpgoaa.Pure
open Go.RowKit Go.Proofs.Yticchbgbbnpgoaa.QFnStreams Go.Proofs.YticchbgbbnpgoaaW.PrintWords Go.Proofs.YticchbgbbnpgoaaW.PrintLast Go.Proofs.YticchbgbbnpgoaaW.PrintMore

/-! base: sums of int that stay in range; `tmod` and `tdiv` of what is not negative -/
theorem wr {x : Int} (h1 : -9223372036854775808 ≤ x) (h2 : x ≤ 9223372036854775807) : wrap64 x = x := by
  unfold wrap64; omega
theorem tmod_pos {a b : Int} (h : 0 ≤ a) : Int.tmod a b = a % b := Int.tmod_eq_emod_of_nonneg h
theorem tdiv_pos {a b : Int} (h : 0 ≤ a) : Int.tdiv a b = a / b := Int.tdiv_eq_ediv_of_nonneg h
theorem rounds_of {α : Type} {g : Nat → Option α} {r : α} (N : Nat) (h : ∀ k, N < k → g k = some r) : ∃ k, g k = some r := ⟨N + 1, h _ (Nat.lt_succ_self N)⟩

/-! lists: reading a list at a place; a copy of a list; a list is like itself -/
theorem rd_at (xs : List Int) (i : Nat) (h : i < xs.length) : rd xs (i : Int) = xs[i] := by
  simp [rd, List.getD_eq_getElem?_getD, h]
theorem wr_succ (i : Nat) (h : i < 9000000000000000000) : wrap64 ((i : Int) + 1) = ((i + 1 : Nat) : Int) := by
  rw [wr (by omega) (by omega)]; omega
theorem same_list {α : Type} {xs ys : List α} (hl : ys.length = xs.length) (h : ∀ j, j < xs.length → ys[j]? = xs[j]?) : ys = xs := by
  apply List.ext_getElem?
  intro j
  by_cases hj : j < xs.length
  · exact h j hj
  · rw [List.getElem?_eq_none (by omega), List.getElem?_eq_none (by omega)]
theorem set_upto {α : Type} {xs ys : List α} {i : Nat} (hl : ys.length = xs.length) (hi : i < xs.length) (h : ∀ j, j < i → ys[j]? = xs[j]?) :
    ∀ j, j < i + 1 → (ys.set i xs[i])[j]? = xs[j]? := by
  intro j hj
  rw [List.getElem?_set]
  by_cases e : i = j
  · subst e; rw [if_pos rfl, if_pos (by omega), List.getElem?_eq_getElem hi]
  · rw [if_neg e]; exact h j (by omega)

/-! ins: between two numbers, in the reference -/
theorem in_some (a b c : Int) : spec_l1In.f a b c = some (decide (b ≤ a) && decide (a ≤ c)) := by
  unfold spec_l1In.f
  by_cases h : a ≥ b
  · rw [if_pos h]; have : b ≤ a := h; simp [this]
  · rw [if_neg h]; have : ¬ b ≤ a := h; simp [this]

/-! in: between two numbers -/
theorem within_eq (a b c : Int) : impl_within.f a b c = spec_l1In.f a b c := rfl

/-! inall: all numbers of a list between two numbers -/
def inAll (lo hi : Int) (xs : List Int) : Bool := xs.all fun x => decide (lo ≤ x) && decide (x ≤ hi)
theorem inAll_mem {lo hi : Int} {xs : List Int} (h : inAll lo hi xs = true) : ∀ x ∈ xs, lo ≤ x ∧ x ≤ hi := by
  intro x hx
  have := List.all_eq_true.1 h x hx
  simpa using this

/-! iall: all numbers of a list between two numbers, in the program -/
theorem iall_loop (lo up : Int) (xs : List Int) (hn : xs.length ≤ 35184372088832) (d : Nat) : ∀ (k : Nat) (i : Nat), i + d = xs.length → d < k →
    impl_allWithin.l0 k lo up xs (xs.length : Int) (i : Int) = some (inAll lo up (xs.drop i)) := by
  induction d with
  | zero =>
    intro k i hd hk
    obtain ⟨k, rfl⟩ : ∃ m, k = m + 1 := ⟨k - 1, by omega⟩
    simp only [impl_allWithin.l0]
    rw [if_neg (by omega), List.drop_of_length_le (by omega)]; rfl
  | succ d ih =>
    intro k i hd hk
    obtain ⟨k, rfl⟩ : ∃ m, k = m + 1 := ⟨k - 1, by omega⟩
    have hi : i < xs.length := by omega
    have h1 : (i : Int) < (xs.length : Int) := by omega
    have h2 : (0 : Int) ≤ (i : Int) := by omega
    simp only [impl_allWithin.l0]
    rw [if_pos h1, if_pos h2, if_pos h1, rd_at xs i hi, within_eq, in_some, wr_succ i (by omega), ih k (i + 1) (by omega) (by omega), List.drop_eq_getElem_cons hi]
    simp only [Option.bind_some, inAll, List.all_cons]
    generalize (decide (lo ≤ xs[i]) && decide (xs[i] ≤ up)) = b
    cases b <;> simp
theorem impl_all {k : Nat} (lo hi : Int) (xs : List Int) (hn : xs.length ≤ 35184372088832) (hk : xs.length < k) : impl_allWithin.f k xs lo hi = some (inAll lo hi xs) := by
  unfold impl_allWithin.f
  have := iall_loop lo hi xs hn xs.length k 0 (by omega) hk
  simpa using this

/-! taps: good taps, in both texts -/
def rise : List Int → Bool
  | x :: y :: l => decide (x < y) && rise (y :: l)
  | _ => true
def goodTaps (xs : List Int) : Bool := rise xs && inAll 1 12 xs
theorem rise_short {l : List Int} (h : l.length ≤ 1) : rise l = true := by
  match l, h with
  | [], _ => rfl
  | [_], _ => rfl
theorem drop2 (xs : List Int) (i : Nat) (h : i + 1 < xs.length) : xs.drop i = xs[i]'(by omega) :: xs[i + 1] :: xs.drop (i + 2) := by
  rw [List.drop_eq_getElem_cons (by omega), List.drop_eq_getElem_cons h]
theorem rising_loop (lo up : Int) (xs : List Int) (hn : xs.length ≤ 35184372088832) (d : Nat) : ∀ (k : Nat) (i : Nat), i + 1 + d = xs.length → d + 1 + xs.length < k →
    impl_isRising.l0 k xs lo up ((i + 1 : Nat) : Int) = some (rise (xs.drop i) && inAll lo up xs) := by
  induction d with
  | zero =>
    intro k i hd hk
    obtain ⟨k, rfl⟩ : ∃ m, k = m + 1 := ⟨k - 1, by omega⟩
    simp only [impl_isRising.l0]
    have hx : rise (xs.drop i) = true := rise_short (by simp; omega)
    rw [if_neg (by omega), impl_all lo up xs hn (by omega), hx]
    simp
  | succ d ih =>
    intro k i hd hk
    obtain ⟨k, rfl⟩ : ∃ m, k = m + 1 := ⟨k - 1, by omega⟩
    have hi : i + 1 < xs.length := by omega
    have h1 : ((i + 1 : Nat) : Int) < (xs.length : Int) := by omega
    have e : wrap64 (((i + 1 : Nat) : Int) - 1) = (i : Int) := by rw [wr (by omega) (by omega)]; omega
    have h2 : (0 : Int) ≤ (i : Int) := by omega
    have h3 : (i : Int) < (xs.length : Int) := by omega
    have h4 : (0 : Int) ≤ ((i + 1 : Nat) : Int) := by omega
    simp only [impl_isRising.l0]
    rw [if_pos h1, e, if_pos h2, if_pos h3, if_pos h4, rd_at xs i (by omega), rd_at xs (i + 1) hi, wr_succ (i + 1) (by omega), drop2 xs i hi]
    simp only [rise]
    by_cases h : xs[i] ≥ xs[i + 1]
    · have hx : ¬ xs[i] < xs[i + 1] := by omega
      rw [if_pos h]; simp [hx]
    · have hx : xs[i] < xs[i + 1] := by omega
      rw [if_neg h, ih k (i + 1) (by omega) (by omega), List.drop_eq_getElem_cons hi]
      simp [hx]
theorem impl_rising {k : Nat} (lo up : Int) (xs : List Int) (hn : xs.length ≤ 35184372088832) (hk : 2 * xs.length + 1 < k) : impl_isRising.f k xs lo up = some (rise xs && inAll lo up xs) := by
  unfold impl_isRising.f
  by_cases h : xs = []
  · subst h
    obtain ⟨k, rfl⟩ : ∃ m, k = m + 1 := ⟨k - 1, by omega⟩
    simp only [impl_isRising.l0]
    rw [if_neg (by simp), impl_all lo up [] hn (by simp at hk ⊢; omega)]
    rfl
  · have : 0 < xs.length := List.length_pos_iff.2 h
    have := rising_loop lo up xs hn (xs.length - 1) k 0 (by omega) (by omega)
    simpa using this
theorem spec_rising_loop (lo up : Int) (xs : List Int) (hn : xs.length ≤ 35184372088832) (d : Nat) : ∀ (k : Nat) (i : Nat), i + 1 + d = xs.length → d < k →
    spec_l1Rising.l0 k xs lo up xs (xs.length : Int) ((i + 1 : Nat) : Int) = some (rise (xs.drop i) && inAll lo up (xs.drop (i + 1))) := by
  induction d with
  | zero =>
    intro k i hd hk
    obtain ⟨k, rfl⟩ : ∃ m, k = m + 1 := ⟨k - 1, by omega⟩
    simp only [spec_l1Rising.l0]
    have hx : rise (xs.drop i) = true := rise_short (by simp; omega)
    rw [if_neg (by omega), hx, List.drop_of_length_le (by omega)]
    rfl
  | succ d ih =>
    intro k i hd hk
    obtain ⟨k, rfl⟩ : ∃ m, k = m + 1 := ⟨k - 1, by omega⟩
    have hi : i + 1 < xs.length := by omega
    have h1 : ((i + 1 : Nat) : Int) < (xs.length : Int) := by omega
    have e : wrap64 (((i + 1 : Nat) : Int) - 1) = (i : Int) := by rw [wr (by omega) (by omega)]; omega
    have h2 : (0 : Int) ≤ (i : Int) := by omega
    have h3 : (i : Int) < (xs.length : Int) := by omega
    have h4 : (0 : Int) ≤ ((i + 1 : Nat) : Int) := by omega
    have h5 : ((i + 1 : Nat) : Int) > 0 := by omega
    simp only [spec_l1Rising.l0]
    rw [if_pos h1, if_pos h4, if_pos h1, if_pos h5, e, if_pos h2, if_pos h3, rd_at xs i (by omega), rd_at xs (i + 1) hi, wr_succ (i + 1) (by omega), in_some, ih k (i + 1) (by omega) (by omega), drop2 xs i hi, List.drop_eq_getElem_cons hi]
    simp only [rise, Option.bind_some, inAll, List.all_cons]
    generalize (decide (lo ≤ xs[i + 1]) && decide (xs[i + 1] ≤ up)) = b
    by_cases h : xs[i] ≥ xs[i + 1]
    · have hx : ¬ xs[i] < xs[i + 1] := by omega
      rw [if_pos h]; cases b <;> simp [hx]
    · have hx : xs[i] < xs[i + 1] := by omega
      rw [if_neg h]; cases b <;> simp [hx]
theorem spec_rising {k : Nat} (lo up : Int) (xs : List Int) (hn : xs.length ≤ 35184372088832) (hk : xs.length < k) : spec_l1Rising.f k xs lo up = some (rise xs && inAll lo up xs) := by
  unfold spec_l1Rising.f
  obtain ⟨k, rfl⟩ : ∃ m, k = m + 1 := ⟨k - 1, by omega⟩
  simp only [spec_l1Rising.l0]
  cases xs with
  | nil => simp [rise, inAll]
  | cons x l =>
    have h1 : (0 : Int) < ((x :: l).length : Int) := by simp
    have h0 : ¬ (0 : Int) > 0 := by omega
    have := spec_rising_loop lo up (x :: l) hn l.length k 0 (by simp; omega) (by simp at hk; omega)
    rw [show ((0 + 1 : Nat) : Int) = 1 from rfl] at this
    rw [if_pos h1, if_pos (by omega), if_pos h1, if_neg h0, show wrap64 (0 + 1) = 1 from wr (by omega) (by omega), this, show rd (x :: l) 0 = x from rfl, in_some]
    simp only [Option.bind_some, inAll, List.all_cons, List.drop_zero, List.drop_succ_cons]
    generalize (decide (lo ≤ x) && decide (x ≤ up)) = b
    cases b <;> simp
theorem spec_goodTaps {k : Nat} (xs : List Int) (hn : xs.length ≤ 35184372088832) (hk : xs.length < k) : spec_GoodTaps.f k xs = some (goodTaps xs) := by
  simp [spec_GoodTaps.f, spec_rising 1 12 xs hn hk, goodTaps]
theorem impl_goodTaps {k : Nat} (xs : List Int) (hn : xs.length ≤ 35184372088832) (hk : 2 * xs.length + 1 < k) : impl_GoodTaps.f k xs = some (goodTaps xs) := by
  simp [impl_GoodTaps.f, impl_rising 1 12 xs hn hk, goodTaps]

/-! rdb: a bool at a place -/
theorem rdb_at (xs : List Bool) (i : Nat) (h : i < xs.length) : rdOf false xs (i : Int) = xs[i] := by
  simp [rdOf, List.getD_eq_getElem?_getD, h]

/-! bitval: a bit at a place, none ahead of the first -/
def sAt (bits : List Bool) (i : Int) : Bool := if 0 ≤ i then bits.getD i.toNat false else false
theorem sAt_neg {bits : List Bool} {i : Int} (h : i < 0) : sAt bits i = false := by unfold sAt; rw [if_neg (by omega)]
theorem sAt_rd {bits : List Bool} {i : Int} (h : 0 ≤ i) : rdOf false bits i = sAt bits i := by unfold sAt rdOf; rw [if_pos h]
theorem sAt_nat (bits : List Bool) (i : Nat) (h : i < bits.length) : sAt bits (i : Int) = bits[i] := by
  simp [sAt, List.getD_eq_getElem?_getD, h]

/-! xdef: unlike sums over taps -/
def X : List Int → (Int → Bool) → Bool
  | [], _ => false
  | t :: l, f => (f t ^^ X l f)
theorem X_congr {l : List Int} {f g : Int → Bool} (h : ∀ t ∈ l, f t = g t) : X l f = X l g := by
  induction l with
  | nil => rfl
  | cons t l ih => simp only [X]; rw [h t (by simp), ih (fun t ht => h t (by simp [ht]))]
theorem X_none {l : List Int} {f : Int → Bool} (h : ∀ t ∈ l, f t = false) : X l f = false := by
  induction l with
  | nil => rfl
  | cons t l ih => simp only [X]; rw [h t (by simp), ih (fun t ht => h t (by simp [ht]))]; rfl
theorem X_xor (l : List Int) (f g : Int → Bool) : X l (fun t => f t ^^ g t) = (X l f ^^ X l g) := by
  induction l with
  | nil => rfl
  | cons t l ih => simp only [X]; rw [ih]; cases f t <;> cases g t <;> cases X l f <;> cases X l g <;> rfl
theorem X_swap (A B : List Int) (f : Int → Int → Bool) : X A (fun a => X B (fun b => f a b)) = X B (fun b => X A (fun a => f a b)) := by
  induction A with
  | nil => simp only [X]; exact (X_none (fun _ _ => rfl)).symm
  | cons a A ih => simp only [X]; rw [ih, X_xor]
theorem X_map (l : List Int) (g : Int → Int) (f : Int → Bool) : X (l.map g) f = X l (fun t => f (g t)) := by
  induction l with
  | nil => rfl
  | cons t l ih => simp only [X, List.map_cons]; rw [ih]
/-- The unlikeness at a place: the bit there and the bits at the taps. -/
def Dis (s : Int → Bool) (T : List Int) (i : Int) : Bool := X (0 :: T) (fun t => s (i - t))
theorem Dis_eq (s : Int → Bool) (T : List Int) (i : Int) : Dis s T i = (s i ^^ X T (fun t => s (i - t))) := by
  simp [Dis, X]

/-! next: the next bit by taps, in the reference -/
theorem X_append (a b : List Int) (f : Int → Bool) : X (a ++ b) f = (X a f ^^ X b f) := by
  induction a with
  | nil => simp [X]
  | cons t a ih => simp only [List.cons_append, X]; rw [ih]; cases f t <;> cases X a f <;> cases X b f <;> rfl
theorem next_loop (bits : List Bool) (taps : List Int) (at_ : Int) (h0 : 0 ≤ at_) (h1 : at_ ≤ bits.length) (hb : bits.length ≤ 1000000000000) (ht : ∀ t ∈ taps, 1 ≤ t ∧ t ≤ 1000000000000) (hn : taps.length ≤ 35184372088832) (d : Nat) :
    ∀ (k : Nat) (o : Bool) (i : Nat), i + d = taps.length → d < k → spec_l3Next.l0 k bits at_ o taps (taps.length : Int) (i : Int) = some (o ^^ X (taps.drop i) (fun t => sAt bits (at_ - t))) := by
  induction d with
  | zero =>
    intro k o i hd hk
    obtain ⟨k, rfl⟩ : ∃ m, k = m + 1 := ⟨k - 1, by omega⟩
    simp only [spec_l3Next.l0]
    rw [if_neg (by omega), List.drop_of_length_le (by omega)]
    simp [X]
  | succ d ih =>
    intro k o i hd hk
    obtain ⟨k, rfl⟩ : ∃ m, k = m + 1 := ⟨k - 1, by omega⟩
    have hi : i < taps.length := by omega
    have g1 : (i : Int) < (taps.length : Int) := by omega
    have g2 : (0 : Int) ≤ (i : Int) := by omega
    have hx := ht taps[i] (List.getElem_mem hi)
    simp only [spec_l3Next.l0]
    rw [if_pos g1, if_pos g2, if_pos g1, rd_at taps i hi, List.drop_eq_getElem_cons hi]
    by_cases h : at_ ≥ taps[i]
    · have g3 : (0 : Int) ≤ at_ - taps[i] := by omega
      have g4 : at_ - taps[i] < (bits.length : Int) := by omega
      rw [if_pos h, wr (x := at_ - taps[i]) (by omega) (by omega), if_pos g3, if_pos g4, sAt_rd g3, wr_succ i (by omega)]
      simp only [X]
      cases hv : sAt bits (at_ - taps[i])
      · rw [if_neg (by simp), ih k o (i + 1) (by omega) (by omega)]; simp
      · rw [if_pos rfl, ih k (!o) (i + 1) (by omega) (by omega)]; simp
    · have g3 : at_ - taps[i] < 0 := by omega
      rw [if_neg h, wr_succ i (by omega), ih k o (i + 1) (by omega) (by omega)]
      simp only [X]
      rw [sAt_neg g3]; simp
theorem spec_next {k : Nat} (bits : List Bool) (taps : List Int) (at_ : Int) (h0 : 0 ≤ at_) (h1 : at_ ≤ bits.length) (hb : bits.length ≤ 1000000000000) (ht : ∀ t ∈ taps, 1 ≤ t ∧ t ≤ 1000000000000) (hn : taps.length ≤ 35184372088832) (hk : taps.length < k) :
    spec_l3Next.f k bits taps at_ = some (X taps (fun t => sAt bits (at_ - t))) := by
  unfold spec_l3Next.f
  have := next_loop bits taps at_ h0 h1 hb ht hn taps.length k false 0 (by omega) hk
  simpa using this

/-! tapped: the next bit by taps, in the program -/
theorem tapped_key (o b : Bool) (F : Bool → Option Bool) : F (o != b) = if b = true then F (!o) else F o := by cases o <;> cases b <;> rfl
theorem tapped_l0_eq (k : Nat) : ∀ bits at_ o xs n i, impl_tapped.l0 k bits at_ o xs n i = spec_l3Next.l0 k bits at_ o xs n i := by
  induction k with
  | zero => intros; rfl
  | succ k ih =>
    intro bits at_ o xs n i
    have key := tapped_key o (rdOf false bits (wrap64 (at_ - rd xs i))) (fun z => spec_l3Next.l0 k bits at_ z xs n (wrap64 (i + 1)))
    simp only [impl_tapped.l0, spec_l3Next.l0, ih, ge_iff_le, key]
theorem tapped_eq (k : Nat) (taps : List Int) (bits : List Bool) (at_ : Int) : impl_tapped.f k taps bits at_ = spec_l3Next.f k bits taps at_ := by
  simp only [impl_tapped.f, spec_l3Next.f, tapped_l0_eq]

/-! top: the greatest tap, in both texts -/
def topTap (xs : List Int) : Int := xs.getLast?.getD 0
theorem spec_top (xs : List Int) (hn : xs.length ≤ 35184372088832) : spec_l3Top.f xs = some (topTap xs) := by
  unfold spec_l3Top.f
  rcases List.eq_nil_or_concat xs with rfl | ⟨l, x, rfl⟩
  · rfl
  · rw [List.concat_eq_append] at *
    have hl : (l ++ [x]).length = l.length + 1 := by simp
    have e : wrap64 (((l ++ [x]).length : Int) - 1) = ((l.length : Nat) : Int) := by rw [wr (by omega) (by omega)]; omega
    rw [if_neg (by omega), e, if_pos (by omega), if_pos (by omega), rd_at _ l.length (by omega)]
    simp [topTap]
theorem impl_top (xs : List Int) : impl_greatest.f xs = spec_l3Top.f xs := rfl

/-! gens: whether taps make the bits from a place on -/
def genB (s : Int → Bool) (T : List Int) : Nat → Int → Bool
  | 0, _ => true
  | d + 1, i => !Dis s T i && genB s T d (i + 1)
theorem genB_iff (s : Int → Bool) (T : List Int) (d : Nat) : ∀ i, genB s T d i = true ↔ ∀ j, i ≤ j → j < i + d → Dis s T j = false := by
  induction d with
  | zero => intro i; simp only [genB, true_iff]; intro j h1 h2; omega
  | succ d ih =>
    intro i
    simp only [genB, Bool.and_eq_true, Bool.not_eq_true', ih]
    constructor
    · rintro ⟨h1, h2⟩ j h3 h4
      by_cases e : j = i
      · rw [e]; exact h1
      · exact h2 j (by omega) (by omega)
    · intro h
      exact ⟨h i (by omega) (by omega), fun j h1 h2 => h j (by omega) (by omega)⟩

/-! tapsin: what good taps are between -/
theorem goodTaps_mem {taps : List Int} (h : goodTaps taps = true) : ∀ t ∈ taps, 1 ≤ t ∧ t ≤ 12 := by
  simp [goodTaps] at h; exact inAll_mem h.2
theorem topTap_nonneg {taps : List Int} (h : goodTaps taps = true) : 0 ≤ topTap taps := by
  unfold topTap
  rcases List.eq_nil_or_concat taps with rfl | ⟨l, x, rfl⟩
  · simp
  · have := goodTaps_mem h x (by simp)
    simp; omega

/-! strv: the stream that taps make -/
def strV (taps : List Int) : Nat → List Bool → List Bool
  | 0, o => o
  | d + 1, o => strV taps d (o ++ [X taps (fun t => sAt o ((o.length : Int) - t))])
theorem strV_len (taps : List Int) (d : Nat) : ∀ o : List Bool, (strV taps d o).length = o.length + d := by
  induction d with
  | zero => intro o; rfl
  | succ d ih => intro o; simp only [strV]; rw [ih]; simp; omega
theorem topTap_le {taps : List Int} (h : goodTaps taps = true) : topTap taps ≤ 12 := by
  unfold topTap
  rcases List.eq_nil_or_concat taps with rfl | ⟨l, x, rfl⟩
  · simp
  · have := goodTaps_mem h x (by simp)
    simp; omega

/-! stream: StreamOf, in both texts -/
theorem stream_loop (taps : List Int) (hm : ∀ t ∈ taps, 1 ≤ t ∧ t ≤ 12) (hn : taps.length ≤ 35184372088832) (n : Int) (h0 : 0 ≤ n) (d : Nat) : ∀ (k : Nat) (o : List Bool), (n - (o.length : Int)).toNat = d → o.length + d ≤ 1000 → d + taps.length + 1 < k →
    spec_StreamOf.l0 k taps n o = some ((strV taps d o).take n.toNat, true) ∧ impl_stream.l0 k taps n o = some (strV taps d o) := by
  induction d with
  | zero =>
    intro k o hd ho hk
    obtain ⟨k, rfl⟩ : ∃ m, k = m + 1 := ⟨k - 1, by omega⟩
    have h : ¬ (o.length : Int) < n := by omega
    have h2 : n ≤ (o.length : Int) := by omega
    have h3 : ([] : List Bool).length + (o.take n.toNat).length < 140737488355328 := by simp; omega
    simp only [spec_StreamOf.l0, impl_stream.l0, strV]
    rw [if_neg h, if_neg h, Option.bind_some, if_pos h0, if_pos h2, Option.bind_some, if_pos h3]
    exact ⟨rfl, rfl⟩
  | succ d ih =>
    intro k o hd ho hk
    obtain ⟨k, rfl⟩ : ∃ m, k = m + 1 := ⟨k - 1, by omega⟩
    have h : (o.length : Int) < n := by omega
    have h3 : o.length < 140737488355328 := by omega
    have hv := spec_next (k := k) o taps (o.length : Int) (by omega) (by omega) (by omega) (fun t ht => by have := hm t ht; omega) hn (by omega)
    obtain ⟨r1, r2⟩ := ih k (o ++ [X taps (fun t => sAt o ((o.length : Int) - t))]) (by simp; omega) (by simp; omega) (by omega)
    simp only [spec_StreamOf.l0, impl_stream.l0, strV]
    rw [if_pos h, if_pos h, tapped_eq, hv, Option.bind_some, Option.bind_some, if_pos h3, if_pos h3]
    exact ⟨r1, r2⟩
def streamV (taps : List Int) (bits : List Bool) (n : Int) : List Bool × Bool :=
  if goodTaps taps = true ∧ (bits.length : Int) = topTap taps ∧ 0 ≤ n ∧ n ≤ 40 then ((strV taps (n - (bits.length : Int)).toNat bits).take n.toNat, true) else ([], false)
theorem streamV_len (taps : List Int) (bits : List Bool) (n : Int) : (streamV taps bits n).1.length ≤ 40 := by
  unfold streamV
  by_cases h : goodTaps taps = true ∧ (bits.length : Int) = topTap taps ∧ 0 ≤ n ∧ n ≤ 40
  · rw [if_pos h]; simp; omega
  · rw [if_neg h]; simp
theorem stream_of {k : Nat} (taps : List Int) (bits : List Bool) (n : Int) (hn : taps.length ≤ 35184372088832) (hk : 2 * taps.length + 100 < k) :
    spec_StreamOf.f k taps bits n = some (streamV taps bits n) ∧ impl_StreamOf.f k taps bits n = some (streamV taps bits n) := by
  obtain ⟨k, rfl⟩ : ∃ m, k = m + 1 := ⟨k - 1, by omega⟩
  unfold spec_StreamOf.f impl_StreamOf.f impl_isStart.f streamV
  rw [spec_goodTaps taps hn (by omega), impl_goodTaps taps hn (by omega), impl_top, spec_top taps hn, within_eq, in_some]
  simp only [Option.bind_some]
  by_cases hg : goodTaps taps = true
  · by_cases hl : (bits.length : Int) = topTap taps
    · by_cases hb : 0 ≤ n ∧ n ≤ 40
      · have ht := topTap_le hg
        have hc : ([] : List Bool).length + bits.length < 140737488355328 := by simp; omega
        have hd : (decide (0 ≤ n) && decide (n ≤ 40)) = true := by simp; omega
        have e : ((bits.length : Int) == topTap taps) = true := by simp [hl]
        obtain ⟨r1, _⟩ := stream_loop taps (goodTaps_mem hg) hn n hb.1 (n - (bits.length : Int)).toNat k bits rfl (by omega) (by omega)
        obtain ⟨_, r2⟩ := stream_loop taps (goodTaps_mem hg) hn n hb.1 (n - (bits.length : Int)).toNat (k + 1) bits rfl (by omega) (by omega)
        have hlen : n ≤ ((strV taps (n - (bits.length : Int)).toNat bits).length : Int) := by rw [strV_len]; omega
        rw [if_pos hg, if_pos hg, if_pos hl, e, Option.bind_some, if_pos rfl, hd, if_pos rfl, if_pos ⟨hg, hl, hb.1, hb.2⟩]
        simp only [spec_StreamOf.j0, Bool.not_true, Bool.false_eq_true, if_false, impl_stream.f, slices_Clone_bool_bool.f]
        rw [Option.bind_some, Option.bind_some, if_pos hc, if_pos hc, Option.bind_some, List.nil_append, r1, r2, Option.bind_some, if_pos hb.1, if_pos hlen]
        exact ⟨rfl, rfl⟩
      · have hd : (decide (0 ≤ n) && decide (n ≤ 40)) = false := by simpa using hb
        have e : ((bits.length : Int) == topTap taps) = true := by simp [hl]
        rw [if_pos hg, if_pos hg, if_pos hl, e, Option.bind_some, if_pos rfl, hd, if_neg (fun h => hb ⟨h.2.2.1, h.2.2.2⟩)]
        simp [spec_StreamOf.j0]
    · have e : ((bits.length : Int) == topTap taps) = false := by simp [hl]
      rw [if_pos hg, if_pos hg, if_neg hl, e, if_neg (fun h => hl h.2.1)]
      simp [spec_StreamOf.j0]
  · rw [if_neg hg, if_neg hg, if_neg (fun h => hg h.1)]
    simp [spec_StreamOf.j0]

/-! streami: the stream that taps make, in the program -/
theorem impl_stream_loop (taps : List Int) (hm : ∀ t ∈ taps, 1 ≤ t ∧ t ≤ 12) (hn : taps.length ≤ 35184372088832) (n : Int) (d : Nat) : ∀ (k : Nat) (o : List Bool), (n - (o.length : Int)).toNat = d → o.length + d ≤ 100000 → d + taps.length + 1 < k →
    impl_stream.l0 k taps n o = some (strV taps d o) := by
  induction d with
  | zero =>
    intro k o hd ho hk
    obtain ⟨k, rfl⟩ : ∃ m, k = m + 1 := ⟨k - 1, by omega⟩
    have h : ¬ (o.length : Int) < n := by omega
    simp only [impl_stream.l0, strV]
    rw [if_neg h]
  | succ d ih =>
    intro k o hd ho hk
    obtain ⟨k, rfl⟩ : ∃ m, k = m + 1 := ⟨k - 1, by omega⟩
    have h : (o.length : Int) < n := by omega
    have h3 : o.length < 140737488355328 := by omega
    have hv := spec_next (k := k) o taps (o.length : Int) (by omega) (by omega) (by omega) (fun t ht => by have := hm t ht; omega) hn (by omega)
    simp only [impl_stream.l0, strV]
    rw [if_pos h, tapped_eq, hv, Option.bind_some, if_pos h3]
    exact ih k _ (by simp; omega) (by simp; omega) (by omega)
theorem impl_stream_eq {k : Nat} (taps : List Int) (hm : ∀ t ∈ taps, 1 ≤ t ∧ t ≤ 12) (hn : taps.length ≤ 35184372088832) (bits : List Bool) (hb : bits.length ≤ 100) (n : Int) (hn1 : n ≤ 90000) (hk : 90000 + taps.length + 1 < k) :
    impl_stream.f k taps bits n = some (strV taps (n - (bits.length : Int)).toNat bits) := by
  have hc : ([] : List Bool).length + bits.length < 140737488355328 := by simp; omega
  unfold impl_stream.f slices_Clone_bool_bool.f
  rw [Option.bind_some, if_pos hc, Option.bind_some, List.nil_append]
  exact impl_stream_loop taps hm hn n _ k bits rfl (by omega) (by omega)

/-! eqlib: slices.Equal and slices.Contains over bools -/
theorem equal_loop (a b : List Bool) (hab : a.length = b.length) (hn : a.length ≤ 35184372088832) (d : Nat) : ∀ (k : Nat) (i : Nat), i + d = a.length → d < k →
    slices_Equal_bool_bool.l0 k a b (a.length : Int) (i : Int) = some (decide (a.drop i = b.drop i)) := by
  induction d with
  | zero =>
    intro k i hd hk
    obtain ⟨k, rfl⟩ : ∃ m, k = m + 1 := ⟨k - 1, by omega⟩
    simp only [slices_Equal_bool_bool.l0]
    rw [if_neg (by omega), List.drop_of_length_le (by omega), List.drop_of_length_le (by omega)]
    simp
  | succ d ih =>
    intro k i hd hk
    obtain ⟨k, rfl⟩ : ∃ m, k = m + 1 := ⟨k - 1, by omega⟩
    have h1 : (i : Int) < (a.length : Int) := by omega
    have h2 : (0 : Int) ≤ (i : Int) := by omega
    have h3 : (i : Int) < (b.length : Int) := by omega
    simp only [slices_Equal_bool_bool.l0]
    rw [if_pos h1, if_pos h2, if_pos h1, if_pos h3, rdb_at a i (by omega), rdb_at b i (by omega), wr_succ i (by omega), ih k (i + 1) (by omega) (by omega), List.drop_eq_getElem_cons (show i < a.length by omega), List.drop_eq_getElem_cons (show i < b.length by omega)]
    simp only [List.cons.injEq]
    by_cases e : a[i] = b[i]
    · simp [e]
    · have e' : (a[i] != b[i]) = true := by simp [e]
      simp [e, e']
theorem lib_equal {k : Nat} (a b : List Bool) (hn : a.length ≤ 35184372088832) (hk : a.length < k) : slices_Equal_bool_bool.f k a b = some (decide (a = b)) := by
  unfold slices_Equal_bool_bool.f
  by_cases h : a.length = b.length
  · rw [if_pos (by omega)]
    have := equal_loop a b h hn a.length k 0 (by omega) hk
    simpa using this
  · rw [if_neg (by omega)]
    have : ¬ a = b := fun e => h (by rw [e])
    simp [this]
theorem holds_loop (a : List Bool) (hn : a.length ≤ 35184372088832) (d : Nat) : ∀ (k : Nat) (i : Nat), i + d = a.length → d < k →
    ∃ r, slices_Index_bool_bool.l0 k a true (a.length : Int) (i : Int) = some r ∧ (r ≥ 0 ↔ (a.drop i).any id = true) := by
  induction d with
  | zero =>
    intro k i hd hk
    obtain ⟨k, rfl⟩ : ∃ m, k = m + 1 := ⟨k - 1, by omega⟩
    simp only [slices_Index_bool_bool.l0]
    rw [if_neg (by omega), List.drop_of_length_le (by omega)]
    exact ⟨-1, rfl, by simp⟩
  | succ d ih =>
    intro k i hd hk
    obtain ⟨k, rfl⟩ : ∃ m, k = m + 1 := ⟨k - 1, by omega⟩
    have h1 : (i : Int) < (a.length : Int) := by omega
    have h2 : (0 : Int) ≤ (i : Int) := by omega
    simp only [slices_Index_bool_bool.l0]
    rw [if_pos h1, if_pos h2, if_pos h1, rdb_at a i (by omega), wr_succ i (by omega), List.drop_eq_getElem_cons (show i < a.length by omega)]
    cases e : a[i]
    · obtain ⟨r, r1, r2⟩ := ih k (i + 1) (by omega) (by omega)
      exact ⟨r, by simpa using r1, by simpa using r2⟩
    · exact ⟨(i : Int), by simp, by simp⟩
theorem lib_holds {k : Nat} (a : List Bool) (hn : a.length ≤ 35184372088832) (hk : a.length < k) : slices_Contains_bool_bool.f k a true = some (a.any id) := by
  obtain ⟨r, r1, r2⟩ := holds_loop a hn a.length k 0 (by omega) hk
  unfold slices_Contains_bool_bool.f slices_Index_bool_bool.f
  rw [show ((0 : Nat) : Int) = 0 from rfl] at r1
  rw [r1, Option.bind_some, List.drop_zero] at *
  congr 1
  rw [Bool.eq_iff_iff, decide_eq_true_eq]
  exact r2

/-! hd: an equation that the search for linear facts is to leave alone -/
def Hd (p : Prop) : Prop := p
theorem Hd.mk {p : Prop} (h : p) : Hd p := h
theorem Hd.out {p : Prop} (h : Hd p) : p := h

/-! period: PeriodOf, in both texts -/
theorem strV_pre (taps : List Int) (d : Nat) : ∀ o : List Bool, ∃ e, strV taps d o = o ++ e := by
  induction d with
  | zero => intro o; exact ⟨[], by simp [strV]⟩
  | succ d ih =>
    intro o
    obtain ⟨e, he⟩ := ih (o ++ [X taps (fun t => sAt o ((o.length : Int) - t))])
    exact ⟨_, by simp only [strV]; rw [he, List.append_assoc]⟩
theorem sAt_left (o e : List Bool) (j : Int) (h : j < o.length) : sAt (o ++ e) j = sAt o j := by
  unfold sAt
  by_cases h0 : 0 ≤ j
  · rw [if_pos h0, if_pos h0, List.getD_eq_getElem?_getD, List.getD_eq_getElem?_getD, List.getElem?_append_left (by omega)]
  · rw [if_neg h0, if_neg h0]
theorem sAt_mid (o e : List Bool) (b : Bool) : sAt (o ++ [b] ++ e) (o.length : Int) = b := by
  rw [sAt_left _ _ _ (by simp; omega)]
  rw [sAt_nat _ _ (by simp)]
  simp
theorem strV_rec (taps : List Int) (ht : ∀ t ∈ taps, 1 ≤ t) (d : Nat) : ∀ (o : List Bool) (j : Nat), o.length ≤ j → j < o.length + d →
    sAt (strV taps d o) (j : Int) = X taps (fun t => sAt (strV taps d o) ((j : Int) - t)) := by
  induction d with
  | zero => intro o j h1 h2; omega
  | succ d ih =>
    intro o j h1 h2
    by_cases e : j = o.length
    · subst e
      obtain ⟨r, hr⟩ := strV_pre taps d (o ++ [X taps (fun t => sAt o ((o.length : Int) - t))])
      simp only [strV]
      rw [hr, sAt_mid]
      refine X_congr fun t h => ?_
      have := ht t h
      rw [List.append_assoc, sAt_left _ _ _ (by omega)]
    · simp only [strV]
      exact ih _ j (by simp; omega) (by simp; omega)
theorem rise_top {taps : List Int} (h : rise taps = true) : ∀ t ∈ taps, t ≤ topTap taps := by
  induction taps with
  | nil => intro t ht; simp at ht
  | cons x l ih =>
    cases l with
    | nil => intro t ht; simp at ht; subst ht; simp [topTap]
    | cons y l =>
      simp only [rise, Bool.and_eq_true, decide_eq_true_eq] at h
      have ih := ih h.2
      have e : topTap (x :: y :: l) = topTap (y :: l) := by simp [topTap]
      intro t ht
      rw [e]
      rcases List.mem_cons.1 ht with rfl | ht
      · have := ih y (by simp); omega
      · exact ih t ht
def win (S : List Bool) (n i : Nat) : List Bool := (S.drop i).take n
theorem win_len (S : List Bool) (n i : Nat) (h : i + n ≤ S.length) : (win S n i).length = n := by simp [win]; omega
theorem win_at (S : List Bool) (n i : Nat) (h : i + n ≤ S.length) (j : Int) (h0 : 0 ≤ j) (h1 : j < n) : sAt (win S n i) j = sAt S ((i : Int) + j) := by
  unfold sAt win
  rw [if_pos h0, if_pos (by omega), List.getD_eq_getElem?_getD, List.getD_eq_getElem?_getD, List.getElem?_take_of_lt (by omega), List.getElem?_drop]
  rw [show i + j.toNat = ((i : Int) + j).toNat by omega]
theorem win_step (S : List Bool) (n i : Nat) (hn : 1 ≤ n) (h : i + n < S.length) : (win S n i).drop 1 ++ [sAt S ((i : Int) + n)] = win S n (i + 1) := by
  obtain ⟨m, rfl⟩ : ∃ m, n = m + 1 := ⟨n - 1, by omega⟩
  unfold win
  rw [List.drop_take, List.drop_drop, List.take_add_one, List.getElem?_drop, show m + 1 - 1 = m by omega]
  rw [show i + 1 + m = i + (m + 1) by omega]
  have e : sAt S ((i : Int) + ((m + 1 : Nat) : Int)) = S[i + (m + 1)] := by
    rw [show (i : Int) + ((m + 1 : Nat) : Int) = ((i + (m + 1) : Nat) : Int) by omega, sAt_nat S _ h]
  rw [e, List.getElem?_eq_getElem h]
  rfl
theorem win_next (taps : List Int) (hg : goodTaps taps = true) (bits : List Bool) (hb : (bits.length : Int) = topTap taps) (N i : Nat) (h : i < N) (hn : 1 ≤ bits.length) :
    (win (strV taps N bits) bits.length i).drop 1 ++ [X taps (fun t => sAt (win (strV taps N bits) bits.length i) ((bits.length : Int) - t))] = win (strV taps N bits) bits.length (i + 1) := by
  have hl := strV_len taps N bits
  have hr : rise taps = true := by simp [goodTaps] at hg; exact hg.1
  rw [← win_step _ _ _ hn (by omega)]
  congr 2
  have := strV_rec taps (fun t ht => (goodTaps_mem hg t ht).1) N bits (i + bits.length) (by omega) (by omega)
  rw [show (i : Int) + (bits.length : Int) = ((i + bits.length : Nat) : Int) by omega, this]
  refine X_congr fun t ht => ?_
  have h1 := (goodTaps_mem hg t ht).1
  have h2 := rise_top hr t ht
  rw [win_at _ _ _ (by omega) _ (by omega) (by omega)]
  rw [show (i : Int) + ((bits.length : Int) - t) = ((i + bits.length : Nat) : Int) - t by omega]
theorem periodN_ex : ∃ N : Nat, N = 5000 := ⟨_, rfl⟩
noncomputable def periodN : Nat := Classical.choose periodN_ex
theorem periodN_eq : periodN = 5000 := Classical.choose_spec periodN_ex
def perV (S bits : List Bool) : Nat → Nat → Int × Bool
  | 0, _ => (0, false)
  | d + 1, i => if win S bits.length i = bits then ((i : Int), true) else perV S bits d (i + 1)
theorem same_loop (taps : List Int) (st bits : List Bool) (top x11 : Int) (hs : st.length = bits.length) (hb : bits.length ≤ 100) (k : Nat) (d : Nat) : ∀ (b : Bool) (j : Nat), j + d = bits.length →
    spec_PeriodOf.l2 (k + d + 1) taps bits top st x11 b bits (bits.length : Int) (j : Int) = if (b && decide (st.drop j = bits.drop j)) = true then some (x11, true) else spec_PeriodOf.l1 k taps bits top st (wrap64 (x11 + 1)) := by
  induction d with
  | zero =>
    intro b j hj
    simp only [spec_PeriodOf.l2]
    rw [if_neg (by omega), List.drop_of_length_le (by omega), List.drop_of_length_le (by omega)]
    simp
  | succ d ih =>
    intro b j hj
    have h1 : (j : Int) < (bits.length : Int) := by omega
    have h2 : (0 : Int) ≤ (j : Int) := by omega
    have h3 : (j : Int) < (st.length : Int) := by omega
    have ih' := fun b => ih b (j + 1) (by omega)
    rw [show k + (d + 1) + 1 = (k + d + 1) + 1 by omega]
    generalize k + d + 1 = K at *
    simp only [spec_PeriodOf.l2]
    rw [if_pos h1, if_pos h2, if_pos h1, wr_succ j (by omega), if_pos h3, rdb_at st j (by omega), rdb_at bits j (by omega), ih', ih', List.drop_eq_getElem_cons (show j < st.length by omega), List.drop_eq_getElem_cons (show j < bits.length by omega)]
    cases b
    · simp
    · rw [if_pos rfl]
      simp only [List.cons.injEq, Bool.true_and]
      by_cases e : st[j] = bits[j]
      · simp [e]
      · have e' : (st[j] == bits[j]) = false := by simp [e]
        simp [e, e']
theorem period_loop (taps : List Int) (hg : goodTaps taps = true) (bits : List Bool) (hb : (bits.length : Int) = topTap taps) (hn : 1 ≤ bits.length) (hn' : bits.length ≤ 12) (ht : taps.length ≤ 35184372088832) (d : Nat) : ∀ (k i : Nat), i + 1 + d = 5001 → d * 20 + taps.length + 100 < k →
    spec_PeriodOf.l1 k taps bits (topTap taps) (win (strV taps periodN bits) bits.length i) ((i + 1 : Nat) : Int) = some (perV (strV taps periodN bits) bits d (i + 1)) ∧
    impl_PeriodOf.l0 k bits (bits.length : Int) (strV taps periodN bits) ((i + 1 : Nat) : Int) = some (perV (strV taps periodN bits) bits d (i + 1)) := by
  have hl := strV_len taps periodN bits
  have hN := periodN_eq
  induction d with
  | zero =>
    intro k i hd hk
    obtain ⟨k, rfl⟩ : ∃ m, k = m + 1 := ⟨k - 1, by omega⟩
    have h : ¬ ((i + 1 : Nat) : Int) ≤ 5000 := by omega
    simp only [spec_PeriodOf.l1, impl_PeriodOf.l0, if_neg h, perV]
    exact ⟨trivial, trivial⟩
  | succ d ih =>
    intro k i hd hk
    obtain ⟨k, rfl⟩ : ∃ m, k = (m + bits.length + 1) + 1 := ⟨k - bits.length - 2, by omega⟩
    have h : ((i + 1 : Nat) : Int) ≤ 5000 := by omega
    have hw := win_len (strV taps periodN bits) bits.length i (by omega)
    have hw1 := win_len (strV taps periodN bits) bits.length (i + 1) (by omega)
    have h1 : (1 : Int) ≤ ((win (strV taps periodN bits) bits.length i).length : Int) := by omega
    have c1 : ([] : List Bool).length + ((win (strV taps periodN bits) bits.length i).drop 1).length < 140737488355328 := by simp; omega
    have c2 : (([] : List Bool) ++ (win (strV taps periodN bits) bits.length i).drop 1).length < 140737488355328 := by simp; omega
    have hx := spec_next (k := k + bits.length + 1) (win (strV taps periodN bits) bits.length i) taps (bits.length : Int) (by omega) (by omega) (by omega) (fun t ht => by have := goodTaps_mem hg t ht; omega) ht (by omega)
    have hs := win_next taps hg bits hb periodN i (by omega) hn
    obtain ⟨r1, _⟩ := ih k (i + 1) (by omega) (by omega)
    obtain ⟨_, r2⟩ := ih (k + bits.length + 1) (i + 1) (by omega) (by omega)
    have e0 : Hd (wrap64 (((i + 1 : Nat) : Int) + (bits.length : Int)) = ((i + 1 + bits.length : Nat) : Int)) := Hd.mk (by rw [wr (by omega) (by omega)]; omega)
    have e1 : Hd (wrap64 (((i + 1 : Nat) : Int) + 1) = ((i + 1 + 1 : Nat) : Int)) := Hd.mk (by rw [wr (by omega) (by omega)]; omega)
    have g1 : (0 : Int) ≤ ((i + 1 : Nat) : Int) := by omega
    have g2 : ((i + 1 : Nat) : Int) ≤ ((i + 1 + bits.length : Nat) : Int) := by omega
    have g3 : ((i + 1 + bits.length : Nat) : Int) ≤ ((strV taps periodN bits).length : Int) := by omega
    have g4 : ((strV taps periodN bits).take (i + 1 + bits.length)).drop (i + 1) = win (strV taps periodN bits) bits.length (i + 1) := by
      unfold win; rw [List.drop_take, show i + 1 + bits.length - (i + 1) = bits.length by omega]
    constructor
    · simp only [spec_PeriodOf.l1]
      rw [if_pos h, Option.bind_some, if_pos h1, Option.bind_some, if_pos c1, Option.bind_some, ← hb, hx, Option.bind_some, if_pos c2, List.nil_append, hs]
      have hsl := same_loop taps (win (strV taps periodN bits) bits.length (i + 1)) bits (bits.length : Int) ((i + 1 : Nat) : Int) hw1 (by omega) k bits.length true 0 (by omega)
      rw [show ((0 : Nat) : Int) = 0 from rfl] at hsl
      rw [hsl, e1.out, hb, r1]
      simp only [perV, List.drop_zero, Bool.true_and, decide_eq_true_eq]
      by_cases e : win (strV taps periodN bits) bits.length (i + 1) = bits
      · rw [if_pos e, if_pos e]
      · rw [if_neg e, if_neg e]
    · have hq := lib_equal (k := k + bits.length + 1) (win (strV taps periodN bits) bits.length (i + 1)) bits (by omega) (by omega)
      generalize k + bits.length + 1 = K at *
      simp only [impl_PeriodOf.l0]
      rw [if_pos h, if_pos g1, e0.out, if_pos g2, if_pos g3, Int.toNat_natCast, Int.toNat_natCast, g4, hq, Option.bind_some, e1.out, r2]
      simp only [perV, decide_eq_true_eq]
      by_cases e : win (strV taps periodN bits) bits.length (i + 1) = bits
      · rw [if_pos e, if_pos e]
      · rw [if_neg e, if_neg e]
theorem any_loop (taps : List Int) (bits : List Bool) (top : Int) (hb : bits.length ≤ 100) (k : Nat) (d : Nat) : ∀ (b : Bool) (j : Nat), j + d = bits.length →
    spec_PeriodOf.l0 (k + d + 1) taps bits top b bits (bits.length : Int) (j : Int) = if (b || (bits.drop j).any id) = true then spec_PeriodOf.l1 k taps bits top bits 1 else some (0, false) := by
  induction d with
  | zero =>
    intro b j hj
    have c1 : ([] : List Bool).length + bits.length < 140737488355328 := by simp; omega
    have h1 : ¬ (j : Int) < (bits.length : Int) := by omega
    have e : (bits.drop j) = [] := List.drop_of_length_le (by omega)
    simp only [spec_PeriodOf.l0]
    rw [if_neg h1, e, Option.bind_some, if_pos c1, List.nil_append]
    simp
  | succ d ih =>
    intro b j hj
    have h1 : (j : Int) < (bits.length : Int) := by omega
    have h2 : (0 : Int) ≤ (j : Int) := by omega
    have ih' := fun b => ih b (j + 1) (by omega)
    rw [show k + (d + 1) + 1 = (k + d + 1) + 1 by omega]
    generalize k + d + 1 = K at *
    simp only [spec_PeriodOf.l0]
    rw [if_pos h1, if_pos h2, if_pos h1, wr_succ j (by omega), rdb_at bits j (by omega), ih', ih', List.drop_eq_getElem_cons (show j < bits.length by omega)]
    cases b
    · rw [if_neg Bool.false_ne_true]; simp only [List.any_cons, Bool.false_or, id]
    · rw [if_pos rfl]; simp only [Bool.true_or]
noncomputable def periodV (taps : List Int) (bits : List Bool) : Int × Bool :=
  if goodTaps taps = true ∧ (bits.length : Int) = topTap taps ∧ bits.any id = true then perV (strV taps periodN bits) bits periodN 1 else (0, false)
theorem period_of {k : Nat} (taps : List Int) (bits : List Bool) (hn : taps.length ≤ 35184372088832) (hn' : bits.length ≤ 35184372088832) (hk : 2 * taps.length + bits.length + 200000 < k) :
    spec_PeriodOf.f k taps bits = some (periodV taps bits) ∧ impl_PeriodOf.f k taps bits = some (periodV taps bits) := by
  obtain ⟨k, rfl⟩ : ∃ m, k = m + 1 := ⟨k - 1, by omega⟩
  unfold spec_PeriodOf.f impl_PeriodOf.f impl_isStart.f periodV
  rw [spec_goodTaps taps hn (by omega), impl_goodTaps taps hn (by omega), impl_top, spec_top taps hn, lib_holds bits hn' (by omega), Option.bind_some, Option.bind_some, Option.bind_some, Option.bind_some]
  by_cases hg : goodTaps taps = true
  · by_cases hl : (bits.length : Int) = topTap taps
    · have e : ((bits.length : Int) == topTap taps) = true := by simp [hl]
      have e' : ((bits.length : Int) != topTap taps) = false := by simp [hl]
      have ht := topTap_le hg
      rw [if_pos hg, if_pos hg, e, e', Option.bind_some, if_pos rfl, Option.bind_some]
      obtain ⟨m, hm⟩ : ∃ m, k = m + bits.length + 1 := ⟨k - bits.length - 1, by omega⟩
      have ha := any_loop taps bits (topTap taps) (by omega) m bits.length false 0 (by omega)
      rw [← hm, show ((0 : Nat) : Int) = 0 from rfl, List.drop_zero, Bool.false_or] at ha
      simp only [spec_PeriodOf.j0, impl_PeriodOf.j0]
      rw [if_neg Bool.false_ne_true, ha]
      by_cases hy : bits.any id = true
      · have hp : 1 ≤ bits.length := by
          cases bits with
          | nil => simp at hy
          | cons _ _ => simp
        have hw0 : win (strV taps periodN bits) bits.length 0 = bits := by
          obtain ⟨r, hr⟩ := strV_pre taps periodN bits
          unfold win; rw [hr]; simp
        have hz : Hd (wrap64 (5000 + (bits.length : Int)) = 5000 + (bits.length : Int)) := Hd.mk (wr (by omega) (by omega))
        have hN := periodN_eq
        have hz2 : (5000 + (bits.length : Int) - (bits.length : Int)).toNat = periodN := by omega
        have hst := impl_stream_eq (k := k) taps (goodTaps_mem hg) hn bits (by omega) (5000 + (bits.length : Int)) (by omega) (by omega)
        rw [hz2] at hst
        rw [if_pos hy, hy, Bool.not_true, if_neg Bool.false_ne_true, hz.out, hst, Option.bind_some, if_pos ⟨hg, hl, rfl⟩]
        obtain ⟨r1, _⟩ := period_loop taps hg bits hl hp (by omega) hn periodN m 0 (by omega) (by omega)
        obtain ⟨_, r2⟩ := period_loop taps hg bits hl hp (by omega) hn periodN k 0 (by omega) (by omega)
        rw [hw0] at r1
        exact ⟨r1, r2⟩
      · have hy' : bits.any id = false := by simpa using hy
        rw [if_neg hy, hy', Bool.not_false, if_pos rfl, if_neg (fun h => Bool.false_ne_true h.2.2)]
        exact ⟨rfl, rfl⟩
    · have e : ((bits.length : Int) == topTap taps) = false := by simp [hl]
      have e' : ((bits.length : Int) != topTap taps) = true := by simp [hl]
      rw [if_pos hg, if_pos hg, e, e', Option.bind_some, if_neg Bool.false_ne_true, if_neg (fun h => hl h.2.1)]
      simp only [spec_PeriodOf.j0, impl_PeriodOf.j0, if_true]
      exact ⟨trivial, trivial⟩
  · rw [if_neg hg, if_neg hg, Option.bind_some, if_neg Bool.false_ne_true, if_neg (fun h => hg h.1)]
    simp only [spec_PeriodOf.j0, impl_PeriodOf.j0, if_true]
    exact ⟨trivial, trivial⟩

/-! makesi: MakesBits, in the program alone -/
def makesV (taps : List Int) (long : Int) (bits : List Bool) : Bool × Bool :=
  if goodTaps taps = true ∧ topTap taps ≤ long ∧ long ≤ 40 ∧ (bits.length : Int) ≤ 40 then (genB (sAt bits) taps ((bits.length : Int) - long).toNat long, true) else (false, false)
theorem makesi_loop (taps : List Int) (bits : List Bool) (hg : goodTaps taps = true) (hn : taps.length ≤ 35184372088832) (hb : bits.length ≤ 40) (d : Nat) : ∀ (k : Nat) (i : Int), 0 ≤ i → (bits.length : Int) - i = d → d + 1 + taps.length < k →
    impl_MakesBits.l0 k taps bits i = some (genB (sAt bits) taps d i, true) := by
  induction d with
  | zero =>
    intro k i h0 hd hk
    obtain ⟨k, rfl⟩ : ∃ m, k = m + 1 := ⟨k - 1, by omega⟩
    have h : ¬ i < (bits.length : Int) := by omega
    simp only [impl_MakesBits.l0, if_neg h, genB]
  | succ d ih =>
    intro k i h0 hd hk
    obtain ⟨k, rfl⟩ : ∃ m, k = m + 1 := ⟨k - 1, by omega⟩
    have h1 : i < (bits.length : Int) := by omega
    have hm := goodTaps_mem hg
    have hv := spec_next (k := k) bits taps i h0 (by omega) (by omega) (fun t ht => by have := hm t ht; omega) hn (by omega)
    have r2 := ih k (i + 1) (by omega) (by omega) (by omega)
    simp only [impl_MakesBits.l0, if_pos h1, if_pos h0, tapped_eq, hv, Option.bind_some, sAt_rd h0, wr (x := i + 1) (by omega) (by omega), r2, genB, Dis_eq]
    cases sAt bits i <;> cases X taps (fun t => sAt bits (i - t)) <;> simp
theorem makes_i {k : Nat} (taps : List Int) (long : Int) (bits : List Bool) (hn : taps.length ≤ 35184372088832) (hk : 2 * taps.length + 100 < k) :
    impl_MakesBits.f k taps long bits = some (makesV taps long bits) := by
  obtain ⟨k, rfl⟩ : ∃ m, k = m + 1 := ⟨k - 1, by omega⟩
  unfold impl_MakesBits.f makesV
  rw [impl_goodTaps taps hn (by omega), impl_top, spec_top taps hn]
  simp only [Option.bind_some, within_eq, in_some, impl_MakesBits.j0]
  by_cases hg : goodTaps taps = true
  · by_cases hl : topTap taps ≤ long ∧ long ≤ 40
    · by_cases hb : (bits.length : Int) ≤ 40
      · have ht := topTap_nonneg hg
        by_cases hz : long ≤ (bits.length : Int)
        · have r2 := makesi_loop taps bits hg hn (by omega) ((bits.length : Int) - long).toNat k long (by omega) (by omega) (by omega)
          have hb' : ¬ (bits.length : Int) > 40 := by omega
          simp [hg, hl, hb, r2]
        · obtain ⟨k, rfl⟩ : ∃ m, k = m + 1 := ⟨k - 1, by omega⟩
          have h : ¬ long < (bits.length : Int) := by omega
          have e : ((bits.length : Int) - long).toNat = 0 := by omega
          simp [hg, hl, hb, impl_MakesBits.l0, h, e, genB]
      · have hb' : (bits.length : Int) > 40 := by omega
        simp [hg, hl, hb, hb']
    · have hd : (decide (topTap taps ≤ long) && decide (long ≤ 40)) = false := by simpa using hl
      have hx : ¬ (topTap taps ≤ long ∧ long ≤ 40 ∧ (bits.length : Int) ≤ 40) := by omega
      simp [hg, hd, hx]
  · simp [hg]

/-! bitsof: BitsOf, in both texts -/
theorem wrap_u64 {x : Int} (h : 0 ≤ x) (h' : x ≤ 9223372036854775807) : IntKind.u64.wrap x = x := by
  simp [IntKind.wrap, IntKind.bits, IntKind.signed]; omega
def bitB (s : ByteArray) (j : Nat) : Bool := Go.bits .and .u8 (shr .u8 (bt s ((j / 8 : Nat) : Int)) (7 - ((j % 8 : Nat) : Int))) 1 == 1
def bitsB (s : ByteArray) (n : Nat) : List Bool := (List.range n).map (bitB s)
theorem bitsB_succ (s : ByteArray) (n : Nat) : bitsB s (n + 1) = bitsB s n ++ [bitB s n] := by simp [bitsB, List.range_succ]
theorem bitsB_len (s : ByteArray) (n : Nat) : (bitsB s n).length = n := by simp [bitsB]
theorem impl_bits_loop (s : ByteArray) (hs : s.size ≤ 5) (d : Nat) : ∀ (k i : Nat), i + d = 8 * s.size → d < k →
    impl_BitsOf.l0 k s (bitsB s i) ((8 * s.size : Nat) : Int) (i : Int) = some (bitsB s (8 * s.size), true) := by
  induction d with
  | zero =>
    intro k i hd hk
    obtain ⟨k, rfl⟩ : ∃ m, k = m + 1 := ⟨k - 1, by omega⟩
    simp only [impl_BitsOf.l0]
    rw [if_neg (by omega), show i = 8 * s.size by omega]
  | succ d ih =>
    intro k i hd hk
    obtain ⟨k, rfl⟩ : ∃ m, k = m + 1 := ⟨k - 1, by omega⟩
    have h1 : (i : Int) < ((8 * s.size : Nat) : Int) := by omega
    have e1 : wrap64 (Int.tdiv (i : Int) 8) = ((i / 8 : Nat) : Int) := by rw [tdiv_pos (by omega), wr (by omega) (by omega)]; omega
    have e2 : wrap64 (7 - Int.tmod (i : Int) 8) = 7 - ((i % 8 : Nat) : Int) := by rw [tmod_pos (by omega), wr (by omega) (by omega)]; omega
    have h2 : (0 : Int) ≤ ((i / 8 : Nat) : Int) := by omega
    have h3 : ((i / 8 : Nat) : Int) < (s.size : Int) := by omega
    have h4 : (0 : Int) ≤ 7 - ((i % 8 : Nat) : Int) := by omega
    have h5 : (bitsB s i).length < 140737488355328 := by rw [bitsB_len]; omega
    have := ih k (i + 1) (by omega) (by omega)
    rw [bitsB_succ] at this
    simp only [impl_BitsOf.l0]
    rw [if_pos h1, e1, e2, if_pos h2, if_pos h3, if_pos h4, if_pos h5, wr_succ i (by omega)]
    exact this
theorem spec_bits_loop (s : ByteArray) (hs : s.size ≤ 5) (d : Nat) : ∀ (k i : Nat), i + d = s.size → 10 * d + 1 ≤ k →
    spec_BitsOf.l0 k s (bitsB s (8 * i)) (i : Int) = some (bitsB s (8 * s.size), true) := by
  induction d with
  | zero =>
    intro k i hd hk
    obtain ⟨k, rfl⟩ : ∃ m, k = m + 1 := ⟨k - 1, by omega⟩
    simp only [spec_BitsOf.l0]
    rw [if_neg (by omega), show i = s.size by omega]
  | succ d ih =>
    intro k i hd hk
    obtain ⟨k, rfl⟩ : ∃ m, k = m + 1 := ⟨k - 1, by omega⟩
    have h1 : (i : Int) < (s.size : Int) := by omega
    have inner : ∀ (r k : Nat), r ≤ 8 → 10 * d + 2 + r ≤ k → spec_BitsOf.l1 k s (bitsB s (8 * i + (8 - r))) (i : Int) ((r : Int) - 1) = some (bitsB s (8 * s.size), true) := by
      intro r
      induction r with
      | zero =>
        intro k hr hk
        obtain ⟨k, rfl⟩ : ∃ m, k = m + 1 := ⟨k - 1, by omega⟩
        simp only [spec_BitsOf.l1]
        have hz : ¬ ((0 : Nat) : Int) - 1 ≥ 0 := by omega
        rw [if_neg hz, wr_succ i (by omega), show 8 * i + (8 - 0) = 8 * (i + 1) by omega]
        exact ih k (i + 1) (by omega) (by omega)
      | succ r ihr =>
        intro k hr hk
        obtain ⟨k, rfl⟩ : ∃ m, k = m + 1 := ⟨k - 1, by omega⟩
        have e0 : ((r + 1 : Nat) : Int) - 1 = (r : Int) := by omega
        have h2 : (r : Int) ≥ 0 := by omega
        have h3 : (0 : Int) ≤ (i : Int) := by omega
        have e1 : IntKind.u64.wrap (r : Int) = (r : Int) := wrap_u64 (by omega) (by omega)
        have h4 : (0 : Int) ≤ (r : Int) := by omega
        have h5 : (bitsB s (8 * i + (8 - (r + 1)))).length < 140737488355328 := by rw [bitsB_len]; omega
        have e2 : wrap64 ((r : Int) - 1) = (r : Int) - 1 := wr (by omega) (by omega)
        have := ihr k (by omega) (by omega)
        rw [show 8 * i + (8 - r) = 8 * i + (8 - (r + 1)) + 1 by omega, bitsB_succ] at this
        have eb : bitB s (8 * i + (8 - (r + 1))) = (Go.bits .and .u8 (shr .u8 (bt s (i : Int)) (r : Int)) 1 == 1) := by
          unfold bitB
          rw [show (8 * i + (8 - (r + 1))) / 8 = i by omega, show 7 - (((8 * i + (8 - (r + 1))) % 8 : Nat) : Int) = (r : Int) by omega]
        rw [eb] at this
        simp only [spec_BitsOf.l1]
        rw [e0, if_pos h2, if_pos h3, if_pos h1, e1, if_pos h4, if_pos h5, e2]
        exact this
    simp only [spec_BitsOf.l0]
    rw [if_pos h1]
    have := inner 8 k (by omega) (by omega)
    rw [show 8 * i + (8 - 8) = 8 * i by omega] at this
    exact this
def bitsR (s : ByteArray) : List Bool × Bool := if s.size ≤ 5 then (bitsB s (8 * s.size), true) else ([], false)
theorem bitsR_len (s : ByteArray) : (bitsR s).1.length ≤ 40 := by
  unfold bitsR
  split
  · rename_i h; simp [bitsB]; omega
  · simp
theorem bits_of {k : Nat} (hk : 100 < k) (s : ByteArray) : spec_BitsOf.f k s = some (bitsR s) ∧ impl_BitsOf.f k s = some (bitsR s) := by
  unfold spec_BitsOf.f impl_BitsOf.f bitsR
  by_cases h : s.size ≤ 5
  · have h' : ¬ (s.size : Int) > 5 := by omega
    rw [if_neg h', if_neg h', if_pos h]
    have h1 := spec_bits_loop s h s.size k 0 (by omega) (by omega)
    have h2 := impl_bits_loop s h (8 * s.size) k 0 (by omega) (by omega)
    rw [show wrap64 (8 * (s.size : Int)) = ((8 * s.size : Nat) : Int) by rw [wr (by omega) (by omega)]; omega]
    exact ⟨h1, h2⟩
  · have h' : (s.size : Int) > 5 := by omega
    rw [if_pos h', if_pos h', if_neg h]
    exact ⟨rfl, rfl⟩

/-! textof: TextOf, in both texts -/
theorem wrap_u64' {x : Int} (h : 0 ≤ x) (h' : x ≤ 9223372036854775807) : IntKind.u64.wrap x = x := by
  simp [IntKind.wrap, IntKind.bits, IntKind.signed]; omega
def mask (r : Nat) : Int := shl .u8 1 (7 - (r : Int))
theorem mask_shr (r : Nat) (h : r < 8) : shr .u8 128 (r : Int) = mask r := by
  have key : ∀ r : Nat, r < 8 → shr .u8 128 (r : Int) = mask r := by decide +kernel
  exact key r h
/-- a byte out of the first m bits from place 8 * j on -/
def part (bits : List Bool) (j : Nat) : Nat → Int
  | 0 => 0
  | m + 1 => if bits.getD (8 * j + m) false = true then Go.bits .or .u8 (part bits j m) (mask m) else part bits j m
theorem text_loop (bits : List Bool) (hb : bits.length ≤ 40) (h8 : bits.length % 8 = 0) (d : Nat) : ∀ (k : Nat) (x : List Int) (i : Nat), i + d = bits.length → d < k → x.length = bits.length / 8 → (∀ j, j < bits.length / 8 → x[j]? = some (part bits j (min 8 (i - 8 * j)))) →
    ∃ r, spec_TextOf.l0 k x bits (bits.length : Int) (i : Int) = some (strOfNums r, true) ∧ impl_TextOf.l0 k x bits (bits.length : Int) (i : Int) = some (strOfNums r, true) ∧ r.length = bits.length / 8 ∧ ∀ j, j < bits.length / 8 → r[j]? = some (part bits j 8) := by
  induction d with
  | zero =>
    intro k x i hd hk hl hx
    obtain ⟨k, rfl⟩ : ∃ m, k = m + 1 := ⟨k - 1, by omega⟩
    have hn : ¬ (i : Int) < (bits.length : Int) := by omega
    simp only [spec_TextOf.l0, impl_TextOf.l0, if_neg hn]
    refine ⟨x, rfl, rfl, hl, fun j hj => ?_⟩
    rw [hx j hj, show min 8 (i - 8 * j) = 8 by omega]
  | succ d ih =>
    intro k x i hd hk hl hx
    obtain ⟨k, rfl⟩ : ∃ m, k = m + 1 := ⟨k - 1, by omega⟩
    have g1 : (i : Int) < (bits.length : Int) := by omega
    have g2 : (0 : Int) ≤ (i : Int) := by omega
    have e1 : wrap64 (Int.tdiv (i : Int) 8) = ((i / 8 : Nat) : Int) := by rw [tdiv_pos (by omega), wr (by omega) (by omega)]; omega
    have e2 : wrap64 (7 - Int.tmod (i : Int) 8) = 7 - ((i % 8 : Nat) : Int) := by rw [tmod_pos (by omega), wr (by omega) (by omega)]; omega
    have e3 : IntKind.u64.wrap (Int.tmod (i : Int) 8) = ((i % 8 : Nat) : Int) := by rw [tmod_pos (by omega), wrap_u64' (by omega) (by omega)]; omega
    have g3 : (0 : Int) ≤ ((i / 8 : Nat) : Int) := by omega
    have g4 : ((i / 8 : Nat) : Int) < (x.length : Int) := by omega
    have g5 : (0 : Int) ≤ 7 - ((i % 8 : Nat) : Int) := by omega
    have g6 : (0 : Int) ≤ ((i % 8 : Nat) : Int) := by omega
    have hj : i / 8 < bits.length / 8 := by omega
    have hxv := hx (i / 8) hj
    rw [show min 8 (i - 8 * (i / 8)) = i % 8 by omega, List.getElem?_eq_getElem (by omega)] at hxv
    have hxv' : x[i / 8]'(by omega) = part bits (i / 8) (i % 8) := Option.some.inj hxv
    have hbit : bits[i]'(by omega) = bits.getD (8 * (i / 8) + i % 8) false := by
      rw [show 8 * (i / 8) + i % 8 = i by omega, List.getD_eq_getElem?_getD, List.getElem?_eq_getElem (by omega : i < bits.length)]
      rfl
    simp only [spec_TextOf.l0, impl_TextOf.l0, if_pos g1, if_pos g2, rdb_at bits i (by omega), e1, e2, e3, if_pos g3, if_pos g4, if_pos g5, if_pos g6, rd_at x (i / 8) (by omega), hxv', Int.toNat_natCast, mask_shr (i % 8) (by omega), wr_succ i (by omega)]
    by_cases hv : bits[i]'(by omega) = true
    · rw [if_pos hv, if_pos hv]
      refine ih k _ (i + 1) (by omega) (by omega) (by simpa using hl) (fun j hj' => ?_)
      rw [List.getElem?_set]
      by_cases e : i / 8 = j
      · subst e
        rw [if_pos rfl, if_pos (by omega), show min 8 (i + 1 - 8 * (i / 8)) = i % 8 + 1 by omega]
        simp only [part]
        rw [← hbit, if_pos hv]
        try rfl
      · rw [if_neg e, hx j hj']
        by_cases h : j < i / 8
        · rw [show min 8 (i - 8 * j) = 8 by omega, show min 8 (i + 1 - 8 * j) = 8 by omega]
        · rw [show min 8 (i - 8 * j) = 0 by omega, show min 8 (i + 1 - 8 * j) = 0 by omega]
    · rw [if_neg hv, if_neg hv]
      refine ih k _ (i + 1) (by omega) (by omega) hl (fun j hj' => ?_)
      rw [hx j hj']
      by_cases e : i / 8 = j
      · subst e
        rw [show min 8 (i - 8 * (i / 8)) = i % 8 by omega, show min 8 (i + 1 - 8 * (i / 8)) = i % 8 + 1 by omega]
        simp only [part]
        rw [← hbit, if_neg hv]
      · by_cases h : j < i / 8
        · rw [show min 8 (i - 8 * j) = 8 by omega, show min 8 (i + 1 - 8 * j) = 8 by omega]
        · rw [show min 8 (i - 8 * j) = 0 by omega, show min 8 (i + 1 - 8 * j) = 0 by omega]
def textR (bits : List Bool) : ByteArray × Bool := if bits.length ≤ 40 ∧ bits.length % 8 = 0 then (strOfNums ((List.range (bits.length / 8)).map fun j => part bits j 8), true) else (⟨#[]⟩, false)
theorem text_of {k : Nat} (hk : 100 < k) (bits : List Bool) : spec_TextOf.f k bits = some (textR bits) ∧ impl_TextOf.f k bits = some (textR bits) := by
  obtain ⟨k, rfl⟩ : ∃ m, k = m + 1 := ⟨k - 1, by omega⟩
  unfold spec_TextOf.f impl_TextOf.f spec_l3Long.f
  simp only [Option.bind_some, spec_TextOf.j0, impl_TextOf.j0]
  by_cases h : bits.length ≤ 40
  · have e1 : (bits.length : Int) ≤ 40 := by omega
    have e2 : ¬ (bits.length : Int) > 40 := by omega
    by_cases h8 : bits.length % 8 = 0
    · have e3 : ((bits.length : Int) % 8 != 0) = false := by
        have : (bits.length : Int) % 8 = 0 := by omega
        simp [this]
      have e4 : wrap64 ((bits.length : Int) / 8) = ((bits.length / 8 : Nat) : Int) := by rw [wr (by omega) (by omega)]; omega
      obtain ⟨r, r1, r2, r3, r4⟩ := text_loop bits h h8 bits.length k (List.replicate (bits.length / 8) 0) 0 (by omega) (by omega) (by simp) (fun j hj => by
        rw [show min 8 (0 - 8 * j) = 0 by omega, List.getElem?_replicate, if_pos hj]; rfl)
      have e5 : r = (List.range (bits.length / 8)).map fun j => part bits j 8 := by
        refine same_list (by simp; omega) (fun j hj => ?_)
        simp at hj
        rw [r4 j hj]; simp [hj]
      rw [show ((0 : Nat) : Int) = 0 from rfl] at r1 r2
      have g1 : (0 : Int) ≤ ((bits.length / 8 : Nat) : Int) := by omega
      have g2 : bits.length / 8 ≤ 281474976710656 := by omega
      have ht : textR bits = (strOfNums r, true) := by unfold textR; rw [if_pos ⟨h, h8⟩, e5]
      rw [ht]
      simp only [e1, decide_true, if_true, if_neg e2, e3, e4, if_pos g1, Int.toNat_natCast, if_pos g2, Bool.false_eq_true, if_false]
      exact ⟨r1, r2⟩
    · have e3 : ((bits.length : Int) % 8 != 0) = true := by
        have : ¬ (bits.length : Int) % 8 = 0 := by omega
        simp [this]
      have ht : textR bits = (⟨#[]⟩, false) := by unfold textR; rw [if_neg (fun h => h8 h.2)]
      rw [ht]
      simp only [e1, decide_true, if_true, if_neg e2, e3]
      exact ⟨trivial, trivial⟩
  · have e1 : ¬ (bits.length : Int) ≤ 40 := by omega
    have e2 : (bits.length : Int) > 40 := by omega
    have ht : textR bits = (⟨#[]⟩, false) := by unfold textR; rw [if_neg (fun h' => h h'.1)]
    rw [ht]
    simp only [e1, decide_false, if_pos e2, Bool.false_eq_true, if_false, if_true]
    exact ⟨trivial, trivial⟩

/-! unlike: UnlikeBits, in both texts -/
theorem unlike_l0_eq (k : Nat) : ∀ a b o n i, impl_UnlikeBits.l0 k b o a n i = spec_UnlikeBits.l0 k a b o n i := by
  induction k with
  | zero => intros; rfl
  | succ k ih => intro a b o n i; simp only [impl_UnlikeBits.l0, spec_UnlikeBits.l0, ih]
def unlikeV (a b : List Bool) : List Bool := (List.range a.length).map fun j => (a.getD j false != b.getD j false)
theorem unlike_loop (a b : List Bool) (hl : a.length = b.length) (ha : a.length ≤ 40) (d : Nat) : ∀ (k : Nat) (i : Nat), i + d = a.length → d < k →
    spec_UnlikeBits.l0 k a b ((List.range i).map fun j => (a.getD j false != b.getD j false)) (a.length : Int) (i : Int) = some (unlikeV a b, true) := by
  induction d with
  | zero =>
    intro k i hd hk
    obtain ⟨k, rfl⟩ : ∃ m, k = m + 1 := ⟨k - 1, by omega⟩
    simp only [spec_UnlikeBits.l0]
    rw [if_neg (by omega), show i = a.length by omega]; rfl
  | succ d ih =>
    intro k i hd hk
    obtain ⟨k, rfl⟩ : ∃ m, k = m + 1 := ⟨k - 1, by omega⟩
    have h1 : (i : Int) < (a.length : Int) := by omega
    have h2 : (0 : Int) ≤ (i : Int) := by omega
    have h3 : (i : Int) < (b.length : Int) := by omega
    have h4 : ((List.range i).map fun j => (a.getD j false != b.getD j false)).length < 140737488355328 := by simp; omega
    simp only [spec_UnlikeBits.l0, if_pos h1, if_pos h2, if_pos h3, if_pos h4, wr_succ i (by omega)]
    have := ih k (i + 1) (by omega) (by omega)
    rw [List.range_succ, List.map_append] at this
    exact this
def unlikeR (a b : List Bool) : List Bool × Bool := if a.length = b.length ∧ a.length ≤ 40 then (unlikeV a b, true) else ([], false)
theorem unlikeR_len (a b : List Bool) : (unlikeR a b).1.length ≤ 40 := by
  unfold unlikeR
  split
  · rename_i h; simp [unlikeV]; omega
  · simp
theorem unlike_bits {k : Nat} (hk : 100 < k) (a b : List Bool) : spec_UnlikeBits.f k a b = some (unlikeR a b) ∧ impl_UnlikeBits.f k a b = some (unlikeR a b) := by
  obtain ⟨k, rfl⟩ : ∃ m, k = m + 1 := ⟨k - 1, by omega⟩
  unfold spec_UnlikeBits.f impl_UnlikeBits.f spec_l3Long.f unlikeR
  simp only [Option.bind_some, spec_UnlikeBits.j0, impl_UnlikeBits.j0, unlike_l0_eq]
  by_cases e : a.length = b.length
  · have e' : (a.length : Int) = (b.length : Int) := by omega
    have e'' : ((a.length : Int) != (b.length : Int)) = false := by simp [e]
    rw [if_pos e', e'']
    by_cases e2 : a.length ≤ 40
    · have h1 := unlike_loop a b e e2 a.length k 0 (by omega) (by omega)
      rw [show ((0 : Nat) : Int) = 0 from rfl] at h1
      have h2 : spec_UnlikeBits.l0 k a b [] (a.length : Int) 0 = some (unlikeV a b, true) := h1
      have e3 : (a.length : Int) ≤ 40 := by omega
      have e4 : ¬ (a.length : Int) > 40 := by omega
      rw [h2]
      simp [← e, e2, e3, e4]
    · have e3 : ¬ (a.length : Int) ≤ 40 := by omega
      have e4 : (a.length : Int) > 40 := by omega
      simp [← e, e2, e3, e4]
  · have e' : ¬ (a.length : Int) = (b.length : Int) := by omega
    rw [if_neg e']
    by_cases e2 : (a.length : Int) ≤ 40 <;> simp [e, e', e2]

/-! runs: RunsOf, in both texts -/
theorem set_last (l : List Int) (x y : Int) : (l ++ [x]).set l.length y = l ++ [y] := by
  rw [List.set_append_right _ _ (Nat.le_refl _)]; simp
theorem rd_last (l : List Int) (x : Int) : rd (l ++ [x]) (l.length : Int) = x := by
  rw [rd_at _ l.length (by simp)]; simp
theorem len_last (l : List Int) (x : Int) (h : l.length ≤ 1000) : wrap64 (((l ++ [x]).length : Int) - 1) = (l.length : Int) := by
  have : (l ++ [x]).length = l.length + 1 := by simp
  rw [wr (by omega) (by omega)]; omega
/-- Both loops go from the same runs to the same runs; each run is from 1 on; together they are as many as the bits. -/
theorem runs_loop (bits : List Bool) (hb : bits.length ≤ 40) (d : Nat) : ∀ (k : Nat) (o : List Int) (i : Nat), i + d = bits.length → d < k → o.length ≤ i → (i = 0 → o = []) → (0 < i → o ≠ []) → (∀ x ∈ o, 1 ≤ x) → o.sum = (i : Int) →
    ∃ r, spec_RunsOf.l0 k bits o bits (bits.length : Int) (i : Int) = some (r, true) ∧ impl_RunsOf.l0 k bits o bits (bits.length : Int) (i : Int) = some (r, true) ∧ r.length ≤ 40 ∧ (∀ x ∈ r, 1 ≤ x) ∧ r.sum = (bits.length : Int) := by
  induction d with
  | zero =>
    intro k o i hd hk ho h0 h1 hm hs
    obtain ⟨k, rfl⟩ : ∃ m, k = m + 1 := ⟨k - 1, by omega⟩
    have hx : ¬ (i : Int) < (bits.length : Int) := by omega
    simp only [spec_RunsOf.l0, impl_RunsOf.l0, if_neg hx]
    exact ⟨o, rfl, rfl, by omega, hm, by rw [hs]; omega⟩
  | succ d ih =>
    intro k o i hd hk ho h0 h1 hm hs
    obtain ⟨k, rfl⟩ : ∃ m, k = m + 1 := ⟨k - 1, by omega⟩
    have g1 : (i : Int) < (bits.length : Int) := by omega
    have g2 : (0 : Int) ≤ (i : Int) := by omega
    have g3 : o.length < 17592186044416 := by omega
    have newRun : ∀ k, d < k → ∃ r, spec_RunsOf.l0 k bits (o ++ [1]) bits (bits.length : Int) ((i + 1 : Nat) : Int) = some (r, true) ∧ impl_RunsOf.l0 k bits (o ++ [1]) bits (bits.length : Int) ((i + 1 : Nat) : Int) = some (r, true) ∧ r.length ≤ 40 ∧ (∀ x ∈ r, 1 ≤ x) ∧ r.sum = (bits.length : Int) := by
      intro k hk
      refine ih k (o ++ [1]) (i + 1) (by omega) hk (by simp; omega) (by omega) (by simp) ?_ ?_
      · intro x hx
        rcases List.mem_append.1 hx with hx | hx
        · exact hm x hx
        · simp at hx; omega
      · simp [hs]
    have e0 : (o ++ [0]).set o.length (wrap64 (0 + 1)) = o ++ [1] := by rw [set_last, wr (by omega) (by omega)]; rfl
    have q1 : (0 : Int) ≤ (o.length : Int) := by omega
    have q2 : (o.length : Int) < ((o ++ [0]).length : Int) := by simp; omega
    simp only [spec_RunsOf.l0, impl_RunsOf.l0, if_pos g1, if_pos g2]
    by_cases hi : i = 0
    · subst hi
      have z1 : ¬ ((0 : Nat) : Int) > 0 := by omega
      have z2 : ((0 : Nat) : Int) = 0 := rfl
      simp only [if_neg z1, if_pos z2, if_pos g3, Option.bind_some, len_last o 0 (by omega), if_pos q1, if_pos q2, Int.toNat_natCast, rd_last, e0, wr_succ 0 (by omega)]
      exact newRun k (by omega)
    · have z1 : (i : Int) > 0 := by omega
      have z2 : ¬ (i : Int) = 0 := by omega
      have e1 : wrap64 ((i : Int) - 1) = ((i - 1 : Nat) : Int) := by rw [wr (by omega) (by omega)]; omega
      have z3 : (0 : Int) ≤ ((i - 1 : Nat) : Int) := by omega
      have z4 : ((i - 1 : Nat) : Int) < (bits.length : Int) := by omega
      simp only [if_pos z1, if_neg z2, e1, if_pos z3, if_pos z4, rdb_at bits (i - 1) (by omega), rdb_at bits i (by omega)]
      obtain ⟨l, x, rfl⟩ : ∃ l x, o = l ++ [x] := by
        rcases List.eq_nil_or_concat o with h | ⟨l, x, h⟩
        · exact absurd h (h1 (by omega))
        · exact ⟨l, x, by rw [h, List.concat_eq_append]⟩
      have hl : (l ++ [x]).length = l.length + 1 := by simp
      have q3 : (0 : Int) ≤ (l.length : Int) := by omega
      have q4 : (l.length : Int) < ((l ++ [x]).length : Int) := by omega
      have hx1 := hm x (by simp)
      have hx2 : x ≤ 40 := by
        have hp : ∀ (m : List Int), (∀ y ∈ m, 1 ≤ y) → 0 ≤ m.sum := by
          intro m
          induction m with
          | nil => intro _; simp
          | cons y m ihm =>
            intro hy
            have h1 := hy y (by simp)
            have h2 := ihm (fun z hz => hy z (by simp [hz]))
            simp only [List.sum_cons]; omega
        have := hp l (fun y hy => hm y (by simp [hy]))
        simp at hs
        omega
      cases hb' : (bits[i - 1] == bits[i])
      · have hn' : (bits[i - 1] != bits[i]) = true := by simp [bne, hb']
        simp only [Bool.false_eq_true, if_false, if_pos g3, hn', if_true, Option.bind_some, len_last (l ++ [x]) 0 (by omega), if_pos q1, if_pos q2, Int.toNat_natCast, rd_last, e0, wr_succ i (by omega)]
        exact newRun k (by omega)
      · have hn' : (bits[i - 1] != bits[i]) = false := by simp [bne, hb']
        have e2 : wrap64 (x + 1) = x + 1 := wr (by omega) (by omega)
        simp only [if_true, hn', Bool.false_eq_true, if_false, len_last l x (by omega), if_pos q3, if_pos q4, Int.toNat_natCast, rd_last, set_last, e2, wr_succ i (by omega)]
        refine ih k (l ++ [x + 1]) (i + 1) (by omega) (by omega) (by simp; omega) (by omega) (by simp) ?_ ?_
        · intro y hy
          rcases List.mem_append.1 hy with hy | hy
          · exact hm y (by simp [hy])
          · simp at hy; omega
        · simp at hs ⊢
          omega
theorem runs_of (bits : List Bool) : ∃ r : List Int × Bool, r.1.length ≤ 40 ∧ (∀ k, 100 < k → spec_RunsOf.f k bits = some r ∧ impl_RunsOf.f k bits = some r) ∧ (r.2 = true → (∀ x ∈ r.1, 1 ≤ x) ∧ r.1.sum = (bits.length : Int)) := by
  by_cases h : bits.length ≤ 40
  · have e1 : (bits.length : Int) ≤ 40 := by omega
    have e2 : ¬ (bits.length : Int) > 40 := by omega
    obtain ⟨r, r1, r2, r3, r4⟩ := runs_loop bits h bits.length 41 [] 0 (by omega) (by omega) (by simp) (fun _ => rfl) (by omega) (by simp) rfl
    refine ⟨(r, true), r3, fun k hk => ⟨?_, ?_⟩, fun _ => r4⟩
    · unfold spec_RunsOf.f spec_l3Long.f
      simp only [Option.bind_some, e1, decide_true, if_true]
      exact at_rounds (fun k => spec_RunsOf.mono_l k _ _ _ _ _) (by omega : 41 ≤ k) r1
    · unfold impl_RunsOf.f
      rw [if_neg e2]
      exact at_rounds (fun k => impl_RunsOf.mono_l k _ _ _ _ _) (by omega : 41 ≤ k) r2
  · have e1 : ¬ (bits.length : Int) ≤ 40 := by omega
    have e2 : (bits.length : Int) > 40 := by omega
    refine ⟨([], false), by simp, fun k hk => ⟨?_, ?_⟩, fun h => by cases h⟩
    · simp [spec_RunsOf.f, spec_l3Long.f, e1]
    · unfold impl_RunsOf.f
      rw [if_pos e2]

/-! streamlaw: what FnStreams says beside the reference -/
theorem stream_makes (taps : List Int) (f : List Bool) (n : Int) (h : (streamV taps f n).2 = true) (hm : n ≥ (f.length : Int)) : makesV taps (f.length : Int) (streamV taps f n).1 = (true, true) ∧ ((streamV taps f n).1.length : Int) = n := by
  unfold streamV at *
  by_cases c : goodTaps taps = true ∧ (f.length : Int) = topTap taps ∧ 0 ≤ n ∧ n ≤ 40
  · rw [if_pos c] at *
    have hl := strV_len taps (n - (f.length : Int)).toNat f
    have et : (strV taps (n - (f.length : Int)).toNat f).take n.toNat = strV taps (n - (f.length : Int)).toNat f := List.take_of_length_le (by omega)
    simp only [et]
    refine ⟨?_, by omega⟩
    unfold makesV
    have c2 : goodTaps taps = true ∧ topTap taps ≤ (f.length : Int) ∧ (f.length : Int) ≤ 40 ∧ ((strV taps (n - (f.length : Int)).toNat f).length : Int) ≤ 40 := ⟨c.1, by omega, by omega, by omega⟩
    rw [if_pos c2]
    have hg : genB (sAt (strV taps (n - (f.length : Int)).toNat f)) taps (((strV taps (n - (f.length : Int)).toNat f).length : Int) - (f.length : Int)).toNat (f.length : Int) = true := by
      rw [genB_iff]
      intro j h1 h2
      obtain ⟨j', rfl⟩ := Int.eq_ofNat_of_zero_le (show 0 ≤ j by omega)
      have := strV_rec taps (fun t ht => (goodTaps_mem c.1 t ht).1) (n - (f.length : Int)).toNat f j' (by omega) (by omega)
      rw [Dis_eq, this]
      simp
    rw [hg]
  · rw [if_neg c] at h; cases h
theorem strV_add (taps : List Int) (a b : Nat) : ∀ o : List Bool, strV taps (a + b) o = strV taps b (strV taps a o) := by
  induction a with
  | zero => intro o; rw [Nat.zero_add]; rfl
  | succ a ih =>
    intro o
    rw [show a + 1 + b = (a + b) + 1 by omega]
    simp only [strV]
    exact ih _
theorem per_of (S bits : List Bool) (p : Int) (d : Nat) : ∀ i : Nat, perV S bits d i = (p, true) → ∃ q : Nat, p = (q : Int) ∧ i ≤ q ∧ q < i + d ∧ win S bits.length q = bits := by
  induction d with
  | zero => intro i h; simp [perV] at h
  | succ d ih =>
    intro i h
    simp only [perV] at h
    by_cases e : win S bits.length i = bits
    · rw [if_pos e] at h
      simp only [Prod.mk.injEq, and_true] at h
      exact ⟨i, h.symm, by omega, by omega, e⟩
    · rw [if_neg e] at h
      obtain ⟨q, h1, h2, h3, h4⟩ := ih (i + 1) h
      exact ⟨q, h1, by omega, by omega, h4⟩
theorem period_le (taps : List Int) (g : List Bool) : 0 ≤ (periodV taps g).1 ∧ (periodV taps g).1 ≤ 6000 := by
  unfold periodV
  have hN := periodN_eq
  by_cases c : goodTaps taps = true ∧ (g.length : Int) = topTap taps ∧ g.any id = true
  · rw [if_pos c]
    have key : ∀ d i : Nat, i + d ≤ 6000 → 0 ≤ (perV (strV taps periodN g) g d i).1 ∧ (perV (strV taps periodN g) g d i).1 ≤ 6000 := by
      intro d
      induction d with
      | zero => intro i _; simp [perV]
      | succ d ih =>
        intro i hi
        simp only [perV]
        by_cases e : win (strV taps periodN g) g.length i = g
        · rw [if_pos e]; simp only; omega
        · rw [if_neg e]; exact ih (i + 1) (by omega)
    exact key periodN 1 (by omega)
  · rw [if_neg c]; simp
theorem period_stream (taps : List Int) (g : List Bool) (p : Int) (h : periodV taps g = (p, true)) (h40 : p + (g.length : Int) ≤ 40) : ∃ x, streamV taps g (p + (g.length : Int)) = (x, true) ∧ 0 ≤ p ∧ p ≤ (x.length : Int) ∧ x.drop p.toNat = g := by
  unfold periodV at h
  have hN := periodN_eq
  by_cases c : goodTaps taps = true ∧ (g.length : Int) = topTap taps ∧ g.any id = true
  · rw [if_pos c] at h
    obtain ⟨q, rfl, h1, h2, h3⟩ := per_of _ _ _ _ _ h
    have hl := strV_len taps q g
    have c2 : goodTaps taps = true ∧ (g.length : Int) = topTap taps ∧ 0 ≤ (q : Int) + (g.length : Int) ∧ (q : Int) + (g.length : Int) ≤ 40 := ⟨c.1, c.2.1, by omega, by omega⟩
    refine ⟨strV taps q g, ?_, by omega, by omega, ?_⟩
    · unfold streamV
      rw [if_pos c2, show ((q : Int) + (g.length : Int) - (g.length : Int)).toNat = q by omega, List.take_of_length_le (by omega)]
    · obtain ⟨e, he⟩ := strV_pre taps (periodN - q) (strV taps q g)
      rw [show periodN = q + (periodN - q) by omega, strV_add, he] at h3
      unfold win at h3
      rw [List.drop_append_of_le_length (by omega), List.take_append_of_le_length (by simp; omega), List.take_of_length_le (by simp; omega)] at h3
      rw [Int.toNat_natCast]
      exact h3
  · rw [if_neg c] at h; cases h
def bitV (v : Int) (m : Nat) : Bool := Go.bits .and .u8 (shr .u8 v (7 - (m : Int))) 1 == 1
def partV (v : Int) : Nat → Int
  | 0 => 0
  | m + 1 => if bitV v m = true then Go.bits .or .u8 (partV v m) (mask m) else partV v m
theorem byte_all : (List.range 256).all (fun v => partV ((v : Nat) : Int) 8 == ((v : Nat) : Int)) = true := by decide +kernel
theorem byte_back (v : Int) (h0 : 0 ≤ v) (h1 : v ≤ 255) : partV v 8 = v := by
  obtain ⟨n, rfl⟩ := Int.eq_ofNat_of_zero_le h0
  exact beq_iff_eq.1 (List.all_eq_true.1 byte_all n (List.mem_range.2 (by omega)))
theorem part_back (s : ByteArray) (j : Nat) (hj : j < s.size) (m : Nat) : m ≤ 8 → part (bitsB s (8 * s.size)) j m = partV (bt s (j : Int)) m := by
  induction m with
  | zero => intro _; rfl
  | succ m ih =>
    intro hm
    have hi : 8 * j + m < 8 * s.size := by omega
    have e : (bitsB s (8 * s.size)).getD (8 * j + m) false = bitV (bt s (j : Int)) m := by
      unfold bitsB
      rw [List.getD_eq_getElem?_getD, List.getElem?_map, List.getElem?_range hi]
      simp only [Option.map_some, Option.getD_some]
      unfold bitB bitV
      rw [show (8 * j + m) / 8 = j by omega, show (8 * j + m) % 8 = m by omega]
    simp only [part, partV]
    rw [e, ih (by omega)]
theorem str_all (s : ByteArray) : strOfNums ((List.range s.size).map (fun j : Nat => bt s (j : Int))) = s := by
  apply ByteArray.ext
  apply Array.ext
  · show (((List.range s.size).map (fun j : Nat => bt s (j : Int))).map fun n => UInt8.ofNat n.toNat).toArray.size = s.data.size
    simp
  · intro i h1 h2
    have hi : i < s.size := h2
    have h3 : i < (strOfNums ((List.range s.size).map (fun j : Nat => bt s (j : Int)))).data.toList.length := by simpa using h1
    have e1 : (strOfNums ((List.range s.size).map (fun j : Nat => bt s (j : Int)))).data[i]'h1 = (strOfNums ((List.range s.size).map (fun j : Nat => bt s (j : Int)))).data.toList[i]'h3 := by rw [Array.getElem_toList]
    rw [e1]
    simp only [strOfNums_data, List.getElem_map, List.getElem_range]
    unfold bt
    rw [dif_pos (by simpa using hi)]
    simp
    rfl
theorem text_back (s : ByteArray) (h : s.size ≤ 5) : textR (bitsB s (8 * s.size)) = (s, true) := by
  have hl := bitsB_len s (8 * s.size)
  unfold textR
  rw [if_pos ⟨by omega, by omega⟩, hl, show 8 * s.size / 8 = s.size by omega]
  have e : (List.range s.size).map (fun j => part (bitsB s (8 * s.size)) j 8) = (List.range s.size).map (fun j : Nat => bt s (j : Int)) := by
    apply List.map_congr_left
    intro j hj
    have := bt_range s (j : Int)
    rw [part_back s j (List.mem_range.1 hj) 8 (by omega), byte_back _ this.1 this.2]
  rw [e, str_all]
theorem samebools_loop (a : List Bool) (hn : a.length ≤ 35184372088832) (d : Nat) : ∀ (k : Nat) (i : Nat), i + d = a.length → d < k → laws_sameBools.l0 k a a (a.length : Int) (i : Int) = some true := by
  induction d with
  | zero =>
    intro k i hd hk
    obtain ⟨k, rfl⟩ : ∃ m, k = m + 1 := ⟨k - 1, by omega⟩
    simp only [laws_sameBools.l0]
    rw [if_neg (by omega)]
  | succ d ih =>
    intro k i hd hk
    obtain ⟨k, rfl⟩ : ∃ m, k = m + 1 := ⟨k - 1, by omega⟩
    have h1 : (i : Int) < (a.length : Int) := by omega
    have h2 : (0 : Int) ≤ (i : Int) := by omega
    simp only [laws_sameBools.l0]
    rw [if_pos h1, if_pos h2, if_pos h1, if_pos h1, bne_self_eq_false, if_neg Bool.false_ne_true, wr_succ i (by omega)]
    exact ih k (i + 1) (by omega) (by omega)
theorem samebools {k : Nat} (a : List Bool) (hn : a.length ≤ 35184372088832) (hk : a.length < k) : laws_sameBools.f k a a = some true := by
  unfold laws_sameBools.f
  rw [if_pos rfl]
  exact samebools_loop a hn a.length k 0 (by omega) hk
theorem sameints_loop (a : List Int) (hn : a.length ≤ 35184372088832) (d : Nat) : ∀ (k : Nat) (i : Nat), i + d = a.length → d < k → laws_sameInts.l0 k a a (a.length : Int) (i : Int) = some true := by
  induction d with
  | zero =>
    intro k i hd hk
    obtain ⟨k, rfl⟩ : ∃ m, k = m + 1 := ⟨k - 1, by omega⟩
    simp only [laws_sameInts.l0]
    rw [if_neg (by omega)]
  | succ d ih =>
    intro k i hd hk
    obtain ⟨k, rfl⟩ : ∃ m, k = m + 1 := ⟨k - 1, by omega⟩
    have h1 : (i : Int) < (a.length : Int) := by omega
    have h2 : (0 : Int) ≤ (i : Int) := by omega
    simp only [laws_sameInts.l0]
    rw [if_pos h1, if_pos h2, if_pos h1, if_pos h1, if_pos trivial, wr_succ i (by omega)]
    exact ih k (i + 1) (by omega) (by omega)
theorem sameints {k : Nat} (a : List Int) (hn : a.length ≤ 35184372088832) (hk : a.length < k) : laws_sameInts.f k a a = some true := by
  unfold laws_sameInts.f
  rw [if_pos rfl]
  exact sameints_loop a hn a.length k 0 (by omega) hk
theorem sum_ge (l : List Int) (h : ∀ x ∈ l, 1 ≤ x) : (l.length : Int) ≤ l.sum := by
  induction l with
  | nil => simp
  | cons x l ih =>
    have h1 := h x (by simp)
    have h2 := ih (fun y hy => h y (by simp [hy]))
    simp only [List.sum_cons, List.length_cons]
    omega
theorem sum_law (bits : List Bool) (r : List Int) (hb : bits.length ≤ 1000) (h : ∀ x ∈ r, 1 ≤ x) (hs : r.sum = (bits.length : Int)) (d : Nat) : ∀ (k : Nat) (c : Int) (i : Nat), i + d = r.length → d < k → 0 ≤ c → c + (r.drop i).sum = (bits.length : Int) →
    laws_FnStreams.l0 k bits c r (r.length : Int) (i : Int) = some true := by
  have hlen := sum_ge r h
  induction d with
  | zero =>
    intro k c i hd hk h0 hc
    obtain ⟨k, rfl⟩ : ∃ m, k = m + 1 := ⟨k - 1, by omega⟩
    rw [List.drop_of_length_le (by omega)] at hc
    simp only [laws_FnStreams.l0]
    rw [if_neg (by omega)]
    simp at hc
    simp [hc]
  | succ d ih =>
    intro k c i hd hk h0 hc
    obtain ⟨k, rfl⟩ : ∃ m, k = m + 1 := ⟨k - 1, by omega⟩
    have hi : i < r.length := by omega
    have h1 : (i : Int) < (r.length : Int) := by omega
    have h2 : (0 : Int) ≤ (i : Int) := by omega
    have hx := h r[i] (List.getElem_mem hi)
    rw [List.drop_eq_getElem_cons hi, List.sum_cons] at hc
    have hr := sum_ge (r.drop (i + 1)) (fun x hx => h x (List.mem_of_mem_drop hx))
    simp only [laws_FnStreams.l0]
    rw [if_pos h1, if_pos h2, if_pos h1, rd_at r i hi, if_neg (by omega), wr (x := c + r[i]) (by omega) (by omega), wr_succ i (by omega)]
    exact ih k _ (i + 1) (by omega) (by omega) (by omega) (by omega)

/-! draws: what is drawn from bytes -/
theorem u64_range (n : Int) : 0 ≤ IntKind.u64.wrap n ∧ IntKind.u64.wrap n < 18446744073709551616 := by
  simp [IntKind.wrap, IntKind.bits, IntKind.signed]; omega
theorem wraps_u64_24 (n : Int) (h₀ : 0 ≤ n) (h₁ : n < 2 ^ 24) : IntKind.u64.wrap n = n := by
  simp [IntKind.wrap, IntKind.bits, IntKind.signed]; omega
theorem and255 (z : Int) : 0 ≤ wrap64 (Go.bits .and .u64 (IntKind.u64.wrap z / 1099511627776) 255) ∧ wrap64 (Go.bits .and .u64 (IntKind.u64.wrap z / 1099511627776) 255) ≤ 255 := by
  obtain ⟨h1, h2⟩ := u64_range z
  generalize IntKind.u64.wrap z = y at *
  have e : Go.bits .and .u64 (y / 1099511627776) 255 = (y / 1099511627776) % 256 := bits_mask .u64 24 (by decide) wraps_u64_24 8 (by decide) _ (by omega) (by omega)
  rw [e, wr (by omega) (by omega)]
  omega
def Byt (s : List Int) : Prop := ∀ x ∈ s, 0 ≤ x ∧ x ≤ 255
theorem Byt.at {s : List Int} (h : Byt s) (a : Int) : 0 ≤ rd s a ∧ rd s a ≤ 255 := by
  unfold rd
  rw [List.getD_eq_getElem?_getD]
  by_cases e : a.toNat < s.length
  · rw [List.getElem?_eq_getElem e]; exact h _ (List.getElem_mem e)
  · rw [List.getElem?_eq_none (by omega)]; simp
theorem next_ok {s : List Int} (hs : Byt s) (a z : Int) (h0 : 0 ≤ a) (h1 : a ≤ 1000000000000) : ∃ r z', spec_l1Cur_next.f s a z = some (r, a + 1, z') ∧ 0 ≤ r ∧ r ≤ 255 := by
  have hb := hs.at a
  unfold spec_l1Cur_next.f
  rw [wr (x := a + 1) (by omega) (by omega)]
  by_cases h : a < (s.length : Int)
  · rw [if_pos h, if_pos h0]
    by_cases h' : a + 1 ≤ (s.length : Int)
    · rw [if_pos h']
      exact ⟨_, _, rfl, by rw [wr (by omega) (by omega)]; omega, by rw [wr (by omega) (by omega)]; omega⟩
    · rw [if_neg h']
      exact ⟨_, _, rfl, (and255 _).1, (and255 _).2⟩
  · rw [if_neg h]
    by_cases h' : a + 1 ≤ (s.length : Int)
    · rw [if_pos h']
      exact ⟨_, _, rfl, by omega, by omega⟩
    · rw [if_neg h']
      exact ⟨_, _, rfl, (and255 _).1, (and255 _).2⟩
theorem pick_ok {s : List Int} (hs : Byt s) (a z n : Int) (h0 : 0 ≤ a) (h1 : a ≤ 100000000000) (hn : n ≤ 1000000) : ∃ r a' z', spec_l1Cur_pick.f s a z n = some (r, a', z') ∧ 0 ≤ r ∧ (1 ≤ n → r < n) ∧ r ≤ 1000000 ∧ a ≤ a' ∧ a' ≤ a + 2 := by
  unfold spec_l1Cur_pick.f
  by_cases h : n ≤ 1
  · rw [if_pos h]
    exact ⟨0, a, z, rfl, by omega, by omega, by omega, by omega, by omega⟩
  · rw [if_neg h]
    obtain ⟨r, z1, e1, r0, r1⟩ := next_ok hs a z h0 (by omega)
    rw [e1, Option.bind_some]
    have hz : ¬ n = 0 := by omega
    by_cases h' : n > 200
    · obtain ⟨q, z2, e2, q0, q1⟩ := next_ok hs (a + 1) z1 (by omega) (by omega)
      rw [if_pos h', e2, Option.bind_some, if_neg hz]
      have e : wrap64 (wrap64 (r * 256) + q) = r * 256 + q := by rw [wr (x := r * 256) (by omega) (by omega), wr (by omega) (by omega)]
      rw [e, Int.tmod_eq_emod_of_nonneg (by omega)]
      have b0 := Int.emod_nonneg (r * 256 + q) hz
      have b1 := Int.emod_lt_of_pos (r * 256 + q) (show 0 < n by omega)
      exact ⟨_, _, _, rfl, b0, fun _ => b1, by omega, (by show a ≤ a + 1 + 1; omega), (by show a + 1 + 1 ≤ a + 2; omega)⟩
    · rw [if_neg h', if_neg hz, Int.tmod_eq_emod_of_nonneg r0]
      have b0 := Int.emod_nonneg r hz
      have b1 := Int.emod_lt_of_pos r (show 0 < n by omega)
      exact ⟨_, _, _, rfl, b0, fun _ => b1, by omega, (by show a ≤ a + 1; omega), (by show a + 1 ≤ a + 2; omega)⟩
theorem byt_of {s : List Int} (hs : ∀ x ∈ s, (Lit.int .u8 x).wf = true) : Byt s := by
  intro x hx
  have := hs x hx
  simp [Lit.wf, IntKind.min, IntKind.max, IntKind.bits, IntKind.signed] at this
  omega

theorem among_ok {s : List Int} (hs : Byt s) (a z : Int) (l : List Int) (h0 : 0 ≤ a) (h1 : a ≤ 100000000000) (hl : 1 ≤ l.length) (hl' : l.length ≤ 1000) : ∃ r a' z', spec_l1Cur_among.f s a z l = some (r, a', z') ∧ r ∈ l ∧ a ≤ a' ∧ a' ≤ a + 2 := by
  unfold spec_l1Cur_among.f
  obtain ⟨r, a', z', e, r0, r1, _, r2, r3⟩ := pick_ok hs a z (l.length : Int) h0 h1 (by omega)
  have r4 := r1 (by omega)
  rw [e, Option.bind_some, if_pos r0, if_pos r4]
  refine ⟨_, _, _, rfl, ?_, r2, r3⟩
  unfold rd
  rw [List.getD_eq_getElem?_getD, List.getElem?_eq_getElem (by omega)]
  exact List.getElem_mem _

/-! drawstream: what FnStreams draws -/
theorem one_ok {s : List Int} (hs : Byt s) (a z n : Int) (h0 : 0 ≤ a) (h1 : a ≤ 100000000000) (hn : n ≤ 1000000) : ∃ r a' z', spec_l1Cur_one.f s a z n = some (r, a', z') ∧ a ≤ a' ∧ a' ≤ a + 2 := by
  unfold spec_l1Cur_one.f
  obtain ⟨r, a', z', e, _, _, _, u, v⟩ := pick_ok hs a z n h0 h1 hn
  rw [e, Option.bind_some]
  exact ⟨_, a', z', rfl, u, v⟩
theorem bits_loop_ok {s : List Int} (hs : Byt s) (n : Int) (hn : n ≤ 100) (d : Nat) : ∀ (k : Nat) (o : List Bool) (i a z : Int), (n - i).toNat = d → 0 ≤ i → i ≤ 200 → o.length + d ≤ 300 → d < k → 0 ≤ a → a + 2 * d ≤ 100000 → ∃ r a' z', spec_l1Cur_bits.l0 k n o i s a z = some (r, a', z') ∧ r.length = o.length + d ∧ a ≤ a' ∧ a' ≤ a + 2 * d := by
  induction d with
  | zero =>
    intro k o i a z hd hi hi' ho hk h0 h1
    obtain ⟨k, rfl⟩ : ∃ m, k = m + 1 := ⟨k - 1, by omega⟩
    simp only [spec_l1Cur_bits.l0]
    rw [if_neg (by omega)]
    exact ⟨o, a, z, rfl, by omega, by omega, by omega⟩
  | succ d ih =>
    intro k o i a z hd hi hi' ho hk h0 h1
    obtain ⟨k, rfl⟩ : ∃ m, k = m + 1 := ⟨k - 1, by omega⟩
    obtain ⟨r1, a1, z1, e1, u1, v1⟩ := one_ok hs a z 2 h0 (by omega) (by omega)
    simp only [spec_l1Cur_bits.l0]
    rw [if_pos (by omega), e1, Option.bind_some, if_pos (by omega), wr (x := i + 1) (by omega) (by omega)]
    obtain ⟨r, a', z', e, l, u, v⟩ := ih k (o ++ [r1]) (i + 1) a1 z1 (by omega) (by omega) (by omega) (by simp; omega) (by omega) (by omega) (by omega)
    refine ⟨r, a', z', e, ?_, by omega, by omega⟩
    rw [l]; simp; omega
theorem bits_ok {s : List Int} (hs : Byt s) (n : Int) (hn : n ≤ 100) {k : Nat} (hk : 200 < k) (a z : Int) (h0 : 0 ≤ a) (h1 : a ≤ 10000) : ∃ r a' z', spec_l1Cur_bits.f k s a z n = some (r, a', z') ∧ r.length ≤ 100 ∧ a ≤ a' ∧ a' ≤ a + 200 := by
  unfold spec_l1Cur_bits.f
  obtain ⟨r, a', z', e, l, u, v⟩ := bits_loop_ok hs n hn (n - 0).toNat k [] 0 a z rfl (by omega) (by omega) (by simp; omega) (by omega) h0 (by omega)
  exact ⟨r, a', z', e, by rw [l]; simp; omega, u, by omega⟩
theorem put_ok (l : List Int) (x : Int) (hn : l.length ≤ 1000) (d : Nat) : ∀ (k : Nat) (i : Nat), i + d = l.length → d < k → ∃ r, spec_l1Put.l0 k l x (i : Int) = some r ∧ (∀ v ∈ r, v ∈ l ∨ v = x) ∧ r.length ≤ l.length + 1 := by
  have fin : ∀ i : Nat, (∀ v ∈ [] ++ l.take i ++ [x] ++ l.drop i, v ∈ l ∨ v = x) ∧ ([] ++ l.take i ++ [x] ++ l.drop i).length ≤ l.length + 1 := fun i => by
    constructor
    · intro v hv
      simp only [List.nil_append, List.mem_append, List.mem_singleton] at hv
      rcases hv with (h | h) | h
      · exact .inl (List.mem_of_mem_take h)
      · exact .inr h
      · exact .inl (List.mem_of_mem_drop h)
    · simp; omega
  induction d with
  | zero =>
    intro k i hd hk
    obtain ⟨k, rfl⟩ : ∃ m, k = m + 1 := ⟨k - 1, by omega⟩
    have g1 : ¬ (i : Int) < (l.length : Int) := by omega
    have g2 : (0 : Int) ≤ (i : Int) := by omega
    have g3 : (i : Int) ≤ (l.length : Int) := by omega
    have c1 : ([] : List Int).length + (l.take i).length < 17592186044416 := by simp; omega
    have c2 : (([] : List Int) ++ l.take i).length < 17592186044416 := by simp; omega
    have c3 : (([] : List Int) ++ l.take i ++ [x]).length + (l.drop i).length < 17592186044416 := by simp; omega
    simp only [spec_l1Put.l0]
    rw [if_neg g1, Option.bind_some, if_pos g2, if_pos g3, Int.toNat_natCast, Option.bind_some, if_pos c1, Option.bind_some, if_pos c2, Option.bind_some, Option.bind_some, if_pos c3]
    exact ⟨_, rfl, (fin i).1, (fin i).2⟩
  | succ d ih =>
    intro k i hd hk
    obtain ⟨k, rfl⟩ : ∃ m, k = m + 1 := ⟨k - 1, by omega⟩
    have g1 : (i : Int) < (l.length : Int) := by omega
    have g2 : (0 : Int) ≤ (i : Int) := by omega
    have g3 : (i : Int) ≤ (l.length : Int) := by omega
    have c1 : ([] : List Int).length + (l.take i).length < 17592186044416 := by simp; omega
    have c2 : (([] : List Int) ++ l.take i).length < 17592186044416 := by simp; omega
    have c3 : (([] : List Int) ++ l.take i ++ [x]).length + (l.drop i).length < 17592186044416 := by simp; omega
    simp only [spec_l1Put.l0]
    rw [if_pos g1, if_pos g2]
    by_cases e1 : rd l (i : Int) < x
    · rw [if_pos e1, wr_succ i (by omega)]
      exact ih k (i + 1) (by omega) (by omega)
    · rw [if_neg e1]
      by_cases e2 : rd l (i : Int) = x
      · rw [if_pos e2]
        exact ⟨l, rfl, fun v hv => .inl hv, by omega⟩
      · rw [if_neg e2, Option.bind_some, if_pos g3, Int.toNat_natCast, Option.bind_some, if_pos c1, Option.bind_some, if_pos c2, Option.bind_some, Option.bind_some, if_pos c3]
        exact ⟨_, rfl, (fin i).1, (fin i).2⟩
def Tp (l : List Int) : Prop := ∀ v ∈ l, 0 ≤ v ∧ v ≤ 13
theorem put_tp {k : Nat} (l : List Int) (x : Int) (hl : Tp l) (hx : 0 ≤ x ∧ x ≤ 13) (hn : l.length ≤ 100) (hk : 200 < k) : ∃ r, spec_l1Put.f k l x = some r ∧ Tp r ∧ r.length ≤ l.length + 1 := by
  unfold spec_l1Put.f
  obtain ⟨r, e, m, n⟩ := put_ok l x (by omega) l.length k 0 (by omega) (by omega)
  rw [show ((0 : Nat) : Int) = 0 from rfl] at e
  refine ⟨r, e, fun v hv => ?_, n⟩
  rcases m v hv with h | h
  · exact hl v h
  · rw [h]; exact hx
theorem taps_loop_ok {s : List Int} (hs : Byt s) (n : Nat) : ∀ (k : Nat) (l : List Int) (a z : Int), n + 300 < k → Tp l → l.length + n ≤ 10 → 0 ≤ a → a + 2 * n ≤ 1000 → ∃ r a' z', spec_l1Cur_taps.l0 k l (n : Int) s a z = some (r, a', z') ∧ Tp r ∧ r.length ≤ 20 ∧ 0 ≤ a' ∧ a' ≤ 1100 := by
  induction n with
  | zero =>
    intro k l a z hk hl hn h0 h1
    obtain ⟨k, rfl⟩ : ∃ m, k = m + 1 := ⟨k - 1, by omega⟩
    have h : ¬ ((0 : Nat) : Int) > 0 := by omega
    obtain ⟨r1, a1, z1, e1, u1, v1⟩ := one_ok hs a z 12 h0 (by omega) (by omega)
    simp only [spec_l1Cur_taps.l0]
    rw [if_neg h, e1, Option.bind_some]
    cases r1 with
    | false => rw [if_neg Bool.false_ne_true]; exact ⟨l, a1, z1, rfl, hl, by omega, by omega, by omega⟩
    | true =>
      obtain ⟨r2, a2, z2, e2, m2, u2, v2⟩ := among_ok hs a1 z1 ([12, 13, 0] : List Int) (by omega) (by omega) (by simp) (by simp)
      have hr : 0 ≤ r2 ∧ r2 ≤ 13 := by simp at m2; omega
      obtain ⟨r, e, t, n⟩ := put_tp (k := k) l r2 hl hr (by omega) (by omega)
      rw [if_pos rfl, e2, Option.bind_some, e, Option.bind_some]
      exact ⟨r, a2, z2, rfl, t, by omega, by omega, by omega⟩
  | succ n ih =>
    intro k l a z hk hl hn h0 h1
    obtain ⟨k, rfl⟩ : ∃ m, k = m + 1 := ⟨k - 1, by omega⟩
    have h : ((n + 1 : Nat) : Int) > 0 := by omega
    obtain ⟨r1, a1, z1, e1, p0, p1, _, u1, v1⟩ := pick_ok hs a z 7 h0 (by omega) (by omega)
    have p2 := p1 (by omega)
    have hw : wrap64 (1 + r1) = 1 + r1 := wr (by omega) (by omega)
    obtain ⟨r, e, t, n'⟩ := put_tp (k := k) l (1 + r1) hl (by omega) (by omega) (by omega)
    simp only [spec_l1Cur_taps.l0]
    rw [if_pos h, e1, Option.bind_some, hw, e, Option.bind_some, wr (x := ((n + 1 : Nat) : Int) - 1) (by omega) (by omega), show ((n + 1 : Nat) : Int) - 1 = (n : Int) by omega]
    exact ih k r a1 z1 (by omega) t (by omega) (by omega) (by omega)
theorem taps_ok {s : List Int} (hs : Byt s) {k : Nat} (hk : 1000 < k) : ∃ r a' z', spec_l1Cur_taps.f k s 0 0 = some (r, a', z') ∧ Tp r ∧ r.length ≤ 20 ∧ 0 ≤ a' ∧ a' ≤ 1100 := by
  unfold spec_l1Cur_taps.f
  obtain ⟨r1, a1, z1, e1, p0, p1, _, u1, v1⟩ := pick_ok hs 0 0 4 (by omega) (by omega) (by omega)
  have p2 := p1 (by omega)
  obtain ⟨n, rfl⟩ := Int.eq_ofNat_of_zero_le p0
  rw [e1, Option.bind_some]
  exact taps_loop_ok hs n k [] a1 z1 (by omega) (fun v hv => by cases hv) (by simp; omega) (by omega) (by omega)
theorem top_tp {l : List Int} (h : Tp l) : 0 ≤ topTap l ∧ topTap l ≤ 13 := by
  unfold topTap
  rcases List.eq_nil_or_concat l with rfl | ⟨l', x, rfl⟩
  · simp
  · have := h x (by simp)
    simpa using this
theorem drawstream_ok {s : List Int} (hs : Byt s) {k : Nat} (hk : 1000 < k) : ∃ (t : List Int) (f : List Bool) (n : Int), spec_DrawStreamOf.f k s = some (t, f, n) ∧ t.length ≤ 20 ∧ f.length ≤ 100 := by
  unfold spec_DrawStreamOf.f
  obtain ⟨t, a1, z1, e1, ht, l1, u1, v1⟩ := taps_ok hs hk
  have hT := top_tp ht
  obtain ⟨r2, a2, z2, e2, p0, p1, _, u2, v2⟩ := pick_ok hs a1 z1 9 u1 (by omega) (by omega)
  have p2 := p1 (by omega)
  have hw : wrap64 (topTap t + wrap64 (Int.tdiv r2 8)) = topTap t + r2 / 8 := by
    rw [Int.tdiv_eq_ediv_of_nonneg p0, wr (x := r2 / 8) (by omega) (by omega), wr (by omega) (by omega)]
  obtain ⟨f, a3, z3, e3, l3, u3, v3⟩ := bits_ok hs (topTap t + r2 / 8) (by omega) (k := k) (by omega) a2 z2 (by omega) (by omega)
  obtain ⟨n, a4, z4, e4, _, _, _⟩ := among_ok hs a3 z3 ([(-1), 0, 5, 20, 40, 41] : List Int) (by omega) (by omega) (by simp) (by simp)
  rw [e1, Option.bind_some, spec_top t (by omega), Option.bind_some, e2, Option.bind_some, hw, e3, Option.bind_some, e4, Option.bind_some]
  exact ⟨t, f, n, rfl, l1, l3⟩
theorem drawperiod_ok {s : List Int} (hs : Byt s) {k : Nat} (hk : 1000 < k) : ∃ (t : List Int) (f : List Bool), spec_DrawPeriodOf.f k s = some (t, f) ∧ t.length ≤ 20 ∧ f.length ≤ 100 := by
  unfold spec_DrawPeriodOf.f
  obtain ⟨t, f, n, e, l1, l2⟩ := drawstream_ok hs hk
  rw [e, Option.bind_some]
  exact ⟨t, f, rfl, l1, l2⟩
theorem of_ok {s : List Int} (hs : Byt s) (a z : Int) (l : List ByteArray) (h0 : 0 ≤ a) (h1 : a ≤ 100000000000) (hl : 1 ≤ l.length) (hl' : l.length ≤ 1000) : ∃ r a' z', spec_l1Cur_of.f s a z l = some (r, a', z') ∧ a ≤ a' ∧ a' ≤ a + 2 := by
  unfold spec_l1Cur_of.f
  obtain ⟨r, a', z', e, r0, r1, _, r2, r3⟩ := pick_ok hs a z (l.length : Int) h0 h1 (by omega)
  have r4 := r1 (by omega)
  rw [e, Option.bind_some, if_pos r0, if_pos r4]
  exact ⟨_, a', z', rfl, r2, r3⟩
theorem drawbits_ok {s : List Int} (hs : Byt s) : ∃ r, spec_DrawBitsOf.f s = some r := by
  unfold spec_DrawBitsOf.f
  generalize hL : ([(⟨#[]⟩ : ByteArray), (⟨#[97]⟩ : ByteArray), (⟨#[128, 1]⟩ : ByteArray), (⟨#[102, 105, 118, 101, 46]⟩ : ByteArray), (⟨#[115, 105, 120, 115, 105, 120]⟩ : ByteArray)] : List ByteArray) = L
  have hl : L.length = 5 := by rw [← hL]; rfl
  obtain ⟨r3, a3, z3, e3, _, _⟩ := of_ok hs 0 0 L (by omega) (by omega) (by omega) (by omega)
  rw [e3, Option.bind_some]
  exact ⟨_, rfl⟩
theorem drawtextb_ok {s : List Int} (hs : Byt s) {k : Nat} (hk : 1000 < k) : ∃ r : List Bool, spec_DrawTextOf.f k s = some r ∧ r.length ≤ 100 := by
  unfold spec_DrawTextOf.f
  obtain ⟨n, a1, z1, e1, m1, u1, v1⟩ := among_ok hs 0 0 ([0, 7, 8, 16, 40, 48] : List Int) (by omega) (by omega) (by simp) (by simp)
  have hn : n ≤ 48 := by simp at m1; omega
  obtain ⟨f, a3, z3, e3, l3, u3, v3⟩ := bits_ok hs n (by omega) (k := k) (by omega) a1 z1 (by omega) (by omega)
  rw [e1, Option.bind_some, e3, Option.bind_some]
  exact ⟨f, rfl, l3⟩
theorem drawruns_ok {s : List Int} (hs : Byt s) {k : Nat} (hk : 1000 < k) : ∃ r : List Bool, spec_DrawRunsOf.f k s = some r ∧ r.length ≤ 100 := by
  unfold spec_DrawRunsOf.f
  obtain ⟨n, a1, z1, e1, m1, u1, v1⟩ := among_ok hs 0 0 ([0, 1, 10, 30, 40, 41] : List Int) (by omega) (by omega) (by simp) (by simp)
  have hn : n ≤ 48 := by simp at m1; omega
  obtain ⟨f, a3, z3, e3, l3, u3, v3⟩ := bits_ok hs n (by omega) (k := k) (by omega) a1 z1 (by omega) (by omega)
  rw [e1, Option.bind_some, e3, Option.bind_some]
  exact ⟨f, rfl, l3⟩
theorem drawunlike_ok {s : List Int} (hs : Byt s) {k : Nat} (hk : 1000 < k) : ∃ a b : List Bool, spec_DrawUnlikeBits.f k s = some (a, b) ∧ a.length ≤ 100 ∧ b.length ≤ 100 := by
  unfold spec_DrawUnlikeBits.f
  obtain ⟨r1, a1, z1, e1, p0, p1, _, u1, v1⟩ := pick_ok hs 0 0 20 (by omega) (by omega) (by omega)
  have p2 := p1 (by omega)
  obtain ⟨f, a3, z3, e3, l3, u3, v3⟩ := bits_ok hs r1 (by omega) (k := k) (by omega) a1 z1 (by omega) (by omega)
  obtain ⟨r2, a2, z2, e2, q0, q1, _, u2, v2⟩ := pick_ok hs a3 z3 9 (by omega) (by omega) (by omega)
  have q2 := q1 (by omega)
  have hw : wrap64 (r1 + wrap64 (Int.tdiv r2 8)) = r1 + r2 / 8 := by
    rw [Int.tdiv_eq_ediv_of_nonneg q0, wr (x := r2 / 8) (by omega) (by omega), wr (by omega) (by omega)]
  obtain ⟨g, a4, z4, e4, l4, u4, v4⟩ := bits_ok hs (r1 + r2 / 8) (by omega) (k := k) (by omega) a2 z2 (by omega) (by omega)
  rw [e1, Option.bind_some, e3, Option.bind_some, e2, Option.bind_some, hw, e4, Option.bind_some]
  exact ⟨f, g, rfl, l3, l4⟩

theorem streams_j8 (k : Nat) (hk : 1000 < k) (f : List Bool) (hf : f.length ≤ 100) (r : List Int × Bool) (h : r.2 = true → (∀ x ∈ r.1, 1 ≤ x) ∧ r.1.sum = (f.length : Int)) : laws_FnStreams.j8 (k + 1) f r.1 r.2 false = some true := by
  simp only [laws_FnStreams.j8, Bool.false_eq_true, if_false]
  by_cases c : r.2 = true
  · rw [if_pos c]
    obtain ⟨h1, h2⟩ := h c
    have hg := sum_ge r.1 h1
    have := sum_law f r.1 (by omega) h1 h2 r.1.length k 0 0 (by omega) (by omega) (by omega) (by simpa using h2)
    exact this
  · rw [if_neg c]
theorem streams_j7 {more : List Int} (hb : Byt more) (k : Nat) (hk : 1000 < k) : laws_FnStreams.j7 (k + 2) more = some true := by
  simp only [laws_FnStreams.j7]
  obtain ⟨a, b, e1, l1, l2⟩ := drawunlike_ok hb (k := k + 1) (by omega)
  obtain ⟨u1, u2⟩ := unlike_bits (k := k + 1) (by omega) a b
  obtain ⟨f, e2, l3⟩ := drawruns_ok hb (k := k + 1) (by omega)
  obtain ⟨r, rl, rr, rs⟩ := runs_of f
  obtain ⟨r1, r2⟩ := rr (k + 1) (by omega)
  have ul := unlikeR_len a b
  have hj := streams_j8 k hk f l3 r rs
  rw [e1, Option.bind_some, u2, Option.bind_some, u1, Option.bind_some, e2, Option.bind_some, r2, Option.bind_some, r1, Option.bind_some, bne_self_eq_false, if_neg Bool.false_ne_true, samebools (k := k + 1) (unlikeR a b).1 (by omega) (by omega), Option.bind_some, if_pos rfl, bne_self_eq_false, if_neg Bool.false_ne_true, sameints (k := k + 1) r.1 (by omega) (by omega), Option.bind_some]
  exact hj
theorem streams_j6 {more : List Int} (hb : Byt more) (k : Nat) (hk : 1000 < k) (s : ByteArray) : laws_FnStreams.j6 (k + 3) more s (bitsR s).1 (bitsR s).2 false = some true := by
  simp only [laws_FnStreams.j6, Bool.false_eq_true, if_false]
  have hj := streams_j7 hb k hk
  by_cases h : s.size ≤ 5
  · have e : bitsR s = (bitsB s (8 * s.size), true) := by unfold bitsR; rw [if_pos h]
    rw [e]
    simp only [if_true]
    rw [(text_of (k := k + 2) (by omega) (bitsB s (8 * s.size))).2, Option.bind_some, text_back s h, if_pos rfl, if_pos rfl]
    exact hj
  · have e : bitsR s = ([], false) := by unfold bitsR; rw [if_neg h]
    rw [e]
    simp only [Bool.false_eq_true, if_false]
    exact hj
theorem streams_j5 {more : List Int} (hb : Byt more) (k : Nat) (hk : 1000 < k) : laws_FnStreams.j5 (k + 4) more = some true := by
  simp only [laws_FnStreams.j5]
  obtain ⟨s, e1⟩ := drawbits_ok hb
  obtain ⟨f, e2, l2⟩ := drawtextb_ok hb (k := k + 3) (by omega)
  obtain ⟨b1, b2⟩ := bits_of (k := k + 3) (by omega) s
  obtain ⟨t1, t2⟩ := text_of (k := k + 3) (by omega) f
  have bl := bitsR_len s
  have hj := streams_j6 hb k hk s
  rw [e1, Option.bind_some, b2, Option.bind_some, b1, Option.bind_some, e2, Option.bind_some, t2, Option.bind_some, t1, Option.bind_some, bne_self_eq_false, if_neg Bool.false_ne_true, samebools (k := k + 3) (bitsR s).1 (by omega) (by omega), Option.bind_some, if_pos rfl, bne_self_eq_false, if_neg Bool.false_ne_true, bne_self_eq_false]
  exact hj
theorem streams_j3 {more : List Int} (hb : Byt more) (k : Nat) (hk : 400000 < k) (t : List Int) (g : List Bool) (lt : t.length ≤ 20) (lg : g.length ≤ 100) : laws_FnStreams.j3 (k + 6) more t g (periodV t g).1 (periodV t g).2 false = some true := by
  simp only [laws_FnStreams.j3, Bool.false_eq_true, if_false]
  have hj := streams_j5 hb k (by omega)
  obtain ⟨p0, p1⟩ := period_le t g
  have hw : wrap64 ((periodV t g).1 + (g.length : Int)) = (periodV t g).1 + (g.length : Int) := wr (by omega) (by omega)
  by_cases c : (periodV t g).2 = true
  · rw [if_pos c]
    simp only [laws_FnStreams.j4]
    rw [hw]
    by_cases c4 : (periodV t g).1 + (g.length : Int) ≤ 40
    · obtain ⟨x, hx1, hx2, hx3, hx4⟩ := period_stream t g (periodV t g).1 (by rw [← c]) c4
      rw [if_pos (by simpa using c4), (stream_of (k := k + 4) t g _ (by omega) (by omega)).2, Option.bind_some, hx1, if_pos rfl, if_pos hx2, if_pos hx3, hx4, samebools (k := k + 4) g (by omega) (by omega), Option.bind_some, if_pos rfl]
      exact hj
    · rw [if_neg (by simpa using c4)]
      exact hj
  · rw [if_neg c]
    simp only [laws_FnStreams.j4, Bool.false_eq_true, if_false]
    exact hj
theorem streams_j2 {more : List Int} (hb : Byt more) (k : Nat) (hk : 400000 < k) : laws_FnStreams.j2 (k + 7) more = some true := by
  simp only [laws_FnStreams.j2]
  obtain ⟨t, g, e, l1, l2⟩ := drawperiod_ok hb (k := k + 6) (by omega)
  obtain ⟨p1, p2⟩ := period_of (k := k + 6) t g (by omega) (by omega) (by omega)
  have hj := streams_j3 hb k hk t g l1 l2
  rw [e, Option.bind_some, p2, Option.bind_some, p1, Option.bind_some, bne_self_eq_false, if_neg Bool.false_ne_true, bne_self_eq_false]
  exact hj
theorem FnStreams : ∀ (l0 : List Int) (l1 : List Int), l0.length ≤ maxLen → (∀ n ∈ l0, (Lit.int .u8 n).wf = true) → l1.length ≤ maxLen → (∀ n ∈ l1, (Lit.int .u8 n).wf = true) → ∃ k, laws_FnStreams.f k l0 l1 = some true := by
  intro code more _ hc _ hm
  refine rounds_of 500000 fun k hk => ?_
  obtain ⟨k, rfl⟩ : ∃ j, k = j + 9 := ⟨k - 9, by omega⟩
  unfold laws_FnStreams.f
  by_cases h : wrap64 ((code.length : Int) + (more.length : Int)) > 1048576
  · rw [if_pos h]
  · rw [if_neg h]
    have hb1 : Byt code := byt_of hc
    have hb2 : Byt more := byt_of hm
    have hj := streams_j2 hb2 k (by omega)
    obtain ⟨t, f, n, e, l1, l2⟩ := drawstream_ok hb1 (k := k + 9) (by omega)
    obtain ⟨s1, s2⟩ := stream_of (k := k + 9) t f n (by omega) (by omega)
    have sl := streamV_len t f n
    rw [e, Option.bind_some, s2, Option.bind_some, s1, Option.bind_some, bne_self_eq_false, if_neg Bool.false_ne_true, samebools (k := k + 9) (streamV t f n).1 (by omega) (by omega), Option.bind_some]
    simp only [laws_FnStreams.j0, Bool.not_true, Bool.false_eq_true, if_false]
    by_cases c : (streamV t f n).2 = true
    · rw [if_pos c]
      simp only [laws_FnStreams.j1]
      by_cases hm : n ≥ (f.length : Int)
      · obtain ⟨m1, m2⟩ := stream_makes t f n c hm
        rw [if_pos (by simpa using hm), makes_i (k := k + 7) t (f.length : Int) (streamV t f n).1 (by omega) (by omega), Option.bind_some, m1, if_pos rfl, if_pos rfl, if_pos m2]
        exact hj
      · rw [if_neg (by simpa using hm)]
        exact hj
    · rw [if_neg c]
      simp only [laws_FnStreams.j1, Bool.false_eq_true, if_false]
      exact hj

end Go.Proofs.Yticchbgbbnpgoaa.Pure
