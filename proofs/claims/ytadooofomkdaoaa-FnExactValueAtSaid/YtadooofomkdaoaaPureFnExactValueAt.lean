/- ValueAt answers as the reference does and leaves its argument alone, for every list and number (the plain half). -/
import Derived.Test.YtadooofomkdaoaaPFnExactValueAtx
set_option linter.unusedVariables false
set_option linter.unusedSimpArgs false
namespace Go.Proofs.Ytadooofomkdaoaa.Pure
open Go.RowKit Go.Proofs.Ytadooofomkdaoaa.PFnExactValueAt Go.Proofs.YtadooofomkdaoaaW.PrintWords Go.Proofs.YtadooofomkdaoaaW.PrintLast Go.Proofs.YtadooofomkdaoaaW.PrintMore

/-! base: sums of int that stay in range; `tmod` and `tdiv` of what is not negative -/
theorem wr {x : Int} (h1 : -9223372036854775808 ≤ x) (h2 : x ≤ 9223372036854775807) : wrap64 x = x := by
  unfold wrap64; omega
theorem tmod_pos {a b : Int} (h : 0 ≤ a) : Int.tmod a b = a % b := Int.tmod_eq_emod_of_nonneg h
theorem tdiv_pos {a b : Int} (h : 0 ≤ a) : Int.tdiv a b = a / b := Int.tdiv_eq_ediv_of_nonneg h
theorem rounds_of {α : Type} {g : Nat → Option α} {r : α} (N : Nat) (h : ∀ k, N < k → g k = some r) : ∃ k, g k = some r := ⟨N + 1, h _ (Nat.lt_succ_self N)⟩

/-! lists: reading a list at a place; a copy of a list; a list is like itself -/
theorem rd_at (xs : List Int) (i : Nat) (h : i < xs.length) : rd xs (i : Int) = xs[i] := by
  simp [rd, List.getD_eq_getElem?_getD, h]
theorem wr_succ (i : Nat) (h : i < 9000000000000000000) : wrap64 ((i : Int) + 1) = ((i + 1 : Nat) : Int) := by
  rw [wr (by omega) (by omega)]; omega
theorem same_list {α : Type} {xs ys : List α} (hl : ys.length = xs.length) (h : ∀ j, j < xs.length → ys[j]? = xs[j]?) : ys = xs := by
  apply List.ext_getElem?
  intro j
  by_cases hj : j < xs.length
  · exact h j hj
  · rw [List.getElem?_eq_none (by omega), List.getElem?_eq_none (by omega)]
theorem set_upto {α : Type} {xs ys : List α} {i : Nat} (hl : ys.length = xs.length) (hi : i < xs.length) (h : ∀ j, j < i → ys[j]? = xs[j]?) :
    ∀ j, j < i + 1 → (ys.set i xs[i])[j]? = xs[j]? := by
  intro j hj
  rw [List.getElem?_set]
  by_cases e : i = j
  · subst e; rw [if_pos rfl, if_pos (by omega), List.getElem?_eq_getElem hi]
  · rw [if_neg e]; exact h j (by omega)

/-! toints: laws.toIntS copies -/
theorem toIntS_loop (xs : List Int) (hn : xs.length ≤ 35184372088832) (d : Nat) : ∀ (k : Nat) (ys : List Int) (i : Nat), ys.length = xs.length → (∀ j, j < i → ys[j]? = xs[j]?) → i + d = xs.length → d < k →
    laws_toIntS.l0 k xs ys (i : Int) = some xs := by
  induction d with
  | zero =>
    intro k ys i hl h hd hk
    obtain ⟨k, rfl⟩ : ∃ m, k = m + 1 := ⟨k - 1, by omega⟩
    simp only [laws_toIntS.l0]
    rw [if_neg (by omega), same_list hl (fun j hj => h j (by omega))]
  | succ d ih =>
    intro k ys i hl h hd hk
    obtain ⟨k, rfl⟩ : ∃ m, k = m + 1 := ⟨k - 1, by omega⟩
    have hi : i < xs.length := by omega
    have h1 : (i : Int) < (xs.length : Int) := by omega
    have h2 : (0 : Int) ≤ (i : Int) := by omega
    have h3 : (i : Int) < (ys.length : Int) := by omega
    simp only [laws_toIntS.l0]
    rw [if_pos h1, if_pos h2, if_pos h3, rd_at xs i hi, wr_succ i (by omega), Int.toNat_natCast]
    exact ih k _ (i + 1) (by simpa using hl) (set_upto hl hi h) (by omega) (by omega)
theorem toIntS_eq {k : Nat} (xs : List Int) (hn : xs.length ≤ 35184372088832) (hk : xs.length < k) : laws_toIntS.f k xs = some xs := by
  unfold laws_toIntS.f
  rw [if_pos (by omega), if_pos (by omega)]
  exact toIntS_loop xs hn xs.length k _ 0 (by simp) (fun j hj => by omega) (by omega) hk

/-! eqints: laws.eqIntS says that a list is itself -/
theorem eqIntS_loop (xs : List Int) (hn : xs.length ≤ 35184372088832) (d : Nat) : ∀ (k : Nat) (i : Nat), i + d = xs.length → d < k → laws_eqIntS.l0 k xs xs (i : Int) = some true := by
  induction d with
  | zero =>
    intro k i hd hk
    obtain ⟨k, rfl⟩ : ∃ m, k = m + 1 := ⟨k - 1, by omega⟩
    simp only [laws_eqIntS.l0]
    rw [if_neg (by omega)]
  | succ d ih =>
    intro k i hd hk
    obtain ⟨k, rfl⟩ : ∃ m, k = m + 1 := ⟨k - 1, by omega⟩
    have h1 : (i : Int) < (xs.length : Int) := by omega
    have h2 : (0 : Int) ≤ (i : Int) := by omega
    simp only [laws_eqIntS.l0, if_pos h1, if_pos h2, if_true, wr_succ i (by omega)]
    exact ih k (i + 1) (by omega) (by omega)
theorem eqIntS_self {k : Nat} (xs : List Int) (hn : xs.length ≤ 35184372088832) (hk : xs.length < k) : laws_eqIntS.f k xs xs = some true := by
  unfold laws_eqIntS.f
  rw [if_pos rfl]
  exact eqIntS_loop xs hn xs.length k 0 (by omega) hk

/-! in: between two numbers -/
theorem within_eq (a b c : Int) : impl_within.f a b c = spec_l1In.f a b c := rfl
theorem in_some (a b c : Int) : spec_l1In.f a b c = some (decide (b ≤ a) && decide (a ≤ c)) := by
  unfold spec_l1In.f
  by_cases h : a ≥ b
  · rw [if_pos h]; have : b ≤ a := h; simp [this]
  · rw [if_neg h]; have : ¬ b ≤ a := h; simp [this]

/-! inall: all numbers of a list between two numbers -/
def inAll (lo hi : Int) (xs : List Int) : Bool := xs.all fun x => decide (lo ≤ x) && decide (x ≤ hi)
theorem inAll_mem {lo hi : Int} {xs : List Int} (h : inAll lo hi xs = true) : ∀ x ∈ xs, lo ≤ x ∧ x ≤ hi := by
  intro x hx
  have := List.all_eq_true.1 h x hx
  simpa using this

/-! sall: all numbers of a list between two numbers, in the reference -/
theorem all_loop (lo up : Int) (xs : List Int) (hn : xs.length ≤ 35184372088832) (d : Nat) : ∀ (k : Nat) (i : Nat), i + d = xs.length → d < k →
    spec_l1All.l0 k lo up xs (xs.length : Int) (i : Int) = some (inAll lo up (xs.drop i)) := by
  induction d with
  | zero =>
    intro k i hd hk
    obtain ⟨k, rfl⟩ : ∃ m, k = m + 1 := ⟨k - 1, by omega⟩
    simp only [spec_l1All.l0]
    rw [if_neg (by omega), List.drop_of_length_le (by omega)]; rfl
  | succ d ih =>
    intro k i hd hk
    obtain ⟨k, rfl⟩ : ∃ m, k = m + 1 := ⟨k - 1, by omega⟩
    have hi : i < xs.length := by omega
    have h1 : (i : Int) < (xs.length : Int) := by omega
    have h2 : (0 : Int) ≤ (i : Int) := by omega
    simp only [spec_l1All.l0]
    rw [if_pos h1, if_pos h2, if_pos h1, rd_at xs i hi, in_some, wr_succ i (by omega), ih k (i + 1) (by omega) (by omega), List.drop_eq_getElem_cons hi]
    simp only [Option.bind_some, inAll, List.all_cons]
    generalize (decide (lo ≤ xs[i]) && decide (xs[i] ≤ up)) = b
    cases b <;> simp
theorem spec_all {k : Nat} (lo hi : Int) (xs : List Int) (hn : xs.length ≤ 35184372088832) (hk : xs.length < k) : spec_l1All.f k xs lo hi = some (inAll lo hi xs) := by
  unfold spec_l1All.f
  have := all_loop lo hi xs hn xs.length k 0 (by omega) hk
  simpa using this

/-! iall: all numbers of a list between two numbers, in the program -/
theorem iall_loop (lo up : Int) (xs : List Int) (hn : xs.length ≤ 35184372088832) (d : Nat) : ∀ (k : Nat) (i : Nat), i + d = xs.length → d < k →
    impl_allWithin.l0 k lo up xs (xs.length : Int) (i : Int) = some (inAll lo up (xs.drop i)) := by
  induction d with
  | zero =>
    intro k i hd hk
    obtain ⟨k, rfl⟩ : ∃ m, k = m + 1 := ⟨k - 1, by omega⟩
    simp only [impl_allWithin.l0]
    rw [if_neg (by omega), List.drop_of_length_le (by omega)]; rfl
  | succ d ih =>
    intro k i hd hk
    obtain ⟨k, rfl⟩ : ∃ m, k = m + 1 := ⟨k - 1, by omega⟩
    have hi : i < xs.length := by omega
    have h1 : (i : Int) < (xs.length : Int) := by omega
    have h2 : (0 : Int) ≤ (i : Int) := by omega
    simp only [impl_allWithin.l0]
    rw [if_pos h1, if_pos h2, if_pos h1, rd_at xs i hi, within_eq, in_some, wr_succ i (by omega), ih k (i + 1) (by omega) (by omega), List.drop_eq_getElem_cons hi]
    simp only [Option.bind_some, inAll, List.all_cons]
    generalize (decide (lo ≤ xs[i]) && decide (xs[i] ≤ up)) = b
    cases b <;> simp
theorem impl_all {k : Nat} (lo hi : Int) (xs : List Int) (hn : xs.length ≤ 35184372088832) (hk : xs.length < k) : impl_allWithin.f k xs lo hi = some (inAll lo hi xs) := by
  unfold impl_allWithin.f
  have := iall_loop lo hi xs hn xs.length k 0 (by omega) hk
  simpa using this


/-! poly: polynomials, in both texts -/
def goodPoly (p : List Int) : Bool := decide (1 ≤ (p.length : Int)) && decide ((p.length : Int) ≤ 8) && inAll 0 1498 p
theorem spec_poly {k : Nat} (p : List Int) (hn : p.length ≤ 35184372088832) (hk : p.length < k) : spec_l5Poly.f k p = some (goodPoly p) := by
  unfold spec_l5Poly.f goodPoly
  rw [in_some, spec_all 0 1498 p hn hk]
  cases (decide (1 ≤ (p.length : Int)) && decide ((p.length : Int) ≤ 8)) <;> simp
theorem impl_poly {k : Nat} (p : List Int) (hn : p.length ≤ 35184372088832) (hk : p.length < k) : impl_isPoly.f k p = some (goodPoly p) := by
  unfold impl_isPoly.f goodPoly
  rw [within_eq, in_some, impl_all 0 1498 p hn hk]
  cases (decide (1 ≤ (p.length : Int)) && decide ((p.length : Int) ≤ 8)) <;> simp
theorem goodPoly_len {p : List Int} (h : goodPoly p = true) : p.length ≤ 8 := by
  simp [goodPoly] at h; omega

/-! field: a value modulo 1499, in both texts -/
def fld (x : Int) : Bool := decide (0 ≤ x) && decide (x ≤ 1498)
theorem spec_fld (x : Int) : spec_l5Field.f x = some (fld x) := by simp [spec_l5Field.f, in_some, fld]
theorem impl_fld (x : Int) : impl_isValue.f x = some (fld x) := by simp [impl_isValue.f, within_eq, in_some, fld]
theorem fld_range {x : Int} (h : fld x = true) : 0 ≤ x ∧ x ≤ 1498 := by simpa [fld] using h

/-! value: the value of a polynomial, in both texts -/
theorem value_l0_eq (k : Nat) : ∀ p x a i, impl_value.l0 k p x a i = spec_l5Value.l0 k p x a i := by
  induction k with
  | zero => intros; rfl
  | succ k ih => intro p x a i; simp only [impl_value.l0, spec_l5Value.l0, ih]
theorem value_eq (k : Nat) (p : List Int) (x : Int) : impl_value.f k p x = spec_l5Value.f k p x := by simp only [impl_value.f, spec_l5Value.f, value_l0_eq]
theorem value_ends (p : List Int) (x : Int) (hp : p.length ≤ 35184372088832) (i : Nat) : ∀ (k : Nat) (a : Int), i ≤ p.length → i < k → ∃ r, spec_l5Value.l0 k p x a ((i : Int) - 1) = some r := by
  induction i with
  | zero =>
    intro k a hi hk
    obtain ⟨k, rfl⟩ : ∃ m, k = m + 1 := ⟨k - 1, by omega⟩
    have hz : ¬ ((0 : Nat) : Int) - 1 ≥ 0 := by omega
    simp only [spec_l5Value.l0, if_neg hz]
    exact ⟨_, rfl⟩
  | succ i ih =>
    intro k a hi hk
    obtain ⟨k, rfl⟩ : ∃ m, k = m + 1 := ⟨k - 1, by omega⟩
    have e : ((i + 1 : Nat) : Int) - 1 = (i : Int) := by omega
    have h1 : (i : Int) ≥ 0 := by omega
    have h2 : (0 : Int) ≤ (i : Int) := by omega
    have h3 : (i : Int) < (p.length : Int) := by omega
    rw [e]
    simp only [spec_l5Value.l0, if_pos h1, if_pos h2, if_pos h3, wr (x := (i : Int) - 1) (by omega) (by omega)]
    exact ih k _ (by omega) (by omega)
theorem value_some {k : Nat} (p : List Int) (x : Int) (hp : p.length ≤ 8) (hk : 8 < k) : ∃ r, spec_l5Value.f k p x = some r := by
  unfold spec_l5Value.f
  rw [wr (by omega) (by omega)]
  exact value_ends p x (by omega) p.length k 0 (by omega) (by omega)

theorem value_at {k : Nat} (p : List Int) (x : Int) (hn : p.length ≤ 35184372088832) (hk : p.length + 10 < k) : ∃ r, spec_ValueAt.f k p x = some r ∧ impl_ValueAt.f k p x = some r := by
  unfold spec_ValueAt.f impl_ValueAt.f
  rw [spec_poly p hn (by omega), impl_poly p hn (by omega), spec_fld, impl_fld]
  by_cases h : goodPoly p = true
  · by_cases h' : fld x = true
    · obtain ⟨r, hr⟩ := value_some (k := k) p x (goodPoly_len h) (by omega)
      exact ⟨(r, true), by simp [h, h', hr], by simp [h, h', hr, value_eq]⟩
    · exact ⟨(0, false), by simp [h, h'], by simp [h, h']⟩
  · exact ⟨(0, false), by simp [h], by simp [h]⟩
theorem FnExactValueAt : laws_FnExactValueAt.Pure := by
  intro p x _ hn _ _
  refine rounds_of (p.length + 20) fun k hk => ?_
  obtain ⟨k, rfl⟩ : ∃ j, k = j + 1 := ⟨k - 1, by omega⟩
  unfold laws_FnExactValueAt.f
  by_cases h : (p.length : Int) > 1048576
  · rw [if_pos h]
  · rw [if_neg h]
    obtain ⟨r, h1, h2⟩ := value_at (k := k + 1) p x (by omega) (by omega)
    simp only [toIntS_eq (k := k + 1) p (by omega) (by omega), h1, h2, Option.bind_some, bne_self_eq_false]
    simp [laws_FnExactValueAt.j0, toIntS_eq (k := k) p (by omega) (by omega), eqIntS_self (k := k) p (by omega) (by omega)]

end Go.Proofs.Ytadooofomkdaoaa.Pure
