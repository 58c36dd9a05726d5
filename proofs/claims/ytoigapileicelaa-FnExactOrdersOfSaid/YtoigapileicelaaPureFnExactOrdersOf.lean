/- OrdersOf answers as the reference does, for every number (the plain half). -/
import Derived.Test.YtoigapileicelaaPFnExactOrdersOfx
set_option linter.unusedVariables false
set_option linter.unusedSimpArgs false
namespace Go.Proofs.Ytoigapileicelaa.Pure
open Go.RowKit Go.Proofs.Ytoigapileicelaa.PFnExactOrdersOf Go.Proofs.YtoigapileicelaaW.PrintWords Go.Proofs.YtoigapileicelaaW.PrintLast

/-! base: sums of int that stay in range; `tmod` and `tdiv` of what is not negative -/
theorem wr {x : Int} (h1 : -9223372036854775808 ≤ x) (h2 : x ≤ 9223372036854775807) : wrap64 x = x := by
  unfold wrap64; omega
theorem tmod_pos {a b : Int} (h : 0 ≤ a) : Int.tmod a b = a % b := Int.tmod_eq_emod_of_nonneg h
theorem tdiv_pos {a b : Int} (h : 0 ≤ a) : Int.tdiv a b = a / b := Int.tdiv_eq_ediv_of_nonneg h
theorem rounds_of {α : Type} {g : Nat → Option α} {r : α} (N : Nat) (h : ∀ k, N < k → g k = some r) : ∃ k, g k = some r := ⟨N + 1, h _ (Nat.lt_succ_self N)⟩

/-! in: between two numbers -/
theorem within_eq (a b c : Int) : impl_within.f a b c = spec_l1In.f a b c := rfl
theorem in_some (a b c : Int) : spec_l1In.f a b c = some (decide (b ≤ a) && decide (a ≤ c)) := by
  unfold spec_l1In.f
  by_cases h : a ≥ b
  · rw [if_pos h]; have : b ≤ a := h; simp [this]
  · rw [if_neg h]; have : ¬ b ≤ a := h; simp [this]

/-! orders: how many orders there are, in both texts -/
theorem orders_l0_eq (k : Nat) : ∀ a b c, impl_orders.l0 k a b c = spec_l4Orders.l0 k a b c := by
  induction k with
  | zero => intros; rfl
  | succ k ih => intro a b c; simp only [impl_orders.l0, spec_l4Orders.l0, ih]
theorem orders_eq (k : Nat) (a : Int) : impl_orders.f k a = spec_l4Orders.f k a := by simp only [impl_orders.f, spec_l4Orders.f, orders_l0_eq]
theorem orders_ends (many : Int) (hm : many ≤ 100) (d : Nat) : ∀ (k : Nat) (x i : Int), 0 ≤ i → many + 1 - i ≤ d → d < k → ∃ r, spec_l4Orders.l0 k many x i = some r := by
  induction d with
  | zero =>
    intro k x i h0 hd hk
    obtain ⟨k, rfl⟩ : ∃ m, k = m + 1 := ⟨k - 1, by omega⟩
    simp only [spec_l4Orders.l0]
    rw [if_neg (by omega)]
    exact ⟨_, rfl⟩
  | succ d ih =>
    intro k x i h0 hd hk
    obtain ⟨k, rfl⟩ : ∃ m, k = m + 1 := ⟨k - 1, by omega⟩
    simp only [spec_l4Orders.l0]
    by_cases h : i ≤ many
    · rw [if_pos h, wr (x := i + 1) (by omega) (by omega)]
      exact ih k _ (i + 1) (by omega) (by omega) (by omega)
    · rw [if_neg h]; exact ⟨_, rfl⟩

theorem FnExactOrdersOf : laws_FnExactOrdersOf.Pure := by
  intro many _
  refine rounds_of 200 fun k hk => ?_
  have h : ∃ r, spec_OrdersOf.f k many = some r := by
    unfold spec_OrdersOf.f
    rw [in_some]
    by_cases h : 0 ≤ many ∧ many ≤ 9
    · obtain ⟨r, hr⟩ := orders_ends many (by omega) 100 k 1 2 (by omega) (by omega) (by omega)
      exact ⟨(r, true), by simp [h, spec_l4Orders.f, hr]⟩
    · have hd : (decide (0 ≤ many) && decide (many ≤ 9)) = false := by simpa using h
      exact ⟨(0, false), by simp [hd]⟩
  obtain ⟨r, h1⟩ := h
  have h2 : impl_OrdersOf.f k many = some r := by
    rw [← h1]
    simp only [impl_OrdersOf.f, spec_OrdersOf.f, within_eq, orders_eq]
  simp [laws_FnExactOrdersOf.f, h1, h2]

end Go.Proofs.Ytoigapileicelaa.Pure
