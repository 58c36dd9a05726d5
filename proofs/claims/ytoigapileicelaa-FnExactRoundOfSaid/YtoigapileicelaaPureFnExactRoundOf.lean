/- RoundOf answers as the reference does, for all numbers (the plain half). -/
import Derived.Test.YtoigapileicelaaPFnExactRoundOfx
set_option linter.unusedVariables false
set_option linter.unusedSimpArgs false
namespace Go.Proofs.Ytoigapileicelaa.Pure
open Go.RowKit Go.Proofs.Ytoigapileicelaa.PFnExactRoundOf Go.Proofs.YtoigapileicelaaW.PrintWords Go.Proofs.YtoigapileicelaaW.PrintLast

/-! base: sums of int that stay in range; `tmod` and `tdiv` of what is not negative -/
theorem wr {x : Int} (h1 : -9223372036854775808 ≤ x) (h2 : x ≤ 9223372036854775807) : wrap64 x = x := by
  unfold wrap64; omega
theorem tmod_pos {a b : Int} (h : 0 ≤ a) : Int.tmod a b = a % b := Int.tmod_eq_emod_of_nonneg h
theorem tdiv_pos {a b : Int} (h : 0 ≤ a) : Int.tdiv a b = a / b := Int.tdiv_eq_ediv_of_nonneg h
theorem rounds_of {α : Type} {g : Nat → Option α} {r : α} (N : Nat) (h : ∀ k, N < k → g k = some r) : ∃ k, g k = some r := ⟨N + 1, h _ (Nat.lt_succ_self N)⟩

/-! in: between two numbers -/
theorem within_eq (a b c : Int) : impl_within.f a b c = spec_l1In.f a b c := rfl
theorem in_some (a b c : Int) : spec_l1In.f a b c = some (decide (b ≤ a) && decide (a ≤ c)) := by
  unfold spec_l1In.f
  by_cases h : a ≥ b
  · rw [if_pos h]; have : b ≤ a := h; simp [this]
  · rw [if_neg h]; have : ¬ b ≤ a := h; simp [this]

theorem round_of (a b : Int) : ∃ r, spec_RoundOf.f a b = some r ∧ impl_RoundOf.f a b = some r := by
  unfold spec_RoundOf.f impl_RoundOf.f spec_l4Key.f impl_isKey.f
  simp only [within_eq, in_some, Option.bind_some]
  cases (decide (0 ≤ a) && decide (a ≤ 65535)) <;> cases (decide (0 ≤ b) && decide (b ≤ 255)) <;> simp [spec_l4Round.f, impl_round.f]
theorem FnExactRoundOf : laws_FnExactRoundOf.Pure := by
  intro a b _ _
  obtain ⟨r, h1, h2⟩ := round_of a b
  simp [laws_FnExactRoundOf.f, h1, h2]

end Go.Proofs.Ytoigapileicelaa.Pure
