/- TimesSealed answers as the reference does, for all sealed numbers (the plain half). -/
import Derived.Test.YtaapgdaignfifaaQFnExactTimesSealedx
set_option linter.unusedVariables false
set_option linter.unusedSimpArgs false
namespace Go.Proofs.Ytaapgdaignfifaa.Pure
open Go.RowKit Go.Proofs.Ytaapgdaignfifaa.QFnExactTimesSealed Go.Proofs.YtaapgdaignfifaaW.PrintWords Go.Proofs.YtaapgdaignfifaaW.PrintLast Go.Proofs.YtaapgdaignfifaaW.PrintMore

/-! base: sums of int that stay in range; `tmod` and `tdiv` of what is not negative -/
theorem wr {x : Int} (h1 : -9223372036854775808 ≤ x) (h2 : x ≤ 9223372036854775807) : wrap64 x = x := by
  unfold wrap64; omega
theorem tmod_pos {a b : Int} (h : 0 ≤ a) : Int.tmod a b = a % b := Int.tmod_eq_emod_of_nonneg h
theorem tdiv_pos {a b : Int} (h : 0 ≤ a) : Int.tdiv a b = a / b := Int.tdiv_eq_ediv_of_nonneg h
theorem rounds_of {α : Type} {g : Nat → Option α} {r : α} (N : Nat) (h : ∀ k, N < k → g k = some r) : ∃ k, g k = some r := ⟨N + 1, h _ (Nat.lt_succ_self N)⟩

/-! ins: between two numbers, in the reference -/
theorem in_some (a b c : Int) : spec_l1In.f a b c = some (decide (b ≤ a) && decide (a ≤ c)) := by
  unfold spec_l1In.f
  by_cases h : a ≥ b
  · rw [if_pos h]; have : b ≤ a := h; simp [this]
  · rw [if_neg h]; have : ¬ b ≤ a := h; simp [this]

/-! in: between two numbers -/
theorem within_eq (a b c : Int) : impl_within.f a b c = spec_l1In.f a b c := rfl

/-! power: both texts' powers modulo 2999 -/
def pw (a b : Int) : Int := ((a.toNat ^ b.toNat % 2999 : Nat) : Int)
theorem pw_lo (a b : Int) : 0 ≤ pw a b := by unfold pw; omega
theorem pw_hi (a b : Int) : pw a b ≤ 2998 := by unfold pw; omega
theorem pow_step (c m q : Nat) : (c * m % 2999) * (m * m % 2999) ^ q % 2999 = c * m ^ (2 * q + 1) % 2999 := by
  rw [Nat.mul_mod, Nat.mod_mod, ← Nat.pow_mod, ← Nat.mul_mod]
  congr 1
  rw [Nat.pow_succ, Nat.pow_mul, Nat.pow_two, Nat.mul_assoc, Nat.mul_comm m]
theorem pow_step0 (c m q : Nat) : c * (m * m % 2999) ^ q % 2999 = c * m ^ (2 * q) % 2999 := by
  rw [Nat.mul_mod, ← Nat.pow_mod, ← Nat.mul_mod]
  congr 1
  rw [Nat.pow_mul, Nat.pow_two]
theorem sq_mod (x y : Nat) (hx : x < 2999) (hy : y < 2999) : Int.tmod (wrap64 ((x : Int) * (y : Int))) 2999 = ((x * y % 2999 : Nat) : Int) := by
  have h : x * y ≤ 2999 * 2999 := Nat.mul_le_mul (by omega) (by omega)
  have e : (x : Int) * (y : Int) = ((x * y : Nat) : Int) := by push_cast; rfl
  rw [e, wr (by omega) (by omega), tmod_pos (by omega)]
  omega
theorem half_nat (e : Nat) (h : e < 9000000000000000000) : wrap64 (Int.tdiv (e : Int) 2) = ((e / 2 : Nat) : Int) := by
  rw [tdiv_pos (by omega), wr (by omega) (by omega)]; omega
theorem pow_loop (n : Nat) : ∀ (e m c k : Nat), e ≤ n → n < k → m < 2999 → c < 2999 → e < 9000000000000000000 →
    spec_l2Power.l0 k (m : Int) (e : Int) (c : Int) = some ((c * m ^ e % 2999 : Nat) : Int) := by
  induction n with
  | zero =>
    intro e m c k he hk hm hc hb
    obtain ⟨k, rfl⟩ : ∃ j, k = j + 1 := ⟨k - 1, by omega⟩
    obtain rfl : e = 0 := by omega
    simp only [spec_l2Power.l0]
    rw [if_neg (by omega), Nat.pow_zero, Nat.mul_one, Nat.mod_eq_of_lt hc]
  | succ n ih =>
    intro e m c k he hk hm hc hb
    obtain ⟨k, rfl⟩ : ∃ j, k = j + 1 := ⟨k - 1, by omega⟩
    simp only [spec_l2Power.l0]
    by_cases h0 : e = 0
    · subst h0
      rw [if_neg (by omega), Nat.pow_zero, Nat.mul_one, Nat.mod_eq_of_lt hc]
    · rw [if_pos (by omega), sq_mod m m hm hm, half_nat e hb, tmod_pos (by omega)]
      have hm2 : m * m % 2999 < 2999 := Nat.mod_lt _ (by omega)
      by_cases h1 : e % 2 = 1
      · rw [if_pos (by omega), sq_mod c m hc hm, ih (e / 2) _ _ k (by omega) (by omega) hm2 (Nat.mod_lt _ (by omega)) (by omega), pow_step]
        rw [show 2 * (e / 2) + 1 = e by omega]
      · rw [if_neg (by omega), ih (e / 2) _ _ k (by omega) (by omega) hm2 hc (by omega), pow_step0]
        rw [show 2 * (e / 2) = e by omega]
theorem spec_pow {k : Nat} (a b : Int) (ha : 0 ≤ a) (ha' : a ≤ 2998) (hb : 0 ≤ b) (hb' : b < 9000000000000000000) (hk : b < (k : Int)) : spec_l2Power.f k a b = some (pw a b) := by
  obtain ⟨m, rfl⟩ := Int.eq_ofNat_of_zero_le ha
  obtain ⟨e, rfl⟩ := Int.eq_ofNat_of_zero_le hb
  unfold spec_l2Power.f
  have := pow_loop e e m 1 k (Nat.le_refl _) (by omega) (by omega) (by omega) (by omega)
  rw [show ((1 : Nat) : Int) = 1 from rfl, Nat.one_mul] at this
  rw [this]; rfl
theorem power_l0_eq (k : Nat) : ∀ a b c, impl_power.l0 k a b c = spec_l2Power.l0 k a b c := by
  induction k with
  | zero => intros; rfl
  | succ k ih => intro a b c; simp only [impl_power.l0, spec_l2Power.l0, ih]
theorem power_eq (k : Nat) (a b : Int) : impl_power.f k a b = spec_l2Power.f k a b := by simp only [impl_power.f, spec_l2Power.f, power_l0_eq]

/-! member: a power of the root -/
def mem (a : Int) : Bool := decide (1 ≤ a) && decide (a ≤ 2998) && (pw a 1499 == 1)
theorem spec_mem {k : Nat} (hk : 3000 < k) (a : Int) : spec_IsMember.f k a = some (mem a) := by
  unfold spec_IsMember.f spec_l2Unit.f
  rw [in_some]
  by_cases h1 : 1 ≤ a
  · by_cases h2 : a ≤ 2998
    · simp [mem, h1, h2, spec_pow a 1499 (by omega) h2 (by omega) (by omega) (by omega : (1499 : Int) < (k : Int))]
    · simp [mem, h1, h2]
  · simp [mem, h1]
theorem impl_mem {k : Nat} (hk : 3000 < k) (a : Int) : impl_IsMember.f k a = some (mem a) := by
  rw [← spec_mem hk]
  simp only [impl_IsMember.f, spec_IsMember.f, impl_isUnit.f, spec_l2Unit.f, within_eq, power_eq]
theorem mem_range {a : Int} (h : mem a = true) : 0 ≤ a ∧ a ≤ 2998 := by
  simp [mem] at h; omega

/-! sealed: a sealed number has members -/
theorem spec_sealed {k : Nat} (hk : 3000 < k) (a b : Int) : spec_l2Sealed.f k a b = some (mem a && mem b) := by
  unfold spec_l2Sealed.f
  rw [spec_mem hk, spec_mem hk]
  cases mem a <;> simp
theorem impl_sealed {k : Nat} (hk : 3000 < k) (a b : Int) : impl_isSealed.f k a b = some (mem a && mem b) := by
  unfold impl_isSealed.f
  rw [impl_mem hk, impl_mem hk]
  cases mem a <;> simp

theorem FnExactTimesSealed : ∀ (a0_0 : Int) (a0_1 : Int) (a1_0 : Int) (a1_1 : Int), (Lit.int .i64 a0_0).wf = true → (Lit.int .i64 a0_1).wf = true → (Lit.int .i64 a1_0).wf = true → (Lit.int .i64 a1_1).wf = true → ∃ k, laws_FnExactTimesSealed.f k a0_0 a0_1 a1_0 a1_1 = some true := by
  intro a b c d _ _ _ _
  refine rounds_of 3001 fun k hk => ?_
  have hs : spec_TimesSealed.f k a b c d = some (if (mem a && mem b) = true ∧ (mem c && mem d) = true then (Int.tmod (wrap64 (a * c)) 2999, Int.tmod (wrap64 (b * d)) 2999, true) else (0, 0, false)) := by
    unfold spec_TimesSealed.f
    rw [spec_sealed (by omega), Option.bind_some]
    by_cases h1 : (mem a && mem b) = true
    · rw [if_pos h1, spec_sealed (by omega), Option.bind_some]
      by_cases h2 : (mem c && mem d) = true
      · rw [if_pos h2, if_pos ⟨h1, h2⟩]
      · rw [if_neg h2, if_neg (fun h => h2 h.2)]
    · rw [if_neg h1, if_neg (fun h => h1 h.1)]
  have hi : impl_TimesSealed.f k a b c d = some (if (mem a && mem b) = true ∧ (mem c && mem d) = true then (Int.tmod (wrap64 (a * c)) 2999, Int.tmod (wrap64 (b * d)) 2999, true) else (0, 0, false)) := by
    unfold impl_TimesSealed.f impl_multiplied.f
    rw [impl_sealed (by omega), Option.bind_some]
    by_cases h1 : (mem a && mem b) = true
    · rw [if_pos h1, impl_sealed (by omega), Option.bind_some]
      by_cases h2 : (mem c && mem d) = true
      · rw [if_pos h2, if_pos ⟨h1, h2⟩, Option.bind_some]
      · rw [if_neg h2, if_neg (fun h => h2 h.2)]
    · rw [if_neg h1, if_neg (fun h => h1 h.1)]
  unfold laws_FnExactTimesSealed.f laws_toSealed.f laws_eqSealed.f
  simp only [Option.bind_some]
  rw [hs, Option.bind_some, hi, Option.bind_some]
  simp

end Go.Proofs.Ytaapgdaignfifaa.Pure
