/- LogOf answers as the reference does, for all numbers (the plain half). -/
import Derived.Test.YtaapgdaignfifaaPFnExactLogOfx
set_option linter.unusedVariables false
set_option linter.unusedSimpArgs false
namespace Go.Proofs.Ytaapgdaignfifaa.Pure
open Go.RowKit Go.Proofs.Ytaapgdaignfifaa.PFnExactLogOf Go.Proofs.YtaapgdaignfifaaW.PrintWords Go.Proofs.YtaapgdaignfifaaW.PrintLast

/-! base: sums of int that stay in range; `tmod` and `tdiv` of what is not negative -/
theorem wr {x : Int} (h1 : -9223372036854775808 ≤ x) (h2 : x ≤ 9223372036854775807) : wrap64 x = x := by
  unfold wrap64; omega
theorem tmod_pos {a b : Int} (h : 0 ≤ a) : Int.tmod a b = a % b := Int.tmod_eq_emod_of_nonneg h
theorem tdiv_pos {a b : Int} (h : 0 ≤ a) : Int.tdiv a b = a / b := Int.tdiv_eq_ediv_of_nonneg h
theorem rounds_of {α : Type} {g : Nat → Option α} {r : α} (N : Nat) (h : ∀ k, N < k → g k = some r) : ∃ k, g k = some r := ⟨N + 1, h _ (Nat.lt_succ_self N)⟩

/-! power: both texts' powers modulo 2999 -/
theorem within_eq (a b c : Int) : impl_within.f a b c = spec_l1In.f a b c := rfl
theorem in_some (a b c : Int) : spec_l1In.f a b c = some (decide (b ≤ a) && decide (a ≤ c)) := by
  unfold spec_l1In.f
  by_cases h : a ≥ b
  · rw [if_pos h]; have : b ≤ a := h; simp [this]
  · rw [if_neg h]; have : ¬ b ≤ a := h; simp [this]
def pw (a b : Int) : Int := ((a.toNat ^ b.toNat % 2999 : Nat) : Int)
theorem pw_lo (a b : Int) : 0 ≤ pw a b := by unfold pw; omega
theorem pw_hi (a b : Int) : pw a b ≤ 2998 := by unfold pw; omega
theorem pow_step (c m q : Nat) : (c * m % 2999) * (m * m % 2999) ^ q % 2999 = c * m ^ (2 * q + 1) % 2999 := by
  rw [Nat.mul_mod, Nat.mod_mod, ← Nat.pow_mod, ← Nat.mul_mod]
  congr 1
  rw [Nat.pow_succ, Nat.pow_mul, Nat.pow_two, Nat.mul_assoc, Nat.mul_comm m]
theorem pow_step0 (c m q : Nat) : c * (m * m % 2999) ^ q % 2999 = c * m ^ (2 * q) % 2999 := by
  rw [Nat.mul_mod, ← Nat.pow_mod, ← Nat.mul_mod]
  congr 1
  rw [Nat.pow_mul, Nat.pow_two]
theorem sq_mod (x y : Nat) (hx : x < 2999) (hy : y < 2999) : Int.tmod (wrap64 ((x : Int) * (y : Int))) 2999 = ((x * y % 2999 : Nat) : Int) := by
  have h : x * y ≤ 2999 * 2999 := Nat.mul_le_mul (by omega) (by omega)
  have e : (x : Int) * (y : Int) = ((x * y : Nat) : Int) := by push_cast; rfl
  rw [e, wr (by omega) (by omega), tmod_pos (by omega)]
  omega
theorem half_nat (e : Nat) (h : e < 9000000000000000000) : wrap64 (Int.tdiv (e : Int) 2) = ((e / 2 : Nat) : Int) := by
  rw [tdiv_pos (by omega), wr (by omega) (by omega)]; omega
theorem pow_loop (n : Nat) : ∀ (e m c k : Nat), e ≤ n → n < k → m < 2999 → c < 2999 → e < 9000000000000000000 →
    spec_l2Power.l0 k (m : Int) (e : Int) (c : Int) = some ((c * m ^ e % 2999 : Nat) : Int) := by
  induction n with
  | zero =>
    intro e m c k he hk hm hc hb
    obtain ⟨k, rfl⟩ : ∃ j, k = j + 1 := ⟨k - 1, by omega⟩
    obtain rfl : e = 0 := by omega
    simp only [spec_l2Power.l0]
    rw [if_neg (by omega), Nat.pow_zero, Nat.mul_one, Nat.mod_eq_of_lt hc]
  | succ n ih =>
    intro e m c k he hk hm hc hb
    obtain ⟨k, rfl⟩ : ∃ j, k = j + 1 := ⟨k - 1, by omega⟩
    simp only [spec_l2Power.l0]
    by_cases h0 : e = 0
    · subst h0
      rw [if_neg (by omega), Nat.pow_zero, Nat.mul_one, Nat.mod_eq_of_lt hc]
    · rw [if_pos (by omega), sq_mod m m hm hm, half_nat e hb, tmod_pos (by omega)]
      have hm2 : m * m % 2999 < 2999 := Nat.mod_lt _ (by omega)
      by_cases h1 : e % 2 = 1
      · rw [if_pos (by omega), sq_mod c m hc hm, ih (e / 2) _ _ k (by omega) (by omega) hm2 (Nat.mod_lt _ (by omega)) (by omega), pow_step]
        rw [show 2 * (e / 2) + 1 = e by omega]
      · rw [if_neg (by omega), ih (e / 2) _ _ k (by omega) (by omega) hm2 hc (by omega), pow_step0]
        rw [show 2 * (e / 2) = e by omega]
theorem spec_pow {k : Nat} (a b : Int) (ha : 0 ≤ a) (ha' : a ≤ 2998) (hb : 0 ≤ b) (hb' : b < 9000000000000000000) (hk : b < (k : Int)) : spec_l2Power.f k a b = some (pw a b) := by
  obtain ⟨m, rfl⟩ := Int.eq_ofNat_of_zero_le ha
  obtain ⟨e, rfl⟩ := Int.eq_ofNat_of_zero_le hb
  unfold spec_l2Power.f
  have := pow_loop e e m 1 k (Nat.le_refl _) (by omega) (by omega) (by omega) (by omega)
  rw [show ((1 : Nat) : Int) = 1 from rfl, Nat.one_mul] at this
  rw [this]; rfl
theorem power_l0_eq (k : Nat) : ∀ a b c, impl_power.l0 k a b c = spec_l2Power.l0 k a b c := by
  induction k with
  | zero => intros; rfl
  | succ k ih => intro a b c; simp only [impl_power.l0, spec_l2Power.l0, ih]
theorem power_eq (k : Nat) (a b : Int) : impl_power.f k a b = spec_l2Power.f k a b := by simp only [impl_power.f, spec_l2Power.f, power_l0_eq]

/-! member: a power of the root -/
def mem (a : Int) : Bool := decide (1 ≤ a) && decide (a ≤ 2998) && (pw a 1499 == 1)
theorem spec_mem {k : Nat} (hk : 3000 < k) (a : Int) : spec_IsMember.f k a = some (mem a) := by
  unfold spec_IsMember.f spec_l2Unit.f
  rw [in_some]
  by_cases h1 : 1 ≤ a
  · by_cases h2 : a ≤ 2998
    · simp [mem, h1, h2, spec_pow a 1499 (by omega) h2 (by omega) (by omega) (by omega : (1499 : Int) < (k : Int))]
    · simp [mem, h1, h2]
  · simp [mem, h1]
theorem impl_mem {k : Nat} (hk : 3000 < k) (a : Int) : impl_IsMember.f k a = some (mem a) := by
  rw [← spec_mem hk]
  simp only [impl_IsMember.f, spec_IsMember.f, impl_isUnit.f, spec_l2Unit.f, within_eq, power_eq]
theorem mem_range {a : Int} (h : mem a = true) : 0 ≤ a ∧ a ≤ 2998 := by
  simp [mem] at h; omega

/-- Both loops walk the powers of the root one by one. -/
theorem logs (m most : Int) (hm : most ≤ 100) (d : Nat) : ∀ (k : Nat) (i x : Int), 0 ≤ i → (most : Int) + 1 - i = d → d < k → 0 ≤ x → x ≤ 2998 →
    ∃ r, spec_l6Log.l0 k m most x i = some r ∧ impl_LogOf.l0 k m most i x = some (if r < 0 then (0, false) else (r, true)) := by
  induction d with
  | zero =>
    intro k i x h0 hd hk hx hx'
    obtain ⟨k, rfl⟩ : ∃ j, k = j + 1 := ⟨k - 1, by omega⟩
    refine ⟨-1, ?_, ?_⟩
    · simp only [spec_l6Log.l0]; rw [if_neg (by omega)]
    · simp only [impl_LogOf.l0]; rw [if_neg (by omega)]; rfl
  | succ d ih =>
    intro k i x h0 hd hk hx hx'
    obtain ⟨k, rfl⟩ : ∃ j, k = j + 1 := ⟨k - 1, by omega⟩
    simp only [spec_l6Log.l0, impl_LogOf.l0]
    have hle : i ≤ most := by omega
    rw [if_pos hle, if_pos hle]
    by_cases e : x = m
    · refine ⟨i, by rw [if_pos e], ?_⟩
      rw [if_pos e, if_neg (by omega)]
    · rw [if_neg e, if_neg e, wr (by omega) (by omega), wr (by omega) (by omega), tmod_pos (by omega)]
      exact ih k (i + 1) (x * 4 % 2999) (by omega) (by omega) (by omega) (by omega) (by omega)
theorem FnExactLogOf : laws_FnExactLogOf.Pure := by
  intro m most _ _
  refine rounds_of 3003 fun k hk => ?_
  obtain ⟨k, rfl⟩ : ∃ j, k = j + 2 := ⟨k - 2, by omega⟩
  unfold laws_FnExactLogOf.f spec_LogOf.f impl_LogOf.f
  rw [spec_mem (by omega), impl_mem (by omega), within_eq, in_some]
  simp only [impl_LogOf.j0]
  by_cases h1 : mem m = true
  · by_cases h : 0 ≤ most ∧ most ≤ 100
    · obtain ⟨r, hs, hi⟩ := logs m most h.2 (most + 1).toNat (k + 1) 0 1 (by omega) (by omega) (by omega) (by omega) (by omega)
      have hs' : spec_l6Log.f (k + 2) m most = some r := by
        unfold spec_l6Log.f
        exact at_rounds (g := fun k => spec_l6Log.l0 k m most 1 0) (fun k => spec_l6Log.mono_l k _ _ _ _) (by omega : k + 1 ≤ k + 2) hs
      by_cases hr : r < 0
      · simp [h1, h, hs', hi, hr]
      · simp [h1, h, hs', hi, hr]
    · have hd : (decide (0 ≤ most) && decide (most ≤ 100)) = false := by simpa using h
      simp [h1, hd]
  · simp [h1]

end Go.Proofs.Ytaapgdaignfifaa.Pure
