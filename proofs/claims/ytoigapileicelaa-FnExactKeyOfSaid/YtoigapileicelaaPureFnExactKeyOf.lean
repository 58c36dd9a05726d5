/- KeyOf answers as the reference does and leaves its argument alone, for every list (the plain half). -/
import Derived.Test.YtoigapileicelaaPFnExactKeyOfx
set_option linter.unusedVariables false
set_option linter.unusedSimpArgs false
namespace Go.Proofs.Ytoigapileicelaa.Pure
open Go.RowKit Go.Proofs.Ytoigapileicelaa.PFnExactKeyOf Go.Proofs.YtoigapileicelaaW.PrintWords Go.Proofs.YtoigapileicelaaW.PrintLast

/-! base: sums of int that stay in range; `tmod` and `tdiv` of what is not negative -/
theorem wr {x : Int} (h1 : -9223372036854775808 ≤ x) (h2 : x ≤ 9223372036854775807) : wrap64 x = x := by
  unfold wrap64; omega
theorem tmod_pos {a b : Int} (h : 0 ≤ a) : Int.tmod a b = a % b := Int.tmod_eq_emod_of_nonneg h
theorem tdiv_pos {a b : Int} (h : 0 ≤ a) : Int.tdiv a b = a / b := Int.tdiv_eq_ediv_of_nonneg h
theorem rounds_of {α : Type} {g : Nat → Option α} {r : α} (N : Nat) (h : ∀ k, N < k → g k = some r) : ∃ k, g k = some r := ⟨N + 1, h _ (Nat.lt_succ_self N)⟩

/-! lists: reading a list at a place; a copy of a list; a list is like itself -/
theorem rd_at (xs : List Int) (i : Nat) (h : i < xs.length) : rd xs (i : Int) = xs[i] := by
  simp [rd, List.getD_eq_getElem?_getD, h]
theorem wr_succ (i : Nat) (h : i < 9000000000000000000) : wrap64 ((i : Int) + 1) = ((i + 1 : Nat) : Int) := by
  rw [wr (by omega) (by omega)]; omega
theorem same_list {α : Type} {xs ys : List α} (hl : ys.length = xs.length) (h : ∀ j, j < xs.length → ys[j]? = xs[j]?) : ys = xs := by
  apply List.ext_getElem?
  intro j
  by_cases hj : j < xs.length
  · exact h j hj
  · rw [List.getElem?_eq_none (by omega), List.getElem?_eq_none (by omega)]
theorem set_upto {α : Type} {xs ys : List α} {i : Nat} (hl : ys.length = xs.length) (hi : i < xs.length) (h : ∀ j, j < i → ys[j]? = xs[j]?) :
    ∀ j, j < i + 1 → (ys.set i xs[i])[j]? = xs[j]? := by
  intro j hj
  rw [List.getElem?_set]
  by_cases e : i = j
  · subst e; rw [if_pos rfl, if_pos (by omega), List.getElem?_eq_getElem hi]
  · rw [if_neg e]; exact h j (by omega)

/-! in: between two numbers -/
theorem within_eq (a b c : Int) : impl_within.f a b c = spec_l1In.f a b c := rfl
theorem in_some (a b c : Int) : spec_l1In.f a b c = some (decide (b ≤ a) && decide (a ≤ c)) := by
  unfold spec_l1In.f
  by_cases h : a ≥ b
  · rw [if_pos h]; have : b ≤ a := h; simp [this]
  · rw [if_neg h]; have : ¬ b ≤ a := h; simp [this]

/-! all: all numbers of a list between two numbers, in both texts -/
def inAll (lo hi : Int) (xs : List Int) : Bool := xs.all fun x => decide (lo ≤ x) && decide (x ≤ hi)
theorem inAll_mem {lo hi : Int} {xs : List Int} (h : inAll lo hi xs = true) : ∀ x ∈ xs, lo ≤ x ∧ x ≤ hi := by
  intro x hx
  have := List.all_eq_true.1 h x hx
  simpa using this
theorem all_loop (lo up : Int) (xs : List Int) (hn : xs.length ≤ 35184372088832) (d : Nat) : ∀ (k : Nat) (i : Nat), i + d = xs.length → d < k →
    spec_l1All.l0 k lo up xs (xs.length : Int) (i : Int) = some (inAll lo up (xs.drop i)) := by
  induction d with
  | zero =>
    intro k i hd hk
    obtain ⟨k, rfl⟩ : ∃ m, k = m + 1 := ⟨k - 1, by omega⟩
    simp only [spec_l1All.l0]
    rw [if_neg (by omega), List.drop_of_length_le (by omega)]; rfl
  | succ d ih =>
    intro k i hd hk
    obtain ⟨k, rfl⟩ : ∃ m, k = m + 1 := ⟨k - 1, by omega⟩
    have hi : i < xs.length := by omega
    have h1 : (i : Int) < (xs.length : Int) := by omega
    have h2 : (0 : Int) ≤ (i : Int) := by omega
    simp only [spec_l1All.l0]
    rw [if_pos h1, if_pos h2, if_pos h1, rd_at xs i hi, in_some, wr_succ i (by omega), ih k (i + 1) (by omega) (by omega), List.drop_eq_getElem_cons hi]
    simp only [Option.bind_some, inAll, List.all_cons]
    generalize (decide (lo ≤ xs[i]) && decide (xs[i] ≤ up)) = b
    cases b <;> simp
theorem spec_all {k : Nat} (lo hi : Int) (xs : List Int) (hn : xs.length ≤ 35184372088832) (hk : xs.length < k) : spec_l1All.f k xs lo hi = some (inAll lo hi xs) := by
  unfold spec_l1All.f
  have := all_loop lo hi xs hn xs.length k 0 (by omega) hk
  simpa using this
theorem allWithin_l0_eq (k : Nat) : ∀ lo hi xs n i, impl_allWithin.l0 k lo hi xs n i = spec_l1All.l0 k lo hi xs n i := by
  induction k with
  | zero => intros; rfl
  | succ k ih => intro lo hi xs n i; simp only [impl_allWithin.l0, spec_l1All.l0, ih, within_eq]
theorem impl_all {k : Nat} (lo hi : Int) (xs : List Int) (hn : xs.length ≤ 35184372088832) (hk : xs.length < k) : impl_allWithin.f k xs lo hi = some (inAll lo hi xs) := by
  rw [← spec_all lo hi xs hn hk]
  simp only [impl_allWithin.f, spec_l1All.f, allWithin_l0_eq]

/-! toints: laws.toIntS copies -/
theorem toIntS_loop (xs : List Int) (hn : xs.length ≤ 35184372088832) (d : Nat) : ∀ (k : Nat) (ys : List Int) (i : Nat), ys.length = xs.length → (∀ j, j < i → ys[j]? = xs[j]?) → i + d = xs.length → d < k →
    laws_toIntS.l0 k xs ys (i : Int) = some xs := by
  induction d with
  | zero =>
    intro k ys i hl h hd hk
    obtain ⟨k, rfl⟩ : ∃ m, k = m + 1 := ⟨k - 1, by omega⟩
    simp only [laws_toIntS.l0]
    rw [if_neg (by omega), same_list hl (fun j hj => h j (by omega))]
  | succ d ih =>
    intro k ys i hl h hd hk
    obtain ⟨k, rfl⟩ : ∃ m, k = m + 1 := ⟨k - 1, by omega⟩
    have hi : i < xs.length := by omega
    have h1 : (i : Int) < (xs.length : Int) := by omega
    have h2 : (0 : Int) ≤ (i : Int) := by omega
    have h3 : (i : Int) < (ys.length : Int) := by omega
    simp only [laws_toIntS.l0]
    rw [if_pos h1, if_pos h2, if_pos h3, rd_at xs i hi, wr_succ i (by omega), Int.toNat_natCast]
    exact ih k _ (i + 1) (by simpa using hl) (set_upto hl hi h) (by omega) (by omega)
theorem toIntS_eq {k : Nat} (xs : List Int) (hn : xs.length ≤ 35184372088832) (hk : xs.length < k) : laws_toIntS.f k xs = some xs := by
  unfold laws_toIntS.f
  rw [if_pos (by omega), if_pos (by omega)]
  exact toIntS_loop xs hn xs.length k _ 0 (by simp) (fun j hj => by omega) (by omega) hk

/-! eqints: laws.eqIntS says that a list is itself -/
theorem eqIntS_loop (xs : List Int) (hn : xs.length ≤ 35184372088832) (d : Nat) : ∀ (k : Nat) (i : Nat), i + d = xs.length → d < k → laws_eqIntS.l0 k xs xs (i : Int) = some true := by
  induction d with
  | zero =>
    intro k i hd hk
    obtain ⟨k, rfl⟩ : ∃ m, k = m + 1 := ⟨k - 1, by omega⟩
    simp only [laws_eqIntS.l0]
    rw [if_neg (by omega)]
  | succ d ih =>
    intro k i hd hk
    obtain ⟨k, rfl⟩ : ∃ m, k = m + 1 := ⟨k - 1, by omega⟩
    have h1 : (i : Int) < (xs.length : Int) := by omega
    have h2 : (0 : Int) ≤ (i : Int) := by omega
    simp only [laws_eqIntS.l0, if_pos h1, if_pos h2, if_true, wr_succ i (by omega)]
    exact ih k (i + 1) (by omega) (by omega)
theorem eqIntS_self {k : Nat} (xs : List Int) (hn : xs.length ≤ 35184372088832) (hk : xs.length < k) : laws_eqIntS.f k xs xs = some true := by
  unfold laws_eqIntS.f
  rw [if_pos rfl]
  exact eqIntS_loop xs hn xs.length k 0 (by omega) hk

/-! power: both texts' powers modulo 2999 -/
def pw (a b : Int) : Int := ((a.toNat ^ b.toNat % 2999 : Nat) : Int)
theorem pw_lo (a b : Int) : 0 ≤ pw a b := by unfold pw; omega
theorem pw_hi (a b : Int) : pw a b ≤ 2998 := by unfold pw; omega
theorem pow_step (c m q : Nat) : (c * m % 2999) * (m * m % 2999) ^ q % 2999 = c * m ^ (2 * q + 1) % 2999 := by
  rw [Nat.mul_mod, Nat.mod_mod, ← Nat.pow_mod, ← Nat.mul_mod]
  congr 1
  rw [Nat.pow_succ, Nat.pow_mul, Nat.pow_two, Nat.mul_assoc, Nat.mul_comm m]
theorem pow_step0 (c m q : Nat) : c * (m * m % 2999) ^ q % 2999 = c * m ^ (2 * q) % 2999 := by
  rw [Nat.mul_mod, ← Nat.pow_mod, ← Nat.mul_mod]
  congr 1
  rw [Nat.pow_mul, Nat.pow_two]
theorem sq_mod (x y : Nat) (hx : x < 2999) (hy : y < 2999) : Int.tmod (wrap64 ((x : Int) * (y : Int))) 2999 = ((x * y % 2999 : Nat) : Int) := by
  have h : x * y ≤ 2999 * 2999 := Nat.mul_le_mul (by omega) (by omega)
  have e : (x : Int) * (y : Int) = ((x * y : Nat) : Int) := by push_cast; rfl
  rw [e, wr (by omega) (by omega), tmod_pos (by omega)]
  omega
theorem half_nat (e : Nat) (h : e < 9000000000000000000) : wrap64 (Int.tdiv (e : Int) 2) = ((e / 2 : Nat) : Int) := by
  rw [tdiv_pos (by omega), wr (by omega) (by omega)]; omega
theorem pow_loop (n : Nat) : ∀ (e m c k : Nat), e ≤ n → n < k → m < 2999 → c < 2999 → e < 9000000000000000000 →
    spec_l2Power.l0 k (m : Int) (e : Int) (c : Int) = some ((c * m ^ e % 2999 : Nat) : Int) := by
  induction n with
  | zero =>
    intro e m c k he hk hm hc hb
    obtain ⟨k, rfl⟩ : ∃ j, k = j + 1 := ⟨k - 1, by omega⟩
    obtain rfl : e = 0 := by omega
    simp only [spec_l2Power.l0]
    rw [if_neg (by omega), Nat.pow_zero, Nat.mul_one, Nat.mod_eq_of_lt hc]
  | succ n ih =>
    intro e m c k he hk hm hc hb
    obtain ⟨k, rfl⟩ : ∃ j, k = j + 1 := ⟨k - 1, by omega⟩
    simp only [spec_l2Power.l0]
    by_cases h0 : e = 0
    · subst h0
      rw [if_neg (by omega), Nat.pow_zero, Nat.mul_one, Nat.mod_eq_of_lt hc]
    · rw [if_pos (by omega), sq_mod m m hm hm, half_nat e hb, tmod_pos (by omega)]
      have hm2 : m * m % 2999 < 2999 := Nat.mod_lt _ (by omega)
      by_cases h1 : e % 2 = 1
      · rw [if_pos (by omega), sq_mod c m hc hm, ih (e / 2) _ _ k (by omega) (by omega) hm2 (Nat.mod_lt _ (by omega)) (by omega), pow_step]
        rw [show 2 * (e / 2) + 1 = e by omega]
      · rw [if_neg (by omega), ih (e / 2) _ _ k (by omega) (by omega) hm2 hc (by omega), pow_step0]
        rw [show 2 * (e / 2) = e by omega]
theorem spec_pow {k : Nat} (a b : Int) (ha : 0 ≤ a) (ha' : a ≤ 2998) (hb : 0 ≤ b) (hb' : b < 9000000000000000000) (hk : b < (k : Int)) : spec_l2Power.f k a b = some (pw a b) := by
  obtain ⟨m, rfl⟩ := Int.eq_ofNat_of_zero_le ha
  obtain ⟨e, rfl⟩ := Int.eq_ofNat_of_zero_le hb
  unfold spec_l2Power.f
  have := pow_loop e e m 1 k (Nat.le_refl _) (by omega) (by omega) (by omega) (by omega)
  rw [show ((1 : Nat) : Int) = 1 from rfl, Nat.one_mul] at this
  rw [this]; rfl
theorem power_l0_eq (k : Nat) : ∀ a b c, impl_power.l0 k a b c = spec_l2Power.l0 k a b c := by
  induction k with
  | zero => intros; rfl
  | succ k ih => intro a b c; simp only [impl_power.l0, spec_l2Power.l0, ih]
theorem power_eq (k : Nat) (a b : Int) : impl_power.f k a b = spec_l2Power.f k a b := by simp only [impl_power.f, spec_l2Power.f, power_l0_eq]

theorem key_loop (xs : List Int) (hn : xs.length ≤ 5) (hm : ∀ x ∈ xs, 1 ≤ x ∧ x ≤ 1498) (d : Nat) : ∀ (k : Nat) (a : Int) (i : Nat), i + d = xs.length → d + 1499 < k →
    ∃ r, spec_l6Key.l0 k a xs (xs.length : Int) (i : Int) = some r ∧ impl_key.l0 k a xs (xs.length : Int) (i : Int) = some r := by
  induction d with
  | zero =>
    intro k a i hd hk
    obtain ⟨k, rfl⟩ : ∃ m, k = m + 1 := ⟨k - 1, by omega⟩
    simp only [spec_l6Key.l0, impl_key.l0]
    have h : ¬ (i : Int) < (xs.length : Int) := by omega
    rw [if_neg h, if_neg h]
    exact ⟨a, rfl, rfl⟩
  | succ d ih =>
    intro k a i hd hk
    obtain ⟨k, rfl⟩ : ∃ m, k = m + 1 := ⟨k - 1, by omega⟩
    have hi : i < xs.length := by omega
    have h1 : (i : Int) < (xs.length : Int) := by omega
    have h2 : (0 : Int) ≤ (i : Int) := by omega
    have hx := hm xs[i] (List.getElem_mem hi)
    simp only [spec_l6Key.l0, impl_key.l0, if_pos h1, if_pos h2, rd_at xs i hi, power_eq, spec_pow (k := k) 4 xs[i] (by omega) (by omega) (by omega) (by omega) (by omega), Option.bind_some, wr_succ i (by omega)]
    exact ih k _ (i + 1) (by omega) (by omega)
theorem key_of {k : Nat} (xs : List Int) (hn : xs.length ≤ 35184372088832) (hk : xs.length + 1510 < k) : ∃ r, spec_KeyOf.f k xs = some r ∧ impl_KeyOf.f k xs = some r := by
  unfold spec_KeyOf.f impl_KeyOf.f spec_l6Secrets.f impl_areSecrets.f
  rw [within_eq, in_some, spec_all 1 1498 xs hn (by omega), impl_all 1 1498 xs hn (by omega)]
  by_cases h : 1 ≤ (xs.length : Int) ∧ (xs.length : Int) ≤ 5
  · by_cases h' : inAll 1 1498 xs = true
    · obtain ⟨r, h1, h2⟩ := key_loop xs (by omega) (inAll_mem h') xs.length k 1 0 (by omega) (by omega)
      rw [show ((0 : Nat) : Int) = 0 from rfl] at h1 h2
      exact ⟨(r, true), by simp [h, h', spec_l6Key.f, h1], by simp [h, h', impl_key.f, h2]⟩
    · exact ⟨(0, false), by simp [h, h'], by simp [h, h']⟩
  · have hd : (decide (1 ≤ (xs.length : Int)) && decide ((xs.length : Int) ≤ 5)) = false := by simpa using h
    exact ⟨(0, false), by simp [hd], by simp [hd]⟩
theorem FnExactKeyOf : laws_FnExactKeyOf.Pure := by
  intro xs _ hn _
  refine rounds_of (xs.length + 1600) fun k hk => ?_
  obtain ⟨k, rfl⟩ : ∃ j, k = j + 1 := ⟨k - 1, by omega⟩
  unfold laws_FnExactKeyOf.f
  by_cases h : (xs.length : Int) > 1048576
  · rw [if_pos h]
  · rw [if_neg h]
    obtain ⟨r, h1, h2⟩ := key_of (k := k + 1) xs (by omega) (by omega)
    simp only [toIntS_eq (k := k + 1) xs (by omega) (by omega), h1, h2, Option.bind_some, bne_self_eq_false]
    simp [laws_FnExactKeyOf.j0, toIntS_eq (k := k) xs (by omega) (by omega), eqIntS_self (k := k) xs (by omega) (by omega)]

end Go.Proofs.Ytoigapileicelaa.Pure
