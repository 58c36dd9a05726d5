/- FnShared holds for all bytes: two secrets make one in the open, powers and inverses are those of the reference, and Fermat's law holds (the plain half). -/
import Derived.Test.YtoigapileicelaaQFnSharedx
set_option linter.unusedVariables false
set_option linter.unusedSimpArgs false
namespace Go.Proofs.Ytoigapileicelaa.Pure
open Go.RowKit Go.Proofs.Ytoigapileicelaa.QFnShared Go.Proofs.YtoigapileicelaaW.PrintWords Go.Proofs.YtoigapileicelaaW.PrintLast Go.Proofs.YtoigapileicelaaW.PrintMore

/-! base: sums of int that stay in range; `tmod` and `tdiv` of what is not negative -/
theorem wr {x : Int} (h1 : -9223372036854775808 ≤ x) (h2 : x ≤ 9223372036854775807) : wrap64 x = x := by
  unfold wrap64; omega
theorem tmod_pos {a b : Int} (h : 0 ≤ a) : Int.tmod a b = a % b := Int.tmod_eq_emod_of_nonneg h
theorem tdiv_pos {a b : Int} (h : 0 ≤ a) : Int.tdiv a b = a / b := Int.tdiv_eq_ediv_of_nonneg h
theorem rounds_of {α : Type} {g : Nat → Option α} {r : α} (N : Nat) (h : ∀ k, N < k → g k = some r) : ∃ k, g k = some r := ⟨N + 1, h _ (Nat.lt_succ_self N)⟩

/-! ins: between two numbers, in the reference -/
theorem in_some (a b c : Int) : spec_l1In.f a b c = some (decide (b ≤ a) && decide (a ≤ c)) := by
  unfold spec_l1In.f
  by_cases h : a ≥ b
  · rw [if_pos h]; have : b ≤ a := h; simp [this]
  · rw [if_neg h]; have : ¬ b ≤ a := h; simp [this]

/-! in: between two numbers -/
theorem within_eq (a b c : Int) : impl_within.f a b c = spec_l1In.f a b c := rfl

/-! power: both texts' powers modulo 2999 -/
def pw (a b : Int) : Int := ((a.toNat ^ b.toNat % 2999 : Nat) : Int)
theorem pw_lo (a b : Int) : 0 ≤ pw a b := by unfold pw; omega
theorem pw_hi (a b : Int) : pw a b ≤ 2998 := by unfold pw; omega
theorem pow_step (c m q : Nat) : (c * m % 2999) * (m * m % 2999) ^ q % 2999 = c * m ^ (2 * q + 1) % 2999 := by
  rw [Nat.mul_mod, Nat.mod_mod, ← Nat.pow_mod, ← Nat.mul_mod]
  congr 1
  rw [Nat.pow_succ, Nat.pow_mul, Nat.pow_two, Nat.mul_assoc, Nat.mul_comm m]
theorem pow_step0 (c m q : Nat) : c * (m * m % 2999) ^ q % 2999 = c * m ^ (2 * q) % 2999 := by
  rw [Nat.mul_mod, ← Nat.pow_mod, ← Nat.mul_mod]
  congr 1
  rw [Nat.pow_mul, Nat.pow_two]
theorem sq_mod (x y : Nat) (hx : x < 2999) (hy : y < 2999) : Int.tmod (wrap64 ((x : Int) * (y : Int))) 2999 = ((x * y % 2999 : Nat) : Int) := by
  have h : x * y ≤ 2999 * 2999 := Nat.mul_le_mul (by omega) (by omega)
  have e : (x : Int) * (y : Int) = ((x * y : Nat) : Int) := by push_cast; rfl
  rw [e, wr (by omega) (by omega), tmod_pos (by omega)]
  omega
theorem half_nat (e : Nat) (h : e < 9000000000000000000) : wrap64 (Int.tdiv (e : Int) 2) = ((e / 2 : Nat) : Int) := by
  rw [tdiv_pos (by omega), wr (by omega) (by omega)]; omega
theorem pow_loop (n : Nat) : ∀ (e m c k : Nat), e ≤ n → n < k → m < 2999 → c < 2999 → e < 9000000000000000000 →
    spec_l2Power.l0 k (m : Int) (e : Int) (c : Int) = some ((c * m ^ e % 2999 : Nat) : Int) := by
  induction n with
  | zero =>
    intro e m c k he hk hm hc hb
    obtain ⟨k, rfl⟩ : ∃ j, k = j + 1 := ⟨k - 1, by omega⟩
    obtain rfl : e = 0 := by omega
    simp only [spec_l2Power.l0]
    rw [if_neg (by omega), Nat.pow_zero, Nat.mul_one, Nat.mod_eq_of_lt hc]
  | succ n ih =>
    intro e m c k he hk hm hc hb
    obtain ⟨k, rfl⟩ : ∃ j, k = j + 1 := ⟨k - 1, by omega⟩
    simp only [spec_l2Power.l0]
    by_cases h0 : e = 0
    · subst h0
      rw [if_neg (by omega), Nat.pow_zero, Nat.mul_one, Nat.mod_eq_of_lt hc]
    · rw [if_pos (by omega), sq_mod m m hm hm, half_nat e hb, tmod_pos (by omega)]
      have hm2 : m * m % 2999 < 2999 := Nat.mod_lt _ (by omega)
      by_cases h1 : e % 2 = 1
      · rw [if_pos (by omega), sq_mod c m hc hm, ih (e / 2) _ _ k (by omega) (by omega) hm2 (Nat.mod_lt _ (by omega)) (by omega), pow_step]
        rw [show 2 * (e / 2) + 1 = e by omega]
      · rw [if_neg (by omega), ih (e / 2) _ _ k (by omega) (by omega) hm2 hc (by omega), pow_step0]
        rw [show 2 * (e / 2) = e by omega]
theorem spec_pow {k : Nat} (a b : Int) (ha : 0 ≤ a) (ha' : a ≤ 2998) (hb : 0 ≤ b) (hb' : b < 9000000000000000000) (hk : b < (k : Int)) : spec_l2Power.f k a b = some (pw a b) := by
  obtain ⟨m, rfl⟩ := Int.eq_ofNat_of_zero_le ha
  obtain ⟨e, rfl⟩ := Int.eq_ofNat_of_zero_le hb
  unfold spec_l2Power.f
  have := pow_loop e e m 1 k (Nat.le_refl _) (by omega) (by omega) (by omega) (by omega)
  rw [show ((1 : Nat) : Int) = 1 from rfl, Nat.one_mul] at this
  rw [this]; rfl
theorem power_l0_eq (k : Nat) : ∀ a b c, impl_power.l0 k a b c = spec_l2Power.l0 k a b c := by
  induction k with
  | zero => intros; rfl
  | succ k ih => intro a b c; simp only [impl_power.l0, spec_l2Power.l0, ih]
theorem power_eq (k : Nat) (a b : Int) : impl_power.f k a b = spec_l2Power.f k a b := by simp only [impl_power.f, spec_l2Power.f, power_l0_eq]

/-! member: a power of the root -/
def mem (a : Int) : Bool := decide (1 ≤ a) && decide (a ≤ 2998) && (pw a 1499 == 1)
theorem spec_mem {k : Nat} (hk : 3000 < k) (a : Int) : spec_IsMember.f k a = some (mem a) := by
  unfold spec_IsMember.f spec_l2Unit.f
  rw [in_some]
  by_cases h1 : 1 ≤ a
  · by_cases h2 : a ≤ 2998
    · simp [mem, h1, h2, spec_pow a 1499 (by omega) h2 (by omega) (by omega) (by omega : (1499 : Int) < (k : Int))]
    · simp [mem, h1, h2]
  · simp [mem, h1]
theorem impl_mem {k : Nat} (hk : 3000 < k) (a : Int) : impl_IsMember.f k a = some (mem a) := by
  rw [← spec_mem hk]
  simp only [impl_IsMember.f, spec_IsMember.f, impl_isUnit.f, spec_l2Unit.f, within_eq, power_eq]
theorem mem_range {a : Int} (h : mem a = true) : 0 ≤ a ∧ a ≤ 2998 := by
  simp [mem] at h; omega

/-! secret: a secret or a nonce -/
def sec (a : Int) : Bool := decide (1 ≤ a) && decide (a ≤ 1498)
theorem spec_sec (a : Int) : spec_l2Secret.f a = some (sec a) := by
  simp [spec_l2Secret.f, in_some, sec]
theorem impl_sec (a : Int) : impl_isSecret.f a = some (sec a) := by
  simp [impl_isSecret.f, within_eq, in_some, sec]
theorem sec_range {a : Int} (h : sec a = true) : 0 ≤ a ∧ a ≤ 1498 := by
  simp [sec] at h; omega

/-! publicfor: PublicFor, in both texts -/
theorem spec_public {k : Nat} (hk : 3000 < k) (a : Int) : spec_PublicFor.f k a = some (if sec a = true then (pw 4 a, true) else (0, false)) := by
  unfold spec_PublicFor.f
  rw [spec_sec]
  by_cases h : sec a = true
  · have := sec_range h
    simp [h, spec_pow 4 a (by omega) (by omega) this.1 (by omega) (by omega : a < (k : Int))]
  · simp [h]
theorem impl_public {k : Nat} (hk : 3000 < k) (a : Int) : impl_PublicFor.f k a = some (if sec a = true then (pw 4 a, true) else (0, false)) := by
  unfold impl_PublicFor.f
  rw [impl_sec]
  by_cases h : sec a = true
  · have := sec_range h
    simp [h, power_eq, spec_pow 4 a (by omega) (by omega) this.1 (by omega) (by omega : a < (k : Int))]
  · simp [h]

/-! sharedof: SharedOf, in both texts -/
theorem spec_shared {k : Nat} (hk : 3000 < k) (a b : Int) : spec_SharedOf.f k a b = some (if sec a = true ∧ mem b = true then (pw b a, true) else (0, false)) := by
  unfold spec_SharedOf.f
  rw [spec_sec, spec_mem hk]
  by_cases h : sec a = true
  · by_cases h' : mem b = true
    · have := sec_range h
      have := mem_range h'
      simp [h, h', spec_pow b a (by omega) (by omega) (by omega) (by omega) (by omega : a < (k : Int))]
    · simp [h, h']
  · simp [h]
theorem impl_shared {k : Nat} (hk : 3000 < k) (a b : Int) : impl_SharedOf.f k a b = some (if sec a = true ∧ mem b = true then (pw b a, true) else (0, false)) := by
  unfold impl_SharedOf.f
  rw [impl_sec, impl_mem hk]
  by_cases h : sec a = true
  · by_cases h' : mem b = true
    · have := sec_range h
      have := mem_range h'
      simp [h, h', power_eq, spec_pow b a (by omega) (by omega) (by omega) (by omega) (by omega : a < (k : Int))]
    · simp [h, h']
  · simp [h]

/-! inverse: a number's inverse modulo 2999, in both texts -/
theorem spec_inv {k : Nat} (hk : 3000 < k) (a : Int) (h0 : 0 ≤ a) (h1 : a ≤ 2998) : spec_l2Inverse.f k a = some (pw a 2997) := by
  simp [spec_l2Inverse.f, spec_pow a 2997 h0 h1 (by omega) (by omega) (by omega : (2997 : Int) < (k : Int))]
theorem impl_inv {k : Nat} (hk : 3000 < k) (a : Int) (h0 : 0 ≤ a) (h1 : a ≤ 2998) : impl_inverse.f k a = some (pw a 2997) := by
  simp [impl_inverse.f, power_eq, spec_pow a 2997 h0 h1 (by omega) (by omega) (by omega : (2997 : Int) < (k : Int))]

/-! inverseof: InverseOf, in both texts -/
theorem inverse_of {k : Nat} (hk : 3000 < k) (a : Int) : ∃ r, spec_InverseOf.f k a = some r ∧ impl_InverseOf.f k a = some r ∧ r = (if 1 ≤ a ∧ a ≤ 2998 then (pw a 2997, true) else (0, false)) := by
  by_cases h : 1 ≤ a ∧ a ≤ 2998
  · refine ⟨(pw a 2997, true), ?_, ?_, by simp [h]⟩
    · simp [spec_InverseOf.f, spec_l2Unit.f, in_some, h, spec_inv hk a (by omega) h.2]
    · simp [impl_InverseOf.f, impl_isUnit.f, within_eq, in_some, h, impl_inv hk a (by omega) h.2]
  · have hd : (decide (1 ≤ a) && decide (a ≤ 2998)) = false := by simpa using h
    refine ⟨(0, false), ?_, ?_, by rw [if_neg h]⟩
    · simp [spec_InverseOf.f, spec_l2Unit.f, in_some, hd]
    · simp [impl_InverseOf.f, impl_isUnit.f, within_eq, in_some, hd]

/-! powerof: PowerOf, in both texts -/
theorem power_of {k : Nat} (hk : 2000000 < k) (a b : Int) : ∃ r, spec_PowerOf.f k a b = some r ∧ impl_PowerOf.f k a b = some r ∧ r = (if 1 ≤ a ∧ a ≤ 2998 ∧ 0 ≤ b ∧ b ≤ 1000000 then (pw a b, true) else (0, false)) := by
  by_cases h : 1 ≤ a ∧ a ≤ 2998
  · by_cases h' : 0 ≤ b ∧ b ≤ 1000000
    · refine ⟨(pw a b, true), ?_, ?_, by simp [h, h']⟩
      · simp [spec_PowerOf.f, spec_l2Unit.f, in_some, h, h', spec_pow a b (by omega) h.2 h'.1 (by omega) (by omega : b < (k : Int))]
      · simp [impl_PowerOf.f, impl_isUnit.f, within_eq, in_some, h, h', power_eq, spec_pow a b (by omega) h.2 h'.1 (by omega) (by omega : b < (k : Int))]
    · have hd : (decide (0 ≤ b) && decide (b ≤ 1000000)) = false := by simpa using h'
      refine ⟨(0, false), ?_, ?_, by rw [if_neg (by omega)]⟩
      · simp [spec_PowerOf.f, spec_l2Unit.f, in_some, h, hd]
      · simp [impl_PowerOf.f, impl_isUnit.f, within_eq, in_some, h, hd]
  · have hd : (decide (1 ≤ a) && decide (a ≤ 2998)) = false := by simpa using h
    refine ⟨(0, false), ?_, ?_, by rw [if_neg (by omega)]⟩
    · simp [spec_PowerOf.f, spec_l2Unit.f, in_some, hd]
    · simp [impl_PowerOf.f, impl_isUnit.f, within_eq, in_some, hd]

/-! draws: what is drawn from bytes -/
theorem u64_range (n : Int) : 0 ≤ IntKind.u64.wrap n ∧ IntKind.u64.wrap n < 18446744073709551616 := by
  simp [IntKind.wrap, IntKind.bits, IntKind.signed]; omega
theorem wraps_u64_24 (n : Int) (h₀ : 0 ≤ n) (h₁ : n < 2 ^ 24) : IntKind.u64.wrap n = n := by
  simp [IntKind.wrap, IntKind.bits, IntKind.signed]; omega
theorem and255 (z : Int) : 0 ≤ wrap64 (Go.bits .and .u64 (IntKind.u64.wrap z / 1099511627776) 255) ∧ wrap64 (Go.bits .and .u64 (IntKind.u64.wrap z / 1099511627776) 255) ≤ 255 := by
  obtain ⟨h1, h2⟩ := u64_range z
  generalize IntKind.u64.wrap z = y at *
  have e : Go.bits .and .u64 (y / 1099511627776) 255 = (y / 1099511627776) % 256 := bits_mask .u64 24 (by decide) wraps_u64_24 8 (by decide) _ (by omega) (by omega)
  rw [e, wr (by omega) (by omega)]
  omega
def Byt (s : List Int) : Prop := ∀ x ∈ s, 0 ≤ x ∧ x ≤ 255
theorem Byt.at {s : List Int} (h : Byt s) (a : Int) : 0 ≤ rd s a ∧ rd s a ≤ 255 := by
  unfold rd
  rw [List.getD_eq_getElem?_getD]
  by_cases e : a.toNat < s.length
  · rw [List.getElem?_eq_getElem e]; exact h _ (List.getElem_mem e)
  · rw [List.getElem?_eq_none (by omega)]; simp
theorem next_ok {s : List Int} (hs : Byt s) (a z : Int) (h0 : 0 ≤ a) (h1 : a ≤ 1000000000000) : ∃ r z', spec_l1Cur_next.f s a z = some (r, a + 1, z') ∧ 0 ≤ r ∧ r ≤ 255 := by
  have hb := hs.at a
  unfold spec_l1Cur_next.f
  rw [wr (x := a + 1) (by omega) (by omega)]
  by_cases h : a < (s.length : Int)
  · rw [if_pos h, if_pos h0]
    by_cases h' : a + 1 ≤ (s.length : Int)
    · rw [if_pos h']
      exact ⟨_, _, rfl, by rw [wr (by omega) (by omega)]; omega, by rw [wr (by omega) (by omega)]; omega⟩
    · rw [if_neg h']
      exact ⟨_, _, rfl, (and255 _).1, (and255 _).2⟩
  · rw [if_neg h]
    by_cases h' : a + 1 ≤ (s.length : Int)
    · rw [if_pos h']
      exact ⟨_, _, rfl, by omega, by omega⟩
    · rw [if_neg h']
      exact ⟨_, _, rfl, (and255 _).1, (and255 _).2⟩
theorem pick_ok {s : List Int} (hs : Byt s) (a z n : Int) (h0 : 0 ≤ a) (h1 : a ≤ 100000000000) (hn : n ≤ 1000000) : ∃ r a' z', spec_l1Cur_pick.f s a z n = some (r, a', z') ∧ 0 ≤ r ∧ (1 ≤ n → r < n) ∧ r ≤ 1000000 ∧ a ≤ a' ∧ a' ≤ a + 2 := by
  unfold spec_l1Cur_pick.f
  by_cases h : n ≤ 1
  · rw [if_pos h]
    exact ⟨0, a, z, rfl, by omega, by omega, by omega, by omega, by omega⟩
  · rw [if_neg h]
    obtain ⟨r, z1, e1, r0, r1⟩ := next_ok hs a z h0 (by omega)
    rw [e1, Option.bind_some]
    have hz : ¬ n = 0 := by omega
    by_cases h' : n > 200
    · obtain ⟨q, z2, e2, q0, q1⟩ := next_ok hs (a + 1) z1 (by omega) (by omega)
      rw [if_pos h', e2, Option.bind_some, if_neg hz]
      have e : wrap64 (wrap64 (r * 256) + q) = r * 256 + q := by rw [wr (x := r * 256) (by omega) (by omega), wr (by omega) (by omega)]
      rw [e, Int.tmod_eq_emod_of_nonneg (by omega)]
      have b0 := Int.emod_nonneg (r * 256 + q) hz
      have b1 := Int.emod_lt_of_pos (r * 256 + q) (show 0 < n by omega)
      exact ⟨_, _, _, rfl, b0, fun _ => b1, by omega, (by show a ≤ a + 1 + 1; omega), (by show a + 1 + 1 ≤ a + 2; omega)⟩
    · rw [if_neg h', if_neg hz, Int.tmod_eq_emod_of_nonneg r0]
      have b0 := Int.emod_nonneg r hz
      have b1 := Int.emod_lt_of_pos r (show 0 < n by omega)
      exact ⟨_, _, _, rfl, b0, fun _ => b1, by omega, (by show a ≤ a + 1; omega), (by show a + 1 ≤ a + 2; omega)⟩
theorem byt_of {s : List Int} (hs : ∀ x ∈ s, (Lit.int .u8 x).wf = true) : Byt s := by
  intro x hx
  have := hs x hx
  simp [Lit.wf, IntKind.min, IntKind.max, IntKind.bits, IntKind.signed] at this
  omega

theorem among_ok {s : List Int} (hs : Byt s) (a z : Int) (l : List Int) (h0 : 0 ≤ a) (h1 : a ≤ 100000000000) (hl : 1 ≤ l.length) (hl' : l.length ≤ 1000) : ∃ r a' z', spec_l1Cur_among.f s a z l = some (r, a', z') ∧ r ∈ l ∧ a ≤ a' ∧ a' ≤ a + 2 := by
  unfold spec_l1Cur_among.f
  obtain ⟨r, a', z', e, r0, r1, _, r2, r3⟩ := pick_ok hs a z (l.length : Int) h0 h1 (by omega)
  have r4 := r1 (by omega)
  rw [e, Option.bind_some, if_pos r0, if_pos r4]
  refine ⟨_, _, _, rfl, ?_, r2, r3⟩
  unfold rd
  rw [List.getD_eq_getElem?_getD, List.getElem?_eq_getElem (by omega)]
  exact List.getElem_mem _

/-! drawpower: what FnShared draws -/
theorem secret_ok {s : List Int} (hs : Byt s) (a z : Int) (h0 : 0 ≤ a) (h1 : a ≤ 1000000) : ∃ r a' z', spec_l1Cur_secret.f s a z = some (r, a', z') ∧ a ≤ a' ∧ a' ≤ a + 8 := by
  unfold spec_l1Cur_secret.f
  obtain ⟨r1, a1, z1, e1, _, _, _, u1, v1⟩ := pick_ok hs a z 250 h0 (by omega) (by omega)
  obtain ⟨r2, a2, z2, e2, _, _, _, u2, v2⟩ := pick_ok hs a1 z1 250 (by omega) (by omega) (by omega)
  obtain ⟨r3, a3, z3, e3, _, _, _, u3, v3⟩ := pick_ok hs a2 z2 250 (by omega) (by omega) (by omega)
  rw [e1, Option.bind_some, e2, Option.bind_some, e3, Option.bind_some]
  obtain ⟨r4, a4, z4, e4, _, u4, v4⟩ := among_ok hs a3 z3 ([0, 1, 2, 7, 1498, 1499, wrap64 (1 + (wrap64 (r1 * 5))), wrap64 (1 + (wrap64 (r2 * 5))), wrap64 (1 + (wrap64 (r3 * 5)))] : List Int) (by omega) (by omega) (by simp) (by simp)
  rw [e4, Option.bind_some]
  exact ⟨_, a4, z4, rfl, by omega, by omega⟩
theorem drawpublic_ok {s : List Int} (hs : Byt s) : ∃ r, spec_DrawPublicFor.f s = some r := by
  unfold spec_DrawPublicFor.f
  obtain ⟨r, a, z, e, _, _⟩ := secret_ok hs 0 0 (by omega) (by omega)
  rw [e, Option.bind_some]
  exact ⟨_, rfl⟩
theorem drawpower_ok {s : List Int} (hs : Byt s) : ∃ r, spec_DrawPowerOf.f s = some r := by
  unfold spec_DrawPowerOf.f
  obtain ⟨r1, a1, z1, e1, _, _, _, u1, v1⟩ := pick_ok hs 0 0 250 (by omega) (by omega) (by omega)
  rw [e1, Option.bind_some]
  obtain ⟨r2, a2, z2, e2, _, u2, v2⟩ := among_ok hs a1 z1 ([0, 1, 2, 4, 2998, 2999, wrap64 (1 + (wrap64 (r1 * 11)))] : List Int) (by omega) (by omega) (by simp) (by simp)
  rw [e2, Option.bind_some]
  obtain ⟨r3, a3, z3, e3, _, _, _, u3, v3⟩ := pick_ok hs a2 z2 250 (by omega) (by omega) (by omega)
  rw [e3, Option.bind_some]
  obtain ⟨r4, a4, z4, e4, _, u4, v4⟩ := among_ok hs a3 z3 ([(-1), 0, 1, 1499, 2998, 1000000, 1000001, r3] : List Int) (by omega) (by omega) (by simp) (by simp)
  rw [e4, Option.bind_some]
  exact ⟨_, rfl⟩
theorem member_ok {k : Nat} (hk : 3000 < k) {s : List Int} (hs : Byt s) (a z : Int) (h0 : 0 ≤ a) (h1 : a ≤ 1000000) : ∃ r a' z', spec_l1Cur_member.f k s a z = some (r, a', z') ∧ a ≤ a' ∧ a' ≤ a + 8 := by
  unfold spec_l1Cur_member.f spec_l1Cur_one.f
  obtain ⟨r1, a1, z1, e1, _, _, _, u1, v1⟩ := pick_ok hs a z 8 h0 (by omega) (by omega)
  rw [e1, Option.bind_some, Option.bind_some]
  by_cases h : (r1 == 0) = true
  · rw [if_pos h]
    obtain ⟨r2, a2, z2, e2, _, u2, v2⟩ := among_ok hs a1 z1 ([0, 1, 2, 3, 2998, 2999] : List Int) (by omega) (by omega) (by simp) (by simp)
    rw [e2, Option.bind_some]
    exact ⟨_, a2, z2, rfl, by omega, by omega⟩
  · rw [if_neg h]
    obtain ⟨r2, a2, z2, e2, p0, p1, _, u2, v2⟩ := pick_ok hs a1 z1 256 (by omega) (by omega) (by omega)
    have := p1 (by omega)
    rw [e2, Option.bind_some, wr (by omega) (by omega), spec_pow 4 (r2 * 6) (by omega) (by omega) (by omega) (by omega) (by omega), Option.bind_some]
    exact ⟨_, a2, z2, rfl, by omega, by omega⟩
theorem drawshared_ok {k : Nat} (hk : 3000 < k) {s : List Int} (hs : Byt s) : ∃ r, spec_DrawSharedOf.f k s = some r := by
  unfold spec_DrawSharedOf.f
  obtain ⟨r1, a1, z1, e1, u1, v1⟩ := secret_ok hs 0 0 (by omega) (by omega)
  rw [e1, Option.bind_some]
  obtain ⟨r2, a2, z2, e2, _, _⟩ := member_ok hk hs a1 z1 (by omega) (by omega)
  rw [e2, Option.bind_some]
  exact ⟨_, rfl⟩
theorem drawmember_ok {k : Nat} (hk : 3000 < k) {s : List Int} (hs : Byt s) : ∃ r, spec_DrawIsMember.f k s = some r := by
  unfold spec_DrawIsMember.f
  obtain ⟨r2, a2, z2, e2, _, _⟩ := member_ok hk hs 0 0 (by omega) (by omega)
  rw [e2, Option.bind_some]
  exact ⟨_, rfl⟩

theorem mem_gen (x a e : Int) (he : 0 < e) (h : pw x e = 1) : pw (pw x a) e = 1 ∧ 1 ≤ pw x a := by
  have h' : x.toNat ^ e.toNat % 2999 = 1 := Int.ofNat.inj h
  have h1 : ((x.toNat ^ a.toNat % 2999) ^ e.toNat) % 2999 = 1 := by
    rw [← Nat.pow_mod, ← Nat.pow_mul, Nat.mul_comm, Nat.pow_mul, Nat.pow_mod, h']
    simp
  have hne : x.toNat ^ a.toNat % 2999 ≠ 0 := fun h0 => by
    rw [h0, Nat.zero_pow (by omega)] at h1
    simp at h1
  have e1 : (pw x a).toNat = x.toNat ^ a.toNat % 2999 := Int.toNat_natCast _
  constructor
  · show (((pw x a).toNat ^ e.toNat % 2999 : Nat) : Int) = 1
    rw [e1, h1]; rfl
  · have h0 := pw_lo x a
    generalize x.toNat ^ a.toNat % 2999 = y at *
    omega
theorem mem_of (x a : Int) (h : pw x 1499 = 1) : mem (pw x a) = true := by
  obtain ⟨h1, h2⟩ := mem_gen x a 1499 (by omega) h
  have h3 := pw_hi x a
  show (decide (1 ≤ pw x a) && decide (pw x a ≤ 2998) && (pw (pw x a) 1499 == 1)) = true
  rw [h1]
  simp
  omega
theorem pw_mem4 (a : Int) : mem (pw 4 a) = true := mem_of 4 a (by decide +kernel)
theorem pw_comm (a b : Int) : pw (pw 4 b) a = pw (pw 4 a) b := by
  unfold pw
  have h1 : (4 : Int).toNat = 4 := rfl
  rw [h1, Int.toNat_natCast, Int.toNat_natCast, ← Nat.pow_mod, ← Nat.pow_mod, ← Nat.pow_mul, ← Nat.pow_mul, Nat.mul_comm]
theorem pw_pow_mem (x : Int) (a : Int) (hx : mem x = true) : mem (pw x a) = true := mem_of x a (beq_iff_eq.1 (Bool.and_eq_true_iff.1 hx).2)
theorem fermat_all : (List.range 2999).all (fun n => n == 0 || (n * (n ^ 2997 % 2999) % 2999 == 1 && n ^ 2998 % 2999 == 1)) = true := by decide +kernel
theorem fermat (n : Int) (h0 : 1 ≤ n) (h1 : n ≤ 2998) : n * pw n 2997 % 2999 = 1 ∧ pw n 2998 = 1 := by
  have := List.all_eq_true.1 fermat_all n.toNat (List.mem_range.2 (by omega))
  obtain ⟨m, rfl⟩ := Int.eq_ofNat_of_zero_le (show 0 ≤ n by omega)
  rw [Int.toNat_natCast] at this
  have hm : (m == 0) = false := by simp; omega
  rw [hm, Bool.false_or, Bool.and_eq_true, beq_iff_eq, beq_iff_eq] at this
  unfold pw
  rw [Int.toNat_natCast, show (2997 : Int).toNat = 2997 from rfl, show (2998 : Int).toNat = 2998 from rfl]
  refine ⟨?_, by rw [this.2]; rfl⟩
  have h2 := this.1
  generalize m ^ 2997 % 2999 = y at *
  rw [← Int.natCast_mul]
  omega
def pubR (a : Int) : Int × Bool := if sec a = true then (pw 4 a, true) else (0, false)
theorem shared_j4 {k : Nat} (hk : 2500000 < k) {more : List Int} (hb : Byt more) : laws_FnShared.j4 (k + 1) more = some true := by
  simp only [laws_FnShared.j4]
  obtain ⟨r, e⟩ := drawshared_ok (k := k) (by omega) hb
  obtain ⟨m, e'⟩ := drawmember_ok (k := k) (by omega) hb
  rw [e, Option.bind_some, impl_shared (by omega), Option.bind_some, spec_shared (by omega), Option.bind_some, e', Option.bind_some, beq_self_eq_true, if_pos rfl, if_pos rfl, impl_mem (by omega), Option.bind_some, spec_mem (by omega), Option.bind_some, beq_self_eq_true]
theorem shared_j3 {k : Nat} (hk : 2500000 < k) {more : List Int} (hb : Byt more) (n : Int) (two : Bool) (h : two = true → 1 ≤ n ∧ n ≤ 2998) : laws_FnShared.j3 (k + 2) more n two false = some true := by
  simp only [laws_FnShared.j3, Bool.false_eq_true, if_false]
  cases two with
  | false => rw [if_neg Bool.false_ne_true]; exact shared_j4 hk hb
  | true =>
    obtain ⟨h0, h1⟩ := h rfl
    obtain ⟨r, _, e, er⟩ := power_of (k := k + 1) (by omega) n 2998
    have hc : 1 ≤ n ∧ n ≤ 2998 ∧ (0 : Int) ≤ 2998 ∧ (2998 : Int) ≤ 1000000 := ⟨h0, h1, by omega, by omega⟩
    rw [if_pos rfl, e, Option.bind_some, er, if_pos hc]
    simp only [if_true]
    rw [if_pos (fermat n h0 h1).2]
    exact shared_j4 hk hb
theorem shared_j2 {k : Nat} (hk : 2500000 < k) {more : List Int} (hb : Byt more) : laws_FnShared.j2 (k + 3) more = some true := by
  simp only [laws_FnShared.j2]
  obtain ⟨⟨n, x⟩, e⟩ := drawpower_ok hb
  obtain ⟨r, e1, e2, er⟩ := power_of (k := k + 2) (by omega) n x
  obtain ⟨q, f1, f2, fr⟩ := inverse_of (k := k + 2) (by omega) n
  rw [e, Option.bind_some, e2, Option.bind_some, e1, Option.bind_some, f2, Option.bind_some, f1, Option.bind_some]
  simp only [bne_self_eq_false, Bool.false_eq_true, if_false, if_true]
  have hr : r.2 = true → 1 ≤ n ∧ n ≤ 2998 := by
    intro h
    by_cases c : 1 ≤ n ∧ n ≤ 2998 ∧ 0 ≤ x ∧ x ≤ 1000000
    · exact ⟨c.1, c.2.1⟩
    · rw [er, if_neg c] at h; cases h
  by_cases c : 1 ≤ n ∧ n ≤ 2998
  · rw [if_pos c] at fr
    rw [fr]
    have hf := (fermat n c.1 c.2).1
    have hp := pw_lo n 2997
    have hp' := pw_hi n 2997
    have hm := Int.mul_nonneg (show 0 ≤ n by omega) hp
    have hm' := Int.mul_le_mul c.2 hp' hp (show (0 : Int) ≤ 2998 by omega)
    have ht : (Int.tmod (wrap64 (n * pw n 2997)) 2999 != 1) = false := by
      rw [wr (by omega) (by omega), Int.tmod_eq_emod_of_nonneg hm, hf]; rfl
    simp only [if_true]
    rw [ht]
    exact shared_j3 hk hb n r.2 hr
  · rw [if_neg c] at fr
    rw [fr]
    simp only [Bool.false_eq_true, if_false]
    exact shared_j3 hk hb n r.2 hr
theorem FnShared : ∀ (l0 : List Int) (l1 : List Int), l0.length ≤ maxLen → (∀ n ∈ l0, (Lit.int .u8 n).wf = true) → l1.length ≤ maxLen → (∀ n ∈ l1, (Lit.int .u8 n).wf = true) → ∃ k, laws_FnShared.f k l0 l1 = some true := by
  intro code more hl1 hc hl3 hm
  unfold maxLen at hl1 hl3
  refine rounds_of 3000000 fun k hk => ?_
  obtain ⟨k, rfl⟩ : ∃ j, k = j + 5 := ⟨k - 5, by omega⟩
  unfold laws_FnShared.f
  by_cases h : wrap64 ((code.length : Int) + (more.length : Int)) > 1048576
  · rw [if_pos h]
  · rw [if_neg h]
    have hb1 : Byt code := byt_of hc
    have hb2 : Byt more := byt_of hm
    obtain ⟨a, ea⟩ := drawpublic_ok hb1
    obtain ⟨b, eb⟩ := drawpublic_ok hb2
    rw [ea, Option.bind_some, eb, Option.bind_some, impl_public (by omega), Option.bind_some, spec_public (by omega), Option.bind_some, impl_public (by omega), Option.bind_some]
    simp only [bne_self_eq_false, Bool.false_eq_true, if_false]
    simp only [laws_FnShared.j0, Bool.false_eq_true, if_false]
    have hj := shared_j2 (k := k) (by omega) hb2
    by_cases sa : sec a = true
    · rw [if_pos sa]
      by_cases sb : sec b = true
      · rw [if_pos sb]
        simp only [if_true, laws_FnShared.j1]
        have c1 : sec a = true ∧ mem (pw 4 b) = true := ⟨sa, pw_mem4 b⟩
        have c2 : sec b = true ∧ mem (pw 4 a) = true := ⟨sb, pw_mem4 a⟩
        rw [impl_shared (by omega), impl_shared (by omega), Option.bind_some, Option.bind_some, if_pos c1, if_pos c2]
        simp only [if_true]
        rw [if_pos (pw_comm a b), impl_mem (by omega), Option.bind_some, pw_mem4, if_pos rfl, impl_mem (by omega), Option.bind_some, pw_pow_mem _ _ (pw_mem4 b), if_pos rfl]
        exact hj
      · rw [if_neg sb]
        simp only [if_true, laws_FnShared.j1, Bool.false_eq_true, if_false]
        exact hj
    · rw [if_neg sa]
      simp only [Bool.false_eq_true, if_false, laws_FnShared.j1]
      exact hj

end Go.Proofs.Ytoigapileicelaa.Pure
