/- UnmixText answers as the reference does and leaves its argument alone, for every list, number and text (the plain half). -/
import Derived.Test.YtoigapileicelaaPFnExactUnmixTextx
set_option linter.unusedVariables false
set_option linter.unusedSimpArgs false
namespace Go.Proofs.Ytoigapileicelaa.Pure
open Go.RowKit Go.Proofs.Ytoigapileicelaa.PFnExactUnmixText Go.Proofs.YtoigapileicelaaW.PrintWords Go.Proofs.YtoigapileicelaaW.PrintLast Go.Proofs.YtoigapileicelaaW.PrintMore

/-! base: sums of int that stay in range; `tmod` and `tdiv` of what is not negative -/
theorem wr {x : Int} (h1 : -9223372036854775808 ≤ x) (h2 : x ≤ 9223372036854775807) : wrap64 x = x := by
  unfold wrap64; omega
theorem tmod_pos {a b : Int} (h : 0 ≤ a) : Int.tmod a b = a % b := Int.tmod_eq_emod_of_nonneg h
theorem tdiv_pos {a b : Int} (h : 0 ≤ a) : Int.tdiv a b = a / b := Int.tdiv_eq_ediv_of_nonneg h
theorem rounds_of {α : Type} {g : Nat → Option α} {r : α} (N : Nat) (h : ∀ k, N < k → g k = some r) : ∃ k, g k = some r := ⟨N + 1, h _ (Nat.lt_succ_self N)⟩

/-! lists: reading a list at a place; a copy of a list; a list is like itself -/
theorem rd_at (xs : List Int) (i : Nat) (h : i < xs.length) : rd xs (i : Int) = xs[i] := by
  simp [rd, List.getD_eq_getElem?_getD, h]
theorem wr_succ (i : Nat) (h : i < 9000000000000000000) : wrap64 ((i : Int) + 1) = ((i + 1 : Nat) : Int) := by
  rw [wr (by omega) (by omega)]; omega
theorem same_list {α : Type} {xs ys : List α} (hl : ys.length = xs.length) (h : ∀ j, j < xs.length → ys[j]? = xs[j]?) : ys = xs := by
  apply List.ext_getElem?
  intro j
  by_cases hj : j < xs.length
  · exact h j hj
  · rw [List.getElem?_eq_none (by omega), List.getElem?_eq_none (by omega)]
theorem set_upto {α : Type} {xs ys : List α} {i : Nat} (hl : ys.length = xs.length) (hi : i < xs.length) (h : ∀ j, j < i → ys[j]? = xs[j]?) :
    ∀ j, j < i + 1 → (ys.set i xs[i])[j]? = xs[j]? := by
  intro j hj
  rw [List.getElem?_set]
  by_cases e : i = j
  · subst e; rw [if_pos rfl, if_pos (by omega), List.getElem?_eq_getElem hi]
  · rw [if_neg e]; exact h j (by omega)

/-! toints: laws.toIntS copies -/
theorem toIntS_loop (xs : List Int) (hn : xs.length ≤ 35184372088832) (d : Nat) : ∀ (k : Nat) (ys : List Int) (i : Nat), ys.length = xs.length → (∀ j, j < i → ys[j]? = xs[j]?) → i + d = xs.length → d < k →
    laws_toIntS.l0 k xs ys (i : Int) = some xs := by
  induction d with
  | zero =>
    intro k ys i hl h hd hk
    obtain ⟨k, rfl⟩ : ∃ m, k = m + 1 := ⟨k - 1, by omega⟩
    simp only [laws_toIntS.l0]
    rw [if_neg (by omega), same_list hl (fun j hj => h j (by omega))]
  | succ d ih =>
    intro k ys i hl h hd hk
    obtain ⟨k, rfl⟩ : ∃ m, k = m + 1 := ⟨k - 1, by omega⟩
    have hi : i < xs.length := by omega
    have h1 : (i : Int) < (xs.length : Int) := by omega
    have h2 : (0 : Int) ≤ (i : Int) := by omega
    have h3 : (i : Int) < (ys.length : Int) := by omega
    simp only [laws_toIntS.l0]
    rw [if_pos h1, if_pos h2, if_pos h3, rd_at xs i hi, wr_succ i (by omega), Int.toNat_natCast]
    exact ih k _ (i + 1) (by simpa using hl) (set_upto hl hi h) (by omega) (by omega)
theorem toIntS_eq {k : Nat} (xs : List Int) (hn : xs.length ≤ 35184372088832) (hk : xs.length < k) : laws_toIntS.f k xs = some xs := by
  unfold laws_toIntS.f
  rw [if_pos (by omega), if_pos (by omega)]
  exact toIntS_loop xs hn xs.length k _ 0 (by simp) (fun j hj => by omega) (by omega) hk

/-! eqints: laws.eqIntS says that a list is itself -/
theorem eqIntS_loop (xs : List Int) (hn : xs.length ≤ 35184372088832) (d : Nat) : ∀ (k : Nat) (i : Nat), i + d = xs.length → d < k → laws_eqIntS.l0 k xs xs (i : Int) = some true := by
  induction d with
  | zero =>
    intro k i hd hk
    obtain ⟨k, rfl⟩ : ∃ m, k = m + 1 := ⟨k - 1, by omega⟩
    simp only [laws_eqIntS.l0]
    rw [if_neg (by omega)]
  | succ d ih =>
    intro k i hd hk
    obtain ⟨k, rfl⟩ : ∃ m, k = m + 1 := ⟨k - 1, by omega⟩
    have h1 : (i : Int) < (xs.length : Int) := by omega
    have h2 : (0 : Int) ≤ (i : Int) := by omega
    simp only [laws_eqIntS.l0, if_pos h1, if_pos h2, if_true, wr_succ i (by omega)]
    exact ih k (i + 1) (by omega) (by omega)
theorem eqIntS_self {k : Nat} (xs : List Int) (hn : xs.length ≤ 35184372088832) (hk : xs.length < k) : laws_eqIntS.f k xs xs = some true := by
  unfold laws_eqIntS.f
  rw [if_pos rfl]
  exact eqIntS_loop xs hn xs.length k 0 (by omega) hk

/-! in: between two numbers -/
theorem within_eq (a b c : Int) : impl_within.f a b c = spec_l1In.f a b c := rfl
theorem in_some (a b c : Int) : spec_l1In.f a b c = some (decide (b ≤ a) && decide (a ≤ c)) := by
  unfold spec_l1In.f
  by_cases h : a ≥ b
  · rw [if_pos h]; have : b ≤ a := h; simp [this]
  · rw [if_neg h]; have : ¬ b ≤ a := h; simp [this]

/-! inall: all numbers of a list between two numbers -/
def inAll (lo hi : Int) (xs : List Int) : Bool := xs.all fun x => decide (lo ≤ x) && decide (x ≤ hi)
theorem inAll_mem {lo hi : Int} {xs : List Int} (h : inAll lo hi xs = true) : ∀ x ∈ xs, lo ≤ x ∧ x ≤ hi := by
  intro x hx
  have := List.all_eq_true.1 h x hx
  simpa using this

/-! sall: all numbers of a list between two numbers, in the reference -/
theorem all_loop (lo up : Int) (xs : List Int) (hn : xs.length ≤ 35184372088832) (d : Nat) : ∀ (k : Nat) (i : Nat), i + d = xs.length → d < k →
    spec_l1All.l0 k lo up xs (xs.length : Int) (i : Int) = some (inAll lo up (xs.drop i)) := by
  induction d with
  | zero =>
    intro k i hd hk
    obtain ⟨k, rfl⟩ : ∃ m, k = m + 1 := ⟨k - 1, by omega⟩
    simp only [spec_l1All.l0]
    rw [if_neg (by omega), List.drop_of_length_le (by omega)]; rfl
  | succ d ih =>
    intro k i hd hk
    obtain ⟨k, rfl⟩ : ∃ m, k = m + 1 := ⟨k - 1, by omega⟩
    have hi : i < xs.length := by omega
    have h1 : (i : Int) < (xs.length : Int) := by omega
    have h2 : (0 : Int) ≤ (i : Int) := by omega
    simp only [spec_l1All.l0]
    rw [if_pos h1, if_pos h2, if_pos h1, rd_at xs i hi, in_some, wr_succ i (by omega), ih k (i + 1) (by omega) (by omega), List.drop_eq_getElem_cons hi]
    simp only [Option.bind_some, inAll, List.all_cons]
    generalize (decide (lo ≤ xs[i]) && decide (xs[i] ≤ up)) = b
    cases b <;> simp
theorem spec_all {k : Nat} (lo hi : Int) (xs : List Int) (hn : xs.length ≤ 35184372088832) (hk : xs.length < k) : spec_l1All.f k xs lo hi = some (inAll lo hi xs) := by
  unfold spec_l1All.f
  have := all_loop lo hi xs hn xs.length k 0 (by omega) hk
  simpa using this

/-! iall: all numbers of a list between two numbers, in the program -/
theorem iall_loop (lo up : Int) (xs : List Int) (hn : xs.length ≤ 35184372088832) (d : Nat) : ∀ (k : Nat) (i : Nat), i + d = xs.length → d < k →
    impl_allWithin.l0 k lo up xs (xs.length : Int) (i : Int) = some (inAll lo up (xs.drop i)) := by
  induction d with
  | zero =>
    intro k i hd hk
    obtain ⟨k, rfl⟩ : ∃ m, k = m + 1 := ⟨k - 1, by omega⟩
    simp only [impl_allWithin.l0]
    rw [if_neg (by omega), List.drop_of_length_le (by omega)]; rfl
  | succ d ih =>
    intro k i hd hk
    obtain ⟨k, rfl⟩ : ∃ m, k = m + 1 := ⟨k - 1, by omega⟩
    have hi : i < xs.length := by omega
    have h1 : (i : Int) < (xs.length : Int) := by omega
    have h2 : (0 : Int) ≤ (i : Int) := by omega
    simp only [impl_allWithin.l0]
    rw [if_pos h1, if_pos h2, if_pos h1, rd_at xs i hi, within_eq, in_some, wr_succ i (by omega), ih k (i + 1) (by omega) (by omega), List.drop_eq_getElem_cons hi]
    simp only [Option.bind_some, inAll, List.all_cons]
    generalize (decide (lo ≤ xs[i]) && decide (xs[i] ≤ up)) = b
    cases b <;> simp
theorem impl_all {k : Nat} (lo hi : Int) (xs : List Int) (hn : xs.length ≤ 35184372088832) (hk : xs.length < k) : impl_allWithin.f k xs lo hi = some (inAll lo hi xs) := by
  unfold impl_allWithin.f
  have := iall_loop lo hi xs hn xs.length k 0 (by omega) hk
  simpa using this


/-! keys: keys and blocks, in both texts -/
def goodKeys (keys : List Int) : Bool := decide ((keys.length : Int) ≤ 8) && inAll 0 65535 keys
def goodKey (b : Int) : Bool := decide (0 ≤ b) && decide (b ≤ 65535)
theorem goodKey_range {b : Int} (h : goodKey b = true) : 0 ≤ b ∧ b ≤ 65535 := by simpa [goodKey] using h
theorem goodKeys_len {keys : List Int} (h : goodKeys keys = true) : keys.length ≤ 8 := by
  simp [goodKeys] at h; omega
theorem goodKeys_mem {keys : List Int} (h : goodKeys keys = true) : ∀ x ∈ keys, 0 ≤ x ∧ x ≤ 65535 := by
  simp [goodKeys] at h; exact inAll_mem h.2
theorem spec_key (b : Int) : spec_l4Key.f b = some (goodKey b) := by simp [spec_l4Key.f, in_some, goodKey]
theorem impl_key (b : Int) : impl_isKey.f b = some (goodKey b) := by simp [impl_isKey.f, within_eq, in_some, goodKey]
theorem spec_keys {k : Nat} (keys : List Int) (hn : keys.length ≤ 35184372088832) (hk : keys.length < k) : spec_l4Keys.f k keys = some (goodKeys keys) := by
  unfold spec_l4Keys.f goodKeys
  by_cases h : (keys.length : Int) ≤ 8
  · rw [if_pos h, spec_all 0 65535 keys hn hk]; simp [h]
  · rw [if_neg h]; simp [h]
theorem impl_keys {k : Nat} (keys : List Int) (hn : keys.length ≤ 35184372088832) (hk : keys.length < k) : impl_areKeys.f k keys = some (goodKeys keys) := by
  unfold impl_areKeys.f goodKeys
  by_cases h : (keys.length : Int) ≤ 8
  · rw [if_pos h, impl_all 0 65535 keys hn hk]; simp [h]
  · rw [if_neg h]; simp [h]

/-! xor: bits of small numbers unlike each other -/
def xr (a b : Int) : Int := Go.bits .xor .i64 a b
theorem xor_nat (a b : Nat) (ha : a < 2 ^ 16) (hb : b < 2 ^ 16) : Go.bits .xor .i64 (a : Int) (b : Int) = ((a ^^^ b : Nat) : Int) := by
  have hx : a ^^^ b < 2 ^ 16 := Nat.xor_lt_two_pow ha hb
  have ha' : a % 2 ^ IntKind.i64.bits = a := Nat.mod_eq_of_lt (Nat.lt_of_lt_of_le ha (by decide))
  have hb' : b % 2 ^ IntKind.i64.bits = b := Nat.mod_eq_of_lt (Nat.lt_of_lt_of_le hb (by decide))
  simp only [Go.bits, BitVec.ofInt_natCast, BitVec.toNat_xor, BitVec.toNat_ofNat, ha', hb']
  rw [Go.IntKind.wrap_i64]
  omega
theorem xr_nat (j : Nat) (hj : j ≤ 16) {a b : Int} (ha : 0 ≤ a) (ha' : a < 2 ^ j) (hb : 0 ≤ b) (hb' : b < 2 ^ j) : ∃ m n : Nat, a = m ∧ b = n ∧ m < 2 ^ j ∧ n < 2 ^ j ∧ xr a b = ((m ^^^ n : Nat) : Int) ∧ m ^^^ n < 2 ^ j := by
  obtain ⟨m, rfl⟩ := Int.eq_ofNat_of_zero_le ha
  obtain ⟨n, rfl⟩ := Int.eq_ofNat_of_zero_le hb
  have hm : m < 2 ^ j := by exact_mod_cast ha'
  have hn : n < 2 ^ j := by exact_mod_cast hb'
  have hp : 2 ^ j ≤ 2 ^ 16 := Nat.pow_le_pow_right (by decide) hj
  exact ⟨m, n, rfl, rfl, hm, hn, xor_nat m n (Nat.lt_of_lt_of_le hm hp) (Nat.lt_of_lt_of_le hn hp), Nat.xor_lt_two_pow hm hn⟩
theorem xr8 {a b : Int} (ha : 0 ≤ a) (ha' : a ≤ 255) (hb : 0 ≤ b) (hb' : b ≤ 255) : 0 ≤ xr a b ∧ xr a b ≤ 255 ∧ xr (xr a b) b = a := by
  obtain ⟨m, n, rfl, rfl, hm, hn, e, hl⟩ := xr_nat 8 (by decide) ha (by omega) hb (by omega)
  rw [e]
  refine ⟨by omega, by omega, ?_⟩
  unfold xr
  rw [xor_nat _ _ (by omega) (by omega), Nat.xor_assoc, Nat.xor_self, Nat.xor_zero]
theorem xr16 {a b : Int} (ha : 0 ≤ a) (ha' : a ≤ 65535) (hb : 0 ≤ b) (hb' : b ≤ 65535) : 0 ≤ xr a b ∧ xr a b ≤ 65535 ∧ xr (xr a b) b = a := by
  obtain ⟨m, n, rfl, rfl, hm, hn, e, hl⟩ := xr_nat 16 (by decide) ha (by omega) hb (by omega)
  rw [e]
  refine ⟨by omega, by omega, ?_⟩
  unfold xr
  rw [xor_nat _ _ (by omega) (by omega), Nat.xor_assoc, Nat.xor_self, Nat.xor_zero]
theorem or8 {a b : Int} (ha : 0 ≤ a) (ha' : a ≤ 255) (hb : 0 ≤ b) (hb' : b ≤ 255) : Go.bits .or .i64 (wrap64 (a * 256)) b = 256 * a + b := by
  rw [wr (by omega) (by omega)]
  rw [Go.bits_join .i64 16 (by decide) (fun n h h' => by rw [Go.IntKind.wrap_i64]; omega) 8 (a * 256) b (by omega) (by omega) (by omega) hb (by omega) (by omega)]
  omega

/-! round: what a round makes of a half -/
def rnd (key half : Int) : Int := (((half + key % 256) % 256 * ((half + key % 256) % 256) + (half + key % 256) % 256 * (key / 256) + 29) % 65521) % 256
theorem rnd_range (a b : Int) : 0 ≤ rnd a b ∧ rnd a b ≤ 255 := by unfold rnd; omega
theorem spec_rnd {a b : Int} (ha : 0 ≤ a) (ha' : a ≤ 65535) (hb : 0 ≤ b) (hb' : b ≤ 255) : spec_l4Round.f a b = some (rnd a b) := by
  unfold spec_l4Round.f rnd
  have hx0 : 0 ≤ (b + a % 256) % 256 := by omega
  have hx1 : (b + a % 256) % 256 ≤ 255 := by omega
  have hy0 : 0 ≤ a / 256 := by omega
  have hy1 : a / 256 ≤ 255 := by omega
  rw [tmod_pos ha, tdiv_pos ha, wr (x := b + a % 256) (by omega) (by omega), tmod_pos (a := b + a % 256) (by omega)]
  rw [wr (x := a / 256) (by omega) (by omega)]
  generalize (b + a % 256) % 256 = x at *
  generalize a / 256 = y at *
  have h1 : 0 ≤ x * x := Int.mul_nonneg hx0 hx0
  have h2 : x * x ≤ 255 * 255 := Int.mul_le_mul hx1 hx1 hx0 (by omega)
  have h3 : 0 ≤ x * y := Int.mul_nonneg hx0 hy0
  have h4 : x * y ≤ 255 * 255 := Int.mul_le_mul hx1 hy1 hy0 (by omega)
  rw [wr (x := x * x) (by omega) (by omega), wr (x := x * y) (by omega) (by omega), wr (x := x * x + x * y) (by omega) (by omega), wr (x := x * x + x * y + 29) (by omega) (by omega)]
  rw [tmod_pos (a := x * x + x * y + 29) (by omega), tmod_pos (by omega)]


/-! mixf: rounds, one behind the other, and back -/
def mixF : List Int → Int × Int → Int × Int
  | [], p => p
  | k :: ks, p => mixF ks (p.2, xr p.1 (rnd k p.2))
def unmixF : List Int → Int × Int → Int × Int
  | [], p => p
  | k :: ks, p => unmixF ks (xr p.2 (rnd k p.1), p.1)
def half2 (p : Int × Int) : Prop := (0 ≤ p.1 ∧ p.1 ≤ 255) ∧ (0 ≤ p.2 ∧ p.2 ≤ 255)
def joined (p : Int × Int) : Int := p.1 * 256 + p.2
def parted (b : Int) : Int × Int := (b / 256, b % 256)
theorem parted_half {b : Int} (h : 0 ≤ b) (h' : b ≤ 65535) : half2 (parted b) := by unfold half2 parted; omega
theorem joined_range {p : Int × Int} (h : half2 p) : 0 ≤ joined p ∧ joined p ≤ 65535 := by
  obtain ⟨a, b⟩ := p
  obtain ⟨h1, h2⟩ := h
  simp only at h1 h2
  simp only [joined]; omega
theorem parted_joined {p : Int × Int} (h : half2 p) : parted (joined p) = p := by
  obtain ⟨a, b⟩ := p
  obtain ⟨h1, h2⟩ := h
  simp only at h1 h2
  simp only [joined, parted, Prod.mk.injEq]; omega
theorem joined_parted (b : Int) : joined (parted b) = b := by simp only [joined, parted]; omega
theorem step_half {p : Int × Int} (h : half2 p) (k : Int) : half2 (p.2, xr p.1 (rnd k p.2)) := by
  have hr := rnd_range k p.2
  have := xr8 h.1.1 h.1.2 hr.1 hr.2
  exact ⟨h.2, this.1, this.2.1⟩
theorem unstep_half {p : Int × Int} (h : half2 p) (k : Int) : half2 (xr p.2 (rnd k p.1), p.1) := by
  have hr := rnd_range k p.1
  have := xr8 h.2.1 h.2.2 hr.1 hr.2
  exact ⟨⟨this.1, this.2.1⟩, h.1⟩
theorem mixF_half (ks : List Int) : ∀ {p : Int × Int}, half2 p → half2 (mixF ks p) := by
  induction ks with
  | nil => intro p h; exact h
  | cons k ks ih => intro p h; exact ih (step_half h k)
theorem unmixF_half (ks : List Int) : ∀ {p : Int × Int}, half2 p → half2 (unmixF ks p) := by
  induction ks with
  | nil => intro p h; exact h
  | cons k ks ih => intro p h; exact ih (unstep_half h k)
theorem unmixF_append (ms bs : List Int) : ∀ p, unmixF (ms ++ bs) p = unmixF bs (unmixF ms p) := by
  induction ms with
  | nil => intro p; rfl
  | cons a ms ih => intro p; exact ih _
theorem mixF_append (ms bs : List Int) : ∀ p, mixF (ms ++ bs) p = mixF bs (mixF ms p) := by
  induction ms with
  | nil => intro p; rfl
  | cons a ms ih => intro p; exact ih _
theorem unmix_mix (ks : List Int) : ∀ {p : Int × Int}, half2 p → unmixF ks.reverse (mixF ks p) = p := by
  induction ks with
  | nil => intro p h; rfl
  | cons k ks ih =>
    intro p h
    rw [List.reverse_cons, unmixF_append]
    simp only [mixF]
    rw [ih (step_half h k)]
    simp only [unmixF]
    have hr := rnd_range k p.2
    rw [(xr8 h.1.1 h.1.2 hr.1 hr.2).2.2]
theorem mix_unmix (ks : List Int) : ∀ {p : Int × Int}, half2 p → mixF ks (unmixF ks.reverse p) = p := by
  induction ks with
  | nil => intro p h; rfl
  | cons k ks ih =>
    intro p h
    rw [List.reverse_cons, unmixF_append]
    simp only [mixF, unmixF]
    have hh := unmixF_half ks.reverse h
    have hr := rnd_range k (unmixF ks.reverse p).1
    rw [(xr8 hh.2.1 hh.2.2 hr.1 hr.2).2.2, ih h]
def mixV (keys : List Int) (b : Int) : Int := joined (mixF keys (parted b))
def unmixV (keys : List Int) (b : Int) : Int := joined (unmixF keys.reverse (parted b))
theorem mixV_range (keys : List Int) {b : Int} (h : 0 ≤ b) (h' : b ≤ 65535) : 0 ≤ mixV keys b ∧ mixV keys b ≤ 65535 := joined_range (mixF_half _ (parted_half h h'))
theorem unmixV_range (keys : List Int) {b : Int} (h : 0 ≤ b) (h' : b ≤ 65535) : 0 ≤ unmixV keys b ∧ unmixV keys b ≤ 65535 := joined_range (unmixF_half _ (parted_half h h'))
theorem unmixV_mixV (keys : List Int) {b : Int} (h : 0 ≤ b) (h' : b ≤ 65535) : unmixV keys (mixV keys b) = b := by
  unfold unmixV mixV
  rw [parted_joined (mixF_half _ (parted_half h h')), unmix_mix _ (parted_half h h'), joined_parted]
theorem mixV_unmixV (keys : List Int) {b : Int} (h : 0 ≤ b) (h' : b ≤ 65535) : mixV keys (unmixV keys b) = b := by
  unfold unmixV mixV
  rw [parted_joined (unmixF_half _ (parted_half h h')), mix_unmix _ (parted_half h h'), joined_parted]

/-! unmix: a block unmixed, in both texts -/
theorem end_val' {a b : Int} (ha : 0 ≤ a) (ha' : a ≤ 255) (hb : 0 ≤ b) (hb' : b ≤ 255) : wrap64 (wrap64 (256 * a) + b) = joined (a, b) := by
  rw [wr (x := 256 * a) (by omega) (by omega), wr (by omega) (by omega)]; simp only [joined]; omega
theorem unmix_loop (keys : List Int) (hn : keys.length ≤ 8) (hm : ∀ x ∈ keys, 0 ≤ x ∧ x ≤ 65535) (i : Nat) : ∀ (k : Nat) (u l : Int), i ≤ keys.length → i < k → half2 (u, l) →
    spec_l4Unmix.l0 k keys u l ((i : Int) - 1) = some (joined (unmixF (keys.take i).reverse (u, l))) := by
  induction i with
  | zero =>
    intro k u l hd hk hh
    obtain ⟨k, rfl⟩ : ∃ m, k = m + 1 := ⟨k - 1, by omega⟩
    simp only [spec_l4Unmix.l0]
    rw [if_neg (by omega), end_val' hh.1.1 hh.1.2 hh.2.1 hh.2.2]; rfl
  | succ i ih =>
    intro k u l hd hk hh
    obtain ⟨k, rfl⟩ : ∃ m, k = m + 1 := ⟨k - 1, by omega⟩
    have hi : i < keys.length := by omega
    have h1 : (i : Int) < (keys.length : Int) := by omega
    have h2 : (0 : Int) ≤ (i : Int) := by omega
    have h3 : (i : Int) ≥ 0 := by omega
    have hx := hm keys[i] (List.getElem_mem hi)
    rw [show ((i + 1 : Nat) : Int) - 1 = (i : Int) by omega]
    simp only [spec_l4Unmix.l0]
    rw [if_pos h3, if_pos h2, if_pos h1, rd_at keys i hi, spec_rnd hx.1 hx.2 hh.1.1 hh.1.2, wr (x := (i : Int) - 1) (by omega) (by omega)]
    simp only [Option.bind_some]
    rw [show Go.bits .xor .i64 l (rnd keys[i] u) = xr l (rnd keys[i] u) from rfl, ih k _ _ (by omega) (by omega) (unstep_half hh _), List.take_succ_eq_append_getElem hi, List.reverse_append]
    rfl
theorem spec_unmix {k : Nat} (keys : List Int) (b : Int) (hg : goodKeys keys = true) (hb : 0 ≤ b) (hb' : b ≤ 65535) (hk : 8 < k) : spec_l4Unmix.f k keys b = some (unmixV keys b) := by
  have hl := goodKeys_len hg
  unfold spec_l4Unmix.f
  rw [tdiv_pos hb, tmod_pos hb, wr (x := b / 256) (by omega) (by omega), wr (by omega) (by omega)]
  have := unmix_loop keys hl (goodKeys_mem hg) keys.length k (b / 256) (b % 256) (by omega) (by omega) (parted_half hb hb')
  simpa [unmixV, parted] using this
theorem unmix_l0_eq (k : Nat) : ∀ u l keys i, impl_unmix.l0 k keys u l i = spec_l4Unmix.l0 k keys u l i := by
  induction k with
  | zero => intros; rfl
  | succ k ih =>
    intro u l keys i
    simp only [impl_unmix.l0, spec_l4Unmix.l0, ih, Int.mul_comm u 256]
    rfl
theorem impl_unmix' {k : Nat} (keys : List Int) (b : Int) (hg : goodKeys keys = true) (hb : 0 ≤ b) (hb' : b ≤ 65535) (hk : 8 < k) : impl_unmix.f k keys b = some (unmixV keys b) := by
  rw [← spec_unmix keys b hg hb hb' hk]
  simp only [impl_unmix.f, spec_l4Unmix.f, unmix_l0_eq]

/-! goodtext: keys, a start and a text that are good together, in both texts -/
def goodText (keys : List Int) (b : Int) (n : Nat) : Bool := goodKeys keys && goodKey b && decide ((n : Int) ≤ 40) && ((n : Int) % 2 == 0)
theorem spec_text {k : Nat} (keys : List Int) (b : Int) (s : ByteArray) (hn : keys.length ≤ 35184372088832) (hk : keys.length < k) : spec_l4Text.f k keys b s = some (goodText keys b s.size) := by
  unfold spec_l4Text.f goodText
  rw [spec_keys keys hn hk, spec_key]
  cases goodKeys keys <;> cases goodKey b <;> by_cases h : (s.size : Int) ≤ 40 <;> simp [h]
theorem impl_text {k : Nat} (keys : List Int) (b : Int) (s : ByteArray) (hn : keys.length ≤ 35184372088832) (hk : keys.length < k) : impl_isMixed.f k keys b s = some (goodText keys b s.size) := by
  unfold impl_isMixed.f goodText
  rw [impl_keys keys hn hk, impl_key]
  cases goodKeys keys <;> cases goodKey b <;> by_cases h : (s.size : Int) ≤ 40 <;> simp [h]
theorem goodText_all {keys : List Int} {b : Int} {n : Nat} (h : goodText keys b n = true) : goodKeys keys = true ∧ (0 ≤ b ∧ b ≤ 65535) ∧ n ≤ 40 ∧ n % 2 = 0 := by
  simp [goodText] at h
  obtain ⟨⟨⟨h1, h2⟩, h3⟩, h4⟩ := h
  exact ⟨h1, goodKey_range h2, by omega, by omega⟩
theorem bt_range (s : ByteArray) (i : Int) : 0 ≤ bt s i ∧ bt s i ≤ 255 := by
  unfold bt
  split
  · have := (s[i.toNat]).toNat_lt; omega
  · omega

/-! pairs: two bytes as one number, in both texts -/
def pairAt (s : ByteArray) (i : Int) : Int := 256 * bt s i + bt s (i + 1)
theorem pairAt_range (s : ByteArray) (i : Int) : 0 ≤ pairAt s i ∧ pairAt s i ≤ 65535 := by
  unfold pairAt
  have := bt_range s i
  have := bt_range s (i + 1)
  omega
theorem spec_pair (s : ByteArray) (i : Int) : wrap64 (wrap64 (256 * wrap64 (bt s i)) + wrap64 (bt s (i + 1))) = pairAt s i := by
  have := bt_range s i
  have := bt_range s (i + 1)
  rw [wr (x := bt s i) (by omega) (by omega), wr (x := bt s (i + 1)) (by omega) (by omega), wr (x := 256 * bt s i) (by omega) (by omega), wr (by omega) (by omega)]
  rfl
theorem impl_pair (s : ByteArray) (i : Int) : Go.bits .or .i64 (wrap64 ((wrap64 (bt s i)) * 256)) (wrap64 (bt s (i + 1))) = pairAt s i := by
  have h1 := bt_range s i
  have h2 := bt_range s (i + 1)
  rw [wr (x := bt s i) (by omega) (by omega), wr (x := bt s (i + 1)) (by omega) (by omega), or8 h1.1 h1.2 h2.1 h2.2]
  rfl

/-! unmixtext: a text unmixed, in both texts -/
def unmixT (keys : List Int) (s : ByteArray) : Nat → Int → Nat → List Int
  | 0, _, _ => []
  | d + 1, b, i => let m := xr (unmixV keys (pairAt s (i : Int))) b; [m / 256, m % 256] ++ unmixT keys s d (pairAt s (i : Int)) (i + 2)
theorem unmixText_loop (keys : List Int) (hg : goodKeys keys = true) (s : ByteArray) (hs : s.size ≤ 40) (d : Nat) : ∀ (k : Nat) (b : Int) (out : List Int) (i : Nat), i + 2 * d = s.size → d + 8 < k → 0 ≤ b → b ≤ 65535 → out.length ≤ 100 - 2 * d →
    spec_UnmixText.l0 k keys b s out (i : Int) = some (strOfNums (out ++ unmixT keys s d b i), true) ∧ impl_UnmixText.l0 k keys b s out (i : Int) = some (strOfNums (out ++ unmixT keys s d b i), true) := by
  induction d with
  | zero =>
    intro k b out i hd hk hb hb' ho
    obtain ⟨k, rfl⟩ : ∃ m, k = m + 1 := ⟨k - 1, by omega⟩
    have h : ¬ (i : Int) < (s.size : Int) := by omega
    simp only [spec_UnmixText.l0, impl_UnmixText.l0, if_neg h, unmixT, List.append_nil, and_self]
  | succ d ih =>
    intro k b out i hd hk hb hb' ho
    obtain ⟨k, rfl⟩ : ∃ m, k = m + 1 := ⟨k - 1, by omega⟩
    have h1 : (i : Int) < (s.size : Int) := by omega
    have h2 : (0 : Int) ≤ (i : Int) := by omega
    have e1 : wrap64 ((i : Int) + 1) = (i : Int) + 1 := wr (by omega) (by omega)
    have e2 : wrap64 ((i : Int) + 2) = ((i + 2 : Nat) : Int) := by rw [wr (by omega) (by omega)]; omega
    have h3 : (0 : Int) ≤ (i : Int) + 1 := by omega
    have h4 : (i : Int) + 1 < (s.size : Int) := by omega
    have hp := pairAt_range s (i : Int)
    have hm := unmixV_range keys hp.1 hp.2
    have hx := xr16 hm.1 hm.2 hb hb'
    have hl : out.length + 2 < 140737488355328 := by omega
    have er : ∀ x, Go.bits .xor .i64 x b = xr x b := fun _ => rfl
    simp only [spec_UnmixText.l0, impl_UnmixText.l0, if_pos h1, if_pos h2, e1, if_pos h3, if_pos h4, spec_pair, impl_pair]
    rw [spec_unmix keys _ hg hp.1 hp.2 (by omega), impl_unmix' keys _ hg hp.1 hp.2 (by omega)]
    simp only [Option.bind_some, List.length_cons, List.length_nil, Nat.zero_add, if_pos hl, e2, er]
    have q1 : wrap64 (Int.tdiv (xr (unmixV keys (pairAt s (i : Int))) b) 256) % 256 = xr (unmixV keys (pairAt s (i : Int))) b / 256 := by
      rw [tdiv_pos hx.1, wr (by omega) (by omega)]; omega
    have q2 : Int.tmod (xr (unmixV keys (pairAt s (i : Int))) b) 256 % 256 = xr (unmixV keys (pairAt s (i : Int))) b % 256 := by
      rw [tmod_pos hx.1]; omega
    have q3 : xr (unmixV keys (pairAt s (i : Int))) b / 256 % 256 = xr (unmixV keys (pairAt s (i : Int))) b / 256 := by omega
    rw [q1, q2, q3]
    have := ih k (pairAt s (i : Int)) (out ++ [xr (unmixV keys (pairAt s (i : Int))) b / 256, xr (unmixV keys (pairAt s (i : Int))) b % 256]) (i + 2) (by omega) (by omega) hp.1 hp.2 (by simp; omega)
    simpa [unmixT, List.append_assoc] using this
def unmixTextV (keys : List Int) (b : Int) (s : ByteArray) : ByteArray × Bool := if goodText keys b s.size = true then (strOfNums (unmixT keys s (s.size / 2) b 0), true) else (⟨#[]⟩, false)
theorem unmix_text {k : Nat} (keys : List Int) (b : Int) (s : ByteArray) (hn : keys.length ≤ 35184372088832) (hk : keys.length + 100 < k) : spec_UnmixText.f k keys b s = some (unmixTextV keys b s) ∧ impl_UnmixText.f k keys b s = some (unmixTextV keys b s) := by
  unfold spec_UnmixText.f impl_UnmixText.f unmixTextV
  rw [spec_text keys b s hn (by omega), impl_text keys b s hn (by omega)]
  by_cases h : goodText keys b s.size = true
  · obtain ⟨h1, h2, h3, h4⟩ := goodText_all h
    have := unmixText_loop keys h1 s h3 (s.size / 2) k b [] 0 (by omega) (by omega) h2.1 h2.2 (Nat.zero_le _)
    rw [show ((0 : Nat) : Int) = 0 from rfl] at this
    simp [h, this]
  · simp [h]

theorem FnExactUnmixText : laws_FnExactUnmixText.Pure := by
  intro keys b s _ hn _ _ _
  refine rounds_of (keys.length + 200) fun k hk => ?_
  obtain ⟨k, rfl⟩ : ∃ j, k = j + 1 := ⟨k - 1, by omega⟩
  unfold laws_FnExactUnmixText.f
  by_cases h : (keys.length : Int) > 1048576
  · rw [if_pos h]
  · rw [if_neg h]
    by_cases h' : (s.size : Int) > 1048576
    · rw [if_pos h']
    · rw [if_neg h']
      simp only [toIntS_eq (k := k + 1) keys (by omega) (by omega), unmix_text (k := k + 1) keys b s (by omega) (by omega), Option.bind_some, bne_self_eq_false]
      simp [laws_FnExactUnmixText.j0, toIntS_eq (k := k) keys (by omega) (by omega), eqIntS_self (k := k) keys (by omega) (by omega)]

end Go.Proofs.Ytoigapileicelaa.Pure
