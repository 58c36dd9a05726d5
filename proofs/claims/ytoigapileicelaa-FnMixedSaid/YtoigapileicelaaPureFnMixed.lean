/- FnMixed holds for all bytes: blocks and texts are mixed and unmixed as in the reference, and unmixing undoes mixing (the plain half). -/
import Derived.Test.YtoigapileicelaaQFnMixedx
set_option linter.unusedVariables false
set_option linter.unusedSimpArgs false
namespace Go.Proofs.Ytoigapileicelaa.Pure
open Go.RowKit Go.Proofs.Ytoigapileicelaa.QFnMixed Go.Proofs.YtoigapileicelaaW.PrintWords Go.Proofs.YtoigapileicelaaW.PrintLast Go.Proofs.YtoigapileicelaaW.PrintMore

/-! base: sums of int that stay in range; `tmod` and `tdiv` of what is not negative -/
theorem wr {x : Int} (h1 : -9223372036854775808 ≤ x) (h2 : x ≤ 9223372036854775807) : wrap64 x = x := by
  unfold wrap64; omega
theorem tmod_pos {a b : Int} (h : 0 ≤ a) : Int.tmod a b = a % b := Int.tmod_eq_emod_of_nonneg h
theorem tdiv_pos {a b : Int} (h : 0 ≤ a) : Int.tdiv a b = a / b := Int.tdiv_eq_ediv_of_nonneg h
theorem rounds_of {α : Type} {g : Nat → Option α} {r : α} (N : Nat) (h : ∀ k, N < k → g k = some r) : ∃ k, g k = some r := ⟨N + 1, h _ (Nat.lt_succ_self N)⟩

/-! lists: reading a list at a place; a copy of a list; a list is like itself -/
theorem rd_at (xs : List Int) (i : Nat) (h : i < xs.length) : rd xs (i : Int) = xs[i] := by
  simp [rd, List.getD_eq_getElem?_getD, h]
theorem wr_succ (i : Nat) (h : i < 9000000000000000000) : wrap64 ((i : Int) + 1) = ((i + 1 : Nat) : Int) := by
  rw [wr (by omega) (by omega)]; omega
theorem same_list {α : Type} {xs ys : List α} (hl : ys.length = xs.length) (h : ∀ j, j < xs.length → ys[j]? = xs[j]?) : ys = xs := by
  apply List.ext_getElem?
  intro j
  by_cases hj : j < xs.length
  · exact h j hj
  · rw [List.getElem?_eq_none (by omega), List.getElem?_eq_none (by omega)]
theorem set_upto {α : Type} {xs ys : List α} {i : Nat} (hl : ys.length = xs.length) (hi : i < xs.length) (h : ∀ j, j < i → ys[j]? = xs[j]?) :
    ∀ j, j < i + 1 → (ys.set i xs[i])[j]? = xs[j]? := by
  intro j hj
  rw [List.getElem?_set]
  by_cases e : i = j
  · subst e; rw [if_pos rfl, if_pos (by omega), List.getElem?_eq_getElem hi]
  · rw [if_neg e]; exact h j (by omega)

/-! ins: between two numbers, in the reference -/
theorem in_some (a b c : Int) : spec_l1In.f a b c = some (decide (b ≤ a) && decide (a ≤ c)) := by
  unfold spec_l1In.f
  by_cases h : a ≥ b
  · rw [if_pos h]; have : b ≤ a := h; simp [this]
  · rw [if_neg h]; have : ¬ b ≤ a := h; simp [this]

/-! in: between two numbers -/
theorem within_eq (a b c : Int) : impl_within.f a b c = spec_l1In.f a b c := rfl

/-! inall: all numbers of a list between two numbers -/
def inAll (lo hi : Int) (xs : List Int) : Bool := xs.all fun x => decide (lo ≤ x) && decide (x ≤ hi)
theorem inAll_mem {lo hi : Int} {xs : List Int} (h : inAll lo hi xs = true) : ∀ x ∈ xs, lo ≤ x ∧ x ≤ hi := by
  intro x hx
  have := List.all_eq_true.1 h x hx
  simpa using this

/-! sall: all numbers of a list between two numbers, in the reference -/
theorem all_loop (lo up : Int) (xs : List Int) (hn : xs.length ≤ 35184372088832) (d : Nat) : ∀ (k : Nat) (i : Nat), i + d = xs.length → d < k →
    spec_l1All.l0 k lo up xs (xs.length : Int) (i : Int) = some (inAll lo up (xs.drop i)) := by
  induction d with
  | zero =>
    intro k i hd hk
    obtain ⟨k, rfl⟩ : ∃ m, k = m + 1 := ⟨k - 1, by omega⟩
    simp only [spec_l1All.l0]
    rw [if_neg (by omega), List.drop_of_length_le (by omega)]; rfl
  | succ d ih =>
    intro k i hd hk
    obtain ⟨k, rfl⟩ : ∃ m, k = m + 1 := ⟨k - 1, by omega⟩
    have hi : i < xs.length := by omega
    have h1 : (i : Int) < (xs.length : Int) := by omega
    have h2 : (0 : Int) ≤ (i : Int) := by omega
    simp only [spec_l1All.l0]
    rw [if_pos h1, if_pos h2, if_pos h1, rd_at xs i hi, in_some, wr_succ i (by omega), ih k (i + 1) (by omega) (by omega), List.drop_eq_getElem_cons hi]
    simp only [Option.bind_some, inAll, List.all_cons]
    generalize (decide (lo ≤ xs[i]) && decide (xs[i] ≤ up)) = b
    cases b <;> simp
theorem spec_all {k : Nat} (lo hi : Int) (xs : List Int) (hn : xs.length ≤ 35184372088832) (hk : xs.length < k) : spec_l1All.f k xs lo hi = some (inAll lo hi xs) := by
  unfold spec_l1All.f
  have := all_loop lo hi xs hn xs.length k 0 (by omega) hk
  simpa using this

/-! iall: all numbers of a list between two numbers, in the program -/
theorem iall_loop (lo up : Int) (xs : List Int) (hn : xs.length ≤ 35184372088832) (d : Nat) : ∀ (k : Nat) (i : Nat), i + d = xs.length → d < k →
    impl_allWithin.l0 k lo up xs (xs.length : Int) (i : Int) = some (inAll lo up (xs.drop i)) := by
  induction d with
  | zero =>
    intro k i hd hk
    obtain ⟨k, rfl⟩ : ∃ m, k = m + 1 := ⟨k - 1, by omega⟩
    simp only [impl_allWithin.l0]
    rw [if_neg (by omega), List.drop_of_length_le (by omega)]; rfl
  | succ d ih =>
    intro k i hd hk
    obtain ⟨k, rfl⟩ : ∃ m, k = m + 1 := ⟨k - 1, by omega⟩
    have hi : i < xs.length := by omega
    have h1 : (i : Int) < (xs.length : Int) := by omega
    have h2 : (0 : Int) ≤ (i : Int) := by omega
    simp only [impl_allWithin.l0]
    rw [if_pos h1, if_pos h2, if_pos h1, rd_at xs i hi, within_eq, in_some, wr_succ i (by omega), ih k (i + 1) (by omega) (by omega), List.drop_eq_getElem_cons hi]
    simp only [Option.bind_some, inAll, List.all_cons]
    generalize (decide (lo ≤ xs[i]) && decide (xs[i] ≤ up)) = b
    cases b <;> simp
theorem impl_all {k : Nat} (lo hi : Int) (xs : List Int) (hn : xs.length ≤ 35184372088832) (hk : xs.length < k) : impl_allWithin.f k xs lo hi = some (inAll lo hi xs) := by
  unfold impl_allWithin.f
  have := iall_loop lo hi xs hn xs.length k 0 (by omega) hk
  simpa using this


/-! keys: keys and blocks, in both texts -/
def goodKeys (keys : List Int) : Bool := decide ((keys.length : Int) ≤ 8) && inAll 0 65535 keys
def goodKey (b : Int) : Bool := decide (0 ≤ b) && decide (b ≤ 65535)
theorem goodKey_range {b : Int} (h : goodKey b = true) : 0 ≤ b ∧ b ≤ 65535 := by simpa [goodKey] using h
theorem goodKeys_len {keys : List Int} (h : goodKeys keys = true) : keys.length ≤ 8 := by
  simp [goodKeys] at h; omega
theorem goodKeys_mem {keys : List Int} (h : goodKeys keys = true) : ∀ x ∈ keys, 0 ≤ x ∧ x ≤ 65535 := by
  simp [goodKeys] at h; exact inAll_mem h.2
theorem spec_key (b : Int) : spec_l4Key.f b = some (goodKey b) := by simp [spec_l4Key.f, in_some, goodKey]
theorem impl_key (b : Int) : impl_isKey.f b = some (goodKey b) := by simp [impl_isKey.f, within_eq, in_some, goodKey]
theorem spec_keys {k : Nat} (keys : List Int) (hn : keys.length ≤ 35184372088832) (hk : keys.length < k) : spec_l4Keys.f k keys = some (goodKeys keys) := by
  unfold spec_l4Keys.f goodKeys
  by_cases h : (keys.length : Int) ≤ 8
  · rw [if_pos h, spec_all 0 65535 keys hn hk]; simp [h]
  · rw [if_neg h]; simp [h]
theorem impl_keys {k : Nat} (keys : List Int) (hn : keys.length ≤ 35184372088832) (hk : keys.length < k) : impl_areKeys.f k keys = some (goodKeys keys) := by
  unfold impl_areKeys.f goodKeys
  by_cases h : (keys.length : Int) ≤ 8
  · rw [if_pos h, impl_all 0 65535 keys hn hk]; simp [h]
  · rw [if_neg h]; simp [h]

/-! xor: bits of small numbers unlike each other -/
def xr (a b : Int) : Int := Go.bits .xor .i64 a b
theorem xor_nat (a b : Nat) (ha : a < 2 ^ 16) (hb : b < 2 ^ 16) : Go.bits .xor .i64 (a : Int) (b : Int) = ((a ^^^ b : Nat) : Int) := by
  have hx : a ^^^ b < 2 ^ 16 := Nat.xor_lt_two_pow ha hb
  have ha' : a % 2 ^ IntKind.i64.bits = a := Nat.mod_eq_of_lt (Nat.lt_of_lt_of_le ha (by decide))
  have hb' : b % 2 ^ IntKind.i64.bits = b := Nat.mod_eq_of_lt (Nat.lt_of_lt_of_le hb (by decide))
  simp only [Go.bits, BitVec.ofInt_natCast, BitVec.toNat_xor, BitVec.toNat_ofNat, ha', hb']
  rw [Go.IntKind.wrap_i64]
  omega
theorem xr_nat (j : Nat) (hj : j ≤ 16) {a b : Int} (ha : 0 ≤ a) (ha' : a < 2 ^ j) (hb : 0 ≤ b) (hb' : b < 2 ^ j) : ∃ m n : Nat, a = m ∧ b = n ∧ m < 2 ^ j ∧ n < 2 ^ j ∧ xr a b = ((m ^^^ n : Nat) : Int) ∧ m ^^^ n < 2 ^ j := by
  obtain ⟨m, rfl⟩ := Int.eq_ofNat_of_zero_le ha
  obtain ⟨n, rfl⟩ := Int.eq_ofNat_of_zero_le hb
  have hm : m < 2 ^ j := by exact_mod_cast ha'
  have hn : n < 2 ^ j := by exact_mod_cast hb'
  have hp : 2 ^ j ≤ 2 ^ 16 := Nat.pow_le_pow_right (by decide) hj
  exact ⟨m, n, rfl, rfl, hm, hn, xor_nat m n (Nat.lt_of_lt_of_le hm hp) (Nat.lt_of_lt_of_le hn hp), Nat.xor_lt_two_pow hm hn⟩
theorem xr8 {a b : Int} (ha : 0 ≤ a) (ha' : a ≤ 255) (hb : 0 ≤ b) (hb' : b ≤ 255) : 0 ≤ xr a b ∧ xr a b ≤ 255 ∧ xr (xr a b) b = a := by
  obtain ⟨m, n, rfl, rfl, hm, hn, e, hl⟩ := xr_nat 8 (by decide) ha (by omega) hb (by omega)
  rw [e]
  refine ⟨by omega, by omega, ?_⟩
  unfold xr
  rw [xor_nat _ _ (by omega) (by omega), Nat.xor_assoc, Nat.xor_self, Nat.xor_zero]
theorem xr16 {a b : Int} (ha : 0 ≤ a) (ha' : a ≤ 65535) (hb : 0 ≤ b) (hb' : b ≤ 65535) : 0 ≤ xr a b ∧ xr a b ≤ 65535 ∧ xr (xr a b) b = a := by
  obtain ⟨m, n, rfl, rfl, hm, hn, e, hl⟩ := xr_nat 16 (by decide) ha (by omega) hb (by omega)
  rw [e]
  refine ⟨by omega, by omega, ?_⟩
  unfold xr
  rw [xor_nat _ _ (by omega) (by omega), Nat.xor_assoc, Nat.xor_self, Nat.xor_zero]
theorem or8 {a b : Int} (ha : 0 ≤ a) (ha' : a ≤ 255) (hb : 0 ≤ b) (hb' : b ≤ 255) : Go.bits .or .i64 (wrap64 (a * 256)) b = 256 * a + b := by
  rw [wr (by omega) (by omega)]
  rw [Go.bits_join .i64 16 (by decide) (fun n h h' => by rw [Go.IntKind.wrap_i64]; omega) 8 (a * 256) b (by omega) (by omega) (by omega) hb (by omega) (by omega)]
  omega

/-! round: what a round makes of a half -/
def rnd (key half : Int) : Int := (((half + key % 256) % 256 * ((half + key % 256) % 256) + (half + key % 256) % 256 * (key / 256) + 29) % 65521) % 256
theorem rnd_range (a b : Int) : 0 ≤ rnd a b ∧ rnd a b ≤ 255 := by unfold rnd; omega
theorem spec_rnd {a b : Int} (ha : 0 ≤ a) (ha' : a ≤ 65535) (hb : 0 ≤ b) (hb' : b ≤ 255) : spec_l4Round.f a b = some (rnd a b) := by
  unfold spec_l4Round.f rnd
  have hx0 : 0 ≤ (b + a % 256) % 256 := by omega
  have hx1 : (b + a % 256) % 256 ≤ 255 := by omega
  have hy0 : 0 ≤ a / 256 := by omega
  have hy1 : a / 256 ≤ 255 := by omega
  rw [tmod_pos ha, tdiv_pos ha, wr (x := b + a % 256) (by omega) (by omega), tmod_pos (a := b + a % 256) (by omega)]
  rw [wr (x := a / 256) (by omega) (by omega)]
  generalize (b + a % 256) % 256 = x at *
  generalize a / 256 = y at *
  have h1 : 0 ≤ x * x := Int.mul_nonneg hx0 hx0
  have h2 : x * x ≤ 255 * 255 := Int.mul_le_mul hx1 hx1 hx0 (by omega)
  have h3 : 0 ≤ x * y := Int.mul_nonneg hx0 hy0
  have h4 : x * y ≤ 255 * 255 := Int.mul_le_mul hx1 hy1 hy0 (by omega)
  rw [wr (x := x * x) (by omega) (by omega), wr (x := x * y) (by omega) (by omega), wr (x := x * x + x * y) (by omega) (by omega), wr (x := x * x + x * y + 29) (by omega) (by omega)]
  rw [tmod_pos (a := x * x + x * y + 29) (by omega), tmod_pos (by omega)]


/-! mixf: rounds, one behind the other, and back -/
def mixF : List Int → Int × Int → Int × Int
  | [], p => p
  | k :: ks, p => mixF ks (p.2, xr p.1 (rnd k p.2))
def unmixF : List Int → Int × Int → Int × Int
  | [], p => p
  | k :: ks, p => unmixF ks (xr p.2 (rnd k p.1), p.1)
def half2 (p : Int × Int) : Prop := (0 ≤ p.1 ∧ p.1 ≤ 255) ∧ (0 ≤ p.2 ∧ p.2 ≤ 255)
def joined (p : Int × Int) : Int := p.1 * 256 + p.2
def parted (b : Int) : Int × Int := (b / 256, b % 256)
theorem parted_half {b : Int} (h : 0 ≤ b) (h' : b ≤ 65535) : half2 (parted b) := by unfold half2 parted; omega
theorem joined_range {p : Int × Int} (h : half2 p) : 0 ≤ joined p ∧ joined p ≤ 65535 := by
  obtain ⟨a, b⟩ := p
  obtain ⟨h1, h2⟩ := h
  simp only at h1 h2
  simp only [joined]; omega
theorem parted_joined {p : Int × Int} (h : half2 p) : parted (joined p) = p := by
  obtain ⟨a, b⟩ := p
  obtain ⟨h1, h2⟩ := h
  simp only at h1 h2
  simp only [joined, parted, Prod.mk.injEq]; omega
theorem joined_parted (b : Int) : joined (parted b) = b := by simp only [joined, parted]; omega
theorem step_half {p : Int × Int} (h : half2 p) (k : Int) : half2 (p.2, xr p.1 (rnd k p.2)) := by
  have hr := rnd_range k p.2
  have := xr8 h.1.1 h.1.2 hr.1 hr.2
  exact ⟨h.2, this.1, this.2.1⟩
theorem unstep_half {p : Int × Int} (h : half2 p) (k : Int) : half2 (xr p.2 (rnd k p.1), p.1) := by
  have hr := rnd_range k p.1
  have := xr8 h.2.1 h.2.2 hr.1 hr.2
  exact ⟨⟨this.1, this.2.1⟩, h.1⟩
theorem mixF_half (ks : List Int) : ∀ {p : Int × Int}, half2 p → half2 (mixF ks p) := by
  induction ks with
  | nil => intro p h; exact h
  | cons k ks ih => intro p h; exact ih (step_half h k)
theorem unmixF_half (ks : List Int) : ∀ {p : Int × Int}, half2 p → half2 (unmixF ks p) := by
  induction ks with
  | nil => intro p h; exact h
  | cons k ks ih => intro p h; exact ih (unstep_half h k)
theorem unmixF_append (ms bs : List Int) : ∀ p, unmixF (ms ++ bs) p = unmixF bs (unmixF ms p) := by
  induction ms with
  | nil => intro p; rfl
  | cons a ms ih => intro p; exact ih _
theorem mixF_append (ms bs : List Int) : ∀ p, mixF (ms ++ bs) p = mixF bs (mixF ms p) := by
  induction ms with
  | nil => intro p; rfl
  | cons a ms ih => intro p; exact ih _
theorem unmix_mix (ks : List Int) : ∀ {p : Int × Int}, half2 p → unmixF ks.reverse (mixF ks p) = p := by
  induction ks with
  | nil => intro p h; rfl
  | cons k ks ih =>
    intro p h
    rw [List.reverse_cons, unmixF_append]
    simp only [mixF]
    rw [ih (step_half h k)]
    simp only [unmixF]
    have hr := rnd_range k p.2
    rw [(xr8 h.1.1 h.1.2 hr.1 hr.2).2.2]
theorem mix_unmix (ks : List Int) : ∀ {p : Int × Int}, half2 p → mixF ks (unmixF ks.reverse p) = p := by
  induction ks with
  | nil => intro p h; rfl
  | cons k ks ih =>
    intro p h
    rw [List.reverse_cons, unmixF_append]
    simp only [mixF, unmixF]
    have hh := unmixF_half ks.reverse h
    have hr := rnd_range k (unmixF ks.reverse p).1
    rw [(xr8 hh.2.1 hh.2.2 hr.1 hr.2).2.2, ih h]
def mixV (keys : List Int) (b : Int) : Int := joined (mixF keys (parted b))
def unmixV (keys : List Int) (b : Int) : Int := joined (unmixF keys.reverse (parted b))
theorem mixV_range (keys : List Int) {b : Int} (h : 0 ≤ b) (h' : b ≤ 65535) : 0 ≤ mixV keys b ∧ mixV keys b ≤ 65535 := joined_range (mixF_half _ (parted_half h h'))
theorem unmixV_range (keys : List Int) {b : Int} (h : 0 ≤ b) (h' : b ≤ 65535) : 0 ≤ unmixV keys b ∧ unmixV keys b ≤ 65535 := joined_range (unmixF_half _ (parted_half h h'))
theorem unmixV_mixV (keys : List Int) {b : Int} (h : 0 ≤ b) (h' : b ≤ 65535) : unmixV keys (mixV keys b) = b := by
  unfold unmixV mixV
  rw [parted_joined (mixF_half _ (parted_half h h')), unmix_mix _ (parted_half h h'), joined_parted]
theorem mixV_unmixV (keys : List Int) {b : Int} (h : 0 ≤ b) (h' : b ≤ 65535) : mixV keys (unmixV keys b) = b := by
  unfold unmixV mixV
  rw [parted_joined (unmixF_half _ (parted_half h h')), mix_unmix _ (parted_half h h'), joined_parted]

/-! mix: a block mixed, in both texts -/
theorem end_val {a b : Int} (ha : 0 ≤ a) (ha' : a ≤ 255) (hb : 0 ≤ b) (hb' : b ≤ 255) : wrap64 (wrap64 (256 * a) + b) = joined (a, b) := by
  rw [wr (x := 256 * a) (by omega) (by omega), wr (by omega) (by omega)]; simp only [joined]; omega
theorem mix_loop (keys : List Int) (hn : keys.length ≤ 8) (hm : ∀ x ∈ keys, 0 ≤ x ∧ x ≤ 65535) (d : Nat) : ∀ (k : Nat) (u l : Int) (i : Nat), i + d = keys.length → d < k → half2 (u, l) →
    spec_l4Mix.l0 k u l keys (keys.length : Int) (i : Int) = some (joined (mixF (keys.drop i) (u, l))) := by
  induction d with
  | zero =>
    intro k u l i hd hk hh
    obtain ⟨k, rfl⟩ : ∃ m, k = m + 1 := ⟨k - 1, by omega⟩
    simp only [spec_l4Mix.l0]
    rw [if_neg (by omega), List.drop_of_length_le (by omega), end_val hh.1.1 hh.1.2 hh.2.1 hh.2.2]; rfl
  | succ d ih =>
    intro k u l i hd hk hh
    obtain ⟨k, rfl⟩ : ∃ m, k = m + 1 := ⟨k - 1, by omega⟩
    have hi : i < keys.length := by omega
    have h1 : (i : Int) < (keys.length : Int) := by omega
    have h2 : (0 : Int) ≤ (i : Int) := by omega
    have hx := hm keys[i] (List.getElem_mem hi)
    simp only [spec_l4Mix.l0]
    rw [if_pos h1, if_pos h2, if_pos h1, rd_at keys i hi, spec_rnd hx.1 hx.2 hh.2.1 hh.2.2, wr_succ i (by omega)]
    simp only [Option.bind_some]
    rw [show Go.bits .xor .i64 u (rnd keys[i] l) = xr u (rnd keys[i] l) from rfl, ih k _ _ (i + 1) (by omega) (by omega) (step_half hh _), List.drop_eq_getElem_cons hi]
    rfl
theorem spec_mix {k : Nat} (keys : List Int) (b : Int) (hg : goodKeys keys = true) (hb : 0 ≤ b) (hb' : b ≤ 65535) (hk : 8 < k) : spec_l4Mix.f k keys b = some (mixV keys b) := by
  have hl := goodKeys_len hg
  unfold spec_l4Mix.f
  rw [tdiv_pos hb, tmod_pos hb, wr (by omega) (by omega)]
  have := mix_loop keys hl (goodKeys_mem hg) keys.length k (b / 256) (b % 256) 0 (by omega) (by omega) (parted_half hb hb')
  simpa [mixV, parted] using this
theorem mix_l0_eq (k : Nat) : ∀ u l keys n i, impl_mix.l0 k u l keys n i = spec_l4Mix.l0 k u l keys n i := by
  induction k with
  | zero => intros; rfl
  | succ k ih =>
    intro u l keys n i
    simp only [impl_mix.l0, spec_l4Mix.l0, ih, Int.mul_comm u 256]
    rfl
theorem impl_mix' {k : Nat} (keys : List Int) (b : Int) (hg : goodKeys keys = true) (hb : 0 ≤ b) (hb' : b ≤ 65535) (hk : 8 < k) : impl_mix.f k keys b = some (mixV keys b) := by
  rw [← spec_mix keys b hg hb hb' hk]
  simp only [impl_mix.f, spec_l4Mix.f, mix_l0_eq]

/-! mixblock: MixBlock, in both texts -/
def mixBlockV (keys : List Int) (b : Int) : Int × Bool := if goodKeys keys = true ∧ goodKey b = true then (mixV keys b, true) else (0, false)
theorem spec_mixBlock {k : Nat} (keys : List Int) (b : Int) (hn : keys.length ≤ 35184372088832) (hk : keys.length < k) (hk' : 8 < k) : spec_MixBlock.f k keys b = some (mixBlockV keys b) := by
  unfold spec_MixBlock.f mixBlockV
  rw [spec_keys keys hn hk, spec_key]
  by_cases h : goodKeys keys = true
  · by_cases h' : goodKey b = true
    · simp [h, h', spec_mix keys b h (goodKey_range h').1 (goodKey_range h').2 hk']
    · simp [h, h']
  · simp [h]
theorem impl_mixBlock {k : Nat} (keys : List Int) (b : Int) (hn : keys.length ≤ 35184372088832) (hk : keys.length < k) (hk' : 8 < k) : impl_MixBlock.f k keys b = some (mixBlockV keys b) := by
  unfold impl_MixBlock.f mixBlockV
  rw [impl_keys keys hn hk, impl_key]
  by_cases h : goodKeys keys = true
  · by_cases h' : goodKey b = true
    · simp [h, h', impl_mix' keys b h (goodKey_range h').1 (goodKey_range h').2 hk']
    · simp [h, h']
  · simp [h]

/-! unmix: a block unmixed, in both texts -/
theorem end_val' {a b : Int} (ha : 0 ≤ a) (ha' : a ≤ 255) (hb : 0 ≤ b) (hb' : b ≤ 255) : wrap64 (wrap64 (256 * a) + b) = joined (a, b) := by
  rw [wr (x := 256 * a) (by omega) (by omega), wr (by omega) (by omega)]; simp only [joined]; omega
theorem unmix_loop (keys : List Int) (hn : keys.length ≤ 8) (hm : ∀ x ∈ keys, 0 ≤ x ∧ x ≤ 65535) (i : Nat) : ∀ (k : Nat) (u l : Int), i ≤ keys.length → i < k → half2 (u, l) →
    spec_l4Unmix.l0 k keys u l ((i : Int) - 1) = some (joined (unmixF (keys.take i).reverse (u, l))) := by
  induction i with
  | zero =>
    intro k u l hd hk hh
    obtain ⟨k, rfl⟩ : ∃ m, k = m + 1 := ⟨k - 1, by omega⟩
    simp only [spec_l4Unmix.l0]
    rw [if_neg (by omega), end_val' hh.1.1 hh.1.2 hh.2.1 hh.2.2]; rfl
  | succ i ih =>
    intro k u l hd hk hh
    obtain ⟨k, rfl⟩ : ∃ m, k = m + 1 := ⟨k - 1, by omega⟩
    have hi : i < keys.length := by omega
    have h1 : (i : Int) < (keys.length : Int) := by omega
    have h2 : (0 : Int) ≤ (i : Int) := by omega
    have h3 : (i : Int) ≥ 0 := by omega
    have hx := hm keys[i] (List.getElem_mem hi)
    rw [show ((i + 1 : Nat) : Int) - 1 = (i : Int) by omega]
    simp only [spec_l4Unmix.l0]
    rw [if_pos h3, if_pos h2, if_pos h1, rd_at keys i hi, spec_rnd hx.1 hx.2 hh.1.1 hh.1.2, wr (x := (i : Int) - 1) (by omega) (by omega)]
    simp only [Option.bind_some]
    rw [show Go.bits .xor .i64 l (rnd keys[i] u) = xr l (rnd keys[i] u) from rfl, ih k _ _ (by omega) (by omega) (unstep_half hh _), List.take_succ_eq_append_getElem hi, List.reverse_append]
    rfl
theorem spec_unmix {k : Nat} (keys : List Int) (b : Int) (hg : goodKeys keys = true) (hb : 0 ≤ b) (hb' : b ≤ 65535) (hk : 8 < k) : spec_l4Unmix.f k keys b = some (unmixV keys b) := by
  have hl := goodKeys_len hg
  unfold spec_l4Unmix.f
  rw [tdiv_pos hb, tmod_pos hb, wr (x := b / 256) (by omega) (by omega), wr (by omega) (by omega)]
  have := unmix_loop keys hl (goodKeys_mem hg) keys.length k (b / 256) (b % 256) (by omega) (by omega) (parted_half hb hb')
  simpa [unmixV, parted] using this
theorem unmix_l0_eq (k : Nat) : ∀ u l keys i, impl_unmix.l0 k keys u l i = spec_l4Unmix.l0 k keys u l i := by
  induction k with
  | zero => intros; rfl
  | succ k ih =>
    intro u l keys i
    simp only [impl_unmix.l0, spec_l4Unmix.l0, ih, Int.mul_comm u 256]
    rfl
theorem impl_unmix' {k : Nat} (keys : List Int) (b : Int) (hg : goodKeys keys = true) (hb : 0 ≤ b) (hb' : b ≤ 65535) (hk : 8 < k) : impl_unmix.f k keys b = some (unmixV keys b) := by
  rw [← spec_unmix keys b hg hb hb' hk]
  simp only [impl_unmix.f, spec_l4Unmix.f, unmix_l0_eq]

/-! unmixblock: UnmixBlock, in both texts -/
def unmixBlockV (keys : List Int) (b : Int) : Int × Bool := if goodKeys keys = true ∧ goodKey b = true then (unmixV keys b, true) else (0, false)
theorem spec_unmixBlock {k : Nat} (keys : List Int) (b : Int) (hn : keys.length ≤ 35184372088832) (hk : keys.length < k) (hk' : 8 < k) : spec_UnmixBlock.f k keys b = some (unmixBlockV keys b) := by
  unfold spec_UnmixBlock.f unmixBlockV
  rw [spec_keys keys hn hk, spec_key]
  by_cases h : goodKeys keys = true
  · by_cases h' : goodKey b = true
    · simp [h, h', spec_unmix keys b h (goodKey_range h').1 (goodKey_range h').2 hk']
    · simp [h, h']
  · simp [h]
theorem impl_unmixBlock {k : Nat} (keys : List Int) (b : Int) (hn : keys.length ≤ 35184372088832) (hk : keys.length < k) (hk' : 8 < k) : impl_UnmixBlock.f k keys b = some (unmixBlockV keys b) := by
  unfold impl_UnmixBlock.f unmixBlockV
  rw [impl_keys keys hn hk, impl_key]
  by_cases h : goodKeys keys = true
  · by_cases h' : goodKey b = true
    · simp [h, h', impl_unmix' keys b h (goodKey_range h').1 (goodKey_range h').2 hk']
    · simp [h, h']
  · simp [h]

/-! byteat: a byte is from 0 to 255 -/
theorem bt_range (s : ByteArray) (i : Int) : 0 ≤ bt s i ∧ bt s i ≤ 255 := by
  unfold bt
  split
  · have := (s[i.toNat]).toNat_lt; omega
  · omega

/-! goodtext: keys, a start and a text that are good together, in both texts -/
def goodText (keys : List Int) (b : Int) (n : Nat) : Bool := goodKeys keys && goodKey b && decide ((n : Int) ≤ 40) && ((n : Int) % 2 == 0)
theorem spec_text {k : Nat} (keys : List Int) (b : Int) (s : ByteArray) (hn : keys.length ≤ 35184372088832) (hk : keys.length < k) : spec_l4Text.f k keys b s = some (goodText keys b s.size) := by
  unfold spec_l4Text.f goodText
  rw [spec_keys keys hn hk, spec_key]
  cases goodKeys keys <;> cases goodKey b <;> by_cases h : (s.size : Int) ≤ 40 <;> simp [h]
theorem impl_text {k : Nat} (keys : List Int) (b : Int) (s : ByteArray) (hn : keys.length ≤ 35184372088832) (hk : keys.length < k) : impl_isMixed.f k keys b s = some (goodText keys b s.size) := by
  unfold impl_isMixed.f goodText
  rw [impl_keys keys hn hk, impl_key]
  cases goodKeys keys <;> cases goodKey b <;> by_cases h : (s.size : Int) ≤ 40 <;> simp [h]
theorem goodText_all {keys : List Int} {b : Int} {n : Nat} (h : goodText keys b n = true) : goodKeys keys = true ∧ (0 ≤ b ∧ b ≤ 65535) ∧ n ≤ 40 ∧ n % 2 = 0 := by
  simp [goodText] at h
  obtain ⟨⟨⟨h1, h2⟩, h3⟩, h4⟩ := h
  exact ⟨h1, goodKey_range h2, by omega, by omega⟩

/-! pairs: two bytes as one number, in both texts -/
def pairAt (s : ByteArray) (i : Int) : Int := 256 * bt s i + bt s (i + 1)
theorem pairAt_range (s : ByteArray) (i : Int) : 0 ≤ pairAt s i ∧ pairAt s i ≤ 65535 := by
  unfold pairAt
  have := bt_range s i
  have := bt_range s (i + 1)
  omega
theorem spec_pair (s : ByteArray) (i : Int) : wrap64 (wrap64 (256 * wrap64 (bt s i)) + wrap64 (bt s (i + 1))) = pairAt s i := by
  have := bt_range s i
  have := bt_range s (i + 1)
  rw [wr (x := bt s i) (by omega) (by omega), wr (x := bt s (i + 1)) (by omega) (by omega), wr (x := 256 * bt s i) (by omega) (by omega), wr (by omega) (by omega)]
  rfl
theorem impl_pair (s : ByteArray) (i : Int) : Go.bits .or .i64 (wrap64 ((wrap64 (bt s i)) * 256)) (wrap64 (bt s (i + 1))) = pairAt s i := by
  have h1 := bt_range s i
  have h2 := bt_range s (i + 1)
  rw [wr (x := bt s i) (by omega) (by omega), wr (x := bt s (i + 1)) (by omega) (by omega), or8 h1.1 h1.2 h2.1 h2.2]
  rfl

/-! mixtext: a text mixed, in both texts -/
/-- What mixing makes of a text from a place on: two numbers a round. -/
def mixT (keys : List Int) (s : ByteArray) : Nat → Int → Nat → List Int
  | 0, _, _ => []
  | d + 1, b, i => let m := mixV keys (xr (pairAt s (i : Int)) b); [m / 256, m % 256] ++ mixT keys s d m (i + 2)
theorem mixText_loop (keys : List Int) (hg : goodKeys keys = true) (s : ByteArray) (hs : s.size ≤ 40) (d : Nat) : ∀ (k : Nat) (b : Int) (out : List Int) (i : Nat), i + 2 * d = s.size → d + 8 < k → 0 ≤ b → b ≤ 65535 → out.length ≤ 100 - 2 * d →
    spec_MixText.l0 k keys b s out (i : Int) = some (strOfNums (out ++ mixT keys s d b i), true) ∧ impl_mixText.l0 k keys b s out (i : Int) = some (strOfNums (out ++ mixT keys s d b i)) := by
  induction d with
  | zero =>
    intro k b out i hd hk hb hb' ho
    obtain ⟨k, rfl⟩ : ∃ m, k = m + 1 := ⟨k - 1, by omega⟩
    have h : ¬ (i : Int) < (s.size : Int) := by omega
    simp only [spec_MixText.l0, impl_mixText.l0, if_neg h, mixT, List.append_nil, and_self]
  | succ d ih =>
    intro k b out i hd hk hb hb' ho
    obtain ⟨k, rfl⟩ : ∃ m, k = m + 1 := ⟨k - 1, by omega⟩
    have h1 : (i : Int) < (s.size : Int) := by omega
    have h2 : (0 : Int) ≤ (i : Int) := by omega
    have e1 : wrap64 ((i : Int) + 1) = (i : Int) + 1 := wr (by omega) (by omega)
    have e2 : wrap64 ((i : Int) + 2) = ((i + 2 : Nat) : Int) := by rw [wr (by omega) (by omega)]; omega
    have h3 : (0 : Int) ≤ (i : Int) + 1 := by omega
    have h4 : (i : Int) + 1 < (s.size : Int) := by omega
    have hp := pairAt_range s (i : Int)
    have hx := xr16 hp.1 hp.2 hb hb'
    have hm := mixV_range keys hx.1 hx.2.1
    have hl : out.length + 2 < 140737488355328 := by omega
    have er : ∀ x, Go.bits .xor .i64 x b = xr x b := fun _ => rfl
    simp only [spec_MixText.l0, impl_mixText.l0, if_pos h1, if_pos h2, e1, if_pos h3, if_pos h4, spec_pair, impl_pair, er]
    rw [spec_mix keys _ hg hx.1 hx.2.1 (by omega), impl_mix' keys _ hg hx.1 hx.2.1 (by omega)]
    simp only [Option.bind_some, List.length_cons, List.length_nil, Nat.zero_add, if_pos hl, e2]
    have q1 : wrap64 (Int.tdiv (mixV keys (xr (pairAt s (i : Int)) b)) 256) % 256 = mixV keys (xr (pairAt s (i : Int)) b) / 256 := by
      rw [tdiv_pos hm.1, wr (by omega) (by omega)]; omega
    have q2 : Int.tmod (mixV keys (xr (pairAt s (i : Int)) b)) 256 % 256 = mixV keys (xr (pairAt s (i : Int)) b) % 256 := by
      rw [tmod_pos hm.1]; omega
    have q3 : mixV keys (xr (pairAt s (i : Int)) b) / 256 % 256 = mixV keys (xr (pairAt s (i : Int)) b) / 256 := by omega
    rw [q1, q2, q3]
    have := ih k (mixV keys (xr (pairAt s (i : Int)) b)) (out ++ [mixV keys (xr (pairAt s (i : Int)) b) / 256, mixV keys (xr (pairAt s (i : Int)) b) % 256]) (i + 2) (by omega) (by omega) hm.1 hm.2 (by simp; omega)
    simpa [mixT, List.append_assoc] using this
def mixTextV (keys : List Int) (b : Int) (s : ByteArray) : ByteArray × Bool := if goodText keys b s.size = true then (strOfNums (mixT keys s (s.size / 2) b 0), true) else (⟨#[]⟩, false)
theorem spec_mixText {k : Nat} (keys : List Int) (b : Int) (s : ByteArray) (hn : keys.length ≤ 35184372088832) (hk : keys.length + 100 < k) : spec_MixText.f k keys b s = some (mixTextV keys b s) := by
  unfold spec_MixText.f mixTextV
  rw [spec_text keys b s hn (by omega)]
  by_cases h : goodText keys b s.size = true
  · obtain ⟨h1, h2, h3, h4⟩ := goodText_all h
    have := (mixText_loop keys h1 s h3 (s.size / 2) k b [] 0 (by omega) (by omega) h2.1 h2.2 (Nat.zero_le _)).1
    rw [show ((0 : Nat) : Int) = 0 from rfl] at this
    simp [h, this]
  · simp [h]
theorem impl_mixText' {k : Nat} (keys : List Int) (b : Int) (s : ByteArray) (hn : keys.length ≤ 35184372088832) (hk : keys.length + 100 < k) : impl_MixText.f k keys b s = some (mixTextV keys b s) := by
  unfold impl_MixText.f mixTextV impl_mixText.f
  rw [impl_text keys b s hn (by omega)]
  by_cases h : goodText keys b s.size = true
  · obtain ⟨h1, h2, h3, h4⟩ := goodText_all h
    have := (mixText_loop keys h1 s h3 (s.size / 2) k b [] 0 (by omega) (by omega) h2.1 h2.2 (Nat.zero_le _)).2
    rw [show ((0 : Nat) : Int) = 0 from rfl] at this
    simp [h, this]
  · simp [h]

/-! unmixtext: a text unmixed, in both texts -/
def unmixT (keys : List Int) (s : ByteArray) : Nat → Int → Nat → List Int
  | 0, _, _ => []
  | d + 1, b, i => let m := xr (unmixV keys (pairAt s (i : Int))) b; [m / 256, m % 256] ++ unmixT keys s d (pairAt s (i : Int)) (i + 2)
theorem unmixText_loop (keys : List Int) (hg : goodKeys keys = true) (s : ByteArray) (hs : s.size ≤ 40) (d : Nat) : ∀ (k : Nat) (b : Int) (out : List Int) (i : Nat), i + 2 * d = s.size → d + 8 < k → 0 ≤ b → b ≤ 65535 → out.length ≤ 100 - 2 * d →
    spec_UnmixText.l0 k keys b s out (i : Int) = some (strOfNums (out ++ unmixT keys s d b i), true) ∧ impl_UnmixText.l0 k keys b s out (i : Int) = some (strOfNums (out ++ unmixT keys s d b i), true) := by
  induction d with
  | zero =>
    intro k b out i hd hk hb hb' ho
    obtain ⟨k, rfl⟩ : ∃ m, k = m + 1 := ⟨k - 1, by omega⟩
    have h : ¬ (i : Int) < (s.size : Int) := by omega
    simp only [spec_UnmixText.l0, impl_UnmixText.l0, if_neg h, unmixT, List.append_nil, and_self]
  | succ d ih =>
    intro k b out i hd hk hb hb' ho
    obtain ⟨k, rfl⟩ : ∃ m, k = m + 1 := ⟨k - 1, by omega⟩
    have h1 : (i : Int) < (s.size : Int) := by omega
    have h2 : (0 : Int) ≤ (i : Int) := by omega
    have e1 : wrap64 ((i : Int) + 1) = (i : Int) + 1 := wr (by omega) (by omega)
    have e2 : wrap64 ((i : Int) + 2) = ((i + 2 : Nat) : Int) := by rw [wr (by omega) (by omega)]; omega
    have h3 : (0 : Int) ≤ (i : Int) + 1 := by omega
    have h4 : (i : Int) + 1 < (s.size : Int) := by omega
    have hp := pairAt_range s (i : Int)
    have hm := unmixV_range keys hp.1 hp.2
    have hx := xr16 hm.1 hm.2 hb hb'
    have hl : out.length + 2 < 140737488355328 := by omega
    have er : ∀ x, Go.bits .xor .i64 x b = xr x b := fun _ => rfl
    simp only [spec_UnmixText.l0, impl_UnmixText.l0, if_pos h1, if_pos h2, e1, if_pos h3, if_pos h4, spec_pair, impl_pair]
    rw [spec_unmix keys _ hg hp.1 hp.2 (by omega), impl_unmix' keys _ hg hp.1 hp.2 (by omega)]
    simp only [Option.bind_some, List.length_cons, List.length_nil, Nat.zero_add, if_pos hl, e2, er]
    have q1 : wrap64 (Int.tdiv (xr (unmixV keys (pairAt s (i : Int))) b) 256) % 256 = xr (unmixV keys (pairAt s (i : Int))) b / 256 := by
      rw [tdiv_pos hx.1, wr (by omega) (by omega)]; omega
    have q2 : Int.tmod (xr (unmixV keys (pairAt s (i : Int))) b) 256 % 256 = xr (unmixV keys (pairAt s (i : Int))) b % 256 := by
      rw [tmod_pos hx.1]; omega
    have q3 : xr (unmixV keys (pairAt s (i : Int))) b / 256 % 256 = xr (unmixV keys (pairAt s (i : Int))) b / 256 := by omega
    rw [q1, q2, q3]
    have := ih k (pairAt s (i : Int)) (out ++ [xr (unmixV keys (pairAt s (i : Int))) b / 256, xr (unmixV keys (pairAt s (i : Int))) b % 256]) (i + 2) (by omega) (by omega) hp.1 hp.2 (by simp; omega)
    simpa [unmixT, List.append_assoc] using this
def unmixTextV (keys : List Int) (b : Int) (s : ByteArray) : ByteArray × Bool := if goodText keys b s.size = true then (strOfNums (unmixT keys s (s.size / 2) b 0), true) else (⟨#[]⟩, false)
theorem unmix_text {k : Nat} (keys : List Int) (b : Int) (s : ByteArray) (hn : keys.length ≤ 35184372088832) (hk : keys.length + 100 < k) : spec_UnmixText.f k keys b s = some (unmixTextV keys b s) ∧ impl_UnmixText.f k keys b s = some (unmixTextV keys b s) := by
  unfold spec_UnmixText.f impl_UnmixText.f unmixTextV
  rw [spec_text keys b s hn (by omega), impl_text keys b s hn (by omega)]
  by_cases h : goodText keys b s.size = true
  · obtain ⟨h1, h2, h3, h4⟩ := goodText_all h
    have := unmixText_loop keys h1 s h3 (s.size / 2) k b [] 0 (by omega) (by omega) h2.1 h2.2 (Nat.zero_le _)
    rw [show ((0 : Nat) : Int) = 0 from rfl] at this
    simp [h, this]
  · simp [h]

/-! mixback: a text mixed and unmixed is the text -/
theorem bt_str (l : List Int) (h : ∀ x ∈ l, 0 ≤ x ∧ x ≤ 255) (i : Nat) (hi : i < l.length) : bt (strOfNums l) (i : Int) = l[i] := by
  have hs : i < (strOfNums l).size := by rw [strOfNums_size]; exact hi
  have hx := h l[i] (List.getElem_mem hi)
  have e : (strOfNums l)[i]'hs = UInt8.ofNat l[i].toNat := by
    have h2 : i < (strOfNums l).data.toList.length := by rw [strOfNums_data]; simpa using hi
    have e1 : (strOfNums l)[i]'hs = (strOfNums l).data.toList[i]'h2 := by rw [Array.getElem_toList]; rfl
    rw [e1]
    simp only [strOfNums_data, List.getElem_map]
  unfold bt
  rw [dif_pos (by simpa using hs)]
  simp only [Int.toNat_natCast, e]
  simp
  omega
def btl (s : ByteArray) : Nat → Nat → List Int
  | 0, _ => []
  | d + 1, i => [bt s (i : Int), bt s ((i : Int) + 1)] ++ btl s d (i + 2)
theorem btl_range (s : ByteArray) (d : Nat) : ∀ i : Nat, btl s d i = (List.range' i (2 * d)).map (fun j : Nat => bt s (j : Int)) := by
  induction d with
  | zero => intro i; rfl
  | succ d ih =>
    intro i
    rw [show 2 * (d + 1) = 2 * d + 1 + 1 by omega, List.range'_succ, List.range'_succ]
    simp only [btl, ih, List.map_cons, List.cons_append, List.nil_append]
    rw [show i + 1 + 1 = i + 2 by omega]
    congr 2
theorem str_btl (s : ByteArray) (d : Nat) (h : 2 * d = s.size) : strOfNums (btl s d 0) = s := by
  rw [btl_range]
  apply ByteArray.ext
  apply Array.ext
  · show (((List.range' 0 (2 * d)).map (fun j : Nat => bt s (j : Int))).map fun n => UInt8.ofNat n.toNat).toArray.size = s.data.size
    simp
    exact h
  · intro i h1 h2
    have hi : i < s.size := h2
    have h3 : i < (strOfNums ((List.range' 0 (2 * d)).map (fun j : Nat => bt s (j : Int)))).data.toList.length := by simpa using h1
    have e1 : (strOfNums ((List.range' 0 (2 * d)).map (fun j : Nat => bt s (j : Int)))).data[i]'h1 = (strOfNums ((List.range' 0 (2 * d)).map (fun j : Nat => bt s (j : Int)))).data.toList[i]'h3 := by rw [Array.getElem_toList]
    rw [e1]
    simp only [strOfNums_data, List.getElem_map, List.getElem_range', Nat.zero_add, Nat.one_mul]
    unfold bt
    rw [dif_pos (by simpa using hi)]
    simp
    rfl
theorem mixT_len (keys : List Int) (s : ByteArray) (d : Nat) : ∀ (b : Int) (i : Nat), (mixT keys s d b i).length = 2 * d := by
  induction d with
  | zero => intro b i; rfl
  | succ d ih => intro b i; simp only [mixT, List.length_append, ih, List.length_cons, List.length_nil]; omega
theorem mixT_byte (keys : List Int) (s : ByteArray) (d : Nat) : ∀ (b : Int) (i : Nat), 0 ≤ b → b ≤ 65535 → ∀ x ∈ mixT keys s d b i, 0 ≤ x ∧ x ≤ 255 := by
  induction d with
  | zero => intro b i _ _ x hx; cases hx
  | succ d ih =>
    intro b i h0 h1 x hx
    have hp := pairAt_range s (i : Int)
    have hxr := xr16 hp.1 hp.2 h0 h1
    have hm := mixV_range keys hxr.1 hxr.2.1
    simp only [mixT, List.cons_append, List.nil_append, List.mem_cons] at hx
    rcases hx with rfl | rfl | hx
    · omega
    · omega
    · exact ih _ _ hm.1 hm.2 x hx
theorem unmix_back (keys : List Int) (s : ByteArray) (d : Nat) : ∀ (b : Int) (pre : List Int), 0 ≤ b → b ≤ 65535 → (∀ x ∈ pre, 0 ≤ x ∧ x ≤ 255) →
    unmixT keys (strOfNums (pre ++ mixT keys s d b pre.length)) d b pre.length = btl s d pre.length := by
  induction d with
  | zero => intro b pre _ _ _; rfl
  | succ d ih =>
    intro b pre h0 h1 hpre
    have hp := pairAt_range s (pre.length : Int)
    have hxr := xr16 hp.1 hp.2 h0 h1
    have hm := mixV_range keys hxr.1 hxr.2.1
    have hb := mixT_byte keys s (d + 1) b pre.length h0 h1
    have hall : ∀ x ∈ pre ++ mixT keys s (d + 1) b pre.length, 0 ≤ x ∧ x ≤ 255 := fun x hx => by
      rcases List.mem_append.1 hx with h | h
      · exact hpre x h
      · exact hb x h
    have hl := mixT_len keys s (d + 1) b pre.length
    have hm2 := unmixV_mixV keys hxr.1 hxr.2.1
    generalize hM : mixV keys (xr (pairAt s (pre.length : Int)) b) = m at *
    have em : mixT keys s (d + 1) b pre.length = [m / 256, m % 256] ++ mixT keys s d m (pre.length + 2) := by simp only [mixT, hM]
    have e0 : bt (strOfNums (pre ++ mixT keys s (d + 1) b pre.length)) (pre.length : Int) = m / 256 := by
      rw [bt_str _ hall pre.length (by simp; omega)]
      rw [List.getElem_append_right (by omega)]
      simp [em]
    have e1 : bt (strOfNums (pre ++ mixT keys s (d + 1) b pre.length)) ((pre.length : Int) + 1) = m % 256 := by
      rw [show (pre.length : Int) + 1 = ((pre.length + 1 : Nat) : Int) by omega, bt_str _ hall (pre.length + 1) (by simp; omega)]
      rw [List.getElem_append_right (by omega)]
      simp [em]
    have ep : pairAt (strOfNums (pre ++ mixT keys s (d + 1) b pre.length)) (pre.length : Int) = m := by
      unfold pairAt; rw [e0, e1]; omega
    have ih' := ih m (pre ++ [m / 256, m % 256]) hm.1 hm.2 (fun x hx => by
      rcases List.mem_append.1 hx with h | h
      · exact hpre x h
      · simp at h; rcases h with rfl | rfl <;> omega)
    have eT : pre ++ mixT keys s (d + 1) b pre.length = (pre ++ [m / 256, m % 256]) ++ mixT keys s d m (pre.length + 2) := by rw [em, List.append_assoc]
    have el : (pre ++ [m / 256, m % 256]).length = pre.length + 2 := by simp
    rw [el] at ih'
    simp only [unmixT, btl]
    rw [ep, hm2, hxr.2.2, eT, ih']
    congr 1
    unfold pairAt
    have b1 := bt_range s (pre.length : Int)
    have b2 := bt_range s ((pre.length : Int) + 1)
    rw [show (256 * bt s (pre.length : Int) + bt s ((pre.length : Int) + 1)) / 256 = bt s (pre.length : Int) by omega, show (256 * bt s (pre.length : Int) + bt s ((pre.length : Int) + 1)) % 256 = bt s ((pre.length : Int) + 1) by omega]

/-! draws: what is drawn from bytes -/
theorem u64_range (n : Int) : 0 ≤ IntKind.u64.wrap n ∧ IntKind.u64.wrap n < 18446744073709551616 := by
  simp [IntKind.wrap, IntKind.bits, IntKind.signed]; omega
theorem wraps_u64_24 (n : Int) (h₀ : 0 ≤ n) (h₁ : n < 2 ^ 24) : IntKind.u64.wrap n = n := by
  simp [IntKind.wrap, IntKind.bits, IntKind.signed]; omega
theorem and255 (z : Int) : 0 ≤ wrap64 (Go.bits .and .u64 (IntKind.u64.wrap z / 1099511627776) 255) ∧ wrap64 (Go.bits .and .u64 (IntKind.u64.wrap z / 1099511627776) 255) ≤ 255 := by
  obtain ⟨h1, h2⟩ := u64_range z
  generalize IntKind.u64.wrap z = y at *
  have e : Go.bits .and .u64 (y / 1099511627776) 255 = (y / 1099511627776) % 256 := bits_mask .u64 24 (by decide) wraps_u64_24 8 (by decide) _ (by omega) (by omega)
  rw [e, wr (by omega) (by omega)]
  omega
def Byt (s : List Int) : Prop := ∀ x ∈ s, 0 ≤ x ∧ x ≤ 255
theorem Byt.at {s : List Int} (h : Byt s) (a : Int) : 0 ≤ rd s a ∧ rd s a ≤ 255 := by
  unfold rd
  rw [List.getD_eq_getElem?_getD]
  by_cases e : a.toNat < s.length
  · rw [List.getElem?_eq_getElem e]; exact h _ (List.getElem_mem e)
  · rw [List.getElem?_eq_none (by omega)]; simp
theorem next_ok {s : List Int} (hs : Byt s) (a z : Int) (h0 : 0 ≤ a) (h1 : a ≤ 1000000000000) : ∃ r z', spec_l1Cur_next.f s a z = some (r, a + 1, z') ∧ 0 ≤ r ∧ r ≤ 255 := by
  have hb := hs.at a
  unfold spec_l1Cur_next.f
  rw [wr (x := a + 1) (by omega) (by omega)]
  by_cases h : a < (s.length : Int)
  · rw [if_pos h, if_pos h0]
    by_cases h' : a + 1 ≤ (s.length : Int)
    · rw [if_pos h']
      exact ⟨_, _, rfl, by rw [wr (by omega) (by omega)]; omega, by rw [wr (by omega) (by omega)]; omega⟩
    · rw [if_neg h']
      exact ⟨_, _, rfl, (and255 _).1, (and255 _).2⟩
  · rw [if_neg h]
    by_cases h' : a + 1 ≤ (s.length : Int)
    · rw [if_pos h']
      exact ⟨_, _, rfl, by omega, by omega⟩
    · rw [if_neg h']
      exact ⟨_, _, rfl, (and255 _).1, (and255 _).2⟩
theorem pick_ok {s : List Int} (hs : Byt s) (a z n : Int) (h0 : 0 ≤ a) (h1 : a ≤ 100000000000) (hn : n ≤ 1000000) : ∃ r a' z', spec_l1Cur_pick.f s a z n = some (r, a', z') ∧ 0 ≤ r ∧ (1 ≤ n → r < n) ∧ r ≤ 1000000 ∧ a ≤ a' ∧ a' ≤ a + 2 := by
  unfold spec_l1Cur_pick.f
  by_cases h : n ≤ 1
  · rw [if_pos h]
    exact ⟨0, a, z, rfl, by omega, by omega, by omega, by omega, by omega⟩
  · rw [if_neg h]
    obtain ⟨r, z1, e1, r0, r1⟩ := next_ok hs a z h0 (by omega)
    rw [e1, Option.bind_some]
    have hz : ¬ n = 0 := by omega
    by_cases h' : n > 200
    · obtain ⟨q, z2, e2, q0, q1⟩ := next_ok hs (a + 1) z1 (by omega) (by omega)
      rw [if_pos h', e2, Option.bind_some, if_neg hz]
      have e : wrap64 (wrap64 (r * 256) + q) = r * 256 + q := by rw [wr (x := r * 256) (by omega) (by omega), wr (by omega) (by omega)]
      rw [e, Int.tmod_eq_emod_of_nonneg (by omega)]
      have b0 := Int.emod_nonneg (r * 256 + q) hz
      have b1 := Int.emod_lt_of_pos (r * 256 + q) (show 0 < n by omega)
      exact ⟨_, _, _, rfl, b0, fun _ => b1, by omega, (by show a ≤ a + 1 + 1; omega), (by show a + 1 + 1 ≤ a + 2; omega)⟩
    · rw [if_neg h', if_neg hz, Int.tmod_eq_emod_of_nonneg r0]
      have b0 := Int.emod_nonneg r hz
      have b1 := Int.emod_lt_of_pos r (show 0 < n by omega)
      exact ⟨_, _, _, rfl, b0, fun _ => b1, by omega, (by show a ≤ a + 1; omega), (by show a + 1 ≤ a + 2; omega)⟩
theorem byt_of {s : List Int} (hs : ∀ x ∈ s, (Lit.int .u8 x).wf = true) : Byt s := by
  intro x hx
  have := hs x hx
  simp [Lit.wf, IntKind.min, IntKind.max, IntKind.bits, IntKind.signed] at this
  omega

theorem among_ok {s : List Int} (hs : Byt s) (a z : Int) (l : List Int) (h0 : 0 ≤ a) (h1 : a ≤ 100000000000) (hl : 1 ≤ l.length) (hl' : l.length ≤ 1000) : ∃ r a' z', spec_l1Cur_among.f s a z l = some (r, a', z') ∧ r ∈ l ∧ a ≤ a' ∧ a' ≤ a + 2 := by
  unfold spec_l1Cur_among.f
  obtain ⟨r, a', z', e, r0, r1, _, r2, r3⟩ := pick_ok hs a z (l.length : Int) h0 h1 (by omega)
  have r4 := r1 (by omega)
  rw [e, Option.bind_some, if_pos r0, if_pos r4]
  refine ⟨_, _, _, rfl, ?_, r2, r3⟩
  unfold rd
  rw [List.getD_eq_getElem?_getD, List.getElem?_eq_getElem (by omega)]
  exact List.getElem_mem _

/-! drawkeys: what FnMixed draws -/
theorem one_ok {s : List Int} (hs : Byt s) (a z n : Int) (h0 : 0 ≤ a) (h1 : a ≤ 100000000000) (hn : n ≤ 1000000) : ∃ r a' z', spec_l1Cur_one.f s a z n = some (r, a', z') ∧ a ≤ a' ∧ a' ≤ a + 2 := by
  unfold spec_l1Cur_one.f
  obtain ⟨r, a', z', e, _, _, _, u, v⟩ := pick_ok hs a z n h0 h1 hn
  rw [e, Option.bind_some]
  exact ⟨_, a', z', rfl, u, v⟩
theorem keysj_ok {s : List Int} (hs : Byt s) (k : Nat) (l : List Int) (hl : l.length ≤ 10) (a z : Int) (h0 : 0 ≤ a) (h1 : a ≤ 1000) : ∃ r a' z', spec_l1Cur_keys.j1 (k + 1) l s a z = some (r, a', z') ∧ r.length ≤ 10 ∧ 0 ≤ a' ∧ a' ≤ a + 10 := by
  simp only [spec_l1Cur_keys.j1]
  by_cases h : (l.length : Int) > 0
  · rw [if_pos h]
    obtain ⟨r1, a1, z1, e1, u1, v1⟩ := one_ok hs a z 20 h0 (by omega) (by omega)
    rw [e1, Option.bind_some]
    cases r1 with
    | false => rw [if_neg Bool.false_ne_true]; exact ⟨l, a1, z1, rfl, hl, by omega, by omega⟩
    | true =>
      obtain ⟨r2, a2, z2, e2, _, u2, v2⟩ := among_ok hs a1 z1 ([(-1), 65535, 65536] : List Int) (by omega) (by omega) (by simp) (by simp)
      rw [if_pos rfl, e2, Option.bind_some, if_pos (show 0 < (l.length : Int) by omega)]
      exact ⟨_, a2, z2, rfl, by simpa using hl, by omega, by omega⟩
  · rw [if_neg h]
    exact ⟨l, a, z, rfl, hl, h0, by omega⟩
theorem keysl_ok {s : List Int} (hs : Byt s) (n : Nat) : ∀ (k : Nat) (l : List Int) (a z : Int), n + 5 < k → l.length + n ≤ 10 → 0 ≤ a → a + 4 * n ≤ 900 → ∃ r a' z', spec_l1Cur_keys.l0 k l (n : Int) s a z = some (r, a', z') ∧ r.length ≤ 10 ∧ 0 ≤ a' ∧ a' ≤ 1000 := by
  induction n with
  | zero =>
    intro k l a z hk hl h0 h1
    obtain ⟨k, rfl⟩ : ∃ m, k = m + 2 := ⟨k - 2, by omega⟩
    have h : ¬ ((0 : Nat) : Int) > 0 := by omega
    simp only [spec_l1Cur_keys.l0]
    obtain ⟨r1, a1, z1, e1, u1, v1⟩ := one_ok hs a z 20 h0 (by omega) (by omega)
    rw [if_neg h, e1, Option.bind_some]
    cases r1 with
    | false =>
      rw [if_neg Bool.false_ne_true]
      obtain ⟨r, a', z', e, l', u, v⟩ := keysj_ok hs k l (by omega) a1 z1 (by omega) (by omega)
      exact ⟨r, a', z', e, l', u, by omega⟩
    | true =>
      obtain ⟨r2, a2, z2, e2, p0, p1, _, u2, v2⟩ := pick_ok hs a1 z1 2 (by omega) (by omega) (by omega)
      have p2 := p1 (by omega)
      have hw : wrap64 (8 + r2) = 8 + r2 := wr (by omega) (by omega)
      rw [if_pos rfl, e2, Option.bind_some, hw, if_pos (show 0 ≤ 8 + r2 by omega), if_pos (show (8 + r2).toNat ≤ 35184372088832 by omega)]
      obtain ⟨r, a', z', e, l', u, v⟩ := keysj_ok hs k (List.replicate (8 + r2).toNat 0) (by simp; omega) a2 z2 (by omega) (by omega)
      exact ⟨r, a', z', e, l', u, by omega⟩
  | succ n ih =>
    intro k l a z hk hl h0 h1
    obtain ⟨k, rfl⟩ : ∃ m, k = m + 1 := ⟨k - 1, by omega⟩
    have h : ((n + 1 : Nat) : Int) > 0 := by omega
    simp only [spec_l1Cur_keys.l0]
    obtain ⟨r1, a1, z1, e1, _, _, _, u1, v1⟩ := pick_ok hs a z 256 h0 (by omega) (by omega)
    obtain ⟨r2, a2, z2, e2, _, _, _, u2, v2⟩ := pick_ok hs a1 z1 256 (by omega) (by omega) (by omega)
    have hc : l.length < 17592186044416 := by omega
    rw [if_pos h, e1, Option.bind_some, e2, Option.bind_some, if_pos hc, wr (x := ((n + 1 : Nat) : Int) - 1) (by omega) (by omega), show ((n + 1 : Nat) : Int) - 1 = (n : Int) by omega]
    exact ih k _ a2 z2 (by omega) (by simp; omega) (by omega) (by omega)
theorem keys_ok {s : List Int} (hs : Byt s) {k : Nat} (hk : 20 < k) : ∃ r a' z', spec_l1Cur_keys.f k s 0 0 = some (r, a', z') ∧ r.length ≤ 10 ∧ 0 ≤ a' ∧ a' ≤ 1000 := by
  unfold spec_l1Cur_keys.f
  obtain ⟨r1, a1, z1, e1, p0, p1, _, u1, v1⟩ := pick_ok hs 0 0 6 (by omega) (by omega) (by omega)
  have p2 := p1 (by omega)
  obtain ⟨n, rfl⟩ := Int.eq_ofNat_of_zero_le p0
  rw [e1, Option.bind_some]
  exact keysl_ok hs n k [] a1 z1 (by omega) (by simp; omega) (by omega) (by omega)
theorem block_ok {s : List Int} (hs : Byt s) (a z : Int) (h0 : 0 ≤ a) (h1 : a ≤ 100000) : ∃ r a' z', spec_l1Cur_block.f s a z = some (r, a', z') ∧ a ≤ a' ∧ a' ≤ a + 10 := by
  unfold spec_l1Cur_block.f
  obtain ⟨r1, a1, z1, e1, _, _, _, u1, v1⟩ := pick_ok hs a z 256 h0 (by omega) (by omega)
  obtain ⟨r2, a2, z2, e2, _, _, _, u2, v2⟩ := pick_ok hs a1 z1 256 (by omega) (by omega) (by omega)
  obtain ⟨r3, a3, z3, e3, _, _, _, u3, v3⟩ := pick_ok hs a2 z2 256 (by omega) (by omega) (by omega)
  obtain ⟨r4, a4, z4, e4, _, _, _, u4, v4⟩ := pick_ok hs a3 z3 256 (by omega) (by omega) (by omega)
  rw [e1, Option.bind_some, e2, Option.bind_some, e3, Option.bind_some, e4, Option.bind_some]
  obtain ⟨r5, a5, z5, e5, _, u5, v5⟩ := among_ok hs a4 z4 ([(-1), 0, 1, 65535, 65536, wrap64 ((wrap64 (r1 * 256)) + r2), wrap64 ((wrap64 (r3 * 256)) + r4)] : List Int) (by omega) (by omega) (by simp) (by simp)
  rw [e5, Option.bind_some]
  exact ⟨_, a5, z5, rfl, by omega, by omega⟩
theorem of_ok {s : List Int} (hs : Byt s) (a z : Int) (l : List ByteArray) (h0 : 0 ≤ a) (h1 : a ≤ 100000000000) (hl : 1 ≤ l.length) (hl' : l.length ≤ 1000) : ∃ r a' z', spec_l1Cur_of.f s a z l = some (r, a', z') ∧ a ≤ a' ∧ a' ≤ a + 2 := by
  unfold spec_l1Cur_of.f
  obtain ⟨r, a', z', e, r0, r1, _, r2, r3⟩ := pick_ok hs a z (l.length : Int) h0 h1 (by omega)
  have r4 := r1 (by omega)
  rw [e, Option.bind_some, if_pos r0, if_pos r4]
  exact ⟨_, a', z', rfl, r2, r3⟩
theorem drawblock_ok {s : List Int} (hs : Byt s) {k : Nat} (hk : 20 < k) : ∃ r : List Int × Int, spec_DrawMixBlock.f k s = some r ∧ r.1.length ≤ 10 := by
  unfold spec_DrawMixBlock.f
  obtain ⟨r1, a1, z1, e1, l1, u1, v1⟩ := keys_ok hs hk
  obtain ⟨r2, a2, z2, e2, _, _⟩ := block_ok hs a1 z1 u1 (by omega)
  rw [e1, Option.bind_some, e2, Option.bind_some]
  exact ⟨(r1, r2), rfl, l1⟩
theorem drawtext_ok {s : List Int} (hs : Byt s) {k : Nat} (hk : 20 < k) : ∃ r : List Int × Int × ByteArray, spec_DrawMixText.f k s = some r ∧ r.1.length ≤ 10 := by
  unfold spec_DrawMixText.f
  obtain ⟨r1, a1, z1, e1, l1, u1, v1⟩ := keys_ok hs hk
  obtain ⟨r2, a2, z2, e2, u2, v2⟩ := block_ok hs a1 z1 u1 (by omega)
  rw [e1, Option.bind_some, e2, Option.bind_some, if_pos (by omega), if_pos (by omega)]
  generalize hL : ([(⟨#[]⟩ : ByteArray), (⟨#[97, 98]⟩ : ByteArray), (⟨#[97, 98, 99]⟩ : ByteArray), (⟨#[115, 111, 109, 101, 32, 116, 101, 120, 116, 33]⟩ : ByteArray), strOfNums (List.replicate 40 0), strOfNums (List.replicate 42 0)] : List ByteArray) = L
  have hl : L.length = 6 := by rw [← hL]; rfl
  obtain ⟨r3, a3, z3, e3, _, _⟩ := of_ok hs a2 z2 L (by omega) (by omega) (by omega) (by omega)
  rw [e3, Option.bind_some]
  exact ⟨(r1, r2, r3), rfl, l1⟩
theorem drawround_ok {s : List Int} (hs : Byt s) : ∃ r : Int × Int, spec_DrawRoundOf.f s = some r := by
  unfold spec_DrawRoundOf.f
  obtain ⟨r1, a1, z1, e1, u1, v1⟩ := block_ok hs 0 0 (by omega) (by omega)
  obtain ⟨r2, a2, z2, e2, _, _, _, u2, v2⟩ := pick_ok hs a1 z1 256 (by omega) (by omega) (by omega)
  rw [e1, Option.bind_some, e2, Option.bind_some]
  obtain ⟨r3, a3, z3, e3, _, _, _⟩ := among_ok hs a2 z2 ([(-1), 0, 255, 256, r2] : List Int) (by omega) (by omega) (by simp) (by simp)
  rw [e3, Option.bind_some]
  exact ⟨_, rfl⟩

theorem round_of (a b : Int) : ∃ r, spec_RoundOf.f a b = some r ∧ impl_RoundOf.f a b = some r := by
  unfold spec_RoundOf.f impl_RoundOf.f spec_l4Key.f impl_isKey.f
  simp only [within_eq, in_some, Option.bind_some]
  cases (decide (0 ≤ a) && decide (a ≤ 65535)) <;> cases (decide (0 ≤ b) && decide (b ≤ 255)) <;> simp [spec_l4Round.f, impl_round.f]
theorem mixed_j3 {more : List Int} (hb : Byt more) (k : Nat) : laws_FnMixed.j3 (k + 1) more false = some true := by
  simp only [laws_FnMixed.j3, Bool.false_eq_true, if_false]
  obtain ⟨⟨a, b⟩, e⟩ := drawround_ok hb
  obtain ⟨r, e1, e2⟩ := round_of a b
  rw [e, Option.bind_some, e2, Option.bind_some, e1, Option.bind_some, beq_self_eq_true, if_pos rfl, beq_self_eq_true]
theorem mixed_j2 {more : List Int} (hb : Byt more) (k : Nat) (hk : 1000 < k) (keys : List Int) (hl : keys.length ≤ 10) (b : Int) (s : ByteArray) : laws_FnMixed.j2 (k + 2) more keys b s (mixTextV keys b s).1 (mixTextV keys b s).2 false = some true := by
  simp only [laws_FnMixed.j2, Bool.false_eq_true, if_false]
  by_cases h : goodText keys b s.size = true
  · obtain ⟨h1, h2, h3, h4⟩ := goodText_all h
    have em : mixTextV keys b s = (strOfNums (mixT keys s (s.size / 2) b 0), true) := by unfold mixTextV; rw [if_pos h]
    have hsz : (strOfNums (mixT keys s (s.size / 2) b 0)).size = s.size := by rw [strOfNums_size, mixT_len]; omega
    rw [em]
    simp only [if_true]
    have hu := (unmix_text (k := k + 1) keys b (strOfNums (mixT keys s (s.size / 2) b 0)) (by omega) (by omega)).2
    have eu : unmixTextV keys b (strOfNums (mixT keys s (s.size / 2) b 0)) = (s, true) := by
      unfold unmixTextV
      rw [hsz, if_pos h]
      have := unmix_back keys s (s.size / 2) b [] h2.1 h2.2 (fun x hx => by cases hx)
      simp only [List.nil_append, List.length_nil] at this
      rw [this, str_btl s (s.size / 2) (by omega)]
    rw [hu, eu, Option.bind_some, if_pos rfl, if_pos rfl, hsz, bne_self_eq_false]
    exact mixed_j3 hb k
  · have em : mixTextV keys b s = (⟨#[]⟩, false) := by unfold mixTextV; rw [if_neg h]
    rw [em]
    simp only [Bool.false_eq_true, if_false]
    obtain ⟨⟨a, b⟩, e⟩ := drawround_ok hb
    obtain ⟨r, e1, e2⟩ := round_of a b
    rw [e, Option.bind_some, e2, Option.bind_some, e1, Option.bind_some, beq_self_eq_true, if_pos rfl, beq_self_eq_true]
theorem mixed_j1 {more : List Int} (hb : Byt more) (k : Nat) (hk : 1000 < k) : laws_FnMixed.j1 (k + 3) more = some true := by
  simp only [laws_FnMixed.j1]
  obtain ⟨⟨keys, b, s⟩, e, hl⟩ := drawtext_ok hb (k := k + 2) (by omega)
  have hl : keys.length ≤ 10 := hl
  obtain ⟨u1, u2⟩ := unmix_text (k := k + 2) keys b s (by omega) (by omega)
  rw [e, Option.bind_some, impl_mixText' (k := k + 2) keys b s (by omega) (by omega), Option.bind_some, spec_mixText (k := k + 2) keys b s (by omega) (by omega), Option.bind_some, u2, Option.bind_some, u1, Option.bind_some]
  simp only [bne_self_eq_false, Bool.false_eq_true, if_false, if_true]
  exact mixed_j2 hb k hk keys hl b s
theorem FnMixed : ∀ (l0 : List Int) (l1 : List Int), l0.length ≤ maxLen → (∀ n ∈ l0, (Lit.int .u8 n).wf = true) → l1.length ≤ maxLen → (∀ n ∈ l1, (Lit.int .u8 n).wf = true) → ∃ k, laws_FnMixed.f k l0 l1 = some true := by
  intro code more _ hc _ hm
  refine rounds_of 3000 fun k hk => ?_
  obtain ⟨k, rfl⟩ : ∃ j, k = j + 4 := ⟨k - 4, by omega⟩
  unfold laws_FnMixed.f
  by_cases h : wrap64 ((code.length : Int) + (more.length : Int)) > 1048576
  · rw [if_pos h]
  · rw [if_neg h]
    have hb1 : Byt code := byt_of hc
    have hb2 : Byt more := byt_of hm
    have hj := mixed_j1 hb2 k (by omega)
    obtain ⟨⟨keys, b⟩, e, hl⟩ := drawblock_ok hb1 (k := k + 4) (by omega)
    have hl : keys.length ≤ 10 := hl
    rw [e, Option.bind_some, impl_mixBlock keys b (by omega) (by omega) (by omega), Option.bind_some, spec_mixBlock keys b (by omega) (by omega) (by omega), Option.bind_some, impl_unmixBlock keys b (by omega) (by omega) (by omega), Option.bind_some, spec_unmixBlock keys b (by omega) (by omega) (by omega), Option.bind_some]
    simp only [bne_self_eq_false, Bool.false_eq_true, if_false, if_true]
    simp only [laws_FnMixed.j0, Bool.false_eq_true, if_false]
    by_cases g : goodKeys keys = true ∧ goodKey b = true
    · have em : mixBlockV keys b = (mixV keys b, true) := by unfold mixBlockV; rw [if_pos g]
      have eu : unmixBlockV keys b = (unmixV keys b, true) := by unfold unmixBlockV; rw [if_pos g]
      obtain ⟨b0, b1⟩ := goodKey_range g.2
      have r1 := mixV_range keys b0 b1
      have r2 := unmixV_range keys b0 b1
      have g1 : goodKeys keys = true ∧ goodKey (mixV keys b) = true := ⟨g.1, by simpa [goodKey] using r1⟩
      have g2 : goodKeys keys = true ∧ goodKey (unmixV keys b) = true := ⟨g.1, by simpa [goodKey] using r2⟩
      have f1 : unmixBlockV keys (mixV keys b) = (b, true) := by unfold unmixBlockV; rw [if_pos g1, unmixV_mixV keys b0 b1]
      have f2 : mixBlockV keys (unmixV keys b) = (b, true) := by unfold mixBlockV; rw [if_pos g2, mixV_unmixV keys b0 b1]
      rw [em, eu]
      simp only [if_true]
      rw [impl_unmixBlock keys (mixV keys b) (by omega) (by omega) (by omega), Option.bind_some, f1, impl_mixBlock keys (unmixV keys b) (by omega) (by omega) (by omega), Option.bind_some, f2, if_pos rfl, if_pos rfl, if_pos rfl, if_pos rfl]
      exact hj
    · have em : mixBlockV keys b = (0, false) := by unfold mixBlockV; rw [if_neg g]
      rw [em]
      simp only [Bool.false_eq_true, if_false]
      exact hj

end Go.Proofs.Ytoigapileicelaa.Pure
