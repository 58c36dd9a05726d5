/- SecretFits answers as the reference does and leaves its argument alone, for all parts and numbers (the plain half). -/
import Derived.Test.YtadooofomkdaoaaQFnExactSecretFitsx
set_option linter.unusedVariables false
set_option linter.unusedSimpArgs false
namespace Go.Proofs.Ytadooofomkdaoaa.Pure
open Go.RowKit Go.Proofs.Ytadooofomkdaoaa.QFnExactSecretFits Go.Proofs.YtadooofomkdaoaaW.PrintWords Go.Proofs.YtadooofomkdaoaaW.PrintLast Go.Proofs.YtadooofomkdaoaaW.PrintMore

/-! base: sums of int that stay in range; `tmod` and `tdiv` of what is not negative -/
theorem wr {x : Int} (h1 : -9223372036854775808 ≤ x) (h2 : x ≤ 9223372036854775807) : wrap64 x = x := by
  unfold wrap64; omega
theorem tmod_pos {a b : Int} (h : 0 ≤ a) : Int.tmod a b = a % b := Int.tmod_eq_emod_of_nonneg h
theorem tdiv_pos {a b : Int} (h : 0 ≤ a) : Int.tdiv a b = a / b := Int.tdiv_eq_ediv_of_nonneg h
theorem rounds_of {α : Type} {g : Nat → Option α} {r : α} (N : Nat) (h : ∀ k, N < k → g k = some r) : ∃ k, g k = some r := ⟨N + 1, h _ (Nat.lt_succ_self N)⟩

/-! lists: reading a list at a place; a copy of a list; a list is like itself -/
theorem rd_at (xs : List Int) (i : Nat) (h : i < xs.length) : rd xs (i : Int) = xs[i] := by
  simp [rd, List.getD_eq_getElem?_getD, h]
theorem wr_succ (i : Nat) (h : i < 9000000000000000000) : wrap64 ((i : Int) + 1) = ((i + 1 : Nat) : Int) := by
  rw [wr (by omega) (by omega)]; omega
theorem same_list {α : Type} {xs ys : List α} (hl : ys.length = xs.length) (h : ∀ j, j < xs.length → ys[j]? = xs[j]?) : ys = xs := by
  apply List.ext_getElem?
  intro j
  by_cases hj : j < xs.length
  · exact h j hj
  · rw [List.getElem?_eq_none (by omega), List.getElem?_eq_none (by omega)]
theorem set_upto {α : Type} {xs ys : List α} {i : Nat} (hl : ys.length = xs.length) (hi : i < xs.length) (h : ∀ j, j < i → ys[j]? = xs[j]?) :
    ∀ j, j < i + 1 → (ys.set i xs[i])[j]? = xs[j]? := by
  intro j hj
  rw [List.getElem?_set]
  by_cases e : i = j
  · subst e; rw [if_pos rfl, if_pos (by omega), List.getElem?_eq_getElem hi]
  · rw [if_neg e]; exact h j (by omega)

/-! toparts: laws.toPartS makes parts of the law's own -/
def cvP (p : S99) : S70 := ⟨p.f0, p.f1⟩
theorem rdq_at (xs : List S99) (i : Nat) (h : i < xs.length) : rd_T99 xs (i : Int) = xs[i] := by
  simp [rd_T99, List.getD_eq_getElem?_getD, h]
theorem toPartS_loop (xs : List S99) (hn : xs.length ≤ 17592186044416) (d : Nat) : ∀ (k : Nat) (ys : List S70) (i : Nat), ys.length = (xs.map cvP).length → (∀ j, j < i → ys[j]? = (xs.map cvP)[j]?) → i + d = (xs.map cvP).length → d < k →
    laws_toPartS.l0 k xs ys (i : Int) = some (xs.map cvP) := by
  have hm : (xs.map cvP).length = xs.length := by simp
  induction d with
  | zero =>
    intro k ys i hl h hd hk
    obtain ⟨k, rfl⟩ : ∃ m, k = m + 1 := ⟨k - 1, by omega⟩
    simp only [laws_toPartS.l0]
    rw [if_neg (by omega), same_list hl (fun j hj => h j (by omega))]
  | succ d ih =>
    intro k ys i hl h hd hk
    obtain ⟨k, rfl⟩ : ∃ m, k = m + 1 := ⟨k - 1, by omega⟩
    have hi : i < xs.length := by omega
    have hi' : i < (xs.map cvP).length := by omega
    have h1 : (i : Int) < (xs.length : Int) := by omega
    have h2 : (0 : Int) ≤ (i : Int) := by omega
    have h3 : (i : Int) < (ys.length : Int) := by omega
    have e : (⟨xs[i].f0, xs[i].f1⟩ : S70) = (xs.map cvP)[i] := by simp [cvP]
    simp only [laws_toPartS.l0, laws_toPart.f]
    rw [if_pos h1, if_pos h2, Option.bind_some, if_pos h3, rdq_at xs i hi, wr_succ i (by omega), Int.toNat_natCast]
    show laws_toPartS.l0 k xs (ys.set i (⟨xs[i].f0, xs[i].f1⟩ : S70)) ((i + 1 : Nat) : Int) = _
    rw [e]
    exact ih k _ (i + 1) (by simpa using hl) (set_upto hl hi' h) (by omega) (by omega)
theorem toPartS_eq {k : Nat} (xs : List S99) (hn : xs.length ≤ 17592186044416) (hk : xs.length < k) : laws_toPartS.f k xs = some (xs.map cvP) := by
  unfold laws_toPartS.f
  rw [if_pos (by omega), if_pos (by omega)]
  exact toPartS_loop xs hn xs.length k _ 0 (by simp) (fun j hj => by omega) (by simp) hk
theorem sz_parts (xs : List S99) (left : Int) (hn : xs.length ≤ 9223372036854775807) (h0 : 0 ≤ left) (h1 : left ≤ 1048576) : laws_szPartS.f xs left = some (if left < (xs.length : Int) then -1 else left - xs.length) := by
  unfold laws_szPartS.f
  rw [wr (by omega) (by omega)]
  by_cases h : left < (xs.length : Int)
  · rw [if_pos (by omega), if_pos h]
  · rw [if_neg (by omega), if_neg h]

/-! parts: laws.eqPartS, laws.markPartS, laws.heldPartS -/
theorem rdp_at (xs : List S70) (i : Nat) (h : i < xs.length) : rd_T70 xs (i : Int) = xs[i] := by
  simp [rd_T70, List.getD_eq_getElem?_getD, h]
theorem eqPart_self (a b : Int) : laws_eqPart.f a b a b = some true := by simp [laws_eqPart.f]
theorem eqPartS_loop (xs : List S70) (hn : xs.length ≤ 35184372088832) (d : Nat) : ∀ (k : Nat) (i : Nat), i + d = xs.length → d < k → laws_eqPartS.l0 k xs xs (i : Int) = some true := by
  induction d with
  | zero =>
    intro k i hd hk
    obtain ⟨k, rfl⟩ : ∃ m, k = m + 1 := ⟨k - 1, by omega⟩
    simp only [laws_eqPartS.l0]
    rw [if_neg (by omega)]
  | succ d ih =>
    intro k i hd hk
    obtain ⟨k, rfl⟩ : ∃ m, k = m + 1 := ⟨k - 1, by omega⟩
    have h1 : (i : Int) < (xs.length : Int) := by omega
    have h2 : (0 : Int) ≤ (i : Int) := by omega
    simp only [laws_eqPartS.l0, if_pos h1, if_pos h2, eqPart_self, Option.bind_some, if_true, wr_succ i (by omega)]
    exact ih k (i + 1) (by omega) (by omega)
theorem eqPartS_self {k : Nat} (xs : List S70) (hn : xs.length ≤ 35184372088832) (hk : xs.length < k) : laws_eqPartS.f k xs xs = some true := by
  unfold laws_eqPartS.f
  rw [if_pos rfl]
  exact eqPartS_loop xs hn xs.length k 0 (by omega) hk

/-! modp: numbers modulo 1499, in both texts -/
theorem mod_some (a : Int) (h : -4000000000000000000 ≤ a) (h' : a ≤ 4000000000000000000) : Int.tmod (wrap64 (Int.tmod a 1499 + 1499)) 1499 = a % 1499 := by
  have e := Int.tmod_eq_emod (a := a) (b := 1499)
  have : Int.tmod a 1499 = a % 1499 ∨ Int.tmod a 1499 = a % 1499 - 1499 := by
    rw [e]
    split
    · left; omega
    · right; rfl
  rcases this with h1 | h1
  · rw [h1, wr (by omega) (by omega), tmod_pos (by omega)]; omega
  · rw [h1, wr (by omega) (by omega), tmod_pos (by omega)]; omega
theorem spec_mod (a : Int) (h : -4000000000000000000 ≤ a) (h' : a ≤ 4000000000000000000) : spec_l5Mod.f a = some (a % 1499) := by
  unfold spec_l5Mod.f; rw [mod_some a h h']
theorem impl_mod (a : Int) (h : -4000000000000000000 ≤ a) (h' : a ≤ 4000000000000000000) : impl_modulo.f a = some (a % 1499) := by
  unfold impl_modulo.f; rw [mod_some a h h']
theorem pq_step (c m q : Nat) : (c * m % 1499) * (m * m % 1499) ^ q % 1499 = c * m ^ (2 * q + 1) % 1499 := by
  rw [Nat.mul_mod, Nat.mod_mod, ← Nat.pow_mod, ← Nat.mul_mod]
  congr 1
  rw [Nat.pow_succ, Nat.pow_mul, Nat.pow_two, Nat.mul_assoc, Nat.mul_comm m]
theorem pq_step0 (c m q : Nat) : c * (m * m % 1499) ^ q % 1499 = c * m ^ (2 * q) % 1499 := by
  rw [Nat.mul_mod, ← Nat.pow_mod, ← Nat.mul_mod]
  congr 1
  rw [Nat.pow_mul, Nat.pow_two]
theorem pq_mul (x y : Nat) (hx : x < 1499) (hy : y < 1499) : Int.tmod (wrap64 ((x : Int) * (y : Int))) 1499 = ((x * y % 1499 : Nat) : Int) := by
  have h : x * y ≤ 1499 * 1499 := Nat.mul_le_mul (by omega) (by omega)
  have e : (x : Int) * (y : Int) = ((x * y : Nat) : Int) := by push_cast; rfl
  rw [e, wr (by omega) (by omega), tmod_pos (by omega)]
  omega
theorem pq_half (e : Nat) (h : e < 9000000000000000000) : wrap64 (Int.tdiv (e : Int) 2) = ((e / 2 : Nat) : Int) := by
  rw [tdiv_pos (by omega), wr (by omega) (by omega)]; omega
/-- c * m ^ e modulo 1499 -/
theorem spec_inv_loop (n : Nat) : ∀ (e m c k : Nat), e ≤ n → n < k → m < 1499 → c < 1499 → e < 9000000000000000000 →
    spec_l5Inverse.l0 k (m : Int) (c : Int) (e : Int) = some ((c * m ^ e % 1499 : Nat) : Int) := by
  induction n with
  | zero =>
    intro e m c k he hk hm hc hb
    obtain ⟨k, rfl⟩ : ∃ j, k = j + 1 := ⟨k - 1, by omega⟩
    obtain rfl : e = 0 := by omega
    simp only [spec_l5Inverse.l0]
    rw [if_neg (by omega), Nat.pow_zero, Nat.mul_one, Nat.mod_eq_of_lt hc]
  | succ n ih =>
    intro e m c k he hk hm hc hb
    obtain ⟨k, rfl⟩ : ∃ j, k = j + 1 := ⟨k - 1, by omega⟩
    simp only [spec_l5Inverse.l0]
    by_cases h0 : e = 0
    · subst h0
      rw [if_neg (by omega), Nat.pow_zero, Nat.mul_one, Nat.mod_eq_of_lt hc]
    · rw [if_pos (by omega), pq_mul m m hm hm, pq_half e hb, tmod_pos (by omega)]
      have hm2 : m * m % 1499 < 1499 := Nat.mod_lt _ (by omega)
      by_cases h1 : e % 2 = 1
      · rw [if_pos (by omega), pq_mul c m hc hm, ih (e / 2) _ _ k (by omega) (by omega) hm2 (Nat.mod_lt _ (by omega)) (by omega), pq_step]
        rw [show 2 * (e / 2) + 1 = e by omega]
      · rw [if_neg (by omega), ih (e / 2) _ _ k (by omega) (by omega) hm2 hc (by omega), pq_step0]
        rw [show 2 * (e / 2) = e by omega]
theorem inv_one (e m k : Nat) (hk : e < k) (hm : m < 1499) (hb : e < 9000000000000000000) : spec_l5Inverse.l0 k (m : Int) 1 (e : Int) = some ((((m : Int).toNat) ^ e % 1499 : Nat) : Int) := by
  have := spec_inv_loop e e m 1 k (by omega) hk hm (by omega) hb
  rw [Nat.one_mul] at this
  exact this
/-- one divided by a -/
def iv (a : Int) : Int := ((a.toNat ^ 1497 % 1499 : Nat) : Int)
theorem iv_range (a : Int) : 0 ≤ iv a ∧ iv a ≤ 1498 := by unfold iv; omega
theorem spec_iv {k : Nat} (hk : 1500 < k) (a : Int) (h : 0 ≤ a) (h' : a ≤ 1498) : spec_l5Inverse.f k a = some (iv a) := by
  obtain ⟨m, rfl⟩ := Int.eq_ofNat_of_zero_le h
  unfold spec_l5Inverse.f iv
  exact inv_one 1497 m k (by omega) (by omega) (by omega)
theorem cast_mod (c z : Nat) : some (((c * z % 1499 : Nat) : Nat) : Int) = some ((c : Int) * (z : Int) % 1499) := by
  rw [← Int.natCast_mul]
  generalize c * z = n
  refine congrArg some ?_
  omega
theorem divided_l0_eq (k : Nat) : ∀ b a e, impl_divided.l0 k b a e = spec_l5Inverse.l0 k b a e := by
  induction k with
  | zero => intros; rfl
  | succ k ih => intro b a e; simp only [impl_divided.l0, spec_l5Inverse.l0, ih]
theorem impl_div {k : Nat} (hk : 1500 < k) (a b : Int) (ha : -4000000000000000000 ≤ a) (ha' : a ≤ 4000000000000000000) (hb : -4000000000000000000 ≤ b) (hb' : b ≤ 4000000000000000000) :
    impl_divided.f k a b = some (a % 1499 * iv (b % 1499) % 1499) := by
  unfold impl_divided.f
  rw [impl_mod a ha ha', impl_mod b hb hb']
  simp only [Option.bind_some, divided_l0_eq]
  obtain ⟨m, hm⟩ := Int.eq_ofNat_of_zero_le (show 0 ≤ b % 1499 by omega)
  obtain ⟨c, hc⟩ := Int.eq_ofNat_of_zero_le (show 0 ≤ a % 1499 by omega)
  rw [hm, hc]
  have := spec_inv_loop 1497 1497 m c k (by omega) (by omega) (by omega) (by omega) (by omega)
  rw [show ((1497 : Nat) : Int) = 1497 from rfl] at this
  rw [this, iv, Int.toNat_natCast, Nat.mul_mod, Nat.mod_eq_of_lt (show c < 1499 by omega)]
  exact cast_mod _ _

/-! ins: between two numbers, in the reference -/
theorem in_some (a b c : Int) : spec_l1In.f a b c = some (decide (b ≤ a) && decide (a ≤ c)) := by
  unfold spec_l1In.f
  by_cases h : a ≥ b
  · rw [if_pos h]; have : b ≤ a := h; simp [this]
  · rw [if_neg h]; have : ¬ b ≤ a := h; simp [this]

/-! in: between two numbers -/
theorem within_eq (a b c : Int) : impl_within.f a b c = spec_l1In.f a b c := rfl

/-! inall: all numbers of a list between two numbers -/
def inAll (lo hi : Int) (xs : List Int) : Bool := xs.all fun x => decide (lo ≤ x) && decide (x ≤ hi)
theorem inAll_mem {lo hi : Int} {xs : List Int} (h : inAll lo hi xs = true) : ∀ x ∈ xs, lo ≤ x ∧ x ≤ hi := by
  intro x hx
  have := List.all_eq_true.1 h x hx
  simpa using this

/-! iall: all numbers of a list between two numbers, in the program -/
theorem iall_loop (lo up : Int) (xs : List Int) (hn : xs.length ≤ 35184372088832) (d : Nat) : ∀ (k : Nat) (i : Nat), i + d = xs.length → d < k →
    impl_allWithin.l0 k lo up xs (xs.length : Int) (i : Int) = some (inAll lo up (xs.drop i)) := by
  induction d with
  | zero =>
    intro k i hd hk
    obtain ⟨k, rfl⟩ : ∃ m, k = m + 1 := ⟨k - 1, by omega⟩
    simp only [impl_allWithin.l0]
    rw [if_neg (by omega), List.drop_of_length_le (by omega)]; rfl
  | succ d ih =>
    intro k i hd hk
    obtain ⟨k, rfl⟩ : ∃ m, k = m + 1 := ⟨k - 1, by omega⟩
    have hi : i < xs.length := by omega
    have h1 : (i : Int) < (xs.length : Int) := by omega
    have h2 : (0 : Int) ≤ (i : Int) := by omega
    simp only [impl_allWithin.l0]
    rw [if_pos h1, if_pos h2, if_pos h1, rd_at xs i hi, within_eq, in_some, wr_succ i (by omega), ih k (i + 1) (by omega) (by omega), List.drop_eq_getElem_cons hi]
    simp only [Option.bind_some, inAll, List.all_cons]
    generalize (decide (lo ≤ xs[i]) && decide (xs[i] ≤ up)) = b
    cases b <;> simp
theorem impl_all {k : Nat} (lo hi : Int) (xs : List Int) (hn : xs.length ≤ 35184372088832) (hk : xs.length < k) : impl_allWithin.f k xs lo hi = some (inAll lo hi xs) := by
  unfold impl_allWithin.f
  have := iall_loop lo hi xs hn xs.length k 0 (by omega) hk
  simpa using this

/-! has: a list has a number, in the reference -/
theorem mem_drop_step (xs : List Int) (v : Int) (i : Nat) (h : i < xs.length) : (v ∈ xs.drop i) ↔ xs[i] = v ∨ v ∈ xs.drop (i + 1) := by
  rw [List.drop_eq_getElem_cons h, List.mem_cons]
  constructor
  · rintro (h | h)
    · exact .inl h.symm
    · exact .inr h
  · rintro (h | h)
    · exact .inl h.symm
    · exact .inr h
theorem has_loop (xs : List Int) (v : Int) (hn : xs.length ≤ 35184372088832) (d : Nat) : ∀ (k : Nat) (i : Nat), i + d = xs.length → d < k → spec_l1Has.l0 k v xs (xs.length : Int) (i : Int) = some (decide (v ∈ xs.drop i)) := by
  induction d with
  | zero =>
    intro k i hd hk
    obtain ⟨k, rfl⟩ : ∃ m, k = m + 1 := ⟨k - 1, by omega⟩
    simp only [spec_l1Has.l0]
    rw [if_neg (by omega), List.drop_of_length_le (by omega)]; simp
  | succ d ih =>
    intro k i hd hk
    obtain ⟨k, rfl⟩ : ∃ m, k = m + 1 := ⟨k - 1, by omega⟩
    have hi : i < xs.length := by omega
    have h1 : (i : Int) < (xs.length : Int) := by omega
    have h2 : (0 : Int) ≤ (i : Int) := by omega
    simp only [spec_l1Has.l0]
    rw [if_pos h1, if_pos h2, if_pos h1, rd_at xs i hi, wr_succ i (by omega), ih k (i + 1) (by omega) (by omega)]
    simp only [mem_drop_step xs v i hi]
    by_cases h : xs[i] = v
    · rw [if_pos h]; simp [h]
    · rw [if_neg h]; simp [h]
theorem spec_has {k : Nat} (xs : List Int) (v : Int) (hn : xs.length ≤ 35184372088832) (hk : xs.length < k) : spec_l1Has.f k xs v = some (decide (v ∈ xs)) := by
  unfold spec_l1Has.f
  have := has_loop xs v hn xs.length k 0 (by omega) hk
  simpa using this

/-! contains: a list has a number, in the library's words -/
theorem mem_drop_step' (xs : List Int) (v : Int) (i : Nat) (h : i < xs.length) : (v ∈ xs.drop i) ↔ v = xs[i] ∨ v ∈ xs.drop (i + 1) := by
  rw [List.drop_eq_getElem_cons h, List.mem_cons]
theorem index_loop (xs : List Int) (v : Int) (hn : xs.length ≤ 35184372088832) (d : Nat) : ∀ (k : Nat) (i : Nat), i + d = xs.length → d < k → ∃ r, slices_Index_int_int.l0 k xs v (xs.length : Int) (i : Int) = some r ∧ (r ≥ 0 ↔ v ∈ xs.drop i) := by
  induction d with
  | zero =>
    intro k i hd hk
    obtain ⟨k, rfl⟩ : ∃ m, k = m + 1 := ⟨k - 1, by omega⟩
    simp only [slices_Index_int_int.l0]
    rw [if_neg (by omega), List.drop_of_length_le (by omega)]
    exact ⟨-1, rfl, by simp⟩
  | succ d ih =>
    intro k i hd hk
    obtain ⟨k, rfl⟩ : ∃ m, k = m + 1 := ⟨k - 1, by omega⟩
    have hi : i < xs.length := by omega
    have h1 : (i : Int) < (xs.length : Int) := by omega
    have h2 : (0 : Int) ≤ (i : Int) := by omega
    simp only [slices_Index_int_int.l0]
    rw [if_pos h1, if_pos h2, if_pos h1, rd_at xs i hi, wr_succ i (by omega), mem_drop_step' xs v i hi]
    by_cases h : v = xs[i]
    · rw [if_pos h]
      exact ⟨i, rfl, by simp [h]⟩
    · rw [if_neg h]
      obtain ⟨r, h3, h4⟩ := ih k (i + 1) (by omega) (by omega)
      exact ⟨r, h3, by rw [h4]; simp [h]⟩
theorem lib_contains {k : Nat} (xs : List Int) (v : Int) (hn : xs.length ≤ 35184372088832) (hk : xs.length < k) : slices_Contains_int_int.f k xs v = some (decide (v ∈ xs)) := by
  unfold slices_Contains_int_int.f slices_Index_int_int.f
  obtain ⟨r, h1, h2⟩ := index_loop xs v hn xs.length k 0 (by omega) hk
  rw [show ((0 : Nat) : Int) = 0 from rfl] at h1
  rw [List.drop_zero] at h2
  simp only [h1, Option.bind_some, h2]

/-! unlikexs: numbers unlike each other, in both texts -/
def uq (xs : List Int) : Nat → Nat → Bool
  | 0, _ => true
  | d + 1, i => !decide (xs.getD i 0 ∈ xs.take i) && uq xs d (i + 1)
def goodXs (xs : List Int) : Bool := uq xs xs.length 0 && (decide (1 ≤ (xs.length : Int)) && decide ((xs.length : Int) ≤ 8)) && inAll 1 1498 xs
theorem spec_xs_loop (xs : List Int) (hn : xs.length ≤ 35184372088832) (d : Nat) : ∀ (k : Nat) (i : Nat), i + d = xs.length → d + xs.length < k →
    spec_l5Xs.l0 k xs xs (xs.length : Int) (i : Int) = some (uq xs d i && (decide (1 ≤ (xs.length : Int)) && decide ((xs.length : Int) ≤ 8)) && inAll 1 1498 (xs.drop i)) := by
  induction d with
  | zero =>
    intro k i hd hk
    obtain ⟨k, rfl⟩ : ∃ m, k = m + 1 := ⟨k - 1, by omega⟩
    simp only [spec_l5Xs.l0]
    rw [if_neg (by omega), in_some, List.drop_of_length_le (by omega)]
    simp [uq, inAll]
  | succ d ih =>
    intro k i hd hk
    obtain ⟨k, rfl⟩ : ∃ m, k = m + 1 := ⟨k - 1, by omega⟩
    have hi : i < xs.length := by omega
    have h1 : (i : Int) < (xs.length : Int) := by omega
    have h2 : (0 : Int) ≤ (i : Int) := by omega
    have h3 : (i : Int) ≤ (xs.length : Int) := by omega
    have hg : xs.getD i 0 = xs[i] := by rw [List.getD_eq_getElem?_getD, List.getElem?_eq_getElem hi]; rfl
    have ht : (xs.take i).length ≤ xs.length := by simp; omega
    simp only [spec_l5Xs.l0, uq]
    rw [if_pos h1, if_pos h2, if_pos h1, if_pos h3, rd_at xs i hi, hg, wr_succ i (by omega), in_some, Int.toNat_natCast, spec_has (k := k) _ _ (by omega) (by omega), ih k (i + 1) (by omega) (by omega), List.drop_eq_getElem_cons hi]
    simp only [Option.bind_some, inAll, List.all_cons]
    generalize (decide (1 ≤ xs[i]) && decide (xs[i] ≤ 1498)) = b
    generalize decide (xs[i] ∈ xs.take i) = c
    cases b <;> cases c <;> simp
theorem spec_xs {k : Nat} (xs : List Int) (hn : xs.length ≤ 35184372088832) (hk : 2 * xs.length < k) : spec_l5Xs.f k xs = some (goodXs xs) := by
  unfold spec_l5Xs.f
  have := spec_xs_loop xs hn xs.length k 0 (by omega) (by omega)
  simpa [goodXs] using this
theorem impl_xs_loop (xs : List Int) (hn : xs.length ≤ 35184372088832) (d : Nat) : ∀ (k : Nat) (i : Nat), i + d = xs.length → d + 1 + xs.length < k →
    impl_areUnlike.l0 k xs xs (xs.length : Int) (i : Int) = some (uq xs d i && (decide (1 ≤ (xs.length : Int)) && decide ((xs.length : Int) ≤ 8)) && inAll 1 1498 xs) := by
  induction d with
  | zero =>
    intro k i hd hk
    obtain ⟨k, rfl⟩ : ∃ m, k = m + 1 := ⟨k - 1, by omega⟩
    simp only [impl_areUnlike.l0]
    rw [if_neg (by omega), within_eq, in_some, impl_all 1 1498 xs hn (by omega)]
    simp only [Option.bind_some, uq, Bool.true_and]
    cases (decide (1 ≤ (xs.length : Int)) && decide ((xs.length : Int) ≤ 8)) <;> simp
  | succ d ih =>
    intro k i hd hk
    obtain ⟨k, rfl⟩ : ∃ m, k = m + 1 := ⟨k - 1, by omega⟩
    have hi : i < xs.length := by omega
    have h1 : (i : Int) < (xs.length : Int) := by omega
    have h2 : (0 : Int) ≤ (i : Int) := by omega
    have h3 : (i : Int) ≤ (xs.length : Int) := by omega
    have hg : xs.getD i 0 = xs[i] := by rw [List.getD_eq_getElem?_getD, List.getElem?_eq_getElem hi]; rfl
    have ht : (xs.take i).length ≤ xs.length := by simp; omega
    simp only [impl_areUnlike.l0, uq]
    rw [if_pos h1, if_pos h2, if_pos h1, if_pos h3, rd_at xs i hi, hg, wr_succ i (by omega), Int.toNat_natCast, lib_contains (k := k) _ _ (by omega) (by omega), ih k (i + 1) (by omega) (by omega)]
    simp only [Option.bind_some]
    generalize decide (xs[i] ∈ xs.take i) = c
    cases c <;> simp
theorem impl_xs {k : Nat} (xs : List Int) (hn : xs.length ≤ 35184372088832) (hk : 2 * xs.length + 1 < k) : impl_areUnlike.f k xs = some (goodXs xs) := by
  unfold impl_areUnlike.f
  have := impl_xs_loop xs hn xs.length k 0 (by omega) (by omega)
  simpa [goodXs] using this
theorem goodXs_all {xs : List Int} (h : goodXs xs = true) : 1 ≤ xs.length ∧ xs.length ≤ 8 ∧ ∀ x ∈ xs, 1 ≤ x ∧ x ≤ 1498 := by
  simp [goodXs] at h
  exact ⟨by omega, by omega, inAll_mem h.2⟩

/-! sall: all numbers of a list between two numbers, in the reference -/
theorem all_loop (lo up : Int) (xs : List Int) (hn : xs.length ≤ 35184372088832) (d : Nat) : ∀ (k : Nat) (i : Nat), i + d = xs.length → d < k →
    spec_l1All.l0 k lo up xs (xs.length : Int) (i : Int) = some (inAll lo up (xs.drop i)) := by
  induction d with
  | zero =>
    intro k i hd hk
    obtain ⟨k, rfl⟩ : ∃ m, k = m + 1 := ⟨k - 1, by omega⟩
    simp only [spec_l1All.l0]
    rw [if_neg (by omega), List.drop_of_length_le (by omega)]; rfl
  | succ d ih =>
    intro k i hd hk
    obtain ⟨k, rfl⟩ : ∃ m, k = m + 1 := ⟨k - 1, by omega⟩
    have hi : i < xs.length := by omega
    have h1 : (i : Int) < (xs.length : Int) := by omega
    have h2 : (0 : Int) ≤ (i : Int) := by omega
    simp only [spec_l1All.l0]
    rw [if_pos h1, if_pos h2, if_pos h1, rd_at xs i hi, in_some, wr_succ i (by omega), ih k (i + 1) (by omega) (by omega), List.drop_eq_getElem_cons hi]
    simp only [Option.bind_some, inAll, List.all_cons]
    generalize (decide (lo ≤ xs[i]) && decide (xs[i] ≤ up)) = b
    cases b <;> simp
theorem spec_all {k : Nat} (lo hi : Int) (xs : List Int) (hn : xs.length ≤ 35184372088832) (hk : xs.length < k) : spec_l1All.f k xs lo hi = some (inAll lo hi xs) := by
  unfold spec_l1All.f
  have := all_loop lo hi xs hn xs.length k 0 (by omega) hk
  simpa using this

/-! partsof: good parts, in both texts -/
def pX (l : List S70) : List Int := l.map fun p => p.f0
def pY (l : List S70) : List Int := l.map fun p => p.f1
theorem pX_len (l : List S70) : (pX l).length = l.length := by simp [pX]
theorem pY_len (l : List S70) : (pY l).length = l.length := by simp [pY]
theorem split_loop (l : List S70) (hn : l.length ≤ 8796093022208) (d : Nat) : ∀ (k : Nat) (xs ys : List Int) (i : Nat), xs.length = i → ys.length = i → i + d = l.length → d < k →
    spec_l5Split.l0 k xs ys l (l.length : Int) (i : Int) = some (xs ++ pX (l.drop i), ys ++ pY (l.drop i)) := by
  induction d with
  | zero =>
    intro k xs ys i hx hy hd hk
    obtain ⟨k, rfl⟩ : ∃ m, k = m + 1 := ⟨k - 1, by omega⟩
    simp only [spec_l5Split.l0]
    rw [if_neg (by omega), List.drop_of_length_le (by omega)]
    simp [pX, pY]
  | succ d ih =>
    intro k xs ys i hx hy hd hk
    obtain ⟨k, rfl⟩ : ∃ m, k = m + 1 := ⟨k - 1, by omega⟩
    have hi : i < l.length := by omega
    have h1 : (i : Int) < (l.length : Int) := by omega
    have h2 : (0 : Int) ≤ (i : Int) := by omega
    have h3 : xs.length < 17592186044416 := by omega
    have h4 : ys.length < 17592186044416 := by omega
    simp only [spec_l5Split.l0]
    rw [if_pos h1, if_pos h2, if_pos h1, if_pos h3, if_pos h4, rdp_at l i hi, wr_succ i (by omega), ih k _ _ (i + 1) (by simp; omega) (by simp; omega) (by omega) (by omega), List.drop_eq_getElem_cons hi]
    simp only [pX, pY, List.map_cons, List.append_assoc, List.singleton_append]
theorem spec_split {k : Nat} (l : List S70) (hn : l.length ≤ 8796093022208) (hk : l.length < k) : spec_l5Split.f k l = some (pX l, pY l) := by
  unfold spec_l5Split.f
  have := split_loop l hn l.length k [] [] 0 rfl rfl (by omega) hk
  simpa using this
theorem places_loop (l : List S70) (hn : l.length ≤ 8796093022208) (d : Nat) : ∀ (k : Nat) (xs : List Int) (i : Nat), xs.length = i → i + d = l.length → d < k →
    impl_placesOf.l0 k xs l (l.length : Int) (i : Int) = some (xs ++ pX (l.drop i)) := by
  induction d with
  | zero =>
    intro k xs i hx hd hk
    obtain ⟨k, rfl⟩ : ∃ m, k = m + 1 := ⟨k - 1, by omega⟩
    simp only [impl_placesOf.l0]
    rw [if_neg (by omega), List.drop_of_length_le (by omega)]
    simp [pX]
  | succ d ih =>
    intro k xs i hx hd hk
    obtain ⟨k, rfl⟩ : ∃ m, k = m + 1 := ⟨k - 1, by omega⟩
    have hi : i < l.length := by omega
    have h1 : (i : Int) < (l.length : Int) := by omega
    have h2 : (0 : Int) ≤ (i : Int) := by omega
    have h3 : xs.length < 17592186044416 := by omega
    simp only [impl_placesOf.l0]
    rw [if_pos h1, if_pos h2, if_pos h1, if_pos h3, rdp_at l i hi, wr_succ i (by omega), ih k _ (i + 1) (by simp; omega) (by omega) (by omega), List.drop_eq_getElem_cons hi]
    simp only [pX, List.map_cons, List.append_assoc, List.singleton_append]
theorem impl_places {k : Nat} (l : List S70) (hn : l.length ≤ 8796093022208) (hk : l.length < k) : impl_placesOf.f k l = some (pX l) := by
  unfold impl_placesOf.f
  have := places_loop l hn l.length k [] 0 rfl (by omega) hk
  simpa using this
def goodParts (l : List S70) : Bool := goodXs (pX l) && inAll 0 1498 (pY l)
theorem spec_parts {k : Nat} (l : List S70) (hn : l.length ≤ 8796093022208) (hk : 2 * l.length + 2 < k) : spec_l5Parts.f k l = some (goodParts l) := by
  have hx := pX_len l
  have hy := pY_len l
  unfold spec_l5Parts.f goodParts
  rw [spec_split l hn (by omega), Option.bind_some, spec_xs (pX l) (by omega) (by omega), Option.bind_some]
  by_cases h : goodXs (pX l) = true
  · rw [if_pos h, spec_all 0 1498 (pY l) (by omega) (by omega), h, Option.bind_some, Bool.true_and]
  · have h' : goodXs (pX l) = false := by simpa using h
    rw [if_neg h, h', Bool.false_and]
theorem part_1 (a b : Int) : impl_areParts_1.f a b = some (!(decide (0 ≤ b) && decide (b ≤ 1498))) := by
  unfold impl_areParts_1.f impl_isValue.f
  rw [within_eq, in_some, Option.bind_some, Option.bind_some]
theorem parts_index (l : List S70) (hn : l.length ≤ 8796093022208) (d : Nat) : ∀ (k : Nat) (i : Nat), i + d = l.length → d < k →
    ∃ r, impl_Part_138.l0 k l (l.length : Int) (i : Int) = some r ∧ (decide (r ≥ 0) = !(inAll 0 1498 (pY (l.drop i)))) := by
  induction d with
  | zero =>
    intro k i hd hk
    obtain ⟨k, rfl⟩ : ∃ m, k = m + 1 := ⟨k - 1, by omega⟩
    refine ⟨-1, ?_, ?_⟩
    · simp only [impl_Part_138.l0]
      rw [if_neg (by omega)]
    · rw [List.drop_of_length_le (by omega)]
      simp [pY, inAll]
  | succ d ih =>
    intro k i hd hk
    obtain ⟨k, rfl⟩ : ∃ m, k = m + 1 := ⟨k - 1, by omega⟩
    have hi : i < l.length := by omega
    have h1 : (i : Int) < (l.length : Int) := by omega
    have h2 : (0 : Int) ≤ (i : Int) := by omega
    have e : inAll 0 1498 (pY (l.drop i)) = ((decide (0 ≤ l[i].f1) && decide (l[i].f1 ≤ 1498)) && inAll 0 1498 (pY (l.drop (i + 1)))) := by
      rw [List.drop_eq_getElem_cons hi]; simp only [pY, inAll, List.map_cons, List.all_cons]
    rw [e]
    simp only [impl_Part_138.l0]
    rw [if_pos h1, if_pos h2, if_pos h1, part_1, Option.bind_some, rdp_at l i hi]
    cases hb : (decide (0 ≤ l[i].f1) && decide (l[i].f1 ≤ 1498))
    · refine ⟨(i : Int), by rw [if_pos (by rfl)], by simp⟩
    · obtain ⟨r, r1, r2⟩ := ih k (i + 1) (by omega) (by omega)
      refine ⟨r, ?_, by simpa using r2⟩
      rw [if_neg (by simp), wr_succ i (by omega)]
      exact r1
theorem impl_parts {k : Nat} (l : List S70) (hn : l.length ≤ 8796093022208) (hk : 2 * l.length + 2 < k) : impl_areParts.f k l = some (goodParts l) := by
  have hx := pX_len l
  unfold impl_areParts.f goodParts
  rw [impl_places l hn (by omega), Option.bind_some, impl_xs (pX l) (by omega) (by omega), Option.bind_some]
  by_cases h : goodXs (pX l) = true
  · obtain ⟨r, r1, r2⟩ := parts_index l hn l.length k 0 (by omega) (by omega)
    rw [show ((0 : Nat) : Int) = 0 from rfl] at r1
    rw [if_pos h, h]
    unfold impl_Part_134.f impl_Part_138.f
    rw [r1, Option.bind_some, Option.bind_some, r2, List.drop_zero]
    simp
  · have h' : goodXs (pX l) = false := by simpa using h
    rw [if_neg h, h', Bool.false_and]

/-! weightsat: the weights of numbers at a place, in both texts -/
theorem le_sq (x y : Int) (hx : 0 ≤ x) (hx' : x ≤ 1498) (hy : 0 ≤ y) (hy' : y ≤ 1498) : 0 ≤ x * y ∧ x * y ≤ 2244004 := by
  refine ⟨Int.mul_nonneg hx hy, ?_⟩
  have := Int.mul_le_mul hx' hy' hy (by omega : (0 : Int) ≤ 1498)
  omega
theorem wt_spec (c p q : Int) (hc : 0 ≤ c) (hc' : c ≤ 1498) (hp : 0 ≤ p) (hp' : p ≤ 1498) (hq : 0 ≤ q) (hq' : q ≤ 1498) :
    Int.tmod (wrap64 ((Int.tmod (wrap64 (c * p)) 1499) * q)) 1499 = c * (p * q % 1499) % 1499 := by
  obtain ⟨a1, a2⟩ := le_sq c p hc hc' hp hp'
  have b1 : 0 ≤ c * p % 1499 := by omega
  have b2 : c * p % 1499 ≤ 1498 := by omega
  obtain ⟨d1, d2⟩ := le_sq _ q b1 b2 hq hq'
  rw [wr (x := c * p) (by omega) (by omega), tmod_pos a1, wr (x := c * p % 1499 * q) (by omega) (by omega), tmod_pos d1]
  rw [Int.mul_emod, Int.emod_emod_of_dvd _ (Int.dvd_refl 1499), ← Int.mul_emod, Int.mul_assoc, Int.mul_emod, Int.mul_emod c (p * q % 1499), Int.emod_emod_of_dvd _ (Int.dvd_refl 1499)]
theorem wt_impl (c v : Int) (hc : 0 ≤ c) (hc' : c ≤ 1498) (hv : 0 ≤ v) (hv' : v ≤ 1498) : Int.tmod (wrap64 (c * v)) 1499 = c * v % 1499 := by
  obtain ⟨a1, a2⟩ := le_sq c v hc hc' hv hv'
  rw [wr (by omega) (by omega), tmod_pos a1]
def wt (xs : List Int) (a : Int) (i : Nat) : Nat → Int → Nat → Int
  | 0, c, _ => c
  | d + 1, c, j => if j = i then wt xs a i d c (j + 1) else wt xs a i d (c * ((rd xs (j : Int) - a) % 1499 * iv ((rd xs (j : Int) - rd xs (i : Int)) % 1499) % 1499) % 1499) (j + 1)
theorem rd_in {xs : List Int} (h : ∀ x ∈ xs, 0 ≤ x ∧ x ≤ 1498) (j : Nat) (hj : j < xs.length) : 0 ≤ rd xs (j : Int) ∧ rd xs (j : Int) ≤ 1498 := by
  rw [rd_at xs j hj]
  exact h _ (List.getElem_mem hj)
theorem spec_at_inner (xs : List Int) (h : ∀ x ∈ xs, 0 ≤ x ∧ x ≤ 1498) (hn : xs.length ≤ 8) (a : Int) (ha : 0 ≤ a) (ha' : a ≤ 1498) (i : Nat) (hi : i < xs.length) (ys : List Int) (hy : ys.length ≤ 8) (ws : List Int) (n m : Int) (k : Nat) (hk : 1500 < k) (d : Nat) :
    ∀ (c : Int) (j : Nat), 0 ≤ c → c ≤ 1498 → j + d = xs.length →
    spec_l5At.l1 (k + d + 1) xs a ys (i : Int) (rd xs (i : Int)) c ws n m xs (xs.length : Int) (j : Int) = spec_l5At.l0 k xs a (ys ++ [wt xs a i d c j]) ws n (wrap64 (m + 1)) := by
  induction d with
  | zero =>
    intro c j hc hc' hj
    simp only [spec_l5At.l1, wt]
    rw [if_neg (by omega), if_pos (by omega)]
  | succ d ih =>
    intro c j hc hc' hj
    have h1 : (j : Int) < (xs.length : Int) := by omega
    have h2 : (0 : Int) ≤ (j : Int) := by omega
    obtain ⟨r1, r2⟩ := rd_in h i hi
    obtain ⟨s1, s2⟩ := rd_in h j (by omega)
    rw [show k + (d + 1) + 1 = (k + d + 1) + 1 by omega]
    simp only [spec_l5At.l1, wt]
    rw [if_pos h1, if_pos h2, if_pos h1, wr_succ j (by omega)]
    by_cases e : j = i
    · rw [if_pos (show (j : Int) = (i : Int) by omega), if_pos e]
      exact ih c (j + 1) hc hc' (by omega)
    · rw [if_neg (show ¬ (j : Int) = (i : Int) by omega), if_neg e]
      generalize rd xs (i : Int) = u at *
      generalize rd xs (j : Int) = v at *
      obtain ⟨i1, i2⟩ := iv_range ((v - u) % 1499)
      rw [wr (x := v - a) (by omega) (by omega), wr (x := v - u) (by omega) (by omega), spec_mod _ (by omega) (by omega), spec_mod _ (by omega) (by omega), Option.bind_some, Option.bind_some, spec_iv (by omega) _ (by omega) (by omega), Option.bind_some, wt_spec c _ _ hc hc' (by omega) (by omega) i1 i2]
      exact ih _ (j + 1) (by omega) (by omega) (by omega)
theorem impl_weight_loop (xs : List Int) (h : ∀ x ∈ xs, 0 ≤ x ∧ x ≤ 1498) (hn : xs.length ≤ 8) (a : Int) (ha : 0 ≤ a) (ha' : a ≤ 1498) (i : Nat) (hi : i < xs.length) (d : Nat) :
    ∀ (k : Nat) (c : Int) (j : Nat), 0 ≤ c → c ≤ 1498 → j + d = xs.length → 1501 + d < k →
    impl_weight.l0 k xs (i : Int) a c xs (xs.length : Int) (j : Int) = some (wt xs a i d c j) := by
  induction d with
  | zero =>
    intro k c j hc hc' hj hk
    obtain ⟨k, rfl⟩ : ∃ m, k = m + 1 := ⟨k - 1, by omega⟩
    simp only [impl_weight.l0, wt]
    rw [if_neg (by omega)]
  | succ d ih =>
    intro k c j hc hc' hj hk
    obtain ⟨k, rfl⟩ : ∃ m, k = m + 1 := ⟨k - 1, by omega⟩
    have h1 : (j : Int) < (xs.length : Int) := by omega
    have h2 : (0 : Int) ≤ (j : Int) := by omega
    have h3 : (i : Int) < (xs.length : Int) := by omega
    have h4 : (0 : Int) ≤ (i : Int) := by omega
    obtain ⟨r1, r2⟩ := rd_in h i hi
    obtain ⟨s1, s2⟩ := rd_in h j (by omega)
    simp only [impl_weight.l0, wt]
    rw [if_pos h1, if_pos h2, if_pos h1, wr_succ j (by omega)]
    by_cases e : j = i
    · rw [if_pos (show (j : Int) = (i : Int) by omega), if_pos e]
      exact ih k c (j + 1) hc hc' (by omega) (by omega)
    · rw [if_neg (show ¬ (j : Int) = (i : Int) by omega), if_neg e, if_pos h4, if_pos h3]
      generalize rd xs (i : Int) = u at *
      generalize rd xs (j : Int) = v at *
      obtain ⟨i1, i2⟩ := iv_range ((v - u) % 1499)
      rw [wr (x := v - a) (by omega) (by omega), wr (x := v - u) (by omega) (by omega), impl_div (by omega) _ _ (by omega) (by omega) (by omega) (by omega), Option.bind_some, wt_impl c _ hc hc' (by omega) (by omega)]
      exact ih k _ (j + 1) (by omega) (by omega) (by omega) (by omega)
def wts (xs : List Int) (a : Int) : Nat → List Int → Nat → List Int
  | 0, o, _ => o
  | d + 1, o, i => wts xs a d (o ++ [wt xs a i xs.length 1 0]) (i + 1)
theorem wts_len (xs : List Int) (a : Int) (d : Nat) : ∀ (o : List Int) (i : Nat), (wts xs a d o i).length = o.length + d := by
  induction d with
  | zero => intro o i; rfl
  | succ d ih => intro o i; simp only [wts]; rw [ih]; simp; omega
theorem spec_at_loop (xs : List Int) (h : ∀ x ∈ xs, 0 ≤ x ∧ x ≤ 1498) (hn : xs.length ≤ 8) (a : Int) (ha : 0 ≤ a) (ha' : a ≤ 1498) (d : Nat) : ∀ (k : Nat) (o : List Int) (i : Nat), o.length = i → i + d = xs.length → 2000 + d * 20 < k →
    spec_l5At.l0 k xs a o xs (xs.length : Int) (i : Int) = some (wts xs a d o i) := by
  induction d with
  | zero =>
    intro k o i ho hi hk
    obtain ⟨k, rfl⟩ : ∃ m, k = m + 1 := ⟨k - 1, by omega⟩
    simp only [spec_l5At.l0, wts]
    rw [if_neg (by omega)]
  | succ d ih =>
    intro k o i ho hi hk
    obtain ⟨k, rfl⟩ : ∃ m, k = (m + xs.length + 1) + 1 := ⟨k - xs.length - 2, by omega⟩
    have h1 : (i : Int) < (xs.length : Int) := by omega
    have h2 : (0 : Int) ≤ (i : Int) := by omega
    simp only [spec_l5At.l0, wts]
    have hi0 := spec_at_inner xs h hn a ha ha' i (by omega) o (by omega) xs (xs.length : Int) (i : Int) k (by omega) xs.length 1 0 (by omega) (by omega) (by omega)
    rw [show ((0 : Nat) : Int) = 0 from rfl] at hi0
    rw [if_pos h1, if_pos h2, if_pos h1, hi0, wr_succ i (by omega)]
    exact ih k _ (i + 1) (by simp; omega) (by omega) (by omega)
theorem wt_range (xs : List Int) (a : Int) (i : Nat) (d : Nat) : ∀ (c : Int) (j : Nat), 0 ≤ c → c ≤ 1498 → 0 ≤ wt xs a i d c j ∧ wt xs a i d c j ≤ 1498 := by
  induction d with
  | zero => intro c j h0 h1; exact ⟨h0, h1⟩
  | succ d ih =>
    intro c j h0 h1
    simp only [wt]
    by_cases e : j = i
    · rw [if_pos e]; exact ih _ _ h0 h1
    · rw [if_neg e]
      exact ih _ _ (Int.emod_nonneg _ (by omega)) (by have := Int.emod_lt_of_pos (c * ((rd xs (j : Int) - a) % 1499 * iv ((rd xs (j : Int) - rd xs (i : Int)) % 1499) % 1499)) (show (0 : Int) < 1499 by omega); omega)
theorem wts_at (xs : List Int) (a : Int) (d : Nat) : ∀ (o : List Int) (i j : Nat), o.length = i → j < i + d → (wts xs a d o i).getD j 0 = if j < i then o.getD j 0 else wt xs a j xs.length 1 0 := by
  induction d with
  | zero =>
    intro o i j ho hj
    simp only [wts]; rw [if_pos (by omega)]
  | succ d ih =>
    intro o i j ho hj
    simp only [wts]
    rw [ih _ (i + 1) j (by simp; omega) (by omega)]
    by_cases h1 : j < i
    · rw [if_pos (by omega), if_pos h1]
      rw [List.getD_eq_getElem?_getD, List.getD_eq_getElem?_getD, List.getElem?_append_left (by omega)]
    · rw [if_neg h1]
      by_cases h2 : j = i
      · subst h2
        rw [if_pos (by omega), List.getD_eq_getElem?_getD, List.getElem?_append_right (by omega), ho]
        simp
      · rw [if_neg (by omega)]
theorem spec_at_all {k : Nat} (xs : List Int) (h : ∀ x ∈ xs, 0 ≤ x ∧ x ≤ 1498) (hn : xs.length ≤ 8) (a : Int) (ha : 0 ≤ a) (ha' : a ≤ 1498) (hk : 3000 < k) : spec_l5At.f k xs a = some (wts xs a xs.length [] 0) := by
  unfold spec_l5At.f
  exact spec_at_loop xs h hn a ha ha' xs.length k [] 0 rfl (by omega) (by omega)

/-! addgood: what good parts are -/
theorem good_len {l : List S70} (h : goodParts l = true) : 1 ≤ l.length ∧ l.length ≤ 8 := by
  have hx := pX_len l
  unfold goodParts at h
  have := goodXs_all (Bool.and_eq_true_iff.1 h).1
  omega
theorem good_y {l : List S70} (h : goodParts l = true) (i : Nat) (hi : i < l.length) : 0 ≤ (rd_T70 l (i : Int)).f1 ∧ (rd_T70 l (i : Int)).f1 ≤ 1498 := by
  unfold goodParts at h
  rw [rdp_at l i hi]
  exact inAll_mem (Bool.and_eq_true_iff.1 h).2 _ (by unfold pY; exact List.mem_map.2 ⟨l[i], List.getElem_mem hi, rfl⟩)
theorem good_ys {l : List S70} (h : goodParts l = true) : ∀ y ∈ pY l, 0 ≤ y ∧ y ≤ 1498 := by
  unfold goodParts at h
  exact inAll_mem (Bool.and_eq_true_iff.1 h).2
theorem good_xs1 {l : List S70} (h : goodParts l = true) : ∀ x ∈ pX l, 1 ≤ x ∧ x ≤ 1498 := by
  unfold goodParts at h
  exact (goodXs_all (Bool.and_eq_true_iff.1 h).1).2.2
theorem good_xs {l : List S70} (h : goodParts l = true) : ∀ x ∈ pX l, 0 ≤ x ∧ x ≤ 1498 := fun x hx => by have := good_xs1 h x hx; omega

/-! throughi: the value at a place of the polynomial through parts, in the program, for any small parts -/
def thr (xs ys : List Int) (a : Int) : Nat → Int → Nat → Int
  | 0, c, _ => c
  | d + 1, c, i => thr xs ys a d ((c + wt xs a i xs.length 1 0 * ys.getD i 0) % 1499) (i + 1)
theorem thr_range (xs ys : List Int) (a : Int) (d : Nat) : ∀ (c : Int) (i : Nat), 0 ≤ c → c ≤ 1498 → 0 ≤ thr xs ys a d c i ∧ thr xs ys a d c i ≤ 1498 := by
  induction d with
  | zero => intro c i h0 h1; exact ⟨h0, h1⟩
  | succ d ih =>
    intro c i h0 h1
    simp only [thr]
    exact ih _ _ (Int.emod_nonneg _ (by omega)) (by have := Int.emod_lt_of_pos (c + wt xs a i xs.length 1 0 * ys.getD i 0) (show (0 : Int) < 1499 by omega); omega)
theorem thr_step (c u y : Int) (hc : 0 ≤ c) (hc' : c ≤ 1498) (hu : 0 ≤ u) (hu' : u ≤ 1498) (hy : 0 ≤ y) (hy' : y ≤ 1498) : Int.tmod (wrap64 (c + wrap64 (u * y))) 1499 = (c + u * y) % 1499 := by
  obtain ⟨a1, a2⟩ := le_sq u y hu hu' hy hy'
  rw [wr (x := u * y) (by omega) (by omega), wr (by omega) (by omega), tmod_pos (by omega)]
theorem impl_thr_loop (l : List S70) (h8 : l.length ≤ 8) (hgx : ∀ x ∈ pX l, 0 ≤ x ∧ x ≤ 1498) (hgy : ∀ y ∈ pY l, 0 ≤ y ∧ y ≤ 1498) (a : Int) (ha : 0 ≤ a) (ha' : a ≤ 1498) (d : Nat) : ∀ (k : Nat) (c : Int) (i : Nat), 0 ≤ c → c ≤ 1498 → i + d = l.length → 2000 + d < k →
    impl_through.l0 k a (pX l) c l (l.length : Int) (i : Int) = some (thr (pX l) (pY l) a d c i) := by
  have hx := pX_len l
  have hy := pY_len l
  induction d with
  | zero =>
    intro k c i h0 h1 hi hk
    obtain ⟨k, rfl⟩ : ∃ m, k = m + 1 := ⟨k - 1, by omega⟩
    simp only [impl_through.l0, thr]
    rw [if_neg (by omega)]
  | succ d ih =>
    intro k c i h0 h1 hi hk
    obtain ⟨k, rfl⟩ : ∃ m, k = m + 1 := ⟨k - 1, by omega⟩
    have g1 : (i : Int) < (l.length : Int) := by omega
    have g2 : (0 : Int) ≤ (i : Int) := by omega
    have hw := impl_weight_loop (pX l) hgx (by omega) a ha ha' i (by omega) (pX l).length k 1 0 (by omega) (by omega) (by omega) (by omega)
    rw [show ((0 : Nat) : Int) = 0 from rfl] at hw
    have e2 : (rd_T70 l (i : Int)).f1 = (pY l).getD i 0 := by
      rw [rdp_at l i (by omega), List.getD_eq_getElem?_getD, List.getElem?_eq_getElem (by omega)]
      simp [pY]
    have hv : 0 ≤ (pY l).getD i 0 ∧ (pY l).getD i 0 ≤ 1498 := by
      rw [List.getD_eq_getElem?_getD, List.getElem?_eq_getElem (by omega)]
      exact hgy _ (List.getElem_mem _)
    obtain ⟨u1, u2⟩ := wt_range (pX l) a i (pX l).length 1 0 (by omega) (by omega)
    simp only [impl_through.l0, impl_weight.f, thr]
    rw [if_pos g1, if_pos g2, if_pos g1, hw, Option.bind_some, e2, Int.mul_comm ((pY l).getD i 0), thr_step c _ _ h0 h1 u1 u2 hv.1 hv.2, wr_succ i (by omega)]
    exact ih k _ (i + 1) (Int.emod_nonneg _ (by omega)) (by have := Int.emod_lt_of_pos (c + wt (pX l) a i (pX l).length 1 0 * (pY l).getD i 0) (show (0 : Int) < 1499 by omega); omega) (by omega) (by omega)

/-! fits: SecretFits, in both texts -/
def gF (xs : List Int) (a : Int) (i j : Nat) : Int := if j = i then 1 else (rd xs (j : Int) - a) % 1499 * iv ((rd xs (j : Int) - rd xs (i : Int)) % 1499) % 1499
def pr (f : Nat → Int) : Nat → Nat → Int
  | _, 0 => 1
  | j, d + 1 => f j * pr f (j + 1) d
theorem wt_pr (xs : List Int) (a : Int) (i : Nat) (d : Nat) : ∀ (c : Int) (j : Nat), 0 ≤ c → c ≤ 1498 → wt xs a i d c j = c * pr (gF xs a i) j d % 1499 := by
  induction d with
  | zero => intro c j h0 h1; simp only [wt, pr]; omega
  | succ d ih =>
    intro c j h0 h1
    simp only [wt, pr, gF]
    by_cases e : j = i
    · rw [if_pos e, if_pos e, ih c (j + 1) h0 h1, Int.one_mul]
    · rw [if_neg e, if_neg e]
      generalize (rd xs (j : Int) - a) % 1499 * iv ((rd xs (j : Int) - rd xs (i : Int)) % 1499) % 1499 = g
      rw [ih _ (j + 1) (Int.emod_nonneg _ (by omega)) (by have := Int.emod_lt_of_pos (c * g) (show (0 : Int) < 1499 by omega); omega)]
      show c * g % 1499 * pr (gF xs a i) (j + 1) d % 1499 = c * (g * pr (gF xs a i) (j + 1) d) % 1499
      rw [Int.mul_emod, Int.emod_emod_of_dvd _ (Int.dvd_refl 1499), ← Int.mul_emod, Int.mul_assoc]
theorem pr_congr {f g : Nat → Int} (d : Nat) : ∀ (i j : Nat), (∀ t, t < d → f (i + t) = g (j + t)) → pr f i d = pr g j d := by
  induction d with
  | zero => intro i j _; rfl
  | succ d ih =>
    intro i j h
    simp only [pr]
    rw [show f i = g j from h 0 (by omega), ih (i + 1) (j + 1) (fun t ht => by rw [show i + 1 + t = i + (t + 1) by omega, show j + 1 + t = j + (t + 1) by omega]; exact h (t + 1) (by omega))]
theorem pr_snoc (f : Nat → Int) (d : Nat) : ∀ j : Nat, pr f j (d + 1) = pr f j d * f (j + d) := by
  induction d with
  | zero => intro j; simp [pr]
  | succ d ih =>
    intro j
    have h := ih (j + 1)
    rw [show pr f j (d + 1 + 1) = f j * pr f (j + 1) (d + 1) from rfl, h, show pr f j (d + 1) = f j * pr f (j + 1) d from rfl, show j + 1 + d = j + (d + 1) by omega, Int.mul_assoc]
theorem rd_cons (x : Int) (xs : List Int) (j : Nat) : rd (x :: xs) ((j + 1 : Nat) : Int) = rd xs (j : Int) := by
  unfold rd; simp only [Int.toNat_natCast]; rfl
theorem rd_cons0 (x : Int) (xs : List Int) : rd (x :: xs) ((0 : Nat) : Int) = x := rfl
theorem rd_snoc (x : Int) (xs : List Int) (j : Nat) (h : j < xs.length) : rd (xs ++ [x]) (j : Int) = rd xs (j : Int) := by
  unfold rd; simp only [Int.toNat_natCast, List.getD_eq_getElem?_getD]; rw [List.getElem?_append_left h]
theorem rd_last (x : Int) (xs : List Int) : rd (xs ++ [x]) ((xs.length : Nat) : Int) = x := by
  unfold rd; simp [List.getD_eq_getElem?_getD]
/-- The weights of the same points, in another order. -/
theorem wt_turn (xs : List Int) (a x : Int) (i : Nat) (hi : i < xs.length) : wt (x :: xs) a (i + 1) (xs.length + 1) 1 0 = wt (xs ++ [x]) a i (xs.length + 1) 1 0 := by
  rw [wt_pr _ _ _ _ 1 0 (by omega) (by omega), wt_pr _ _ _ _ 1 0 (by omega) (by omega), pr_snoc (gF (xs ++ [x]) a i)]
  show 1 * (gF (x :: xs) a (i + 1) 0 * pr (gF (x :: xs) a (i + 1)) 1 xs.length) % 1499 = _
  have e1 : pr (gF (x :: xs) a (i + 1)) 1 xs.length = pr (gF (xs ++ [x]) a i) 0 xs.length := pr_congr xs.length 1 0 fun t ht => by
    unfold gF
    rw [show 1 + t = t + 1 by omega, show 0 + t = t by omega, rd_cons, rd_cons, rd_snoc x xs t ht, rd_snoc x xs i hi]
    by_cases e : t = i
    · rw [if_pos (by omega), if_pos e]
    · rw [if_neg (by omega), if_neg e]
  have e2 : gF (x :: xs) a (i + 1) 0 = gF (xs ++ [x]) a i (0 + xs.length) := by
    unfold gF
    rw [show 0 + xs.length = xs.length by omega, rd_cons0, rd_cons, rd_last, rd_snoc x xs i hi, if_neg (by omega), if_neg (by omega)]
  rw [e1, e2]
  congr 1
  rw [Int.one_mul, Int.one_mul, Int.mul_comm]
theorem wt_turn0 (xs : List Int) (a x : Int) : wt (x :: xs) a 0 (xs.length + 1) 1 0 = wt (xs ++ [x]) a xs.length (xs.length + 1) 1 0 := by
  rw [wt_pr _ _ _ _ 1 0 (by omega) (by omega), wt_pr _ _ _ _ 1 0 (by omega) (by omega), pr_snoc (gF (xs ++ [x]) a xs.length)]
  show 1 * (gF (x :: xs) a 0 0 * pr (gF (x :: xs) a 0) 1 xs.length) % 1499 = _
  have e1 : pr (gF (x :: xs) a 0) 1 xs.length = pr (gF (xs ++ [x]) a xs.length) 0 xs.length := pr_congr xs.length 1 0 fun t ht => by
    unfold gF
    rw [show 1 + t = t + 1 by omega, show 0 + t = t by omega, rd_cons, rd_cons0, rd_snoc x xs t ht, rd_last, if_neg (by omega), if_neg (by omega)]
  have e2 : gF (x :: xs) a 0 0 = 1 := by unfold gF; rw [if_pos rfl]
  have e3 : gF (xs ++ [x]) a xs.length (0 + xs.length) = 1 := by unfold gF; rw [if_pos (by omega)]
  rw [e1, e2, e3]
  congr 1
  rw [Int.one_mul, Int.mul_one]
def sm (f : Nat → Int) : Nat → Nat → Int
  | _, 0 => 0
  | j, d + 1 => f j + sm f (j + 1) d
theorem thr_sm (xs ys : List Int) (a : Int) (d : Nat) : ∀ (c : Int) (i : Nat), 0 ≤ c → c ≤ 1498 → thr xs ys a d c i = (c + sm (fun i => wt xs a i xs.length 1 0 * ys.getD i 0) i d) % 1499 := by
  induction d with
  | zero => intro c i h0 h1; simp only [thr, sm]; omega
  | succ d ih =>
    intro c i h0 h1
    simp only [thr, sm]
    rw [ih _ (i + 1) (Int.emod_nonneg _ (by omega)) (by have := Int.emod_lt_of_pos (c + wt xs a i xs.length 1 0 * ys.getD i 0) (show (0 : Int) < 1499 by omega); omega)]
    generalize wt xs a i xs.length 1 0 * ys.getD i 0 = u
    generalize sm (fun i => wt xs a i xs.length 1 0 * ys.getD i 0) (i + 1) d = s
    omega
theorem sm_congr {f g : Nat → Int} (d : Nat) : ∀ (i j : Nat), (∀ t, t < d → f (i + t) = g (j + t)) → sm f i d = sm g j d := by
  induction d with
  | zero => intro i j _; rfl
  | succ d ih =>
    intro i j h
    simp only [sm]
    rw [show f i = g j from h 0 (by omega), ih (i + 1) (j + 1) (fun t ht => by rw [show i + 1 + t = i + (t + 1) by omega, show j + 1 + t = j + (t + 1) by omega]; exact h (t + 1) (by omega))]
theorem sm_snoc (f : Nat → Int) (d : Nat) : ∀ j : Nat, sm f j (d + 1) = sm f j d + f (j + d) := by
  induction d with
  | zero => intro j; simp [sm]
  | succ d ih =>
    intro j
    have h := ih (j + 1)
    rw [show sm f j (d + 1 + 1) = f j + sm f (j + 1) (d + 1) from rfl, h, show sm f j (d + 1) = f j + sm f (j + 1) d from rfl, show j + 1 + d = j + (d + 1) by omega, Int.add_assoc]
theorem thr_turn (xs ys : List Int) (a x y : Int) (hl : xs.length = ys.length) : thr (x :: xs) (y :: ys) a (xs.length + 1) 0 0 = thr (xs ++ [x]) (ys ++ [y]) a (xs.length + 1) 0 0 := by
  rw [thr_sm _ _ _ _ 0 0 (by omega) (by omega), thr_sm _ _ _ _ 0 0 (by omega) (by omega), sm_snoc (fun i => wt (xs ++ [x]) a i (xs ++ [x]).length 1 0 * (ys ++ [y]).getD i 0)]
  have l1 : (x :: xs).length = xs.length + 1 := rfl
  have l2 : (xs ++ [x]).length = xs.length + 1 := by simp
  rw [l1, l2]
  show (0 + (wt (x :: xs) a 0 (xs.length + 1) 1 0 * y + sm (fun i => wt (x :: xs) a i (xs.length + 1) 1 0 * (y :: ys).getD i 0) 1 xs.length)) % 1499 = _
  have e1 : sm (fun i => wt (x :: xs) a i (xs.length + 1) 1 0 * (y :: ys).getD i 0) 1 xs.length = sm (fun i => wt (xs ++ [x]) a i (xs.length + 1) 1 0 * (ys ++ [y]).getD i 0) 0 xs.length := sm_congr xs.length 1 0 fun t ht => by
    show wt (x :: xs) a (1 + t) (xs.length + 1) 1 0 * (y :: ys).getD (1 + t) 0 = wt (xs ++ [x]) a (0 + t) (xs.length + 1) 1 0 * (ys ++ [y]).getD (0 + t) 0
    rw [show 1 + t = t + 1 by omega, show 0 + t = t by omega, wt_turn xs a x t ht]
    congr 1
    simp only [List.getD_eq_getElem?_getD, List.getElem?_cons_succ]
    rw [List.getElem?_append_left (by omega)]
  have e2 : (ys ++ [y]).getD (0 + xs.length) 0 = y := by
    rw [show 0 + xs.length = ys.length by omega]; simp [List.getD_eq_getElem?_getD]
  rw [e1, wt_turn0]
  show _ = (0 + (_ + wt (xs ++ [x]) a (0 + xs.length) (xs.length + 1) 1 0 * (ys ++ [y]).getD (0 + xs.length) 0)) % 1499
  rw [e2, show 0 + xs.length = xs.length by omega]
  congr 1
  omega

/-! secretfits: SecretFits, in both texts -/
/-- Some number up to n is not in a list of fewer than n. -/
theorem pigeon (n : Nat) : ∀ xs : List Int, (∀ v : Nat, 1 ≤ v → v ≤ n → (v : Int) ∈ xs) → n ≤ xs.length := by
  induction n with
  | zero => intro xs _; omega
  | succ n ih =>
    intro xs h
    have hm : ((n + 1 : Nat) : Int) ∈ xs := h (n + 1) (by omega) (by omega)
    have := ih (xs.erase ((n + 1 : Nat) : Int)) (fun v h1 h2 => by
      rw [List.mem_erase_of_ne (by omega)]
      exact h v h1 (by omega))
    rw [List.length_erase_of_mem hm] at this
    have : 0 < xs.length := List.length_pos_of_mem hm
    omega
theorem free_ex (xs : List Int) (h : xs.length ≤ 7) : ∃ x : Nat, 1 ≤ x ∧ x ≤ 8 ∧ ¬ (x : Int) ∈ xs := by
  apply Classical.byContradiction
  intro hn
  have := pigeon 8 xs (fun v h1 h2 => Classical.byContradiction fun hv => hn ⟨v, h1, h2, hv⟩)
  omega
theorem clone_parts (l : List S70) (h : l.length ≤ 100) : impl_Part_126.f l = some l := by
  unfold impl_Part_126.f
  rw [Option.bind_some, if_pos (by simp; omega), List.nil_append]
theorem fits_sum_loop (l : List S70) (hg : goodParts l = true) (h7 : l.length ≤ 7) (sec : Int) (hs : 0 ≤ sec) (hs' : sec ≤ 1498) (x : Int) (d : Nat) : ∀ (k : Nat) (c : Int) (i : Nat), 0 ≤ c → c ≤ 1498 → i + d = l.length + 1 → d < k →
    spec_SecretFits.l1 k l sec x c (wts (0 :: pX l) x (l.length + 1) [] 0) ((l.length + 1 : Nat) : Int) (i : Int) = some (x, thr (0 :: pX l) (sec :: pY l) x d c i, true) := by
  have hx := pX_len l
  have hy := pY_len l
  have hA : (0 :: pX l).length = l.length + 1 := by simp [hx]
  have hw : (wts (0 :: pX l) x (l.length + 1) [] 0).length = l.length + 1 := by rw [wts_len]; simp
  induction d with
  | zero =>
    intro k c i h0 h1 hi hk
    obtain ⟨k, rfl⟩ : ∃ m, k = m + 1 := ⟨k - 1, by omega⟩
    simp only [spec_SecretFits.l1, thr]
    rw [if_neg (by omega)]
  | succ d ih =>
    intro k c i h0 h1 hi hk
    obtain ⟨k, rfl⟩ : ∃ m, k = m + 1 := ⟨k - 1, by omega⟩
    have g1 : (i : Int) < ((l.length + 1 : Nat) : Int) := by omega
    have g2 : (0 : Int) ≤ (i : Int) := by omega
    have g3 : (i : Int) < ((wts (0 :: pX l) x (l.length + 1) [] 0).length : Int) := by omega
    have e1 : rd (wts (0 :: pX l) x (l.length + 1) [] 0) (i : Int) = wt (0 :: pX l) x i (0 :: pX l).length 1 0 := by
      have := wts_at (0 :: pX l) x (l.length + 1) [] 0 i rfl (by omega)
      rw [if_neg (by omega)] at this
      exact this
    obtain ⟨u1, u2⟩ := wt_range (0 :: pX l) x i (0 :: pX l).length 1 0 (by omega) (by omega)
    have rest : ∀ y, 0 ≤ y → y ≤ 1498 → y = (sec :: pY l).getD i 0 → spec_SecretFits.l1 k l sec x (Int.tmod (wrap64 (c + wrap64 (wt (0 :: pX l) x i (0 :: pX l).length 1 0 * y))) 1499) (wts (0 :: pX l) x (l.length + 1) [] 0) ((l.length + 1 : Nat) : Int) (wrap64 ((i : Int) + 1)) = some (x, thr (0 :: pX l) (sec :: pY l) x (d + 1) c i, true) := by
      intro y y0 y1 ey
      rw [thr_step c _ _ h0 h1 u1 u2 y0 y1, wr_succ i (by omega), ey]
      simp only [thr]
      exact ih k _ (i + 1) (Int.emod_nonneg _ (by omega)) (by have := Int.emod_lt_of_pos (c + wt (0 :: pX l) x i (0 :: pX l).length 1 0 * (sec :: pY l).getD i 0) (show (0 : Int) < 1499 by omega); omega) (by omega) (by omega)
    simp only [spec_SecretFits.l1]
    rw [if_pos g1, if_pos g2, if_pos g3, e1]
    by_cases hi0 : i = 0
    · subst hi0
      rw [if_neg (by omega)]
      exact rest sec hs hs' rfl
    · obtain ⟨j, rfl⟩ : ∃ j, i = j + 1 := ⟨i - 1, by omega⟩
      have hj : j < l.length := by omega
      have hw1 : wrap64 (((j + 1 : Nat) : Int) - 1) = (j : Int) := by rw [wr (by omega) (by omega)]; omega
      have yy := good_y hg j hj
      rw [if_pos (by omega), hw1, if_pos (by omega), if_pos (by omega)]
      refine rest _ yy.1 yy.2 ?_
      rw [rdp_at l j hj]
      simp [pY, List.getD_eq_getElem?_getD, hj]
def fitsV (l : List S70) (sec : Int) (x : Nat) : Int := thr (pX l ++ [0]) (pY l ++ [sec]) (x : Int) (l.length + 1) 0 0
theorem fits_one (l : List S70) (hg : goodParts l = true) (h7 : l.length ≤ 7) (sec : Int) (hs : 0 ≤ sec) (hs' : sec ≤ 1498) (x : Nat) (hx1 : x ≤ 8) (hn : ¬ (x : Int) ∈ pX l) (k : Nat) (hk : 5000 < k) :
    spec_SecretFits.l0 (k + 1) l sec (pX l) (x : Int) = some ((x : Int), fitsV l sec x, true) ∧ impl_SecretFits.l0 (k + 1) l sec (x : Int) = some ((x : Int), fitsV l sec x, true) := by
  have hx := pX_len l
  have hy := pY_len l
  constructor
  · simp only [spec_SecretFits.l0]
    have hd : decide ((x : Int) ∈ pX l) = false := by simp [hn]
    have hc : ([0] : List Int).length + (pX l).length < 17592186044416 := by simp; omega
    have hr : ∀ v ∈ ([0] : List Int) ++ pX l, 0 ≤ v ∧ v ≤ 1498 := fun v hv => by
      rcases List.mem_append.1 hv with h | h
      · simp at h; omega
      · exact good_xs hg v h
    have hlA : (([0] : List Int) ++ pX l).length = l.length + 1 := by simp [hx]
    have hw : (wts (0 :: pX l) (x : Int) (l.length + 1) [] 0).length = l.length + 1 := by rw [wts_len]; simp
    rw [spec_has (pX l) (x : Int) (by omega) (by omega), Option.bind_some, hd, if_neg Bool.false_ne_true, Option.bind_some, if_pos hc, spec_at_all (([0] : List Int) ++ pX l) hr (by omega) (x : Int) (by omega) (by omega) (by omega), Option.bind_some, hlA]
    show spec_SecretFits.l1 k l sec (x : Int) 0 (wts (0 :: pX l) (x : Int) (l.length + 1) [] 0) ((wts (0 :: pX l) (x : Int) (l.length + 1) [] 0).length : Int) 0 = _
    rw [hw]
    have := fits_sum_loop l hg h7 sec hs hs' (x : Int) (l.length + 1) k 0 0 (by omega) (by omega) (by omega) (by omega)
    rw [show ((0 : Nat) : Int) = 0 from rfl] at this
    rw [this]
    have ht := thr_turn (pX l) (pY l) (x : Int) 0 sec (by omega)
    rw [hx] at ht
    rw [ht]
    rfl
  · simp only [impl_SecretFits.l0]
    have hd : decide ((x : Int) ∈ pX l) = false := by simp [hn]
    have hB : (l ++ [(⟨0, sec⟩ : S70)]).length = l.length + 1 := by simp
    have bx : pX (l ++ [(⟨0, sec⟩ : S70)]) = pX l ++ [0] := by simp [pX]
    have by_ : pY (l ++ [(⟨0, sec⟩ : S70)]) = pY l ++ [sec] := by simp [pY]
    rw [impl_places l (by omega) (by omega), Option.bind_some, lib_contains (pX l) (x : Int) (by omega) (by omega), Option.bind_some, hd, if_neg Bool.false_ne_true, clone_parts l (by omega), Option.bind_some, if_pos (by omega)]
    have hl := impl_thr_loop (l ++ [(⟨0, sec⟩ : S70)]) (by omega) (fun v hv => by
      rw [bx] at hv
      rcases List.mem_append.1 hv with h | h
      · exact good_xs hg v h
      · simp at h; omega) (fun v hv => by
      rw [by_] at hv
      rcases List.mem_append.1 hv with h | h
      · exact good_ys hg v h
      · simp at h; omega) (x : Int) (by omega) (by omega) (l.length + 1) k 0 0 (by omega) (by omega) (by omega) (by omega)
    rw [show ((0 : Nat) : Int) = 0 from rfl, hB, bx, by_] at hl
    unfold impl_through.f
    rw [impl_places _ (by omega) (by omega), Option.bind_some, hB, bx, hl, Option.bind_some]
    rfl
theorem fits_step (l : List S70) (hg : goodParts l = true) (h7 : l.length ≤ 7) (sec : Int) (x : Nat) (hx1 : x ≤ 8) (hn : (x : Int) ∈ pX l) (k : Nat) (hk : 5000 < k) :
    spec_SecretFits.l0 (k + 1) l sec (pX l) (x : Int) = spec_SecretFits.l0 k l sec (pX l) ((x + 1 : Nat) : Int) ∧ impl_SecretFits.l0 (k + 1) l sec (x : Int) = impl_SecretFits.l0 k l sec ((x + 1 : Nat) : Int) := by
  have hx := pX_len l
  have hd : decide ((x : Int) ∈ pX l) = true := by simp [hn]
  constructor
  · simp only [spec_SecretFits.l0]
    rw [spec_has (pX l) (x : Int) (by omega) (by omega), Option.bind_some, hd, if_pos rfl, wr_succ x (by omega)]
  · simp only [impl_SecretFits.l0]
    rw [impl_places l (by omega) (by omega), Option.bind_some, lib_contains (pX l) (x : Int) (by omega) (by omega), Option.bind_some, hd, if_pos rfl, wr_succ x (by omega)]
theorem fits_loop (l : List S70) (hg : goodParts l = true) (h7 : l.length ≤ 7) (sec : Int) (hs : 0 ≤ sec) (hs' : sec ≤ 1498) (y : Nat) (hy : y ≤ 8) (hn : ¬ (y : Int) ∈ pX l) (d : Nat) : ∀ (x : Nat), x + d = y →
    ∃ r, ∀ k, 6000 + d < k → spec_SecretFits.l0 k l sec (pX l) (x : Int) = some r ∧ impl_SecretFits.l0 k l sec (x : Int) = some r := by
  induction d with
  | zero =>
    intro x hx
    obtain rfl : x = y := by omega
    refine ⟨((x : Int), fitsV l sec x, true), fun k hk => ?_⟩
    obtain ⟨k, rfl⟩ : ∃ m, k = m + 1 := ⟨k - 1, by omega⟩
    exact fits_one l hg h7 sec hs hs' x hy hn k (by omega)
  | succ d ih =>
    intro x hx
    by_cases h : (x : Int) ∈ pX l
    · obtain ⟨r, hr⟩ := ih (x + 1) (by omega)
      refine ⟨r, fun k hk => ?_⟩
      obtain ⟨k, rfl⟩ : ∃ m, k = m + 1 := ⟨k - 1, by omega⟩
      obtain ⟨s1, s2⟩ := fits_step l hg h7 sec x (by omega) h k (by omega)
      rw [s1, s2]
      exact hr k (by omega)
    · refine ⟨((x : Int), fitsV l sec x, true), fun k hk => ?_⟩
      obtain ⟨k, rfl⟩ : ∃ m, k = m + 1 := ⟨k - 1, by omega⟩
      exact fits_one l hg h7 sec hs hs' x (by omega) h k (by omega)
theorem secret_fits (l : List S70) (sec : Int) (hl : l.length ≤ 8796093022208) : ∃ r : Int × Int × Bool, ∀ k, 2 * l.length + 7000 < k → spec_SecretFits.f k l sec = some r ∧ impl_SecretFits.f k l sec = some r := by
  have hx := pX_len l
  by_cases g : goodParts l = true ∧ l.length ≤ 7 ∧ 0 ≤ sec ∧ sec ≤ 1498
  · obtain ⟨y, y1, y2, y3⟩ := free_ex (pX l) (by omega)
    obtain ⟨r, hr⟩ := fits_loop l g.1 g.2.1 sec g.2.2.1 g.2.2.2 y y2 y3 (y - 1) 1 (by omega)
    refine ⟨r, fun k hk => ?_⟩
    obtain ⟨k, rfl⟩ : ∃ m, k = m + 1 := ⟨k - 1, by omega⟩
    obtain ⟨r1, r2⟩ := hr k (by omega)
    have hd : (decide (0 ≤ sec) && decide (sec ≤ 1498)) = true := by simp; omega
    have h8 : ¬ (l.length : Int) = 8 := by omega
    unfold spec_SecretFits.f impl_SecretFits.f spec_l5Field.f impl_isValue.f
    rw [spec_parts l hl (by omega), impl_parts l hl (by omega), within_eq, in_some]
    simp only [Option.bind_some]
    rw [if_pos g.1, if_pos g.1, if_neg h8, if_neg h8, hd]
    simp only [spec_SecretFits.j0, impl_SecretFits.j0, Bool.not_true, Bool.false_eq_true, if_false]
    rw [spec_split l hl (by omega), Option.bind_some]
    exact ⟨r1, r2⟩
  · refine ⟨(0, 0, false), fun k hk => ?_⟩
    obtain ⟨k, rfl⟩ : ∃ m, k = m + 1 := ⟨k - 1, by omega⟩
    unfold spec_SecretFits.f impl_SecretFits.f spec_l5Field.f impl_isValue.f
    rw [spec_parts l hl (by omega), impl_parts l hl (by omega), within_eq, in_some]
    simp only [Option.bind_some]
    by_cases g1 : goodParts l = true
    · have gl := good_len g1
      rw [if_pos g1, if_pos g1]
      by_cases h8 : (l.length : Int) = 8
      · rw [if_pos h8, if_pos h8]
        simp only [spec_SecretFits.j0, impl_SecretFits.j0, if_true]
        exact ⟨trivial, trivial⟩
      · have hd : (decide (0 ≤ sec) && decide (sec ≤ 1498)) = false := by
          cases hc : (decide (0 ≤ sec) && decide (sec ≤ 1498)) with
          | false => rfl
          | true => exact absurd ⟨g1, by omega, by simpa using hc⟩ g
        rw [if_neg h8, if_neg h8, hd]
        simp only [spec_SecretFits.j0, impl_SecretFits.j0, Bool.not_false, if_true]
        exact ⟨trivial, trivial⟩
    · rw [if_neg g1, if_neg g1]
      simp only [spec_SecretFits.j0, impl_SecretFits.j0, if_true]
      exact ⟨trivial, trivial⟩

theorem FnExactSecretFits : ∀ (l0 : List S99) (a1 : Int), l0.length ≤ maxLen → (∀ s ∈ l0, (Lit.int .i64 s.f0).wf = true ∧ (Lit.int .i64 s.f1).wf = true) → (Lit.int .i64 a1).wf = true → ∃ k, laws_FnExactSecretFits.f k l0 a1 = some true := by
  intro l a hma _ _
  unfold maxLen at hma
  refine rounds_of (3 * l.length + 9000) fun k hk => ?_
  obtain ⟨k, rfl⟩ : ∃ j, k = j + 1 := ⟨k - 1, by omega⟩
  unfold laws_FnExactSecretFits.f
  rw [sz_parts l 1048576 hma (by omega) (by omega), Option.bind_some]
  by_cases h : (1048576 : Int) < (l.length : Int)
  · simp [h]
  · have la : (l.map cvP).length = l.length := by simp
    rw [if_neg h, if_neg (by omega), toPartS_eq (k := k + 1) l (by omega) (by omega), Option.bind_some]
    have t1 := toPartS_eq (k := k) l (by omega) (by omega)
    generalize l.map cvP = A at *
    obtain ⟨r, hr⟩ := secret_fits A a (by omega)
    obtain ⟨s1, i1⟩ := hr (k + 1) (by omega)
    have he : laws_eqPart.f r.1 r.2.1 r.1 r.2.1 = some true := eqPart_self _ _
    rw [s1, Option.bind_some, Option.bind_some, i1, Option.bind_some, he, Option.bind_some, if_pos rfl, bne_self_eq_false]
    simp only [laws_FnExactSecretFits.j0, Bool.false_eq_true, if_false]
    rw [t1, Option.bind_some, eqPartS_self (k := k) A (by omega) (by omega), Option.bind_some, if_pos rfl]

end Go.Proofs.Ytadooofomkdaoaa.Pure
