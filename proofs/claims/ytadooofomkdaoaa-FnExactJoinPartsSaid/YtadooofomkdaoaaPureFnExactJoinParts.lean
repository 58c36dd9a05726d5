/- JoinParts answers as the reference does and leaves its argument alone, for all parts (the plain half). -/
import Derived.Test.YtadooofomkdaoaaQFnExactJoinPartsx
set_option linter.unusedVariables false
set_option linter.unusedSimpArgs false
namespace Go.Proofs.Ytadooofomkdaoaa.Pure
open Go.RowKit Go.Proofs.Ytadooofomkdaoaa.QFnExactJoinParts Go.Proofs.YtadooofomkdaoaaW.PrintWords Go.Proofs.YtadooofomkdaoaaW.PrintLast Go.Proofs.YtadooofomkdaoaaW.PrintMore

/-! base: sums of int that stay in range; `tmod` and `tdiv` of what is not negative -/
theorem wr {x : Int} (h1 : -9223372036854775808 ≤ x) (h2 : x ≤ 9223372036854775807) : wrap64 x = x := by
  unfold wrap64; omega
theorem tmod_pos {a b : Int} (h : 0 ≤ a) : Int.tmod a b = a % b := Int.tmod_eq_emod_of_nonneg h
theorem tdiv_pos {a b : Int} (h : 0 ≤ a) : Int.tdiv a b = a / b := Int.tdiv_eq_ediv_of_nonneg h
theorem rounds_of {α : Type} {g : Nat → Option α} {r : α} (N : Nat) (h : ∀ k, N < k → g k = some r) : ∃ k, g k = some r := ⟨N + 1, h _ (Nat.lt_succ_self N)⟩

/-! lists: reading a list at a place; a copy of a list; a list is like itself -/
theorem rd_at (xs : List Int) (i : Nat) (h : i < xs.length) : rd xs (i : Int) = xs[i] := by
  simp [rd, List.getD_eq_getElem?_getD, h]
theorem wr_succ (i : Nat) (h : i < 9000000000000000000) : wrap64 ((i : Int) + 1) = ((i + 1 : Nat) : Int) := by
  rw [wr (by omega) (by omega)]; omega
theorem same_list {α : Type} {xs ys : List α} (hl : ys.length = xs.length) (h : ∀ j, j < xs.length → ys[j]? = xs[j]?) : ys = xs := by
  apply List.ext_getElem?
  intro j
  by_cases hj : j < xs.length
  · exact h j hj
  · rw [List.getElem?_eq_none (by omega), List.getElem?_eq_none (by omega)]
theorem set_upto {α : Type} {xs ys : List α} {i : Nat} (hl : ys.length = xs.length) (hi : i < xs.length) (h : ∀ j, j < i → ys[j]? = xs[j]?) :
    ∀ j, j < i + 1 → (ys.set i xs[i])[j]? = xs[j]? := by
  intro j hj
  rw [List.getElem?_set]
  by_cases e : i = j
  · subst e; rw [if_pos rfl, if_pos (by omega), List.getElem?_eq_getElem hi]
  · rw [if_neg e]; exact h j (by omega)

/-! toparts: laws.toPartS makes parts of the law's own -/
def cvP (p : S99) : S70 := ⟨p.f0, p.f1⟩
theorem rdq_at (xs : List S99) (i : Nat) (h : i < xs.length) : rd_T99 xs (i : Int) = xs[i] := by
  simp [rd_T99, List.getD_eq_getElem?_getD, h]
theorem toPartS_loop (xs : List S99) (hn : xs.length ≤ 17592186044416) (d : Nat) : ∀ (k : Nat) (ys : List S70) (i : Nat), ys.length = (xs.map cvP).length → (∀ j, j < i → ys[j]? = (xs.map cvP)[j]?) → i + d = (xs.map cvP).length → d < k →
    laws_toPartS.l0 k xs ys (i : Int) = some (xs.map cvP) := by
  have hm : (xs.map cvP).length = xs.length := by simp
  induction d with
  | zero =>
    intro k ys i hl h hd hk
    obtain ⟨k, rfl⟩ : ∃ m, k = m + 1 := ⟨k - 1, by omega⟩
    simp only [laws_toPartS.l0]
    rw [if_neg (by omega), same_list hl (fun j hj => h j (by omega))]
  | succ d ih =>
    intro k ys i hl h hd hk
    obtain ⟨k, rfl⟩ : ∃ m, k = m + 1 := ⟨k - 1, by omega⟩
    have hi : i < xs.length := by omega
    have hi' : i < (xs.map cvP).length := by omega
    have h1 : (i : Int) < (xs.length : Int) := by omega
    have h2 : (0 : Int) ≤ (i : Int) := by omega
    have h3 : (i : Int) < (ys.length : Int) := by omega
    have e : (⟨xs[i].f0, xs[i].f1⟩ : S70) = (xs.map cvP)[i] := by simp [cvP]
    simp only [laws_toPartS.l0, laws_toPart.f]
    rw [if_pos h1, if_pos h2, Option.bind_some, if_pos h3, rdq_at xs i hi, wr_succ i (by omega), Int.toNat_natCast]
    show laws_toPartS.l0 k xs (ys.set i (⟨xs[i].f0, xs[i].f1⟩ : S70)) ((i + 1 : Nat) : Int) = _
    rw [e]
    exact ih k _ (i + 1) (by simpa using hl) (set_upto hl hi' h) (by omega) (by omega)
theorem toPartS_eq {k : Nat} (xs : List S99) (hn : xs.length ≤ 17592186044416) (hk : xs.length < k) : laws_toPartS.f k xs = some (xs.map cvP) := by
  unfold laws_toPartS.f
  rw [if_pos (by omega), if_pos (by omega)]
  exact toPartS_loop xs hn xs.length k _ 0 (by simp) (fun j hj => by omega) (by simp) hk
theorem sz_parts (xs : List S99) (left : Int) (hn : xs.length ≤ 9223372036854775807) (h0 : 0 ≤ left) (h1 : left ≤ 1048576) : laws_szPartS.f xs left = some (if left < (xs.length : Int) then -1 else left - xs.length) := by
  unfold laws_szPartS.f
  rw [wr (by omega) (by omega)]
  by_cases h : left < (xs.length : Int)
  · rw [if_pos (by omega), if_pos h]
  · rw [if_neg (by omega), if_neg h]

/-! parts: laws.eqPartS, laws.markPartS, laws.heldPartS -/
theorem rdp_at (xs : List S70) (i : Nat) (h : i < xs.length) : rd_T70 xs (i : Int) = xs[i] := by
  simp [rd_T70, List.getD_eq_getElem?_getD, h]
theorem eqPart_self (a b : Int) : laws_eqPart.f a b a b = some true := by simp [laws_eqPart.f]
theorem eqPartS_loop (xs : List S70) (hn : xs.length ≤ 35184372088832) (d : Nat) : ∀ (k : Nat) (i : Nat), i + d = xs.length → d < k → laws_eqPartS.l0 k xs xs (i : Int) = some true := by
  induction d with
  | zero =>
    intro k i hd hk
    obtain ⟨k, rfl⟩ : ∃ m, k = m + 1 := ⟨k - 1, by omega⟩
    simp only [laws_eqPartS.l0]
    rw [if_neg (by omega)]
  | succ d ih =>
    intro k i hd hk
    obtain ⟨k, rfl⟩ : ∃ m, k = m + 1 := ⟨k - 1, by omega⟩
    have h1 : (i : Int) < (xs.length : Int) := by omega
    have h2 : (0 : Int) ≤ (i : Int) := by omega
    simp only [laws_eqPartS.l0, if_pos h1, if_pos h2, eqPart_self, Option.bind_some, if_true, wr_succ i (by omega)]
    exact ih k (i + 1) (by omega) (by omega)
theorem eqPartS_self {k : Nat} (xs : List S70) (hn : xs.length ≤ 35184372088832) (hk : xs.length < k) : laws_eqPartS.f k xs xs = some true := by
  unfold laws_eqPartS.f
  rw [if_pos rfl]
  exact eqPartS_loop xs hn xs.length k 0 (by omega) hk

/-! modp: numbers modulo 1499, in both texts -/
theorem mod_some (a : Int) (h : -4000000000000000000 ≤ a) (h' : a ≤ 4000000000000000000) : Int.tmod (wrap64 (Int.tmod a 1499 + 1499)) 1499 = a % 1499 := by
  have e := Int.tmod_eq_emod (a := a) (b := 1499)
  have : Int.tmod a 1499 = a % 1499 ∨ Int.tmod a 1499 = a % 1499 - 1499 := by
    rw [e]
    split
    · left; omega
    · right; rfl
  rcases this with h1 | h1
  · rw [h1, wr (by omega) (by omega), tmod_pos (by omega)]; omega
  · rw [h1, wr (by omega) (by omega), tmod_pos (by omega)]; omega
theorem spec_mod (a : Int) (h : -4000000000000000000 ≤ a) (h' : a ≤ 4000000000000000000) : spec_l5Mod.f a = some (a % 1499) := by
  unfold spec_l5Mod.f; rw [mod_some a h h']
theorem impl_mod (a : Int) (h : -4000000000000000000 ≤ a) (h' : a ≤ 4000000000000000000) : impl_modulo.f a = some (a % 1499) := by
  unfold impl_modulo.f; rw [mod_some a h h']
theorem pq_step (c m q : Nat) : (c * m % 1499) * (m * m % 1499) ^ q % 1499 = c * m ^ (2 * q + 1) % 1499 := by
  rw [Nat.mul_mod, Nat.mod_mod, ← Nat.pow_mod, ← Nat.mul_mod]
  congr 1
  rw [Nat.pow_succ, Nat.pow_mul, Nat.pow_two, Nat.mul_assoc, Nat.mul_comm m]
theorem pq_step0 (c m q : Nat) : c * (m * m % 1499) ^ q % 1499 = c * m ^ (2 * q) % 1499 := by
  rw [Nat.mul_mod, ← Nat.pow_mod, ← Nat.mul_mod]
  congr 1
  rw [Nat.pow_mul, Nat.pow_two]
theorem pq_mul (x y : Nat) (hx : x < 1499) (hy : y < 1499) : Int.tmod (wrap64 ((x : Int) * (y : Int))) 1499 = ((x * y % 1499 : Nat) : Int) := by
  have h : x * y ≤ 1499 * 1499 := Nat.mul_le_mul (by omega) (by omega)
  have e : (x : Int) * (y : Int) = ((x * y : Nat) : Int) := by push_cast; rfl
  rw [e, wr (by omega) (by omega), tmod_pos (by omega)]
  omega
theorem pq_half (e : Nat) (h : e < 9000000000000000000) : wrap64 (Int.tdiv (e : Int) 2) = ((e / 2 : Nat) : Int) := by
  rw [tdiv_pos (by omega), wr (by omega) (by omega)]; omega
/-- c * m ^ e modulo 1499 -/
theorem spec_inv_loop (n : Nat) : ∀ (e m c k : Nat), e ≤ n → n < k → m < 1499 → c < 1499 → e < 9000000000000000000 →
    spec_l5Inverse.l0 k (m : Int) (c : Int) (e : Int) = some ((c * m ^ e % 1499 : Nat) : Int) := by
  induction n with
  | zero =>
    intro e m c k he hk hm hc hb
    obtain ⟨k, rfl⟩ : ∃ j, k = j + 1 := ⟨k - 1, by omega⟩
    obtain rfl : e = 0 := by omega
    simp only [spec_l5Inverse.l0]
    rw [if_neg (by omega), Nat.pow_zero, Nat.mul_one, Nat.mod_eq_of_lt hc]
  | succ n ih =>
    intro e m c k he hk hm hc hb
    obtain ⟨k, rfl⟩ : ∃ j, k = j + 1 := ⟨k - 1, by omega⟩
    simp only [spec_l5Inverse.l0]
    by_cases h0 : e = 0
    · subst h0
      rw [if_neg (by omega), Nat.pow_zero, Nat.mul_one, Nat.mod_eq_of_lt hc]
    · rw [if_pos (by omega), pq_mul m m hm hm, pq_half e hb, tmod_pos (by omega)]
      have hm2 : m * m % 1499 < 1499 := Nat.mod_lt _ (by omega)
      by_cases h1 : e % 2 = 1
      · rw [if_pos (by omega), pq_mul c m hc hm, ih (e / 2) _ _ k (by omega) (by omega) hm2 (Nat.mod_lt _ (by omega)) (by omega), pq_step]
        rw [show 2 * (e / 2) + 1 = e by omega]
      · rw [if_neg (by omega), ih (e / 2) _ _ k (by omega) (by omega) hm2 hc (by omega), pq_step0]
        rw [show 2 * (e / 2) = e by omega]
theorem inv_one (e m k : Nat) (hk : e < k) (hm : m < 1499) (hb : e < 9000000000000000000) : spec_l5Inverse.l0 k (m : Int) 1 (e : Int) = some ((((m : Int).toNat) ^ e % 1499 : Nat) : Int) := by
  have := spec_inv_loop e e m 1 k (by omega) hk hm (by omega) hb
  rw [Nat.one_mul] at this
  exact this
/-- one divided by a -/
def iv (a : Int) : Int := ((a.toNat ^ 1497 % 1499 : Nat) : Int)
theorem iv_range (a : Int) : 0 ≤ iv a ∧ iv a ≤ 1498 := by unfold iv; omega
theorem spec_iv {k : Nat} (hk : 1500 < k) (a : Int) (h : 0 ≤ a) (h' : a ≤ 1498) : spec_l5Inverse.f k a = some (iv a) := by
  obtain ⟨m, rfl⟩ := Int.eq_ofNat_of_zero_le h
  unfold spec_l5Inverse.f iv
  exact inv_one 1497 m k (by omega) (by omega) (by omega)
theorem cast_mod (c z : Nat) : some (((c * z % 1499 : Nat) : Nat) : Int) = some ((c : Int) * (z : Int) % 1499) := by
  rw [← Int.natCast_mul]
  generalize c * z = n
  refine congrArg some ?_
  omega
theorem divided_l0_eq (k : Nat) : ∀ b a e, impl_divided.l0 k b a e = spec_l5Inverse.l0 k b a e := by
  induction k with
  | zero => intros; rfl
  | succ k ih => intro b a e; simp only [impl_divided.l0, spec_l5Inverse.l0, ih]
theorem impl_div {k : Nat} (hk : 1500 < k) (a b : Int) (ha : -4000000000000000000 ≤ a) (ha' : a ≤ 4000000000000000000) (hb : -4000000000000000000 ≤ b) (hb' : b ≤ 4000000000000000000) :
    impl_divided.f k a b = some (a % 1499 * iv (b % 1499) % 1499) := by
  unfold impl_divided.f
  rw [impl_mod a ha ha', impl_mod b hb hb']
  simp only [Option.bind_some, divided_l0_eq]
  obtain ⟨m, hm⟩ := Int.eq_ofNat_of_zero_le (show 0 ≤ b % 1499 by omega)
  obtain ⟨c, hc⟩ := Int.eq_ofNat_of_zero_le (show 0 ≤ a % 1499 by omega)
  rw [hm, hc]
  have := spec_inv_loop 1497 1497 m c k (by omega) (by omega) (by omega) (by omega) (by omega)
  rw [show ((1497 : Nat) : Int) = 1497 from rfl] at this
  rw [this, iv, Int.toNat_natCast, Nat.mul_mod, Nat.mod_eq_of_lt (show c < 1499 by omega)]
  exact cast_mod _ _

/-! ins: between two numbers, in the reference -/
theorem in_some (a b c : Int) : spec_l1In.f a b c = some (decide (b ≤ a) && decide (a ≤ c)) := by
  unfold spec_l1In.f
  by_cases h : a ≥ b
  · rw [if_pos h]; have : b ≤ a := h; simp [this]
  · rw [if_neg h]; have : ¬ b ≤ a := h; simp [this]

/-! in: between two numbers -/
theorem within_eq (a b c : Int) : impl_within.f a b c = spec_l1In.f a b c := rfl

/-! inall: all numbers of a list between two numbers -/
def inAll (lo hi : Int) (xs : List Int) : Bool := xs.all fun x => decide (lo ≤ x) && decide (x ≤ hi)
theorem inAll_mem {lo hi : Int} {xs : List Int} (h : inAll lo hi xs = true) : ∀ x ∈ xs, lo ≤ x ∧ x ≤ hi := by
  intro x hx
  have := List.all_eq_true.1 h x hx
  simpa using this

/-! iall: all numbers of a list between two numbers, in the program -/
theorem iall_loop (lo up : Int) (xs : List Int) (hn : xs.length ≤ 35184372088832) (d : Nat) : ∀ (k : Nat) (i : Nat), i + d = xs.length → d < k →
    impl_allWithin.l0 k lo up xs (xs.length : Int) (i : Int) = some (inAll lo up (xs.drop i)) := by
  induction d with
  | zero =>
    intro k i hd hk
    obtain ⟨k, rfl⟩ : ∃ m, k = m + 1 := ⟨k - 1, by omega⟩
    simp only [impl_allWithin.l0]
    rw [if_neg (by omega), List.drop_of_length_le (by omega)]; rfl
  | succ d ih =>
    intro k i hd hk
    obtain ⟨k, rfl⟩ : ∃ m, k = m + 1 := ⟨k - 1, by omega⟩
    have hi : i < xs.length := by omega
    have h1 : (i : Int) < (xs.length : Int) := by omega
    have h2 : (0 : Int) ≤ (i : Int) := by omega
    simp only [impl_allWithin.l0]
    rw [if_pos h1, if_pos h2, if_pos h1, rd_at xs i hi, within_eq, in_some, wr_succ i (by omega), ih k (i + 1) (by omega) (by omega), List.drop_eq_getElem_cons hi]
    simp only [Option.bind_some, inAll, List.all_cons]
    generalize (decide (lo ≤ xs[i]) && decide (xs[i] ≤ up)) = b
    cases b <;> simp
theorem impl_all {k : Nat} (lo hi : Int) (xs : List Int) (hn : xs.length ≤ 35184372088832) (hk : xs.length < k) : impl_allWithin.f k xs lo hi = some (inAll lo hi xs) := by
  unfold impl_allWithin.f
  have := iall_loop lo hi xs hn xs.length k 0 (by omega) hk
  simpa using this

/-! has: a list has a number, in the reference -/
theorem mem_drop_step (xs : List Int) (v : Int) (i : Nat) (h : i < xs.length) : (v ∈ xs.drop i) ↔ xs[i] = v ∨ v ∈ xs.drop (i + 1) := by
  rw [List.drop_eq_getElem_cons h, List.mem_cons]
  constructor
  · rintro (h | h)
    · exact .inl h.symm
    · exact .inr h
  · rintro (h | h)
    · exact .inl h.symm
    · exact .inr h
theorem has_loop (xs : List Int) (v : Int) (hn : xs.length ≤ 35184372088832) (d : Nat) : ∀ (k : Nat) (i : Nat), i + d = xs.length → d < k → spec_l1Has.l0 k v xs (xs.length : Int) (i : Int) = some (decide (v ∈ xs.drop i)) := by
  induction d with
  | zero =>
    intro k i hd hk
    obtain ⟨k, rfl⟩ : ∃ m, k = m + 1 := ⟨k - 1, by omega⟩
    simp only [spec_l1Has.l0]
    rw [if_neg (by omega), List.drop_of_length_le (by omega)]; simp
  | succ d ih =>
    intro k i hd hk
    obtain ⟨k, rfl⟩ : ∃ m, k = m + 1 := ⟨k - 1, by omega⟩
    have hi : i < xs.length := by omega
    have h1 : (i : Int) < (xs.length : Int) := by omega
    have h2 : (0 : Int) ≤ (i : Int) := by omega
    simp only [spec_l1Has.l0]
    rw [if_pos h1, if_pos h2, if_pos h1, rd_at xs i hi, wr_succ i (by omega), ih k (i + 1) (by omega) (by omega)]
    simp only [mem_drop_step xs v i hi]
    by_cases h : xs[i] = v
    · rw [if_pos h]; simp [h]
    · rw [if_neg h]; simp [h]
theorem spec_has {k : Nat} (xs : List Int) (v : Int) (hn : xs.length ≤ 35184372088832) (hk : xs.length < k) : spec_l1Has.f k xs v = some (decide (v ∈ xs)) := by
  unfold spec_l1Has.f
  have := has_loop xs v hn xs.length k 0 (by omega) hk
  simpa using this

/-! contains: a list has a number, in the library's words -/
theorem mem_drop_step' (xs : List Int) (v : Int) (i : Nat) (h : i < xs.length) : (v ∈ xs.drop i) ↔ v = xs[i] ∨ v ∈ xs.drop (i + 1) := by
  rw [List.drop_eq_getElem_cons h, List.mem_cons]
theorem index_loop (xs : List Int) (v : Int) (hn : xs.length ≤ 35184372088832) (d : Nat) : ∀ (k : Nat) (i : Nat), i + d = xs.length → d < k → ∃ r, slices_Index_int_int.l0 k xs v (xs.length : Int) (i : Int) = some r ∧ (r ≥ 0 ↔ v ∈ xs.drop i) := by
  induction d with
  | zero =>
    intro k i hd hk
    obtain ⟨k, rfl⟩ : ∃ m, k = m + 1 := ⟨k - 1, by omega⟩
    simp only [slices_Index_int_int.l0]
    rw [if_neg (by omega), List.drop_of_length_le (by omega)]
    exact ⟨-1, rfl, by simp⟩
  | succ d ih =>
    intro k i hd hk
    obtain ⟨k, rfl⟩ : ∃ m, k = m + 1 := ⟨k - 1, by omega⟩
    have hi : i < xs.length := by omega
    have h1 : (i : Int) < (xs.length : Int) := by omega
    have h2 : (0 : Int) ≤ (i : Int) := by omega
    simp only [slices_Index_int_int.l0]
    rw [if_pos h1, if_pos h2, if_pos h1, rd_at xs i hi, wr_succ i (by omega), mem_drop_step' xs v i hi]
    by_cases h : v = xs[i]
    · rw [if_pos h]
      exact ⟨i, rfl, by simp [h]⟩
    · rw [if_neg h]
      obtain ⟨r, h3, h4⟩ := ih k (i + 1) (by omega) (by omega)
      exact ⟨r, h3, by rw [h4]; simp [h]⟩
theorem lib_contains {k : Nat} (xs : List Int) (v : Int) (hn : xs.length ≤ 35184372088832) (hk : xs.length < k) : slices_Contains_int_int.f k xs v = some (decide (v ∈ xs)) := by
  unfold slices_Contains_int_int.f slices_Index_int_int.f
  obtain ⟨r, h1, h2⟩ := index_loop xs v hn xs.length k 0 (by omega) hk
  rw [show ((0 : Nat) : Int) = 0 from rfl] at h1
  rw [List.drop_zero] at h2
  simp only [h1, Option.bind_some, h2]

/-! unlikexs: numbers unlike each other, in both texts -/
def uq (xs : List Int) : Nat → Nat → Bool
  | 0, _ => true
  | d + 1, i => !decide (xs.getD i 0 ∈ xs.take i) && uq xs d (i + 1)
def goodXs (xs : List Int) : Bool := uq xs xs.length 0 && (decide (1 ≤ (xs.length : Int)) && decide ((xs.length : Int) ≤ 8)) && inAll 1 1498 xs
theorem spec_xs_loop (xs : List Int) (hn : xs.length ≤ 35184372088832) (d : Nat) : ∀ (k : Nat) (i : Nat), i + d = xs.length → d + xs.length < k →
    spec_l5Xs.l0 k xs xs (xs.length : Int) (i : Int) = some (uq xs d i && (decide (1 ≤ (xs.length : Int)) && decide ((xs.length : Int) ≤ 8)) && inAll 1 1498 (xs.drop i)) := by
  induction d with
  | zero =>
    intro k i hd hk
    obtain ⟨k, rfl⟩ : ∃ m, k = m + 1 := ⟨k - 1, by omega⟩
    simp only [spec_l5Xs.l0]
    rw [if_neg (by omega), in_some, List.drop_of_length_le (by omega)]
    simp [uq, inAll]
  | succ d ih =>
    intro k i hd hk
    obtain ⟨k, rfl⟩ : ∃ m, k = m + 1 := ⟨k - 1, by omega⟩
    have hi : i < xs.length := by omega
    have h1 : (i : Int) < (xs.length : Int) := by omega
    have h2 : (0 : Int) ≤ (i : Int) := by omega
    have h3 : (i : Int) ≤ (xs.length : Int) := by omega
    have hg : xs.getD i 0 = xs[i] := by rw [List.getD_eq_getElem?_getD, List.getElem?_eq_getElem hi]; rfl
    have ht : (xs.take i).length ≤ xs.length := by simp; omega
    simp only [spec_l5Xs.l0, uq]
    rw [if_pos h1, if_pos h2, if_pos h1, if_pos h3, rd_at xs i hi, hg, wr_succ i (by omega), in_some, Int.toNat_natCast, spec_has (k := k) _ _ (by omega) (by omega), ih k (i + 1) (by omega) (by omega), List.drop_eq_getElem_cons hi]
    simp only [Option.bind_some, inAll, List.all_cons]
    generalize (decide (1 ≤ xs[i]) && decide (xs[i] ≤ 1498)) = b
    generalize decide (xs[i] ∈ xs.take i) = c
    cases b <;> cases c <;> simp
theorem spec_xs {k : Nat} (xs : List Int) (hn : xs.length ≤ 35184372088832) (hk : 2 * xs.length < k) : spec_l5Xs.f k xs = some (goodXs xs) := by
  unfold spec_l5Xs.f
  have := spec_xs_loop xs hn xs.length k 0 (by omega) (by omega)
  simpa [goodXs] using this
theorem impl_xs_loop (xs : List Int) (hn : xs.length ≤ 35184372088832) (d : Nat) : ∀ (k : Nat) (i : Nat), i + d = xs.length → d + 1 + xs.length < k →
    impl_areUnlike.l0 k xs xs (xs.length : Int) (i : Int) = some (uq xs d i && (decide (1 ≤ (xs.length : Int)) && decide ((xs.length : Int) ≤ 8)) && inAll 1 1498 xs) := by
  induction d with
  | zero =>
    intro k i hd hk
    obtain ⟨k, rfl⟩ : ∃ m, k = m + 1 := ⟨k - 1, by omega⟩
    simp only [impl_areUnlike.l0]
    rw [if_neg (by omega), within_eq, in_some, impl_all 1 1498 xs hn (by omega)]
    simp only [Option.bind_some, uq, Bool.true_and]
    cases (decide (1 ≤ (xs.length : Int)) && decide ((xs.length : Int) ≤ 8)) <;> simp
  | succ d ih =>
    intro k i hd hk
    obtain ⟨k, rfl⟩ : ∃ m, k = m + 1 := ⟨k - 1, by omega⟩
    have hi : i < xs.length := by omega
    have h1 : (i : Int) < (xs.length : Int) := by omega
    have h2 : (0 : Int) ≤ (i : Int) := by omega
    have h3 : (i : Int) ≤ (xs.length : Int) := by omega
    have hg : xs.getD i 0 = xs[i] := by rw [List.getD_eq_getElem?_getD, List.getElem?_eq_getElem hi]; rfl
    have ht : (xs.take i).length ≤ xs.length := by simp; omega
    simp only [impl_areUnlike.l0, uq]
    rw [if_pos h1, if_pos h2, if_pos h1, if_pos h3, rd_at xs i hi, hg, wr_succ i (by omega), Int.toNat_natCast, lib_contains (k := k) _ _ (by omega) (by omega), ih k (i + 1) (by omega) (by omega)]
    simp only [Option.bind_some]
    generalize decide (xs[i] ∈ xs.take i) = c
    cases c <;> simp
theorem impl_xs {k : Nat} (xs : List Int) (hn : xs.length ≤ 35184372088832) (hk : 2 * xs.length + 1 < k) : impl_areUnlike.f k xs = some (goodXs xs) := by
  unfold impl_areUnlike.f
  have := impl_xs_loop xs hn xs.length k 0 (by omega) (by omega)
  simpa [goodXs] using this
theorem goodXs_all {xs : List Int} (h : goodXs xs = true) : 1 ≤ xs.length ∧ xs.length ≤ 8 ∧ ∀ x ∈ xs, 1 ≤ x ∧ x ≤ 1498 := by
  simp [goodXs] at h
  exact ⟨by omega, by omega, inAll_mem h.2⟩

/-! sall: all numbers of a list between two numbers, in the reference -/
theorem all_loop (lo up : Int) (xs : List Int) (hn : xs.length ≤ 35184372088832) (d : Nat) : ∀ (k : Nat) (i : Nat), i + d = xs.length → d < k →
    spec_l1All.l0 k lo up xs (xs.length : Int) (i : Int) = some (inAll lo up (xs.drop i)) := by
  induction d with
  | zero =>
    intro k i hd hk
    obtain ⟨k, rfl⟩ : ∃ m, k = m + 1 := ⟨k - 1, by omega⟩
    simp only [spec_l1All.l0]
    rw [if_neg (by omega), List.drop_of_length_le (by omega)]; rfl
  | succ d ih =>
    intro k i hd hk
    obtain ⟨k, rfl⟩ : ∃ m, k = m + 1 := ⟨k - 1, by omega⟩
    have hi : i < xs.length := by omega
    have h1 : (i : Int) < (xs.length : Int) := by omega
    have h2 : (0 : Int) ≤ (i : Int) := by omega
    simp only [spec_l1All.l0]
    rw [if_pos h1, if_pos h2, if_pos h1, rd_at xs i hi, in_some, wr_succ i (by omega), ih k (i + 1) (by omega) (by omega), List.drop_eq_getElem_cons hi]
    simp only [Option.bind_some, inAll, List.all_cons]
    generalize (decide (lo ≤ xs[i]) && decide (xs[i] ≤ up)) = b
    cases b <;> simp
theorem spec_all {k : Nat} (lo hi : Int) (xs : List Int) (hn : xs.length ≤ 35184372088832) (hk : xs.length < k) : spec_l1All.f k xs lo hi = some (inAll lo hi xs) := by
  unfold spec_l1All.f
  have := all_loop lo hi xs hn xs.length k 0 (by omega) hk
  simpa using this

/-! partsof: good parts, in both texts -/
def pX (l : List S70) : List Int := l.map fun p => p.f0
def pY (l : List S70) : List Int := l.map fun p => p.f1
theorem pX_len (l : List S70) : (pX l).length = l.length := by simp [pX]
theorem pY_len (l : List S70) : (pY l).length = l.length := by simp [pY]
theorem split_loop (l : List S70) (hn : l.length ≤ 8796093022208) (d : Nat) : ∀ (k : Nat) (xs ys : List Int) (i : Nat), xs.length = i → ys.length = i → i + d = l.length → d < k →
    spec_l5Split.l0 k xs ys l (l.length : Int) (i : Int) = some (xs ++ pX (l.drop i), ys ++ pY (l.drop i)) := by
  induction d with
  | zero =>
    intro k xs ys i hx hy hd hk
    obtain ⟨k, rfl⟩ : ∃ m, k = m + 1 := ⟨k - 1, by omega⟩
    simp only [spec_l5Split.l0]
    rw [if_neg (by omega), List.drop_of_length_le (by omega)]
    simp [pX, pY]
  | succ d ih =>
    intro k xs ys i hx hy hd hk
    obtain ⟨k, rfl⟩ : ∃ m, k = m + 1 := ⟨k - 1, by omega⟩
    have hi : i < l.length := by omega
    have h1 : (i : Int) < (l.length : Int) := by omega
    have h2 : (0 : Int) ≤ (i : Int) := by omega
    have h3 : xs.length < 17592186044416 := by omega
    have h4 : ys.length < 17592186044416 := by omega
    simp only [spec_l5Split.l0]
    rw [if_pos h1, if_pos h2, if_pos h1, if_pos h3, if_pos h4, rdp_at l i hi, wr_succ i (by omega), ih k _ _ (i + 1) (by simp; omega) (by simp; omega) (by omega) (by omega), List.drop_eq_getElem_cons hi]
    simp only [pX, pY, List.map_cons, List.append_assoc, List.singleton_append]
theorem spec_split {k : Nat} (l : List S70) (hn : l.length ≤ 8796093022208) (hk : l.length < k) : spec_l5Split.f k l = some (pX l, pY l) := by
  unfold spec_l5Split.f
  have := split_loop l hn l.length k [] [] 0 rfl rfl (by omega) hk
  simpa using this
theorem places_loop (l : List S70) (hn : l.length ≤ 8796093022208) (d : Nat) : ∀ (k : Nat) (xs : List Int) (i : Nat), xs.length = i → i + d = l.length → d < k →
    impl_placesOf.l0 k xs l (l.length : Int) (i : Int) = some (xs ++ pX (l.drop i)) := by
  induction d with
  | zero =>
    intro k xs i hx hd hk
    obtain ⟨k, rfl⟩ : ∃ m, k = m + 1 := ⟨k - 1, by omega⟩
    simp only [impl_placesOf.l0]
    rw [if_neg (by omega), List.drop_of_length_le (by omega)]
    simp [pX]
  | succ d ih =>
    intro k xs i hx hd hk
    obtain ⟨k, rfl⟩ : ∃ m, k = m + 1 := ⟨k - 1, by omega⟩
    have hi : i < l.length := by omega
    have h1 : (i : Int) < (l.length : Int) := by omega
    have h2 : (0 : Int) ≤ (i : Int) := by omega
    have h3 : xs.length < 17592186044416 := by omega
    simp only [impl_placesOf.l0]
    rw [if_pos h1, if_pos h2, if_pos h1, if_pos h3, rdp_at l i hi, wr_succ i (by omega), ih k _ (i + 1) (by simp; omega) (by omega) (by omega), List.drop_eq_getElem_cons hi]
    simp only [pX, List.map_cons, List.append_assoc, List.singleton_append]
theorem impl_places {k : Nat} (l : List S70) (hn : l.length ≤ 8796093022208) (hk : l.length < k) : impl_placesOf.f k l = some (pX l) := by
  unfold impl_placesOf.f
  have := places_loop l hn l.length k [] 0 rfl (by omega) hk
  simpa using this
def goodParts (l : List S70) : Bool := goodXs (pX l) && inAll 0 1498 (pY l)
theorem spec_parts {k : Nat} (l : List S70) (hn : l.length ≤ 8796093022208) (hk : 2 * l.length + 2 < k) : spec_l5Parts.f k l = some (goodParts l) := by
  have hx := pX_len l
  have hy := pY_len l
  unfold spec_l5Parts.f goodParts
  rw [spec_split l hn (by omega), Option.bind_some, spec_xs (pX l) (by omega) (by omega), Option.bind_some]
  by_cases h : goodXs (pX l) = true
  · rw [if_pos h, spec_all 0 1498 (pY l) (by omega) (by omega), h, Option.bind_some, Bool.true_and]
  · have h' : goodXs (pX l) = false := by simpa using h
    rw [if_neg h, h', Bool.false_and]
theorem part_1 (a b : Int) : impl_areParts_1.f a b = some (!(decide (0 ≤ b) && decide (b ≤ 1498))) := by
  unfold impl_areParts_1.f impl_isValue.f
  rw [within_eq, in_some, Option.bind_some, Option.bind_some]
theorem parts_index (l : List S70) (hn : l.length ≤ 8796093022208) (d : Nat) : ∀ (k : Nat) (i : Nat), i + d = l.length → d < k →
    ∃ r, impl_Part_138.l0 k l (l.length : Int) (i : Int) = some r ∧ (decide (r ≥ 0) = !(inAll 0 1498 (pY (l.drop i)))) := by
  induction d with
  | zero =>
    intro k i hd hk
    obtain ⟨k, rfl⟩ : ∃ m, k = m + 1 := ⟨k - 1, by omega⟩
    refine ⟨-1, ?_, ?_⟩
    · simp only [impl_Part_138.l0]
      rw [if_neg (by omega)]
    · rw [List.drop_of_length_le (by omega)]
      simp [pY, inAll]
  | succ d ih =>
    intro k i hd hk
    obtain ⟨k, rfl⟩ : ∃ m, k = m + 1 := ⟨k - 1, by omega⟩
    have hi : i < l.length := by omega
    have h1 : (i : Int) < (l.length : Int) := by omega
    have h2 : (0 : Int) ≤ (i : Int) := by omega
    have e : inAll 0 1498 (pY (l.drop i)) = ((decide (0 ≤ l[i].f1) && decide (l[i].f1 ≤ 1498)) && inAll 0 1498 (pY (l.drop (i + 1)))) := by
      rw [List.drop_eq_getElem_cons hi]; simp only [pY, inAll, List.map_cons, List.all_cons]
    rw [e]
    simp only [impl_Part_138.l0]
    rw [if_pos h1, if_pos h2, if_pos h1, part_1, Option.bind_some, rdp_at l i hi]
    cases hb : (decide (0 ≤ l[i].f1) && decide (l[i].f1 ≤ 1498))
    · refine ⟨(i : Int), by rw [if_pos (by rfl)], by simp⟩
    · obtain ⟨r, r1, r2⟩ := ih k (i + 1) (by omega) (by omega)
      refine ⟨r, ?_, by simpa using r2⟩
      rw [if_neg (by simp), wr_succ i (by omega)]
      exact r1
theorem impl_parts {k : Nat} (l : List S70) (hn : l.length ≤ 8796093022208) (hk : 2 * l.length + 2 < k) : impl_areParts.f k l = some (goodParts l) := by
  have hx := pX_len l
  unfold impl_areParts.f goodParts
  rw [impl_places l hn (by omega), Option.bind_some, impl_xs (pX l) (by omega) (by omega), Option.bind_some]
  by_cases h : goodXs (pX l) = true
  · obtain ⟨r, r1, r2⟩ := parts_index l hn l.length k 0 (by omega) (by omega)
    rw [show ((0 : Nat) : Int) = 0 from rfl] at r1
    rw [if_pos h, h]
    unfold impl_Part_134.f impl_Part_138.f
    rw [r1, Option.bind_some, Option.bind_some, r2, List.drop_zero]
    simp
  · have h' : goodXs (pX l) = false := by simpa using h
    rw [if_neg h, h', Bool.false_and]

/-! weightsat: the weights of numbers at a place, in both texts -/
theorem le_sq (x y : Int) (hx : 0 ≤ x) (hx' : x ≤ 1498) (hy : 0 ≤ y) (hy' : y ≤ 1498) : 0 ≤ x * y ∧ x * y ≤ 2244004 := by
  refine ⟨Int.mul_nonneg hx hy, ?_⟩
  have := Int.mul_le_mul hx' hy' hy (by omega : (0 : Int) ≤ 1498)
  omega
theorem wt_spec (c p q : Int) (hc : 0 ≤ c) (hc' : c ≤ 1498) (hp : 0 ≤ p) (hp' : p ≤ 1498) (hq : 0 ≤ q) (hq' : q ≤ 1498) :
    Int.tmod (wrap64 ((Int.tmod (wrap64 (c * p)) 1499) * q)) 1499 = c * (p * q % 1499) % 1499 := by
  obtain ⟨a1, a2⟩ := le_sq c p hc hc' hp hp'
  have b1 : 0 ≤ c * p % 1499 := by omega
  have b2 : c * p % 1499 ≤ 1498 := by omega
  obtain ⟨d1, d2⟩ := le_sq _ q b1 b2 hq hq'
  rw [wr (x := c * p) (by omega) (by omega), tmod_pos a1, wr (x := c * p % 1499 * q) (by omega) (by omega), tmod_pos d1]
  rw [Int.mul_emod, Int.emod_emod_of_dvd _ (Int.dvd_refl 1499), ← Int.mul_emod, Int.mul_assoc, Int.mul_emod, Int.mul_emod c (p * q % 1499), Int.emod_emod_of_dvd _ (Int.dvd_refl 1499)]
theorem wt_impl (c v : Int) (hc : 0 ≤ c) (hc' : c ≤ 1498) (hv : 0 ≤ v) (hv' : v ≤ 1498) : Int.tmod (wrap64 (c * v)) 1499 = c * v % 1499 := by
  obtain ⟨a1, a2⟩ := le_sq c v hc hc' hv hv'
  rw [wr (by omega) (by omega), tmod_pos a1]
def wt (xs : List Int) (a : Int) (i : Nat) : Nat → Int → Nat → Int
  | 0, c, _ => c
  | d + 1, c, j => if j = i then wt xs a i d c (j + 1) else wt xs a i d (c * ((rd xs (j : Int) - a) % 1499 * iv ((rd xs (j : Int) - rd xs (i : Int)) % 1499) % 1499) % 1499) (j + 1)
theorem rd_in {xs : List Int} (h : ∀ x ∈ xs, 0 ≤ x ∧ x ≤ 1498) (j : Nat) (hj : j < xs.length) : 0 ≤ rd xs (j : Int) ∧ rd xs (j : Int) ≤ 1498 := by
  rw [rd_at xs j hj]
  exact h _ (List.getElem_mem hj)
theorem spec_at_inner (xs : List Int) (h : ∀ x ∈ xs, 0 ≤ x ∧ x ≤ 1498) (hn : xs.length ≤ 8) (a : Int) (ha : 0 ≤ a) (ha' : a ≤ 1498) (i : Nat) (hi : i < xs.length) (ys : List Int) (hy : ys.length ≤ 8) (ws : List Int) (n m : Int) (k : Nat) (hk : 1500 < k) (d : Nat) :
    ∀ (c : Int) (j : Nat), 0 ≤ c → c ≤ 1498 → j + d = xs.length →
    spec_l5At.l1 (k + d + 1) xs a ys (i : Int) (rd xs (i : Int)) c ws n m xs (xs.length : Int) (j : Int) = spec_l5At.l0 k xs a (ys ++ [wt xs a i d c j]) ws n (wrap64 (m + 1)) := by
  induction d with
  | zero =>
    intro c j hc hc' hj
    simp only [spec_l5At.l1, wt]
    rw [if_neg (by omega), if_pos (by omega)]
  | succ d ih =>
    intro c j hc hc' hj
    have h1 : (j : Int) < (xs.length : Int) := by omega
    have h2 : (0 : Int) ≤ (j : Int) := by omega
    obtain ⟨r1, r2⟩ := rd_in h i hi
    obtain ⟨s1, s2⟩ := rd_in h j (by omega)
    rw [show k + (d + 1) + 1 = (k + d + 1) + 1 by omega]
    simp only [spec_l5At.l1, wt]
    rw [if_pos h1, if_pos h2, if_pos h1, wr_succ j (by omega)]
    by_cases e : j = i
    · rw [if_pos (show (j : Int) = (i : Int) by omega), if_pos e]
      exact ih c (j + 1) hc hc' (by omega)
    · rw [if_neg (show ¬ (j : Int) = (i : Int) by omega), if_neg e]
      generalize rd xs (i : Int) = u at *
      generalize rd xs (j : Int) = v at *
      obtain ⟨i1, i2⟩ := iv_range ((v - u) % 1499)
      rw [wr (x := v - a) (by omega) (by omega), wr (x := v - u) (by omega) (by omega), spec_mod _ (by omega) (by omega), spec_mod _ (by omega) (by omega), Option.bind_some, Option.bind_some, spec_iv (by omega) _ (by omega) (by omega), Option.bind_some, wt_spec c _ _ hc hc' (by omega) (by omega) i1 i2]
      exact ih _ (j + 1) (by omega) (by omega) (by omega)
theorem impl_weight_loop (xs : List Int) (h : ∀ x ∈ xs, 0 ≤ x ∧ x ≤ 1498) (hn : xs.length ≤ 8) (a : Int) (ha : 0 ≤ a) (ha' : a ≤ 1498) (i : Nat) (hi : i < xs.length) (d : Nat) :
    ∀ (k : Nat) (c : Int) (j : Nat), 0 ≤ c → c ≤ 1498 → j + d = xs.length → 1501 + d < k →
    impl_weight.l0 k xs (i : Int) a c xs (xs.length : Int) (j : Int) = some (wt xs a i d c j) := by
  induction d with
  | zero =>
    intro k c j hc hc' hj hk
    obtain ⟨k, rfl⟩ : ∃ m, k = m + 1 := ⟨k - 1, by omega⟩
    simp only [impl_weight.l0, wt]
    rw [if_neg (by omega)]
  | succ d ih =>
    intro k c j hc hc' hj hk
    obtain ⟨k, rfl⟩ : ∃ m, k = m + 1 := ⟨k - 1, by omega⟩
    have h1 : (j : Int) < (xs.length : Int) := by omega
    have h2 : (0 : Int) ≤ (j : Int) := by omega
    have h3 : (i : Int) < (xs.length : Int) := by omega
    have h4 : (0 : Int) ≤ (i : Int) := by omega
    obtain ⟨r1, r2⟩ := rd_in h i hi
    obtain ⟨s1, s2⟩ := rd_in h j (by omega)
    simp only [impl_weight.l0, wt]
    rw [if_pos h1, if_pos h2, if_pos h1, wr_succ j (by omega)]
    by_cases e : j = i
    · rw [if_pos (show (j : Int) = (i : Int) by omega), if_pos e]
      exact ih k c (j + 1) hc hc' (by omega) (by omega)
    · rw [if_neg (show ¬ (j : Int) = (i : Int) by omega), if_neg e, if_pos h4, if_pos h3]
      generalize rd xs (i : Int) = u at *
      generalize rd xs (j : Int) = v at *
      obtain ⟨i1, i2⟩ := iv_range ((v - u) % 1499)
      rw [wr (x := v - a) (by omega) (by omega), wr (x := v - u) (by omega) (by omega), impl_div (by omega) _ _ (by omega) (by omega) (by omega) (by omega), Option.bind_some, wt_impl c _ hc hc' (by omega) (by omega)]
      exact ih k _ (j + 1) (by omega) (by omega) (by omega) (by omega)
def wts (xs : List Int) (a : Int) : Nat → List Int → Nat → List Int
  | 0, o, _ => o
  | d + 1, o, i => wts xs a d (o ++ [wt xs a i xs.length 1 0]) (i + 1)
theorem wts_len (xs : List Int) (a : Int) (d : Nat) : ∀ (o : List Int) (i : Nat), (wts xs a d o i).length = o.length + d := by
  induction d with
  | zero => intro o i; rfl
  | succ d ih => intro o i; simp only [wts]; rw [ih]; simp; omega
theorem spec_at_loop (xs : List Int) (h : ∀ x ∈ xs, 0 ≤ x ∧ x ≤ 1498) (hn : xs.length ≤ 8) (a : Int) (ha : 0 ≤ a) (ha' : a ≤ 1498) (d : Nat) : ∀ (k : Nat) (o : List Int) (i : Nat), o.length = i → i + d = xs.length → 2000 + d * 20 < k →
    spec_l5At.l0 k xs a o xs (xs.length : Int) (i : Int) = some (wts xs a d o i) := by
  induction d with
  | zero =>
    intro k o i ho hi hk
    obtain ⟨k, rfl⟩ : ∃ m, k = m + 1 := ⟨k - 1, by omega⟩
    simp only [spec_l5At.l0, wts]
    rw [if_neg (by omega)]
  | succ d ih =>
    intro k o i ho hi hk
    obtain ⟨k, rfl⟩ : ∃ m, k = (m + xs.length + 1) + 1 := ⟨k - xs.length - 2, by omega⟩
    have h1 : (i : Int) < (xs.length : Int) := by omega
    have h2 : (0 : Int) ≤ (i : Int) := by omega
    simp only [spec_l5At.l0, wts]
    have hi0 := spec_at_inner xs h hn a ha ha' i (by omega) o (by omega) xs (xs.length : Int) (i : Int) k (by omega) xs.length 1 0 (by omega) (by omega) (by omega)
    rw [show ((0 : Nat) : Int) = 0 from rfl] at hi0
    rw [if_pos h1, if_pos h2, if_pos h1, hi0, wr_succ i (by omega)]
    exact ih k _ (i + 1) (by simp; omega) (by omega) (by omega)
theorem wt_range (xs : List Int) (a : Int) (i : Nat) (d : Nat) : ∀ (c : Int) (j : Nat), 0 ≤ c → c ≤ 1498 → 0 ≤ wt xs a i d c j ∧ wt xs a i d c j ≤ 1498 := by
  induction d with
  | zero => intro c j h0 h1; exact ⟨h0, h1⟩
  | succ d ih =>
    intro c j h0 h1
    simp only [wt]
    by_cases e : j = i
    · rw [if_pos e]; exact ih _ _ h0 h1
    · rw [if_neg e]
      exact ih _ _ (Int.emod_nonneg _ (by omega)) (by have := Int.emod_lt_of_pos (c * ((rd xs (j : Int) - a) % 1499 * iv ((rd xs (j : Int) - rd xs (i : Int)) % 1499) % 1499)) (show (0 : Int) < 1499 by omega); omega)
theorem wts_at (xs : List Int) (a : Int) (d : Nat) : ∀ (o : List Int) (i j : Nat), o.length = i → j < i + d → (wts xs a d o i).getD j 0 = if j < i then o.getD j 0 else wt xs a j xs.length 1 0 := by
  induction d with
  | zero =>
    intro o i j ho hj
    simp only [wts]; rw [if_pos (by omega)]
  | succ d ih =>
    intro o i j ho hj
    simp only [wts]
    rw [ih _ (i + 1) j (by simp; omega) (by omega)]
    by_cases h1 : j < i
    · rw [if_pos (by omega), if_pos h1]
      rw [List.getD_eq_getElem?_getD, List.getD_eq_getElem?_getD, List.getElem?_append_left (by omega)]
    · rw [if_neg h1]
      by_cases h2 : j = i
      · subst h2
        rw [if_pos (by omega), List.getD_eq_getElem?_getD, List.getElem?_append_right (by omega), ho]
        simp
      · rw [if_neg (by omega)]
theorem spec_at_all {k : Nat} (xs : List Int) (h : ∀ x ∈ xs, 0 ≤ x ∧ x ≤ 1498) (hn : xs.length ≤ 8) (a : Int) (ha : 0 ≤ a) (ha' : a ≤ 1498) (hk : 3000 < k) : spec_l5At.f k xs a = some (wts xs a xs.length [] 0) := by
  unfold spec_l5At.f
  exact spec_at_loop xs h hn a ha ha' xs.length k [] 0 rfl (by omega) (by omega)

/-! addgood: what good parts are -/
theorem good_len {l : List S70} (h : goodParts l = true) : 1 ≤ l.length ∧ l.length ≤ 8 := by
  have hx := pX_len l
  unfold goodParts at h
  have := goodXs_all (Bool.and_eq_true_iff.1 h).1
  omega
theorem good_y {l : List S70} (h : goodParts l = true) (i : Nat) (hi : i < l.length) : 0 ≤ (rd_T70 l (i : Int)).f1 ∧ (rd_T70 l (i : Int)).f1 ≤ 1498 := by
  unfold goodParts at h
  rw [rdp_at l i hi]
  exact inAll_mem (Bool.and_eq_true_iff.1 h).2 _ (by unfold pY; exact List.mem_map.2 ⟨l[i], List.getElem_mem hi, rfl⟩)
theorem good_ys {l : List S70} (h : goodParts l = true) : ∀ y ∈ pY l, 0 ≤ y ∧ y ≤ 1498 := by
  unfold goodParts at h
  exact inAll_mem (Bool.and_eq_true_iff.1 h).2
theorem good_xs1 {l : List S70} (h : goodParts l = true) : ∀ x ∈ pX l, 1 ≤ x ∧ x ≤ 1498 := by
  unfold goodParts at h
  exact (goodXs_all (Bool.and_eq_true_iff.1 h).1).2.2
theorem good_xs {l : List S70} (h : goodParts l = true) : ∀ x ∈ pX l, 0 ≤ x ∧ x ≤ 1498 := fun x hx => by have := good_xs1 h x hx; omega

/-! through: the value at a place of the polynomial through parts, in both texts -/
def thr (xs ys : List Int) (a : Int) : Nat → Int → Nat → Int
  | 0, c, _ => c
  | d + 1, c, i => thr xs ys a d ((c + wt xs a i xs.length 1 0 * ys.getD i 0) % 1499) (i + 1)
theorem thr_range (xs ys : List Int) (a : Int) (d : Nat) : ∀ (c : Int) (i : Nat), 0 ≤ c → c ≤ 1498 → 0 ≤ thr xs ys a d c i ∧ thr xs ys a d c i ≤ 1498 := by
  induction d with
  | zero => intro c i h0 h1; exact ⟨h0, h1⟩
  | succ d ih =>
    intro c i h0 h1
    simp only [thr]
    exact ih _ _ (Int.emod_nonneg _ (by omega)) (by have := Int.emod_lt_of_pos (c + wt xs a i xs.length 1 0 * ys.getD i 0) (show (0 : Int) < 1499 by omega); omega)
theorem thr_step (c u y : Int) (hc : 0 ≤ c) (hc' : c ≤ 1498) (hu : 0 ≤ u) (hu' : u ≤ 1498) (hy : 0 ≤ y) (hy' : y ≤ 1498) : Int.tmod (wrap64 (c + wrap64 (u * y))) 1499 = (c + u * y) % 1499 := by
  obtain ⟨a1, a2⟩ := le_sq u y hu hu' hy hy'
  rw [wr (x := u * y) (by omega) (by omega), wr (by omega) (by omega), tmod_pos (by omega)]
theorem spec_thr_loop (xs ys : List Int) (hl : xs.length = ys.length) (hn : xs.length ≤ 8) (hy : ∀ y ∈ ys, 0 ≤ y ∧ y ≤ 1498) (a : Int) (d : Nat) : ∀ (k : Nat) (c : Int) (i : Nat), 0 ≤ c → c ≤ 1498 → i + d = xs.length → d < k →
    spec_l5Through.l0 k ys c (wts xs a xs.length [] 0) (xs.length : Int) (i : Int) = some (thr xs ys a d c i) := by
  have hw : (wts xs a xs.length [] 0).length = xs.length := by rw [wts_len]; simp
  induction d with
  | zero =>
    intro k c i h0 h1 hi hk
    obtain ⟨k, rfl⟩ : ∃ m, k = m + 1 := ⟨k - 1, by omega⟩
    simp only [spec_l5Through.l0, thr]
    rw [if_neg (by omega)]
  | succ d ih =>
    intro k c i h0 h1 hi hk
    obtain ⟨k, rfl⟩ : ∃ m, k = m + 1 := ⟨k - 1, by omega⟩
    have g1 : (i : Int) < (xs.length : Int) := by omega
    have g2 : (0 : Int) ≤ (i : Int) := by omega
    have g3 : (i : Int) < ((wts xs a xs.length [] 0).length : Int) := by omega
    have g4 : (i : Int) < (ys.length : Int) := by omega
    have e1 : rd (wts xs a xs.length [] 0) (i : Int) = wt xs a i xs.length 1 0 := by
      have := wts_at xs a xs.length [] 0 i rfl (by omega)
      rw [if_neg (by omega)] at this
      exact this
    have e2 : rd ys (i : Int) = ys.getD i 0 := rfl
    have hv : 0 ≤ ys.getD i 0 ∧ ys.getD i 0 ≤ 1498 := by
      have := hy ys[i] (List.getElem_mem (by omega))
      rw [List.getD_eq_getElem?_getD, List.getElem?_eq_getElem (by omega)]
      exact this
    obtain ⟨u1, u2⟩ := wt_range xs a i xs.length 1 0 (by omega) (by omega)
    simp only [spec_l5Through.l0, thr]
    rw [if_pos g1, if_pos g2, if_pos g3, if_pos g4, e1, e2, thr_step c _ _ h0 h1 u1 u2 hv.1 hv.2, wr_succ i (by omega)]
    exact ih k _ (i + 1) (Int.emod_nonneg _ (by omega)) (by have := Int.emod_lt_of_pos (c + wt xs a i xs.length 1 0 * ys.getD i 0) (show (0 : Int) < 1499 by omega); omega) (by omega) (by omega)
theorem impl_thr_loop (l : List S70) (hg : goodParts l = true) (a : Int) (ha : 0 ≤ a) (ha' : a ≤ 1498) (d : Nat) : ∀ (k : Nat) (c : Int) (i : Nat), 0 ≤ c → c ≤ 1498 → i + d = l.length → 2000 + d < k →
    impl_through.l0 k a (pX l) c l (l.length : Int) (i : Int) = some (thr (pX l) (pY l) a d c i) := by
  have hx := pX_len l
  have hy := pY_len l
  obtain ⟨_, h8⟩ := good_len hg
  induction d with
  | zero =>
    intro k c i h0 h1 hi hk
    obtain ⟨k, rfl⟩ : ∃ m, k = m + 1 := ⟨k - 1, by omega⟩
    simp only [impl_through.l0, thr]
    rw [if_neg (by omega)]
  | succ d ih =>
    intro k c i h0 h1 hi hk
    obtain ⟨k, rfl⟩ : ∃ m, k = m + 1 := ⟨k - 1, by omega⟩
    have g1 : (i : Int) < (l.length : Int) := by omega
    have g2 : (0 : Int) ≤ (i : Int) := by omega
    have hw := impl_weight_loop (pX l) (good_xs hg) (by omega) a ha ha' i (by omega) (pX l).length k 1 0 (by omega) (by omega) (by omega) (by omega)
    rw [show ((0 : Nat) : Int) = 0 from rfl] at hw
    have e2 : (rd_T70 l (i : Int)).f1 = (pY l).getD i 0 := by
      rw [rdp_at l i (by omega), List.getD_eq_getElem?_getD, List.getElem?_eq_getElem (by omega)]
      simp [pY]
    have hv := good_y hg i (by omega)
    rw [e2] at hv
    obtain ⟨u1, u2⟩ := wt_range (pX l) a i (pX l).length 1 0 (by omega) (by omega)
    simp only [impl_through.l0, impl_weight.f, thr]
    rw [if_pos g1, if_pos g2, if_pos g1, hw, Option.bind_some, e2, Int.mul_comm ((pY l).getD i 0), thr_step c _ _ h0 h1 u1 u2 hv.1 hv.2, wr_succ i (by omega)]
    exact ih k _ (i + 1) (Int.emod_nonneg _ (by omega)) (by have := Int.emod_lt_of_pos (c + wt (pX l) a i (pX l).length 1 0 * (pY l).getD i 0) (show (0 : Int) < 1499 by omega); omega) (by omega) (by omega)
theorem impl_thr {k : Nat} (l : List S70) (hg : goodParts l = true) (a : Int) (ha : 0 ≤ a) (ha' : a ≤ 1498) (hk : 3000 < k) : impl_through.f k l a = some (thr (pX l) (pY l) a l.length 0 0) := by
  obtain ⟨_, h8⟩ := good_len hg
  unfold impl_through.f
  rw [impl_places l (by omega) (by omega), Option.bind_some]
  exact impl_thr_loop l hg a ha ha' l.length k 0 0 (by omega) (by omega) (by omega) (by omega)

/-! throughparts: ThroughParts, in both texts -/
def thrR (l : List S70) (a : Int) : Int × Bool := if goodParts l = true ∧ 0 ≤ a ∧ a ≤ 1498 then (thr (pX l) (pY l) a l.length 0 0, true) else (0, false)
theorem through_parts {k : Nat} (l : List S70) (a : Int) (hl : l.length ≤ 8796093022208) (hk : 2 * l.length + 4000 < k) : spec_ThroughParts.f k l a = some (thrR l a) ∧ impl_ThroughParts.f k l a = some (thrR l a) := by
  have hx := pX_len l
  have hy := pY_len l
  unfold spec_ThroughParts.f impl_ThroughParts.f thrR spec_l5Field.f impl_isValue.f
  rw [spec_parts l hl (by omega), impl_parts l hl (by omega), within_eq, in_some]
  simp only [Option.bind_some]
  by_cases g : goodParts l = true
  · obtain ⟨_, h8⟩ := good_len g
    rw [if_pos g, if_pos g]
    by_cases h : 0 ≤ a ∧ a ≤ 1498
    · have hd : (decide (0 ≤ a) && decide (a ≤ 1498)) = true := by simpa using h
      have hc : goodParts l = true ∧ 0 ≤ a ∧ a ≤ 1498 := ⟨g, h.1, h.2⟩
      rw [hd, if_pos rfl, if_pos rfl, if_pos hc, impl_thr l g a h.1 h.2 (by omega), Option.bind_some]
      refine ⟨?_, rfl⟩
      unfold spec_l5Through.f
      rw [spec_split l hl (by omega), Option.bind_some, spec_at_all (pX l) (good_xs g) (by omega) a h.1 h.2 (by omega), Option.bind_some]
      have hw : (wts (pX l) a (pX l).length [] 0).length = (pX l).length := by rw [wts_len]; simp
      have := spec_thr_loop (pX l) (pY l) (by omega) (by omega) (good_ys g) a (pX l).length k 0 0 (by omega) (by omega) (by omega) (by omega)
      rw [show ((0 : Nat) : Int) = 0 from rfl] at this
      rw [hw, this, Option.bind_some, hx]
    · have hd : (decide (0 ≤ a) && decide (a ≤ 1498)) = false := by simpa using h
      have hc : ¬ (goodParts l = true ∧ 0 ≤ a ∧ a ≤ 1498) := fun h' => h h'.2
      rw [hd, if_neg Bool.false_ne_true, if_neg Bool.false_ne_true, if_neg hc]
      exact ⟨rfl, rfl⟩
  · have hc : ¬ (goodParts l = true ∧ 0 ≤ a ∧ a ≤ 1498) := fun h => g h.1
    rw [if_neg g, if_neg g, if_neg hc]
    exact ⟨rfl, rfl⟩

/-! joinparts: JoinParts, in both texts -/
theorem join_parts {k : Nat} (l : List S70) (hl : l.length ≤ 8796093022208) (hk : 2 * l.length + 4000 < k) : spec_JoinParts.f k l = some (thrR l 0) ∧ impl_JoinParts.f k l = some (thrR l 0) := by
  obtain ⟨s, i⟩ := through_parts (k := k) l 0 hl hk
  unfold spec_JoinParts.f impl_JoinParts.f
  rw [s, i, Option.bind_some]
  exact ⟨rfl, rfl⟩

theorem FnExactJoinParts : ∀ (l0 : List S99), l0.length ≤ maxLen → (∀ s ∈ l0, (Lit.int .i64 s.f0).wf = true ∧ (Lit.int .i64 s.f1).wf = true) → ∃ k, laws_FnExactJoinParts.f k l0 = some true := by
  intro l hma _
  unfold maxLen at hma
  refine rounds_of (3 * l.length + 5000) fun k hk => ?_
  obtain ⟨k, rfl⟩ : ∃ j, k = j + 1 := ⟨k - 1, by omega⟩
  unfold laws_FnExactJoinParts.f
  rw [sz_parts l 1048576 hma (by omega) (by omega), Option.bind_some]
  by_cases h : (1048576 : Int) < (l.length : Int)
  · simp [h]
  · have la : (l.map cvP).length = l.length := by simp
    rw [if_neg h, if_neg (by omega), toPartS_eq (k := k + 1) l (by omega) (by omega), Option.bind_some]
    have t1 := toPartS_eq (k := k) l (by omega) (by omega)
    generalize l.map cvP = A at *
    obtain ⟨s1, i1⟩ := join_parts (k := k + 1) A (by omega) (by omega)
    rw [s1, Option.bind_some, Option.bind_some, i1, Option.bind_some, if_pos rfl, bne_self_eq_false]
    simp only [laws_FnExactJoinParts.j0, Bool.false_eq_true, if_false]
    rw [t1, Option.bind_some, eqPartS_self (k := k) A (by omega) (by omega), Option.bind_some, if_pos rfl]

end Go.Proofs.Ytadooofomkdaoaa.Pure
