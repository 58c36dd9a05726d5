/- SplitSecret answers as the reference does, leaves its argument alone and owns its answer, for every list and number (the plain half). -/
import Derived.Test.YtadooofomkdaoaaPFnExactSplitSecretx
set_option linter.unusedVariables false
set_option linter.unusedSimpArgs false
namespace Go.Proofs.Ytadooofomkdaoaa.Pure
open Go.RowKit Go.Proofs.Ytadooofomkdaoaa.PFnExactSplitSecret Go.Proofs.YtadooofomkdaoaaW.PrintWords Go.Proofs.YtadooofomkdaoaaW.PrintLast Go.Proofs.YtadooofomkdaoaaW.PrintMore

/-! base: sums of int that stay in range; `tmod` and `tdiv` of what is not negative -/
theorem wr {x : Int} (h1 : -9223372036854775808 ≤ x) (h2 : x ≤ 9223372036854775807) : wrap64 x = x := by
  unfold wrap64; omega
theorem tmod_pos {a b : Int} (h : 0 ≤ a) : Int.tmod a b = a % b := Int.tmod_eq_emod_of_nonneg h
theorem tdiv_pos {a b : Int} (h : 0 ≤ a) : Int.tdiv a b = a / b := Int.tdiv_eq_ediv_of_nonneg h
theorem rounds_of {α : Type} {g : Nat → Option α} {r : α} (N : Nat) (h : ∀ k, N < k → g k = some r) : ∃ k, g k = some r := ⟨N + 1, h _ (Nat.lt_succ_self N)⟩

/-! lists: reading a list at a place; a copy of a list; a list is like itself -/
theorem rd_at (xs : List Int) (i : Nat) (h : i < xs.length) : rd xs (i : Int) = xs[i] := by
  simp [rd, List.getD_eq_getElem?_getD, h]
theorem wr_succ (i : Nat) (h : i < 9000000000000000000) : wrap64 ((i : Int) + 1) = ((i + 1 : Nat) : Int) := by
  rw [wr (by omega) (by omega)]; omega
theorem same_list {α : Type} {xs ys : List α} (hl : ys.length = xs.length) (h : ∀ j, j < xs.length → ys[j]? = xs[j]?) : ys = xs := by
  apply List.ext_getElem?
  intro j
  by_cases hj : j < xs.length
  · exact h j hj
  · rw [List.getElem?_eq_none (by omega), List.getElem?_eq_none (by omega)]
theorem set_upto {α : Type} {xs ys : List α} {i : Nat} (hl : ys.length = xs.length) (hi : i < xs.length) (h : ∀ j, j < i → ys[j]? = xs[j]?) :
    ∀ j, j < i + 1 → (ys.set i xs[i])[j]? = xs[j]? := by
  intro j hj
  rw [List.getElem?_set]
  by_cases e : i = j
  · subst e; rw [if_pos rfl, if_pos (by omega), List.getElem?_eq_getElem hi]
  · rw [if_neg e]; exact h j (by omega)

/-! toints: laws.toIntS copies -/
theorem toIntS_loop (xs : List Int) (hn : xs.length ≤ 35184372088832) (d : Nat) : ∀ (k : Nat) (ys : List Int) (i : Nat), ys.length = xs.length → (∀ j, j < i → ys[j]? = xs[j]?) → i + d = xs.length → d < k →
    laws_toIntS.l0 k xs ys (i : Int) = some xs := by
  induction d with
  | zero =>
    intro k ys i hl h hd hk
    obtain ⟨k, rfl⟩ : ∃ m, k = m + 1 := ⟨k - 1, by omega⟩
    simp only [laws_toIntS.l0]
    rw [if_neg (by omega), same_list hl (fun j hj => h j (by omega))]
  | succ d ih =>
    intro k ys i hl h hd hk
    obtain ⟨k, rfl⟩ : ∃ m, k = m + 1 := ⟨k - 1, by omega⟩
    have hi : i < xs.length := by omega
    have h1 : (i : Int) < (xs.length : Int) := by omega
    have h2 : (0 : Int) ≤ (i : Int) := by omega
    have h3 : (i : Int) < (ys.length : Int) := by omega
    simp only [laws_toIntS.l0]
    rw [if_pos h1, if_pos h2, if_pos h3, rd_at xs i hi, wr_succ i (by omega), Int.toNat_natCast]
    exact ih k _ (i + 1) (by simpa using hl) (set_upto hl hi h) (by omega) (by omega)
theorem toIntS_eq {k : Nat} (xs : List Int) (hn : xs.length ≤ 35184372088832) (hk : xs.length < k) : laws_toIntS.f k xs = some xs := by
  unfold laws_toIntS.f
  rw [if_pos (by omega), if_pos (by omega)]
  exact toIntS_loop xs hn xs.length k _ 0 (by simp) (fun j hj => by omega) (by omega) hk

/-! eqints: laws.eqIntS says that a list is itself -/
theorem eqIntS_loop (xs : List Int) (hn : xs.length ≤ 35184372088832) (d : Nat) : ∀ (k : Nat) (i : Nat), i + d = xs.length → d < k → laws_eqIntS.l0 k xs xs (i : Int) = some true := by
  induction d with
  | zero =>
    intro k i hd hk
    obtain ⟨k, rfl⟩ : ∃ m, k = m + 1 := ⟨k - 1, by omega⟩
    simp only [laws_eqIntS.l0]
    rw [if_neg (by omega)]
  | succ d ih =>
    intro k i hd hk
    obtain ⟨k, rfl⟩ : ∃ m, k = m + 1 := ⟨k - 1, by omega⟩
    have h1 : (i : Int) < (xs.length : Int) := by omega
    have h2 : (0 : Int) ≤ (i : Int) := by omega
    simp only [laws_eqIntS.l0, if_pos h1, if_pos h2, if_true, wr_succ i (by omega)]
    exact ih k (i + 1) (by omega) (by omega)
theorem eqIntS_self {k : Nat} (xs : List Int) (hn : xs.length ≤ 35184372088832) (hk : xs.length < k) : laws_eqIntS.f k xs xs = some true := by
  unfold laws_eqIntS.f
  rw [if_pos rfl]
  exact eqIntS_loop xs hn xs.length k 0 (by omega) hk

/-! markintonly: laws.markIntS writes marks -/
theorem markIntS_loop (n : Nat) (hn : n ≤ 35184372088832) (c : Int) (hc : 0 ≤ c) (hc' : c ≤ 1000000000000000000) (d : Nat) : ∀ (k : Nat) (ys : List Int) (i : Nat), ys.length = n → i + d = n → d < k →
    (∀ j, j < i → ys[j]? = some (c + j)) →
    ∃ zs, zs.length = n ∧ laws_markIntS.l0 k ys (c + i) (i : Int) = some (c + n, zs) ∧ ∀ j, j < n → zs[j]? = some (c + j) := by
  induction d with
  | zero =>
    intro k ys i hl hd hk h
    obtain ⟨k, rfl⟩ : ∃ m, k = m + 1 := ⟨k - 1, by omega⟩
    obtain rfl : i = n := by omega
    refine ⟨ys, hl, ?_, h⟩
    simp only [laws_markIntS.l0]
    rw [if_neg (by omega)]
  | succ d ih =>
    intro k ys i hl hd hk h
    obtain ⟨k, rfl⟩ : ∃ m, k = m + 1 := ⟨k - 1, by omega⟩
    have h1 : (i : Int) < (ys.length : Int) := by omega
    have h2 : (0 : Int) ≤ (i : Int) := by omega
    have e : wrap64 (c + (i : Int) + 1) = c + ((i + 1 : Nat) : Int) := by rw [wr (by omega) (by omega)]; omega
    obtain ⟨zs, z1, z2, z3⟩ := ih k (ys.set i (c + i)) (i + 1) (by simpa using hl) (by omega) (by omega) (by
      intro j hj
      rw [List.getElem?_set]
      by_cases e : i = j
      · subst e; rw [if_pos rfl, if_pos (by omega)]
      · rw [if_neg e]; exact h j (by omega))
    refine ⟨zs, z1, ?_, z3⟩
    simp only [laws_markIntS.l0]
    rw [if_pos h1, if_pos h2, e, wr_succ i (by omega), Int.toNat_natCast]
    exact z2
theorem markIntS_some (xs : List Int) (hn : xs.length ≤ 35184372088832) (c : Int) (hc : 0 ≤ c) (hc' : c ≤ 1000000000000000000) {k : Nat} (hk : xs.length < k) : ∃ zs, laws_markIntS.f k xs c = some (c + xs.length, zs) := by
  obtain ⟨zs, _, h, _⟩ := markIntS_loop xs.length hn c hc hc' xs.length k xs 0 rfl (by omega) hk (fun j hj => by omega)
  exact ⟨zs, by simpa [laws_markIntS.f] using h⟩

/-! parts: laws.eqPartS, laws.markPartS, laws.heldPartS -/
theorem rdp_at (xs : List S70) (i : Nat) (h : i < xs.length) : rd_T70 xs (i : Int) = xs[i] := by
  simp [rd_T70, List.getD_eq_getElem?_getD, h]
theorem eqPart_self (a b : Int) : laws_eqPart.f a b a b = some true := by simp [laws_eqPart.f]
theorem eqPartS_loop (xs : List S70) (hn : xs.length ≤ 35184372088832) (d : Nat) : ∀ (k : Nat) (i : Nat), i + d = xs.length → d < k → laws_eqPartS.l0 k xs xs (i : Int) = some true := by
  induction d with
  | zero =>
    intro k i hd hk
    obtain ⟨k, rfl⟩ : ∃ m, k = m + 1 := ⟨k - 1, by omega⟩
    simp only [laws_eqPartS.l0]
    rw [if_neg (by omega)]
  | succ d ih =>
    intro k i hd hk
    obtain ⟨k, rfl⟩ : ∃ m, k = m + 1 := ⟨k - 1, by omega⟩
    have h1 : (i : Int) < (xs.length : Int) := by omega
    have h2 : (0 : Int) ≤ (i : Int) := by omega
    simp only [laws_eqPartS.l0, if_pos h1, if_pos h2, eqPart_self, Option.bind_some, if_true, wr_succ i (by omega)]
    exact ih k (i + 1) (by omega) (by omega)
theorem eqPartS_self {k : Nat} (xs : List S70) (hn : xs.length ≤ 35184372088832) (hk : xs.length < k) : laws_eqPartS.f k xs xs = some true := by
  unfold laws_eqPartS.f
  rw [if_pos rfl]
  exact eqPartS_loop xs hn xs.length k 0 (by omega) hk

/-! markparts: laws.markPartS writes marks, laws.heldPartS finds them -/
theorem markPartS_loop (n : Nat) (hn : n ≤ 35184372088832) (c : Int) (hc : 0 ≤ c) (hc' : c ≤ 1000000000000000000) (d : Nat) : ∀ (k : Nat) (ys : List S70) (i : Nat), ys.length = n → i + d = n → d < k →
    (∀ j, j < i → ys[j]? = some ⟨c + 2 * j, c + 2 * j + 1⟩) →
    ∃ zs, zs.length = n ∧ laws_markPartS.l0 k ys (c + 2 * i) (i : Int) = some (c + 2 * n, zs) ∧ ∀ j : Nat, j < n → zs[j]? = some ⟨c + 2 * j, c + 2 * j + 1⟩ := by
  induction d with
  | zero =>
    intro k ys i hl hd hk h
    obtain ⟨k, rfl⟩ : ∃ m, k = m + 1 := ⟨k - 1, by omega⟩
    obtain rfl : i = n := by omega
    refine ⟨ys, hl, ?_, h⟩
    simp only [laws_markPartS.l0]
    rw [if_neg (by omega)]
  | succ d ih =>
    intro k ys i hl hd hk h
    obtain ⟨k, rfl⟩ : ∃ m, k = m + 1 := ⟨k - 1, by omega⟩
    have h1 : (i : Int) < (ys.length : Int) := by omega
    have h2 : (0 : Int) ≤ (i : Int) := by omega
    have e1 : wrap64 (c + 2 * (i : Int) + 1) = c + 2 * (i : Int) + 1 := wr (by omega) (by omega)
    have e2 : wrap64 (c + 2 * (i : Int) + 1 + 1) = c + 2 * ((i + 1 : Nat) : Int) := by rw [wr (by omega) (by omega)]; omega
    have e3 : rd_T70 (ys.set i ⟨c + 2 * (i : Int), (rd_T70 ys (i : Int)).f1⟩) (i : Int) = ⟨c + 2 * (i : Int), (rd_T70 ys (i : Int)).f1⟩ := by
      rw [rdp_at _ i (by simp; omega)]; simp
    obtain ⟨zs, z1, z2, z3⟩ := ih k (ys.set i ⟨c + 2 * (i : Int), c + 2 * (i : Int) + 1⟩) (i + 1) (by simpa using hl) (by omega) (by omega) (by
      intro j hj
      rw [List.getElem?_set]
      by_cases e : i = j
      · subst e; rw [if_pos rfl, if_pos (by omega)]
      · rw [if_neg e]; exact h j (by omega))
    refine ⟨zs, z1, ?_, z3⟩
    simp only [laws_markPartS.l0, if_pos h1, if_pos h2, Option.bind_some, Int.toNat_natCast, e1, e2, e3, List.set_set, wr_succ i (by omega)]
    exact z2
theorem heldPartS_loop (zs : List S70) (hn : zs.length ≤ 35184372088832) (c : Int) (hc : 0 ≤ c) (hc' : c ≤ 1000000000000000000) (hz : ∀ j : Nat, j < zs.length → zs[j]? = some ⟨c + 2 * j, c + 2 * j + 1⟩) (d : Nat) : ∀ (k : Nat) (i : Nat), i + d = zs.length → d < k →
    laws_heldPartS.l0 k zs (c + 2 * i) (i : Int) = some (c + 2 * zs.length) := by
  induction d with
  | zero =>
    intro k i hd hk
    obtain ⟨k, rfl⟩ : ∃ m, k = m + 1 := ⟨k - 1, by omega⟩
    simp only [laws_heldPartS.l0]
    rw [if_neg (by omega), show i = zs.length by omega]
  | succ d ih =>
    intro k i hd hk
    obtain ⟨k, rfl⟩ : ∃ m, k = m + 1 := ⟨k - 1, by omega⟩
    have hi : i < zs.length := by omega
    have h1 : (i : Int) < (zs.length : Int) := by omega
    have h2 : (0 : Int) ≤ (i : Int) := by omega
    have e1 : wrap64 (c + 2 * (i : Int) + 1) = c + 2 * (i : Int) + 1 := wr (by omega) (by omega)
    have e2 : wrap64 (c + 2 * (i : Int) + 1 + 1) = c + 2 * ((i + 1 : Nat) : Int) := by rw [wr (by omega) (by omega)]; omega
    have hv : rd_T70 zs (i : Int) = ⟨c + 2 * (i : Int), c + 2 * (i : Int) + 1⟩ := by
      have := hz i hi
      rw [List.getElem?_eq_getElem hi] at this
      rw [rdp_at zs i hi, Option.some.inj this]
    simp only [laws_heldPartS.l0, if_pos h1, if_pos h2, hv, e1, e2, if_true, wr_succ i (by omega)]
    exact ih k (i + 1) (by omega) (by omega)
theorem markPartS_held (xs : List S70) (hn : xs.length ≤ 35184372088832) (c : Int) (hc : 0 ≤ c) (hc' : c ≤ 1000000000000000000) :
    ∃ zs, zs.length = xs.length ∧ (∀ k, xs.length < k → laws_markPartS.f k xs c = some (c + 2 * xs.length, zs)) ∧ (∀ k, xs.length < k → laws_heldPartS.f k zs c = some (c + 2 * xs.length)) := by
  have all : ∀ k, xs.length < k → ∃ zs, zs.length = xs.length ∧ laws_markPartS.f k xs c = some (c + 2 * xs.length, zs) ∧ ∀ j : Nat, j < xs.length → zs[j]? = some ⟨c + 2 * j, c + 2 * j + 1⟩ := by
    intro k hk
    have := markPartS_loop xs.length hn c hc hc' xs.length k xs 0 rfl (by omega) hk (fun j hj => by omega)
    simpa [laws_markPartS.f] using this
  obtain ⟨zs, z1, _, z3⟩ := all (xs.length + 1) (by omega)
  refine ⟨zs, z1, fun k hk => ?_, fun k hk => ?_⟩
  · obtain ⟨us, u1, u2, u3⟩ := all k hk
    rw [u2, show us = zs from same_list (by omega) (fun j hj => by rw [u3 j (by omega), z3 j (by omega)])]
  · have := heldPartS_loop zs (by omega) c hc hc' (fun j hj => z3 j (by omega)) zs.length k 0 (by omega) (by omega)
    simpa [laws_heldPartS.f, z1] using this

/-! in: between two numbers -/
theorem within_eq (a b c : Int) : impl_within.f a b c = spec_l1In.f a b c := rfl
theorem in_some (a b c : Int) : spec_l1In.f a b c = some (decide (b ≤ a) && decide (a ≤ c)) := by
  unfold spec_l1In.f
  by_cases h : a ≥ b
  · rw [if_pos h]; have : b ≤ a := h; simp [this]
  · rw [if_neg h]; have : ¬ b ≤ a := h; simp [this]

/-! inall: all numbers of a list between two numbers -/
def inAll (lo hi : Int) (xs : List Int) : Bool := xs.all fun x => decide (lo ≤ x) && decide (x ≤ hi)
theorem inAll_mem {lo hi : Int} {xs : List Int} (h : inAll lo hi xs = true) : ∀ x ∈ xs, lo ≤ x ∧ x ≤ hi := by
  intro x hx
  have := List.all_eq_true.1 h x hx
  simpa using this

/-! sall: all numbers of a list between two numbers, in the reference -/
theorem all_loop (lo up : Int) (xs : List Int) (hn : xs.length ≤ 35184372088832) (d : Nat) : ∀ (k : Nat) (i : Nat), i + d = xs.length → d < k →
    spec_l1All.l0 k lo up xs (xs.length : Int) (i : Int) = some (inAll lo up (xs.drop i)) := by
  induction d with
  | zero =>
    intro k i hd hk
    obtain ⟨k, rfl⟩ : ∃ m, k = m + 1 := ⟨k - 1, by omega⟩
    simp only [spec_l1All.l0]
    rw [if_neg (by omega), List.drop_of_length_le (by omega)]; rfl
  | succ d ih =>
    intro k i hd hk
    obtain ⟨k, rfl⟩ : ∃ m, k = m + 1 := ⟨k - 1, by omega⟩
    have hi : i < xs.length := by omega
    have h1 : (i : Int) < (xs.length : Int) := by omega
    have h2 : (0 : Int) ≤ (i : Int) := by omega
    simp only [spec_l1All.l0]
    rw [if_pos h1, if_pos h2, if_pos h1, rd_at xs i hi, in_some, wr_succ i (by omega), ih k (i + 1) (by omega) (by omega), List.drop_eq_getElem_cons hi]
    simp only [Option.bind_some, inAll, List.all_cons]
    generalize (decide (lo ≤ xs[i]) && decide (xs[i] ≤ up)) = b
    cases b <;> simp
theorem spec_all {k : Nat} (lo hi : Int) (xs : List Int) (hn : xs.length ≤ 35184372088832) (hk : xs.length < k) : spec_l1All.f k xs lo hi = some (inAll lo hi xs) := by
  unfold spec_l1All.f
  have := all_loop lo hi xs hn xs.length k 0 (by omega) hk
  simpa using this

/-! iall: all numbers of a list between two numbers, in the program -/
theorem iall_loop (lo up : Int) (xs : List Int) (hn : xs.length ≤ 35184372088832) (d : Nat) : ∀ (k : Nat) (i : Nat), i + d = xs.length → d < k →
    impl_allWithin.l0 k lo up xs (xs.length : Int) (i : Int) = some (inAll lo up (xs.drop i)) := by
  induction d with
  | zero =>
    intro k i hd hk
    obtain ⟨k, rfl⟩ : ∃ m, k = m + 1 := ⟨k - 1, by omega⟩
    simp only [impl_allWithin.l0]
    rw [if_neg (by omega), List.drop_of_length_le (by omega)]; rfl
  | succ d ih =>
    intro k i hd hk
    obtain ⟨k, rfl⟩ : ∃ m, k = m + 1 := ⟨k - 1, by omega⟩
    have hi : i < xs.length := by omega
    have h1 : (i : Int) < (xs.length : Int) := by omega
    have h2 : (0 : Int) ≤ (i : Int) := by omega
    simp only [impl_allWithin.l0]
    rw [if_pos h1, if_pos h2, if_pos h1, rd_at xs i hi, within_eq, in_some, wr_succ i (by omega), ih k (i + 1) (by omega) (by omega), List.drop_eq_getElem_cons hi]
    simp only [Option.bind_some, inAll, List.all_cons]
    generalize (decide (lo ≤ xs[i]) && decide (xs[i] ≤ up)) = b
    cases b <;> simp
theorem impl_all {k : Nat} (lo hi : Int) (xs : List Int) (hn : xs.length ≤ 35184372088832) (hk : xs.length < k) : impl_allWithin.f k xs lo hi = some (inAll lo hi xs) := by
  unfold impl_allWithin.f
  have := iall_loop lo hi xs hn xs.length k 0 (by omega) hk
  simpa using this


/-! poly: polynomials, in both texts -/
def goodPoly (p : List Int) : Bool := decide (1 ≤ (p.length : Int)) && decide ((p.length : Int) ≤ 8) && inAll 0 1498 p
theorem spec_poly {k : Nat} (p : List Int) (hn : p.length ≤ 35184372088832) (hk : p.length < k) : spec_l5Poly.f k p = some (goodPoly p) := by
  unfold spec_l5Poly.f goodPoly
  rw [in_some, spec_all 0 1498 p hn hk]
  cases (decide (1 ≤ (p.length : Int)) && decide ((p.length : Int) ≤ 8)) <;> simp
theorem impl_poly {k : Nat} (p : List Int) (hn : p.length ≤ 35184372088832) (hk : p.length < k) : impl_isPoly.f k p = some (goodPoly p) := by
  unfold impl_isPoly.f goodPoly
  rw [within_eq, in_some, impl_all 0 1498 p hn hk]
  cases (decide (1 ≤ (p.length : Int)) && decide ((p.length : Int) ≤ 8)) <;> simp
theorem goodPoly_len {p : List Int} (h : goodPoly p = true) : p.length ≤ 8 := by
  simp [goodPoly] at h; omega

/-! value: the value of a polynomial, in both texts -/
theorem value_l0_eq (k : Nat) : ∀ p x a i, impl_value.l0 k p x a i = spec_l5Value.l0 k p x a i := by
  induction k with
  | zero => intros; rfl
  | succ k ih => intro p x a i; simp only [impl_value.l0, spec_l5Value.l0, ih]
theorem value_eq (k : Nat) (p : List Int) (x : Int) : impl_value.f k p x = spec_l5Value.f k p x := by simp only [impl_value.f, spec_l5Value.f, value_l0_eq]
theorem value_ends (p : List Int) (x : Int) (hp : p.length ≤ 35184372088832) (i : Nat) : ∀ (k : Nat) (a : Int), i ≤ p.length → i < k → ∃ r, spec_l5Value.l0 k p x a ((i : Int) - 1) = some r := by
  induction i with
  | zero =>
    intro k a hi hk
    obtain ⟨k, rfl⟩ : ∃ m, k = m + 1 := ⟨k - 1, by omega⟩
    have hz : ¬ ((0 : Nat) : Int) - 1 ≥ 0 := by omega
    simp only [spec_l5Value.l0, if_neg hz]
    exact ⟨_, rfl⟩
  | succ i ih =>
    intro k a hi hk
    obtain ⟨k, rfl⟩ : ∃ m, k = m + 1 := ⟨k - 1, by omega⟩
    have e : ((i + 1 : Nat) : Int) - 1 = (i : Int) := by omega
    have h1 : (i : Int) ≥ 0 := by omega
    have h2 : (0 : Int) ≤ (i : Int) := by omega
    have h3 : (i : Int) < (p.length : Int) := by omega
    rw [e]
    simp only [spec_l5Value.l0, if_pos h1, if_pos h2, if_pos h3, wr (x := (i : Int) - 1) (by omega) (by omega)]
    exact ih k _ (by omega) (by omega)
theorem value_some {k : Nat} (p : List Int) (x : Int) (hp : p.length ≤ 8) (hk : 8 < k) : ∃ r, spec_l5Value.f k p x = some r := by
  unfold spec_l5Value.f
  rw [wr (by omega) (by omega)]
  exact value_ends p x (by omega) p.length k 0 (by omega) (by omega)

/-! split: SplitSecret, in both texts -/
theorem split_l0_eq (k : Nat) : ∀ p m o x, impl_SplitSecret.l0 k p m o x = spec_SplitSecret.l0 k p m o x := by
  induction k with
  | zero => intros; rfl
  | succ k ih => intro p m o x; simp only [impl_SplitSecret.l0, spec_SplitSecret.l0, ih, value_eq]
theorem split_ends (p : List Int) (hp : p.length ≤ 8) (m : Int) (hm : m ≤ 8) (d : Nat) : ∀ (k : Nat) (o : List S70) (x : Int), m + 1 - x = d → d + 8 < k → 1 ≤ x → o.length + d ≤ 20 →
    ∃ r, spec_SplitSecret.l0 k p m o x = some (r, true) ∧ r.length ≤ 20 := by
  induction d with
  | zero =>
    intro k o x hd hk hx ho
    obtain ⟨k, rfl⟩ : ∃ m, k = m + 1 := ⟨k - 1, by omega⟩
    simp only [spec_SplitSecret.l0]
    rw [if_neg (by omega)]
    exact ⟨o, rfl, by omega⟩
  | succ d ih =>
    intro k o x hd hk hx ho
    obtain ⟨k, rfl⟩ : ∃ m, k = m + 1 := ⟨k - 1, by omega⟩
    obtain ⟨r, hr⟩ := value_some (k := k) p x hp (by omega)
    have h1 : x ≤ m := by omega
    have h2 : o.length < 8796093022208 := by omega
    simp only [spec_SplitSecret.l0, if_pos h1, hr, Option.bind_some, if_pos h2, wr (x := x + 1) (by omega) (by omega)]
    exact ih k _ (x + 1) (by omega) (by omega) (by omega) (by simp; omega)
theorem split_secret {k : Nat} (p : List Int) (m : Int) (hn : p.length ≤ 35184372088832) (hk : p.length + 30 < k) : ∃ r : List S70 × Bool, r.1.length ≤ 20 ∧ spec_SplitSecret.f k p m = some r ∧ impl_SplitSecret.f k p m = some r := by
  obtain ⟨k, rfl⟩ : ∃ m, k = m + 1 := ⟨k - 1, by omega⟩
  unfold spec_SplitSecret.f impl_SplitSecret.f
  rw [spec_poly p hn (by omega), impl_poly p hn (by omega), within_eq, in_some]
  simp only [spec_SplitSecret.j0, impl_SplitSecret.j0, split_l0_eq]
  by_cases h : goodPoly p = true
  · by_cases h' : 1 ≤ m ∧ m ≤ 8
    · obtain ⟨r, hr, hl⟩ := split_ends p (goodPoly_len h) m h'.2 m.toNat k [] 1 (by omega) (by omega) (by omega) (by simp; omega)
      exact ⟨(r, true), hl, by simp [h, h', hr], by simp [h, h', hr]⟩
    · have hd : (decide (1 ≤ m) && decide (m ≤ 8)) = false := by simpa using h'
      exact ⟨([], false), by simp, by simp [h, hd], by simp [h, hd]⟩
  · exact ⟨([], false), by simp, by simp [h], by simp [h]⟩

theorem FnExactSplitSecret : laws_FnExactSplitSecret.Pure := by
  intro p m _ hn _ _
  refine rounds_of (p.length + 200) fun k hk => ?_
  obtain ⟨k, rfl⟩ : ∃ j, k = j + 3 := ⟨k - 3, by omega⟩
  unfold laws_FnExactSplitSecret.f
  by_cases h : (p.length : Int) > 1048576
  · rw [if_pos h]
  · rw [if_neg h]
    obtain ⟨r, hl, s1, i1⟩ := split_secret (k := k + 1) p m (by omega) (by omega)
    have s3 := at_rounds (fun k => spec_SplitSecret.mono p m k) (by omega : k + 1 ≤ k + 3) s1
    have i3 := at_rounds (fun k => impl_SplitSecret.mono p m k) (by omega : k + 1 ≤ k + 3) i1
    obtain ⟨za, za2⟩ := markIntS_some p (by omega) 1 (by omega) (by omega) (by omega : p.length < k + 2)
    obtain ⟨zo, zo1, zo2, zo3⟩ := markPartS_held r.1 (by omega) 1 (by omega) (by omega)
    have q1 : ¬ (1 + (p.length : Int) < 0) := by omega
    have q2 : ¬ (1 + 2 * (r.1.length : Int) < 0) := by omega
    simp only [toIntS_eq (k := k + 3) p (by omega) (by omega), s3, i3, eqPartS_self (k := k + 3) r.1 (by omega) (by omega), Option.bind_some, bne_self_eq_false, if_true]
    simp only [laws_FnExactSplitSecret.j0, toIntS_eq (k := k + 2) p (by omega) (by omega), eqIntS_self (k := k + 2) p (by omega) (by omega), eqPartS_self (k := k + 2) r.1 (by omega) (by omega), za2, Option.bind_some, if_true, if_neg q1, bne_self_eq_false, Bool.false_eq_true, if_false]
    simp only [laws_FnExactSplitSecret.j1, toIntS_eq (k := k + 1) p (by omega) (by omega), i1, eqPartS_self (k := k + 1) r.1 (by omega) (by omega), zo2 (k + 1) (by omega), zo3 (k + 1) (by omega), Option.bind_some, if_true, if_neg q2, bne_self_eq_false, Bool.false_eq_true, if_false]
    simp only [laws_FnExactSplitSecret.j2, zo3 k (by omega), Option.bind_some, if_true, if_neg q2, Bool.false_eq_true, if_false]

end Go.Proofs.Ytadooofomkdaoaa.Pure
