/- UnlikeBits answers as the reference does, leaves its arguments alone and owns its answer, for all lists (the plain half). -/
import Derived.Test.YticchbgbbnpgoaaPFnExactUnlikeBitsx
set_option linter.unusedVariables false
set_option linter.unusedSimpArgs false
namespace Go.Proofs.Yticchbgbbnpgoaa.Pure
open Go.RowKit Go.Proofs.Yticchbgbbnpgoaa.PFnExactUnlikeBits Go.Proofs.YticchbgbbnpgoaaW.PrintWords Go.Proofs.YticchbgbbnpgoaaW.PrintLast

/-! base: sums of int that stay in range; `tmod` and `tdiv` of what is not negative -/
theorem wr {x : Int} (h1 : -9223372036854775808 ≤ x) (h2 : x ≤ 9223372036854775807) : wrap64 x = x := by
  unfold wrap64; omega
theorem tmod_pos {a b : Int} (h : 0 ≤ a) : Int.tmod a b = a % b := Int.tmod_eq_emod_of_nonneg h
theorem tdiv_pos {a b : Int} (h : 0 ≤ a) : Int.tdiv a b = a / b := Int.tdiv_eq_ediv_of_nonneg h
theorem rounds_of {α : Type} {g : Nat → Option α} {r : α} (N : Nat) (h : ∀ k, N < k → g k = some r) : ∃ k, g k = some r := ⟨N + 1, h _ (Nat.lt_succ_self N)⟩

/-! lists: reading a list at a place; a copy of a list; a list is like itself -/
theorem rd_at (xs : List Int) (i : Nat) (h : i < xs.length) : rd xs (i : Int) = xs[i] := by
  simp [rd, List.getD_eq_getElem?_getD, h]
theorem wr_succ (i : Nat) (h : i < 9000000000000000000) : wrap64 ((i : Int) + 1) = ((i + 1 : Nat) : Int) := by
  rw [wr (by omega) (by omega)]; omega
theorem same_list {α : Type} {xs ys : List α} (hl : ys.length = xs.length) (h : ∀ j, j < xs.length → ys[j]? = xs[j]?) : ys = xs := by
  apply List.ext_getElem?
  intro j
  by_cases hj : j < xs.length
  · exact h j hj
  · rw [List.getElem?_eq_none (by omega), List.getElem?_eq_none (by omega)]
theorem set_upto {α : Type} {xs ys : List α} {i : Nat} (hl : ys.length = xs.length) (hi : i < xs.length) (h : ∀ j, j < i → ys[j]? = xs[j]?) :
    ∀ j, j < i + 1 → (ys.set i xs[i])[j]? = xs[j]? := by
  intro j hj
  rw [List.getElem?_set]
  by_cases e : i = j
  · subst e; rw [if_pos rfl, if_pos (by omega), List.getElem?_eq_getElem hi]
  · rw [if_neg e]; exact h j (by omega)

/-! rdb: a bool at a place -/
theorem rdb_at (xs : List Bool) (i : Nat) (h : i < xs.length) : rdOf false xs (i : Int) = xs[i] := by
  simp [rdOf, List.getD_eq_getElem?_getD, h]

/-! tobools: laws.toBoolS copies -/
theorem toBoolS_loop (xs : List Bool) (hn : xs.length ≤ 35184372088832) (d : Nat) : ∀ (k : Nat) (ys : List Bool) (i : Nat), ys.length = xs.length → (∀ j, j < i → ys[j]? = xs[j]?) → i + d = xs.length → d < k →
    laws_toBoolS.l0 k xs ys (i : Int) = some xs := by
  induction d with
  | zero =>
    intro k ys i hl h hd hk
    obtain ⟨k, rfl⟩ : ∃ m, k = m + 1 := ⟨k - 1, by omega⟩
    simp only [laws_toBoolS.l0]
    rw [if_neg (by omega), same_list hl (fun j hj => h j (by omega))]
  | succ d ih =>
    intro k ys i hl h hd hk
    obtain ⟨k, rfl⟩ : ∃ m, k = m + 1 := ⟨k - 1, by omega⟩
    have hi : i < xs.length := by omega
    have h1 : (i : Int) < (xs.length : Int) := by omega
    have h2 : (0 : Int) ≤ (i : Int) := by omega
    have h3 : (i : Int) < (ys.length : Int) := by omega
    simp only [laws_toBoolS.l0]
    rw [if_pos h1, if_pos h2, if_pos h3, rdb_at xs i hi, wr_succ i (by omega), Int.toNat_natCast]
    exact ih k _ (i + 1) (by simpa using hl) (set_upto hl hi h) (by omega) (by omega)
theorem toBoolS_eq {k : Nat} (xs : List Bool) (hn : xs.length ≤ 35184372088832) (hk : xs.length < k) : laws_toBoolS.f k xs = some xs := by
  unfold laws_toBoolS.f
  rw [if_pos (by omega), if_pos (by omega)]
  exact toBoolS_loop xs hn xs.length k _ 0 (by simp) (fun j hj => by omega) (by omega) hk

/-! eqbools: laws.eqBoolS says that a list is itself -/
theorem eqBoolS_loop (xs : List Bool) (hn : xs.length ≤ 35184372088832) (d : Nat) : ∀ (k : Nat) (i : Nat), i + d = xs.length → d < k → laws_eqBoolS.l0 k xs xs (i : Int) = some true := by
  induction d with
  | zero =>
    intro k i hd hk
    obtain ⟨k, rfl⟩ : ∃ m, k = m + 1 := ⟨k - 1, by omega⟩
    simp only [laws_eqBoolS.l0]
    rw [if_neg (by omega)]
  | succ d ih =>
    intro k i hd hk
    obtain ⟨k, rfl⟩ : ∃ m, k = m + 1 := ⟨k - 1, by omega⟩
    have h1 : (i : Int) < (xs.length : Int) := by omega
    have h2 : (0 : Int) ≤ (i : Int) := by omega
    simp only [laws_eqBoolS.l0, if_pos h1, if_pos h2, bne_self_eq_false, wr_succ i (by omega)]
    exact ih k (i + 1) (by omega) (by omega)
theorem eqBoolS_self {k : Nat} (xs : List Bool) (hn : xs.length ≤ 35184372088832) (hk : xs.length < k) : laws_eqBoolS.f k xs xs = some true := by
  unfold laws_eqBoolS.f
  rw [if_pos rfl]
  exact eqBoolS_loop xs hn xs.length k 0 (by omega) hk

/-! markbools: laws.markBoolS writes marks, laws.heldBoolS finds them -/
theorem markBoolS_loop (n : Nat) (hn : n ≤ 35184372088832) (c : Int) (hc : 0 ≤ c) (hc' : c ≤ 1000000000000000000) (d : Nat) : ∀ (k : Nat) (ys : List Bool) (i : Nat), ys.length = n → i + d = n → d < k →
    (∀ j, j < i → ys[j]? = some (Int.tmod (c + j) 3 == 0)) →
    ∃ zs, zs.length = n ∧ laws_markBoolS.l0 k ys (c + i) (i : Int) = some (c + n, zs) ∧ ∀ j, j < n → zs[j]? = some (Int.tmod (c + j) 3 == 0) := by
  induction d with
  | zero =>
    intro k ys i hl hd hk h
    obtain ⟨k, rfl⟩ : ∃ m, k = m + 1 := ⟨k - 1, by omega⟩
    obtain rfl : i = n := by omega
    refine ⟨ys, hl, ?_, h⟩
    simp only [laws_markBoolS.l0]
    rw [if_neg (by omega)]
  | succ d ih =>
    intro k ys i hl hd hk h
    obtain ⟨k, rfl⟩ : ∃ m, k = m + 1 := ⟨k - 1, by omega⟩
    have h1 : (i : Int) < (ys.length : Int) := by omega
    have h2 : (0 : Int) ≤ (i : Int) := by omega
    have e : wrap64 (c + (i : Int) + 1) = c + ((i + 1 : Nat) : Int) := by rw [wr (by omega) (by omega)]; omega
    obtain ⟨zs, z1, z2, z3⟩ := ih k (ys.set i (Int.tmod (c + i) 3 == 0)) (i + 1) (by simpa using hl) (by omega) (by omega) (by
      intro j hj
      rw [List.getElem?_set]
      by_cases e : i = j
      · subst e; rw [if_pos rfl, if_pos (by omega)]
      · rw [if_neg e]; exact h j (by omega))
    refine ⟨zs, z1, ?_, z3⟩
    simp only [laws_markBoolS.l0]
    rw [if_pos h1, if_pos h2, e, wr_succ i (by omega), Int.toNat_natCast]
    exact z2
theorem heldBoolS_loop (zs : List Bool) (hn : zs.length ≤ 35184372088832) (c : Int) (hc : 0 ≤ c) (hc' : c ≤ 1000000000000000000) (hz : ∀ j, j < zs.length → zs[j]? = some (Int.tmod (c + j) 3 == 0)) (d : Nat) : ∀ (k : Nat) (i : Nat), i + d = zs.length → d < k →
    laws_heldBoolS.l0 k zs (c + i) (i : Int) = some (c + zs.length) := by
  induction d with
  | zero =>
    intro k i hd hk
    obtain ⟨k, rfl⟩ : ∃ m, k = m + 1 := ⟨k - 1, by omega⟩
    simp only [laws_heldBoolS.l0]
    rw [if_neg (by omega), show i = zs.length by omega]
  | succ d ih =>
    intro k i hd hk
    obtain ⟨k, rfl⟩ : ∃ m, k = m + 1 := ⟨k - 1, by omega⟩
    have hi : i < zs.length := by omega
    have h1 : (i : Int) < (zs.length : Int) := by omega
    have h2 : (0 : Int) ≤ (i : Int) := by omega
    have e : wrap64 (c + (i : Int) + 1) = c + ((i + 1 : Nat) : Int) := by rw [wr (by omega) (by omega)]; omega
    have hv : zs[i] = (Int.tmod (c + i) 3 == 0) := by
      have := hz i hi
      rw [List.getElem?_eq_getElem hi] at this
      exact Option.some.inj this
    simp only [laws_heldBoolS.l0]
    rw [if_pos h1, if_pos h2, rdb_at zs i hi, hv, bne_self_eq_false, if_neg (by simp), e, wr_succ i (by omega)]
    exact ih k (i + 1) (by omega) (by omega)
theorem markBoolS_held (xs : List Bool) (hn : xs.length ≤ 35184372088832) (c : Int) (hc : 0 ≤ c) (hc' : c ≤ 1000000000000000000) :
    ∃ zs, zs.length = xs.length ∧ (∀ k, xs.length < k → laws_markBoolS.f k xs c = some (c + xs.length, zs)) ∧ (∀ k, xs.length < k → laws_heldBoolS.f k zs c = some (c + xs.length)) := by
  have all : ∀ k, xs.length < k → ∃ zs, zs.length = xs.length ∧ laws_markBoolS.f k xs c = some (c + xs.length, zs) ∧ ∀ j, j < xs.length → zs[j]? = some (Int.tmod (c + j) 3 == 0) := by
    intro k hk
    have := markBoolS_loop xs.length hn c hc hc' xs.length k xs 0 rfl (by omega) hk (fun j hj => by omega)
    simpa [laws_markBoolS.f] using this
  obtain ⟨zs, z1, _, z3⟩ := all (xs.length + 1) (by omega)
  refine ⟨zs, z1, fun k hk => ?_, fun k hk => ?_⟩
  · obtain ⟨us, u1, u2, u3⟩ := all k hk
    rw [u2, show us = zs from same_list (by omega) (fun j hj => by rw [u3 j (by omega), z3 j (by omega)])]
  · have := heldBoolS_loop zs (by omega) c hc hc' (fun j hj => z3 j (by omega)) zs.length k 0 (by omega) (by omega)
    simpa [laws_heldBoolS.f, z1] using this

/-! unlike: UnlikeBits, in both texts -/
theorem unlike_l0_eq (k : Nat) : ∀ a b o n i, impl_UnlikeBits.l0 k b o a n i = spec_UnlikeBits.l0 k a b o n i := by
  induction k with
  | zero => intros; rfl
  | succ k ih => intro a b o n i; simp only [impl_UnlikeBits.l0, spec_UnlikeBits.l0, ih]
def unlikeV (a b : List Bool) : List Bool := (List.range a.length).map fun j => (a.getD j false != b.getD j false)
theorem unlike_loop (a b : List Bool) (hl : a.length = b.length) (ha : a.length ≤ 40) (d : Nat) : ∀ (k : Nat) (i : Nat), i + d = a.length → d < k →
    spec_UnlikeBits.l0 k a b ((List.range i).map fun j => (a.getD j false != b.getD j false)) (a.length : Int) (i : Int) = some (unlikeV a b, true) := by
  induction d with
  | zero =>
    intro k i hd hk
    obtain ⟨k, rfl⟩ : ∃ m, k = m + 1 := ⟨k - 1, by omega⟩
    simp only [spec_UnlikeBits.l0]
    rw [if_neg (by omega), show i = a.length by omega]; rfl
  | succ d ih =>
    intro k i hd hk
    obtain ⟨k, rfl⟩ : ∃ m, k = m + 1 := ⟨k - 1, by omega⟩
    have h1 : (i : Int) < (a.length : Int) := by omega
    have h2 : (0 : Int) ≤ (i : Int) := by omega
    have h3 : (i : Int) < (b.length : Int) := by omega
    have h4 : ((List.range i).map fun j => (a.getD j false != b.getD j false)).length < 140737488355328 := by simp; omega
    simp only [spec_UnlikeBits.l0, if_pos h1, if_pos h2, if_pos h3, if_pos h4, wr_succ i (by omega)]
    have := ih k (i + 1) (by omega) (by omega)
    rw [List.range_succ, List.map_append] at this
    exact this
def unlikeR (a b : List Bool) : List Bool × Bool := if a.length = b.length ∧ a.length ≤ 40 then (unlikeV a b, true) else ([], false)
theorem unlikeR_len (a b : List Bool) : (unlikeR a b).1.length ≤ 40 := by
  unfold unlikeR
  split
  · rename_i h; simp [unlikeV]; omega
  · simp
theorem unlike_bits {k : Nat} (hk : 100 < k) (a b : List Bool) : spec_UnlikeBits.f k a b = some (unlikeR a b) ∧ impl_UnlikeBits.f k a b = some (unlikeR a b) := by
  obtain ⟨k, rfl⟩ : ∃ m, k = m + 1 := ⟨k - 1, by omega⟩
  unfold spec_UnlikeBits.f impl_UnlikeBits.f spec_l3Long.f unlikeR
  simp only [Option.bind_some, spec_UnlikeBits.j0, impl_UnlikeBits.j0, unlike_l0_eq]
  by_cases e : a.length = b.length
  · have e' : (a.length : Int) = (b.length : Int) := by omega
    have e'' : ((a.length : Int) != (b.length : Int)) = false := by simp [e]
    rw [if_pos e', e'']
    by_cases e2 : a.length ≤ 40
    · have h1 := unlike_loop a b e e2 a.length k 0 (by omega) (by omega)
      rw [show ((0 : Nat) : Int) = 0 from rfl] at h1
      have h2 : spec_UnlikeBits.l0 k a b [] (a.length : Int) 0 = some (unlikeV a b, true) := h1
      have e3 : (a.length : Int) ≤ 40 := by omega
      have e4 : ¬ (a.length : Int) > 40 := by omega
      rw [h2]
      simp [← e, e2, e3, e4]
    · have e3 : ¬ (a.length : Int) ≤ 40 := by omega
      have e4 : (a.length : Int) > 40 := by omega
      simp [← e, e2, e3, e4]
  · have e' : ¬ (a.length : Int) = (b.length : Int) := by omega
    rw [if_neg e']
    by_cases e2 : (a.length : Int) ≤ 40 <;> simp [e, e', e2]

theorem FnExactUnlikeBits : ∀ (l0 : List Bool) (l1 : List Bool), l0.length ≤ maxLen → l1.length ≤ maxLen → ∃ k, laws_FnExactUnlikeBits.f k l0 l1 = some true := by
  intro a b _ _
  refine rounds_of (a.length + b.length + 200) fun k hk => ?_
  obtain ⟨k, rfl⟩ : ∃ j, k = j + 3 := ⟨k - 3, by omega⟩
  unfold laws_FnExactUnlikeBits.f
  by_cases h : (a.length : Int) > 1048576
  · rw [if_pos h]
  · rw [if_neg h]
    by_cases h' : (b.length : Int) > 1048576
    · rw [if_pos h']
    · rw [if_neg h']
      have hl := unlikeR_len a b
      obtain ⟨za, za1, za2, _⟩ := markBoolS_held a (by omega) 1 (by omega) (by omega)
      obtain ⟨zb, zb1, zb2, _⟩ := markBoolS_held b (by omega) (1 + a.length) (by omega) (by omega)
      obtain ⟨zo, zo1, zo2, zo3⟩ := markBoolS_held (unlikeR a b).1 (by omega) 1 (by omega) (by omega)
      have q1 : ¬ (1 + (a.length : Int) + (b.length : Int) < 0) := by omega
      have q2 : ¬ (1 + ((unlikeR a b).1.length : Int) < 0) := by omega
      simp only [toBoolS_eq (k := k + 3) a (by omega) (by omega), toBoolS_eq (k := k + 3) b (by omega) (by omega), unlike_bits (k := k + 3) (by omega) a b, eqBoolS_self (k := k + 3) (unlikeR a b).1 (by omega) (by omega), Option.bind_some, bne_self_eq_false, if_true]
      simp only [laws_FnExactUnlikeBits.j0, toBoolS_eq (k := k + 2) a (by omega) (by omega), toBoolS_eq (k := k + 2) b (by omega) (by omega), eqBoolS_self (k := k + 2) a (by omega) (by omega), eqBoolS_self (k := k + 2) b (by omega) (by omega), eqBoolS_self (k := k + 2) (unlikeR a b).1 (by omega) (by omega), za2 (k + 2) (by omega), zb2 (k + 2) (by omega), Option.bind_some, if_true, if_neg q1, bne_self_eq_false, Bool.false_eq_true, if_false]
      simp only [laws_FnExactUnlikeBits.j1, toBoolS_eq (k := k + 1) a (by omega) (by omega), toBoolS_eq (k := k + 1) b (by omega) (by omega), unlike_bits (k := k + 1) (by omega) a b, eqBoolS_self (k := k + 1) (unlikeR a b).1 (by omega) (by omega), zo2 (k + 1) (by omega), zo3 (k + 1) (by omega), Option.bind_some, if_true, if_neg q2, bne_self_eq_false, Bool.false_eq_true, if_false]
      simp only [laws_FnExactUnlikeBits.j2, zo3 k (by omega), Option.bind_some, if_true, if_neg q2, Bool.false_eq_true, if_false]

end Go.Proofs.Yticchbgbbnpgoaa.Pure
