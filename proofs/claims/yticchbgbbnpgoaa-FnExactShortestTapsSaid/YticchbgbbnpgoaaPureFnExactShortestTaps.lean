/- ShortestTaps answers as the reference does, leaves its argument alone and owns its answer, for every list of bits (the plain half). -/
import Derived.Test.YticchbgbbnpgoaaQFnExactShortestTapsx
set_option linter.unusedVariables false
set_option linter.unusedSimpArgs false
namespace Go.Proofs.Yticchbgbbnpgoaa.Pure
open Go.RowKit Go.Proofs.Yticchbgbbnpgoaa.QFnExactShortestTaps Go.Proofs.YticchbgbbnpgoaaW.PrintWords Go.Proofs.YticchbgbbnpgoaaW.PrintLast Go.Proofs.YticchbgbbnpgoaaW.PrintMore

/-! base: sums of int that stay in range; `tmod` and `tdiv` of what is not negative -/
theorem wr {x : Int} (h1 : -9223372036854775808 ≤ x) (h2 : x ≤ 9223372036854775807) : wrap64 x = x := by
  unfold wrap64; omega
theorem tmod_pos {a b : Int} (h : 0 ≤ a) : Int.tmod a b = a % b := Int.tmod_eq_emod_of_nonneg h
theorem tdiv_pos {a b : Int} (h : 0 ≤ a) : Int.tdiv a b = a / b := Int.tdiv_eq_ediv_of_nonneg h
theorem rounds_of {α : Type} {g : Nat → Option α} {r : α} (N : Nat) (h : ∀ k, N < k → g k = some r) : ∃ k, g k = some r := ⟨N + 1, h _ (Nat.lt_succ_self N)⟩

/-! lists: reading a list at a place; a copy of a list; a list is like itself -/
theorem rd_at (xs : List Int) (i : Nat) (h : i < xs.length) : rd xs (i : Int) = xs[i] := by
  simp [rd, List.getD_eq_getElem?_getD, h]
theorem wr_succ (i : Nat) (h : i < 9000000000000000000) : wrap64 ((i : Int) + 1) = ((i + 1 : Nat) : Int) := by
  rw [wr (by omega) (by omega)]; omega
theorem same_list {α : Type} {xs ys : List α} (hl : ys.length = xs.length) (h : ∀ j, j < xs.length → ys[j]? = xs[j]?) : ys = xs := by
  apply List.ext_getElem?
  intro j
  by_cases hj : j < xs.length
  · exact h j hj
  · rw [List.getElem?_eq_none (by omega), List.getElem?_eq_none (by omega)]
theorem set_upto {α : Type} {xs ys : List α} {i : Nat} (hl : ys.length = xs.length) (hi : i < xs.length) (h : ∀ j, j < i → ys[j]? = xs[j]?) :
    ∀ j, j < i + 1 → (ys.set i xs[i])[j]? = xs[j]? := by
  intro j hj
  rw [List.getElem?_set]
  by_cases e : i = j
  · subst e; rw [if_pos rfl, if_pos (by omega), List.getElem?_eq_getElem hi]
  · rw [if_neg e]; exact h j (by omega)

/-! rdb: a bool at a place -/
theorem rdb_at (xs : List Bool) (i : Nat) (h : i < xs.length) : rdOf false xs (i : Int) = xs[i] := by
  simp [rdOf, List.getD_eq_getElem?_getD, h]

/-! tobools: laws.toBoolS copies -/
theorem toBoolS_loop (xs : List Bool) (hn : xs.length ≤ 35184372088832) (d : Nat) : ∀ (k : Nat) (ys : List Bool) (i : Nat), ys.length = xs.length → (∀ j, j < i → ys[j]? = xs[j]?) → i + d = xs.length → d < k →
    laws_toBoolS.l0 k xs ys (i : Int) = some xs := by
  induction d with
  | zero =>
    intro k ys i hl h hd hk
    obtain ⟨k, rfl⟩ : ∃ m, k = m + 1 := ⟨k - 1, by omega⟩
    simp only [laws_toBoolS.l0]
    rw [if_neg (by omega), same_list hl (fun j hj => h j (by omega))]
  | succ d ih =>
    intro k ys i hl h hd hk
    obtain ⟨k, rfl⟩ : ∃ m, k = m + 1 := ⟨k - 1, by omega⟩
    have hi : i < xs.length := by omega
    have h1 : (i : Int) < (xs.length : Int) := by omega
    have h2 : (0 : Int) ≤ (i : Int) := by omega
    have h3 : (i : Int) < (ys.length : Int) := by omega
    simp only [laws_toBoolS.l0]
    rw [if_pos h1, if_pos h2, if_pos h3, rdb_at xs i hi, wr_succ i (by omega), Int.toNat_natCast]
    exact ih k _ (i + 1) (by simpa using hl) (set_upto hl hi h) (by omega) (by omega)
theorem toBoolS_eq {k : Nat} (xs : List Bool) (hn : xs.length ≤ 35184372088832) (hk : xs.length < k) : laws_toBoolS.f k xs = some xs := by
  unfold laws_toBoolS.f
  rw [if_pos (by omega), if_pos (by omega)]
  exact toBoolS_loop xs hn xs.length k _ 0 (by simp) (fun j hj => by omega) (by omega) hk

/-! eqbools: laws.eqBoolS says that a list is itself -/
theorem eqBoolS_loop (xs : List Bool) (hn : xs.length ≤ 35184372088832) (d : Nat) : ∀ (k : Nat) (i : Nat), i + d = xs.length → d < k → laws_eqBoolS.l0 k xs xs (i : Int) = some true := by
  induction d with
  | zero =>
    intro k i hd hk
    obtain ⟨k, rfl⟩ : ∃ m, k = m + 1 := ⟨k - 1, by omega⟩
    simp only [laws_eqBoolS.l0]
    rw [if_neg (by omega)]
  | succ d ih =>
    intro k i hd hk
    obtain ⟨k, rfl⟩ : ∃ m, k = m + 1 := ⟨k - 1, by omega⟩
    have h1 : (i : Int) < (xs.length : Int) := by omega
    have h2 : (0 : Int) ≤ (i : Int) := by omega
    simp only [laws_eqBoolS.l0, if_pos h1, if_pos h2, bne_self_eq_false, wr_succ i (by omega)]
    exact ih k (i + 1) (by omega) (by omega)
theorem eqBoolS_self {k : Nat} (xs : List Bool) (hn : xs.length ≤ 35184372088832) (hk : xs.length < k) : laws_eqBoolS.f k xs xs = some true := by
  unfold laws_eqBoolS.f
  rw [if_pos rfl]
  exact eqBoolS_loop xs hn xs.length k 0 (by omega) hk

/-! eqints: laws.eqIntS says that a list is itself -/
theorem eqIntS_loop (xs : List Int) (hn : xs.length ≤ 35184372088832) (d : Nat) : ∀ (k : Nat) (i : Nat), i + d = xs.length → d < k → laws_eqIntS.l0 k xs xs (i : Int) = some true := by
  induction d with
  | zero =>
    intro k i hd hk
    obtain ⟨k, rfl⟩ : ∃ m, k = m + 1 := ⟨k - 1, by omega⟩
    simp only [laws_eqIntS.l0]
    rw [if_neg (by omega)]
  | succ d ih =>
    intro k i hd hk
    obtain ⟨k, rfl⟩ : ∃ m, k = m + 1 := ⟨k - 1, by omega⟩
    have h1 : (i : Int) < (xs.length : Int) := by omega
    have h2 : (0 : Int) ≤ (i : Int) := by omega
    simp only [laws_eqIntS.l0, if_pos h1, if_pos h2, if_true, wr_succ i (by omega)]
    exact ih k (i + 1) (by omega) (by omega)
theorem eqIntS_self {k : Nat} (xs : List Int) (hn : xs.length ≤ 35184372088832) (hk : xs.length < k) : laws_eqIntS.f k xs xs = some true := by
  unfold laws_eqIntS.f
  rw [if_pos rfl]
  exact eqIntS_loop xs hn xs.length k 0 (by omega) hk

/-! markboolonly: laws.markBoolS writes marks -/
theorem markBoolS_loop (n : Nat) (hn : n ≤ 35184372088832) (c : Int) (hc : 0 ≤ c) (hc' : c ≤ 1000000000000000000) (d : Nat) : ∀ (k : Nat) (ys : List Bool) (i : Nat), ys.length = n → i + d = n → d < k →
    (∀ j, j < i → ys[j]? = some (Int.tmod (c + j) 3 == 0)) →
    ∃ zs, zs.length = n ∧ laws_markBoolS.l0 k ys (c + i) (i : Int) = some (c + n, zs) ∧ ∀ j, j < n → zs[j]? = some (Int.tmod (c + j) 3 == 0) := by
  induction d with
  | zero =>
    intro k ys i hl hd hk h
    obtain ⟨k, rfl⟩ : ∃ m, k = m + 1 := ⟨k - 1, by omega⟩
    obtain rfl : i = n := by omega
    refine ⟨ys, hl, ?_, h⟩
    simp only [laws_markBoolS.l0]
    rw [if_neg (by omega)]
  | succ d ih =>
    intro k ys i hl hd hk h
    obtain ⟨k, rfl⟩ : ∃ m, k = m + 1 := ⟨k - 1, by omega⟩
    have h1 : (i : Int) < (ys.length : Int) := by omega
    have h2 : (0 : Int) ≤ (i : Int) := by omega
    have e : wrap64 (c + (i : Int) + 1) = c + ((i + 1 : Nat) : Int) := by rw [wr (by omega) (by omega)]; omega
    obtain ⟨zs, z1, z2, z3⟩ := ih k (ys.set i (Int.tmod (c + i) 3 == 0)) (i + 1) (by simpa using hl) (by omega) (by omega) (by
      intro j hj
      rw [List.getElem?_set]
      by_cases e : i = j
      · subst e; rw [if_pos rfl, if_pos (by omega)]
      · rw [if_neg e]; exact h j (by omega))
    refine ⟨zs, z1, ?_, z3⟩
    simp only [laws_markBoolS.l0]
    rw [if_pos h1, if_pos h2, e, wr_succ i (by omega), Int.toNat_natCast]
    exact z2
theorem markBoolS_some (xs : List Bool) (hn : xs.length ≤ 35184372088832) (c : Int) (hc : 0 ≤ c) (hc' : c ≤ 1000000000000000000) {k : Nat} (hk : xs.length < k) : ∃ zs, laws_markBoolS.f k xs c = some (c + xs.length, zs) := by
  obtain ⟨zs, _, h, _⟩ := markBoolS_loop xs.length hn c hc hc' xs.length k xs 0 rfl (by omega) hk (fun j hj => by omega)
  exact ⟨zs, by simpa [laws_markBoolS.f] using h⟩

/-! markintonly: laws.markIntS writes marks -/
theorem markIntS_loop (n : Nat) (hn : n ≤ 35184372088832) (c : Int) (hc : 0 ≤ c) (hc' : c ≤ 1000000000000000000) (d : Nat) : ∀ (k : Nat) (ys : List Int) (i : Nat), ys.length = n → i + d = n → d < k →
    (∀ j, j < i → ys[j]? = some (c + j)) →
    ∃ zs, zs.length = n ∧ laws_markIntS.l0 k ys (c + i) (i : Int) = some (c + n, zs) ∧ ∀ j, j < n → zs[j]? = some (c + j) := by
  induction d with
  | zero =>
    intro k ys i hl hd hk h
    obtain ⟨k, rfl⟩ : ∃ m, k = m + 1 := ⟨k - 1, by omega⟩
    obtain rfl : i = n := by omega
    refine ⟨ys, hl, ?_, h⟩
    simp only [laws_markIntS.l0]
    rw [if_neg (by omega)]
  | succ d ih =>
    intro k ys i hl hd hk h
    obtain ⟨k, rfl⟩ : ∃ m, k = m + 1 := ⟨k - 1, by omega⟩
    have h1 : (i : Int) < (ys.length : Int) := by omega
    have h2 : (0 : Int) ≤ (i : Int) := by omega
    have e : wrap64 (c + (i : Int) + 1) = c + ((i + 1 : Nat) : Int) := by rw [wr (by omega) (by omega)]; omega
    obtain ⟨zs, z1, z2, z3⟩ := ih k (ys.set i (c + i)) (i + 1) (by simpa using hl) (by omega) (by omega) (by
      intro j hj
      rw [List.getElem?_set]
      by_cases e : i = j
      · subst e; rw [if_pos rfl, if_pos (by omega)]
      · rw [if_neg e]; exact h j (by omega))
    refine ⟨zs, z1, ?_, z3⟩
    simp only [laws_markIntS.l0]
    rw [if_pos h1, if_pos h2, e, wr_succ i (by omega), Int.toNat_natCast]
    exact z2
theorem markIntS_some (xs : List Int) (hn : xs.length ≤ 35184372088832) (c : Int) (hc : 0 ≤ c) (hc' : c ≤ 1000000000000000000) {k : Nat} (hk : xs.length < k) : ∃ zs, laws_markIntS.f k xs c = some (c + xs.length, zs) := by
  obtain ⟨zs, _, h, _⟩ := markIntS_loop xs.length hn c hc hc' xs.length k xs 0 rfl (by omega) hk (fun j hj => by omega)
  exact ⟨zs, by simpa [laws_markIntS.f] using h⟩

/-! markints: laws.heldIntS finds the marks -/
theorem heldIntS_loop (zs : List Int) (hn : zs.length ≤ 35184372088832) (c : Int) (hc : 0 ≤ c) (hc' : c ≤ 1000000000000000000) (hz : ∀ j, j < zs.length → zs[j]? = some (c + j)) (d : Nat) : ∀ (k : Nat) (i : Nat), i + d = zs.length → d < k →
    laws_heldIntS.l0 k zs (c + i) (i : Int) = some (c + zs.length) := by
  induction d with
  | zero =>
    intro k i hd hk
    obtain ⟨k, rfl⟩ : ∃ m, k = m + 1 := ⟨k - 1, by omega⟩
    simp only [laws_heldIntS.l0]
    rw [if_neg (by omega), show i = zs.length by omega]
  | succ d ih =>
    intro k i hd hk
    obtain ⟨k, rfl⟩ : ∃ m, k = m + 1 := ⟨k - 1, by omega⟩
    have hi : i < zs.length := by omega
    have h1 : (i : Int) < (zs.length : Int) := by omega
    have h2 : (0 : Int) ≤ (i : Int) := by omega
    have e : wrap64 (c + (i : Int) + 1) = c + ((i + 1 : Nat) : Int) := by rw [wr (by omega) (by omega)]; omega
    have hv : zs[i] = c + i := by
      have := hz i hi
      rw [List.getElem?_eq_getElem hi] at this
      exact Option.some.inj this
    have hr : rd zs (i : Int) = c + i := by rw [rd_at zs i hi, hv]
    simp only [laws_heldIntS.l0]
    rw [if_pos h1, if_pos h2, if_pos hr, e, wr_succ i (by omega)]
    exact ih k (i + 1) (by omega) (by omega)
theorem markIntS_held (xs : List Int) (hn : xs.length ≤ 35184372088832) (c : Int) (hc : 0 ≤ c) (hc' : c ≤ 1000000000000000000) :
    ∃ zs, zs.length = xs.length ∧ (∀ k, xs.length < k → laws_markIntS.f k xs c = some (c + xs.length, zs)) ∧ (∀ k, xs.length < k → laws_heldIntS.f k zs c = some (c + xs.length)) := by
  have all : ∀ k, xs.length < k → ∃ zs, zs.length = xs.length ∧ laws_markIntS.f k xs c = some (c + xs.length, zs) ∧ ∀ j, j < xs.length → zs[j]? = some (c + j) := by
    intro k hk
    have := markIntS_loop xs.length hn c hc hc' xs.length k xs 0 rfl (by omega) hk (fun j hj => by omega)
    simpa [laws_markIntS.f] using this
  obtain ⟨zs, z1, _, z3⟩ := all (xs.length + 1) (by omega)
  refine ⟨zs, z1, fun k hk => ?_, fun k hk => ?_⟩
  · obtain ⟨us, u1, u2, u3⟩ := all k hk
    rw [u2, show us = zs from same_list (by omega) (fun j hj => by rw [u3 j (by omega), z3 j (by omega)])]
  · have := heldIntS_loop zs (by omega) c hc hc' (fun j hj => z3 j (by omega)) zs.length k 0 (by omega) (by omega)
    simpa [laws_heldIntS.f, z1] using this

/-! contains: a list has a number, in the library's words -/
theorem mem_drop_step' (xs : List Int) (v : Int) (i : Nat) (h : i < xs.length) : (v ∈ xs.drop i) ↔ v = xs[i] ∨ v ∈ xs.drop (i + 1) := by
  rw [List.drop_eq_getElem_cons h, List.mem_cons]
theorem index_loop (xs : List Int) (v : Int) (hn : xs.length ≤ 35184372088832) (d : Nat) : ∀ (k : Nat) (i : Nat), i + d = xs.length → d < k → ∃ r, slices_Index_int_int.l0 k xs v (xs.length : Int) (i : Int) = some r ∧ (r ≥ 0 ↔ v ∈ xs.drop i) := by
  induction d with
  | zero =>
    intro k i hd hk
    obtain ⟨k, rfl⟩ : ∃ m, k = m + 1 := ⟨k - 1, by omega⟩
    simp only [slices_Index_int_int.l0]
    rw [if_neg (by omega), List.drop_of_length_le (by omega)]
    exact ⟨-1, rfl, by simp⟩
  | succ d ih =>
    intro k i hd hk
    obtain ⟨k, rfl⟩ : ∃ m, k = m + 1 := ⟨k - 1, by omega⟩
    have hi : i < xs.length := by omega
    have h1 : (i : Int) < (xs.length : Int) := by omega
    have h2 : (0 : Int) ≤ (i : Int) := by omega
    simp only [slices_Index_int_int.l0]
    rw [if_pos h1, if_pos h2, if_pos h1, rd_at xs i hi, wr_succ i (by omega), mem_drop_step' xs v i hi]
    by_cases h : v = xs[i]
    · rw [if_pos h]
      exact ⟨i, rfl, by simp [h]⟩
    · rw [if_neg h]
      obtain ⟨r, h3, h4⟩ := ih k (i + 1) (by omega) (by omega)
      exact ⟨r, h3, by rw [h4]; simp [h]⟩
theorem lib_contains {k : Nat} (xs : List Int) (v : Int) (hn : xs.length ≤ 35184372088832) (hk : xs.length < k) : slices_Contains_int_int.f k xs v = some (decide (v ∈ xs)) := by
  unfold slices_Contains_int_int.f slices_Index_int_int.f
  obtain ⟨r, h1, h2⟩ := index_loop xs v hn xs.length k 0 (by omega) hk
  rw [show ((0 : Nat) : Int) = 0 from rfl] at h1
  rw [List.drop_zero] at h2
  simp only [h1, Option.bind_some, h2]

/-! rising: lists that rise, told by their members; the numbers that are in just one of two lists -/
def Ris (l : List Int) : Prop := l.Pairwise (fun x y => x < y)
theorem ris_ext : ∀ {a b : List Int}, Ris a → Ris b → (∀ x, x ∈ a ↔ x ∈ b) → a = b
  | [], [], _, _, _ => rfl
  | [], b :: ys, _, _, h => absurd ((h b).2 List.mem_cons_self) (by simp)
  | a :: xs, [], _, _, h => absurd ((h a).1 List.mem_cons_self) (by simp)
  | a :: xs, b :: ys, ha, hb, h => by
    obtain ⟨ha1, ha2⟩ := List.pairwise_cons.1 ha
    obtain ⟨hb1, hb2⟩ := List.pairwise_cons.1 hb
    have e : a = b := by
      rcases List.mem_cons.1 ((h a).1 List.mem_cons_self) with e | e
      · exact e
      · rcases List.mem_cons.1 ((h b).2 List.mem_cons_self) with e' | e'
        · exact e'.symm
        · have := hb1 a e; have := ha1 b e'; omega
    subst e
    rw [ris_ext ha2 hb2 (fun x => ⟨fun hx => ?_, fun hx => ?_⟩)]
    · rcases List.mem_cons.1 ((h x).1 (List.mem_cons_of_mem _ hx)) with e | e
      · have := ha1 x hx; omega
      · exact e
    · rcases List.mem_cons.1 ((h x).2 (List.mem_cons_of_mem _ hx)) with e | e
      · have := hb1 x hx; omega
      · exact e
theorem ris_nodup {l : List Int} (h : Ris l) : l.Nodup := h.imp (fun h => by omega)
theorem ris_of {l : List Int} (h1 : l.Pairwise (fun x y => x ≤ y)) (h2 : l.Nodup) : Ris l := h1.imp₂ (fun _ _ h h' => by omega) h2
def symd (a b : List Int) : List Int := (a ++ b).filter fun n => a.contains n != b.contains n
def mergedV (a b : List Int) : List Int := (symd a b).mergeSort fun x y => decide (x ≤ y)
theorem mem_symd (a b : List Int) (x : Int) : x ∈ symd a b ↔ ((x ∈ a ∧ x ∉ b) ∨ (x ∈ b ∧ x ∉ a)) := by
  unfold symd
  rw [List.mem_filter, List.mem_append]
  by_cases h1 : x ∈ a <;> by_cases h2 : x ∈ b <;> simp [h1, h2]
theorem symd_nodup {a b : List Int} (ha : a.Nodup) (hb : b.Nodup) : (symd a b).Nodup := by
  unfold symd
  rw [List.filter_append]
  refine List.nodup_append.2 ⟨ha.sublist List.filter_sublist, hb.sublist List.filter_sublist, fun x hx y hy e => ?_⟩
  subst e
  obtain ⟨h1, h2⟩ := List.mem_filter.1 hx
  obtain ⟨h3, _⟩ := List.mem_filter.1 hy
  simp [h1, h3] at h2
theorem mem_merged (a b : List Int) (x : Int) : x ∈ mergedV a b ↔ ((x ∈ a ∧ x ∉ b) ∨ (x ∈ b ∧ x ∉ a)) := by
  unfold mergedV
  rw [List.mem_mergeSort, mem_symd]
theorem merged_ris {a b : List Int} (ha : a.Nodup) (hb : b.Nodup) : Ris (mergedV a b) := by
  refine ris_of ?_ ((List.mergeSort_perm _ _).nodup_iff.2 (symd_nodup ha hb))
  have := List.pairwise_mergeSort (le := fun x y : Int => decide (x ≤ y)) (fun a b c h1 h2 => by simp at *; omega) (fun a b => by simp; omega) (symd a b)
  exact this.imp (fun h => by simpa using h)
def putV (l : List Int) (t : Int) : List Int := l.takeWhile (fun x => decide (x < t)) ++ t :: l.dropWhile (fun x => decide (x < t))
def turnV (l : List Int) (t : Int) : List Int := if l.contains t then l.filter (fun x => x != t) else putV l t
theorem drop_ge {l : List Int} (h : Ris l) (t : Int) : ∀ x ∈ l.dropWhile (fun x => decide (x < t)), t ≤ x := by
  induction l with
  | nil => intro x hx; cases hx
  | cons y l ih =>
    intro x hx
    rw [List.dropWhile_cons] at hx
    obtain ⟨h1, h2⟩ := List.pairwise_cons.1 h
    by_cases hy : y < t
    · rw [if_pos (by simpa using hy)] at hx; exact ih h2 x hx
    · rw [if_neg (by simpa using hy)] at hx
      rcases List.mem_cons.1 hx with e | e
      · omega
      · have := h1 x e; omega
theorem take_lt (l : List Int) (t : Int) : ∀ x ∈ l.takeWhile (fun x => decide (x < t)), x < t := by
  induction l with
  | nil => intro x hx; cases hx
  | cons y l ih =>
    intro x hx
    rw [List.takeWhile_cons] at hx
    by_cases hy : y < t
    · rw [if_pos (by simpa using hy)] at hx
      rcases List.mem_cons.1 hx with e | e
      · omega
      · exact ih x e
    · rw [if_neg (by simpa using hy)] at hx; cases hx
theorem put_ris {l : List Int} (h : Ris l) (t : Int) (ht : t ∉ l) : Ris (putV l t) := by
  have hs := List.takeWhile_append_dropWhile (p := fun x => decide (x < t)) (l := l)
  have hd := drop_ge h t
  have hn : ∀ x ∈ l.dropWhile (fun x => decide (x < t)), t < x := fun x hx => by
    have := hd x hx
    have hx' : x ∈ l := by rw [← hs]; exact List.mem_append_right _ hx
    have : x ≠ t := fun e => ht (e ▸ hx')
    omega
  have hk := take_lt l t
  rw [← hs] at h
  obtain ⟨h1, h2, h3⟩ := List.pairwise_append.1 h
  unfold putV
  refine List.pairwise_append.2 ⟨h1, List.pairwise_cons.2 ⟨hn, h2⟩, fun x hx y hy => ?_⟩
  rcases List.mem_cons.1 hy with e | e
  · rw [e]; exact hk x hx
  · exact h3 x hx y e
theorem mem_put (l : List Int) (t x : Int) : x ∈ putV l t ↔ (x = t ∨ x ∈ l) := by
  have hs := List.takeWhile_append_dropWhile (p := fun x => decide (x < t)) (l := l)
  unfold putV
  rw [List.mem_append, List.mem_cons]
  constructor
  · rintro (h | h | h)
    · right; rw [← hs]; exact List.mem_append_left _ h
    · exact .inl h
    · right; rw [← hs]; exact List.mem_append_right _ h
  · rintro (h | h)
    · exact .inr (.inl h)
    · rw [← hs] at h
      rcases List.mem_append.1 h with h | h
      · exact .inl h
      · exact .inr (.inr h)
theorem turn_ris {l : List Int} (h : Ris l) (t : Int) : Ris (turnV l t) := by
  unfold turnV
  by_cases hc : t ∈ l
  · rw [if_pos (by simpa using hc)]; exact List.Pairwise.sublist List.filter_sublist h
  · rw [if_neg (by simpa using hc)]; exact put_ris h t hc
theorem mem_turn (l : List Int) (t x : Int) : x ∈ turnV l t ↔ ((x ∈ l ∧ x ≠ t) ∨ (x ∉ l ∧ x = t)) := by
  unfold turnV
  by_cases hc : t ∈ l
  · rw [if_pos (by simpa using hc), List.mem_filter]
    by_cases e : x = t
    · subst e; simp [hc]
    · simp [e]
  · rw [if_neg (by simpa using hc), mem_put]
    by_cases e : x = t
    · subst e; simp [hc]
    · simp [e]
/-- What the reference does with many taps, one by one. -/
theorem turns_mem (ts : List Int) : ∀ (l : List Int) (x : Int), ts.Nodup → Ris l → (Ris (ts.foldl turnV l) ∧ (x ∈ ts.foldl turnV l ↔ ((x ∈ l ∧ x ∉ ts) ∨ (x ∈ ts ∧ x ∉ l)))) := by
  induction ts with
  | nil => intro l x _ h; exact ⟨h, by simp⟩
  | cons t ts ih =>
    intro l x hn h
    obtain ⟨h1, h2⟩ := List.nodup_cons.1 hn
    obtain ⟨r1, r2⟩ := ih (turnV l t) x h2 (turn_ris h t)
    refine ⟨r1, ?_⟩
    rw [List.foldl_cons, r2, mem_turn, List.mem_cons]
    by_cases e : x = t
    · subst e; simp [h1]
    · simp [e]
theorem turns_merged (l ts : List Int) (h : Ris l) (hn : ts.Nodup) : ts.foldl turnV l = mergedV l ts :=
  ris_ext (turns_mem ts l 0 hn h).1 (merged_ris (ris_nodup h) hn) (fun x => by rw [(turns_mem ts l x hn h).2, mem_merged])

/-! merged: two lists put together; the numbers that are in just one of them, in the program -/
theorem rd_L2_0 (a b : List Int) : rd_L2 [a, b] 0 = a := rfl
theorem rd_L2_1 (a b : List Int) : rd_L2 [a, b] 1 = b := rfl
theorem lib_concat {k : Nat} (a b : List Int) (ha : a.length ≤ 1000) (hb : b.length ≤ 1000) (hk : 8 ≤ k) : slices_Concat_int_int.f k [a, b] = some (a ++ b) := by
  obtain ⟨k, rfl⟩ : ∃ m, k = m + 8 := ⟨k - 8, by omega⟩
  have w0 : wrap64 ((0 : Int) + 1) = 1 := by unfold wrap64; omega
  have w1 : wrap64 ((1 : Int) + 1) = 2 := by unfold wrap64; omega
  have e1 : wrap64 ((0 : Int) + (a.length : Int)) = (a.length : Int) := by rw [wr (by omega) (by omega)]; omega
  have e2 : wrap64 ((a.length : Int) + (b.length : Int)) = ((a.length : Int) + (b.length : Int)) := wr (by omega) (by omega)
  have n1 : ¬ ((a.length : Int) < 0) := by omega
  have n2 : ¬ ((a.length : Int) + (b.length : Int) < 0) := by omega
  have l2 : ((([a, b] : List (List Int)).length : Nat) : Int) = 2 := rfl
  have q1 : (0 : Int) < 2 := by decide
  have q2 : (1 : Int) < 2 := by decide
  have q3 : (0 : Int) ≤ 0 := by decide
  have q4 : (0 : Int) ≤ 1 := by decide
  have q5 : ¬ (2 : Int) < 2 := by decide
  have g : (([] : List Int) = [] ∧ 0 ≤ (a.length : Int) + (b.length : Int) ∧ (a.length : Int) + (b.length : Int) < 17592186044416) := ⟨rfl, by omega, by omega⟩
  have g1 : ([] : List Int).length + a.length < 17592186044416 := by simp; omega
  have g2 : a.length + b.length < 17592186044416 := by omega
  simp only [slices_Concat_int_int.f, slices_Concat_int_int.l0, slices_Concat_int_int.l1, slices_Grow_int_int.f, l2, if_pos q1, if_pos q2, if_pos q3, if_pos q4, rd_L2_0, rd_L2_1, w0, w1, e1, e2, if_neg n1, if_neg n2, if_neg q5]
  rw [if_pos ⟨trivial, g.2⟩, Option.bind_some, if_pos g1, List.nil_append, if_pos g2]
theorem merged_loop (a b z : List Int) (ha : a.length ≤ 1000) (hb : b.length ≤ 1000) (hz : z.length ≤ 2000) (d : Nat) : ∀ (k : Nat) (i : Nat) (out : List Int), i + d = z.length → d + 1001 < k → out.length ≤ i →
    impl_merged.l0 k a b out z (z.length : Int) (i : Int) = some ((out ++ (z.drop i).filter fun n => a.contains n != b.contains n).mergeSort fun x y => decide (x ≤ y)) := by
  induction d with
  | zero =>
    intro k i out hd hk ho
    obtain ⟨k, rfl⟩ : ∃ m, k = m + 1 := ⟨k - 1, by omega⟩
    simp only [impl_merged.l0]
    rw [if_neg (by omega), List.drop_of_length_le (by omega)]
    unfold slices_Sort_int_int.f
    rw [if_pos (by omega)]; simp
  | succ d ih =>
    intro k i out hd hk ho
    obtain ⟨k, rfl⟩ : ∃ m, k = m + 1 := ⟨k - 1, by omega⟩
    have hi : i < z.length := by omega
    have g1 : (i : Int) < (z.length : Int) := by omega
    have g2 : (0 : Int) ≤ (i : Int) := by omega
    simp only [impl_merged.l0]
    rw [if_pos g1, if_pos g2, if_pos g1, rd_at z i hi, lib_contains a _ (by omega) (by omega), Option.bind_some, lib_contains b _ (by omega) (by omega), Option.bind_some, wr_succ i (by omega), List.drop_eq_getElem_cons hi, List.filter_cons]
    have e : (decide (z[i] ∈ a) != decide (z[i] ∈ b)) = (a.contains z[i] != b.contains z[i]) := by
      rw [List.contains_eq_mem, List.contains_eq_mem]
    rw [e]
    by_cases h : (a.contains z[i] != b.contains z[i]) = true
    · rw [if_pos h, if_pos (by omega), ih k (i + 1) _ (by omega) (by omega) (by simp; omega), if_pos h]
      simp
    · rw [if_neg h, ih k (i + 1) _ (by omega) (by omega) (by omega), if_neg h]
theorem impl_merged_eq {k : Nat} (a b : List Int) (ha : a.length ≤ 1000) (hb : b.length ≤ 1000) (hk : a.length + b.length + 1001 < k) : impl_merged.f k a b = some (mergedV a b) := by
  unfold impl_merged.f
  rw [lib_concat a b ha hb (by omega), Option.bind_some]
  have := merged_loop a b (a ++ b) ha hb (by simp; omega) (a ++ b).length k 0 [] (by omega) (by simp; omega) (by simp)
  simpa [mergedV, symd] using this

/-! has: a list has a number, in the reference -/
theorem mem_drop_step (xs : List Int) (v : Int) (i : Nat) (h : i < xs.length) : (v ∈ xs.drop i) ↔ xs[i] = v ∨ v ∈ xs.drop (i + 1) := by
  rw [List.drop_eq_getElem_cons h, List.mem_cons]
  constructor
  · rintro (h | h)
    · exact .inl h.symm
    · exact .inr h
  · rintro (h | h)
    · exact .inl h.symm
    · exact .inr h
theorem has_loop (xs : List Int) (v : Int) (hn : xs.length ≤ 35184372088832) (d : Nat) : ∀ (k : Nat) (i : Nat), i + d = xs.length → d < k → spec_l1Has.l0 k v xs (xs.length : Int) (i : Int) = some (decide (v ∈ xs.drop i)) := by
  induction d with
  | zero =>
    intro k i hd hk
    obtain ⟨k, rfl⟩ : ∃ m, k = m + 1 := ⟨k - 1, by omega⟩
    simp only [spec_l1Has.l0]
    rw [if_neg (by omega), List.drop_of_length_le (by omega)]; simp
  | succ d ih =>
    intro k i hd hk
    obtain ⟨k, rfl⟩ : ∃ m, k = m + 1 := ⟨k - 1, by omega⟩
    have hi : i < xs.length := by omega
    have h1 : (i : Int) < (xs.length : Int) := by omega
    have h2 : (0 : Int) ≤ (i : Int) := by omega
    simp only [spec_l1Has.l0]
    rw [if_pos h1, if_pos h2, if_pos h1, rd_at xs i hi, wr_succ i (by omega), ih k (i + 1) (by omega) (by omega)]
    simp only [mem_drop_step xs v i hi]
    by_cases h : xs[i] = v
    · rw [if_pos h]; simp [h]
    · rw [if_neg h]; simp [h]
theorem spec_has {k : Nat} (xs : List Int) (v : Int) (hn : xs.length ≤ 35184372088832) (hk : xs.length < k) : spec_l1Has.f k xs v = some (decide (v ∈ xs)) := by
  unfold spec_l1Has.f
  have := has_loop xs v hn xs.length k 0 (by omega) hk
  simpa using this

/-! turns: a tap turned, in the reference -/
theorem put_at {l : List Int} (h : Ris l) (t : Int) (i : Nat) (hi : i ≤ l.length) (h1 : ∀ j, (hj : j < l.length) → j < i → l[j] < t) (h2 : ∀ hj : i < l.length, t < l[i]) : l.take i ++ t :: l.drop i = putV l t := by
  unfold putV
  have e1 : l.takeWhile (fun x => decide (x < t)) = l.take i ∧ l.dropWhile (fun x => decide (x < t)) = l.drop i := by
    clear h
    induction l generalizing i with
    | nil => simp
    | cons x l ih =>
      match i with
      | 0 =>
        have := h2 (by simp)
        simp only [List.getElem_cons_zero] at this
        simp [List.takeWhile_cons, List.dropWhile_cons]
        omega
      | i + 1 =>
        have h3 := h1 0 (by simp) (by omega)
        simp only [List.getElem_cons_zero] at h3
        obtain ⟨e1, e2⟩ := ih i (by simp at hi; omega) (fun j hj hji => by have := h1 (j + 1) (by simp; omega) (by omega); simpa using this) (fun hj => by have := h2 (by simp; omega); simpa using this)
        simp [List.takeWhile_cons, List.dropWhile_cons, h3, e1, e2]
  rw [e1.1, e1.2]
theorem put_loop (l : List Int) (t : Int) (hr : Ris l) (ht : t ∉ l) (hn : l.length ≤ 1000) (d : Nat) : ∀ (k : Nat) (i : Nat), i + d = l.length → d < k → (∀ j, (hj : j < l.length) → j < i → l[j] < t) → spec_l1PutN.l0 k l t (i : Int) = some (putV l t) := by
  induction d with
  | zero =>
    intro k i hd hk h1
    obtain ⟨k, rfl⟩ : ∃ m, k = m + 1 := ⟨k - 1, by omega⟩
    have hi : i = l.length := by omega
    have g2 : (0 : Int) ≤ (i : Int) := by omega
    have g3 : (i : Int) ≤ (l.length : Int) := by omega
    simp only [spec_l1PutN.l0]
    rw [if_neg (by omega), Option.bind_some, if_pos g2, if_pos g3, Int.toNat_natCast, if_pos (by simp; omega), Option.bind_some, if_pos (by simp; omega), Option.bind_some, if_pos (by simp; omega), ← put_at hr t i (by omega) h1 (fun hj => by omega)]
    simp
  | succ d ih =>
    intro k i hd hk h1
    obtain ⟨k, rfl⟩ : ∃ m, k = m + 1 := ⟨k - 1, by omega⟩
    have hi : i < l.length := by omega
    have g1 : (i : Int) < (l.length : Int) := by omega
    have g2 : (0 : Int) ≤ (i : Int) := by omega
    have g3 : (i : Int) ≤ (l.length : Int) := by omega
    simp only [spec_l1PutN.l0]
    rw [if_pos g1, if_pos g2, rd_at l i hi]
    by_cases h : l[i] < t
    · rw [if_pos h, wr_succ i (by omega)]
      exact ih k (i + 1) (by omega) (by omega) (fun j hj hji => by
        by_cases e : j = i
        · subst e; exact h
        · exact h1 j hj (by omega))
    · have hne : ¬ l[i] = t := fun e => ht (e ▸ List.getElem_mem hi)
      rw [if_neg h, if_neg hne, Option.bind_some, if_pos g3, Int.toNat_natCast, if_pos (by simp; omega), Option.bind_some, if_pos (by simp; omega), Option.bind_some, if_pos (by simp; omega), ← put_at hr t i (by omega) h1 (fun hj => by omega)]
      simp
theorem spec_put {k : Nat} (l : List Int) (t : Int) (hr : Ris l) (ht : t ∉ l) (hn : l.length ≤ 1000) (hk : l.length < k) : spec_l1PutN.f k l t = some (putV l t) :=
  put_loop l t hr ht hn l.length k 0 (by omega) hk (fun j _ h => by omega)
theorem turn_loop (l : List Int) (t : Int) (hn : l.length ≤ 1000) (d : Nat) : ∀ (k : Nat) (i : Nat) (out : List Int), i + d = l.length → d < k → out.length ≤ i → spec_l3Turn.l0 k t out l (l.length : Int) (i : Int) = some (out ++ (l.drop i).filter (fun x => x != t)) := by
  induction d with
  | zero =>
    intro k i out hd hk ho
    obtain ⟨k, rfl⟩ : ∃ m, k = m + 1 := ⟨k - 1, by omega⟩
    simp only [spec_l3Turn.l0]
    rw [if_neg (by omega), List.drop_of_length_le (by omega)]; simp
  | succ d ih =>
    intro k i out hd hk ho
    obtain ⟨k, rfl⟩ : ∃ m, k = m + 1 := ⟨k - 1, by omega⟩
    have hi : i < l.length := by omega
    have g1 : (i : Int) < (l.length : Int) := by omega
    have g2 : (0 : Int) ≤ (i : Int) := by omega
    simp only [spec_l3Turn.l0]
    rw [if_pos g1, if_pos g2, if_pos g1, rd_at l i hi, wr_succ i (by omega), List.drop_eq_getElem_cons hi, List.filter_cons]
    by_cases h : l[i] = t
    · rw [if_pos h, ih k (i + 1) out (by omega) (by omega) (by omega), if_neg (by simp [h])]
    · rw [if_neg h, if_pos (by omega), ih k (i + 1) _ (by omega) (by omega) (by simp; omega), if_pos (by simp [h])]
      simp
theorem spec_turn {k : Nat} (l : List Int) (t : Int) (hr : Ris l) (hn : l.length ≤ 1000) (hk : l.length < k) : spec_l3Turn.f k l t = some (turnV l t) := by
  unfold spec_l3Turn.f turnV
  rw [spec_has l t (by omega) hk, Option.bind_some]
  by_cases h : t ∈ l
  · rw [if_pos (by simpa using h), if_pos (by simpa using h)]
    have := turn_loop l t hn l.length k 0 [] (by omega) hk (by simp)
    simpa using this
  · rw [if_neg (by simpa using h), if_neg (by simpa using h), spec_put l t hr h hn hk]
    rfl

/-! xdef: unlike sums over taps -/
def X : List Int → (Int → Bool) → Bool
  | [], _ => false
  | t :: l, f => (f t ^^ X l f)
theorem X_congr {l : List Int} {f g : Int → Bool} (h : ∀ t ∈ l, f t = g t) : X l f = X l g := by
  induction l with
  | nil => rfl
  | cons t l ih => simp only [X]; rw [h t (by simp), ih (fun t ht => h t (by simp [ht]))]
theorem X_none {l : List Int} {f : Int → Bool} (h : ∀ t ∈ l, f t = false) : X l f = false := by
  induction l with
  | nil => rfl
  | cons t l ih => simp only [X]; rw [h t (by simp), ih (fun t ht => h t (by simp [ht]))]; rfl
theorem X_xor (l : List Int) (f g : Int → Bool) : X l (fun t => f t ^^ g t) = (X l f ^^ X l g) := by
  induction l with
  | nil => rfl
  | cons t l ih => simp only [X]; rw [ih]; cases f t <;> cases g t <;> cases X l f <;> cases X l g <;> rfl
theorem X_swap (A B : List Int) (f : Int → Int → Bool) : X A (fun a => X B (fun b => f a b)) = X B (fun b => X A (fun a => f a b)) := by
  induction A with
  | nil => simp only [X]; exact (X_none (fun _ _ => rfl)).symm
  | cons a A ih => simp only [X]; rw [ih, X_xor]
theorem X_map (l : List Int) (g : Int → Int) (f : Int → Bool) : X (l.map g) f = X l (fun t => f (g t)) := by
  induction l with
  | nil => rfl
  | cons t l ih => simp only [X, List.map_cons]; rw [ih]
/-- The unlikeness at a place: the bit there and the bits at the taps. -/
def Dis (s : Int → Bool) (T : List Int) (i : Int) : Bool := X (0 :: T) (fun t => s (i - t))
theorem Dis_eq (s : Int → Bool) (T : List Int) (i : Int) : Dis s T i = (s i ^^ X T (fun t => s (i - t))) := by
  simp [Dis, X]

/-! massey: plain mathematics of Berlekamp's and Massey's way: the lemma of Massey, one step -/
theorem massey_lemma (s : Int → Bool) (T T2 : List Int) (L L2 n : Int) (h0 : 0 ≤ L) (h0' : 0 ≤ L2)
    (hT : ∀ t ∈ T, 1 ≤ t ∧ t ≤ L) (hT2 : ∀ t ∈ T2, 1 ≤ t ∧ t ≤ L2)
    (h1 : ∀ i, L ≤ i → i < n → Dis s T i = false) (h2 : Dis s T n = true) (h3 : ∀ i, L2 ≤ i → i ≤ n → Dis s T2 i = false) : n + 1 - L ≤ L2 := by
  rcases Int.lt_or_le L2 (n + 1 - L) with h | h
  · exfalso
    have e : X (0 :: T) (fun j => Dis s T2 (n - j)) = X (0 :: T2) (fun k => Dis s T (n - k)) := by
      unfold Dis
      rw [X_swap]
      refine X_congr fun k _ => X_congr fun j _ => ?_
      rw [show n - j - k = n - k - j by omega]
    have l : X (0 :: T) (fun j => Dis s T2 (n - j)) = false := X_none fun j hj => by
      rcases List.mem_cons.1 hj with rfl | hj
      · exact h3 _ (by omega) (by omega)
      · have := hT j hj; exact h3 _ (by omega) (by omega)
    have r : X (0 :: T2) (fun k => Dis s T (n - k)) = true := by
      simp only [X]
      rw [show n - 0 = n by omega, h2, X_none (fun k hk => by have := hT2 k hk; exact h1 _ (by omega) (by omega))]
      rfl
    rw [l, r] at e
    cases e
  · exact h
structure BM (s : Int → Bool) (n : Int) (T B : List Int) (L m : Int) : Prop where
  l0 : 0 ≤ L
  ln : L ≤ n
  m1 : 1 ≤ m
  b0 : 0 ≤ n - m + 1 - L
  mn : m ≤ n + 1
  hT : ∀ t ∈ T, 1 ≤ t ∧ t ≤ L
  hB : ∀ t ∈ B, 1 ≤ t ∧ t ≤ n - m + 1 - L
  gT : ∀ i, L ≤ i → i < n → Dis s T i = false
  gB : ∀ i, n - m + 1 - L ≤ i → i < n - m → Dis s B i = false
  dB : (n - m = -1 ∧ L = 0) ∨ Dis s B (n - m) = true
  least : ∀ (T2 : List Int) (L2 : Int), 0 ≤ L2 → (∀ t ∈ T2, 1 ≤ t ∧ t ≤ L2) → (∀ i, L2 ≤ i → i < n → Dis s T2 i = false) → L ≤ L2
theorem BM.start (s : Int → Bool) : BM s 0 [] [] 0 1 where
  l0 := by omega
  ln := by omega
  m1 := by omega
  b0 := by omega
  mn := by omega
  hT := by intro t ht; cases ht
  hB := by intro t ht; cases ht
  gT := by intro i h h'; omega
  gB := by intro i h h'; omega
  dB := .inl ⟨by omega, rfl⟩
  least := by intro T2 L2 h _ _; exact h
theorem BM.alike {s : Int → Bool} {n : Int} {T B : List Int} {L m : Int} (I : BM s n T B L m) (h : Dis s T n = false) : BM s (n + 1) T B L (m + 1) where
  l0 := I.l0
  ln := by have := I.ln; omega
  m1 := by have := I.m1; omega
  b0 := by have := I.b0; omega
  mn := by have := I.mn; omega
  hT := I.hT
  hB := by intro t ht; have := I.hB t ht; omega
  gT := by
    intro i h1 h2
    by_cases e : i = n
    · rw [e]; exact h
    · exact I.gT i h1 (by omega)
  gB := by intro i h1 h2; exact I.gB i (by omega) (by omega)
  dB := by
    rcases I.dB with h | h
    · exact .inl ⟨by omega, h.2⟩
    · right; rw [show n + 1 - (m + 1) = n - m by omega]; exact h
  least := by intro T2 L2 h0 h1 h2; exact I.least T2 L2 h0 h1 (fun i a b => h2 i a (by omega))
theorem Dis_sum {s : Int → Bool} {T B T' : List Int} {m : Int} (hX : ∀ f : Int → Bool, X T' f = (X T f ^^ X (0 :: B) (fun t => f (t + m)))) (i : Int) :
    Dis s T' i = (Dis s T i ^^ Dis s B (i - m)) := by
  rw [Dis_eq, Dis_eq, hX]
  have : X (0 :: B) (fun t => s (i - (t + m))) = Dis s B (i - m) := by
    unfold Dis
    exact X_congr fun t _ => by rw [show i - (t + m) = i - m - t by omega]
  rw [this]
  cases s i <;> cases X T (fun t => s (i - t)) <;> cases Dis s B (i - m) <;> rfl
theorem BM.unlike {s : Int → Bool} {n : Int} {T B T' : List Int} {L m : Int} (I : BM s n T B L m) (h : Dis s T n = true)
    (hX : ∀ f : Int → Bool, X T' f = (X T f ^^ X (0 :: B) (fun t => f (t + m)))) (hM : ∀ t ∈ T', t ∈ T ∨ t = m ∨ ∃ b ∈ B, t = b + m) :
    (L * 2 > n → BM s (n + 1) T' B L (m + 1)) ∧ (¬ L * 2 > n → BM s (n + 1) T' T (n + 1 - L) 1) := by
  have l0 := I.l0
  have ln := I.ln
  have m1 := I.m1
  have b0 := I.b0
  have mn := I.mn
  have bd : ∀ t ∈ T', 1 ≤ t ∧ (t ≤ L ∨ t ≤ n + 1 - L) := by
    intro t ht
    rcases hM t ht with h | h | ⟨b, hb, h⟩
    · have := I.hT t h; omega
    · omega
    · have := I.hB b hb; omega
  have gen : ∀ i, L ≤ i → n + 1 - L ≤ i → i < n + 1 → Dis s T' i = false := by
    intro i h1 h2 h3
    rw [Dis_sum hX]
    by_cases e : i = n
    · subst e
      rcases I.dB with hb | hb
      · omega
      · rw [h, hb]; rfl
    · rw [I.gT i h1 (by omega), I.gB (i - m) (by omega) (by omega)]; rfl
  have low : ∀ (T2 : List Int) (L2 : Int), 0 ≤ L2 → (∀ t ∈ T2, 1 ≤ t ∧ t ≤ L2) → (∀ i, L2 ≤ i → i < n + 1 → Dis s T2 i = false) → L ≤ L2 ∧ n + 1 - L ≤ L2 := by
    intro T2 L2 h0 h1 h2
    exact ⟨I.least T2 L2 h0 h1 (fun i a b => h2 i a (by omega)), massey_lemma s T T2 L L2 n l0 h0 I.hT h1 I.gT h (fun i a b => h2 i a (by omega))⟩
  constructor
  · intro hL
    exact {
      l0 := l0, ln := by omega, m1 := by omega, b0 := by omega, mn := by omega
      hT := by intro t ht; have := bd t ht; omega
      hB := by intro t ht; have := I.hB t ht; omega
      gT := by intro i h1 h2; exact gen i h1 (by omega) h2
      gB := by intro i h1 h2; exact I.gB i (by omega) (by omega)
      dB := by
        rcases I.dB with h | h
        · exact .inl ⟨by omega, h.2⟩
        · right; rw [show n + 1 - (m + 1) = n - m by omega]; exact h
      least := by intro T2 L2 h0 h1 h2; exact (low T2 L2 h0 h1 h2).1 }
  · intro hL
    exact {
      l0 := by omega, ln := by omega, m1 := by omega, b0 := by omega, mn := by omega
      hT := by intro t ht; have := bd t ht; omega
      hB := by intro t ht; have := I.hT t ht; omega
      gT := by intro i h1 h2; exact gen i (by omega) (by omega) h2
      gB := by intro i h1 h2; exact I.gT i (by omega) (by omega)
      dB := by right; rw [show n + 1 - 1 = n by omega]; exact h
      least := by intro T2 L2 h0 h1 h2; exact (low T2 L2 h0 h1 h2).2 }

/-! bitval: a bit at a place, none ahead of the first -/
def sAt (bits : List Bool) (i : Int) : Bool := if 0 ≤ i then bits.getD i.toNat false else false
theorem sAt_neg {bits : List Bool} {i : Int} (h : i < 0) : sAt bits i = false := by unfold sAt; rw [if_neg (by omega)]
theorem sAt_rd {bits : List Bool} {i : Int} (h : 0 ≤ i) : rdOf false bits i = sAt bits i := by unfold sAt rdOf; rw [if_pos h]
theorem sAt_nat (bits : List Bool) (i : Nat) (h : i < bits.length) : sAt bits (i : Int) = bits[i] := by
  simp [sAt, List.getD_eq_getElem?_getD, h]

/-! next: the next bit by taps, in the reference -/
theorem X_append (a b : List Int) (f : Int → Bool) : X (a ++ b) f = (X a f ^^ X b f) := by
  induction a with
  | nil => simp [X]
  | cons t a ih => simp only [List.cons_append, X]; rw [ih]; cases f t <;> cases X a f <;> cases X b f <;> rfl
theorem next_loop (bits : List Bool) (taps : List Int) (at_ : Int) (h0 : 0 ≤ at_) (h1 : at_ ≤ bits.length) (hb : bits.length ≤ 1000000000000) (ht : ∀ t ∈ taps, 1 ≤ t ∧ t ≤ 1000000000000) (hn : taps.length ≤ 35184372088832) (d : Nat) :
    ∀ (k : Nat) (o : Bool) (i : Nat), i + d = taps.length → d < k → spec_l3Next.l0 k bits at_ o taps (taps.length : Int) (i : Int) = some (o ^^ X (taps.drop i) (fun t => sAt bits (at_ - t))) := by
  induction d with
  | zero =>
    intro k o i hd hk
    obtain ⟨k, rfl⟩ : ∃ m, k = m + 1 := ⟨k - 1, by omega⟩
    simp only [spec_l3Next.l0]
    rw [if_neg (by omega), List.drop_of_length_le (by omega)]
    simp [X]
  | succ d ih =>
    intro k o i hd hk
    obtain ⟨k, rfl⟩ : ∃ m, k = m + 1 := ⟨k - 1, by omega⟩
    have hi : i < taps.length := by omega
    have g1 : (i : Int) < (taps.length : Int) := by omega
    have g2 : (0 : Int) ≤ (i : Int) := by omega
    have hx := ht taps[i] (List.getElem_mem hi)
    simp only [spec_l3Next.l0]
    rw [if_pos g1, if_pos g2, if_pos g1, rd_at taps i hi, List.drop_eq_getElem_cons hi]
    by_cases h : at_ ≥ taps[i]
    · have g3 : (0 : Int) ≤ at_ - taps[i] := by omega
      have g4 : at_ - taps[i] < (bits.length : Int) := by omega
      rw [if_pos h, wr (x := at_ - taps[i]) (by omega) (by omega), if_pos g3, if_pos g4, sAt_rd g3, wr_succ i (by omega)]
      simp only [X]
      cases hv : sAt bits (at_ - taps[i])
      · rw [if_neg (by simp), ih k o (i + 1) (by omega) (by omega)]; simp
      · rw [if_pos rfl, ih k (!o) (i + 1) (by omega) (by omega)]; simp
    · have g3 : at_ - taps[i] < 0 := by omega
      rw [if_neg h, wr_succ i (by omega), ih k o (i + 1) (by omega) (by omega)]
      simp only [X]
      rw [sAt_neg g3]; simp
theorem spec_next {k : Nat} (bits : List Bool) (taps : List Int) (at_ : Int) (h0 : 0 ≤ at_) (h1 : at_ ≤ bits.length) (hb : bits.length ≤ 1000000000000) (ht : ∀ t ∈ taps, 1 ≤ t ∧ t ≤ 1000000000000) (hn : taps.length ≤ 35184372088832) (hk : taps.length < k) :
    spec_l3Next.f k bits taps at_ = some (X taps (fun t => sAt bits (at_ - t))) := by
  unfold spec_l3Next.f
  have := next_loop bits taps at_ h0 h1 hb ht hn taps.length k false 0 (by omega) hk
  simpa using this

/-! tapped: the next bit by taps, in the program -/
theorem tapped_key (o b : Bool) (F : Bool → Option Bool) : F (o != b) = if b = true then F (!o) else F o := by cases o <;> cases b <;> rfl
theorem tapped_l0_eq (k : Nat) : ∀ bits at_ o xs n i, impl_tapped.l0 k bits at_ o xs n i = spec_l3Next.l0 k bits at_ o xs n i := by
  induction k with
  | zero => intros; rfl
  | succ k ih =>
    intro bits at_ o xs n i
    have key := tapped_key o (rdOf false bits (wrap64 (at_ - rd xs i))) (fun z => spec_l3Next.l0 k bits at_ z xs n (wrap64 (i + 1)))
    simp only [impl_tapped.l0, spec_l3Next.l0, ih, ge_iff_le, key]
theorem tapped_eq (k : Nat) (taps : List Int) (bits : List Bool) (at_ : Int) : impl_tapped.f k taps bits at_ = spec_l3Next.f k bits taps at_ := by
  simp only [impl_tapped.f, spec_l3Next.f, tapped_l0_eq]

/-! top: the greatest tap, in both texts -/
def topTap (xs : List Int) : Int := xs.getLast?.getD 0
theorem spec_top (xs : List Int) (hn : xs.length ≤ 35184372088832) : spec_l3Top.f xs = some (topTap xs) := by
  unfold spec_l3Top.f
  rcases List.eq_nil_or_concat xs with rfl | ⟨l, x, rfl⟩
  · rfl
  · rw [List.concat_eq_append] at *
    have hl : (l ++ [x]).length = l.length + 1 := by simp
    have e : wrap64 (((l ++ [x]).length : Int) - 1) = ((l.length : Nat) : Int) := by rw [wr (by omega) (by omega)]; omega
    rw [if_neg (by omega), e, if_pos (by omega), if_pos (by omega), rd_at _ l.length (by omega)]
    simp [topTap]
theorem impl_top (xs : List Int) : impl_greatest.f xs = spec_l3Top.f xs := rfl

/-! shortest: the shortest register, in both texts: one walk of Berlekamp's and Massey's way -/
theorem ris_len (b : Int) : ∀ {l : List Int} {a : Int}, Ris l → a ≤ b + 1 → (∀ x ∈ l, a ≤ x ∧ x ≤ b) → (l.length : Int) ≤ b + 1 - a
  | [], a, _, h, _ => by simp; omega
  | x :: l, a, hr, h, hm => by
    obtain ⟨h1, h2⟩ := List.pairwise_cons.1 hr
    have hx := hm x List.mem_cons_self
    have := ris_len b (l := l) (a := x + 1) h2 (by omega) (fun y hy => by have := h1 y hy; have := hm y (List.mem_cons_of_mem _ hy); omega)
    rw [List.length_cons]; omega
theorem X_filter_ne {l : List Int} (h : l.Nodup) (t : Int) (ht : t ∈ l) (f : Int → Bool) : X (l.filter (fun x => x != t)) f = (X l f ^^ f t) := by
  induction l with
  | nil => cases ht
  | cons y l ih =>
    obtain ⟨h1, h2⟩ := List.nodup_cons.1 h
    rw [List.filter_cons]
    by_cases e : y = t
    · subst e
      rw [if_neg (by simp), List.filter_eq_self.2 (fun x hx => by simp; rintro rfl; exact h1 hx)]
      simp only [X]
      cases f y <;> cases X l f <;> rfl
    · have ht' : t ∈ l := by
        rcases List.mem_cons.1 ht with h | h
        · exact absurd h.symm e
        · exact h
      rw [if_pos (by simpa using e)]
      simp only [X]
      rw [ih h2 ht']
      cases f y <;> cases X l f <;> cases f t <;> rfl
theorem X_turn {l : List Int} (h : Ris l) (t : Int) (f : Int → Bool) : X (turnV l t) f = (X l f ^^ f t) := by
  unfold turnV
  by_cases hc : t ∈ l
  · rw [if_pos (by simpa using hc)]; exact X_filter_ne (ris_nodup h) t hc f
  · rw [if_neg (by simpa using hc)]
    unfold putV
    have e : X l f = (X (l.takeWhile (fun x => decide (x < t))) f ^^ X (l.dropWhile (fun x => decide (x < t))) f) := by
      rw [← X_append, List.takeWhile_append_dropWhile]
    rw [X_append, e]
    simp only [X]
    cases X (l.takeWhile (fun x => decide (x < t))) f <;> cases X (l.dropWhile (fun x => decide (x < t))) f <;> cases f t <;> rfl
theorem X_turns (ts : List Int) : ∀ (l : List Int) (f : Int → Bool), Ris l → X (ts.foldl turnV l) f = (X l f ^^ X ts f) := by
  induction ts with
  | nil => intro l f _; simp [X]
  | cons t ts ih =>
    intro l f h
    rw [List.foldl_cons, ih _ f (turn_ris h t), X_turn h]
    simp only [X]
    cases X l f <;> cases f t <;> cases X ts f <;> rfl
/-- The old register's taps, moved. -/
def moved (B : List Int) (m : Int) : List Int := (0 :: B).map (fun t => t + m)
theorem moved_cons (B : List Int) (m : Int) : moved B m = m :: B.map (fun t => t + m) := by
  unfold moved; rw [List.map_cons, Int.zero_add]
theorem moved_nodup {B : List Int} (h : Ris B) (h1 : ∀ t ∈ B, 1 ≤ t) (m : Int) : (moved B m).Nodup := by
  have hr : Ris (0 :: B) := List.pairwise_cons.2 ⟨fun x hx => by have := h1 x hx; omega, h⟩
  have : Ris (moved B m) := List.pairwise_map.2 (hr.imp (fun h => by omega))
  exact ris_nodup this
theorem turned_bd {lo hi : Int} : ∀ (ts l : List Int), (∀ t ∈ ts, lo ≤ t ∧ t ≤ hi) → (∀ t ∈ l, lo ≤ t ∧ t ≤ hi) → ∀ t ∈ ts.foldl turnV l, lo ≤ t ∧ t ≤ hi
  | [], l, _, h, t, ht => h t ht
  | u :: ts, l, h1, h2, t, ht => by
    refine turned_bd ts (turnV l u) (fun t ht => h1 t (List.mem_cons_of_mem _ ht)) (fun t ht => ?_) t ht
    rcases (mem_turn l u t).1 ht with h | h
    · exact h2 t h.1
    · rw [h.2]; exact h1 u List.mem_cons_self
/-- The reference turns the old register's taps, one by one. -/
theorem spec_inner (bits : List Bool) (B old : List Int) (L m n len : Int) (hB : ∀ t ∈ B, 1 ≤ t ∧ t ≤ 100) (hm : 1 ≤ m ∧ m ≤ 100) (hn : B.length ≤ 200) (d : Nat) :
    ∀ (K k : Nat) (j : Nat) (T : List Int), K = k + d + 1 → j + d = B.length → 300 ≤ k → Ris T → (∀ t ∈ T, 1 ≤ t ∧ t ≤ 200) →
      spec_ShortestTaps.l1 K bits T B L m n old len n B (B.length : Int) (j : Int) =
        (if (wrap64 (2 * L)) ≤ n then spec_ShortestTaps.l0 k bits (((B.drop j).map (fun t => t + m)).foldl turnV T) old (wrap64 ((wrap64 (n + 1)) - L)) 1 len (wrap64 (n + 1))
          else spec_ShortestTaps.l0 k bits (((B.drop j).map (fun t => t + m)).foldl turnV T) B L (wrap64 (m + 1)) len (wrap64 (n + 1))) := by
  induction d with
  | zero =>
    intro K k j T hK hd hk hT hb
    subst hK
    simp only [spec_ShortestTaps.l1]
    rw [if_neg (by omega), List.drop_of_length_le (by omega)]
    rfl
  | succ d ih =>
    intro K k j T hK hd hk hT hb
    obtain ⟨K, rfl⟩ : ∃ m, K = m + 1 := ⟨K - 1, by omega⟩
    have hj : j < B.length := by omega
    have g1 : (j : Int) < (B.length : Int) := by omega
    have g2 : (0 : Int) ≤ (j : Int) := by omega
    have hx := hB B[j] (List.getElem_mem hj)
    have hl := ris_len 200 hT (by omega) hb
    simp only [spec_ShortestTaps.l1]
    rw [if_pos g1, if_pos g2, if_pos g1, rd_at B j hj, wr (x := B[j] + m) (by omega) (by omega), spec_turn T _ hT (by omega) (by omega), Option.bind_some, wr_succ j (by omega),
      ih K k (j + 1) (turnV T (B[j] + m)) (by omega) (by omega) hk (turn_ris hT _) (fun t ht => by
        rcases (mem_turn T (B[j] + m) t).1 ht with h | h
        · exact hb t h.1
        · omega), List.drop_eq_getElem_cons hj, List.map_cons, List.foldl_cons]
/-- The program lists them first. -/
theorem impl_inner (bits bits2 : List Bool) (T B : List Int) (L m n len : Int) (hB : ∀ t ∈ B, 0 ≤ t ∧ t ≤ 100) (hm : 1 ≤ m ∧ m ≤ 100) (hn : B.length ≤ 200) (hT : T.length ≤ 200) (d : Nat) :
    ∀ (K k : Nat) (j : Nat) (out : List Int), K = k + d + 1 → j + d = B.length → 1500 ≤ k → out.length ≤ j →
      impl_ShortestTaps.l1 K bits T B L m n out bits2 len n B (B.length : Int) (j : Int) =
        (if (wrap64 (2 * L)) > n then impl_ShortestTaps.l0 k bits (mergedV T (out ++ (B.drop j).map (fun t => t + m))) B L (wrap64 (m + 1)) bits2 len (wrap64 (n + 1))
          else impl_ShortestTaps.l0 k bits (mergedV T (out ++ (B.drop j).map (fun t => t + m))) (0 :: T) (wrap64 ((wrap64 (n + 1)) - L)) 1 bits2 len (wrap64 (n + 1))) := by
  induction d with
  | zero =>
    intro K k j out hK hd hk ho
    subst hK
    simp only [impl_ShortestTaps.l1]
    rw [if_neg (by omega), List.drop_of_length_le (by omega), impl_merged_eq T out (by omega) (by omega) (by omega), Option.bind_some, Option.bind_some, if_pos (show ([0] : List Int).length + T.length < 17592186044416 by simp; omega)]
    simp
  | succ d ih =>
    intro K k j out hK hd hk ho
    obtain ⟨K, rfl⟩ : ∃ m, K = m + 1 := ⟨K - 1, by omega⟩
    have hj : j < B.length := by omega
    have g1 : (j : Int) < (B.length : Int) := by omega
    have g2 : (0 : Int) ≤ (j : Int) := by omega
    have hx := hB B[j] (List.getElem_mem hj)
    simp only [impl_ShortestTaps.l1]
    rw [if_pos g1, if_pos g2, if_pos g1, rd_at B j hj, wr (x := B[j] + m) (by omega) (by omega), if_pos (by omega), wr_succ j (by omega),
      ih K k (j + 1) (out ++ [B[j] + m]) (by omega) (by omega) hk (by simp; omega), List.drop_eq_getElem_cons hj, List.map_cons, List.append_assoc, List.singleton_append]
/-- What both hand back. -/
def shortEnd (T : List Int) (L : Int) : List Int × Int × Bool := if topTap T > 12 then ([], 0, false) else (T, L, true)
theorem short_loop (bits : List Bool) (hb : bits.length ≤ 40) (d : Nat) : ∀ (n : Nat) (T B : List Int) (L m : Int), n + d = bits.length → BM (sAt bits) (n : Int) T B L m → Ris T → Ris B →
    ∃ (T' B' : List Int) (L' m' : Int), BM (sAt bits) (bits.length : Int) T' B' L' m' ∧ Ris T' ∧
      ∀ k, 2000 + 200 * d ≤ k → spec_ShortestTaps.l0 k bits T B L m (bits.length : Int) (n : Int) = some (shortEnd T' L') ∧
        impl_ShortestTaps.l0 k bits T (0 :: B) L m bits (bits.length : Int) (n : Int) = some (shortEnd T' L') := by
  induction d with
  | zero =>
    intro n T B L m hd I hT hB
    have e : (n : Int) = (bits.length : Int) := by omega
    have l0 := I.l0
    have ln := I.ln
    have hl := ris_len L hT (by omega) I.hT
    refine ⟨T, B, L, m, e ▸ I, hT, fun k hk => ?_⟩
    obtain ⟨k, rfl⟩ : ∃ j, k = j + 1 := ⟨k - 1, by omega⟩
    have g : ¬ (n : Int) < (bits.length : Int) := by omega
    simp only [spec_ShortestTaps.l0, impl_ShortestTaps.l0, if_neg g, impl_top, spec_top T (by omega), Option.bind_some, shortEnd]
    by_cases ht : topTap T > 12
    · simp only [if_pos ht]; exact ⟨trivial, trivial⟩
    · have g3 : ([] : List Int).length + T.length < 17592186044416 := by simp; omega
      simp only [if_neg ht, if_pos g3, List.nil_append]; exact ⟨trivial, trivial⟩
  | succ d ih =>
    intro n T B L m hd I hT hB
    have l0 := I.l0
    have ln := I.ln
    have m1 := I.m1
    have b0 := I.b0
    have mn := I.mn
    have hn : n < bits.length := by omega
    have g1 : (n : Int) < (bits.length : Int) := by omega
    have g2 : (0 : Int) ≤ (n : Int) := by omega
    have hl := ris_len L hT (by omega) I.hT
    have hl2 := ris_len _ hB (by omega) I.hB
    have hTb : ∀ t ∈ T, 1 ≤ t ∧ t ≤ 100 := fun t ht => by have := I.hT t ht; omega
    have hBb : ∀ t ∈ B, 1 ≤ t ∧ t ≤ 100 := fun t ht => by have := I.hB t ht; omega
    have hnx : ∀ k, 100 ≤ k → spec_l3Next.f k bits T (n : Int) = some (X T (fun t => sAt bits ((n : Int) - t))) := fun k hk =>
      spec_next bits T n g2 (by omega) (by omega) (fun t ht => by have := hTb t ht; omega) (by omega) (by omega)
    have hD := Dis_eq (sAt bits) T (n : Int)
    have e1 : wrap64 ((n : Int) + 1) = ((n + 1 : Nat) : Int) := wr_succ n (by omega)
    cases hdis : Dis (sAt bits) T (n : Int)
    · obtain ⟨T', B', L', m', I', hT', hr⟩ := ih (n + 1) T B L (m + 1) (by omega) (by have := I.alike hdis; rwa [← Int.natCast_succ] at this) hT hB
      refine ⟨T', B', L', m', I', hT', fun k hk => ?_⟩
      obtain ⟨k, rfl⟩ : ∃ j, k = j + 1 := ⟨k - 1, by omega⟩
      rw [hdis] at hD
      have eq : sAt bits (n : Int) = X T (fun t => sAt bits ((n : Int) - t)) := by
        have hq : ∀ a b : Bool, false = (a ^^ b) → a = b := by decide
        exact hq _ _ hD
      obtain ⟨r1, r2⟩ := hr k (by omega)
      simp only [spec_ShortestTaps.l0, impl_ShortestTaps.l0, if_pos g1, if_pos g2, tapped_eq, hnx k (by omega), Option.bind_some, sAt_rd g2, eq, beq_self_eq_true, if_true, e1, wr (x := m + 1) (by omega) (by omega)]
      exact ⟨r1, r2⟩
    · rw [hdis] at hD
      have hne : ∀ (a b : Bool), true = (a ^^ b) → ¬ (a == b) = true ∧ ¬ (b == a) = true := by decide
      obtain ⟨q1, q2⟩ := hne _ _ hD
      have hmd : ∀ t ∈ moved B m, 1 ≤ t ∧ t ≤ 200 := by
        intro t ht
        rw [moved_cons] at ht
        rcases List.mem_cons.1 ht with rfl | ht
        · omega
        · obtain ⟨b, hb1, rfl⟩ := List.mem_map.1 ht
          have := hBb b hb1; omega
      have hnd := moved_nodup hB (fun t ht => (hBb t ht).1) m
      obtain ⟨T', hT'⟩ : ∃ T', T' = (moved B m).foldl turnV T := ⟨_, rfl⟩
      have hrT : Ris T' := by rw [hT']; exact (turns_mem _ T 0 hnd hT).1
      have hmg : mergedV T (moved B m) = T' := by rw [hT']; exact (turns_merged T _ hT hnd).symm
      have hX : ∀ f : Int → Bool, X T' f = (X T f ^^ X (0 :: B) (fun t => f (t + m))) := by
        intro f
        rw [hT', X_turns _ T f hT]
        unfold moved
        rw [X_map]
      have hM : ∀ t ∈ T', t ∈ T ∨ t = m ∨ ∃ b ∈ B, t = b + m := by
        intro t ht
        rw [hT'] at ht
        rcases (turns_mem _ T t hnd hT).2.1 ht with h | h
        · exact .inl h.1
        · right
          have h := h.1
          rw [moved_cons] at h
          rcases List.mem_cons.1 h with h | h
          · exact .inl h
          · obtain ⟨b, hb1, rfl⟩ := List.mem_map.1 h
            exact .inr ⟨b, hb1, rfl⟩
      obtain ⟨s1, s2⟩ := I.unlike hdis hX hM
      have e2 : wrap64 (2 * L) = L * 2 := by rw [wr (by omega) (by omega)]; omega
      have sp : ∀ k, 300 ≤ k → spec_ShortestTaps.l1 (k + B.length + 1) bits (turnV T m) B L m (n : Int) T (bits.length : Int) (n : Int) B (B.length : Int) 0 = _ := fun k hk =>
        spec_inner bits B T L m n bits.length hBb (by omega) (by omega) B.length _ k 0 (turnV T m) rfl (by omega) hk (turn_ris hT m) (fun t ht => by
          rcases (mem_turn T m t).1 ht with h | h
          · have := hTb t h.1; omega
          · omega)
      have im : ∀ k, 1500 ≤ k → impl_ShortestTaps.l1 (k + (0 :: B).length + 1) bits T (0 :: B) L m (n : Int) [] bits (bits.length : Int) (n : Int) (0 :: B) ((0 :: B).length : Int) 0 = _ := fun k hk =>
        impl_inner bits bits T (0 :: B) L m n bits.length (fun t ht => by
          rcases List.mem_cons.1 ht with rfl | ht
          · omega
          · have := hBb t ht; omega) (by omega) (by simp; omega) (by omega) (0 :: B).length _ k 0 [] rfl (by omega) hk (by simp)
      have ef : ((B.drop 0).map (fun t => t + m)).foldl turnV (turnV T m) = T' := by
        rw [hT', moved_cons, List.foldl_cons, List.drop_zero]
      have eg : mergedV T ([] ++ ((0 :: B).drop 0).map (fun t => t + m)) = T' := by
        rw [List.nil_append, List.drop_zero]; exact hmg
      rw [ef, e2] at sp
      rw [eg, e2] at im
      have st : ∀ k, 400 + B.length ≤ k → spec_ShortestTaps.l0 (k + 1) bits T B L m (bits.length : Int) (n : Int) = spec_ShortestTaps.l1 k bits (turnV T m) B L m (n : Int) T (bits.length : Int) (n : Int) B (B.length : Int) 0 := by
        intro k hk
        simp only [spec_ShortestTaps.l0, if_pos g1, if_pos g2, hnx k (by omega), Option.bind_some, sAt_rd g2]
        rw [if_neg q1, spec_turn T m hT (by omega) (by omega), Option.bind_some]
      have it : ∀ k, 400 + B.length ≤ k → impl_ShortestTaps.l0 (k + 1) bits T (0 :: B) L m bits (bits.length : Int) (n : Int) = impl_ShortestTaps.l1 k bits T (0 :: B) L m (n : Int) [] bits (bits.length : Int) (n : Int) (0 :: B) ((0 :: B).length : Int) 0 := by
        intro k hk
        simp only [impl_ShortestTaps.l0, if_pos g1, if_pos g2, tapped_eq, hnx k (by omega), Option.bind_some, sAt_rd g2]
        rw [if_neg q2]
      have hlc : (0 :: B).length = B.length + 1 := rfl
      by_cases hL : L * 2 > (n : Int)
      · obtain ⟨T2, B2, L2, m2, I2, hT2, hr⟩ := ih (n + 1) T' B L (m + 1) (by omega) (by have := s1 hL; rwa [← Int.natCast_succ] at this) hrT hB
        refine ⟨T2, B2, L2, m2, I2, hT2, fun k hk => ?_⟩
        have hL' : ¬ L * 2 ≤ (n : Int) := by omega
        obtain ⟨a, rfl⟩ : ∃ a, k = (a + B.length + 1) + 1 := ⟨k - B.length - 2, by omega⟩
        obtain ⟨b, hb'⟩ : ∃ b, a + B.length + 1 = b + (0 :: B).length + 1 := ⟨a - 1, by rw [hlc]; omega⟩
        rw [st _ (by omega), sp a (by omega), if_neg hL', it _ (by omega), hb', im b (by rw [hlc] at hb'; omega), if_pos hL, e1, wr (x := m + 1) (by omega) (by omega)]
        exact ⟨(hr a (by omega)).1, (hr b (by rw [hlc] at hb'; omega)).2⟩
      · obtain ⟨T2, B2, L2, m2, I2, hT2, hr⟩ := ih (n + 1) T' T ((n : Int) + 1 - L) 1 (by omega) (by have := s2 hL; rwa [← Int.natCast_succ] at this) hrT hT
        refine ⟨T2, B2, L2, m2, I2, hT2, fun k hk => ?_⟩
        have hL' : L * 2 ≤ (n : Int) := by omega
        have e3 : wrap64 (((n + 1 : Nat) : Int) - L) = (n : Int) + 1 - L := by rw [wr (by omega) (by omega)]; omega
        obtain ⟨a, rfl⟩ : ∃ a, k = (a + B.length + 1) + 1 := ⟨k - B.length - 2, by omega⟩
        obtain ⟨b, hb'⟩ : ∃ b, a + B.length + 1 = b + (0 :: B).length + 1 := ⟨a - 1, by rw [hlc]; omega⟩
        rw [st _ (by omega), sp a (by omega), if_pos hL', it _ (by omega), hb', im b (by rw [hlc] at hb'; omega), if_neg hL, e1, e3]
        exact ⟨(hr a (by omega)).1, (hr b (by rw [hlc] at hb'; omega)).2⟩
/-- What both texts answer: nothing for too many bits; else a register as Berlekamp and Massey find it. -/
theorem short_eq (bits : List Bool) : ∃ r : List Int × Int × Bool, (∀ k, 20000 ≤ k → spec_ShortestTaps.f k bits = some r ∧ impl_ShortestTaps.f k bits = some r) ∧
    (r = ([], 0, false) ∨ bits.length ≤ 40 ∧ topTap r.1 ≤ 12 ∧ r.2.2 = true ∧ Ris r.1 ∧ ∃ B m, BM (sAt bits) (bits.length : Int) r.1 B r.2.1 m) := by
  by_cases hb : (bits.length : Int) > 40
  · refine ⟨([], 0, false), fun k hk => ?_, .inl rfl⟩
    have h1 : ¬ (bits.length : Int) ≤ 40 := by omega
    unfold spec_ShortestTaps.f impl_ShortestTaps.f spec_l3Long.f
    rw [if_pos hb, Option.bind_some, if_neg (by simpa using h1)]
    exact ⟨rfl, rfl⟩
  · obtain ⟨T, B, L, m, I, hT, hr⟩ := short_loop bits (by omega) bits.length 0 [] [] 0 1 (by omega) (BM.start _) .nil .nil
    refine ⟨shortEnd T L, fun k hk => ?_, ?_⟩
    · have h1 : (bits.length : Int) ≤ 40 := by omega
      obtain ⟨r1, r2⟩ := hr k (by omega)
      unfold spec_ShortestTaps.f impl_ShortestTaps.f spec_l3Long.f
      rw [if_neg hb, Option.bind_some, if_pos (by simpa using h1)]
      exact ⟨r1, r2⟩
    · unfold shortEnd
      by_cases ht : topTap T > 12
      · rw [if_pos ht]; exact .inl rfl
      · rw [if_neg ht]; exact .inr ⟨by omega, by show topTap T ≤ 12; omega, rfl, hT, B, m, I⟩
theorem short_len {bits : List Bool} {r : List Int × Int × Bool} (h : r = ([], 0, false) ∨ bits.length ≤ 40 ∧ topTap r.1 ≤ 12 ∧ r.2.2 = true ∧ Ris r.1 ∧ ∃ B m, BM (sAt bits) (bits.length : Int) r.1 B r.2.1 m) : r.1.length ≤ 40 := by
  rcases h with rfl | ⟨h1, _, _, h2, B, m, I⟩
  · simp
  · have l0 := I.l0
    have ln := I.ln
    have := ris_len r.2.1 h2 (by omega) I.hT
    omega

theorem FnExactShortestTaps : ∀ (l0 : List Bool), l0.length ≤ maxLen → ∃ k, laws_FnExactShortestTaps.f k l0 = some true := by
  intro a _
  refine rounds_of (a.length + 30000) fun k hk => ?_
  obtain ⟨k, rfl⟩ : ∃ j, k = j + 3 := ⟨k - 3, by omega⟩
  unfold laws_FnExactShortestTaps.f
  by_cases h : (a.length : Int) > 1048576
  · rw [if_pos h]
  · rw [if_neg h]
    obtain ⟨r, hr, hl⟩ := short_eq a
    have hl := short_len hl
    obtain ⟨za, za2⟩ := markBoolS_some a (by omega) 1 (by omega) (by omega) (by omega : a.length < k + 2)
    obtain ⟨zo, zo1, zo2, zo3⟩ := markIntS_held r.1 (by omega) 1 (by omega) (by omega)
    have q1 : ¬ (1 + (a.length : Int) < 0) := by omega
    have q2 : ¬ (1 + (r.1.length : Int) < 0) := by omega
    obtain ⟨s3, i3⟩ := hr (k + 3) (by omega)
    obtain ⟨_, i1⟩ := hr (k + 1) (by omega)
    simp only [toBoolS_eq (k := k + 3) a (by omega) (by omega), s3, i3, eqIntS_self (k := k + 3) r.1 (by omega) (by omega), Option.bind_some, bne_self_eq_false, if_true]
    simp only [laws_FnExactShortestTaps.j0, toBoolS_eq (k := k + 2) a (by omega) (by omega), eqBoolS_self (k := k + 2) a (by omega) (by omega), eqIntS_self (k := k + 2) r.1 (by omega) (by omega), za2, Option.bind_some, if_true, if_neg q1, bne_self_eq_false, Bool.false_eq_true, if_false]
    simp only [laws_FnExactShortestTaps.j1, toBoolS_eq (k := k + 1) a (by omega) (by omega), i1, eqIntS_self (k := k + 1) r.1 (by omega) (by omega), zo2 (k + 1) (by omega), zo3 (k + 1) (by omega), Option.bind_some, if_true, if_neg q2, bne_self_eq_false, Bool.false_eq_true, if_false]
    simp only [laws_FnExactShortestTaps.j2, zo3 k (by omega), Option.bind_some, if_true, if_neg q2, Bool.false_eq_true, if_false]

end Go.Proofs.Yticchbgbbnpgoaa.Pure
