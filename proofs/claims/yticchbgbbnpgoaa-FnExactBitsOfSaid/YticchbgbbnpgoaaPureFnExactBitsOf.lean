/- BitsOf answers as the reference does and owns its answer, for every text (the plain half). -/
import Derived.Test.YticchbgbbnpgoaaPFnExactBitsOfx
set_option linter.unusedVariables false
set_option linter.unusedSimpArgs false
namespace Go.Proofs.Yticchbgbbnpgoaa.Pure
open Go.RowKit Go.Proofs.Yticchbgbbnpgoaa.PFnExactBitsOf Go.Proofs.YticchbgbbnpgoaaW.PrintWords Go.Proofs.YticchbgbbnpgoaaW.PrintLast Go.Proofs.YticchbgbbnpgoaaW.PrintMore

/-! base: sums of int that stay in range; `tmod` and `tdiv` of what is not negative -/
theorem wr {x : Int} (h1 : -9223372036854775808 ≤ x) (h2 : x ≤ 9223372036854775807) : wrap64 x = x := by
  unfold wrap64; omega
theorem tmod_pos {a b : Int} (h : 0 ≤ a) : Int.tmod a b = a % b := Int.tmod_eq_emod_of_nonneg h
theorem tdiv_pos {a b : Int} (h : 0 ≤ a) : Int.tdiv a b = a / b := Int.tdiv_eq_ediv_of_nonneg h
theorem rounds_of {α : Type} {g : Nat → Option α} {r : α} (N : Nat) (h : ∀ k, N < k → g k = some r) : ∃ k, g k = some r := ⟨N + 1, h _ (Nat.lt_succ_self N)⟩

/-! lists: reading a list at a place; a copy of a list; a list is like itself -/
theorem rd_at (xs : List Int) (i : Nat) (h : i < xs.length) : rd xs (i : Int) = xs[i] := by
  simp [rd, List.getD_eq_getElem?_getD, h]
theorem wr_succ (i : Nat) (h : i < 9000000000000000000) : wrap64 ((i : Int) + 1) = ((i + 1 : Nat) : Int) := by
  rw [wr (by omega) (by omega)]; omega
theorem same_list {α : Type} {xs ys : List α} (hl : ys.length = xs.length) (h : ∀ j, j < xs.length → ys[j]? = xs[j]?) : ys = xs := by
  apply List.ext_getElem?
  intro j
  by_cases hj : j < xs.length
  · exact h j hj
  · rw [List.getElem?_eq_none (by omega), List.getElem?_eq_none (by omega)]
theorem set_upto {α : Type} {xs ys : List α} {i : Nat} (hl : ys.length = xs.length) (hi : i < xs.length) (h : ∀ j, j < i → ys[j]? = xs[j]?) :
    ∀ j, j < i + 1 → (ys.set i xs[i])[j]? = xs[j]? := by
  intro j hj
  rw [List.getElem?_set]
  by_cases e : i = j
  · subst e; rw [if_pos rfl, if_pos (by omega), List.getElem?_eq_getElem hi]
  · rw [if_neg e]; exact h j (by omega)

/-! rdb: a bool at a place -/
theorem rdb_at (xs : List Bool) (i : Nat) (h : i < xs.length) : rdOf false xs (i : Int) = xs[i] := by
  simp [rdOf, List.getD_eq_getElem?_getD, h]

/-! eqbools: laws.eqBoolS says that a list is itself -/
theorem eqBoolS_loop (xs : List Bool) (hn : xs.length ≤ 35184372088832) (d : Nat) : ∀ (k : Nat) (i : Nat), i + d = xs.length → d < k → laws_eqBoolS.l0 k xs xs (i : Int) = some true := by
  induction d with
  | zero =>
    intro k i hd hk
    obtain ⟨k, rfl⟩ : ∃ m, k = m + 1 := ⟨k - 1, by omega⟩
    simp only [laws_eqBoolS.l0]
    rw [if_neg (by omega)]
  | succ d ih =>
    intro k i hd hk
    obtain ⟨k, rfl⟩ : ∃ m, k = m + 1 := ⟨k - 1, by omega⟩
    have h1 : (i : Int) < (xs.length : Int) := by omega
    have h2 : (0 : Int) ≤ (i : Int) := by omega
    simp only [laws_eqBoolS.l0, if_pos h1, if_pos h2, bne_self_eq_false, wr_succ i (by omega)]
    exact ih k (i + 1) (by omega) (by omega)
theorem eqBoolS_self {k : Nat} (xs : List Bool) (hn : xs.length ≤ 35184372088832) (hk : xs.length < k) : laws_eqBoolS.f k xs xs = some true := by
  unfold laws_eqBoolS.f
  rw [if_pos rfl]
  exact eqBoolS_loop xs hn xs.length k 0 (by omega) hk

/-! markboolonly: laws.markBoolS writes marks -/
theorem markBoolS_loop (n : Nat) (hn : n ≤ 35184372088832) (c : Int) (hc : 0 ≤ c) (hc' : c ≤ 1000000000000000000) (d : Nat) : ∀ (k : Nat) (ys : List Bool) (i : Nat), ys.length = n → i + d = n → d < k →
    (∀ j, j < i → ys[j]? = some (Int.tmod (c + j) 3 == 0)) →
    ∃ zs, zs.length = n ∧ laws_markBoolS.l0 k ys (c + i) (i : Int) = some (c + n, zs) ∧ ∀ j, j < n → zs[j]? = some (Int.tmod (c + j) 3 == 0) := by
  induction d with
  | zero =>
    intro k ys i hl hd hk h
    obtain ⟨k, rfl⟩ : ∃ m, k = m + 1 := ⟨k - 1, by omega⟩
    obtain rfl : i = n := by omega
    refine ⟨ys, hl, ?_, h⟩
    simp only [laws_markBoolS.l0]
    rw [if_neg (by omega)]
  | succ d ih =>
    intro k ys i hl hd hk h
    obtain ⟨k, rfl⟩ : ∃ m, k = m + 1 := ⟨k - 1, by omega⟩
    have h1 : (i : Int) < (ys.length : Int) := by omega
    have h2 : (0 : Int) ≤ (i : Int) := by omega
    have e : wrap64 (c + (i : Int) + 1) = c + ((i + 1 : Nat) : Int) := by rw [wr (by omega) (by omega)]; omega
    obtain ⟨zs, z1, z2, z3⟩ := ih k (ys.set i (Int.tmod (c + i) 3 == 0)) (i + 1) (by simpa using hl) (by omega) (by omega) (by
      intro j hj
      rw [List.getElem?_set]
      by_cases e : i = j
      · subst e; rw [if_pos rfl, if_pos (by omega)]
      · rw [if_neg e]; exact h j (by omega))
    refine ⟨zs, z1, ?_, z3⟩
    simp only [laws_markBoolS.l0]
    rw [if_pos h1, if_pos h2, e, wr_succ i (by omega), Int.toNat_natCast]
    exact z2
theorem markBoolS_some (xs : List Bool) (hn : xs.length ≤ 35184372088832) (c : Int) (hc : 0 ≤ c) (hc' : c ≤ 1000000000000000000) {k : Nat} (hk : xs.length < k) : ∃ zs, laws_markBoolS.f k xs c = some (c + xs.length, zs) := by
  obtain ⟨zs, _, h, _⟩ := markBoolS_loop xs.length hn c hc hc' xs.length k xs 0 rfl (by omega) hk (fun j hj => by omega)
  exact ⟨zs, by simpa [laws_markBoolS.f] using h⟩

/-! markbools: laws.heldBoolS finds the marks -/
theorem heldBoolS_loop (zs : List Bool) (hn : zs.length ≤ 35184372088832) (c : Int) (hc : 0 ≤ c) (hc' : c ≤ 1000000000000000000) (hz : ∀ j, j < zs.length → zs[j]? = some (Int.tmod (c + j) 3 == 0)) (d : Nat) : ∀ (k : Nat) (i : Nat), i + d = zs.length → d < k →
    laws_heldBoolS.l0 k zs (c + i) (i : Int) = some (c + zs.length) := by
  induction d with
  | zero =>
    intro k i hd hk
    obtain ⟨k, rfl⟩ : ∃ m, k = m + 1 := ⟨k - 1, by omega⟩
    simp only [laws_heldBoolS.l0]
    rw [if_neg (by omega), show i = zs.length by omega]
  | succ d ih =>
    intro k i hd hk
    obtain ⟨k, rfl⟩ : ∃ m, k = m + 1 := ⟨k - 1, by omega⟩
    have hi : i < zs.length := by omega
    have h1 : (i : Int) < (zs.length : Int) := by omega
    have h2 : (0 : Int) ≤ (i : Int) := by omega
    have e : wrap64 (c + (i : Int) + 1) = c + ((i + 1 : Nat) : Int) := by rw [wr (by omega) (by omega)]; omega
    have hv : zs[i] = (Int.tmod (c + i) 3 == 0) := by
      have := hz i hi
      rw [List.getElem?_eq_getElem hi] at this
      exact Option.some.inj this
    simp only [laws_heldBoolS.l0]
    rw [if_pos h1, if_pos h2, rdb_at zs i hi, hv, bne_self_eq_false, if_neg (by simp), e, wr_succ i (by omega)]
    exact ih k (i + 1) (by omega) (by omega)
theorem markBoolS_held (xs : List Bool) (hn : xs.length ≤ 35184372088832) (c : Int) (hc : 0 ≤ c) (hc' : c ≤ 1000000000000000000) :
    ∃ zs, zs.length = xs.length ∧ (∀ k, xs.length < k → laws_markBoolS.f k xs c = some (c + xs.length, zs)) ∧ (∀ k, xs.length < k → laws_heldBoolS.f k zs c = some (c + xs.length)) := by
  have all : ∀ k, xs.length < k → ∃ zs, zs.length = xs.length ∧ laws_markBoolS.f k xs c = some (c + xs.length, zs) ∧ ∀ j, j < xs.length → zs[j]? = some (Int.tmod (c + j) 3 == 0) := by
    intro k hk
    have := markBoolS_loop xs.length hn c hc hc' xs.length k xs 0 rfl (by omega) hk (fun j hj => by omega)
    simpa [laws_markBoolS.f] using this
  obtain ⟨zs, z1, _, z3⟩ := all (xs.length + 1) (by omega)
  refine ⟨zs, z1, fun k hk => ?_, fun k hk => ?_⟩
  · obtain ⟨us, u1, u2, u3⟩ := all k hk
    rw [u2, show us = zs from same_list (by omega) (fun j hj => by rw [u3 j (by omega), z3 j (by omega)])]
  · have := heldBoolS_loop zs (by omega) c hc hc' (fun j hj => z3 j (by omega)) zs.length k 0 (by omega) (by omega)
    simpa [laws_heldBoolS.f, z1] using this

/-! bitsof: BitsOf, in both texts -/
theorem wrap_u64 {x : Int} (h : 0 ≤ x) (h' : x ≤ 9223372036854775807) : IntKind.u64.wrap x = x := by
  simp [IntKind.wrap, IntKind.bits, IntKind.signed]; omega
def bitB (s : ByteArray) (j : Nat) : Bool := Go.bits .and .u8 (shr .u8 (bt s ((j / 8 : Nat) : Int)) (7 - ((j % 8 : Nat) : Int))) 1 == 1
def bitsB (s : ByteArray) (n : Nat) : List Bool := (List.range n).map (bitB s)
theorem bitsB_succ (s : ByteArray) (n : Nat) : bitsB s (n + 1) = bitsB s n ++ [bitB s n] := by simp [bitsB, List.range_succ]
theorem bitsB_len (s : ByteArray) (n : Nat) : (bitsB s n).length = n := by simp [bitsB]
theorem impl_bits_loop (s : ByteArray) (hs : s.size ≤ 5) (d : Nat) : ∀ (k i : Nat), i + d = 8 * s.size → d < k →
    impl_BitsOf.l0 k s (bitsB s i) ((8 * s.size : Nat) : Int) (i : Int) = some (bitsB s (8 * s.size), true) := by
  induction d with
  | zero =>
    intro k i hd hk
    obtain ⟨k, rfl⟩ : ∃ m, k = m + 1 := ⟨k - 1, by omega⟩
    simp only [impl_BitsOf.l0]
    rw [if_neg (by omega), show i = 8 * s.size by omega]
  | succ d ih =>
    intro k i hd hk
    obtain ⟨k, rfl⟩ : ∃ m, k = m + 1 := ⟨k - 1, by omega⟩
    have h1 : (i : Int) < ((8 * s.size : Nat) : Int) := by omega
    have e1 : wrap64 (Int.tdiv (i : Int) 8) = ((i / 8 : Nat) : Int) := by rw [tdiv_pos (by omega), wr (by omega) (by omega)]; omega
    have e2 : wrap64 (7 - Int.tmod (i : Int) 8) = 7 - ((i % 8 : Nat) : Int) := by rw [tmod_pos (by omega), wr (by omega) (by omega)]; omega
    have h2 : (0 : Int) ≤ ((i / 8 : Nat) : Int) := by omega
    have h3 : ((i / 8 : Nat) : Int) < (s.size : Int) := by omega
    have h4 : (0 : Int) ≤ 7 - ((i % 8 : Nat) : Int) := by omega
    have h5 : (bitsB s i).length < 140737488355328 := by rw [bitsB_len]; omega
    have := ih k (i + 1) (by omega) (by omega)
    rw [bitsB_succ] at this
    simp only [impl_BitsOf.l0]
    rw [if_pos h1, e1, e2, if_pos h2, if_pos h3, if_pos h4, if_pos h5, wr_succ i (by omega)]
    exact this
theorem spec_bits_loop (s : ByteArray) (hs : s.size ≤ 5) (d : Nat) : ∀ (k i : Nat), i + d = s.size → 10 * d + 1 ≤ k →
    spec_BitsOf.l0 k s (bitsB s (8 * i)) (i : Int) = some (bitsB s (8 * s.size), true) := by
  induction d with
  | zero =>
    intro k i hd hk
    obtain ⟨k, rfl⟩ : ∃ m, k = m + 1 := ⟨k - 1, by omega⟩
    simp only [spec_BitsOf.l0]
    rw [if_neg (by omega), show i = s.size by omega]
  | succ d ih =>
    intro k i hd hk
    obtain ⟨k, rfl⟩ : ∃ m, k = m + 1 := ⟨k - 1, by omega⟩
    have h1 : (i : Int) < (s.size : Int) := by omega
    have inner : ∀ (r k : Nat), r ≤ 8 → 10 * d + 2 + r ≤ k → spec_BitsOf.l1 k s (bitsB s (8 * i + (8 - r))) (i : Int) ((r : Int) - 1) = some (bitsB s (8 * s.size), true) := by
      intro r
      induction r with
      | zero =>
        intro k hr hk
        obtain ⟨k, rfl⟩ : ∃ m, k = m + 1 := ⟨k - 1, by omega⟩
        simp only [spec_BitsOf.l1]
        have hz : ¬ ((0 : Nat) : Int) - 1 ≥ 0 := by omega
        rw [if_neg hz, wr_succ i (by omega), show 8 * i + (8 - 0) = 8 * (i + 1) by omega]
        exact ih k (i + 1) (by omega) (by omega)
      | succ r ihr =>
        intro k hr hk
        obtain ⟨k, rfl⟩ : ∃ m, k = m + 1 := ⟨k - 1, by omega⟩
        have e0 : ((r + 1 : Nat) : Int) - 1 = (r : Int) := by omega
        have h2 : (r : Int) ≥ 0 := by omega
        have h3 : (0 : Int) ≤ (i : Int) := by omega
        have e1 : IntKind.u64.wrap (r : Int) = (r : Int) := wrap_u64 (by omega) (by omega)
        have h4 : (0 : Int) ≤ (r : Int) := by omega
        have h5 : (bitsB s (8 * i + (8 - (r + 1)))).length < 140737488355328 := by rw [bitsB_len]; omega
        have e2 : wrap64 ((r : Int) - 1) = (r : Int) - 1 := wr (by omega) (by omega)
        have := ihr k (by omega) (by omega)
        rw [show 8 * i + (8 - r) = 8 * i + (8 - (r + 1)) + 1 by omega, bitsB_succ] at this
        have eb : bitB s (8 * i + (8 - (r + 1))) = (Go.bits .and .u8 (shr .u8 (bt s (i : Int)) (r : Int)) 1 == 1) := by
          unfold bitB
          rw [show (8 * i + (8 - (r + 1))) / 8 = i by omega, show 7 - (((8 * i + (8 - (r + 1))) % 8 : Nat) : Int) = (r : Int) by omega]
        rw [eb] at this
        simp only [spec_BitsOf.l1]
        rw [e0, if_pos h2, if_pos h3, if_pos h1, e1, if_pos h4, if_pos h5, e2]
        exact this
    simp only [spec_BitsOf.l0]
    rw [if_pos h1]
    have := inner 8 k (by omega) (by omega)
    rw [show 8 * i + (8 - 8) = 8 * i by omega] at this
    exact this
def bitsR (s : ByteArray) : List Bool × Bool := if s.size ≤ 5 then (bitsB s (8 * s.size), true) else ([], false)
theorem bitsR_len (s : ByteArray) : (bitsR s).1.length ≤ 40 := by
  unfold bitsR
  split
  · rename_i h; simp [bitsB]; omega
  · simp
theorem bits_of {k : Nat} (hk : 100 < k) (s : ByteArray) : spec_BitsOf.f k s = some (bitsR s) ∧ impl_BitsOf.f k s = some (bitsR s) := by
  unfold spec_BitsOf.f impl_BitsOf.f bitsR
  by_cases h : s.size ≤ 5
  · have h' : ¬ (s.size : Int) > 5 := by omega
    rw [if_neg h', if_neg h', if_pos h]
    have h1 := spec_bits_loop s h s.size k 0 (by omega) (by omega)
    have h2 := impl_bits_loop s h (8 * s.size) k 0 (by omega) (by omega)
    rw [show wrap64 (8 * (s.size : Int)) = ((8 * s.size : Nat) : Int) by rw [wr (by omega) (by omega)]; omega]
    exact ⟨h1, h2⟩
  · have h' : (s.size : Int) > 5 := by omega
    rw [if_pos h', if_pos h', if_neg h]
    exact ⟨rfl, rfl⟩

theorem FnExactBitsOf : laws_FnExactBitsOf.Pure := by
  intro s _
  refine rounds_of 200 fun k hk => ?_
  obtain ⟨k, rfl⟩ : ∃ j, k = j + 2 := ⟨k - 2, by omega⟩
  unfold laws_FnExactBitsOf.f
  by_cases h : (s.size : Int) > 1048576
  · rw [if_pos h]
  · rw [if_neg h]
    have hl := bitsR_len s
    obtain ⟨zo, zo1, zo2, zo3⟩ := markBoolS_held (bitsR s).1 (by omega) 1 (by omega) (by omega)
    have q2 : ¬ (1 + ((bitsR s).1.length : Int) < 0) := by omega
    simp only [bits_of (k := k + 2) (by omega) s, eqBoolS_self (k := k + 2) (bitsR s).1 (by omega) (by omega), Option.bind_some, bne_self_eq_false, if_true]
    simp only [laws_FnExactBitsOf.j0, bits_of (k := k + 1) (by omega) s, eqBoolS_self (k := k + 1) (bitsR s).1 (by omega) (by omega), zo2 (k + 1) (by omega), zo3 (k + 1) (by omega), Option.bind_some, if_true, if_neg q2, bne_self_eq_false, Bool.false_eq_true, if_false]
    simp only [laws_FnExactBitsOf.j1, zo3 k (by omega), Option.bind_some, if_true, if_neg q2, Bool.false_eq_true, if_false]

end Go.Proofs.Yticchbgbbnpgoaa.Pure
