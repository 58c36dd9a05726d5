/- TextOf answers as the reference does and leaves its argument alone, for every list (the plain half). -/
import Derived.Test.YticchbgbbnpgoaaPFnExactTextOfx
set_option linter.unusedVariables false
set_option linter.unusedSimpArgs false
namespace Go.Proofs.Yticchbgbbnpgoaa.Pure
open Go.RowKit Go.Proofs.Yticchbgbbnpgoaa.PFnExactTextOf Go.Proofs.YticchbgbbnpgoaaW.PrintWords Go.Proofs.YticchbgbbnpgoaaW.PrintLast Go.Proofs.YticchbgbbnpgoaaW.PrintMore

/-! base: sums of int that stay in range; `tmod` and `tdiv` of what is not negative -/
theorem wr {x : Int} (h1 : -9223372036854775808 ≤ x) (h2 : x ≤ 9223372036854775807) : wrap64 x = x := by
  unfold wrap64; omega
theorem tmod_pos {a b : Int} (h : 0 ≤ a) : Int.tmod a b = a % b := Int.tmod_eq_emod_of_nonneg h
theorem tdiv_pos {a b : Int} (h : 0 ≤ a) : Int.tdiv a b = a / b := Int.tdiv_eq_ediv_of_nonneg h
theorem rounds_of {α : Type} {g : Nat → Option α} {r : α} (N : Nat) (h : ∀ k, N < k → g k = some r) : ∃ k, g k = some r := ⟨N + 1, h _ (Nat.lt_succ_self N)⟩

/-! lists: reading a list at a place; a copy of a list; a list is like itself -/
theorem rd_at (xs : List Int) (i : Nat) (h : i < xs.length) : rd xs (i : Int) = xs[i] := by
  simp [rd, List.getD_eq_getElem?_getD, h]
theorem wr_succ (i : Nat) (h : i < 9000000000000000000) : wrap64 ((i : Int) + 1) = ((i + 1 : Nat) : Int) := by
  rw [wr (by omega) (by omega)]; omega
theorem same_list {α : Type} {xs ys : List α} (hl : ys.length = xs.length) (h : ∀ j, j < xs.length → ys[j]? = xs[j]?) : ys = xs := by
  apply List.ext_getElem?
  intro j
  by_cases hj : j < xs.length
  · exact h j hj
  · rw [List.getElem?_eq_none (by omega), List.getElem?_eq_none (by omega)]
theorem set_upto {α : Type} {xs ys : List α} {i : Nat} (hl : ys.length = xs.length) (hi : i < xs.length) (h : ∀ j, j < i → ys[j]? = xs[j]?) :
    ∀ j, j < i + 1 → (ys.set i xs[i])[j]? = xs[j]? := by
  intro j hj
  rw [List.getElem?_set]
  by_cases e : i = j
  · subst e; rw [if_pos rfl, if_pos (by omega), List.getElem?_eq_getElem hi]
  · rw [if_neg e]; exact h j (by omega)

/-! rdb: a bool at a place -/
theorem rdb_at (xs : List Bool) (i : Nat) (h : i < xs.length) : rdOf false xs (i : Int) = xs[i] := by
  simp [rdOf, List.getD_eq_getElem?_getD, h]

/-! tobools: laws.toBoolS copies -/
theorem toBoolS_loop (xs : List Bool) (hn : xs.length ≤ 35184372088832) (d : Nat) : ∀ (k : Nat) (ys : List Bool) (i : Nat), ys.length = xs.length → (∀ j, j < i → ys[j]? = xs[j]?) → i + d = xs.length → d < k →
    laws_toBoolS.l0 k xs ys (i : Int) = some xs := by
  induction d with
  | zero =>
    intro k ys i hl h hd hk
    obtain ⟨k, rfl⟩ : ∃ m, k = m + 1 := ⟨k - 1, by omega⟩
    simp only [laws_toBoolS.l0]
    rw [if_neg (by omega), same_list hl (fun j hj => h j (by omega))]
  | succ d ih =>
    intro k ys i hl h hd hk
    obtain ⟨k, rfl⟩ : ∃ m, k = m + 1 := ⟨k - 1, by omega⟩
    have hi : i < xs.length := by omega
    have h1 : (i : Int) < (xs.length : Int) := by omega
    have h2 : (0 : Int) ≤ (i : Int) := by omega
    have h3 : (i : Int) < (ys.length : Int) := by omega
    simp only [laws_toBoolS.l0]
    rw [if_pos h1, if_pos h2, if_pos h3, rdb_at xs i hi, wr_succ i (by omega), Int.toNat_natCast]
    exact ih k _ (i + 1) (by simpa using hl) (set_upto hl hi h) (by omega) (by omega)
theorem toBoolS_eq {k : Nat} (xs : List Bool) (hn : xs.length ≤ 35184372088832) (hk : xs.length < k) : laws_toBoolS.f k xs = some xs := by
  unfold laws_toBoolS.f
  rw [if_pos (by omega), if_pos (by omega)]
  exact toBoolS_loop xs hn xs.length k _ 0 (by simp) (fun j hj => by omega) (by omega) hk

/-! eqbools: laws.eqBoolS says that a list is itself -/
theorem eqBoolS_loop (xs : List Bool) (hn : xs.length ≤ 35184372088832) (d : Nat) : ∀ (k : Nat) (i : Nat), i + d = xs.length → d < k → laws_eqBoolS.l0 k xs xs (i : Int) = some true := by
  induction d with
  | zero =>
    intro k i hd hk
    obtain ⟨k, rfl⟩ : ∃ m, k = m + 1 := ⟨k - 1, by omega⟩
    simp only [laws_eqBoolS.l0]
    rw [if_neg (by omega)]
  | succ d ih =>
    intro k i hd hk
    obtain ⟨k, rfl⟩ : ∃ m, k = m + 1 := ⟨k - 1, by omega⟩
    have h1 : (i : Int) < (xs.length : Int) := by omega
    have h2 : (0 : Int) ≤ (i : Int) := by omega
    simp only [laws_eqBoolS.l0, if_pos h1, if_pos h2, bne_self_eq_false, wr_succ i (by omega)]
    exact ih k (i + 1) (by omega) (by omega)
theorem eqBoolS_self {k : Nat} (xs : List Bool) (hn : xs.length ≤ 35184372088832) (hk : xs.length < k) : laws_eqBoolS.f k xs xs = some true := by
  unfold laws_eqBoolS.f
  rw [if_pos rfl]
  exact eqBoolS_loop xs hn xs.length k 0 (by omega) hk

/-! textof: TextOf, in both texts -/
theorem wrap_u64' {x : Int} (h : 0 ≤ x) (h' : x ≤ 9223372036854775807) : IntKind.u64.wrap x = x := by
  simp [IntKind.wrap, IntKind.bits, IntKind.signed]; omega
def mask (r : Nat) : Int := shl .u8 1 (7 - (r : Int))
theorem mask_shr (r : Nat) (h : r < 8) : shr .u8 128 (r : Int) = mask r := by
  have key : ∀ r : Nat, r < 8 → shr .u8 128 (r : Int) = mask r := by decide +kernel
  exact key r h
/-- a byte out of the first m bits from place 8 * j on -/
def part (bits : List Bool) (j : Nat) : Nat → Int
  | 0 => 0
  | m + 1 => if bits.getD (8 * j + m) false = true then Go.bits .or .u8 (part bits j m) (mask m) else part bits j m
theorem text_loop (bits : List Bool) (hb : bits.length ≤ 40) (h8 : bits.length % 8 = 0) (d : Nat) : ∀ (k : Nat) (x : List Int) (i : Nat), i + d = bits.length → d < k → x.length = bits.length / 8 → (∀ j, j < bits.length / 8 → x[j]? = some (part bits j (min 8 (i - 8 * j)))) →
    ∃ r, spec_TextOf.l0 k x bits (bits.length : Int) (i : Int) = some (strOfNums r, true) ∧ impl_TextOf.l0 k x bits (bits.length : Int) (i : Int) = some (strOfNums r, true) ∧ r.length = bits.length / 8 ∧ ∀ j, j < bits.length / 8 → r[j]? = some (part bits j 8) := by
  induction d with
  | zero =>
    intro k x i hd hk hl hx
    obtain ⟨k, rfl⟩ : ∃ m, k = m + 1 := ⟨k - 1, by omega⟩
    have hn : ¬ (i : Int) < (bits.length : Int) := by omega
    simp only [spec_TextOf.l0, impl_TextOf.l0, if_neg hn]
    refine ⟨x, rfl, rfl, hl, fun j hj => ?_⟩
    rw [hx j hj, show min 8 (i - 8 * j) = 8 by omega]
  | succ d ih =>
    intro k x i hd hk hl hx
    obtain ⟨k, rfl⟩ : ∃ m, k = m + 1 := ⟨k - 1, by omega⟩
    have g1 : (i : Int) < (bits.length : Int) := by omega
    have g2 : (0 : Int) ≤ (i : Int) := by omega
    have e1 : wrap64 (Int.tdiv (i : Int) 8) = ((i / 8 : Nat) : Int) := by rw [tdiv_pos (by omega), wr (by omega) (by omega)]; omega
    have e2 : wrap64 (7 - Int.tmod (i : Int) 8) = 7 - ((i % 8 : Nat) : Int) := by rw [tmod_pos (by omega), wr (by omega) (by omega)]; omega
    have e3 : IntKind.u64.wrap (Int.tmod (i : Int) 8) = ((i % 8 : Nat) : Int) := by rw [tmod_pos (by omega), wrap_u64' (by omega) (by omega)]; omega
    have g3 : (0 : Int) ≤ ((i / 8 : Nat) : Int) := by omega
    have g4 : ((i / 8 : Nat) : Int) < (x.length : Int) := by omega
    have g5 : (0 : Int) ≤ 7 - ((i % 8 : Nat) : Int) := by omega
    have g6 : (0 : Int) ≤ ((i % 8 : Nat) : Int) := by omega
    have hj : i / 8 < bits.length / 8 := by omega
    have hxv := hx (i / 8) hj
    rw [show min 8 (i - 8 * (i / 8)) = i % 8 by omega, List.getElem?_eq_getElem (by omega)] at hxv
    have hxv' : x[i / 8]'(by omega) = part bits (i / 8) (i % 8) := Option.some.inj hxv
    have hbit : bits[i]'(by omega) = bits.getD (8 * (i / 8) + i % 8) false := by
      rw [show 8 * (i / 8) + i % 8 = i by omega, List.getD_eq_getElem?_getD, List.getElem?_eq_getElem (by omega : i < bits.length)]
      rfl
    simp only [spec_TextOf.l0, impl_TextOf.l0, if_pos g1, if_pos g2, rdb_at bits i (by omega), e1, e2, e3, if_pos g3, if_pos g4, if_pos g5, if_pos g6, rd_at x (i / 8) (by omega), hxv', Int.toNat_natCast, mask_shr (i % 8) (by omega), wr_succ i (by omega)]
    by_cases hv : bits[i]'(by omega) = true
    · rw [if_pos hv, if_pos hv]
      refine ih k _ (i + 1) (by omega) (by omega) (by simpa using hl) (fun j hj' => ?_)
      rw [List.getElem?_set]
      by_cases e : i / 8 = j
      · subst e
        rw [if_pos rfl, if_pos (by omega), show min 8 (i + 1 - 8 * (i / 8)) = i % 8 + 1 by omega]
        simp only [part]
        rw [← hbit, if_pos hv]
        try rfl
      · rw [if_neg e, hx j hj']
        by_cases h : j < i / 8
        · rw [show min 8 (i - 8 * j) = 8 by omega, show min 8 (i + 1 - 8 * j) = 8 by omega]
        · rw [show min 8 (i - 8 * j) = 0 by omega, show min 8 (i + 1 - 8 * j) = 0 by omega]
    · rw [if_neg hv, if_neg hv]
      refine ih k _ (i + 1) (by omega) (by omega) hl (fun j hj' => ?_)
      rw [hx j hj']
      by_cases e : i / 8 = j
      · subst e
        rw [show min 8 (i - 8 * (i / 8)) = i % 8 by omega, show min 8 (i + 1 - 8 * (i / 8)) = i % 8 + 1 by omega]
        simp only [part]
        rw [← hbit, if_neg hv]
      · by_cases h : j < i / 8
        · rw [show min 8 (i - 8 * j) = 8 by omega, show min 8 (i + 1 - 8 * j) = 8 by omega]
        · rw [show min 8 (i - 8 * j) = 0 by omega, show min 8 (i + 1 - 8 * j) = 0 by omega]
def textR (bits : List Bool) : ByteArray × Bool := if bits.length ≤ 40 ∧ bits.length % 8 = 0 then (strOfNums ((List.range (bits.length / 8)).map fun j => part bits j 8), true) else (⟨#[]⟩, false)
theorem text_of {k : Nat} (hk : 100 < k) (bits : List Bool) : spec_TextOf.f k bits = some (textR bits) ∧ impl_TextOf.f k bits = some (textR bits) := by
  obtain ⟨k, rfl⟩ : ∃ m, k = m + 1 := ⟨k - 1, by omega⟩
  unfold spec_TextOf.f impl_TextOf.f spec_l3Long.f
  simp only [Option.bind_some, spec_TextOf.j0, impl_TextOf.j0]
  by_cases h : bits.length ≤ 40
  · have e1 : (bits.length : Int) ≤ 40 := by omega
    have e2 : ¬ (bits.length : Int) > 40 := by omega
    by_cases h8 : bits.length % 8 = 0
    · have e3 : ((bits.length : Int) % 8 != 0) = false := by
        have : (bits.length : Int) % 8 = 0 := by omega
        simp [this]
      have e4 : wrap64 ((bits.length : Int) / 8) = ((bits.length / 8 : Nat) : Int) := by rw [wr (by omega) (by omega)]; omega
      obtain ⟨r, r1, r2, r3, r4⟩ := text_loop bits h h8 bits.length k (List.replicate (bits.length / 8) 0) 0 (by omega) (by omega) (by simp) (fun j hj => by
        rw [show min 8 (0 - 8 * j) = 0 by omega, List.getElem?_replicate, if_pos hj]; rfl)
      have e5 : r = (List.range (bits.length / 8)).map fun j => part bits j 8 := by
        refine same_list (by simp; omega) (fun j hj => ?_)
        simp at hj
        rw [r4 j hj]; simp [hj]
      rw [show ((0 : Nat) : Int) = 0 from rfl] at r1 r2
      have g1 : (0 : Int) ≤ ((bits.length / 8 : Nat) : Int) := by omega
      have g2 : bits.length / 8 ≤ 281474976710656 := by omega
      have ht : textR bits = (strOfNums r, true) := by unfold textR; rw [if_pos ⟨h, h8⟩, e5]
      rw [ht]
      simp only [e1, decide_true, if_true, if_neg e2, e3, e4, if_pos g1, Int.toNat_natCast, if_pos g2, Bool.false_eq_true, if_false]
      exact ⟨r1, r2⟩
    · have e3 : ((bits.length : Int) % 8 != 0) = true := by
        have : ¬ (bits.length : Int) % 8 = 0 := by omega
        simp [this]
      have ht : textR bits = (⟨#[]⟩, false) := by unfold textR; rw [if_neg (fun h => h8 h.2)]
      rw [ht]
      simp only [e1, decide_true, if_true, if_neg e2, e3]
      exact ⟨trivial, trivial⟩
  · have e1 : ¬ (bits.length : Int) ≤ 40 := by omega
    have e2 : (bits.length : Int) > 40 := by omega
    have ht : textR bits = (⟨#[]⟩, false) := by unfold textR; rw [if_neg (fun h' => h h'.1)]
    rw [ht]
    simp only [e1, decide_false, if_pos e2, Bool.false_eq_true, if_false, if_true]
    exact ⟨trivial, trivial⟩

theorem FnExactTextOf : ∀ (l0 : List Bool), l0.length ≤ maxLen → ∃ k, laws_FnExactTextOf.f k l0 = some true := by
  intro a _
  refine rounds_of (a.length + 200) fun k hk => ?_
  obtain ⟨k, rfl⟩ : ∃ j, k = j + 1 := ⟨k - 1, by omega⟩
  unfold laws_FnExactTextOf.f
  by_cases h : (a.length : Int) > 1048576
  · rw [if_pos h]
  · rw [if_neg h]
    simp only [toBoolS_eq (k := k + 1) a (by omega) (by omega), text_of (k := k + 1) (by omega) a, Option.bind_some, bne_self_eq_false, if_true]
    simp only [laws_FnExactTextOf.j0, toBoolS_eq (k := k) a (by omega) (by omega), eqBoolS_self (k := k) a (by omega) (by omega), Option.bind_some, if_true, Bool.false_eq_true, if_false]

end Go.Proofs.Yticchbgbbnpgoaa.Pure
