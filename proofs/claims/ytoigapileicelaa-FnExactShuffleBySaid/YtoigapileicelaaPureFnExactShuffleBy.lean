/- ShuffleBy answers as the reference does, leaves its arguments alone and owns its answer, for all lists (the plain half). -/
import Derived.Test.YtoigapileicelaaQFnExactShuffleByx
set_option linter.unusedVariables false
set_option linter.unusedSimpArgs false
namespace Go.Proofs.Ytoigapileicelaa.Pure
open Go.RowKit Go.Proofs.Ytoigapileicelaa.QFnExactShuffleBy Go.Proofs.YtoigapileicelaaW.PrintWords Go.Proofs.YtoigapileicelaaW.PrintLast Go.Proofs.YtoigapileicelaaW.PrintMore

/-! base: sums of int that stay in range; `tmod` and `tdiv` of what is not negative -/
theorem wr {x : Int} (h1 : -9223372036854775808 ≤ x) (h2 : x ≤ 9223372036854775807) : wrap64 x = x := by
  unfold wrap64; omega
theorem tmod_pos {a b : Int} (h : 0 ≤ a) : Int.tmod a b = a % b := Int.tmod_eq_emod_of_nonneg h
theorem tdiv_pos {a b : Int} (h : 0 ≤ a) : Int.tdiv a b = a / b := Int.tdiv_eq_ediv_of_nonneg h
theorem rounds_of {α : Type} {g : Nat → Option α} {r : α} (N : Nat) (h : ∀ k, N < k → g k = some r) : ∃ k, g k = some r := ⟨N + 1, h _ (Nat.lt_succ_self N)⟩

/-! lists: reading a list at a place; a copy of a list; a list is like itself -/
theorem rd_at (xs : List Int) (i : Nat) (h : i < xs.length) : rd xs (i : Int) = xs[i] := by
  simp [rd, List.getD_eq_getElem?_getD, h]
theorem wr_succ (i : Nat) (h : i < 9000000000000000000) : wrap64 ((i : Int) + 1) = ((i + 1 : Nat) : Int) := by
  rw [wr (by omega) (by omega)]; omega
theorem same_list {α : Type} {xs ys : List α} (hl : ys.length = xs.length) (h : ∀ j, j < xs.length → ys[j]? = xs[j]?) : ys = xs := by
  apply List.ext_getElem?
  intro j
  by_cases hj : j < xs.length
  · exact h j hj
  · rw [List.getElem?_eq_none (by omega), List.getElem?_eq_none (by omega)]
theorem set_upto {α : Type} {xs ys : List α} {i : Nat} (hl : ys.length = xs.length) (hi : i < xs.length) (h : ∀ j, j < i → ys[j]? = xs[j]?) :
    ∀ j, j < i + 1 → (ys.set i xs[i])[j]? = xs[j]? := by
  intro j hj
  rw [List.getElem?_set]
  by_cases e : i = j
  · subst e; rw [if_pos rfl, if_pos (by omega), List.getElem?_eq_getElem hi]
  · rw [if_neg e]; exact h j (by omega)

/-! toints: laws.toIntS copies -/
theorem toIntS_loop (xs : List Int) (hn : xs.length ≤ 35184372088832) (d : Nat) : ∀ (k : Nat) (ys : List Int) (i : Nat), ys.length = xs.length → (∀ j, j < i → ys[j]? = xs[j]?) → i + d = xs.length → d < k →
    laws_toIntS.l0 k xs ys (i : Int) = some xs := by
  induction d with
  | zero =>
    intro k ys i hl h hd hk
    obtain ⟨k, rfl⟩ : ∃ m, k = m + 1 := ⟨k - 1, by omega⟩
    simp only [laws_toIntS.l0]
    rw [if_neg (by omega), same_list hl (fun j hj => h j (by omega))]
  | succ d ih =>
    intro k ys i hl h hd hk
    obtain ⟨k, rfl⟩ : ∃ m, k = m + 1 := ⟨k - 1, by omega⟩
    have hi : i < xs.length := by omega
    have h1 : (i : Int) < (xs.length : Int) := by omega
    have h2 : (0 : Int) ≤ (i : Int) := by omega
    have h3 : (i : Int) < (ys.length : Int) := by omega
    simp only [laws_toIntS.l0]
    rw [if_pos h1, if_pos h2, if_pos h3, rd_at xs i hi, wr_succ i (by omega), Int.toNat_natCast]
    exact ih k _ (i + 1) (by simpa using hl) (set_upto hl hi h) (by omega) (by omega)
theorem toIntS_eq {k : Nat} (xs : List Int) (hn : xs.length ≤ 35184372088832) (hk : xs.length < k) : laws_toIntS.f k xs = some xs := by
  unfold laws_toIntS.f
  rw [if_pos (by omega), if_pos (by omega)]
  exact toIntS_loop xs hn xs.length k _ 0 (by simp) (fun j hj => by omega) (by omega) hk

/-! eqints: laws.eqIntS says that a list is itself -/
theorem eqIntS_loop (xs : List Int) (hn : xs.length ≤ 35184372088832) (d : Nat) : ∀ (k : Nat) (i : Nat), i + d = xs.length → d < k → laws_eqIntS.l0 k xs xs (i : Int) = some true := by
  induction d with
  | zero =>
    intro k i hd hk
    obtain ⟨k, rfl⟩ : ∃ m, k = m + 1 := ⟨k - 1, by omega⟩
    simp only [laws_eqIntS.l0]
    rw [if_neg (by omega)]
  | succ d ih =>
    intro k i hd hk
    obtain ⟨k, rfl⟩ : ∃ m, k = m + 1 := ⟨k - 1, by omega⟩
    have h1 : (i : Int) < (xs.length : Int) := by omega
    have h2 : (0 : Int) ≤ (i : Int) := by omega
    simp only [laws_eqIntS.l0, if_pos h1, if_pos h2, if_true, wr_succ i (by omega)]
    exact ih k (i + 1) (by omega) (by omega)
theorem eqIntS_self {k : Nat} (xs : List Int) (hn : xs.length ≤ 35184372088832) (hk : xs.length < k) : laws_eqIntS.f k xs xs = some true := by
  unfold laws_eqIntS.f
  rw [if_pos rfl]
  exact eqIntS_loop xs hn xs.length k 0 (by omega) hk

/-! markintonly: laws.markIntS writes marks -/
theorem markIntS_loop (n : Nat) (hn : n ≤ 35184372088832) (c : Int) (hc : 0 ≤ c) (hc' : c ≤ 1000000000000000000) (d : Nat) : ∀ (k : Nat) (ys : List Int) (i : Nat), ys.length = n → i + d = n → d < k →
    (∀ j, j < i → ys[j]? = some (c + j)) →
    ∃ zs, zs.length = n ∧ laws_markIntS.l0 k ys (c + i) (i : Int) = some (c + n, zs) ∧ ∀ j, j < n → zs[j]? = some (c + j) := by
  induction d with
  | zero =>
    intro k ys i hl hd hk h
    obtain ⟨k, rfl⟩ : ∃ m, k = m + 1 := ⟨k - 1, by omega⟩
    obtain rfl : i = n := by omega
    refine ⟨ys, hl, ?_, h⟩
    simp only [laws_markIntS.l0]
    rw [if_neg (by omega)]
  | succ d ih =>
    intro k ys i hl hd hk h
    obtain ⟨k, rfl⟩ : ∃ m, k = m + 1 := ⟨k - 1, by omega⟩
    have h1 : (i : Int) < (ys.length : Int) := by omega
    have h2 : (0 : Int) ≤ (i : Int) := by omega
    have e : wrap64 (c + (i : Int) + 1) = c + ((i + 1 : Nat) : Int) := by rw [wr (by omega) (by omega)]; omega
    obtain ⟨zs, z1, z2, z3⟩ := ih k (ys.set i (c + i)) (i + 1) (by simpa using hl) (by omega) (by omega) (by
      intro j hj
      rw [List.getElem?_set]
      by_cases e : i = j
      · subst e; rw [if_pos rfl, if_pos (by omega)]
      · rw [if_neg e]; exact h j (by omega))
    refine ⟨zs, z1, ?_, z3⟩
    simp only [laws_markIntS.l0]
    rw [if_pos h1, if_pos h2, e, wr_succ i (by omega), Int.toNat_natCast]
    exact z2
theorem markIntS_some (xs : List Int) (hn : xs.length ≤ 35184372088832) (c : Int) (hc : 0 ≤ c) (hc' : c ≤ 1000000000000000000) {k : Nat} (hk : xs.length < k) : ∃ zs, laws_markIntS.f k xs c = some (c + xs.length, zs) := by
  obtain ⟨zs, _, h, _⟩ := markIntS_loop xs.length hn c hc hc' xs.length k xs 0 rfl (by omega) hk (fun j hj => by omega)
  exact ⟨zs, by simpa [laws_markIntS.f] using h⟩

/-! strs: lists of texts in the laws -/
abbrev eT : ByteArray := ByteArray.empty
theorem rdt_at (xs : List ByteArray) (i : Nat) (h : i < xs.length) : rdOf ByteArray.empty xs (i : Int) = xs[i] := by
  simp [rdOf, List.getD_eq_getElem?_getD, h]
theorem toStringS_loop (xs : List ByteArray) (hn : xs.length ≤ 17592186044416) (d : Nat) : ∀ (k : Nat) (ys : List ByteArray) (i : Nat), ys.length = xs.length → (∀ j, j < i → ys[j]? = xs[j]?) → i + d = xs.length → d < k →
    laws_toStringS.l0 k xs ys (i : Int) = some xs := by
  induction d with
  | zero =>
    intro k ys i hl h hd hk
    obtain ⟨k, rfl⟩ : ∃ m, k = m + 1 := ⟨k - 1, by omega⟩
    simp only [laws_toStringS.l0]
    rw [if_neg (by omega), same_list hl (fun j hj => h j (by omega))]
  | succ d ih =>
    intro k ys i hl h hd hk
    obtain ⟨k, rfl⟩ : ∃ m, k = m + 1 := ⟨k - 1, by omega⟩
    have hi : i < xs.length := by omega
    have h1 : (i : Int) < (xs.length : Int) := by omega
    have h2 : (0 : Int) ≤ (i : Int) := by omega
    have h3 : (i : Int) < (ys.length : Int) := by omega
    simp only [laws_toStringS.l0]
    rw [if_pos h1, if_pos h2, if_pos h3, rdt_at xs i hi, wr_succ i (by omega), Int.toNat_natCast]
    exact ih k _ (i + 1) (by simpa using hl) (set_upto hl hi h) (by omega) (by omega)
theorem toStringS_eq {k : Nat} (xs : List ByteArray) (hn : xs.length ≤ 17592186044416) (hk : xs.length < k) : laws_toStringS.f k xs = some xs := by
  unfold laws_toStringS.f
  rw [if_pos (by omega), if_pos (by omega)]
  exact toStringS_loop xs hn xs.length k _ 0 (by simp) (fun j hj => by omega) (by omega) hk
theorem eqStringS_loop (xs : List ByteArray) (hn : xs.length ≤ 17592186044416) (d : Nat) : ∀ (k : Nat) (i : Nat), i + d = xs.length → d < k → laws_eqStringS.l0 k xs xs (i : Int) = some true := by
  induction d with
  | zero =>
    intro k i hd hk
    obtain ⟨k, rfl⟩ : ∃ m, k = m + 1 := ⟨k - 1, by omega⟩
    simp only [laws_eqStringS.l0]
    rw [if_neg (by omega)]
  | succ d ih =>
    intro k i hd hk
    obtain ⟨k, rfl⟩ : ∃ m, k = m + 1 := ⟨k - 1, by omega⟩
    have h1 : (i : Int) < (xs.length : Int) := by omega
    have h2 : (0 : Int) ≤ (i : Int) := by omega
    simp only [laws_eqStringS.l0, if_pos h1, if_pos h2, if_true, wr_succ i (by omega)]
    exact ih k (i + 1) (by omega) (by omega)
theorem eqStringS_self {k : Nat} (xs : List ByteArray) (hn : xs.length ≤ 17592186044416) (hk : xs.length < k) : laws_eqStringS.f k xs xs = some true := by
  unfold laws_eqStringS.f
  rw [if_pos rfl]
  exact eqStringS_loop xs hn xs.length k 0 (by omega) hk
theorem sz_loop (xs : List ByteArray) (hn : xs.length ≤ 35184372088832) (d : Nat) : ∀ (k : Nat) (x : Int) (i : Nat), i + d = xs.length → d < k → ∃ v, laws_szStringS.l0 k xs x (i : Int) = some v := by
  induction d with
  | zero =>
    intro k x i hd hk
    obtain ⟨k, rfl⟩ : ∃ m, k = m + 1 := ⟨k - 1, by omega⟩
    simp only [laws_szStringS.l0]
    rw [if_neg (by omega)]
    exact ⟨x, rfl⟩
  | succ d ih =>
    intro k x i hd hk
    obtain ⟨k, rfl⟩ : ∃ m, k = m + 1 := ⟨k - 1, by omega⟩
    have h1 : (i : Int) < (xs.length : Int) := by omega
    have h2 : (0 : Int) ≤ (i : Int) := by omega
    simp only [laws_szStringS.l0]
    rw [if_pos h1, if_pos h2, wr_succ i (by omega)]
    by_cases c : wrap64 (x - ((rdOf ByteArray.empty xs (i : Int)).size : Int)) < 0
    · rw [if_pos c]; exact ⟨-1, rfl⟩
    · rw [if_neg c]; exact ih k _ (i + 1) (by omega) (by omega)
theorem sz_strings (xs : List ByteArray) (hn : xs.length ≤ 9223372036854775807) {k : Nat} (hk : xs.length < k) : ∃ v, laws_szStringS.f k xs 1048576 = some v ∧ (¬ v < 0 → xs.length ≤ 1048576) := by
  unfold laws_szStringS.f
  rw [wr (by omega) (by omega)]
  by_cases c : (1048576 : Int) - (xs.length : Int) < 0
  · rw [if_pos c]; exact ⟨-1, rfl, fun h => by omega⟩
  · rw [if_neg c]
    obtain ⟨v, hv⟩ := sz_loop xs (by omega) xs.length k (1048576 - (xs.length : Int)) 0 (by omega) (by omega)
    exact ⟨v, hv, fun _ => by omega⟩
def mkT : Nat → Int → ByteArray → ByteArray
  | 0, _, x => (⟨#[109]⟩ : ByteArray) ++ x
  | n + 1, c, x => if c > 0 then mkT n (c / 10) (strOfNums [(48 + c % 10) % 256] ++ x) else (⟨#[109]⟩ : ByteArray) ++ x
theorem mark_loop (n : Nat) : ∀ (k : Nat) (c : Int) (x : ByteArray), 0 ≤ c → c ≤ 2000000000000000000 → c < 10 ^ n → x.size + n ≤ 1000 → n < k → laws_markText.l0 k c x = some (mkT n c x) := by
  induction n with
  | zero =>
    intro k c x h0 h1 hc hx hk
    obtain ⟨k, rfl⟩ : ∃ m, k = m + 1 := ⟨k - 1, by omega⟩
    have : c = 0 := by rw [Int.pow_zero] at hc; omega
    subst this
    simp only [laws_markText.l0, mkT]
    rw [if_neg (by omega), if_pos (by omega)]
  | succ n ih =>
    intro k c x h0 h1 hc hx hk
    obtain ⟨k, rfl⟩ : ∃ m, k = m + 1 := ⟨k - 1, by omega⟩
    simp only [laws_markText.l0, mkT]
    by_cases h : c > 0
    · have hs : (strOfNums [(48 + c % 10) % 256]).size = 1 := by rw [strOfNums_size]; rfl
      have e : (wrap64 (48 + Int.tmod c 10)) % 256 = (48 + c % 10) % 256 := by rw [Int.tmod_eq_emod_of_nonneg h0, wr (by omega) (by omega)]
      have e2 : wrap64 (Int.tdiv c 10) = c / 10 := by rw [Int.tdiv_eq_ediv_of_nonneg h0, wr (by omega) (by omega)]
      rw [if_pos h, if_pos h, Option.bind_some, e, e2, if_pos (by omega)]
      exact ih k _ _ (by omega) (by omega) (by rw [Int.pow_succ] at hc; omega) (by rw [ByteArray.size_append]; omega) (by omega)
    · rw [if_neg h, if_neg h, if_pos (by omega)]
def markT (c : Int) : ByteArray := if c ≤ 0 then (⟨#[109, 48]⟩ : ByteArray) else mkT 19 c (⟨#[]⟩ : ByteArray)
theorem mark_text {k : Nat} (c : Int) (h1 : c ≤ 2000000000000000000) (hk : 30 < k) : laws_markText.f k c = some (markT c) := by
  unfold laws_markText.f markT
  by_cases h : c ≤ 0
  · rw [if_pos h, if_pos h]
  · rw [if_neg h, if_neg h]
    have e : (10 : Int) ^ 19 = 10000000000000000000 := by decide
    exact mark_loop 19 k c _ (by omega) h1 (by rw [e]; omega) (by show 0 + 19 ≤ 1000; omega) (by omega)
theorem markStringS_loop (n : Nat) (hn : n ≤ 1000000000) (c : Int) (hc : 0 ≤ c) (hc' : c ≤ 1000000000000000000) (d : Nat) : ∀ (k : Nat) (ys : List ByteArray) (i : Nat), ys.length = n → i + d = n → d + 31 < k → (∀ j : Nat, j < i → ys[j]? = some (markT (c + j))) →
    ∃ zs, laws_markStringS.l0 k ys (c + i) (i : Int) = some (c + n, zs) ∧ zs.length = n ∧ ∀ j : Nat, j < n → zs[j]? = some (markT (c + j)) := by
  induction d with
  | zero =>
    intro k ys i hl hd hk h
    obtain ⟨k, rfl⟩ : ∃ m, k = m + 1 := ⟨k - 1, by omega⟩
    simp only [laws_markStringS.l0]
    rw [if_neg (by omega)]
    exact ⟨ys, by rw [show i = n by omega], hl, fun j hj => h j (by omega)⟩
  | succ d ih =>
    intro k ys i hl hd hk h
    obtain ⟨k, rfl⟩ : ∃ m, k = m + 1 := ⟨k - 1, by omega⟩
    have h1 : (i : Int) < (ys.length : Int) := by omega
    have h2 : (0 : Int) ≤ (i : Int) := by omega
    have e : wrap64 (c + (i : Int) + 1) = c + ((i + 1 : Nat) : Int) := by rw [wr (by omega) (by omega)]; omega
    simp only [laws_markStringS.l0]
    rw [if_pos h1, mark_text (k := k) (c + (i : Int)) (by omega) (by omega), Option.bind_some, if_pos h2, e, wr_succ i (by omega), Int.toNat_natCast]
    refine ih k _ (i + 1) (by simpa using hl) (by omega) (by omega) fun j hj => ?_
    by_cases q : j = i
    · subst q
      rw [List.getElem?_set_self (by omega)]
    · rw [List.getElem?_set_ne (by omega)]
      exact h j (by omega)
theorem heldStringS_loop (zs : List ByteArray) (hn : zs.length ≤ 1000000000) (c : Int) (hc : 0 ≤ c) (hc' : c ≤ 1000000000000000000) (hz : ∀ j : Nat, j < zs.length → zs[j]? = some (markT (c + j))) (d : Nat) : ∀ (k : Nat) (i : Nat), i + d = zs.length → d + 31 < k →
    laws_heldStringS.l0 k zs (c + i) (i : Int) = some (c + zs.length) := by
  induction d with
  | zero =>
    intro k i hd hk
    obtain ⟨k, rfl⟩ : ∃ m, k = m + 1 := ⟨k - 1, by omega⟩
    simp only [laws_heldStringS.l0]
    rw [if_neg (by omega), show i = zs.length by omega]
  | succ d ih =>
    intro k i hd hk
    obtain ⟨k, rfl⟩ : ∃ m, k = m + 1 := ⟨k - 1, by omega⟩
    have hi : i < zs.length := by omega
    have h1 : (i : Int) < (zs.length : Int) := by omega
    have h2 : (0 : Int) ≤ (i : Int) := by omega
    have e : wrap64 (c + (i : Int) + 1) = c + ((i + 1 : Nat) : Int) := by rw [wr (by omega) (by omega)]; omega
    have hv : zs[i] = markT (c + i) := by
      have := hz i hi
      rw [List.getElem?_eq_getElem hi] at this
      exact Option.some.inj this
    simp only [laws_heldStringS.l0]
    rw [if_pos h1, if_pos h2, mark_text (k := k) (c + (i : Int)) (by omega) (by omega), Option.bind_some, rdt_at zs i hi, hv, if_pos rfl, e, wr_succ i (by omega)]
    exact ih k (i + 1) (by omega) (by omega)
theorem markStringS_held (xs : List ByteArray) (hn : xs.length ≤ 1000000000) (c : Int) (hc : 0 ≤ c) (hc' : c ≤ 1000000000000000000) :
    ∃ zs, zs.length = xs.length ∧ (∀ k, xs.length + 31 < k → laws_markStringS.f k xs c = some (c + xs.length, zs)) ∧ (∀ k, xs.length + 31 < k → laws_heldStringS.f k zs c = some (c + xs.length)) := by
  have all : ∀ k, xs.length + 31 < k → ∃ zs, zs.length = xs.length ∧ laws_markStringS.f k xs c = some (c + xs.length, zs) ∧ ∀ j : Nat, j < xs.length → zs[j]? = some (markT (c + j)) := by
    intro k hk
    obtain ⟨zs, z1, z2, z3⟩ := markStringS_loop xs.length hn c hc hc' xs.length k xs 0 rfl (by omega) hk (fun j hj => by omega)
    refine ⟨zs, z2, ?_, z3⟩
    unfold laws_markStringS.f
    simpa using z1
  obtain ⟨zs, z1, _, z3⟩ := all (xs.length + 32) (by omega)
  refine ⟨zs, z1, fun k hk => ?_, fun k hk => ?_⟩
  · obtain ⟨us, u1, u2, u3⟩ := all k hk
    rw [u2, show us = zs from same_list (by omega) (fun j hj => by rw [u3 j (by omega), z3 j (by omega)])]
  · have := heldStringS_loop zs (by omega) c hc hc' (fun j hj => z3 j (by omega)) zs.length k 0 (by omega) (by omega)
    unfold laws_heldStringS.f
    rw [← z1]
    simpa using this

/-! shuffle: ShuffleBy, in both texts -/
def swT (draws : List Int) (n : Nat) (l : List ByteArray) : List ByteArray :=
  (l.set n (rdOf ByteArray.empty l (rd draws (n : Int) % ((n : Int) + 1)))).set (rd draws (n : Int) % ((n : Int) + 1)).toNat (rdOf ByteArray.empty l (n : Int))
theorem swT_len (draws : List Int) (n : Nat) (l : List ByteArray) : (swT draws n l).length = l.length := by simp [swT]
def shufV (draws : List Int) : Nat → List ByteArray → List ByteArray
  | 0, l => l
  | n + 1, l => shufV draws n (swT draws (n + 1) l)
theorem shufV_len (draws : List Int) (n : Nat) : ∀ l : List ByteArray, (shufV draws n l).length = l.length := by
  induction n with
  | zero => intro l; rfl
  | succ n ih => intro l; simp only [shufV]; rw [ih, swT_len]
def allNN (draws : List Int) : Bool := draws.all fun x => decide (0 ≤ x)
theorem nn_at {draws : List Int} (h : allNN draws = true) (i : Nat) (hi : i < draws.length) : 0 ≤ rd draws (i : Int) := by
  rw [rd_at draws i hi]
  simpa using List.all_eq_true.1 h draws[i] (List.getElem_mem hi)
theorem spec_shuf_loop (draws : List Int) (h9 : draws.length ≤ 9) (hd : allNN draws = true) (n : Nat) : ∀ (k : Nat) (l : List ByteArray), l.length = draws.length → n < draws.length → n < k →
    spec_ShuffleBy.l1 k draws l (n : Int) = some (shufV draws n l, true) := by
  induction n with
  | zero =>
    intro k l hl hn hk
    obtain ⟨k, rfl⟩ : ∃ m, k = m + 1 := ⟨k - 1, by omega⟩
    simp only [spec_ShuffleBy.l1, shufV]
    rw [if_neg (by omega)]
  | succ n ih =>
    intro k l hl hn hk
    obtain ⟨k, rfl⟩ : ∃ m, k = m + 1 := ⟨k - 1, by omega⟩
    have hr := nn_at hd (n + 1) hn
    have g1 : ((n + 1 : Nat) : Int) > 0 := by omega
    have g2 : (0 : Int) ≤ ((n + 1 : Nat) : Int) := by omega
    have g3 : ((n + 1 : Nat) : Int) < (draws.length : Int) := by omega
    have g4 : ((n + 1 : Nat) : Int) < (l.length : Int) := by omega
    have hw : wrap64 (((n + 1 : Nat) : Int) + 1) = ((n + 1 : Nat) : Int) + 1 := wr (by omega) (by omega)
    have g5 : ¬ ((n + 1 : Nat) : Int) + 1 = 0 := by omega
    have e : Int.tmod (rd draws ((n + 1 : Nat) : Int)) (((n + 1 : Nat) : Int) + 1) = rd draws ((n + 1 : Nat) : Int) % (((n + 1 : Nat) : Int) + 1) := Int.tmod_eq_emod_of_nonneg hr
    have q0 := Int.emod_nonneg (rd draws ((n + 1 : Nat) : Int)) g5
    have q1 := Int.emod_lt_of_pos (rd draws ((n + 1 : Nat) : Int)) (show 0 < ((n + 1 : Nat) : Int) + 1 by omega)
    have hw2 : wrap64 (((n + 1 : Nat) : Int) - 1) = (n : Int) := by rw [wr (by omega) (by omega)]; omega
    have ih' := ih k (swT draws (n + 1) l) (by rw [swT_len, hl]) (by omega) (by omega)
    simp only [spec_ShuffleBy.l1, shufV]
    rw [if_pos g1, if_pos g2, if_pos g3, hw, if_neg g5, if_pos g4, e, if_pos q0, if_pos (by omega), hw2, Int.toNat_natCast]
    exact ih'
theorem spec_shuf_check (draws : List Int) (l : List ByteArray) (h9 : draws.length ≤ 9) (hl : l.length = draws.length) (d : Nat) : ∀ (k : Nat) (i : Nat), i + d = draws.length → d + 20 < k →
    spec_ShuffleBy.l0 k draws l draws (draws.length : Int) (i : Int) = if allNN (draws.drop i) = true then spec_ShuffleBy.l1 (k - d - 1) draws l (wrap64 ((l.length : Int) - 1)) else some ([], false) := by
  induction d with
  | zero =>
    intro k i hd hk
    obtain ⟨k, rfl⟩ : ∃ m, k = m + 1 := ⟨k - 1, by omega⟩
    have e : draws.drop i = [] := List.drop_of_length_le (by omega)
    simp only [spec_ShuffleBy.l0]
    rw [if_neg (by omega), e, Option.bind_some, if_pos (by simp; omega), Option.bind_some, List.nil_append]
    simp [allNN]
  | succ d ih =>
    intro k i hd hk
    obtain ⟨k, rfl⟩ : ∃ m, k = m + 1 := ⟨k - 1, by omega⟩
    have hi : i < draws.length := by omega
    have g1 : (i : Int) < (draws.length : Int) := by omega
    have g2 : (0 : Int) ≤ (i : Int) := by omega
    have ih' := ih k (i + 1) (by omega) (by omega)
    simp only [spec_ShuffleBy.l0]
    rw [if_pos g1, if_pos g2, if_pos g1, rd_at draws i hi, wr_succ i (by omega), ih', List.drop_eq_getElem_cons hi]
    have ea : allNN (draws[i] :: draws.drop (i + 1)) = (decide (0 ≤ draws[i]) && allNN (draws.drop (i + 1))) := rfl
    rw [ea]
    by_cases c : draws[i] < 0
    · have c' : decide (0 ≤ draws[i]) = false := by simp; omega
      rw [if_pos c, c', Bool.false_and, if_neg Bool.false_ne_true]
    · have c' : decide (0 ≤ draws[i]) = true := by simp; omega
      rw [if_neg c, c', Bool.true_and, show k + 1 - (d + 1) - 1 = k - d - 1 by omega]
theorem impl_shuf_loop (draws : List Int) (h9 : draws.length ≤ 9) (n : Nat) : ∀ (k : Nat) (l : List ByteArray), l.length = draws.length → n < draws.length → n + 2 < k →
    impl_ShuffleBy.l0 k draws l (n : Int) = some (if allNN (draws.take (n + 1)) = true then (shufV draws n l, true) else ([], false)) := by
  induction n with
  | zero =>
    intro k l hl hn hk
    obtain ⟨k, rfl⟩ : ∃ m, k = m + 2 := ⟨k - 2, by omega⟩
    have g0 : ((0 : Nat) : Int) ≥ 0 := by omega
    have g2 : (0 : Int) ≤ ((0 : Nat) : Int) := by omega
    have g3 : ((0 : Nat) : Int) < (draws.length : Int) := by omega
    have hw : ¬ wrap64 (((0 : Nat) : Int) + 1) = 0 := by rw [wr (by omega) (by omega)]; omega
    have hw2 : wrap64 (((0 : Nat) : Int) - 1) = -1 := by rw [wr (by omega) (by omega)]; omega
    have et : allNN (draws.take (0 + 1)) = decide (0 ≤ draws[0]) := by
      rw [List.take_add_one, List.take_zero, List.getElem?_eq_getElem hn]; simp [allNN]
    simp only [impl_ShuffleBy.l0, shufV]
    rw [if_pos g0, if_pos g2, if_pos g3, rd_at draws 0 hn, et]
    by_cases c : draws[0] < 0
    · have c' : decide (0 ≤ draws[0]) = false := by simp; omega
      rw [if_pos c, c', if_neg Bool.false_ne_true]
    · have c' : decide (0 ≤ draws[0]) = true := by simp; omega
      rw [if_neg c, c', if_pos rfl, if_neg hw, if_neg (by omega), hw2, if_neg (by omega)]
  | succ n ih =>
    intro k l hl hn hk
    obtain ⟨k, rfl⟩ : ∃ m, k = m + 1 := ⟨k - 1, by omega⟩
    have g0 : ((n + 1 : Nat) : Int) ≥ 0 := by omega
    have g1 : ((n + 1 : Nat) : Int) > 0 := by omega
    have g2 : (0 : Int) ≤ ((n + 1 : Nat) : Int) := by omega
    have g3 : ((n + 1 : Nat) : Int) < (draws.length : Int) := by omega
    have g4 : ((n + 1 : Nat) : Int) < (l.length : Int) := by omega
    have hw : wrap64 (((n + 1 : Nat) : Int) + 1) = ((n + 1 : Nat) : Int) + 1 := wr (by omega) (by omega)
    have g5 : ¬ ((n + 1 : Nat) : Int) + 1 = 0 := by omega
    have hw2 : wrap64 (((n + 1 : Nat) : Int) - 1) = (n : Int) := by rw [wr (by omega) (by omega)]; omega
    have et : allNN (draws.take (n + 1 + 1)) = (allNN (draws.take (n + 1)) && decide (0 ≤ rd draws ((n + 1 : Nat) : Int))) := by
      unfold allNN
      rw [rd_at draws (n + 1) hn, List.take_add_one, List.getElem?_eq_getElem hn]
      simp only [Option.toList_some, List.all_append, List.all_cons, List.all_nil, Bool.and_true]
    have ih' := ih k (swT draws (n + 1) l) (by rw [swT_len, hl]) (by omega) (by omega)
    simp only [impl_ShuffleBy.l0, shufV]
    rw [if_pos g0, if_pos g2, if_pos g3, et]
    by_cases c : rd draws ((n + 1 : Nat) : Int) < 0
    · have c' : decide (0 ≤ rd draws ((n + 1 : Nat) : Int)) = false := decide_eq_false (by omega)
      rw [if_pos c, c', Bool.and_false, if_neg Bool.false_ne_true]
    · have c' : decide (0 ≤ rd draws ((n + 1 : Nat) : Int)) = true := decide_eq_true (by omega)
      have hr : 0 ≤ rd draws ((n + 1 : Nat) : Int) := by omega
      have e : Int.tmod (rd draws ((n + 1 : Nat) : Int)) (((n + 1 : Nat) : Int) + 1) = rd draws ((n + 1 : Nat) : Int) % (((n + 1 : Nat) : Int) + 1) := Int.tmod_eq_emod_of_nonneg hr
      have q0 := Int.emod_nonneg (rd draws ((n + 1 : Nat) : Int)) g5
      have q1 := Int.emod_lt_of_pos (rd draws ((n + 1 : Nat) : Int)) (show 0 < ((n + 1 : Nat) : Int) + 1 by omega)
      rw [if_neg c, c', Bool.and_true, hw, if_neg g5, if_pos g1, e, if_pos q0, if_pos (by omega), if_pos g4, hw2, Int.toNat_natCast]
      exact ih'
def shufR (draws : List Int) (l : List ByteArray) : List ByteArray × Bool :=
  if l.length ≤ 9 ∧ draws.length = l.length ∧ allNN draws = true then (shufV draws (l.length - 1) l, true) else ([], false)
theorem shufR_len (draws : List Int) (l : List ByteArray) : (shufR draws l).1.length ≤ 9 := by
  unfold shufR
  by_cases h : l.length ≤ 9 ∧ draws.length = l.length ∧ allNN draws = true
  · rw [if_pos h]; simp only; rw [shufV_len]; exact h.1
  · rw [if_neg h]; simp
theorem shuffle_by {k : Nat} (draws : List Int) (l : List ByteArray) (hk : 200 < k) : spec_ShuffleBy.f k draws l = some (shufR draws l) ∧ impl_ShuffleBy.f k draws l = some (shufR draws l) := by
  obtain ⟨k, rfl⟩ : ∃ m, k = m + 1 := ⟨k - 1, by omega⟩
  unfold spec_ShuffleBy.f impl_ShuffleBy.f shufR
  by_cases h9 : (l.length : Int) > 9
  · have hc : ¬ (l.length ≤ 9 ∧ draws.length = l.length ∧ allNN draws = true) := fun h => by omega
    rw [if_pos h9, if_pos h9, if_neg hc]
    simp only [spec_ShuffleBy.j0, impl_ShuffleBy.j0, if_true]
    exact ⟨trivial, trivial⟩
  · rw [if_neg h9, if_neg h9]
    by_cases hl : draws.length = l.length
    · have eb : ((draws.length : Int) != (l.length : Int)) = false := by simp [hl]
      rw [eb]
      simp only [spec_ShuffleBy.j0, impl_ShuffleBy.j0, Bool.false_eq_true, if_false]
      have hcl : slices_Clone_string_string.f l = some l := by
        unfold slices_Clone_string_string.f
        rw [Option.bind_some, if_pos (by simp; omega), List.nil_append]
      have hs := spec_shuf_check draws l (by omega) hl.symm draws.length k 0 (by omega) (by omega)
      rw [show ((0 : Nat) : Int) = 0 from rfl, List.drop_zero] at hs
      rw [hs, hcl, Option.bind_some]
      by_cases hz : l.length = 0
      · have hl0 : l = [] := List.length_eq_zero_iff.1 hz
        have hd0 : draws = [] := List.length_eq_zero_iff.1 (by omega)
        subst hl0
        subst hd0
        obtain ⟨m, hm⟩ : ∃ m, k = m + 1 := ⟨k - 1, by omega⟩
        obtain ⟨m', hm'⟩ : ∃ m', k - ([] : List Int).length - 1 = m' + 1 := ⟨k - 2, by simp; omega⟩
        have e : wrap64 ((([] : List ByteArray).length : Int) - 1) = -1 := by rw [wr (by simp) (by simp)]; rfl
        have ea : allNN [] = true := rfl
        rw [e, hm', ea, if_pos rfl, hm]
        simp only [spec_ShuffleBy.l1, impl_ShuffleBy.l0]
        have n1 : ¬ (-1 : Int) > 0 := by omega
        have n2 : ¬ (-1 : Int) ≥ 0 := by omega
        have hc : ([] : List ByteArray).length ≤ 9 ∧ ([] : List Int).length = ([] : List ByteArray).length ∧ True := ⟨by simp, rfl, trivial⟩
        rw [if_neg n1, if_neg n2, if_pos hc]
        exact ⟨rfl, rfl⟩
      · have e : wrap64 ((l.length : Int) - 1) = ((l.length - 1 : Nat) : Int) := by rw [wr (by omega) (by omega)]; omega
        rw [e]
        have hi := impl_shuf_loop draws (by omega) (l.length - 1) k l hl.symm (by omega) (by omega)
        rw [hi, List.take_of_length_le (by omega)]
        by_cases ha : allNN draws = true
        · have hss := spec_shuf_loop draws (by omega) ha (l.length - 1) (k - draws.length - 1) l hl.symm (by omega) (by omega)
          have hc : l.length ≤ 9 ∧ draws.length = l.length ∧ allNN draws = true := ⟨by omega, hl, ha⟩
          rw [if_pos ha, if_pos ha, hss, if_pos hc]
          exact ⟨rfl, rfl⟩
        · have hc : ¬ (l.length ≤ 9 ∧ draws.length = l.length ∧ allNN draws = true) := fun h => ha h.2.2
          rw [if_neg ha, if_neg ha, if_neg hc]
          exact ⟨rfl, rfl⟩
    · have eb : ((draws.length : Int) != (l.length : Int)) = true := by simp; omega
      have hc : ¬ (l.length ≤ 9 ∧ draws.length = l.length ∧ allNN draws = true) := fun h => hl h.2.1
      rw [eb, if_neg hc]
      simp only [spec_ShuffleBy.j0, impl_ShuffleBy.j0, if_true]
      exact ⟨trivial, trivial⟩

theorem FnExactShuffleBy : ∀ (l0 : List Int) (l1 : List ByteArray), l0.length ≤ maxLen → (∀ n ∈ l0, (Lit.int .i64 n).wf = true) → l1.length ≤ maxLen → (∀ s ∈ l1, s.size ≤ maxLen) → ∃ k, laws_FnExactShuffleBy.f k l0 l1 = some true := by
  intro draws l hma _ hmb _
  unfold maxLen at hma hmb
  refine rounds_of (2 * draws.length + 2 * l.length + 1000) fun k hk => ?_
  obtain ⟨k, rfl⟩ : ∃ j, k = j + 3 := ⟨k - 3, by omega⟩
  unfold laws_FnExactShuffleBy.f
  by_cases h : (draws.length : Int) > 1048576
  · rw [if_pos h]
  · rw [if_neg h]
    obtain ⟨v, hv, hvl⟩ := sz_strings l hmb (k := k + 3) (by omega)
    rw [hv, Option.bind_some]
    by_cases h' : v < 0
    · rw [if_pos h']
    · have hll := hvl h'
      rw [if_neg h']
      have rl := shufR_len draws l
      obtain ⟨s3, i3⟩ := shuffle_by (k := k + 3) draws l (by omega)
      obtain ⟨_, i1⟩ := shuffle_by (k := k + 1) draws l (by omega)
      generalize shufR draws l = R at *
      obtain ⟨za, za2⟩ := markIntS_some draws (by omega) 1 (by omega) (by omega) (by omega : draws.length < k + 2)
      obtain ⟨zb, zb1, zb2, _⟩ := markStringS_held l (by omega) (1 + draws.length) (by omega) (by omega)
      obtain ⟨zo, zo1, zo2, zo3⟩ := markStringS_held R.1 (by omega) 1 (by omega) (by omega)
      have q1 : ¬ (1 + (draws.length : Int) + (l.length : Int) < 0) := by omega
      have q2 : ¬ (1 + (R.1.length : Int) < 0) := by omega
      rw [toIntS_eq (k := k + 3) draws (by omega) (by omega), Option.bind_some, toStringS_eq (k := k + 3) l (by omega) (by omega), Option.bind_some, s3, Option.bind_some, Option.bind_some, Option.bind_some, i3, Option.bind_some, eqStringS_self (k := k + 3) R.1 (by omega) (by omega), Option.bind_some, if_pos rfl, bne_self_eq_false]
      simp only [laws_FnExactShuffleBy.j0, Bool.false_eq_true, if_false]
      rw [toIntS_eq (k := k + 2) draws (by omega) (by omega), Option.bind_some, eqIntS_self (k := k + 2) draws (by omega) (by omega), Option.bind_some, if_pos rfl, toStringS_eq (k := k + 2) l (by omega) (by omega), Option.bind_some, eqStringS_self (k := k + 2) l (by omega) (by omega), Option.bind_some, if_pos rfl, za2, Option.bind_some, zb2 (k + 2) (by omega), Option.bind_some, if_neg q1, eqStringS_self (k := k + 2) R.1 (by omega) (by omega), Option.bind_some, if_pos rfl]
      simp only [laws_FnExactShuffleBy.j1, bne_self_eq_false, Bool.false_eq_true, if_false]
      rw [zo2 (k + 1) (by omega), Option.bind_some, zo3 (k + 1) (by omega), Option.bind_some, if_neg q2, if_pos rfl, toIntS_eq (k := k + 1) draws (by omega) (by omega), Option.bind_some, toStringS_eq (k := k + 1) l (by omega) (by omega), Option.bind_some, i1, Option.bind_some, eqStringS_self (k := k + 1) R.1 (by omega) (by omega), Option.bind_some, if_pos rfl]
      simp only [laws_FnExactShuffleBy.j2, bne_self_eq_false, Bool.false_eq_true, if_false]
      rw [zo3 k (by omega), Option.bind_some, if_neg q2, if_pos rfl]

end Go.Proofs.Ytoigapileicelaa.Pure
