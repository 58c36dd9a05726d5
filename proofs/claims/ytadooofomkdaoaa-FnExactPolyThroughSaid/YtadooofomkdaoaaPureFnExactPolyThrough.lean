/- PolyThrough answers as the reference does, leaves its argument alone and owns its answer, for all parts (the plain half). -/
import Derived.Test.YtadooofomkdaoaaQFnExactPolyThroughx
set_option linter.unusedVariables false
set_option linter.unusedSimpArgs false
namespace Go.Proofs.Ytadooofomkdaoaa.Pure
open Go.RowKit Go.Proofs.Ytadooofomkdaoaa.QFnExactPolyThrough Go.Proofs.YtadooofomkdaoaaW.PrintWords Go.Proofs.YtadooofomkdaoaaW.PrintLast Go.Proofs.YtadooofomkdaoaaW.PrintMore

/-! base: sums of int that stay in range; `tmod` and `tdiv` of what is not negative -/
theorem wr {x : Int} (h1 : -9223372036854775808 ≤ x) (h2 : x ≤ 9223372036854775807) : wrap64 x = x := by
  unfold wrap64; omega
theorem tmod_pos {a b : Int} (h : 0 ≤ a) : Int.tmod a b = a % b := Int.tmod_eq_emod_of_nonneg h
theorem tdiv_pos {a b : Int} (h : 0 ≤ a) : Int.tdiv a b = a / b := Int.tdiv_eq_ediv_of_nonneg h
theorem rounds_of {α : Type} {g : Nat → Option α} {r : α} (N : Nat) (h : ∀ k, N < k → g k = some r) : ∃ k, g k = some r := ⟨N + 1, h _ (Nat.lt_succ_self N)⟩

/-! lists: reading a list at a place; a copy of a list; a list is like itself -/
theorem rd_at (xs : List Int) (i : Nat) (h : i < xs.length) : rd xs (i : Int) = xs[i] := by
  simp [rd, List.getD_eq_getElem?_getD, h]
theorem wr_succ (i : Nat) (h : i < 9000000000000000000) : wrap64 ((i : Int) + 1) = ((i + 1 : Nat) : Int) := by
  rw [wr (by omega) (by omega)]; omega
theorem same_list {α : Type} {xs ys : List α} (hl : ys.length = xs.length) (h : ∀ j, j < xs.length → ys[j]? = xs[j]?) : ys = xs := by
  apply List.ext_getElem?
  intro j
  by_cases hj : j < xs.length
  · exact h j hj
  · rw [List.getElem?_eq_none (by omega), List.getElem?_eq_none (by omega)]
theorem set_upto {α : Type} {xs ys : List α} {i : Nat} (hl : ys.length = xs.length) (hi : i < xs.length) (h : ∀ j, j < i → ys[j]? = xs[j]?) :
    ∀ j, j < i + 1 → (ys.set i xs[i])[j]? = xs[j]? := by
  intro j hj
  rw [List.getElem?_set]
  by_cases e : i = j
  · subst e; rw [if_pos rfl, if_pos (by omega), List.getElem?_eq_getElem hi]
  · rw [if_neg e]; exact h j (by omega)

/-! toparts: laws.toPartS makes parts of the law's own -/
def cvP (p : S99) : S70 := ⟨p.f0, p.f1⟩
theorem rdq_at (xs : List S99) (i : Nat) (h : i < xs.length) : rd_T99 xs (i : Int) = xs[i] := by
  simp [rd_T99, List.getD_eq_getElem?_getD, h]
theorem toPartS_loop (xs : List S99) (hn : xs.length ≤ 17592186044416) (d : Nat) : ∀ (k : Nat) (ys : List S70) (i : Nat), ys.length = (xs.map cvP).length → (∀ j, j < i → ys[j]? = (xs.map cvP)[j]?) → i + d = (xs.map cvP).length → d < k →
    laws_toPartS.l0 k xs ys (i : Int) = some (xs.map cvP) := by
  have hm : (xs.map cvP).length = xs.length := by simp
  induction d with
  | zero =>
    intro k ys i hl h hd hk
    obtain ⟨k, rfl⟩ : ∃ m, k = m + 1 := ⟨k - 1, by omega⟩
    simp only [laws_toPartS.l0]
    rw [if_neg (by omega), same_list hl (fun j hj => h j (by omega))]
  | succ d ih =>
    intro k ys i hl h hd hk
    obtain ⟨k, rfl⟩ : ∃ m, k = m + 1 := ⟨k - 1, by omega⟩
    have hi : i < xs.length := by omega
    have hi' : i < (xs.map cvP).length := by omega
    have h1 : (i : Int) < (xs.length : Int) := by omega
    have h2 : (0 : Int) ≤ (i : Int) := by omega
    have h3 : (i : Int) < (ys.length : Int) := by omega
    have e : (⟨xs[i].f0, xs[i].f1⟩ : S70) = (xs.map cvP)[i] := by simp [cvP]
    simp only [laws_toPartS.l0, laws_toPart.f]
    rw [if_pos h1, if_pos h2, Option.bind_some, if_pos h3, rdq_at xs i hi, wr_succ i (by omega), Int.toNat_natCast]
    show laws_toPartS.l0 k xs (ys.set i (⟨xs[i].f0, xs[i].f1⟩ : S70)) ((i + 1 : Nat) : Int) = _
    rw [e]
    exact ih k _ (i + 1) (by simpa using hl) (set_upto hl hi' h) (by omega) (by omega)
theorem toPartS_eq {k : Nat} (xs : List S99) (hn : xs.length ≤ 17592186044416) (hk : xs.length < k) : laws_toPartS.f k xs = some (xs.map cvP) := by
  unfold laws_toPartS.f
  rw [if_pos (by omega), if_pos (by omega)]
  exact toPartS_loop xs hn xs.length k _ 0 (by simp) (fun j hj => by omega) (by simp) hk
theorem sz_parts (xs : List S99) (left : Int) (hn : xs.length ≤ 9223372036854775807) (h0 : 0 ≤ left) (h1 : left ≤ 1048576) : laws_szPartS.f xs left = some (if left < (xs.length : Int) then -1 else left - xs.length) := by
  unfold laws_szPartS.f
  rw [wr (by omega) (by omega)]
  by_cases h : left < (xs.length : Int)
  · rw [if_pos (by omega), if_pos h]
  · rw [if_neg (by omega), if_neg h]

/-! parts: laws.eqPartS, laws.markPartS, laws.heldPartS -/
theorem rdp_at (xs : List S70) (i : Nat) (h : i < xs.length) : rd_T70 xs (i : Int) = xs[i] := by
  simp [rd_T70, List.getD_eq_getElem?_getD, h]
theorem eqPart_self (a b : Int) : laws_eqPart.f a b a b = some true := by simp [laws_eqPart.f]
theorem eqPartS_loop (xs : List S70) (hn : xs.length ≤ 35184372088832) (d : Nat) : ∀ (k : Nat) (i : Nat), i + d = xs.length → d < k → laws_eqPartS.l0 k xs xs (i : Int) = some true := by
  induction d with
  | zero =>
    intro k i hd hk
    obtain ⟨k, rfl⟩ : ∃ m, k = m + 1 := ⟨k - 1, by omega⟩
    simp only [laws_eqPartS.l0]
    rw [if_neg (by omega)]
  | succ d ih =>
    intro k i hd hk
    obtain ⟨k, rfl⟩ : ∃ m, k = m + 1 := ⟨k - 1, by omega⟩
    have h1 : (i : Int) < (xs.length : Int) := by omega
    have h2 : (0 : Int) ≤ (i : Int) := by omega
    simp only [laws_eqPartS.l0, if_pos h1, if_pos h2, eqPart_self, Option.bind_some, if_true, wr_succ i (by omega)]
    exact ih k (i + 1) (by omega) (by omega)
theorem eqPartS_self {k : Nat} (xs : List S70) (hn : xs.length ≤ 35184372088832) (hk : xs.length < k) : laws_eqPartS.f k xs xs = some true := by
  unfold laws_eqPartS.f
  rw [if_pos rfl]
  exact eqPartS_loop xs hn xs.length k 0 (by omega) hk

/-! markpartonly: laws.markPartS writes marks -/
theorem markPartS_loop (n : Nat) (hn : n ≤ 35184372088832) (c : Int) (hc : 0 ≤ c) (hc' : c ≤ 1000000000000000000) (d : Nat) : ∀ (k : Nat) (ys : List S70) (i : Nat), ys.length = n → i + d = n → d < k →
    (∀ j, j < i → ys[j]? = some ⟨c + 2 * j, c + 2 * j + 1⟩) →
    ∃ zs, zs.length = n ∧ laws_markPartS.l0 k ys (c + 2 * i) (i : Int) = some (c + 2 * n, zs) ∧ ∀ j : Nat, j < n → zs[j]? = some ⟨c + 2 * j, c + 2 * j + 1⟩ := by
  induction d with
  | zero =>
    intro k ys i hl hd hk h
    obtain ⟨k, rfl⟩ : ∃ m, k = m + 1 := ⟨k - 1, by omega⟩
    obtain rfl : i = n := by omega
    refine ⟨ys, hl, ?_, h⟩
    simp only [laws_markPartS.l0]
    rw [if_neg (by omega)]
  | succ d ih =>
    intro k ys i hl hd hk h
    obtain ⟨k, rfl⟩ : ∃ m, k = m + 1 := ⟨k - 1, by omega⟩
    have h1 : (i : Int) < (ys.length : Int) := by omega
    have h2 : (0 : Int) ≤ (i : Int) := by omega
    have e1 : wrap64 (c + 2 * (i : Int) + 1) = c + 2 * (i : Int) + 1 := wr (by omega) (by omega)
    have e2 : wrap64 (c + 2 * (i : Int) + 1 + 1) = c + 2 * ((i + 1 : Nat) : Int) := by rw [wr (by omega) (by omega)]; omega
    have e3 : rd_T70 (ys.set i ⟨c + 2 * (i : Int), (rd_T70 ys (i : Int)).f1⟩) (i : Int) = ⟨c + 2 * (i : Int), (rd_T70 ys (i : Int)).f1⟩ := by
      rw [rdp_at _ i (by simp; omega)]; simp
    obtain ⟨zs, z1, z2, z3⟩ := ih k (ys.set i ⟨c + 2 * (i : Int), c + 2 * (i : Int) + 1⟩) (i + 1) (by simpa using hl) (by omega) (by omega) (by
      intro j hj
      rw [List.getElem?_set]
      by_cases e : i = j
      · subst e; rw [if_pos rfl, if_pos (by omega)]
      · rw [if_neg e]; exact h j (by omega))
    refine ⟨zs, z1, ?_, z3⟩
    simp only [laws_markPartS.l0, if_pos h1, if_pos h2, Option.bind_some, Int.toNat_natCast, e1, e2, e3, List.set_set, wr_succ i (by omega)]
    exact z2
theorem markPartS_some (xs : List S70) (hn : xs.length ≤ 35184372088832) (c : Int) (hc : 0 ≤ c) (hc' : c ≤ 1000000000000000000) {k : Nat} (hk : xs.length < k) : ∃ zs, laws_markPartS.f k xs c = some (c + 2 * xs.length, zs) := by
  obtain ⟨zs, z1, z2, z3⟩ := markPartS_loop xs.length hn c hc hc' xs.length k xs 0 rfl (by omega) hk (fun j hj => by omega)
  exact ⟨zs, by simpa [laws_markPartS.f] using z2⟩

/-! eqints: laws.eqIntS says that a list is itself -/
theorem eqIntS_loop (xs : List Int) (hn : xs.length ≤ 35184372088832) (d : Nat) : ∀ (k : Nat) (i : Nat), i + d = xs.length → d < k → laws_eqIntS.l0 k xs xs (i : Int) = some true := by
  induction d with
  | zero =>
    intro k i hd hk
    obtain ⟨k, rfl⟩ : ∃ m, k = m + 1 := ⟨k - 1, by omega⟩
    simp only [laws_eqIntS.l0]
    rw [if_neg (by omega)]
  | succ d ih =>
    intro k i hd hk
    obtain ⟨k, rfl⟩ : ∃ m, k = m + 1 := ⟨k - 1, by omega⟩
    have h1 : (i : Int) < (xs.length : Int) := by omega
    have h2 : (0 : Int) ≤ (i : Int) := by omega
    simp only [laws_eqIntS.l0, if_pos h1, if_pos h2, if_true, wr_succ i (by omega)]
    exact ih k (i + 1) (by omega) (by omega)
theorem eqIntS_self {k : Nat} (xs : List Int) (hn : xs.length ≤ 35184372088832) (hk : xs.length < k) : laws_eqIntS.f k xs xs = some true := by
  unfold laws_eqIntS.f
  rw [if_pos rfl]
  exact eqIntS_loop xs hn xs.length k 0 (by omega) hk

/-! markintonly: laws.markIntS writes marks -/
theorem markIntS_loop (n : Nat) (hn : n ≤ 35184372088832) (c : Int) (hc : 0 ≤ c) (hc' : c ≤ 1000000000000000000) (d : Nat) : ∀ (k : Nat) (ys : List Int) (i : Nat), ys.length = n → i + d = n → d < k →
    (∀ j, j < i → ys[j]? = some (c + j)) →
    ∃ zs, zs.length = n ∧ laws_markIntS.l0 k ys (c + i) (i : Int) = some (c + n, zs) ∧ ∀ j, j < n → zs[j]? = some (c + j) := by
  induction d with
  | zero =>
    intro k ys i hl hd hk h
    obtain ⟨k, rfl⟩ : ∃ m, k = m + 1 := ⟨k - 1, by omega⟩
    obtain rfl : i = n := by omega
    refine ⟨ys, hl, ?_, h⟩
    simp only [laws_markIntS.l0]
    rw [if_neg (by omega)]
  | succ d ih =>
    intro k ys i hl hd hk h
    obtain ⟨k, rfl⟩ : ∃ m, k = m + 1 := ⟨k - 1, by omega⟩
    have h1 : (i : Int) < (ys.length : Int) := by omega
    have h2 : (0 : Int) ≤ (i : Int) := by omega
    have e : wrap64 (c + (i : Int) + 1) = c + ((i + 1 : Nat) : Int) := by rw [wr (by omega) (by omega)]; omega
    obtain ⟨zs, z1, z2, z3⟩ := ih k (ys.set i (c + i)) (i + 1) (by simpa using hl) (by omega) (by omega) (by
      intro j hj
      rw [List.getElem?_set]
      by_cases e : i = j
      · subst e; rw [if_pos rfl, if_pos (by omega)]
      · rw [if_neg e]; exact h j (by omega))
    refine ⟨zs, z1, ?_, z3⟩
    simp only [laws_markIntS.l0]
    rw [if_pos h1, if_pos h2, e, wr_succ i (by omega), Int.toNat_natCast]
    exact z2
theorem markIntS_some (xs : List Int) (hn : xs.length ≤ 35184372088832) (c : Int) (hc : 0 ≤ c) (hc' : c ≤ 1000000000000000000) {k : Nat} (hk : xs.length < k) : ∃ zs, laws_markIntS.f k xs c = some (c + xs.length, zs) := by
  obtain ⟨zs, _, h, _⟩ := markIntS_loop xs.length hn c hc hc' xs.length k xs 0 rfl (by omega) hk (fun j hj => by omega)
  exact ⟨zs, by simpa [laws_markIntS.f] using h⟩

/-! markints: laws.heldIntS finds the marks -/
theorem heldIntS_loop (zs : List Int) (hn : zs.length ≤ 35184372088832) (c : Int) (hc : 0 ≤ c) (hc' : c ≤ 1000000000000000000) (hz : ∀ j, j < zs.length → zs[j]? = some (c + j)) (d : Nat) : ∀ (k : Nat) (i : Nat), i + d = zs.length → d < k →
    laws_heldIntS.l0 k zs (c + i) (i : Int) = some (c + zs.length) := by
  induction d with
  | zero =>
    intro k i hd hk
    obtain ⟨k, rfl⟩ : ∃ m, k = m + 1 := ⟨k - 1, by omega⟩
    simp only [laws_heldIntS.l0]
    rw [if_neg (by omega), show i = zs.length by omega]
  | succ d ih =>
    intro k i hd hk
    obtain ⟨k, rfl⟩ : ∃ m, k = m + 1 := ⟨k - 1, by omega⟩
    have hi : i < zs.length := by omega
    have h1 : (i : Int) < (zs.length : Int) := by omega
    have h2 : (0 : Int) ≤ (i : Int) := by omega
    have e : wrap64 (c + (i : Int) + 1) = c + ((i + 1 : Nat) : Int) := by rw [wr (by omega) (by omega)]; omega
    have hv : zs[i] = c + i := by
      have := hz i hi
      rw [List.getElem?_eq_getElem hi] at this
      exact Option.some.inj this
    have hr : rd zs (i : Int) = c + i := by rw [rd_at zs i hi, hv]
    simp only [laws_heldIntS.l0]
    rw [if_pos h1, if_pos h2, if_pos hr, e, wr_succ i (by omega)]
    exact ih k (i + 1) (by omega) (by omega)
theorem markIntS_held (xs : List Int) (hn : xs.length ≤ 35184372088832) (c : Int) (hc : 0 ≤ c) (hc' : c ≤ 1000000000000000000) :
    ∃ zs, zs.length = xs.length ∧ (∀ k, xs.length < k → laws_markIntS.f k xs c = some (c + xs.length, zs)) ∧ (∀ k, xs.length < k → laws_heldIntS.f k zs c = some (c + xs.length)) := by
  have all : ∀ k, xs.length < k → ∃ zs, zs.length = xs.length ∧ laws_markIntS.f k xs c = some (c + xs.length, zs) ∧ ∀ j, j < xs.length → zs[j]? = some (c + j) := by
    intro k hk
    have := markIntS_loop xs.length hn c hc hc' xs.length k xs 0 rfl (by omega) hk (fun j hj => by omega)
    simpa [laws_markIntS.f] using this
  obtain ⟨zs, z1, _, z3⟩ := all (xs.length + 1) (by omega)
  refine ⟨zs, z1, fun k hk => ?_, fun k hk => ?_⟩
  · obtain ⟨us, u1, u2, u3⟩ := all k hk
    rw [u2, show us = zs from same_list (by omega) (fun j hj => by rw [u3 j (by omega), z3 j (by omega)])]
  · have := heldIntS_loop zs (by omega) c hc hc' (fun j hj => z3 j (by omega)) zs.length k 0 (by omega) (by omega)
    simpa [laws_heldIntS.f, z1] using this

/-! modp: numbers modulo 1499, in both texts -/
theorem mod_some (a : Int) (h : -4000000000000000000 ≤ a) (h' : a ≤ 4000000000000000000) : Int.tmod (wrap64 (Int.tmod a 1499 + 1499)) 1499 = a % 1499 := by
  have e := Int.tmod_eq_emod (a := a) (b := 1499)
  have : Int.tmod a 1499 = a % 1499 ∨ Int.tmod a 1499 = a % 1499 - 1499 := by
    rw [e]
    split
    · left; omega
    · right; rfl
  rcases this with h1 | h1
  · rw [h1, wr (by omega) (by omega), tmod_pos (by omega)]; omega
  · rw [h1, wr (by omega) (by omega), tmod_pos (by omega)]; omega
theorem spec_mod (a : Int) (h : -4000000000000000000 ≤ a) (h' : a ≤ 4000000000000000000) : spec_l5Mod.f a = some (a % 1499) := by
  unfold spec_l5Mod.f; rw [mod_some a h h']
theorem impl_mod (a : Int) (h : -4000000000000000000 ≤ a) (h' : a ≤ 4000000000000000000) : impl_modulo.f a = some (a % 1499) := by
  unfold impl_modulo.f; rw [mod_some a h h']
theorem pq_step (c m q : Nat) : (c * m % 1499) * (m * m % 1499) ^ q % 1499 = c * m ^ (2 * q + 1) % 1499 := by
  rw [Nat.mul_mod, Nat.mod_mod, ← Nat.pow_mod, ← Nat.mul_mod]
  congr 1
  rw [Nat.pow_succ, Nat.pow_mul, Nat.pow_two, Nat.mul_assoc, Nat.mul_comm m]
theorem pq_step0 (c m q : Nat) : c * (m * m % 1499) ^ q % 1499 = c * m ^ (2 * q) % 1499 := by
  rw [Nat.mul_mod, ← Nat.pow_mod, ← Nat.mul_mod]
  congr 1
  rw [Nat.pow_mul, Nat.pow_two]
theorem pq_mul (x y : Nat) (hx : x < 1499) (hy : y < 1499) : Int.tmod (wrap64 ((x : Int) * (y : Int))) 1499 = ((x * y % 1499 : Nat) : Int) := by
  have h : x * y ≤ 1499 * 1499 := Nat.mul_le_mul (by omega) (by omega)
  have e : (x : Int) * (y : Int) = ((x * y : Nat) : Int) := by push_cast; rfl
  rw [e, wr (by omega) (by omega), tmod_pos (by omega)]
  omega
theorem pq_half (e : Nat) (h : e < 9000000000000000000) : wrap64 (Int.tdiv (e : Int) 2) = ((e / 2 : Nat) : Int) := by
  rw [tdiv_pos (by omega), wr (by omega) (by omega)]; omega
/-- c * m ^ e modulo 1499 -/
theorem spec_inv_loop (n : Nat) : ∀ (e m c k : Nat), e ≤ n → n < k → m < 1499 → c < 1499 → e < 9000000000000000000 →
    spec_l5Inverse.l0 k (m : Int) (c : Int) (e : Int) = some ((c * m ^ e % 1499 : Nat) : Int) := by
  induction n with
  | zero =>
    intro e m c k he hk hm hc hb
    obtain ⟨k, rfl⟩ : ∃ j, k = j + 1 := ⟨k - 1, by omega⟩
    obtain rfl : e = 0 := by omega
    simp only [spec_l5Inverse.l0]
    rw [if_neg (by omega), Nat.pow_zero, Nat.mul_one, Nat.mod_eq_of_lt hc]
  | succ n ih =>
    intro e m c k he hk hm hc hb
    obtain ⟨k, rfl⟩ : ∃ j, k = j + 1 := ⟨k - 1, by omega⟩
    simp only [spec_l5Inverse.l0]
    by_cases h0 : e = 0
    · subst h0
      rw [if_neg (by omega), Nat.pow_zero, Nat.mul_one, Nat.mod_eq_of_lt hc]
    · rw [if_pos (by omega), pq_mul m m hm hm, pq_half e hb, tmod_pos (by omega)]
      have hm2 : m * m % 1499 < 1499 := Nat.mod_lt _ (by omega)
      by_cases h1 : e % 2 = 1
      · rw [if_pos (by omega), pq_mul c m hc hm, ih (e / 2) _ _ k (by omega) (by omega) hm2 (Nat.mod_lt _ (by omega)) (by omega), pq_step]
        rw [show 2 * (e / 2) + 1 = e by omega]
      · rw [if_neg (by omega), ih (e / 2) _ _ k (by omega) (by omega) hm2 hc (by omega), pq_step0]
        rw [show 2 * (e / 2) = e by omega]
theorem inv_one (e m k : Nat) (hk : e < k) (hm : m < 1499) (hb : e < 9000000000000000000) : spec_l5Inverse.l0 k (m : Int) 1 (e : Int) = some ((((m : Int).toNat) ^ e % 1499 : Nat) : Int) := by
  have := spec_inv_loop e e m 1 k (by omega) hk hm (by omega) hb
  rw [Nat.one_mul] at this
  exact this
/-- one divided by a -/
def iv (a : Int) : Int := ((a.toNat ^ 1497 % 1499 : Nat) : Int)
theorem iv_range (a : Int) : 0 ≤ iv a ∧ iv a ≤ 1498 := by unfold iv; omega
theorem spec_iv {k : Nat} (hk : 1500 < k) (a : Int) (h : 0 ≤ a) (h' : a ≤ 1498) : spec_l5Inverse.f k a = some (iv a) := by
  obtain ⟨m, rfl⟩ := Int.eq_ofNat_of_zero_le h
  unfold spec_l5Inverse.f iv
  exact inv_one 1497 m k (by omega) (by omega) (by omega)
theorem cast_mod (c z : Nat) : some (((c * z % 1499 : Nat) : Nat) : Int) = some ((c : Int) * (z : Int) % 1499) := by
  rw [← Int.natCast_mul]
  generalize c * z = n
  refine congrArg some ?_
  omega
theorem divided_l0_eq (k : Nat) : ∀ b a e, impl_divided.l0 k b a e = spec_l5Inverse.l0 k b a e := by
  induction k with
  | zero => intros; rfl
  | succ k ih => intro b a e; simp only [impl_divided.l0, spec_l5Inverse.l0, ih]
theorem impl_div {k : Nat} (hk : 1500 < k) (a b : Int) (ha : -4000000000000000000 ≤ a) (ha' : a ≤ 4000000000000000000) (hb : -4000000000000000000 ≤ b) (hb' : b ≤ 4000000000000000000) :
    impl_divided.f k a b = some (a % 1499 * iv (b % 1499) % 1499) := by
  unfold impl_divided.f
  rw [impl_mod a ha ha', impl_mod b hb hb']
  simp only [Option.bind_some, divided_l0_eq]
  obtain ⟨m, hm⟩ := Int.eq_ofNat_of_zero_le (show 0 ≤ b % 1499 by omega)
  obtain ⟨c, hc⟩ := Int.eq_ofNat_of_zero_le (show 0 ≤ a % 1499 by omega)
  rw [hm, hc]
  have := spec_inv_loop 1497 1497 m c k (by omega) (by omega) (by omega) (by omega) (by omega)
  rw [show ((1497 : Nat) : Int) = 1497 from rfl] at this
  rw [this, iv, Int.toNat_natCast, Nat.mul_mod, Nat.mod_eq_of_lt (show c < 1499 by omega)]
  exact cast_mod _ _

/-! ins: between two numbers, in the reference -/
theorem in_some (a b c : Int) : spec_l1In.f a b c = some (decide (b ≤ a) && decide (a ≤ c)) := by
  unfold spec_l1In.f
  by_cases h : a ≥ b
  · rw [if_pos h]; have : b ≤ a := h; simp [this]
  · rw [if_neg h]; have : ¬ b ≤ a := h; simp [this]

/-! in: between two numbers -/
theorem within_eq (a b c : Int) : impl_within.f a b c = spec_l1In.f a b c := rfl

/-! inall: all numbers of a list between two numbers -/
def inAll (lo hi : Int) (xs : List Int) : Bool := xs.all fun x => decide (lo ≤ x) && decide (x ≤ hi)
theorem inAll_mem {lo hi : Int} {xs : List Int} (h : inAll lo hi xs = true) : ∀ x ∈ xs, lo ≤ x ∧ x ≤ hi := by
  intro x hx
  have := List.all_eq_true.1 h x hx
  simpa using this

/-! iall: all numbers of a list between two numbers, in the program -/
theorem iall_loop (lo up : Int) (xs : List Int) (hn : xs.length ≤ 35184372088832) (d : Nat) : ∀ (k : Nat) (i : Nat), i + d = xs.length → d < k →
    impl_allWithin.l0 k lo up xs (xs.length : Int) (i : Int) = some (inAll lo up (xs.drop i)) := by
  induction d with
  | zero =>
    intro k i hd hk
    obtain ⟨k, rfl⟩ : ∃ m, k = m + 1 := ⟨k - 1, by omega⟩
    simp only [impl_allWithin.l0]
    rw [if_neg (by omega), List.drop_of_length_le (by omega)]; rfl
  | succ d ih =>
    intro k i hd hk
    obtain ⟨k, rfl⟩ : ∃ m, k = m + 1 := ⟨k - 1, by omega⟩
    have hi : i < xs.length := by omega
    have h1 : (i : Int) < (xs.length : Int) := by omega
    have h2 : (0 : Int) ≤ (i : Int) := by omega
    simp only [impl_allWithin.l0]
    rw [if_pos h1, if_pos h2, if_pos h1, rd_at xs i hi, within_eq, in_some, wr_succ i (by omega), ih k (i + 1) (by omega) (by omega), List.drop_eq_getElem_cons hi]
    simp only [Option.bind_some, inAll, List.all_cons]
    generalize (decide (lo ≤ xs[i]) && decide (xs[i] ≤ up)) = b
    cases b <;> simp
theorem impl_all {k : Nat} (lo hi : Int) (xs : List Int) (hn : xs.length ≤ 35184372088832) (hk : xs.length < k) : impl_allWithin.f k xs lo hi = some (inAll lo hi xs) := by
  unfold impl_allWithin.f
  have := iall_loop lo hi xs hn xs.length k 0 (by omega) hk
  simpa using this

/-! has: a list has a number, in the reference -/
theorem mem_drop_step (xs : List Int) (v : Int) (i : Nat) (h : i < xs.length) : (v ∈ xs.drop i) ↔ xs[i] = v ∨ v ∈ xs.drop (i + 1) := by
  rw [List.drop_eq_getElem_cons h, List.mem_cons]
  constructor
  · rintro (h | h)
    · exact .inl h.symm
    · exact .inr h
  · rintro (h | h)
    · exact .inl h.symm
    · exact .inr h
theorem has_loop (xs : List Int) (v : Int) (hn : xs.length ≤ 35184372088832) (d : Nat) : ∀ (k : Nat) (i : Nat), i + d = xs.length → d < k → spec_l1Has.l0 k v xs (xs.length : Int) (i : Int) = some (decide (v ∈ xs.drop i)) := by
  induction d with
  | zero =>
    intro k i hd hk
    obtain ⟨k, rfl⟩ : ∃ m, k = m + 1 := ⟨k - 1, by omega⟩
    simp only [spec_l1Has.l0]
    rw [if_neg (by omega), List.drop_of_length_le (by omega)]; simp
  | succ d ih =>
    intro k i hd hk
    obtain ⟨k, rfl⟩ : ∃ m, k = m + 1 := ⟨k - 1, by omega⟩
    have hi : i < xs.length := by omega
    have h1 : (i : Int) < (xs.length : Int) := by omega
    have h2 : (0 : Int) ≤ (i : Int) := by omega
    simp only [spec_l1Has.l0]
    rw [if_pos h1, if_pos h2, if_pos h1, rd_at xs i hi, wr_succ i (by omega), ih k (i + 1) (by omega) (by omega)]
    simp only [mem_drop_step xs v i hi]
    by_cases h : xs[i] = v
    · rw [if_pos h]; simp [h]
    · rw [if_neg h]; simp [h]
theorem spec_has {k : Nat} (xs : List Int) (v : Int) (hn : xs.length ≤ 35184372088832) (hk : xs.length < k) : spec_l1Has.f k xs v = some (decide (v ∈ xs)) := by
  unfold spec_l1Has.f
  have := has_loop xs v hn xs.length k 0 (by omega) hk
  simpa using this

/-! contains: a list has a number, in the library's words -/
theorem mem_drop_step' (xs : List Int) (v : Int) (i : Nat) (h : i < xs.length) : (v ∈ xs.drop i) ↔ v = xs[i] ∨ v ∈ xs.drop (i + 1) := by
  rw [List.drop_eq_getElem_cons h, List.mem_cons]
theorem index_loop (xs : List Int) (v : Int) (hn : xs.length ≤ 35184372088832) (d : Nat) : ∀ (k : Nat) (i : Nat), i + d = xs.length → d < k → ∃ r, slices_Index_int_int.l0 k xs v (xs.length : Int) (i : Int) = some r ∧ (r ≥ 0 ↔ v ∈ xs.drop i) := by
  induction d with
  | zero =>
    intro k i hd hk
    obtain ⟨k, rfl⟩ : ∃ m, k = m + 1 := ⟨k - 1, by omega⟩
    simp only [slices_Index_int_int.l0]
    rw [if_neg (by omega), List.drop_of_length_le (by omega)]
    exact ⟨-1, rfl, by simp⟩
  | succ d ih =>
    intro k i hd hk
    obtain ⟨k, rfl⟩ : ∃ m, k = m + 1 := ⟨k - 1, by omega⟩
    have hi : i < xs.length := by omega
    have h1 : (i : Int) < (xs.length : Int) := by omega
    have h2 : (0 : Int) ≤ (i : Int) := by omega
    simp only [slices_Index_int_int.l0]
    rw [if_pos h1, if_pos h2, if_pos h1, rd_at xs i hi, wr_succ i (by omega), mem_drop_step' xs v i hi]
    by_cases h : v = xs[i]
    · rw [if_pos h]
      exact ⟨i, rfl, by simp [h]⟩
    · rw [if_neg h]
      obtain ⟨r, h3, h4⟩ := ih k (i + 1) (by omega) (by omega)
      exact ⟨r, h3, by rw [h4]; simp [h]⟩
theorem lib_contains {k : Nat} (xs : List Int) (v : Int) (hn : xs.length ≤ 35184372088832) (hk : xs.length < k) : slices_Contains_int_int.f k xs v = some (decide (v ∈ xs)) := by
  unfold slices_Contains_int_int.f slices_Index_int_int.f
  obtain ⟨r, h1, h2⟩ := index_loop xs v hn xs.length k 0 (by omega) hk
  rw [show ((0 : Nat) : Int) = 0 from rfl] at h1
  rw [List.drop_zero] at h2
  simp only [h1, Option.bind_some, h2]

/-! unlikexs: numbers unlike each other, in both texts -/
def uq (xs : List Int) : Nat → Nat → Bool
  | 0, _ => true
  | d + 1, i => !decide (xs.getD i 0 ∈ xs.take i) && uq xs d (i + 1)
def goodXs (xs : List Int) : Bool := uq xs xs.length 0 && (decide (1 ≤ (xs.length : Int)) && decide ((xs.length : Int) ≤ 8)) && inAll 1 1498 xs
theorem spec_xs_loop (xs : List Int) (hn : xs.length ≤ 35184372088832) (d : Nat) : ∀ (k : Nat) (i : Nat), i + d = xs.length → d + xs.length < k →
    spec_l5Xs.l0 k xs xs (xs.length : Int) (i : Int) = some (uq xs d i && (decide (1 ≤ (xs.length : Int)) && decide ((xs.length : Int) ≤ 8)) && inAll 1 1498 (xs.drop i)) := by
  induction d with
  | zero =>
    intro k i hd hk
    obtain ⟨k, rfl⟩ : ∃ m, k = m + 1 := ⟨k - 1, by omega⟩
    simp only [spec_l5Xs.l0]
    rw [if_neg (by omega), in_some, List.drop_of_length_le (by omega)]
    simp [uq, inAll]
  | succ d ih =>
    intro k i hd hk
    obtain ⟨k, rfl⟩ : ∃ m, k = m + 1 := ⟨k - 1, by omega⟩
    have hi : i < xs.length := by omega
    have h1 : (i : Int) < (xs.length : Int) := by omega
    have h2 : (0 : Int) ≤ (i : Int) := by omega
    have h3 : (i : Int) ≤ (xs.length : Int) := by omega
    have hg : xs.getD i 0 = xs[i] := by rw [List.getD_eq_getElem?_getD, List.getElem?_eq_getElem hi]; rfl
    have ht : (xs.take i).length ≤ xs.length := by simp; omega
    simp only [spec_l5Xs.l0, uq]
    rw [if_pos h1, if_pos h2, if_pos h1, if_pos h3, rd_at xs i hi, hg, wr_succ i (by omega), in_some, Int.toNat_natCast, spec_has (k := k) _ _ (by omega) (by omega), ih k (i + 1) (by omega) (by omega), List.drop_eq_getElem_cons hi]
    simp only [Option.bind_some, inAll, List.all_cons]
    generalize (decide (1 ≤ xs[i]) && decide (xs[i] ≤ 1498)) = b
    generalize decide (xs[i] ∈ xs.take i) = c
    cases b <;> cases c <;> simp
theorem spec_xs {k : Nat} (xs : List Int) (hn : xs.length ≤ 35184372088832) (hk : 2 * xs.length < k) : spec_l5Xs.f k xs = some (goodXs xs) := by
  unfold spec_l5Xs.f
  have := spec_xs_loop xs hn xs.length k 0 (by omega) (by omega)
  simpa [goodXs] using this
theorem impl_xs_loop (xs : List Int) (hn : xs.length ≤ 35184372088832) (d : Nat) : ∀ (k : Nat) (i : Nat), i + d = xs.length → d + 1 + xs.length < k →
    impl_areUnlike.l0 k xs xs (xs.length : Int) (i : Int) = some (uq xs d i && (decide (1 ≤ (xs.length : Int)) && decide ((xs.length : Int) ≤ 8)) && inAll 1 1498 xs) := by
  induction d with
  | zero =>
    intro k i hd hk
    obtain ⟨k, rfl⟩ : ∃ m, k = m + 1 := ⟨k - 1, by omega⟩
    simp only [impl_areUnlike.l0]
    rw [if_neg (by omega), within_eq, in_some, impl_all 1 1498 xs hn (by omega)]
    simp only [Option.bind_some, uq, Bool.true_and]
    cases (decide (1 ≤ (xs.length : Int)) && decide ((xs.length : Int) ≤ 8)) <;> simp
  | succ d ih =>
    intro k i hd hk
    obtain ⟨k, rfl⟩ : ∃ m, k = m + 1 := ⟨k - 1, by omega⟩
    have hi : i < xs.length := by omega
    have h1 : (i : Int) < (xs.length : Int) := by omega
    have h2 : (0 : Int) ≤ (i : Int) := by omega
    have h3 : (i : Int) ≤ (xs.length : Int) := by omega
    have hg : xs.getD i 0 = xs[i] := by rw [List.getD_eq_getElem?_getD, List.getElem?_eq_getElem hi]; rfl
    have ht : (xs.take i).length ≤ xs.length := by simp; omega
    simp only [impl_areUnlike.l0, uq]
    rw [if_pos h1, if_pos h2, if_pos h1, if_pos h3, rd_at xs i hi, hg, wr_succ i (by omega), Int.toNat_natCast, lib_contains (k := k) _ _ (by omega) (by omega), ih k (i + 1) (by omega) (by omega)]
    simp only [Option.bind_some]
    generalize decide (xs[i] ∈ xs.take i) = c
    cases c <;> simp
theorem impl_xs {k : Nat} (xs : List Int) (hn : xs.length ≤ 35184372088832) (hk : 2 * xs.length + 1 < k) : impl_areUnlike.f k xs = some (goodXs xs) := by
  unfold impl_areUnlike.f
  have := impl_xs_loop xs hn xs.length k 0 (by omega) (by omega)
  simpa [goodXs] using this
theorem goodXs_all {xs : List Int} (h : goodXs xs = true) : 1 ≤ xs.length ∧ xs.length ≤ 8 ∧ ∀ x ∈ xs, 1 ≤ x ∧ x ≤ 1498 := by
  simp [goodXs] at h
  exact ⟨by omega, by omega, inAll_mem h.2⟩

/-! sall: all numbers of a list between two numbers, in the reference -/
theorem all_loop (lo up : Int) (xs : List Int) (hn : xs.length ≤ 35184372088832) (d : Nat) : ∀ (k : Nat) (i : Nat), i + d = xs.length → d < k →
    spec_l1All.l0 k lo up xs (xs.length : Int) (i : Int) = some (inAll lo up (xs.drop i)) := by
  induction d with
  | zero =>
    intro k i hd hk
    obtain ⟨k, rfl⟩ : ∃ m, k = m + 1 := ⟨k - 1, by omega⟩
    simp only [spec_l1All.l0]
    rw [if_neg (by omega), List.drop_of_length_le (by omega)]; rfl
  | succ d ih =>
    intro k i hd hk
    obtain ⟨k, rfl⟩ : ∃ m, k = m + 1 := ⟨k - 1, by omega⟩
    have hi : i < xs.length := by omega
    have h1 : (i : Int) < (xs.length : Int) := by omega
    have h2 : (0 : Int) ≤ (i : Int) := by omega
    simp only [spec_l1All.l0]
    rw [if_pos h1, if_pos h2, if_pos h1, rd_at xs i hi, in_some, wr_succ i (by omega), ih k (i + 1) (by omega) (by omega), List.drop_eq_getElem_cons hi]
    simp only [Option.bind_some, inAll, List.all_cons]
    generalize (decide (lo ≤ xs[i]) && decide (xs[i] ≤ up)) = b
    cases b <;> simp
theorem spec_all {k : Nat} (lo hi : Int) (xs : List Int) (hn : xs.length ≤ 35184372088832) (hk : xs.length < k) : spec_l1All.f k xs lo hi = some (inAll lo hi xs) := by
  unfold spec_l1All.f
  have := all_loop lo hi xs hn xs.length k 0 (by omega) hk
  simpa using this

/-! partsof: good parts, in both texts -/
def pX (l : List S70) : List Int := l.map fun p => p.f0
def pY (l : List S70) : List Int := l.map fun p => p.f1
theorem pX_len (l : List S70) : (pX l).length = l.length := by simp [pX]
theorem pY_len (l : List S70) : (pY l).length = l.length := by simp [pY]
theorem split_loop (l : List S70) (hn : l.length ≤ 8796093022208) (d : Nat) : ∀ (k : Nat) (xs ys : List Int) (i : Nat), xs.length = i → ys.length = i → i + d = l.length → d < k →
    spec_l5Split.l0 k xs ys l (l.length : Int) (i : Int) = some (xs ++ pX (l.drop i), ys ++ pY (l.drop i)) := by
  induction d with
  | zero =>
    intro k xs ys i hx hy hd hk
    obtain ⟨k, rfl⟩ : ∃ m, k = m + 1 := ⟨k - 1, by omega⟩
    simp only [spec_l5Split.l0]
    rw [if_neg (by omega), List.drop_of_length_le (by omega)]
    simp [pX, pY]
  | succ d ih =>
    intro k xs ys i hx hy hd hk
    obtain ⟨k, rfl⟩ : ∃ m, k = m + 1 := ⟨k - 1, by omega⟩
    have hi : i < l.length := by omega
    have h1 : (i : Int) < (l.length : Int) := by omega
    have h2 : (0 : Int) ≤ (i : Int) := by omega
    have h3 : xs.length < 17592186044416 := by omega
    have h4 : ys.length < 17592186044416 := by omega
    simp only [spec_l5Split.l0]
    rw [if_pos h1, if_pos h2, if_pos h1, if_pos h3, if_pos h4, rdp_at l i hi, wr_succ i (by omega), ih k _ _ (i + 1) (by simp; omega) (by simp; omega) (by omega) (by omega), List.drop_eq_getElem_cons hi]
    simp only [pX, pY, List.map_cons, List.append_assoc, List.singleton_append]
theorem spec_split {k : Nat} (l : List S70) (hn : l.length ≤ 8796093022208) (hk : l.length < k) : spec_l5Split.f k l = some (pX l, pY l) := by
  unfold spec_l5Split.f
  have := split_loop l hn l.length k [] [] 0 rfl rfl (by omega) hk
  simpa using this
theorem places_loop (l : List S70) (hn : l.length ≤ 8796093022208) (d : Nat) : ∀ (k : Nat) (xs : List Int) (i : Nat), xs.length = i → i + d = l.length → d < k →
    impl_placesOf.l0 k xs l (l.length : Int) (i : Int) = some (xs ++ pX (l.drop i)) := by
  induction d with
  | zero =>
    intro k xs i hx hd hk
    obtain ⟨k, rfl⟩ : ∃ m, k = m + 1 := ⟨k - 1, by omega⟩
    simp only [impl_placesOf.l0]
    rw [if_neg (by omega), List.drop_of_length_le (by omega)]
    simp [pX]
  | succ d ih =>
    intro k xs i hx hd hk
    obtain ⟨k, rfl⟩ : ∃ m, k = m + 1 := ⟨k - 1, by omega⟩
    have hi : i < l.length := by omega
    have h1 : (i : Int) < (l.length : Int) := by omega
    have h2 : (0 : Int) ≤ (i : Int) := by omega
    have h3 : xs.length < 17592186044416 := by omega
    simp only [impl_placesOf.l0]
    rw [if_pos h1, if_pos h2, if_pos h1, if_pos h3, rdp_at l i hi, wr_succ i (by omega), ih k _ (i + 1) (by simp; omega) (by omega) (by omega), List.drop_eq_getElem_cons hi]
    simp only [pX, List.map_cons, List.append_assoc, List.singleton_append]
theorem impl_places {k : Nat} (l : List S70) (hn : l.length ≤ 8796093022208) (hk : l.length < k) : impl_placesOf.f k l = some (pX l) := by
  unfold impl_placesOf.f
  have := places_loop l hn l.length k [] 0 rfl (by omega) hk
  simpa using this
def goodParts (l : List S70) : Bool := goodXs (pX l) && inAll 0 1498 (pY l)
theorem spec_parts {k : Nat} (l : List S70) (hn : l.length ≤ 8796093022208) (hk : 2 * l.length + 2 < k) : spec_l5Parts.f k l = some (goodParts l) := by
  have hx := pX_len l
  have hy := pY_len l
  unfold spec_l5Parts.f goodParts
  rw [spec_split l hn (by omega), Option.bind_some, spec_xs (pX l) (by omega) (by omega), Option.bind_some]
  by_cases h : goodXs (pX l) = true
  · rw [if_pos h, spec_all 0 1498 (pY l) (by omega) (by omega), h, Option.bind_some, Bool.true_and]
  · have h' : goodXs (pX l) = false := by simpa using h
    rw [if_neg h, h', Bool.false_and]
theorem part_1 (a b : Int) : impl_areParts_1.f a b = some (!(decide (0 ≤ b) && decide (b ≤ 1498))) := by
  unfold impl_areParts_1.f impl_isValue.f
  rw [within_eq, in_some, Option.bind_some, Option.bind_some]
theorem parts_index (l : List S70) (hn : l.length ≤ 8796093022208) (d : Nat) : ∀ (k : Nat) (i : Nat), i + d = l.length → d < k →
    ∃ r, impl_Part_138.l0 k l (l.length : Int) (i : Int) = some r ∧ (decide (r ≥ 0) = !(inAll 0 1498 (pY (l.drop i)))) := by
  induction d with
  | zero =>
    intro k i hd hk
    obtain ⟨k, rfl⟩ : ∃ m, k = m + 1 := ⟨k - 1, by omega⟩
    refine ⟨-1, ?_, ?_⟩
    · simp only [impl_Part_138.l0]
      rw [if_neg (by omega)]
    · rw [List.drop_of_length_le (by omega)]
      simp [pY, inAll]
  | succ d ih =>
    intro k i hd hk
    obtain ⟨k, rfl⟩ : ∃ m, k = m + 1 := ⟨k - 1, by omega⟩
    have hi : i < l.length := by omega
    have h1 : (i : Int) < (l.length : Int) := by omega
    have h2 : (0 : Int) ≤ (i : Int) := by omega
    have e : inAll 0 1498 (pY (l.drop i)) = ((decide (0 ≤ l[i].f1) && decide (l[i].f1 ≤ 1498)) && inAll 0 1498 (pY (l.drop (i + 1)))) := by
      rw [List.drop_eq_getElem_cons hi]; simp only [pY, inAll, List.map_cons, List.all_cons]
    rw [e]
    simp only [impl_Part_138.l0]
    rw [if_pos h1, if_pos h2, if_pos h1, part_1, Option.bind_some, rdp_at l i hi]
    cases hb : (decide (0 ≤ l[i].f1) && decide (l[i].f1 ≤ 1498))
    · refine ⟨(i : Int), by rw [if_pos (by rfl)], by simp⟩
    · obtain ⟨r, r1, r2⟩ := ih k (i + 1) (by omega) (by omega)
      refine ⟨r, ?_, by simpa using r2⟩
      rw [if_neg (by simp), wr_succ i (by omega)]
      exact r1
theorem impl_parts {k : Nat} (l : List S70) (hn : l.length ≤ 8796093022208) (hk : 2 * l.length + 2 < k) : impl_areParts.f k l = some (goodParts l) := by
  have hx := pX_len l
  unfold impl_areParts.f goodParts
  rw [impl_places l hn (by omega), Option.bind_some, impl_xs (pX l) (by omega) (by omega), Option.bind_some]
  by_cases h : goodXs (pX l) = true
  · obtain ⟨r, r1, r2⟩ := parts_index l hn l.length k 0 (by omega) (by omega)
    rw [show ((0 : Nat) : Int) = 0 from rfl] at r1
    rw [if_pos h, h]
    unfold impl_Part_134.f impl_Part_138.f
    rw [r1, Option.bind_some, Option.bind_some, r2, List.drop_zero]
    simp
  · have h' : goodXs (pX l) = false := by simpa using h
    rw [if_neg h, h', Bool.false_and]

/-! addgood: what good parts are -/
theorem good_len {l : List S70} (h : goodParts l = true) : 1 ≤ l.length ∧ l.length ≤ 8 := by
  have hx := pX_len l
  unfold goodParts at h
  have := goodXs_all (Bool.and_eq_true_iff.1 h).1
  omega
theorem good_y {l : List S70} (h : goodParts l = true) (i : Nat) (hi : i < l.length) : 0 ≤ (rd_T70 l (i : Int)).f1 ∧ (rd_T70 l (i : Int)).f1 ≤ 1498 := by
  unfold goodParts at h
  rw [rdp_at l i hi]
  exact inAll_mem (Bool.and_eq_true_iff.1 h).2 _ (by unfold pY; exact List.mem_map.2 ⟨l[i], List.getElem_mem hi, rfl⟩)
theorem good_ys {l : List S70} (h : goodParts l = true) : ∀ y ∈ pY l, 0 ≤ y ∧ y ≤ 1498 := by
  unfold goodParts at h
  exact inAll_mem (Bool.and_eq_true_iff.1 h).2
theorem good_xs1 {l : List S70} (h : goodParts l = true) : ∀ x ∈ pX l, 1 ≤ x ∧ x ≤ 1498 := by
  unfold goodParts at h
  exact (goodXs_all (Bool.and_eq_true_iff.1 h).1).2.2
theorem good_xs {l : List S70} (h : goodParts l = true) : ∀ x ∈ pX l, 0 ≤ x ∧ x ≤ 1498 := fun x hx => by have := good_xs1 h x hx; omega

/-! polythrough: the polynomial through parts, in both texts -/
/-- modulo 1499 the same -/
def M9 (a b : Int) : Prop := a % 1499 = b % 1499
theorem M9.rfl {a : Int} : M9 a a := by unfold M9; exact Eq.refl _
theorem M9.symm {a b : Int} (h : M9 a b) : M9 b a := by unfold M9 at *; exact h.symm
theorem M9.trans {a b c : Int} (h : M9 a b) (g : M9 b c) : M9 a c := by unfold M9 at *; exact h.trans g
theorem M9.of {a b : Int} (h : a = b) : M9 a b := by rw [h]; exact M9.rfl
theorem M9.add {a b c d : Int} (h : M9 a b) (g : M9 c d) : M9 (a + c) (b + d) := by unfold M9 at *; rw [Int.add_emod, h, g, ← Int.add_emod]
theorem M9.sub {a b c d : Int} (h : M9 a b) (g : M9 c d) : M9 (a - c) (b - d) := by unfold M9 at *; rw [Int.sub_emod, h, g, ← Int.sub_emod]
theorem M9.mul {a b c d : Int} (h : M9 a b) (g : M9 c d) : M9 (a * c) (b * d) := by unfold M9 at *; rw [Int.mul_emod, h, g, ← Int.mul_emod]
theorem M9.neg {a b : Int} (h : M9 a b) : M9 (-a) (-b) := by have := M9.sub (M9.rfl (a := 0)) h; simpa using this
theorem M9.mod (a : Int) : M9 (a % 1499) a := by unfold M9; omega
theorem M9.pow {a b : Int} (h : M9 a b) (n : Nat) : M9 (a ^ n) (b ^ n) := by
  induction n with
  | zero => exact M9.of (by simp)
  | succ n ih => rw [Int.pow_succ, Int.pow_succ]; exact ih.mul h
theorem M9.eq {a b : Int} (h : M9 a b) (ha : 0 ≤ a) (ha' : a ≤ 1498) (hb : 0 ≤ b) (hb' : b ≤ 1498) : a = b := by unfold M9 at h; omega
theorem M9.eqm {a b : Int} (h : M9 a b) : a % 1499 = b % 1499 := h
theorem iv_gen (n e : Nat) : M9 ((n ^ e % 1499 : Nat) : Int) ((n : Int) ^ e) := by
  unfold M9
  rw [Int.natCast_emod, Int.natCast_pow]
  generalize (n : Int) ^ e = q
  omega
theorem iv_M9 (a : Int) (h : 0 ≤ a) : M9 (iv a) (a ^ 1497) := by
  have := iv_gen a.toNat 1497
  rw [Int.toNat_of_nonneg h] at this
  exact this
theorem odd_pow (u v : Int) (h : u = -v) (n : Nat) : u ^ (2 * n + 1) = -(v ^ (2 * n + 1)) := by
  subst h
  rw [Int.pow_succ, Int.pow_succ, Int.pow_mul, Int.pow_mul, show (-v) ^ 2 = v ^ 2 by rw [Int.pow_succ, Int.pow_succ, Int.pow_succ, Int.pow_succ, Int.pow_zero, Int.pow_zero]; grind]
  grind
theorem mul_pow9 (u v : Int) (n : Nat) : (u * v) ^ n = u ^ n * v ^ n := by
  induction n with
  | zero => simp
  | succ n ih => rw [Int.pow_succ, Int.pow_succ, Int.pow_succ, ih]; grind
/-- the quotient's step: with one factor more below -/
theorem iv_step (d o x : Int) (hd : 0 ≤ d) : M9 (iv d * iv ((x - o) % 1499)) (-(iv (d * ((o - x) % 1499) % 1499))) := by
  have a1 := iv_M9 d hd
  have a2 := (iv_M9 ((x - o) % 1499) (by omega)).trans ((M9.mod (x - o)).pow 1497)
  have a3 := (iv_M9 (d * ((o - x) % 1499) % 1499) (by omega)).trans ((M9.mod _).pow 1497)
  have a4 : M9 (iv (d * ((o - x) % 1499) % 1499)) ((d * (o - x)) ^ 1497) := a3.trans ((M9.rfl.mul (M9.mod (o - x))).pow 1497)
  rw [mul_pow9] at a4
  have a5 := odd_pow (x - o) (o - x) (by omega) 748
  rw [show 2 * 748 + 1 = 1497 from Eq.refl _] at a5
  rw [a5] at a2
  refine (a1.mul a2).trans (M9.trans ?_ a4.neg.symm)
  exact M9.of (by rw [Int.mul_neg])
/-- a number times y, divided -/
def gy (y v z : Int) : Int := z * y % 1499 * v % 1499
theorem gy_M9 (y v z : Int) : M9 (gy y v z) (z * y * v) := (M9.mod _).trans ((M9.mod _).mul M9.rfl)
theorem gy_range (y v z : Int) : 0 ≤ gy y v z ∧ gy y v z ≤ 1498 := by unfold gy; omega
theorem gy_one (y : Int) (h : 0 ≤ y) (h' : y ≤ 1498) : gy y (iv 1) 1 = y := by
  refine M9.eq ((gy_M9 y (iv 1) 1).trans ?_) (gy_range _ _ _).1 (gy_range _ _ _).2 h h'
  have := iv_M9 1 (by omega)
  rw [Int.one_pow] at this
  exact (M9.rfl.mul this).trans (M9.of (by omega))
theorem gy_zero (y v : Int) : gy y v 0 = 0 := by unfold gy; simp
theorem gy_step (y d o x c z : Int) (hd : 0 ≤ d) :
    (gy y (iv (d * ((o - x) % 1499) % 1499)) c - gy y (iv d) z * o % 1499 * iv ((x - o) % 1499) % 1499) % 1499 = gy y (iv (d * ((o - x) % 1499) % 1499)) ((c + z * o) % 1499) := by
  have h := iv_step d o x hd
  generalize iv (d * ((o - x) % 1499) % 1499) = v' at *
  generalize iv ((x - o) % 1499) = w at *
  generalize iv d = v at *
  refine M9.eq ?_ (by omega) (by omega) (gy_range _ _ _).1 (gy_range _ _ _).2
  have e2 : M9 (gy y v z * o % 1499 * w % 1499) (z * y * o * (v * w)) :=
    (M9.mod _).trans (((M9.mod _).mul M9.rfl).trans ((((gy_M9 y v z).mul M9.rfl).mul M9.rfl).trans (M9.of (by grind))))
  have e3 : M9 (gy y v' ((c + z * o) % 1499)) ((c + z * o) * y * v') := (gy_M9 _ _ _).trans (((M9.mod _).mul M9.rfl).mul M9.rfl)
  refine (M9.mod _).trans (M9.trans ((gy_M9 y v' c).sub (e2.trans (M9.rfl.mul h))) (M9.trans (M9.of ?_) e3.symm))
  grind
theorem gy_step0 (y d o x z : Int) (hd : 0 ≤ d) :
    (0 + gy y (iv d) z % 1499 * iv ((x - o) % 1499) % 1499) % 1499 = gy y (iv (d * ((o - x) % 1499) % 1499)) ((0 - z) % 1499) := by
  have h := iv_step d o x hd
  generalize iv (d * ((o - x) % 1499) % 1499) = v' at *
  generalize iv ((x - o) % 1499) = w at *
  generalize iv d = v at *
  refine M9.eq ?_ (by omega) (by omega) (gy_range _ _ _).1 (gy_range _ _ _).2
  have e2 : M9 (gy y v z % 1499 * w % 1499) (z * y * (v * w)) :=
    (M9.mod _).trans ((((M9.mod _).trans (gy_M9 y v z)).mul M9.rfl).trans (M9.of (by grind)))
  have e3 : M9 (gy y v' ((0 - z) % 1499)) ((0 - z) * y * v') := (gy_M9 _ _ _).trans (((M9.mod _).mul M9.rfl).mul M9.rfl)
  refine (M9.mod _).trans (M9.trans (M9.rfl.add (e2.trans (M9.rfl.mul h))) (M9.trans (M9.of ?_) e3.symm))
  grind
/-- a polynomial times (o less the place), in the reference -/
def nx (o : Int) : Int → List Int → List Int
  | c, [] => [c]
  | c, a :: t => ((c + a * o) % 1499) :: nx o ((0 - a) % 1499) t
/-- .. in the program, divided by w -/
def nxi (o w : Int) : Int → List Int → List Int
  | c, [] => [c]
  | c, a :: t => ((c - a * o % 1499 * w % 1499) % 1499) :: nxi o w ((0 + a % 1499 * w % 1499) % 1499) t
theorem nx_len (o : Int) (p : List Int) : ∀ c, (nx o c p).length = p.length + 1 := by
  induction p with
  | nil => intro c; simp [nx]
  | cons a t ih => intro c; simp [nx, ih]
theorem nx_range (o : Int) (p : List Int) : ∀ c, 0 ≤ c → c ≤ 1498 → ∀ z ∈ nx o c p, 0 ≤ z ∧ z ≤ 1498 := by
  induction p with
  | nil => intro c h h' z hz; simp [nx] at hz; omega
  | cons a t ih =>
    intro c h h' z hz
    simp only [nx, List.mem_cons] at hz
    rcases hz with hz | hz
    · omega
    · exact ih _ (by omega) (by omega) z hz
theorem nxi_eq (y d o x : Int) (hd : 0 ≤ d) (p : List Int) : ∀ c,
    nxi o (iv ((x - o) % 1499)) (gy y (iv (d * ((o - x) % 1499) % 1499)) c) (p.map (gy y (iv d))) = (nx o c p).map (gy y (iv (d * ((o - x) % 1499) % 1499))) := by
  induction p with
  | nil => intro c; simp [nx, nxi]
  | cons a t ih =>
    intro c
    simp only [nx, nxi, List.map_cons]
    rw [gy_step y d o x c a hd, gy_step0 y d o x a hd, ih]
/-! lists that are being written -/
theorem set_here (D : List Int) (c v : Int) (t : List Int) : (D ++ c :: t).set D.length v = D ++ v :: t := by
  induction D with
  | nil => rfl
  | cons a D ih => simp [ih]
theorem set_next (D : List Int) (c b v : Int) (t : List Int) : (D ++ c :: b :: t).set (D.length + 1) v = D ++ c :: v :: t := by
  induction D with
  | nil => rfl
  | cons a D ih => simp [ih]
theorem rd_here (D : List Int) (c : Int) (t : List Int) : rd (D ++ c :: t) (D.length : Int) = c := by
  rw [rd_at _ _ (by simp)]; simp
theorem rd_next (D : List Int) (c b : Int) (t : List Int) : rd (D ++ c :: b :: t) ((D.length + 1 : Nat) : Int) = b := by
  rw [rd_at _ _ (by simp)]; simp
theorem drop_cons9 (p : List Int) (i : Nat) (h : i < p.length) : p.drop i = rd p (i : Int) :: p.drop (i + 1) := by
  rw [List.drop_eq_getElem_cons h, rd_at p i h]
theorem rd_in9 {p : List Int} (h : ∀ z ∈ p, 0 ≤ z ∧ z ≤ 1498) (j : Nat) (hj : j < p.length) : 0 ≤ rd p (j : Int) ∧ rd p (j : Int) ≤ 1498 := by
  rw [rd_at p j hj]; exact h _ (List.getElem_mem hj)
theorem sq9 (x y : Int) (hx : 0 ≤ x) (hx' : x ≤ 1498) (hy : 0 ≤ y) (hy' : y ≤ 1498) : 0 ≤ x * y ∧ x * y ≤ 2244004 := by
  refine ⟨Int.mul_nonneg hx hy, ?_⟩
  have := Int.mul_le_mul hx' hy' hy (by omega : (0 : Int) ≤ 1498)
  omega
theorem spec_l2 (k : Nat) (xs ys out : List Int) (i x dd o : Int) (zs : List Int) (n e : Int) (us : List Int) (m j : Int) (p : List Int) (hp : ∀ z ∈ p, 0 ≤ z ∧ z ≤ 1498) (h8 : p.length ≤ 9) (ho : 0 ≤ o) (ho' : o ≤ 1498) (hx : 0 ≤ x) (hx' : x ≤ 1498) (hdd : 0 ≤ dd) (hdd' : dd ≤ 1498) (r : Nat) :
    ∀ (D : List Int) (c : Int), 0 ≤ c → c ≤ 1498 → D.length + r = p.length →
    spec_PolyThrough.l2 (k + r + 1) xs ys out i x dd o (D ++ c :: List.replicate r 0) zs n e us m j p (p.length : Int) (D.length : Int) = spec_PolyThrough.l1 k xs ys out i x (D ++ nx o c (p.drop D.length)) (dd * ((o - x) % 1499) % 1499) zs n e us m (wrap64 (j + 1)) := by
  induction r with
  | zero =>
    intro D c hc hc' hD
    simp only [spec_PolyThrough.l2]
    obtain ⟨u1, u2⟩ := sq9 dd ((o - x) % 1499) hdd hdd' (by omega) (by omega)
    rw [if_neg (by omega), wr (x := o - x) (by omega) (by omega), spec_mod _ (by omega) (by omega), Option.bind_some, wr (x := dd * ((o - x) % 1499)) (by omega) (by omega), tmod_pos u1, List.drop_of_length_le (by omega)]
    simp [nx]
  | succ r ih =>
    intro D c hc hc' hD
    have h1 : (D.length : Int) < (p.length : Int) := by omega
    have h2 : (0 : Int) ≤ (D.length : Int) := by omega
    have hl : (D ++ c :: List.replicate (r + 1) 0).length = D.length + r + 2 := by simp; omega
    have h3 : (D.length : Int) < ((D ++ c :: List.replicate (r + 1) 0).length : Int) := by rw [hl]; omega
    have h4 : ((D.length + 1 : Nat) : Int) < ((D ++ c :: List.replicate (r + 1) 0).length : Int) := by rw [hl]; omega
    have h5 : (0 : Int) ≤ ((D.length + 1 : Nat) : Int) := by omega
    obtain ⟨a1, a2⟩ := rd_in9 hp D.length (by omega)
    obtain ⟨u1, u2⟩ := sq9 _ o a1 a2 ho ho'
    rw [show k + (r + 1) + 1 = (k + r + 1) + 1 by omega, drop_cons9 p D.length (by omega)]
    rw [spec_PolyThrough.l2, nx]
    rw [if_pos h1, if_pos h2, if_pos h1, if_pos h3, rd_here]
    generalize rd p (D.length : Int) = a at *
    rw [wr (x := a * o) (by omega) (by omega), wr (x := c + a * o) (by omega) (by omega), spec_mod _ (by omega) (by omega), Option.bind_some, Option.bind_some, wr_succ D.length (by omega), if_pos h5, if_pos h4, Int.toNat_natCast, Int.toNat_natCast, set_here, List.replicate_succ, rd_next, wr (x := 0 - a) (by omega) (by omega), spec_mod _ (by omega) (by omega), Option.bind_some, set_next]
    have := ih (D ++ [(c + a * o) % 1499]) ((0 - a) % 1499) (by omega) (by omega) (by simp; omega)
    simp only [List.append_assoc, List.length_append, List.length_singleton, List.singleton_append] at this
    exact this
theorem impl_l2 (k : Nat) (hk : 1600 < k) (l : List S70) (out : List Int) (i : Int) (zs : List S70) (n e : Int) (us : List S70) (m j : Int) (p : List Int) (x y o oy : Int) (hp : ∀ z ∈ p, 0 ≤ z ∧ z ≤ 1498) (h8 : p.length ≤ 9) (ho : 0 ≤ o) (ho' : o ≤ 1498) (hx : 0 ≤ x) (hx' : x ≤ 1498) (r : Nat) :
    ∀ (D : List Int) (c : Int), 0 ≤ c → c ≤ 1498 → D.length + r = p.length →
    impl_PolyThrough.l2 (k + r + 1) l out i (D ++ c :: List.replicate r 0) zs n e us m j p (p.length : Int) (D.length : Int) x y o oy = impl_PolyThrough.l1 k l out i (D ++ nxi o (iv ((x - o) % 1499)) c (p.drop D.length)) zs n e us m (wrap64 (j + 1)) x y := by
  induction r with
  | zero =>
    intro D c hc hc' hD
    simp only [impl_PolyThrough.l2]
    rw [if_neg (by omega), List.drop_of_length_le (by omega)]
    simp [nxi]
  | succ r ih =>
    intro D c hc hc' hD
    have h1 : (D.length : Int) < (p.length : Int) := by omega
    have h2 : (0 : Int) ≤ (D.length : Int) := by omega
    have hl : (D ++ c :: List.replicate (r + 1) 0).length = D.length + r + 2 := by simp; omega
    have h3 : (D.length : Int) < ((D ++ c :: List.replicate (r + 1) 0).length : Int) := by rw [hl]; omega
    have h4 : ((D.length + 1 : Nat) : Int) < ((D ++ c :: List.replicate (r + 1) 0).length : Int) := by rw [hl]; omega
    have h5 : (0 : Int) ≤ ((D.length + 1 : Nat) : Int) := by omega
    obtain ⟨a1, a2⟩ := rd_in9 hp D.length (by omega)
    obtain ⟨u1, u2⟩ := sq9 _ o a1 a2 ho ho'
    rw [show k + (r + 1) + 1 = (k + r + 1) + 1 by omega, drop_cons9 p D.length (by omega)]
    rw [impl_PolyThrough.l2, nxi]
    rw [if_pos h1, if_pos h2, if_pos h1, wr_succ D.length (by omega), if_pos h5, if_pos h4]
    generalize rd p (D.length : Int) = a at *
    have v1 : 0 ≤ a % 1499 * iv ((x - o) % 1499) % 1499 := by omega
    have v2 : a % 1499 * iv ((x - o) % 1499) % 1499 ≤ 1498 := by omega
    have v3 : 0 ≤ a * o % 1499 * iv ((x - o) % 1499) % 1499 := by omega
    have v4 : a * o % 1499 * iv ((x - o) % 1499) % 1499 ≤ 1498 := by omega
    rw [wr (x := x - o) (by omega) (by omega), impl_div (by omega) _ _ (by omega) (by omega) (by omega) (by omega), Option.bind_some, List.replicate_succ, rd_next, wr (x := a * o) (by omega) (by omega), impl_div (by omega) _ _ (by omega) (by omega) (by omega) (by omega)]
    generalize a % 1499 * iv ((x - o) % 1499) % 1499 = A at *
    generalize a * o % 1499 * iv ((x - o) % 1499) % 1499 = B at *
    rw [wr (x := 0 + A) (by omega) (by omega), impl_mod _ (by omega) (by omega), Option.bind_some, Option.bind_some, Int.toNat_natCast, set_next, Option.bind_some, ← List.replicate_succ, if_pos h3, rd_here, wr (x := c - B) (by omega) (by omega), impl_mod _ (by omega) (by omega), Option.bind_some, Int.toNat_natCast, set_here]
    have := ih (D ++ [(c - B) % 1499]) ((0 + A) % 1499) (by omega) (by omega) (by simp; omega)
    simp only [List.append_assoc, List.length_append, List.length_singleton, List.singleton_append] at this
    exact this

/-- numbers added to the out's first -/
def ac9 (q : List Int) : Nat → Nat → List Int → List Int
  | 0, _, out => out
  | d + 1, j, out => ac9 q d (j + 1) (out.set j ((rd out (j : Int) + rd q (j : Int)) % 1499))
theorem ac9_len (q : List Int) (d : Nat) : ∀ (j : Nat) (out : List Int), (ac9 q d j out).length = out.length := by
  induction d with
  | zero => intro j out; rfl
  | succ d ih => intro j out; rw [ac9, ih]; simp
theorem set_range9 {out : List Int} (h : ∀ z ∈ out, 0 ≤ z ∧ z ≤ 1498) (j : Nat) (v : Int) (hv : 0 ≤ v) (hv' : v ≤ 1498) : ∀ z ∈ out.set j v, 0 ≤ z ∧ z ≤ 1498 := by
  intro z hz
  rcases List.mem_or_eq_of_mem_set hz with h1 | h1
  · exact h z h1
  · omega
theorem ac9_range (q : List Int) (d : Nat) : ∀ (j : Nat) (out : List Int), (∀ z ∈ out, 0 ≤ z ∧ z ≤ 1498) → ∀ z ∈ ac9 q d j out, 0 ≤ z ∧ z ≤ 1498 := by
  induction d with
  | zero => intro j out h; exact h
  | succ d ih => intro j out h; rw [ac9]; exact ih _ _ (set_range9 h _ _ (by omega) (by omega))
theorem rd_map9 (p : List Int) (g : Int → Int) (j : Nat) (h : j < p.length) : rd (p.map g) (j : Int) = g (rd p (j : Int)) := by
  rw [rd_at _ j (by simpa using h), rd_at p j h]; simp
theorem spec_l3 (k : Nat) (hk : 1600 < k) (xs ys : List Int) (i : Nat) (hi : i < ys.length) (hys : ∀ z ∈ ys, 0 ≤ z ∧ z ≤ 1498) (dd : Int) (zs : List Int) (n e : Int) (p : List Int) (hp : ∀ z ∈ p, 0 ≤ z ∧ z ≤ 1498) (hdd : 0 ≤ dd) (hdd' : dd ≤ 1498) (h9 : p.length ≤ 9) (r : Nat) :
    ∀ (j : Nat) (out : List Int), (∀ z ∈ out, 0 ≤ z ∧ z ≤ 1498) → p.length ≤ out.length → j + r = p.length →
    spec_PolyThrough.l3 (k + r + 1) xs ys out (i : Int) dd zs n e p (p.length : Int) (j : Int) = spec_PolyThrough.l0 k xs ys (ac9 (p.map (gy (rd ys (i : Int)) (iv dd))) r j out) zs n (wrap64 (e + 1)) := by
  induction r with
  | zero =>
    intro j out ho hl hj
    rw [spec_PolyThrough.l3, ac9]
    rw [if_neg (by omega)]
  | succ r ih =>
    intro j out ho hl hj
    have h1 : (j : Int) < (p.length : Int) := by omega
    have h2 : (0 : Int) ≤ (j : Int) := by omega
    have h3 : (j : Int) < (out.length : Int) := by omega
    have h4 : (0 : Int) ≤ (i : Int) := by omega
    have h5 : (i : Int) < (ys.length : Int) := by omega
    obtain ⟨a1, a2⟩ := rd_in9 hp j (by omega)
    obtain ⟨b1, b2⟩ := rd_in9 ho j (by omega)
    obtain ⟨c1, c2⟩ := rd_in9 hys i hi
    obtain ⟨u1, u2⟩ := sq9 _ _ a1 a2 c1 c2
    obtain ⟨v1, v2⟩ := iv_range dd
    have := ih (j + 1) (out.set j ((rd out (j : Int) + rd (p.map (gy (rd ys (i : Int)) (iv dd))) (j : Int)) % 1499)) (set_range9 ho _ _ (by omega) (by omega)) (by simpa using hl) (by omega)
    rw [show k + (r + 1) + 1 = (k + r + 1) + 1 by omega, spec_PolyThrough.l3, ac9, ← this]
    rw [if_pos h1, if_pos h2, if_pos h1, if_pos h3, if_pos h4, if_pos h5, spec_iv (by omega) dd hdd hdd', Option.bind_some, rd_map9 p _ j (by omega), Int.toNat_natCast, wr_succ j (by omega)]
    generalize rd p (j : Int) = a at *
    generalize rd ys (i : Int) = y at *
    generalize rd out (j : Int) = b at *
    generalize iv dd = v at *
    obtain ⟨w1, w2⟩ := sq9 (a * y % 1499) v (by omega) (by omega) v1 v2
    rw [wr (x := a * y) (by omega) (by omega), tmod_pos u1, wr (x := a * y % 1499 * v) (by omega) (by omega), wr (x := b + _) (by omega) (by omega), tmod_pos (by omega)]
    congr 2
    unfold gy; omega
theorem impl_l3 (k : Nat) (l : List S70) (zs : List S70) (n e : Int) (q : List Int) (hq : ∀ z ∈ q, 0 ≤ z ∧ z ≤ 1498) (h9 : q.length ≤ 9) (r : Nat) :
    ∀ (j : Nat) (out : List Int), (∀ z ∈ out, 0 ≤ z ∧ z ≤ 1498) → q.length ≤ out.length → j + r = q.length →
    impl_PolyThrough.l3 (k + r + 1) l out zs n e q (q.length : Int) (j : Int) = impl_PolyThrough.l0 k l (ac9 q r j out) zs n (wrap64 (e + 1)) := by
  induction r with
  | zero =>
    intro j out ho hl hj
    rw [impl_PolyThrough.l3, ac9]
    rw [if_neg (by omega)]
  | succ r ih =>
    intro j out ho hl hj
    have h1 : (j : Int) < (q.length : Int) := by omega
    have h2 : (0 : Int) ≤ (j : Int) := by omega
    have h3 : (j : Int) < (out.length : Int) := by omega
    obtain ⟨a1, a2⟩ := rd_in9 hq j (by omega)
    obtain ⟨b1, b2⟩ := rd_in9 ho j (by omega)
    have := ih (j + 1) (out.set j ((rd out (j : Int) + rd q (j : Int)) % 1499)) (set_range9 ho _ _ (by omega) (by omega)) (by simpa using hl) (by omega)
    rw [show k + (r + 1) + 1 = (k + r + 1) + 1 by omega, impl_PolyThrough.l3, ac9, ← this]
    rw [if_pos h1, if_pos h2, if_pos h1, if_pos h3, wr (x := rd out (j : Int) + rd q (j : Int)) (by omega) (by omega), impl_mod _ (by omega) (by omega), Option.bind_some, Int.toNat_natCast, wr_succ j (by omega)]
/-- the polynomial that is nought at all places but the one, and what it is there -/
def pr9 (xs : List Int) (i : Nat) : Nat → Nat → List Int → Int → List Int × Int
  | 0, _, p, d => (p, d)
  | m + 1, j, p, d => if j = i then pr9 xs i m (j + 1) p d else pr9 xs i m (j + 1) (nx (rd xs (j : Int)) 0 p) (d * ((rd xs (j : Int) - rd xs (i : Int)) % 1499) % 1499)
def ff9 (xs ys : List Int) : Nat → Nat → List Int → List Int
  | 0, _, out => out
  | m + 1, i, out => ff9 xs ys m (i + 1) (ac9 ((pr9 xs i xs.length 0 [1] 1).1.map (gy (rd ys (i : Int)) (iv (pr9 xs i xs.length 0 [1] 1).2))) (pr9 xs i xs.length 0 [1] 1).1.length 0 out)
def evl {α : Type} (g : Nat → Option α) (r : α) : Prop := ∃ K, ∀ k, K ≤ k → g k = some r
theorem one_more (p : List Int) (j i n : Nat) (h : p.length + (if i < j then 1 else 0) = 1 + j) (hj : j < n) (hi : i < n) (h8 : n ≤ 8) : p.length ≤ 8 := by
  by_cases e : i < j
  · rw [if_pos e] at h; omega
  · rw [if_neg e] at h; omega
theorem spec_l1 (xs ys : List Int) (h8 : xs.length ≤ 8) (hxs : ∀ z ∈ xs, 0 ≤ z ∧ z ≤ 1498) (hys : ∀ z ∈ ys, 0 ≤ z ∧ z ≤ 1498) (i : Nat) (hi : i < xs.length) (hi' : i < ys.length) (out : List Int) (ho : ∀ z ∈ out, 0 ≤ z ∧ z ≤ 1498) (hlo : xs.length ≤ out.length) (R : List Int × Bool)
    (m : Nat) : ∀ (j : Nat) (p : List Int) (dd : Int), (∀ z ∈ p, 0 ≤ z ∧ z ≤ 1498) → 0 ≤ dd → dd ≤ 1498 → p.length + (if i < j then 1 else 0) = 1 + j → j + m = xs.length →
    evl (fun k => spec_PolyThrough.l0 k xs ys (ac9 ((pr9 xs i m j p dd).1.map (gy (rd ys (i : Int)) (iv (pr9 xs i m j p dd).2))) (pr9 xs i m j p dd).1.length 0 out) xs (xs.length : Int) ((i + 1 : Nat) : Int)) R →
    evl (fun k => spec_PolyThrough.l1 k xs ys out (i : Int) (rd xs (i : Int)) p dd xs (xs.length : Int) (i : Int) xs (xs.length : Int) (j : Int)) R := by
  induction m with
  | zero =>
    intro j p dd hp hd hd' hl hj ⟨K, hK⟩
    simp only [pr9] at hK
    rw [if_pos (by omega)] at hl
    refine ⟨K + p.length + 1700, fun k hk => ?_⟩
    obtain ⟨k, rfl⟩ : ∃ q, k = (q + p.length + 1) + 1 := ⟨k - p.length - 2, by omega⟩
    have := spec_l3 k (by omega) xs ys i hi' hys dd xs (xs.length : Int) (i : Int) p hp hd hd' (by omega) p.length 0 out ho (by omega) (by omega)
    rw [show ((0 : Nat) : Int) = 0 from Eq.refl _] at this
    show spec_PolyThrough.l1 _ _ _ _ _ _ _ _ _ _ _ _ _ _ = _
    rw [spec_PolyThrough.l1, if_neg (by omega), this, wr_succ i (by omega), hK k (by omega)]
  | succ m ih =>
    intro j p dd hp hd hd' hl hj hK
    have h1 : (j : Int) < (xs.length : Int) := by omega
    have h2 : (0 : Int) ≤ (j : Int) := by omega
    have hp8 := one_more p j i xs.length hl (by omega) hi h8
    rw [pr9] at hK
    by_cases e : j = i
    · rw [if_pos e] at hK
      obtain ⟨K, hK⟩ := ih (j + 1) p dd hp hd hd' (by rw [if_pos (by omega)]; rw [if_neg (by omega)] at hl; omega) (by omega) hK
      refine ⟨K + 1, fun k hk => ?_⟩
      obtain ⟨k, rfl⟩ : ∃ q, k = q + 1 := ⟨k - 1, by omega⟩
      show spec_PolyThrough.l1 _ _ _ _ _ _ _ _ _ _ _ _ _ _ = _
      rw [spec_PolyThrough.l1, if_pos h1, if_pos h2, if_pos h1, if_pos (show (j : Int) = (i : Int) by omega), wr_succ j (by omega)]
      exact hK k (by omega)
    · rw [if_neg e] at hK
      obtain ⟨a1, a2⟩ := rd_in9 hxs j (by omega)
      obtain ⟨b1, b2⟩ := rd_in9 hxs i (by omega)
      obtain ⟨K, hK⟩ := ih (j + 1) (nx (rd xs (j : Int)) 0 p) (dd * ((rd xs (j : Int) - rd xs (i : Int)) % 1499) % 1499) (nx_range _ _ _ (by omega) (by omega)) (by omega) (by omega) (by
        rw [nx_len]
        by_cases e2 : i < j
        · rw [if_pos e2] at hl; rw [if_pos (by omega)]; omega
        · rw [if_neg e2] at hl; rw [if_neg (by omega)]; omega) (by omega) hK
      refine ⟨K + p.length + 3, fun k hk => ?_⟩
      obtain ⟨k, rfl⟩ : ∃ q, k = (q + p.length + 1) + 1 := ⟨k - p.length - 2, by omega⟩
      have := spec_l2 k xs ys out (i : Int) (rd xs (i : Int)) dd (rd xs (j : Int)) xs (xs.length : Int) (i : Int) xs (xs.length : Int) (j : Int) p hp (by omega) a1 a2 b1 b2 hd hd' p.length [] 0 (by omega) (by omega) (by simp)
      simp only [List.nil_append, List.length_nil, List.drop_zero] at this
      rw [show ((0 : Nat) : Int) = 0 from Eq.refl _, ← List.replicate_succ] at this
      show spec_PolyThrough.l1 _ _ _ _ _ _ _ _ _ _ _ _ _ _ = _
      rw [spec_PolyThrough.l1, if_pos h1, if_pos h2, if_pos h1, if_neg (show ¬ (j : Int) = (i : Int) by omega), wr_succ p.length (by omega), if_pos (by omega), if_pos (by omega), Int.toNat_natCast, this, wr_succ j (by omega)]
      exact hK k (by omega)
theorem pr9_range (xs : List Int) (i : Nat) (m : Nat) : ∀ (j : Nat) (p : List Int) (d : Int), (∀ z ∈ p, 0 ≤ z ∧ z ≤ 1498) → 0 ≤ d → d ≤ 1498 → (∀ z ∈ (pr9 xs i m j p d).1, 0 ≤ z ∧ z ≤ 1498) ∧ 0 ≤ (pr9 xs i m j p d).2 ∧ (pr9 xs i m j p d).2 ≤ 1498 := by
  induction m with
  | zero => intro j p d hp h h'; exact ⟨hp, h, h'⟩
  | succ m ih =>
    intro j p d hp h h'
    rw [pr9]
    by_cases e : j = i
    · rw [if_pos e]; exact ih _ _ _ hp h h'
    · rw [if_neg e]; exact ih _ _ _ (nx_range _ _ _ (by omega) (by omega)) (by omega) (by omega)
theorem gy_map_range (p : List Int) (y v : Int) : ∀ z ∈ p.map (gy y v), 0 ≤ z ∧ z ≤ 1498 := by
  intro z hz
  obtain ⟨a, _, rfl⟩ := List.mem_map.1 hz
  exact gy_range _ _ _
theorem px_rd (l : List S70) (i : Nat) (h : i < l.length) : (rd_T70 l (i : Int)).f0 = rd (pX l) (i : Int) := by
  rw [rdp_at l i h, rd_at _ i (by rw [pX_len]; exact h)]; simp [pX]
theorem py_rd (l : List S70) (i : Nat) (h : i < l.length) : (rd_T70 l (i : Int)).f1 = rd (pY l) (i : Int) := by
  rw [rdp_at l i h, rd_at _ i (by rw [pY_len]; exact h)]; simp [pY]
theorem impl_l1 (l : List S70) (h8 : l.length ≤ 8) (hxs : ∀ z ∈ pX l, 0 ≤ z ∧ z ≤ 1498) (i : Nat) (hi : i < l.length) (out : List Int) (ho : ∀ z ∈ out, 0 ≤ z ∧ z ≤ 1498) (hlo : l.length ≤ out.length) (y : Int) (R : List Int × Bool)
    (m : Nat) : ∀ (j : Nat) (p : List Int) (dd : Int), (∀ z ∈ p, 0 ≤ z ∧ z ≤ 1498) → 0 ≤ dd → dd ≤ 1498 → p.length + (if i < j then 1 else 0) = 1 + j → j + m = l.length →
    evl (fun k => impl_PolyThrough.l0 k l (ac9 ((pr9 (pX l) i m j p dd).1.map (gy y (iv (pr9 (pX l) i m j p dd).2))) (pr9 (pX l) i m j p dd).1.length 0 out) l (l.length : Int) ((i + 1 : Nat) : Int)) R →
    evl (fun k => impl_PolyThrough.l1 k l out (i : Int) (p.map (gy y (iv dd))) l (l.length : Int) (i : Int) l (l.length : Int) (j : Int) (rd (pX l) (i : Int)) y) R := by
  have hlx := pX_len l
  induction m with
  | zero =>
    intro j p dd hp hd hd' hl hj ⟨K, hK⟩
    simp only [pr9] at hK
    rw [if_pos (by omega)] at hl
    refine ⟨K + p.length + 1700, fun k hk => ?_⟩
    obtain ⟨k, rfl⟩ : ∃ q, k = (q + p.length + 1) + 1 := ⟨k - p.length - 2, by omega⟩
    have hml : (p.map (gy y (iv dd))).length = p.length := by simp
    have := impl_l3 k l l (l.length : Int) (i : Int) (p.map (gy y (iv dd))) (gy_map_range _ _ _) (by omega) p.length 0 out ho (by omega) (by omega)
    rw [show ((0 : Nat) : Int) = 0 from Eq.refl _] at this
    show impl_PolyThrough.l1 _ _ _ _ _ _ _ _ _ _ _ _ _ = _
    rw [impl_PolyThrough.l1, if_neg (by omega), this, wr_succ i (by omega), hK k (by omega)]
  | succ m ih =>
    intro j p dd hp hd hd' hl hj hK
    have h1 : (j : Int) < (l.length : Int) := by omega
    have h2 : (0 : Int) ≤ (j : Int) := by omega
    have hp8 := one_more p j i l.length hl (by omega) hi h8
    have hml : (p.map (gy y (iv dd))).length = p.length := by simp
    rw [pr9] at hK
    by_cases e : j = i
    · rw [if_pos e] at hK
      obtain ⟨K, hK⟩ := ih (j + 1) p dd hp hd hd' (by rw [if_pos (by omega)]; rw [if_neg (by omega)] at hl; omega) (by omega) hK
      refine ⟨K + 1, fun k hk => ?_⟩
      obtain ⟨k, rfl⟩ : ∃ q, k = q + 1 := ⟨k - 1, by omega⟩
      show impl_PolyThrough.l1 _ _ _ _ _ _ _ _ _ _ _ _ _ = _
      rw [impl_PolyThrough.l1, if_pos h1, if_pos h2, if_pos h1, if_pos (show (j : Int) = (i : Int) by omega), wr_succ j (by omega)]
      exact hK k (by omega)
    · rw [if_neg e] at hK
      obtain ⟨a1, a2⟩ := rd_in9 hxs j (by omega)
      obtain ⟨b1, b2⟩ := rd_in9 hxs i (by omega)
      obtain ⟨K, hK⟩ := ih (j + 1) (nx (rd (pX l) (j : Int)) 0 p) (dd * ((rd (pX l) (j : Int) - rd (pX l) (i : Int)) % 1499) % 1499) (nx_range _ _ _ (by omega) (by omega)) (by omega) (by omega) (by
        rw [nx_len]
        by_cases e2 : i < j
        · rw [if_pos e2] at hl; rw [if_pos (by omega)]; omega
        · rw [if_neg e2] at hl; rw [if_neg (by omega)]; omega) (by omega) hK
      refine ⟨K + p.length + 1700, fun k hk => ?_⟩
      obtain ⟨k, rfl⟩ : ∃ q, k = (q + p.length + 1) + 1 := ⟨k - p.length - 2, by omega⟩
      have := impl_l2 k (by omega) l out (i : Int) l (l.length : Int) (i : Int) l (l.length : Int) (j : Int) (p.map (gy y (iv dd))) (rd (pX l) (i : Int)) y (rd (pX l) (j : Int)) ((rd_T70 l (j : Int)).f1) (gy_map_range _ _ _) (by omega) a1 a2 b1 b2 p.length [] 0 (by omega) (by omega) (by simp)
      simp only [List.nil_append, List.length_nil, List.drop_zero] at this
      have hn := nxi_eq y dd (rd (pX l) (j : Int)) (rd (pX l) (i : Int)) hd p 0
      rw [gy_zero] at hn
      rw [show ((0 : Nat) : Int) = 0 from Eq.refl _, ← List.replicate_succ, hn] at this
      show impl_PolyThrough.l1 _ _ _ _ _ _ _ _ _ _ _ _ _ = _
      rw [impl_PolyThrough.l1, if_pos h1, if_pos h2, if_pos h1, if_neg (show ¬ (j : Int) = (i : Int) by omega), wr_succ (p.map (gy y (iv dd))).length (by omega), if_pos (by omega), if_pos (by omega), Int.toNat_natCast, px_rd l j (by omega), hml]
      rw [hml] at this
      rw [this, wr_succ j (by omega)]
      exact hK k (by omega)
theorem one_list (z : Int) (hz : z ∈ [(1 : Int)]) : 0 ≤ z ∧ z ≤ 1498 := by
  simp at hz; omega
theorem pr9_len (xs : List Int) (i : Nat) (m : Nat) : ∀ (j : Nat) (p : List Int) (d : Int), p.length ≤ 1 + j → (pr9 xs i m j p d).1.length ≤ 1 + j + m := by
  induction m with
  | zero => intro j p d h; exact h
  | succ m ih =>
    intro j p d h
    rw [pr9]
    by_cases e : j = i
    · rw [if_pos e]; have := ih (j + 1) p d (by omega); omega
    · rw [if_neg e]; have := ih (j + 1) (nx (rd xs (j : Int)) 0 p) (d * ((rd xs (j : Int) - rd xs (i : Int)) % 1499) % 1499) (by rw [nx_len]; omega); omega
theorem poly_loops (l : List S70) (h8 : l.length ≤ 8) (hxs : ∀ z ∈ pX l, 0 ≤ z ∧ z ≤ 1498) (hys : ∀ z ∈ pY l, 0 ≤ z ∧ z ≤ 1498) (m : Nat) : ∀ (i : Nat) (out : List Int), (∀ z ∈ out, 0 ≤ z ∧ z ≤ 1498) → l.length ≤ out.length → i + m = l.length →
    evl (fun k => spec_PolyThrough.l0 k (pX l) (pY l) out (pX l) (l.length : Int) (i : Int)) (ff9 (pX l) (pY l) m i out, true) ∧ evl (fun k => impl_PolyThrough.l0 k l out l (l.length : Int) (i : Int)) (ff9 (pX l) (pY l) m i out, true) := by
  have hlx := pX_len l
  have hly := pY_len l
  induction m with
  | zero =>
    intro i out ho hl hi
    refine ⟨⟨1, fun k hk => ?_⟩, ⟨1, fun k hk => ?_⟩⟩
    · obtain ⟨k, rfl⟩ : ∃ q, k = q + 1 := ⟨k - 1, by omega⟩
      show spec_PolyThrough.l0 _ _ _ _ _ _ _ = _
      rw [spec_PolyThrough.l0, if_neg (by omega)]; rfl
    · obtain ⟨k, rfl⟩ : ∃ q, k = q + 1 := ⟨k - 1, by omega⟩
      show impl_PolyThrough.l0 _ _ _ _ _ _ = _
      rw [impl_PolyThrough.l0, if_neg (by omega)]; rfl
  | succ m ih =>
    intro i out ho hl hi
    have h1 : (i : Int) < (l.length : Int) := by omega
    have h2 : (0 : Int) ≤ (i : Int) := by omega
    have h3 : (i : Int) < ((pX l).length : Int) := by omega
    obtain ⟨q1, q2⟩ := ih (i + 1) (ac9 ((pr9 (pX l) i l.length 0 [1] 1).1.map (gy (rd (pY l) (i : Int)) (iv (pr9 (pX l) i l.length 0 [1] 1).2))) (pr9 (pX l) i l.length 0 [1] 1).1.length 0 out) (ac9_range _ _ _ _ ho) (by rw [ac9_len]; exact hl) (by omega)
    obtain ⟨y1, y2⟩ := rd_in9 hys i (by omega)
    have s1 := spec_l1 (pX l) (pY l) (by omega) hxs hys i (by omega) (by omega) out ho (by omega) (ff9 (pX l) (pY l) (m + 1) i out, true) l.length 0 [1] 1 one_list (by omega) (by omega) (by simp) (by omega) (by
      rw [hlx, ff9, hlx]; exact q1)
    have i1 := impl_l1 l h8 hxs i (by omega) out ho hl (rd (pY l) (i : Int)) (ff9 (pX l) (pY l) (m + 1) i out, true) l.length 0 [1] 1 one_list (by omega) (by omega) (by simp) (by omega) (by
      rw [ff9, hlx]; exact q2)
    rw [hlx] at s1
    rw [List.map_cons, List.map_nil, gy_one _ y1 y2] at i1
    refine ⟨?_, ?_⟩
    · obtain ⟨K, hK⟩ := s1
      refine ⟨K + 1, fun k hk => ?_⟩
      obtain ⟨k, rfl⟩ : ∃ q, k = q + 1 := ⟨k - 1, by omega⟩
      show spec_PolyThrough.l0 _ _ _ _ _ _ _ = _
      rw [spec_PolyThrough.l0, if_pos h1, if_pos h2, if_pos h3, hlx]
      exact hK k (by omega)
    · obtain ⟨K, hK⟩ := i1
      refine ⟨K + 1, fun k hk => ?_⟩
      obtain ⟨k, rfl⟩ : ∃ q, k = q + 1 := ⟨k - 1, by omega⟩
      show impl_PolyThrough.l0 _ _ _ _ _ _ = _
      rw [impl_PolyThrough.l0, if_pos h1, if_pos h2, if_pos h1, px_rd l i (by omega), py_rd l i (by omega)]
      exact hK k (by omega)
theorem ff9_len (xs ys : List Int) (m : Nat) : ∀ (i : Nat) (out : List Int), (ff9 xs ys m i out).length = out.length := by
  induction m with
  | zero => intro i out; rfl
  | succ m ih => intro i out; rw [ff9, ih, ac9_len]
def polyR (l : List S70) : List Int × Bool := if goodParts l = true then (ff9 (pX l) (pY l) l.length 0 (List.replicate l.length 0), true) else ([], false)
theorem polyR_len (l : List S70) : (polyR l).1.length ≤ l.length := by
  unfold polyR
  by_cases g : goodParts l = true
  · rw [if_pos g]; simp only [ff9_len]; simp
  · rw [if_neg g]; simp
theorem poly_through (l : List S70) (hl : l.length ≤ 8796093022208) : evl (fun k => spec_PolyThrough.f k l) (polyR l) ∧ evl (fun k => impl_PolyThrough.f k l) (polyR l) := by
  have hlx := pX_len l
  have hly := pY_len l
  by_cases g : goodParts l = true
  · obtain ⟨_, h8⟩ := good_len g
    obtain ⟨⟨K, hK⟩, ⟨K', hK'⟩⟩ := poly_loops l h8 (good_xs g) (good_ys g) l.length 0 (List.replicate l.length 0) (by intro z hz; have := List.eq_of_mem_replicate hz; omega) (by simp) (by omega)
    refine ⟨⟨K + 100, fun k hk => ?_⟩, ⟨K' + 100, fun k hk => ?_⟩⟩
    · show spec_PolyThrough.f k l = _
      unfold spec_PolyThrough.f polyR
      rw [spec_parts l hl (by omega), Option.bind_some, if_pos g, if_pos g, spec_split l hl (by omega), Option.bind_some, if_pos (by omega), if_pos (by omega), Int.toNat_natCast]
      show spec_PolyThrough.l0 k (pX l) (pY l) (List.replicate l.length 0) (pX l) ((pX l).length : Int) 0 = _
      rw [hlx]
      exact hK k (by omega)
    · show impl_PolyThrough.f k l = _
      unfold impl_PolyThrough.f polyR
      rw [impl_parts l hl (by omega), Option.bind_some, if_pos g, if_pos g, if_pos (by omega), if_pos (by omega), Int.toNat_natCast]
      exact hK' k (by omega)
  · refine ⟨⟨2 * l.length + 3, fun k hk => ?_⟩, ⟨2 * l.length + 3, fun k hk => ?_⟩⟩
    · show spec_PolyThrough.f k l = _
      unfold spec_PolyThrough.f polyR
      rw [spec_parts l hl (by omega), Option.bind_some, if_neg g, if_neg g]
    · show impl_PolyThrough.f k l = _
      unfold impl_PolyThrough.f polyR
      rw [impl_parts l hl (by omega), Option.bind_some, if_neg g, if_neg g]

theorem FnExactPolyThrough : ∀ (l0 : List S99), l0.length ≤ maxLen → (∀ s ∈ l0, (Lit.int .i64 s.f0).wf = true ∧ (Lit.int .i64 s.f1).wf = true) → ∃ k, laws_FnExactPolyThrough.f k l0 = some true := by
  intro l hma _
  unfold maxLen at hma
  have la : (l.map cvP).length = l.length := by simp
  by_cases h : (1048576 : Int) < (l.length : Int)
  · refine ⟨0, ?_⟩
    unfold laws_FnExactPolyThrough.f
    rw [sz_parts l 1048576 hma (by omega) (by omega), Option.bind_some]
    simp [h]
  · obtain ⟨⟨Ks, hs⟩, ⟨Ki, hi⟩⟩ := poly_through (l.map cvP) (by omega)
    refine rounds_of (Ks + Ki + 3 * l.length + 100) fun k hk => ?_
    obtain ⟨k, rfl⟩ : ∃ j, k = j + 3 := ⟨k - 3, by omega⟩
    unfold laws_FnExactPolyThrough.f
    rw [sz_parts l 1048576 hma (by omega) (by omega), Option.bind_some]
    rw [if_neg h, if_neg (by omega)]
    have t3 := toPartS_eq (k := k + 3) l (by omega) (by omega)
    have t2 := toPartS_eq (k := k + 2) l (by omega) (by omega)
    have t1 := toPartS_eq (k := k + 1) l (by omega) (by omega)
    generalize l.map cvP = A at *
    have hR := polyR_len A
    have s3 : spec_PolyThrough.f (k + 3) A = some (polyR A) := hs _ (by omega)
    have i3 : impl_PolyThrough.f (k + 3) A = some (polyR A) := hi _ (by omega)
    have i1 : impl_PolyThrough.f (k + 1) A = some (polyR A) := hi _ (by omega)
    generalize polyR A = r at *
    obtain ⟨za, za2⟩ := markPartS_some A (by omega) 1 (by omega) (by omega) (by omega : A.length < k + 2)
    obtain ⟨zo, zo1, zo2, zo3⟩ := markIntS_held r.1 (by omega) 1 (by omega) (by omega)
    have q1 : ¬ (1 + 2 * (A.length : Int) < 0) := by omega
    have q2 : ¬ (1 + (r.1.length : Int) < 0) := by omega
    rw [t3, Option.bind_some, s3, Option.bind_some, Option.bind_some, i3, Option.bind_some, eqIntS_self (k := k + 3) r.1 (by omega) (by omega), Option.bind_some, if_pos rfl, bne_self_eq_false]
    simp only [laws_FnExactPolyThrough.j0, Bool.false_eq_true, if_false]
    rw [t2, Option.bind_some, eqPartS_self (k := k + 2) A (by omega) (by omega), Option.bind_some, if_pos rfl, za2, Option.bind_some, if_neg q1, eqIntS_self (k := k + 2) r.1 (by omega) (by omega), Option.bind_some, if_pos rfl]
    simp only [laws_FnExactPolyThrough.j1, bne_self_eq_false, Bool.false_eq_true, if_false]
    rw [zo2 (k + 1) (by omega), Option.bind_some, zo3 (k + 1) (by omega), Option.bind_some, if_neg q2, if_pos rfl, t1, Option.bind_some, i1, Option.bind_some, eqIntS_self (k := k + 1) r.1 (by omega) (by omega), Option.bind_some, if_pos rfl]
    simp only [laws_FnExactPolyThrough.j2, bne_self_eq_false, Bool.false_eq_true, if_false]
    rw [zo3 k (by omega), Option.bind_some, if_neg q2, if_pos rfl]

end Go.Proofs.Ytadooofomkdaoaa.Pure
