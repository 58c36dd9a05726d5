/- RunsOf answers as the reference does, leaves its argument alone and owns its answer, for every list (the plain half). -/
import Derived.Test.YticchbgbbnpgoaaPFnExactRunsOfx
set_option linter.unusedVariables false
set_option linter.unusedSimpArgs false
namespace Go.Proofs.Yticchbgbbnpgoaa.Pure
open Go.RowKit Go.Proofs.Yticchbgbbnpgoaa.PFnExactRunsOf Go.Proofs.YticchbgbbnpgoaaW.PrintWords Go.Proofs.YticchbgbbnpgoaaW.PrintLast Go.Proofs.YticchbgbbnpgoaaW.PrintMore

/-! base: sums of int that stay in range; `tmod` and `tdiv` of what is not negative -/
theorem wr {x : Int} (h1 : -9223372036854775808 ≤ x) (h2 : x ≤ 9223372036854775807) : wrap64 x = x := by
  unfold wrap64; omega
theorem tmod_pos {a b : Int} (h : 0 ≤ a) : Int.tmod a b = a % b := Int.tmod_eq_emod_of_nonneg h
theorem tdiv_pos {a b : Int} (h : 0 ≤ a) : Int.tdiv a b = a / b := Int.tdiv_eq_ediv_of_nonneg h
theorem rounds_of {α : Type} {g : Nat → Option α} {r : α} (N : Nat) (h : ∀ k, N < k → g k = some r) : ∃ k, g k = some r := ⟨N + 1, h _ (Nat.lt_succ_self N)⟩

/-! lists: reading a list at a place; a copy of a list; a list is like itself -/
theorem rd_at (xs : List Int) (i : Nat) (h : i < xs.length) : rd xs (i : Int) = xs[i] := by
  simp [rd, List.getD_eq_getElem?_getD, h]
theorem wr_succ (i : Nat) (h : i < 9000000000000000000) : wrap64 ((i : Int) + 1) = ((i + 1 : Nat) : Int) := by
  rw [wr (by omega) (by omega)]; omega
theorem same_list {α : Type} {xs ys : List α} (hl : ys.length = xs.length) (h : ∀ j, j < xs.length → ys[j]? = xs[j]?) : ys = xs := by
  apply List.ext_getElem?
  intro j
  by_cases hj : j < xs.length
  · exact h j hj
  · rw [List.getElem?_eq_none (by omega), List.getElem?_eq_none (by omega)]
theorem set_upto {α : Type} {xs ys : List α} {i : Nat} (hl : ys.length = xs.length) (hi : i < xs.length) (h : ∀ j, j < i → ys[j]? = xs[j]?) :
    ∀ j, j < i + 1 → (ys.set i xs[i])[j]? = xs[j]? := by
  intro j hj
  rw [List.getElem?_set]
  by_cases e : i = j
  · subst e; rw [if_pos rfl, if_pos (by omega), List.getElem?_eq_getElem hi]
  · rw [if_neg e]; exact h j (by omega)

/-! rdb: a bool at a place -/
theorem rdb_at (xs : List Bool) (i : Nat) (h : i < xs.length) : rdOf false xs (i : Int) = xs[i] := by
  simp [rdOf, List.getD_eq_getElem?_getD, h]

/-! tobools: laws.toBoolS copies -/
theorem toBoolS_loop (xs : List Bool) (hn : xs.length ≤ 35184372088832) (d : Nat) : ∀ (k : Nat) (ys : List Bool) (i : Nat), ys.length = xs.length → (∀ j, j < i → ys[j]? = xs[j]?) → i + d = xs.length → d < k →
    laws_toBoolS.l0 k xs ys (i : Int) = some xs := by
  induction d with
  | zero =>
    intro k ys i hl h hd hk
    obtain ⟨k, rfl⟩ : ∃ m, k = m + 1 := ⟨k - 1, by omega⟩
    simp only [laws_toBoolS.l0]
    rw [if_neg (by omega), same_list hl (fun j hj => h j (by omega))]
  | succ d ih =>
    intro k ys i hl h hd hk
    obtain ⟨k, rfl⟩ : ∃ m, k = m + 1 := ⟨k - 1, by omega⟩
    have hi : i < xs.length := by omega
    have h1 : (i : Int) < (xs.length : Int) := by omega
    have h2 : (0 : Int) ≤ (i : Int) := by omega
    have h3 : (i : Int) < (ys.length : Int) := by omega
    simp only [laws_toBoolS.l0]
    rw [if_pos h1, if_pos h2, if_pos h3, rdb_at xs i hi, wr_succ i (by omega), Int.toNat_natCast]
    exact ih k _ (i + 1) (by simpa using hl) (set_upto hl hi h) (by omega) (by omega)
theorem toBoolS_eq {k : Nat} (xs : List Bool) (hn : xs.length ≤ 35184372088832) (hk : xs.length < k) : laws_toBoolS.f k xs = some xs := by
  unfold laws_toBoolS.f
  rw [if_pos (by omega), if_pos (by omega)]
  exact toBoolS_loop xs hn xs.length k _ 0 (by simp) (fun j hj => by omega) (by omega) hk

/-! eqbools: laws.eqBoolS says that a list is itself -/
theorem eqBoolS_loop (xs : List Bool) (hn : xs.length ≤ 35184372088832) (d : Nat) : ∀ (k : Nat) (i : Nat), i + d = xs.length → d < k → laws_eqBoolS.l0 k xs xs (i : Int) = some true := by
  induction d with
  | zero =>
    intro k i hd hk
    obtain ⟨k, rfl⟩ : ∃ m, k = m + 1 := ⟨k - 1, by omega⟩
    simp only [laws_eqBoolS.l0]
    rw [if_neg (by omega)]
  | succ d ih =>
    intro k i hd hk
    obtain ⟨k, rfl⟩ : ∃ m, k = m + 1 := ⟨k - 1, by omega⟩
    have h1 : (i : Int) < (xs.length : Int) := by omega
    have h2 : (0 : Int) ≤ (i : Int) := by omega
    simp only [laws_eqBoolS.l0, if_pos h1, if_pos h2, bne_self_eq_false, wr_succ i (by omega)]
    exact ih k (i + 1) (by omega) (by omega)
theorem eqBoolS_self {k : Nat} (xs : List Bool) (hn : xs.length ≤ 35184372088832) (hk : xs.length < k) : laws_eqBoolS.f k xs xs = some true := by
  unfold laws_eqBoolS.f
  rw [if_pos rfl]
  exact eqBoolS_loop xs hn xs.length k 0 (by omega) hk

/-! eqints: laws.eqIntS says that a list is itself -/
theorem eqIntS_loop (xs : List Int) (hn : xs.length ≤ 35184372088832) (d : Nat) : ∀ (k : Nat) (i : Nat), i + d = xs.length → d < k → laws_eqIntS.l0 k xs xs (i : Int) = some true := by
  induction d with
  | zero =>
    intro k i hd hk
    obtain ⟨k, rfl⟩ : ∃ m, k = m + 1 := ⟨k - 1, by omega⟩
    simp only [laws_eqIntS.l0]
    rw [if_neg (by omega)]
  | succ d ih =>
    intro k i hd hk
    obtain ⟨k, rfl⟩ : ∃ m, k = m + 1 := ⟨k - 1, by omega⟩
    have h1 : (i : Int) < (xs.length : Int) := by omega
    have h2 : (0 : Int) ≤ (i : Int) := by omega
    simp only [laws_eqIntS.l0, if_pos h1, if_pos h2, if_true, wr_succ i (by omega)]
    exact ih k (i + 1) (by omega) (by omega)
theorem eqIntS_self {k : Nat} (xs : List Int) (hn : xs.length ≤ 35184372088832) (hk : xs.length < k) : laws_eqIntS.f k xs xs = some true := by
  unfold laws_eqIntS.f
  rw [if_pos rfl]
  exact eqIntS_loop xs hn xs.length k 0 (by omega) hk

/-! markboolonly: laws.markBoolS writes marks -/
theorem markBoolS_loop (n : Nat) (hn : n ≤ 35184372088832) (c : Int) (hc : 0 ≤ c) (hc' : c ≤ 1000000000000000000) (d : Nat) : ∀ (k : Nat) (ys : List Bool) (i : Nat), ys.length = n → i + d = n → d < k →
    (∀ j, j < i → ys[j]? = some (Int.tmod (c + j) 3 == 0)) →
    ∃ zs, zs.length = n ∧ laws_markBoolS.l0 k ys (c + i) (i : Int) = some (c + n, zs) ∧ ∀ j, j < n → zs[j]? = some (Int.tmod (c + j) 3 == 0) := by
  induction d with
  | zero =>
    intro k ys i hl hd hk h
    obtain ⟨k, rfl⟩ : ∃ m, k = m + 1 := ⟨k - 1, by omega⟩
    obtain rfl : i = n := by omega
    refine ⟨ys, hl, ?_, h⟩
    simp only [laws_markBoolS.l0]
    rw [if_neg (by omega)]
  | succ d ih =>
    intro k ys i hl hd hk h
    obtain ⟨k, rfl⟩ : ∃ m, k = m + 1 := ⟨k - 1, by omega⟩
    have h1 : (i : Int) < (ys.length : Int) := by omega
    have h2 : (0 : Int) ≤ (i : Int) := by omega
    have e : wrap64 (c + (i : Int) + 1) = c + ((i + 1 : Nat) : Int) := by rw [wr (by omega) (by omega)]; omega
    obtain ⟨zs, z1, z2, z3⟩ := ih k (ys.set i (Int.tmod (c + i) 3 == 0)) (i + 1) (by simpa using hl) (by omega) (by omega) (by
      intro j hj
      rw [List.getElem?_set]
      by_cases e : i = j
      · subst e; rw [if_pos rfl, if_pos (by omega)]
      · rw [if_neg e]; exact h j (by omega))
    refine ⟨zs, z1, ?_, z3⟩
    simp only [laws_markBoolS.l0]
    rw [if_pos h1, if_pos h2, e, wr_succ i (by omega), Int.toNat_natCast]
    exact z2
theorem markBoolS_some (xs : List Bool) (hn : xs.length ≤ 35184372088832) (c : Int) (hc : 0 ≤ c) (hc' : c ≤ 1000000000000000000) {k : Nat} (hk : xs.length < k) : ∃ zs, laws_markBoolS.f k xs c = some (c + xs.length, zs) := by
  obtain ⟨zs, _, h, _⟩ := markBoolS_loop xs.length hn c hc hc' xs.length k xs 0 rfl (by omega) hk (fun j hj => by omega)
  exact ⟨zs, by simpa [laws_markBoolS.f] using h⟩

/-! markints: laws.markIntS writes marks, laws.heldIntS finds them -/
theorem markIntS_loop (n : Nat) (hn : n ≤ 35184372088832) (c : Int) (hc : 0 ≤ c) (hc' : c ≤ 1000000000000000000) (d : Nat) : ∀ (k : Nat) (ys : List Int) (i : Nat), ys.length = n → i + d = n → d < k →
    (∀ j, j < i → ys[j]? = some (c + j)) →
    ∃ zs, zs.length = n ∧ laws_markIntS.l0 k ys (c + i) (i : Int) = some (c + n, zs) ∧ ∀ j, j < n → zs[j]? = some (c + j) := by
  induction d with
  | zero =>
    intro k ys i hl hd hk h
    obtain ⟨k, rfl⟩ : ∃ m, k = m + 1 := ⟨k - 1, by omega⟩
    obtain rfl : i = n := by omega
    refine ⟨ys, hl, ?_, h⟩
    simp only [laws_markIntS.l0]
    rw [if_neg (by omega)]
  | succ d ih =>
    intro k ys i hl hd hk h
    obtain ⟨k, rfl⟩ : ∃ m, k = m + 1 := ⟨k - 1, by omega⟩
    have h1 : (i : Int) < (ys.length : Int) := by omega
    have h2 : (0 : Int) ≤ (i : Int) := by omega
    have e : wrap64 (c + (i : Int) + 1) = c + ((i + 1 : Nat) : Int) := by rw [wr (by omega) (by omega)]; omega
    obtain ⟨zs, z1, z2, z3⟩ := ih k (ys.set i (c + i)) (i + 1) (by simpa using hl) (by omega) (by omega) (by
      intro j hj
      rw [List.getElem?_set]
      by_cases e : i = j
      · subst e; rw [if_pos rfl, if_pos (by omega)]
      · rw [if_neg e]; exact h j (by omega))
    refine ⟨zs, z1, ?_, z3⟩
    simp only [laws_markIntS.l0]
    rw [if_pos h1, if_pos h2, e, wr_succ i (by omega), Int.toNat_natCast]
    exact z2
theorem heldIntS_loop (zs : List Int) (hn : zs.length ≤ 35184372088832) (c : Int) (hc : 0 ≤ c) (hc' : c ≤ 1000000000000000000) (hz : ∀ j, j < zs.length → zs[j]? = some (c + j)) (d : Nat) : ∀ (k : Nat) (i : Nat), i + d = zs.length → d < k →
    laws_heldIntS.l0 k zs (c + i) (i : Int) = some (c + zs.length) := by
  induction d with
  | zero =>
    intro k i hd hk
    obtain ⟨k, rfl⟩ : ∃ m, k = m + 1 := ⟨k - 1, by omega⟩
    simp only [laws_heldIntS.l0]
    rw [if_neg (by omega), show i = zs.length by omega]
  | succ d ih =>
    intro k i hd hk
    obtain ⟨k, rfl⟩ : ∃ m, k = m + 1 := ⟨k - 1, by omega⟩
    have hi : i < zs.length := by omega
    have h1 : (i : Int) < (zs.length : Int) := by omega
    have h2 : (0 : Int) ≤ (i : Int) := by omega
    have e : wrap64 (c + (i : Int) + 1) = c + ((i + 1 : Nat) : Int) := by rw [wr (by omega) (by omega)]; omega
    have hv : zs[i] = c + i := by
      have := hz i hi
      rw [List.getElem?_eq_getElem hi] at this
      exact Option.some.inj this
    have hr : rd zs (i : Int) = c + i := by rw [rd_at zs i hi, hv]
    simp only [laws_heldIntS.l0]
    rw [if_pos h1, if_pos h2, if_pos hr, e, wr_succ i (by omega)]
    exact ih k (i + 1) (by omega) (by omega)
theorem markIntS_held (xs : List Int) (hn : xs.length ≤ 35184372088832) (c : Int) (hc : 0 ≤ c) (hc' : c ≤ 1000000000000000000) :
    ∃ zs, zs.length = xs.length ∧ (∀ k, xs.length < k → laws_markIntS.f k xs c = some (c + xs.length, zs)) ∧ (∀ k, xs.length < k → laws_heldIntS.f k zs c = some (c + xs.length)) := by
  have all : ∀ k, xs.length < k → ∃ zs, zs.length = xs.length ∧ laws_markIntS.f k xs c = some (c + xs.length, zs) ∧ ∀ j, j < xs.length → zs[j]? = some (c + j) := by
    intro k hk
    have := markIntS_loop xs.length hn c hc hc' xs.length k xs 0 rfl (by omega) hk (fun j hj => by omega)
    simpa [laws_markIntS.f] using this
  obtain ⟨zs, z1, _, z3⟩ := all (xs.length + 1) (by omega)
  refine ⟨zs, z1, fun k hk => ?_, fun k hk => ?_⟩
  · obtain ⟨us, u1, u2, u3⟩ := all k hk
    rw [u2, show us = zs from same_list (by omega) (fun j hj => by rw [u3 j (by omega), z3 j (by omega)])]
  · have := heldIntS_loop zs (by omega) c hc hc' (fun j hj => z3 j (by omega)) zs.length k 0 (by omega) (by omega)
    simpa [laws_heldIntS.f, z1] using this

/-! runs: RunsOf, in both texts -/
theorem set_last (l : List Int) (x y : Int) : (l ++ [x]).set l.length y = l ++ [y] := by
  rw [List.set_append_right _ _ (Nat.le_refl _)]; simp
theorem rd_last (l : List Int) (x : Int) : rd (l ++ [x]) (l.length : Int) = x := by
  rw [rd_at _ l.length (by simp)]; simp
theorem len_last (l : List Int) (x : Int) (h : l.length ≤ 1000) : wrap64 (((l ++ [x]).length : Int) - 1) = (l.length : Int) := by
  have : (l ++ [x]).length = l.length + 1 := by simp
  rw [wr (by omega) (by omega)]; omega
/-- Both loops go from the same runs to the same runs; each run is from 1 on; together they are as many as the bits. -/
theorem runs_loop (bits : List Bool) (hb : bits.length ≤ 40) (d : Nat) : ∀ (k : Nat) (o : List Int) (i : Nat), i + d = bits.length → d < k → o.length ≤ i → (i = 0 → o = []) → (0 < i → o ≠ []) → (∀ x ∈ o, 1 ≤ x) → o.sum = (i : Int) →
    ∃ r, spec_RunsOf.l0 k bits o bits (bits.length : Int) (i : Int) = some (r, true) ∧ impl_RunsOf.l0 k bits o bits (bits.length : Int) (i : Int) = some (r, true) ∧ r.length ≤ 40 ∧ (∀ x ∈ r, 1 ≤ x) ∧ r.sum = (bits.length : Int) := by
  induction d with
  | zero =>
    intro k o i hd hk ho h0 h1 hm hs
    obtain ⟨k, rfl⟩ : ∃ m, k = m + 1 := ⟨k - 1, by omega⟩
    have hx : ¬ (i : Int) < (bits.length : Int) := by omega
    simp only [spec_RunsOf.l0, impl_RunsOf.l0, if_neg hx]
    exact ⟨o, rfl, rfl, by omega, hm, by rw [hs]; omega⟩
  | succ d ih =>
    intro k o i hd hk ho h0 h1 hm hs
    obtain ⟨k, rfl⟩ : ∃ m, k = m + 1 := ⟨k - 1, by omega⟩
    have g1 : (i : Int) < (bits.length : Int) := by omega
    have g2 : (0 : Int) ≤ (i : Int) := by omega
    have g3 : o.length < 17592186044416 := by omega
    have newRun : ∀ k, d < k → ∃ r, spec_RunsOf.l0 k bits (o ++ [1]) bits (bits.length : Int) ((i + 1 : Nat) : Int) = some (r, true) ∧ impl_RunsOf.l0 k bits (o ++ [1]) bits (bits.length : Int) ((i + 1 : Nat) : Int) = some (r, true) ∧ r.length ≤ 40 ∧ (∀ x ∈ r, 1 ≤ x) ∧ r.sum = (bits.length : Int) := by
      intro k hk
      refine ih k (o ++ [1]) (i + 1) (by omega) hk (by simp; omega) (by omega) (by simp) ?_ ?_
      · intro x hx
        rcases List.mem_append.1 hx with hx | hx
        · exact hm x hx
        · simp at hx; omega
      · simp [hs]
    have e0 : (o ++ [0]).set o.length (wrap64 (0 + 1)) = o ++ [1] := by rw [set_last, wr (by omega) (by omega)]; rfl
    have q1 : (0 : Int) ≤ (o.length : Int) := by omega
    have q2 : (o.length : Int) < ((o ++ [0]).length : Int) := by simp; omega
    simp only [spec_RunsOf.l0, impl_RunsOf.l0, if_pos g1, if_pos g2]
    by_cases hi : i = 0
    · subst hi
      have z1 : ¬ ((0 : Nat) : Int) > 0 := by omega
      have z2 : ((0 : Nat) : Int) = 0 := rfl
      simp only [if_neg z1, if_pos z2, if_pos g3, Option.bind_some, len_last o 0 (by omega), if_pos q1, if_pos q2, Int.toNat_natCast, rd_last, e0, wr_succ 0 (by omega)]
      exact newRun k (by omega)
    · have z1 : (i : Int) > 0 := by omega
      have z2 : ¬ (i : Int) = 0 := by omega
      have e1 : wrap64 ((i : Int) - 1) = ((i - 1 : Nat) : Int) := by rw [wr (by omega) (by omega)]; omega
      have z3 : (0 : Int) ≤ ((i - 1 : Nat) : Int) := by omega
      have z4 : ((i - 1 : Nat) : Int) < (bits.length : Int) := by omega
      simp only [if_pos z1, if_neg z2, e1, if_pos z3, if_pos z4, rdb_at bits (i - 1) (by omega), rdb_at bits i (by omega)]
      obtain ⟨l, x, rfl⟩ : ∃ l x, o = l ++ [x] := by
        rcases List.eq_nil_or_concat o with h | ⟨l, x, h⟩
        · exact absurd h (h1 (by omega))
        · exact ⟨l, x, by rw [h, List.concat_eq_append]⟩
      have hl : (l ++ [x]).length = l.length + 1 := by simp
      have q3 : (0 : Int) ≤ (l.length : Int) := by omega
      have q4 : (l.length : Int) < ((l ++ [x]).length : Int) := by omega
      have hx1 := hm x (by simp)
      have hx2 : x ≤ 40 := by
        have hp : ∀ (m : List Int), (∀ y ∈ m, 1 ≤ y) → 0 ≤ m.sum := by
          intro m
          induction m with
          | nil => intro _; simp
          | cons y m ihm =>
            intro hy
            have h1 := hy y (by simp)
            have h2 := ihm (fun z hz => hy z (by simp [hz]))
            simp only [List.sum_cons]; omega
        have := hp l (fun y hy => hm y (by simp [hy]))
        simp at hs
        omega
      cases hb' : (bits[i - 1] == bits[i])
      · have hn' : (bits[i - 1] != bits[i]) = true := by simp [bne, hb']
        simp only [Bool.false_eq_true, if_false, if_pos g3, hn', if_true, Option.bind_some, len_last (l ++ [x]) 0 (by omega), if_pos q1, if_pos q2, Int.toNat_natCast, rd_last, e0, wr_succ i (by omega)]
        exact newRun k (by omega)
      · have hn' : (bits[i - 1] != bits[i]) = false := by simp [bne, hb']
        have e2 : wrap64 (x + 1) = x + 1 := wr (by omega) (by omega)
        simp only [if_true, hn', Bool.false_eq_true, if_false, len_last l x (by omega), if_pos q3, if_pos q4, Int.toNat_natCast, rd_last, set_last, e2, wr_succ i (by omega)]
        refine ih k (l ++ [x + 1]) (i + 1) (by omega) (by omega) (by simp; omega) (by omega) (by simp) ?_ ?_
        · intro y hy
          rcases List.mem_append.1 hy with hy | hy
          · exact hm y (by simp [hy])
          · simp at hy; omega
        · simp at hs ⊢
          omega
theorem runs_of (bits : List Bool) : ∃ r : List Int × Bool, r.1.length ≤ 40 ∧ (∀ k, 100 < k → spec_RunsOf.f k bits = some r ∧ impl_RunsOf.f k bits = some r) ∧ (r.2 = true → (∀ x ∈ r.1, 1 ≤ x) ∧ r.1.sum = (bits.length : Int)) := by
  by_cases h : bits.length ≤ 40
  · have e1 : (bits.length : Int) ≤ 40 := by omega
    have e2 : ¬ (bits.length : Int) > 40 := by omega
    obtain ⟨r, r1, r2, r3, r4⟩ := runs_loop bits h bits.length 41 [] 0 (by omega) (by omega) (by simp) (fun _ => rfl) (by omega) (by simp) rfl
    refine ⟨(r, true), r3, fun k hk => ⟨?_, ?_⟩, fun _ => r4⟩
    · unfold spec_RunsOf.f spec_l3Long.f
      simp only [Option.bind_some, e1, decide_true, if_true]
      exact at_rounds (fun k => spec_RunsOf.mono_l k _ _ _ _ _) (by omega : 41 ≤ k) r1
    · unfold impl_RunsOf.f
      rw [if_neg e2]
      exact at_rounds (fun k => impl_RunsOf.mono_l k _ _ _ _ _) (by omega : 41 ≤ k) r2
  · have e1 : ¬ (bits.length : Int) ≤ 40 := by omega
    have e2 : (bits.length : Int) > 40 := by omega
    refine ⟨([], false), by simp, fun k hk => ⟨?_, ?_⟩, fun h => by cases h⟩
    · simp [spec_RunsOf.f, spec_l3Long.f, e1]
    · unfold impl_RunsOf.f
      rw [if_pos e2]

theorem FnExactRunsOf : ∀ (l0 : List Bool), l0.length ≤ maxLen → ∃ k, laws_FnExactRunsOf.f k l0 = some true := by
  intro a _
  refine rounds_of (a.length + 200) fun k hk => ?_
  obtain ⟨k, rfl⟩ : ∃ j, k = j + 3 := ⟨k - 3, by omega⟩
  unfold laws_FnExactRunsOf.f
  by_cases h : (a.length : Int) > 1048576
  · rw [if_pos h]
  · rw [if_neg h]
    obtain ⟨r, hl, hr, _⟩ := runs_of a
    obtain ⟨za, za2⟩ := markBoolS_some a (by omega) 1 (by omega) (by omega) (by omega : a.length < k + 2)
    obtain ⟨zo, zo1, zo2, zo3⟩ := markIntS_held r.1 (by omega) 1 (by omega) (by omega)
    have q1 : ¬ (1 + (a.length : Int) < 0) := by omega
    have q2 : ¬ (1 + (r.1.length : Int) < 0) := by omega
    simp only [toBoolS_eq (k := k + 3) a (by omega) (by omega), hr (k + 3) (by omega), eqIntS_self (k := k + 3) r.1 (by omega) (by omega), Option.bind_some, bne_self_eq_false, if_true]
    simp only [laws_FnExactRunsOf.j0, toBoolS_eq (k := k + 2) a (by omega) (by omega), eqBoolS_self (k := k + 2) a (by omega) (by omega), eqIntS_self (k := k + 2) r.1 (by omega) (by omega), za2, Option.bind_some, if_true, if_neg q1, bne_self_eq_false, Bool.false_eq_true, if_false]
    simp only [laws_FnExactRunsOf.j1, toBoolS_eq (k := k + 1) a (by omega) (by omega), hr (k + 1) (by omega), eqIntS_self (k := k + 1) r.1 (by omega) (by omega), zo2 (k + 1) (by omega), zo3 (k + 1) (by omega), Option.bind_some, if_true, if_neg q2, bne_self_eq_false, Bool.false_eq_true, if_false]
    simp only [laws_FnExactRunsOf.j2, zo3 k (by omega), Option.bind_some, if_true, if_neg q2, Bool.false_eq_true, if_false]

end Go.Proofs.Yticchbgbbnpgoaa.Pure
