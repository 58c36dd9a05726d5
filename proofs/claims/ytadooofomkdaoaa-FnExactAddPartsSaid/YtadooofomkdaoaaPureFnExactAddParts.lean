/- AddParts answers as the reference does, leaves its arguments alone and owns its answer, for all parts (the plain half). -/
import Derived.Test.YtadooofomkdaoaaQFnExactAddPartsx
set_option linter.unusedVariables false
set_option linter.unusedSimpArgs false
namespace Go.Proofs.Ytadooofomkdaoaa.Pure
open Go.RowKit Go.Proofs.Ytadooofomkdaoaa.QFnExactAddParts Go.Proofs.YtadooofomkdaoaaW.PrintWords Go.Proofs.YtadooofomkdaoaaW.PrintLast Go.Proofs.YtadooofomkdaoaaW.PrintMore

/-! base: sums of int that stay in range; `tmod` and `tdiv` of what is not negative -/
theorem wr {x : Int} (h1 : -9223372036854775808 ≤ x) (h2 : x ≤ 9223372036854775807) : wrap64 x = x := by
  unfold wrap64; omega
theorem tmod_pos {a b : Int} (h : 0 ≤ a) : Int.tmod a b = a % b := Int.tmod_eq_emod_of_nonneg h
theorem tdiv_pos {a b : Int} (h : 0 ≤ a) : Int.tdiv a b = a / b := Int.tdiv_eq_ediv_of_nonneg h
theorem rounds_of {α : Type} {g : Nat → Option α} {r : α} (N : Nat) (h : ∀ k, N < k → g k = some r) : ∃ k, g k = some r := ⟨N + 1, h _ (Nat.lt_succ_self N)⟩

/-! lists: reading a list at a place; a copy of a list; a list is like itself -/
theorem rd_at (xs : List Int) (i : Nat) (h : i < xs.length) : rd xs (i : Int) = xs[i] := by
  simp [rd, List.getD_eq_getElem?_getD, h]
theorem wr_succ (i : Nat) (h : i < 9000000000000000000) : wrap64 ((i : Int) + 1) = ((i + 1 : Nat) : Int) := by
  rw [wr (by omega) (by omega)]; omega
theorem same_list {α : Type} {xs ys : List α} (hl : ys.length = xs.length) (h : ∀ j, j < xs.length → ys[j]? = xs[j]?) : ys = xs := by
  apply List.ext_getElem?
  intro j
  by_cases hj : j < xs.length
  · exact h j hj
  · rw [List.getElem?_eq_none (by omega), List.getElem?_eq_none (by omega)]
theorem set_upto {α : Type} {xs ys : List α} {i : Nat} (hl : ys.length = xs.length) (hi : i < xs.length) (h : ∀ j, j < i → ys[j]? = xs[j]?) :
    ∀ j, j < i + 1 → (ys.set i xs[i])[j]? = xs[j]? := by
  intro j hj
  rw [List.getElem?_set]
  by_cases e : i = j
  · subst e; rw [if_pos rfl, if_pos (by omega), List.getElem?_eq_getElem hi]
  · rw [if_neg e]; exact h j (by omega)

/-! toparts: laws.toPartS makes parts of the law's own -/
def cvP (p : S99) : S70 := ⟨p.f0, p.f1⟩
theorem rdq_at (xs : List S99) (i : Nat) (h : i < xs.length) : rd_T99 xs (i : Int) = xs[i] := by
  simp [rd_T99, List.getD_eq_getElem?_getD, h]
theorem toPartS_loop (xs : List S99) (hn : xs.length ≤ 17592186044416) (d : Nat) : ∀ (k : Nat) (ys : List S70) (i : Nat), ys.length = (xs.map cvP).length → (∀ j, j < i → ys[j]? = (xs.map cvP)[j]?) → i + d = (xs.map cvP).length → d < k →
    laws_toPartS.l0 k xs ys (i : Int) = some (xs.map cvP) := by
  have hm : (xs.map cvP).length = xs.length := by simp
  induction d with
  | zero =>
    intro k ys i hl h hd hk
    obtain ⟨k, rfl⟩ : ∃ m, k = m + 1 := ⟨k - 1, by omega⟩
    simp only [laws_toPartS.l0]
    rw [if_neg (by omega), same_list hl (fun j hj => h j (by omega))]
  | succ d ih =>
    intro k ys i hl h hd hk
    obtain ⟨k, rfl⟩ : ∃ m, k = m + 1 := ⟨k - 1, by omega⟩
    have hi : i < xs.length := by omega
    have hi' : i < (xs.map cvP).length := by omega
    have h1 : (i : Int) < (xs.length : Int) := by omega
    have h2 : (0 : Int) ≤ (i : Int) := by omega
    have h3 : (i : Int) < (ys.length : Int) := by omega
    have e : (⟨xs[i].f0, xs[i].f1⟩ : S70) = (xs.map cvP)[i] := by simp [cvP]
    simp only [laws_toPartS.l0, laws_toPart.f]
    rw [if_pos h1, if_pos h2, Option.bind_some, if_pos h3, rdq_at xs i hi, wr_succ i (by omega), Int.toNat_natCast]
    show laws_toPartS.l0 k xs (ys.set i (⟨xs[i].f0, xs[i].f1⟩ : S70)) ((i + 1 : Nat) : Int) = _
    rw [e]
    exact ih k _ (i + 1) (by simpa using hl) (set_upto hl hi' h) (by omega) (by omega)
theorem toPartS_eq {k : Nat} (xs : List S99) (hn : xs.length ≤ 17592186044416) (hk : xs.length < k) : laws_toPartS.f k xs = some (xs.map cvP) := by
  unfold laws_toPartS.f
  rw [if_pos (by omega), if_pos (by omega)]
  exact toPartS_loop xs hn xs.length k _ 0 (by simp) (fun j hj => by omega) (by simp) hk
theorem sz_parts (xs : List S99) (left : Int) (hn : xs.length ≤ 9223372036854775807) (h0 : 0 ≤ left) (h1 : left ≤ 1048576) : laws_szPartS.f xs left = some (if left < (xs.length : Int) then -1 else left - xs.length) := by
  unfold laws_szPartS.f
  rw [wr (by omega) (by omega)]
  by_cases h : left < (xs.length : Int)
  · rw [if_pos (by omega), if_pos h]
  · rw [if_neg (by omega), if_neg h]

/-! parts: laws.eqPartS, laws.markPartS, laws.heldPartS -/
theorem rdp_at (xs : List S70) (i : Nat) (h : i < xs.length) : rd_T70 xs (i : Int) = xs[i] := by
  simp [rd_T70, List.getD_eq_getElem?_getD, h]
theorem eqPart_self (a b : Int) : laws_eqPart.f a b a b = some true := by simp [laws_eqPart.f]
theorem eqPartS_loop (xs : List S70) (hn : xs.length ≤ 35184372088832) (d : Nat) : ∀ (k : Nat) (i : Nat), i + d = xs.length → d < k → laws_eqPartS.l0 k xs xs (i : Int) = some true := by
  induction d with
  | zero =>
    intro k i hd hk
    obtain ⟨k, rfl⟩ : ∃ m, k = m + 1 := ⟨k - 1, by omega⟩
    simp only [laws_eqPartS.l0]
    rw [if_neg (by omega)]
  | succ d ih =>
    intro k i hd hk
    obtain ⟨k, rfl⟩ : ∃ m, k = m + 1 := ⟨k - 1, by omega⟩
    have h1 : (i : Int) < (xs.length : Int) := by omega
    have h2 : (0 : Int) ≤ (i : Int) := by omega
    simp only [laws_eqPartS.l0, if_pos h1, if_pos h2, eqPart_self, Option.bind_some, if_true, wr_succ i (by omega)]
    exact ih k (i + 1) (by omega) (by omega)
theorem eqPartS_self {k : Nat} (xs : List S70) (hn : xs.length ≤ 35184372088832) (hk : xs.length < k) : laws_eqPartS.f k xs xs = some true := by
  unfold laws_eqPartS.f
  rw [if_pos rfl]
  exact eqPartS_loop xs hn xs.length k 0 (by omega) hk

/-! markparts: laws.markPartS writes marks, laws.heldPartS finds them -/
theorem markPartS_loop (n : Nat) (hn : n ≤ 35184372088832) (c : Int) (hc : 0 ≤ c) (hc' : c ≤ 1000000000000000000) (d : Nat) : ∀ (k : Nat) (ys : List S70) (i : Nat), ys.length = n → i + d = n → d < k →
    (∀ j, j < i → ys[j]? = some ⟨c + 2 * j, c + 2 * j + 1⟩) →
    ∃ zs, zs.length = n ∧ laws_markPartS.l0 k ys (c + 2 * i) (i : Int) = some (c + 2 * n, zs) ∧ ∀ j : Nat, j < n → zs[j]? = some ⟨c + 2 * j, c + 2 * j + 1⟩ := by
  induction d with
  | zero =>
    intro k ys i hl hd hk h
    obtain ⟨k, rfl⟩ : ∃ m, k = m + 1 := ⟨k - 1, by omega⟩
    obtain rfl : i = n := by omega
    refine ⟨ys, hl, ?_, h⟩
    simp only [laws_markPartS.l0]
    rw [if_neg (by omega)]
  | succ d ih =>
    intro k ys i hl hd hk h
    obtain ⟨k, rfl⟩ : ∃ m, k = m + 1 := ⟨k - 1, by omega⟩
    have h1 : (i : Int) < (ys.length : Int) := by omega
    have h2 : (0 : Int) ≤ (i : Int) := by omega
    have e1 : wrap64 (c + 2 * (i : Int) + 1) = c + 2 * (i : Int) + 1 := wr (by omega) (by omega)
    have e2 : wrap64 (c + 2 * (i : Int) + 1 + 1) = c + 2 * ((i + 1 : Nat) : Int) := by rw [wr (by omega) (by omega)]; omega
    have e3 : rd_T70 (ys.set i ⟨c + 2 * (i : Int), (rd_T70 ys (i : Int)).f1⟩) (i : Int) = ⟨c + 2 * (i : Int), (rd_T70 ys (i : Int)).f1⟩ := by
      rw [rdp_at _ i (by simp; omega)]; simp
    obtain ⟨zs, z1, z2, z3⟩ := ih k (ys.set i ⟨c + 2 * (i : Int), c + 2 * (i : Int) + 1⟩) (i + 1) (by simpa using hl) (by omega) (by omega) (by
      intro j hj
      rw [List.getElem?_set]
      by_cases e : i = j
      · subst e; rw [if_pos rfl, if_pos (by omega)]
      · rw [if_neg e]; exact h j (by omega))
    refine ⟨zs, z1, ?_, z3⟩
    simp only [laws_markPartS.l0, if_pos h1, if_pos h2, Option.bind_some, Int.toNat_natCast, e1, e2, e3, List.set_set, wr_succ i (by omega)]
    exact z2
theorem heldPartS_loop (zs : List S70) (hn : zs.length ≤ 35184372088832) (c : Int) (hc : 0 ≤ c) (hc' : c ≤ 1000000000000000000) (hz : ∀ j : Nat, j < zs.length → zs[j]? = some ⟨c + 2 * j, c + 2 * j + 1⟩) (d : Nat) : ∀ (k : Nat) (i : Nat), i + d = zs.length → d < k →
    laws_heldPartS.l0 k zs (c + 2 * i) (i : Int) = some (c + 2 * zs.length) := by
  induction d with
  | zero =>
    intro k i hd hk
    obtain ⟨k, rfl⟩ : ∃ m, k = m + 1 := ⟨k - 1, by omega⟩
    simp only [laws_heldPartS.l0]
    rw [if_neg (by omega), show i = zs.length by omega]
  | succ d ih =>
    intro k i hd hk
    obtain ⟨k, rfl⟩ : ∃ m, k = m + 1 := ⟨k - 1, by omega⟩
    have hi : i < zs.length := by omega
    have h1 : (i : Int) < (zs.length : Int) := by omega
    have h2 : (0 : Int) ≤ (i : Int) := by omega
    have e1 : wrap64 (c + 2 * (i : Int) + 1) = c + 2 * (i : Int) + 1 := wr (by omega) (by omega)
    have e2 : wrap64 (c + 2 * (i : Int) + 1 + 1) = c + 2 * ((i + 1 : Nat) : Int) := by rw [wr (by omega) (by omega)]; omega
    have hv : rd_T70 zs (i : Int) = ⟨c + 2 * (i : Int), c + 2 * (i : Int) + 1⟩ := by
      have := hz i hi
      rw [List.getElem?_eq_getElem hi] at this
      rw [rdp_at zs i hi, Option.some.inj this]
    simp only [laws_heldPartS.l0, if_pos h1, if_pos h2, hv, e1, e2, if_true, wr_succ i (by omega)]
    exact ih k (i + 1) (by omega) (by omega)
theorem markPartS_held (xs : List S70) (hn : xs.length ≤ 35184372088832) (c : Int) (hc : 0 ≤ c) (hc' : c ≤ 1000000000000000000) :
    ∃ zs, zs.length = xs.length ∧ (∀ k, xs.length < k → laws_markPartS.f k xs c = some (c + 2 * xs.length, zs)) ∧ (∀ k, xs.length < k → laws_heldPartS.f k zs c = some (c + 2 * xs.length)) := by
  have all : ∀ k, xs.length < k → ∃ zs, zs.length = xs.length ∧ laws_markPartS.f k xs c = some (c + 2 * xs.length, zs) ∧ ∀ j : Nat, j < xs.length → zs[j]? = some ⟨c + 2 * j, c + 2 * j + 1⟩ := by
    intro k hk
    have := markPartS_loop xs.length hn c hc hc' xs.length k xs 0 rfl (by omega) hk (fun j hj => by omega)
    simpa [laws_markPartS.f] using this
  obtain ⟨zs, z1, _, z3⟩ := all (xs.length + 1) (by omega)
  refine ⟨zs, z1, fun k hk => ?_, fun k hk => ?_⟩
  · obtain ⟨us, u1, u2, u3⟩ := all k hk
    rw [u2, show us = zs from same_list (by omega) (fun j hj => by rw [u3 j (by omega), z3 j (by omega)])]
  · have := heldPartS_loop zs (by omega) c hc hc' (fun j hj => z3 j (by omega)) zs.length k 0 (by omega) (by omega)
    simpa [laws_heldPartS.f, z1] using this

/-! ins: between two numbers, in the reference -/
theorem in_some (a b c : Int) : spec_l1In.f a b c = some (decide (b ≤ a) && decide (a ≤ c)) := by
  unfold spec_l1In.f
  by_cases h : a ≥ b
  · rw [if_pos h]; have : b ≤ a := h; simp [this]
  · rw [if_neg h]; have : ¬ b ≤ a := h; simp [this]

/-! in: between two numbers -/
theorem within_eq (a b c : Int) : impl_within.f a b c = spec_l1In.f a b c := rfl

/-! inall: all numbers of a list between two numbers -/
def inAll (lo hi : Int) (xs : List Int) : Bool := xs.all fun x => decide (lo ≤ x) && decide (x ≤ hi)
theorem inAll_mem {lo hi : Int} {xs : List Int} (h : inAll lo hi xs = true) : ∀ x ∈ xs, lo ≤ x ∧ x ≤ hi := by
  intro x hx
  have := List.all_eq_true.1 h x hx
  simpa using this

/-! iall: all numbers of a list between two numbers, in the program -/
theorem iall_loop (lo up : Int) (xs : List Int) (hn : xs.length ≤ 35184372088832) (d : Nat) : ∀ (k : Nat) (i : Nat), i + d = xs.length → d < k →
    impl_allWithin.l0 k lo up xs (xs.length : Int) (i : Int) = some (inAll lo up (xs.drop i)) := by
  induction d with
  | zero =>
    intro k i hd hk
    obtain ⟨k, rfl⟩ : ∃ m, k = m + 1 := ⟨k - 1, by omega⟩
    simp only [impl_allWithin.l0]
    rw [if_neg (by omega), List.drop_of_length_le (by omega)]; rfl
  | succ d ih =>
    intro k i hd hk
    obtain ⟨k, rfl⟩ : ∃ m, k = m + 1 := ⟨k - 1, by omega⟩
    have hi : i < xs.length := by omega
    have h1 : (i : Int) < (xs.length : Int) := by omega
    have h2 : (0 : Int) ≤ (i : Int) := by omega
    simp only [impl_allWithin.l0]
    rw [if_pos h1, if_pos h2, if_pos h1, rd_at xs i hi, within_eq, in_some, wr_succ i (by omega), ih k (i + 1) (by omega) (by omega), List.drop_eq_getElem_cons hi]
    simp only [Option.bind_some, inAll, List.all_cons]
    generalize (decide (lo ≤ xs[i]) && decide (xs[i] ≤ up)) = b
    cases b <;> simp
theorem impl_all {k : Nat} (lo hi : Int) (xs : List Int) (hn : xs.length ≤ 35184372088832) (hk : xs.length < k) : impl_allWithin.f k xs lo hi = some (inAll lo hi xs) := by
  unfold impl_allWithin.f
  have := iall_loop lo hi xs hn xs.length k 0 (by omega) hk
  simpa using this

/-! has: a list has a number, in the reference -/
theorem mem_drop_step (xs : List Int) (v : Int) (i : Nat) (h : i < xs.length) : (v ∈ xs.drop i) ↔ xs[i] = v ∨ v ∈ xs.drop (i + 1) := by
  rw [List.drop_eq_getElem_cons h, List.mem_cons]
  constructor
  · rintro (h | h)
    · exact .inl h.symm
    · exact .inr h
  · rintro (h | h)
    · exact .inl h.symm
    · exact .inr h
theorem has_loop (xs : List Int) (v : Int) (hn : xs.length ≤ 35184372088832) (d : Nat) : ∀ (k : Nat) (i : Nat), i + d = xs.length → d < k → spec_l1Has.l0 k v xs (xs.length : Int) (i : Int) = some (decide (v ∈ xs.drop i)) := by
  induction d with
  | zero =>
    intro k i hd hk
    obtain ⟨k, rfl⟩ : ∃ m, k = m + 1 := ⟨k - 1, by omega⟩
    simp only [spec_l1Has.l0]
    rw [if_neg (by omega), List.drop_of_length_le (by omega)]; simp
  | succ d ih =>
    intro k i hd hk
    obtain ⟨k, rfl⟩ : ∃ m, k = m + 1 := ⟨k - 1, by omega⟩
    have hi : i < xs.length := by omega
    have h1 : (i : Int) < (xs.length : Int) := by omega
    have h2 : (0 : Int) ≤ (i : Int) := by omega
    simp only [spec_l1Has.l0]
    rw [if_pos h1, if_pos h2, if_pos h1, rd_at xs i hi, wr_succ i (by omega), ih k (i + 1) (by omega) (by omega)]
    simp only [mem_drop_step xs v i hi]
    by_cases h : xs[i] = v
    · rw [if_pos h]; simp [h]
    · rw [if_neg h]; simp [h]
theorem spec_has {k : Nat} (xs : List Int) (v : Int) (hn : xs.length ≤ 35184372088832) (hk : xs.length < k) : spec_l1Has.f k xs v = some (decide (v ∈ xs)) := by
  unfold spec_l1Has.f
  have := has_loop xs v hn xs.length k 0 (by omega) hk
  simpa using this

/-! contains: a list has a number, in the library's words -/
theorem mem_drop_step' (xs : List Int) (v : Int) (i : Nat) (h : i < xs.length) : (v ∈ xs.drop i) ↔ v = xs[i] ∨ v ∈ xs.drop (i + 1) := by
  rw [List.drop_eq_getElem_cons h, List.mem_cons]
theorem index_loop (xs : List Int) (v : Int) (hn : xs.length ≤ 35184372088832) (d : Nat) : ∀ (k : Nat) (i : Nat), i + d = xs.length → d < k → ∃ r, slices_Index_int_int.l0 k xs v (xs.length : Int) (i : Int) = some r ∧ (r ≥ 0 ↔ v ∈ xs.drop i) := by
  induction d with
  | zero =>
    intro k i hd hk
    obtain ⟨k, rfl⟩ : ∃ m, k = m + 1 := ⟨k - 1, by omega⟩
    simp only [slices_Index_int_int.l0]
    rw [if_neg (by omega), List.drop_of_length_le (by omega)]
    exact ⟨-1, rfl, by simp⟩
  | succ d ih =>
    intro k i hd hk
    obtain ⟨k, rfl⟩ : ∃ m, k = m + 1 := ⟨k - 1, by omega⟩
    have hi : i < xs.length := by omega
    have h1 : (i : Int) < (xs.length : Int) := by omega
    have h2 : (0 : Int) ≤ (i : Int) := by omega
    simp only [slices_Index_int_int.l0]
    rw [if_pos h1, if_pos h2, if_pos h1, rd_at xs i hi, wr_succ i (by omega), mem_drop_step' xs v i hi]
    by_cases h : v = xs[i]
    · rw [if_pos h]
      exact ⟨i, rfl, by simp [h]⟩
    · rw [if_neg h]
      obtain ⟨r, h3, h4⟩ := ih k (i + 1) (by omega) (by omega)
      exact ⟨r, h3, by rw [h4]; simp [h]⟩
theorem lib_contains {k : Nat} (xs : List Int) (v : Int) (hn : xs.length ≤ 35184372088832) (hk : xs.length < k) : slices_Contains_int_int.f k xs v = some (decide (v ∈ xs)) := by
  unfold slices_Contains_int_int.f slices_Index_int_int.f
  obtain ⟨r, h1, h2⟩ := index_loop xs v hn xs.length k 0 (by omega) hk
  rw [show ((0 : Nat) : Int) = 0 from rfl] at h1
  rw [List.drop_zero] at h2
  simp only [h1, Option.bind_some, h2]

/-! unlikexs: numbers unlike each other, in both texts -/
def uq (xs : List Int) : Nat → Nat → Bool
  | 0, _ => true
  | d + 1, i => !decide (xs.getD i 0 ∈ xs.take i) && uq xs d (i + 1)
def goodXs (xs : List Int) : Bool := uq xs xs.length 0 && (decide (1 ≤ (xs.length : Int)) && decide ((xs.length : Int) ≤ 8)) && inAll 1 1498 xs
theorem spec_xs_loop (xs : List Int) (hn : xs.length ≤ 35184372088832) (d : Nat) : ∀ (k : Nat) (i : Nat), i + d = xs.length → d + xs.length < k →
    spec_l5Xs.l0 k xs xs (xs.length : Int) (i : Int) = some (uq xs d i && (decide (1 ≤ (xs.length : Int)) && decide ((xs.length : Int) ≤ 8)) && inAll 1 1498 (xs.drop i)) := by
  induction d with
  | zero =>
    intro k i hd hk
    obtain ⟨k, rfl⟩ : ∃ m, k = m + 1 := ⟨k - 1, by omega⟩
    simp only [spec_l5Xs.l0]
    rw [if_neg (by omega), in_some, List.drop_of_length_le (by omega)]
    simp [uq, inAll]
  | succ d ih =>
    intro k i hd hk
    obtain ⟨k, rfl⟩ : ∃ m, k = m + 1 := ⟨k - 1, by omega⟩
    have hi : i < xs.length := by omega
    have h1 : (i : Int) < (xs.length : Int) := by omega
    have h2 : (0 : Int) ≤ (i : Int) := by omega
    have h3 : (i : Int) ≤ (xs.length : Int) := by omega
    have hg : xs.getD i 0 = xs[i] := by rw [List.getD_eq_getElem?_getD, List.getElem?_eq_getElem hi]; rfl
    have ht : (xs.take i).length ≤ xs.length := by simp; omega
    simp only [spec_l5Xs.l0, uq]
    rw [if_pos h1, if_pos h2, if_pos h1, if_pos h3, rd_at xs i hi, hg, wr_succ i (by omega), in_some, Int.toNat_natCast, spec_has (k := k) _ _ (by omega) (by omega), ih k (i + 1) (by omega) (by omega), List.drop_eq_getElem_cons hi]
    simp only [Option.bind_some, inAll, List.all_cons]
    generalize (decide (1 ≤ xs[i]) && decide (xs[i] ≤ 1498)) = b
    generalize decide (xs[i] ∈ xs.take i) = c
    cases b <;> cases c <;> simp
theorem spec_xs {k : Nat} (xs : List Int) (hn : xs.length ≤ 35184372088832) (hk : 2 * xs.length < k) : spec_l5Xs.f k xs = some (goodXs xs) := by
  unfold spec_l5Xs.f
  have := spec_xs_loop xs hn xs.length k 0 (by omega) (by omega)
  simpa [goodXs] using this
theorem impl_xs_loop (xs : List Int) (hn : xs.length ≤ 35184372088832) (d : Nat) : ∀ (k : Nat) (i : Nat), i + d = xs.length → d + 1 + xs.length < k →
    impl_areUnlike.l0 k xs xs (xs.length : Int) (i : Int) = some (uq xs d i && (decide (1 ≤ (xs.length : Int)) && decide ((xs.length : Int) ≤ 8)) && inAll 1 1498 xs) := by
  induction d with
  | zero =>
    intro k i hd hk
    obtain ⟨k, rfl⟩ : ∃ m, k = m + 1 := ⟨k - 1, by omega⟩
    simp only [impl_areUnlike.l0]
    rw [if_neg (by omega), within_eq, in_some, impl_all 1 1498 xs hn (by omega)]
    simp only [Option.bind_some, uq, Bool.true_and]
    cases (decide (1 ≤ (xs.length : Int)) && decide ((xs.length : Int) ≤ 8)) <;> simp
  | succ d ih =>
    intro k i hd hk
    obtain ⟨k, rfl⟩ : ∃ m, k = m + 1 := ⟨k - 1, by omega⟩
    have hi : i < xs.length := by omega
    have h1 : (i : Int) < (xs.length : Int) := by omega
    have h2 : (0 : Int) ≤ (i : Int) := by omega
    have h3 : (i : Int) ≤ (xs.length : Int) := by omega
    have hg : xs.getD i 0 = xs[i] := by rw [List.getD_eq_getElem?_getD, List.getElem?_eq_getElem hi]; rfl
    have ht : (xs.take i).length ≤ xs.length := by simp; omega
    simp only [impl_areUnlike.l0, uq]
    rw [if_pos h1, if_pos h2, if_pos h1, if_pos h3, rd_at xs i hi, hg, wr_succ i (by omega), Int.toNat_natCast, lib_contains (k := k) _ _ (by omega) (by omega), ih k (i + 1) (by omega) (by omega)]
    simp only [Option.bind_some]
    generalize decide (xs[i] ∈ xs.take i) = c
    cases c <;> simp
theorem impl_xs {k : Nat} (xs : List Int) (hn : xs.length ≤ 35184372088832) (hk : 2 * xs.length + 1 < k) : impl_areUnlike.f k xs = some (goodXs xs) := by
  unfold impl_areUnlike.f
  have := impl_xs_loop xs hn xs.length k 0 (by omega) (by omega)
  simpa [goodXs] using this
theorem goodXs_all {xs : List Int} (h : goodXs xs = true) : 1 ≤ xs.length ∧ xs.length ≤ 8 ∧ ∀ x ∈ xs, 1 ≤ x ∧ x ≤ 1498 := by
  simp [goodXs] at h
  exact ⟨by omega, by omega, inAll_mem h.2⟩

/-! sall: all numbers of a list between two numbers, in the reference -/
theorem all_loop (lo up : Int) (xs : List Int) (hn : xs.length ≤ 35184372088832) (d : Nat) : ∀ (k : Nat) (i : Nat), i + d = xs.length → d < k →
    spec_l1All.l0 k lo up xs (xs.length : Int) (i : Int) = some (inAll lo up (xs.drop i)) := by
  induction d with
  | zero =>
    intro k i hd hk
    obtain ⟨k, rfl⟩ : ∃ m, k = m + 1 := ⟨k - 1, by omega⟩
    simp only [spec_l1All.l0]
    rw [if_neg (by omega), List.drop_of_length_le (by omega)]; rfl
  | succ d ih =>
    intro k i hd hk
    obtain ⟨k, rfl⟩ : ∃ m, k = m + 1 := ⟨k - 1, by omega⟩
    have hi : i < xs.length := by omega
    have h1 : (i : Int) < (xs.length : Int) := by omega
    have h2 : (0 : Int) ≤ (i : Int) := by omega
    simp only [spec_l1All.l0]
    rw [if_pos h1, if_pos h2, if_pos h1, rd_at xs i hi, in_some, wr_succ i (by omega), ih k (i + 1) (by omega) (by omega), List.drop_eq_getElem_cons hi]
    simp only [Option.bind_some, inAll, List.all_cons]
    generalize (decide (lo ≤ xs[i]) && decide (xs[i] ≤ up)) = b
    cases b <;> simp
theorem spec_all {k : Nat} (lo hi : Int) (xs : List Int) (hn : xs.length ≤ 35184372088832) (hk : xs.length < k) : spec_l1All.f k xs lo hi = some (inAll lo hi xs) := by
  unfold spec_l1All.f
  have := all_loop lo hi xs hn xs.length k 0 (by omega) hk
  simpa using this

/-! partsof: good parts, in both texts -/
def pX (l : List S70) : List Int := l.map fun p => p.f0
def pY (l : List S70) : List Int := l.map fun p => p.f1
theorem pX_len (l : List S70) : (pX l).length = l.length := by simp [pX]
theorem pY_len (l : List S70) : (pY l).length = l.length := by simp [pY]
theorem split_loop (l : List S70) (hn : l.length ≤ 8796093022208) (d : Nat) : ∀ (k : Nat) (xs ys : List Int) (i : Nat), xs.length = i → ys.length = i → i + d = l.length → d < k →
    spec_l5Split.l0 k xs ys l (l.length : Int) (i : Int) = some (xs ++ pX (l.drop i), ys ++ pY (l.drop i)) := by
  induction d with
  | zero =>
    intro k xs ys i hx hy hd hk
    obtain ⟨k, rfl⟩ : ∃ m, k = m + 1 := ⟨k - 1, by omega⟩
    simp only [spec_l5Split.l0]
    rw [if_neg (by omega), List.drop_of_length_le (by omega)]
    simp [pX, pY]
  | succ d ih =>
    intro k xs ys i hx hy hd hk
    obtain ⟨k, rfl⟩ : ∃ m, k = m + 1 := ⟨k - 1, by omega⟩
    have hi : i < l.length := by omega
    have h1 : (i : Int) < (l.length : Int) := by omega
    have h2 : (0 : Int) ≤ (i : Int) := by omega
    have h3 : xs.length < 17592186044416 := by omega
    have h4 : ys.length < 17592186044416 := by omega
    simp only [spec_l5Split.l0]
    rw [if_pos h1, if_pos h2, if_pos h1, if_pos h3, if_pos h4, rdp_at l i hi, wr_succ i (by omega), ih k _ _ (i + 1) (by simp; omega) (by simp; omega) (by omega) (by omega), List.drop_eq_getElem_cons hi]
    simp only [pX, pY, List.map_cons, List.append_assoc, List.singleton_append]
theorem spec_split {k : Nat} (l : List S70) (hn : l.length ≤ 8796093022208) (hk : l.length < k) : spec_l5Split.f k l = some (pX l, pY l) := by
  unfold spec_l5Split.f
  have := split_loop l hn l.length k [] [] 0 rfl rfl (by omega) hk
  simpa using this
theorem places_loop (l : List S70) (hn : l.length ≤ 8796093022208) (d : Nat) : ∀ (k : Nat) (xs : List Int) (i : Nat), xs.length = i → i + d = l.length → d < k →
    impl_placesOf.l0 k xs l (l.length : Int) (i : Int) = some (xs ++ pX (l.drop i)) := by
  induction d with
  | zero =>
    intro k xs i hx hd hk
    obtain ⟨k, rfl⟩ : ∃ m, k = m + 1 := ⟨k - 1, by omega⟩
    simp only [impl_placesOf.l0]
    rw [if_neg (by omega), List.drop_of_length_le (by omega)]
    simp [pX]
  | succ d ih =>
    intro k xs i hx hd hk
    obtain ⟨k, rfl⟩ : ∃ m, k = m + 1 := ⟨k - 1, by omega⟩
    have hi : i < l.length := by omega
    have h1 : (i : Int) < (l.length : Int) := by omega
    have h2 : (0 : Int) ≤ (i : Int) := by omega
    have h3 : xs.length < 17592186044416 := by omega
    simp only [impl_placesOf.l0]
    rw [if_pos h1, if_pos h2, if_pos h1, if_pos h3, rdp_at l i hi, wr_succ i (by omega), ih k _ (i + 1) (by simp; omega) (by omega) (by omega), List.drop_eq_getElem_cons hi]
    simp only [pX, List.map_cons, List.append_assoc, List.singleton_append]
theorem impl_places {k : Nat} (l : List S70) (hn : l.length ≤ 8796093022208) (hk : l.length < k) : impl_placesOf.f k l = some (pX l) := by
  unfold impl_placesOf.f
  have := places_loop l hn l.length k [] 0 rfl (by omega) hk
  simpa using this
def goodParts (l : List S70) : Bool := goodXs (pX l) && inAll 0 1498 (pY l)
theorem spec_parts {k : Nat} (l : List S70) (hn : l.length ≤ 8796093022208) (hk : 2 * l.length + 2 < k) : spec_l5Parts.f k l = some (goodParts l) := by
  have hx := pX_len l
  have hy := pY_len l
  unfold spec_l5Parts.f goodParts
  rw [spec_split l hn (by omega), Option.bind_some, spec_xs (pX l) (by omega) (by omega), Option.bind_some]
  by_cases h : goodXs (pX l) = true
  · rw [if_pos h, spec_all 0 1498 (pY l) (by omega) (by omega), h, Option.bind_some, Bool.true_and]
  · have h' : goodXs (pX l) = false := by simpa using h
    rw [if_neg h, h', Bool.false_and]
theorem part_1 (a b : Int) : impl_areParts_1.f a b = some (!(decide (0 ≤ b) && decide (b ≤ 1498))) := by
  unfold impl_areParts_1.f impl_isValue.f
  rw [within_eq, in_some, Option.bind_some, Option.bind_some]
theorem parts_index (l : List S70) (hn : l.length ≤ 8796093022208) (d : Nat) : ∀ (k : Nat) (i : Nat), i + d = l.length → d < k →
    ∃ r, impl_Part_138.l0 k l (l.length : Int) (i : Int) = some r ∧ (decide (r ≥ 0) = !(inAll 0 1498 (pY (l.drop i)))) := by
  induction d with
  | zero =>
    intro k i hd hk
    obtain ⟨k, rfl⟩ : ∃ m, k = m + 1 := ⟨k - 1, by omega⟩
    refine ⟨-1, ?_, ?_⟩
    · simp only [impl_Part_138.l0]
      rw [if_neg (by omega)]
    · rw [List.drop_of_length_le (by omega)]
      simp [pY, inAll]
  | succ d ih =>
    intro k i hd hk
    obtain ⟨k, rfl⟩ : ∃ m, k = m + 1 := ⟨k - 1, by omega⟩
    have hi : i < l.length := by omega
    have h1 : (i : Int) < (l.length : Int) := by omega
    have h2 : (0 : Int) ≤ (i : Int) := by omega
    have e : inAll 0 1498 (pY (l.drop i)) = ((decide (0 ≤ l[i].f1) && decide (l[i].f1 ≤ 1498)) && inAll 0 1498 (pY (l.drop (i + 1)))) := by
      rw [List.drop_eq_getElem_cons hi]; simp only [pY, inAll, List.map_cons, List.all_cons]
    rw [e]
    simp only [impl_Part_138.l0]
    rw [if_pos h1, if_pos h2, if_pos h1, part_1, Option.bind_some, rdp_at l i hi]
    cases hb : (decide (0 ≤ l[i].f1) && decide (l[i].f1 ≤ 1498))
    · refine ⟨(i : Int), by rw [if_pos (by rfl)], by simp⟩
    · obtain ⟨r, r1, r2⟩ := ih k (i + 1) (by omega) (by omega)
      refine ⟨r, ?_, by simpa using r2⟩
      rw [if_neg (by simp), wr_succ i (by omega)]
      exact r1
theorem impl_parts {k : Nat} (l : List S70) (hn : l.length ≤ 8796093022208) (hk : 2 * l.length + 2 < k) : impl_areParts.f k l = some (goodParts l) := by
  have hx := pX_len l
  unfold impl_areParts.f goodParts
  rw [impl_places l hn (by omega), Option.bind_some, impl_xs (pX l) (by omega) (by omega), Option.bind_some]
  by_cases h : goodXs (pX l) = true
  · obtain ⟨r, r1, r2⟩ := parts_index l hn l.length k 0 (by omega) (by omega)
    rw [show ((0 : Nat) : Int) = 0 from rfl] at r1
    rw [if_pos h, h]
    unfold impl_Part_134.f impl_Part_138.f
    rw [r1, Option.bind_some, Option.bind_some, r2, List.drop_zero]
    simp
  · have h' : goodXs (pX l) = false := by simpa using h
    rw [if_neg h, h', Bool.false_and]

/-! addgood: what good parts are -/
theorem good_len {l : List S70} (h : goodParts l = true) : 1 ≤ l.length ∧ l.length ≤ 8 := by
  have hx := pX_len l
  unfold goodParts at h
  have := goodXs_all (Bool.and_eq_true_iff.1 h).1
  omega
theorem good_y {l : List S70} (h : goodParts l = true) (i : Nat) (hi : i < l.length) : 0 ≤ (rd_T70 l (i : Int)).f1 ∧ (rd_T70 l (i : Int)).f1 ≤ 1498 := by
  unfold goodParts at h
  rw [rdp_at l i hi]
  exact inAll_mem (Bool.and_eq_true_iff.1 h).2 _ (by unfold pY; exact List.mem_map.2 ⟨l[i], List.getElem_mem hi, rfl⟩)
theorem good_ys {l : List S70} (h : goodParts l = true) : ∀ y ∈ pY l, 0 ≤ y ∧ y ≤ 1498 := by
  unfold goodParts at h
  exact inAll_mem (Bool.and_eq_true_iff.1 h).2
theorem good_xs1 {l : List S70} (h : goodParts l = true) : ∀ x ∈ pX l, 1 ≤ x ∧ x ≤ 1498 := by
  unfold goodParts at h
  exact (goodXs_all (Bool.and_eq_true_iff.1 h).1).2.2
theorem good_xs {l : List S70} (h : goodParts l = true) : ∀ x ∈ pX l, 0 ≤ x ∧ x ≤ 1498 := fun x hx => by have := good_xs1 h x hx; omega

/-! eqlibi: slices.Equal over ints -/
theorem equali_loop (a b : List Int) (hab : a.length = b.length) (hn : a.length ≤ 35184372088832) (d : Nat) : ∀ (k : Nat) (i : Nat), i + d = a.length → d < k →
    slices_Equal_int_int.l0 k a b (a.length : Int) (i : Int) = some (decide (a.drop i = b.drop i)) := by
  induction d with
  | zero =>
    intro k i hd hk
    obtain ⟨k, rfl⟩ : ∃ m, k = m + 1 := ⟨k - 1, by omega⟩
    simp only [slices_Equal_int_int.l0]
    rw [if_neg (by omega), List.drop_of_length_le (by omega), List.drop_of_length_le (by omega)]
    simp
  | succ d ih =>
    intro k i hd hk
    obtain ⟨k, rfl⟩ : ∃ m, k = m + 1 := ⟨k - 1, by omega⟩
    have h1 : (i : Int) < (a.length : Int) := by omega
    have h2 : (0 : Int) ≤ (i : Int) := by omega
    have h3 : (i : Int) < (b.length : Int) := by omega
    simp only [slices_Equal_int_int.l0]
    rw [if_pos h1, if_pos h2, if_pos h1, if_pos h3, rd_at a i (by omega), rd_at b i (by omega), wr_succ i (by omega), ih k (i + 1) (by omega) (by omega), List.drop_eq_getElem_cons (show i < a.length by omega), List.drop_eq_getElem_cons (show i < b.length by omega)]
    simp only [List.cons.injEq]
    by_cases e : a[i] = b[i]
    · simp [e]
    · simp [e]
theorem lib_equali {k : Nat} (a b : List Int) (hn : a.length ≤ 35184372088832) (hk : a.length < k) : slices_Equal_int_int.f k a b = some (decide (a = b)) := by
  unfold slices_Equal_int_int.f
  by_cases h : a.length = b.length
  · rw [if_pos (by omega)]
    have := equali_loop a b h hn a.length k 0 (by omega) hk
    simpa using this
  · rw [if_neg (by omega)]
    have : ¬ a = b := fun e => h (by rw [e])
    simp [this]

/-! addparts: AddParts, in both texts -/
def addL (a b : List S70) : Nat → List S70 → Nat → List S70
  | 0, o, _ => o
  | d + 1, o, i => addL a b d (o ++ [(⟨(rd_T70 a (i : Int)).f0, ((rd_T70 a (i : Int)).f1 + (rd_T70 b (i : Int)).f1) % 1499⟩ : S70)]) (i + 1)
theorem addL_len (a b : List S70) (d : Nat) : ∀ (o : List S70) (i : Nat), (addL a b d o i).length = o.length + d := by
  induction d with
  | zero => intro o i; rfl
  | succ d ih => intro o i; simp only [addL]; rw [ih]; simp; omega
theorem add_loop_s (a b : List S70) (ha : goodParts a = true) (hb : goodParts b = true) (hl : a.length = b.length) (d : Nat) : ∀ (k : Nat) (o : List S70) (i : Nat), o.length = i → i + d = a.length → d < k →
    spec_AddParts.l0 k b o a (a.length : Int) (i : Int) = some (if pX (a.drop i) = pX (b.drop i) then (addL a b d o i, true) else ([], false)) := by
  obtain ⟨_, h8⟩ := good_len ha
  induction d with
  | zero =>
    intro k o i ho hd hk
    obtain ⟨k, rfl⟩ : ∃ m, k = m + 1 := ⟨k - 1, by omega⟩
    simp only [spec_AddParts.l0, addL]
    rw [if_neg (by omega), List.drop_of_length_le (by omega), List.drop_of_length_le (by omega), if_pos rfl]
  | succ d ih =>
    intro k o i ho hd hk
    obtain ⟨k, rfl⟩ : ∃ m, k = m + 1 := ⟨k - 1, by omega⟩
    have hi : i < a.length := by omega
    have hi' : i < b.length := by omega
    have h1 : (i : Int) < (a.length : Int) := by omega
    have h2 : (0 : Int) ≤ (i : Int) := by omega
    have h3 : (i : Int) < (b.length : Int) := by omega
    have h4 : o.length < 8796093022208 := by omega
    have ya := good_y ha i hi
    have yb := good_y hb i hi'
    have e : Int.tmod (wrap64 ((rd_T70 a (i : Int)).f1 + (rd_T70 b (i : Int)).f1)) 1499 = ((rd_T70 a (i : Int)).f1 + (rd_T70 b (i : Int)).f1) % 1499 := by
      rw [wr (by omega) (by omega), Int.tmod_eq_emod_of_nonneg (by omega)]
    have ih' := ih k (o ++ [(⟨(rd_T70 a (i : Int)).f0, ((rd_T70 a (i : Int)).f1 + (rd_T70 b (i : Int)).f1) % 1499⟩ : S70)]) (i + 1) (by simp; omega) (by omega) (by omega)
    simp only [spec_AddParts.l0, addL]
    rw [if_pos h1, if_pos h2, if_pos h1, if_pos h3, if_pos h4, e, wr_succ i (by omega), ih']
    have hx : pX (a.drop i) = (rd_T70 a (i : Int)).f0 :: pX (a.drop (i + 1)) := by rw [rdp_at a i hi, List.drop_eq_getElem_cons hi]; rfl
    have hy : pX (b.drop i) = (rd_T70 b (i : Int)).f0 :: pX (b.drop (i + 1)) := by rw [rdp_at b i hi', List.drop_eq_getElem_cons hi']; rfl
    rw [hx, hy]
    simp only [List.cons.injEq]
    by_cases c : (rd_T70 b (i : Int)).f0 = (rd_T70 a (i : Int)).f0
    · rw [if_pos c, c]; simp
    · rw [if_neg c, if_neg (fun h => c h.1.symm)]
theorem mod_pos (x : Int) (h : 0 ≤ x) (h' : x ≤ 4000000000000000000) : impl_modulo.f x = some (x % 1499) := by
  unfold impl_modulo.f
  have h1 := Int.emod_nonneg x (show (1499 : Int) ≠ 0 by omega)
  have h2 := Int.emod_lt_of_pos x (show (0 : Int) < 1499 by omega)
  rw [Int.tmod_eq_emod_of_nonneg h, wr (by omega) (by omega), Int.tmod_eq_emod_of_nonneg (by omega)]
  congr 1
  omega
theorem add_loop_i (a b : List S70) (ha : goodParts a = true) (hb : goodParts b = true) (hl : a.length = b.length) (d : Nat) : ∀ (k : Nat) (o : List S70) (i : Nat), o.length = i → i + d = a.length → d < k →
    impl_AddParts.l0 k b o a (a.length : Int) (i : Int) = some (addL a b d o i, true) := by
  obtain ⟨_, h8⟩ := good_len ha
  induction d with
  | zero =>
    intro k o i ho hd hk
    obtain ⟨k, rfl⟩ : ∃ m, k = m + 1 := ⟨k - 1, by omega⟩
    simp only [impl_AddParts.l0, addL]
    rw [if_neg (by omega)]
  | succ d ih =>
    intro k o i ho hd hk
    obtain ⟨k, rfl⟩ : ∃ m, k = m + 1 := ⟨k - 1, by omega⟩
    have hi : i < a.length := by omega
    have hi' : i < b.length := by omega
    have h1 : (i : Int) < (a.length : Int) := by omega
    have h2 : (0 : Int) ≤ (i : Int) := by omega
    have h3 : (i : Int) < (b.length : Int) := by omega
    have h4 : o.length < 8796093022208 := by omega
    have ya := good_y ha i hi
    have yb := good_y hb i hi'
    have ih' := ih k (o ++ [(⟨(rd_T70 a (i : Int)).f0, ((rd_T70 a (i : Int)).f1 + (rd_T70 b (i : Int)).f1) % 1499⟩ : S70)]) (i + 1) (by simp; omega) (by omega) (by omega)
    simp only [impl_AddParts.l0, addL]
    rw [if_pos h1, if_pos h2, if_pos h1, if_pos h3, wr (x := (rd_T70 a (i : Int)).f1 + (rd_T70 b (i : Int)).f1) (by omega) (by omega), mod_pos _ (by omega) (by omega), Option.bind_some, if_pos h4, wr_succ i (by omega), ih']
def addR (a b : List S70) : List S70 × Bool := if (goodParts a && goodParts b) = true ∧ pX a = pX b then (addL a b a.length [] 0, true) else ([], false)
theorem addR_len (a b : List S70) : (addR a b).1.length ≤ 8 := by
  unfold addR
  by_cases h : (goodParts a && goodParts b) = true ∧ pX a = pX b
  · have := good_len (Bool.and_eq_true_iff.1 h.1).1
    rw [if_pos h]; simp only; rw [addL_len]; simp; omega
  · rw [if_neg h]; simp
theorem add_parts {k : Nat} (a b : List S70) (ha : a.length ≤ 8796093022208) (hb : b.length ≤ 8796093022208) (hk : 2 * a.length + 2 * b.length + 20 < k) : spec_AddParts.f k a b = some (addR a b) ∧ impl_AddParts.f k a b = some (addR a b) := by
  obtain ⟨k, rfl⟩ : ∃ m, k = m + 1 := ⟨k - 1, by omega⟩
  have xa := pX_len a
  have xb := pX_len b
  unfold spec_AddParts.f impl_AddParts.f addR
  rw [spec_parts a ha (by omega), impl_parts a ha (by omega), Option.bind_some, Option.bind_some]
  by_cases g1 : goodParts a = true
  · rw [if_pos g1, if_pos g1, spec_parts b hb (by omega), impl_parts b hb (by omega), Option.bind_some, Option.bind_some]
    by_cases g2 : goodParts b = true
    · rw [if_pos g2, if_pos g2, impl_places a ha (by omega), Option.bind_some, impl_places b hb (by omega), Option.bind_some, lib_equali (pX a) (pX b) (by omega) (by omega), Option.bind_some]
      by_cases hx : pX a = pX b
      · have hl : a.length = b.length := by rw [← xa, ← xb, hx]
        have e1 : ((a.length : Int) != (b.length : Int)) = false := by simp [hl]
        rw [if_pos ⟨by simp [g1, g2], hx⟩, e1]
        simp only [spec_AddParts.j0, impl_AddParts.j0, hx, decide_true, Bool.not_true, Bool.false_eq_true, if_false]
        have s := add_loop_s a b g1 g2 hl a.length k [] 0 rfl (by omega) (by omega)
        have t := add_loop_i a b g1 g2 hl a.length k [] 0 rfl (by omega) (by omega)
        rw [show ((0 : Nat) : Int) = 0 from rfl] at s t
        rw [s, t, List.drop_zero, List.drop_zero, if_pos hx]
        exact ⟨rfl, rfl⟩
      · rw [if_neg (fun h => hx h.2)]
        simp only [spec_AddParts.j0, impl_AddParts.j0, hx, decide_false, Bool.not_false, if_true]
        refine ⟨?_, trivial⟩
        by_cases hl : a.length = b.length
        · have e1 : ((a.length : Int) != (b.length : Int)) = false := by simp [hl]
          have s := add_loop_s a b g1 g2 hl a.length k [] 0 rfl (by omega) (by omega)
          rw [show ((0 : Nat) : Int) = 0 from rfl] at s
          rw [e1, if_neg Bool.false_ne_true, s, List.drop_zero, List.drop_zero, if_neg hx]
        · have e1 : ((a.length : Int) != (b.length : Int)) = true := by simp; omega
          rw [e1, if_pos rfl]
    · rw [if_neg g2, if_neg g2, if_neg (fun h => g2 (Bool.and_eq_true_iff.1 h.1).2)]
      simp only [spec_AddParts.j0, impl_AddParts.j0, if_true]
      exact ⟨trivial, trivial⟩
  · rw [if_neg g1, if_neg g1, if_neg (fun h => g1 (Bool.and_eq_true_iff.1 h.1).1)]
    simp only [spec_AddParts.j0, impl_AddParts.j0, if_true]
    exact ⟨trivial, trivial⟩

theorem FnExactAddParts : ∀ (l0 : List S99) (l1 : List S99), l0.length ≤ maxLen → (∀ s ∈ l0, (Lit.int .i64 s.f0).wf = true ∧ (Lit.int .i64 s.f1).wf = true) → l1.length ≤ maxLen → (∀ s ∈ l1, (Lit.int .i64 s.f0).wf = true ∧ (Lit.int .i64 s.f1).wf = true) → ∃ k, laws_FnExactAddParts.f k l0 l1 = some true := by
  intro a b hma _ hmb _
  unfold maxLen at hma hmb
  refine rounds_of (3 * a.length + 3 * b.length + 100) fun k hk => ?_
  obtain ⟨k, rfl⟩ : ∃ j, k = j + 3 := ⟨k - 3, by omega⟩
  unfold laws_FnExactAddParts.f
  rw [sz_parts a 1048576 hma (by omega) (by omega), Option.bind_some]
  by_cases h : (1048576 : Int) < (a.length : Int)
  · simp [h]
  · rw [if_neg h, if_neg (by omega), sz_parts b _ hmb (by omega) (by omega), Option.bind_some]
    by_cases h' : (1048576 : Int) - a.length < (b.length : Int)
    · simp [h']
    · have la : (a.map cvP).length = a.length := by simp
      have lb : (b.map cvP).length = b.length := by simp
      rw [if_neg h', if_neg (by omega)]
      rw [toPartS_eq (k := k + 3) a (by omega) (by omega), Option.bind_some, toPartS_eq (k := k + 3) b (by omega) (by omega), Option.bind_some]
      have t2a := toPartS_eq (k := k + 2) a (by omega) (by omega)
      have t2b := toPartS_eq (k := k + 2) b (by omega) (by omega)
      have t1a := toPartS_eq (k := k + 1) a (by omega) (by omega)
      have t1b := toPartS_eq (k := k + 1) b (by omega) (by omega)
      generalize a.map cvP = A at *
      generalize b.map cvP = B at *
      have hl := addR_len A B
      obtain ⟨za, za1, za2, _⟩ := markPartS_held A (by omega) 1 (by omega) (by omega)
      obtain ⟨zb, zb1, zb2, _⟩ := markPartS_held B (by omega) (1 + 2 * A.length) (by omega) (by omega)
      obtain ⟨zo, zo1, zo2, zo3⟩ := markPartS_held (addR A B).1 (by omega) 1 (by omega) (by omega)
      have q1 : ¬ (1 + 2 * (A.length : Int) + 2 * (B.length : Int) < 0) := by omega
      have q2 : ¬ (1 + 2 * ((addR A B).1.length : Int) < 0) := by omega
      obtain ⟨s3, i3⟩ := add_parts (k := k + 3) A B (by omega) (by omega) (by omega)
      obtain ⟨_, i1⟩ := add_parts (k := k + 1) A B (by omega) (by omega) (by omega)
      generalize addR A B = R at *
      rw [s3, Option.bind_some, Option.bind_some, Option.bind_some, i3, Option.bind_some, eqPartS_self (k := k + 3) R.1 (by omega) (by omega), Option.bind_some, if_pos rfl, bne_self_eq_false]
      simp only [laws_FnExactAddParts.j0, Bool.false_eq_true, if_false]
      rw [t2a, Option.bind_some, eqPartS_self (k := k + 2) A (by omega) (by omega), Option.bind_some, if_pos rfl, t2b, Option.bind_some, eqPartS_self (k := k + 2) B (by omega) (by omega), Option.bind_some, if_pos rfl, za2 (k + 2) (by omega), Option.bind_some, zb2 (k + 2) (by omega), Option.bind_some, if_neg q1, eqPartS_self (k := k + 2) R.1 (by omega) (by omega), Option.bind_some, if_pos rfl]
      simp only [laws_FnExactAddParts.j1, bne_self_eq_false, Bool.false_eq_true, if_false]
      rw [zo2 (k + 1) (by omega), Option.bind_some, zo3 (k + 1) (by omega), Option.bind_some, if_neg q2, if_pos rfl, t1a, Option.bind_some, t1b, Option.bind_some, i1, Option.bind_some, eqPartS_self (k := k + 1) R.1 (by omega) (by omega), Option.bind_some, if_pos rfl]
      simp only [laws_FnExactAddParts.j2, bne_self_eq_false, Bool.false_eq_true, if_false]
      rw [zo3 k (by omega), Option.bind_some, if_neg q2, if_pos rfl]

end Go.Proofs.Ytadooofomkdaoaa.Pure
