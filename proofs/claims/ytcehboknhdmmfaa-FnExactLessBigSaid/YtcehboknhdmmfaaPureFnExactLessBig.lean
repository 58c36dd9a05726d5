/- LessBig answers as the reference does, leaves its arguments alone and owns its answer, for all numbers of limbs (the plain half). -/
import Derived.Test.YtcehboknhdmmfaaQFnExactLessBigx
set_option linter.unusedVariables false
set_option linter.unusedSimpArgs false
namespace Go.Proofs.Ytcehboknhdmmfaa.Pure
open Go.RowKit Go.Proofs.Ytcehboknhdmmfaa.QFnExactLessBig Go.Proofs.YtcehboknhdmmfaaW.PrintWords Go.Proofs.YtcehboknhdmmfaaW.PrintLast Go.Proofs.YtcehboknhdmmfaaW.PrintMore

/-! base: sums of int that stay in range; `tmod` and `tdiv` of what is not negative -/
theorem wr {x : Int} (h1 : -9223372036854775808 ≤ x) (h2 : x ≤ 9223372036854775807) : wrap64 x = x := by
  unfold wrap64; omega
theorem tmod_pos {a b : Int} (h : 0 ≤ a) : Int.tmod a b = a % b := Int.tmod_eq_emod_of_nonneg h
theorem tdiv_pos {a b : Int} (h : 0 ≤ a) : Int.tdiv a b = a / b := Int.tdiv_eq_ediv_of_nonneg h
theorem rounds_of {α : Type} {g : Nat → Option α} {r : α} (N : Nat) (h : ∀ k, N < k → g k = some r) : ∃ k, g k = some r := ⟨N + 1, h _ (Nat.lt_succ_self N)⟩

/-! lists: reading a list at a place; a copy of a list; a list is like itself -/
theorem rd_at (xs : List Int) (i : Nat) (h : i < xs.length) : rd xs (i : Int) = xs[i] := by
  simp [rd, List.getD_eq_getElem?_getD, h]
theorem wr_succ (i : Nat) (h : i < 9000000000000000000) : wrap64 ((i : Int) + 1) = ((i + 1 : Nat) : Int) := by
  rw [wr (by omega) (by omega)]; omega
theorem same_list {α : Type} {xs ys : List α} (hl : ys.length = xs.length) (h : ∀ j, j < xs.length → ys[j]? = xs[j]?) : ys = xs := by
  apply List.ext_getElem?
  intro j
  by_cases hj : j < xs.length
  · exact h j hj
  · rw [List.getElem?_eq_none (by omega), List.getElem?_eq_none (by omega)]
theorem set_upto {α : Type} {xs ys : List α} {i : Nat} (hl : ys.length = xs.length) (hi : i < xs.length) (h : ∀ j, j < i → ys[j]? = xs[j]?) :
    ∀ j, j < i + 1 → (ys.set i xs[i])[j]? = xs[j]? := by
  intro j hj
  rw [List.getElem?_set]
  by_cases e : i = j
  · subst e; rw [if_pos rfl, if_pos (by omega), List.getElem?_eq_getElem hi]
  · rw [if_neg e]; exact h j (by omega)

/-! toints: laws.toIntS copies -/
theorem toIntS_loop (xs : List Int) (hn : xs.length ≤ 35184372088832) (d : Nat) : ∀ (k : Nat) (ys : List Int) (i : Nat), ys.length = xs.length → (∀ j, j < i → ys[j]? = xs[j]?) → i + d = xs.length → d < k →
    laws_toIntS.l0 k xs ys (i : Int) = some xs := by
  induction d with
  | zero =>
    intro k ys i hl h hd hk
    obtain ⟨k, rfl⟩ : ∃ m, k = m + 1 := ⟨k - 1, by omega⟩
    simp only [laws_toIntS.l0]
    rw [if_neg (by omega), same_list hl (fun j hj => h j (by omega))]
  | succ d ih =>
    intro k ys i hl h hd hk
    obtain ⟨k, rfl⟩ : ∃ m, k = m + 1 := ⟨k - 1, by omega⟩
    have hi : i < xs.length := by omega
    have h1 : (i : Int) < (xs.length : Int) := by omega
    have h2 : (0 : Int) ≤ (i : Int) := by omega
    have h3 : (i : Int) < (ys.length : Int) := by omega
    simp only [laws_toIntS.l0]
    rw [if_pos h1, if_pos h2, if_pos h3, rd_at xs i hi, wr_succ i (by omega), Int.toNat_natCast]
    exact ih k _ (i + 1) (by simpa using hl) (set_upto hl hi h) (by omega) (by omega)
theorem toIntS_eq {k : Nat} (xs : List Int) (hn : xs.length ≤ 35184372088832) (hk : xs.length < k) : laws_toIntS.f k xs = some xs := by
  unfold laws_toIntS.f
  rw [if_pos (by omega), if_pos (by omega)]
  exact toIntS_loop xs hn xs.length k _ 0 (by simp) (fun j hj => by omega) (by omega) hk

/-! eqints: laws.eqIntS says that a list is itself -/
theorem eqIntS_loop (xs : List Int) (hn : xs.length ≤ 35184372088832) (d : Nat) : ∀ (k : Nat) (i : Nat), i + d = xs.length → d < k → laws_eqIntS.l0 k xs xs (i : Int) = some true := by
  induction d with
  | zero =>
    intro k i hd hk
    obtain ⟨k, rfl⟩ : ∃ m, k = m + 1 := ⟨k - 1, by omega⟩
    simp only [laws_eqIntS.l0]
    rw [if_neg (by omega)]
  | succ d ih =>
    intro k i hd hk
    obtain ⟨k, rfl⟩ : ∃ m, k = m + 1 := ⟨k - 1, by omega⟩
    have h1 : (i : Int) < (xs.length : Int) := by omega
    have h2 : (0 : Int) ≤ (i : Int) := by omega
    simp only [laws_eqIntS.l0, if_pos h1, if_pos h2, if_true, wr_succ i (by omega)]
    exact ih k (i + 1) (by omega) (by omega)
theorem eqIntS_self {k : Nat} (xs : List Int) (hn : xs.length ≤ 35184372088832) (hk : xs.length < k) : laws_eqIntS.f k xs xs = some true := by
  unfold laws_eqIntS.f
  rw [if_pos rfl]
  exact eqIntS_loop xs hn xs.length k 0 (by omega) hk

/-! eqbig: laws.eqBig says that a number is itself -/
theorem eq_big {k : Nat} (l : List Int) (hn : l.length ≤ 35184372088832) (hk : l.length < k) : laws_eqBig.f k l l = some true := by
  simp [laws_eqBig.f, eqIntS_self l hn hk]

/-! bigs: laws.szBig, laws.toBig -/
theorem sz_big (l : List Int) (left : Int) (hl : l.length ≤ 9223372036854775807) (h0 : 0 ≤ left) (h1 : left ≤ 1048576) : laws_szBig.f l left = some (if left < (l.length : Int) then -1 else left - l.length) := by
  unfold laws_szBig.f laws_szIntS.f
  rw [wr (by omega) (by omega)]
  by_cases h : left < (l.length : Int)
  · rw [if_pos (by omega), if_pos h]; rfl
  · rw [if_neg (by omega), if_neg h]
    simp only [Option.bind_some]
    rw [if_neg (by omega)]
theorem to_big {k : Nat} (l : List Int) (hn : l.length ≤ 35184372088832) (hk : l.length < k) : laws_toBig.f k l = some l := by
  simp [laws_toBig.f, toIntS_eq l hn hk]

/-! markintonly: laws.markIntS writes marks -/
theorem markIntS_loop (n : Nat) (hn : n ≤ 35184372088832) (c : Int) (hc : 0 ≤ c) (hc' : c ≤ 1000000000000000000) (d : Nat) : ∀ (k : Nat) (ys : List Int) (i : Nat), ys.length = n → i + d = n → d < k →
    (∀ j, j < i → ys[j]? = some (c + j)) →
    ∃ zs, zs.length = n ∧ laws_markIntS.l0 k ys (c + i) (i : Int) = some (c + n, zs) ∧ ∀ j, j < n → zs[j]? = some (c + j) := by
  induction d with
  | zero =>
    intro k ys i hl hd hk h
    obtain ⟨k, rfl⟩ : ∃ m, k = m + 1 := ⟨k - 1, by omega⟩
    obtain rfl : i = n := by omega
    refine ⟨ys, hl, ?_, h⟩
    simp only [laws_markIntS.l0]
    rw [if_neg (by omega)]
  | succ d ih =>
    intro k ys i hl hd hk h
    obtain ⟨k, rfl⟩ : ∃ m, k = m + 1 := ⟨k - 1, by omega⟩
    have h1 : (i : Int) < (ys.length : Int) := by omega
    have h2 : (0 : Int) ≤ (i : Int) := by omega
    have e : wrap64 (c + (i : Int) + 1) = c + ((i + 1 : Nat) : Int) := by rw [wr (by omega) (by omega)]; omega
    obtain ⟨zs, z1, z2, z3⟩ := ih k (ys.set i (c + i)) (i + 1) (by simpa using hl) (by omega) (by omega) (by
      intro j hj
      rw [List.getElem?_set]
      by_cases e : i = j
      · subst e; rw [if_pos rfl, if_pos (by omega)]
      · rw [if_neg e]; exact h j (by omega))
    refine ⟨zs, z1, ?_, z3⟩
    simp only [laws_markIntS.l0]
    rw [if_pos h1, if_pos h2, e, wr_succ i (by omega), Int.toNat_natCast]
    exact z2
theorem markIntS_some (xs : List Int) (hn : xs.length ≤ 35184372088832) (c : Int) (hc : 0 ≤ c) (hc' : c ≤ 1000000000000000000) {k : Nat} (hk : xs.length < k) : ∃ zs, laws_markIntS.f k xs c = some (c + xs.length, zs) := by
  obtain ⟨zs, _, h, _⟩ := markIntS_loop xs.length hn c hc hc' xs.length k xs 0 rfl (by omega) hk (fun j hj => by omega)
  exact ⟨zs, by simpa [laws_markIntS.f] using h⟩

/-! markints: laws.heldIntS finds the marks -/
theorem heldIntS_loop (zs : List Int) (hn : zs.length ≤ 35184372088832) (c : Int) (hc : 0 ≤ c) (hc' : c ≤ 1000000000000000000) (hz : ∀ j, j < zs.length → zs[j]? = some (c + j)) (d : Nat) : ∀ (k : Nat) (i : Nat), i + d = zs.length → d < k →
    laws_heldIntS.l0 k zs (c + i) (i : Int) = some (c + zs.length) := by
  induction d with
  | zero =>
    intro k i hd hk
    obtain ⟨k, rfl⟩ : ∃ m, k = m + 1 := ⟨k - 1, by omega⟩
    simp only [laws_heldIntS.l0]
    rw [if_neg (by omega), show i = zs.length by omega]
  | succ d ih =>
    intro k i hd hk
    obtain ⟨k, rfl⟩ : ∃ m, k = m + 1 := ⟨k - 1, by omega⟩
    have hi : i < zs.length := by omega
    have h1 : (i : Int) < (zs.length : Int) := by omega
    have h2 : (0 : Int) ≤ (i : Int) := by omega
    have e : wrap64 (c + (i : Int) + 1) = c + ((i + 1 : Nat) : Int) := by rw [wr (by omega) (by omega)]; omega
    have hv : zs[i] = c + i := by
      have := hz i hi
      rw [List.getElem?_eq_getElem hi] at this
      exact Option.some.inj this
    have hr : rd zs (i : Int) = c + i := by rw [rd_at zs i hi, hv]
    simp only [laws_heldIntS.l0]
    rw [if_pos h1, if_pos h2, if_pos hr, e, wr_succ i (by omega)]
    exact ih k (i + 1) (by omega) (by omega)
theorem markIntS_held (xs : List Int) (hn : xs.length ≤ 35184372088832) (c : Int) (hc : 0 ≤ c) (hc' : c ≤ 1000000000000000000) :
    ∃ zs, zs.length = xs.length ∧ (∀ k, xs.length < k → laws_markIntS.f k xs c = some (c + xs.length, zs)) ∧ (∀ k, xs.length < k → laws_heldIntS.f k zs c = some (c + xs.length)) := by
  have all : ∀ k, xs.length < k → ∃ zs, zs.length = xs.length ∧ laws_markIntS.f k xs c = some (c + xs.length, zs) ∧ ∀ j, j < xs.length → zs[j]? = some (c + j) := by
    intro k hk
    have := markIntS_loop xs.length hn c hc hc' xs.length k xs 0 rfl (by omega) hk (fun j hj => by omega)
    simpa [laws_markIntS.f] using this
  obtain ⟨zs, z1, _, z3⟩ := all (xs.length + 1) (by omega)
  refine ⟨zs, z1, fun k hk => ?_, fun k hk => ?_⟩
  · obtain ⟨us, u1, u2, u3⟩ := all k hk
    rw [u2, show us = zs from same_list (by omega) (fun j hj => by rw [u3 j (by omega), z3 j (by omega)])]
  · have := heldIntS_loop zs (by omega) c hc hc' (fun j hj => z3 j (by omega)) zs.length k 0 (by omega) (by omega)
    simpa [laws_heldIntS.f, z1] using this

/-! markbigs: laws.markBig writes marks, laws.heldBig finds them -/
theorem markBig_held (xs : List Int) (hn : xs.length ≤ 35184372088832) (c : Int) (hc : 0 ≤ c) (hc' : c ≤ 1000000000000000000) :
    ∃ zs, zs.length = xs.length ∧ (∀ k, xs.length < k → laws_markBig.f k xs c = some (c + xs.length, zs)) ∧ (∀ k, xs.length < k → laws_heldBig.f k zs c = some (c + xs.length)) := by
  obtain ⟨zs, z1, z2, z3⟩ := markIntS_held xs hn c hc hc'
  refine ⟨zs, z1, fun k hk => ?_, fun k hk => ?_⟩
  · simp [laws_markBig.f, z2 k hk]
  · have : ¬ (c + (xs.length : Int) < 0) := by omega
    simp [laws_heldBig.f, z3 k hk, this]

/-! inall: all numbers of a list between two numbers -/
def inAll (lo hi : Int) (xs : List Int) : Bool := xs.all fun x => decide (lo ≤ x) && decide (x ≤ hi)
theorem inAll_mem {lo hi : Int} {xs : List Int} (h : inAll lo hi xs = true) : ∀ x ∈ xs, lo ≤ x ∧ x ≤ hi := by
  intro x hx
  have := List.all_eq_true.1 h x hx
  simpa using this

/-! limbs: plain mathematics of limbs: the value of a list of limbs, and that a good list is told by its value -/
def V : List Int → Int
  | [] => 0
  | x :: l => x + 65536 * V l
def Lim (l : List Int) : Prop := ∀ x ∈ l, 0 ≤ x ∧ x ≤ 65535
def Can (l : List Int) : Prop := Lim l ∧ l.getLast? ≠ some 0
theorem Lim.nil : Lim [] := by intro x hx; cases hx
theorem Lim.cons {x : Int} {l : List Int} (h0 : 0 ≤ x) (h1 : x ≤ 65535) (h : Lim l) : Lim (x :: l) := by
  intro y hy
  rcases List.mem_cons.1 hy with rfl | hy
  · exact ⟨h0, h1⟩
  · exact h y hy
theorem Lim.tail {x : Int} {l : List Int} (h : Lim (x :: l)) : Lim l := fun y hy => h y (List.mem_cons_of_mem _ hy)
theorem Lim.head {x : Int} {l : List Int} (h : Lim (x :: l)) : 0 ≤ x ∧ x ≤ 65535 := h x (by simp)
theorem Lim.append {a b : List Int} (ha : Lim a) (hb : Lim b) : Lim (a ++ b) := by
  intro x hx
  rcases List.mem_append.1 hx with h | h
  · exact ha x h
  · exact hb x h
theorem Lim.left {a b : List Int} (h : Lim (a ++ b)) : Lim a := fun x hx => h x (List.mem_append_left _ hx)
theorem Lim.one {x : Int} (h0 : 0 ≤ x) (h1 : x ≤ 65535) : Lim [x] := Lim.cons h0 h1 Lim.nil
theorem Can.nil : Can [] := ⟨Lim.nil, by simp⟩
theorem V_nonneg {l : List Int} (h : Lim l) : 0 ≤ V l := by
  induction l with
  | nil => simp [V]
  | cons x l ih => have := ih h.tail; have := h.head; simp only [V]; omega
theorem V_append (a b : List Int) : V (a ++ b) = V a + 65536 ^ a.length * V b := by
  induction a with
  | nil => simp [V]
  | cons x a ih =>
    simp only [List.cons_append, V, ih, List.length_cons, Int.pow_succ]
    generalize (65536 : Int) ^ a.length = P
    grind
theorem pow_pos' (n : Nat) : (0 : Int) < 65536 ^ n := Int.pow_pos (by omega)
theorem pow_mono' {a b : Nat} (h : a ≤ b) : (65536 : Int) ^ a ≤ 65536 ^ b := by
  obtain ⟨c, rfl⟩ := Nat.exists_eq_add_of_le h
  have h1 := pow_pos' a
  have h2 := pow_pos' c
  rw [Int.pow_add]
  have := Int.mul_le_mul_of_nonneg_left (show (1 : Int) ≤ 65536 ^ c by omega) (show (0 : Int) ≤ 65536 ^ a by omega)
  omega
theorem V_lt {l : List Int} (h : Lim l) : V l < 65536 ^ l.length := by
  induction l with
  | nil => simp [V]
  | cons x l ih =>
    have h1 := ih h.tail
    have h2 := h.head
    simp only [V, List.length_cons, Int.pow_succ]
    omega
theorem Can.tail {x : Int} {l : List Int} (h : Can (x :: l)) : Can l := by
  refine ⟨h.1.tail, ?_⟩
  have := h.2
  cases l with
  | nil => simp
  | cons y l => simpa [List.getLast?_cons_cons] using this
theorem Can.zero {l : List Int} (h : Can l) (e : V l = 0) : l = [] := by
  induction l with
  | nil => rfl
  | cons x l ih =>
    exfalso
    have h1 := V_nonneg h.1.tail
    have h2 := h.1.head
    simp only [V] at e
    have e1 : V l = 0 := by omega
    have e2 : x = 0 := by omega
    have e3 := ih h.tail e1
    subst e3; subst e2
    exact h.2 (by simp)
theorem Can.inj {a b : List Int} (ha : Can a) (hb : Can b) (e : V a = V b) : a = b := by
  induction a generalizing b with
  | nil => exact (hb.zero (by rw [← e]; rfl)).symm
  | cons x a ih =>
    cases b with
    | nil => exact ha.zero (by rw [e]; rfl)
    | cons y b =>
      have h1 := ha.1.head
      have h2 := hb.1.head
      simp only [V] at e
      have e1 : x = y := by omega
      have e2 : V a = V b := by omega
      rw [e1, ih ha.tail hb.tail e2]
theorem V_snoc (l : List Int) (x : Int) : V (l ++ [x]) = V l + 65536 ^ l.length * x := by
  rw [V_append]; simp [V]
/-- A good list that has a limb has at least the value of its last place. -/
theorem Can.lo {l : List Int} (h : Can l) (n : Nat) (hn : n < l.length) : 65536 ^ n ≤ V l := by
  rcases List.eq_nil_or_concat l with rfl | ⟨a, x, e⟩
  · simp at hn
  · rw [List.concat_eq_append] at e
    subst e
    have h1 : Lim a := h.1.left
    have h2 := V_nonneg h1
    have h3 : x ≠ 0 := by
      intro e; subst e; exact h.2 (by simp)
    have h4 := h.1 x (by simp)
    rw [V_snoc]
    have h5 : (65536 : Int) ^ n ≤ 65536 ^ a.length := by
      apply pow_mono'
      simp at hn; omega
    have h6 : (65536 : Int) ^ a.length * 1 ≤ 65536 ^ a.length * x := Int.mul_le_mul_of_nonneg_left (by omega) (by have := pow_pos' a.length; omega)
    omega
theorem Can.hi {l : List Int} (h : Can l) (n : Nat) (hv : V l < 65536 ^ n) : l.length ≤ n := by
  rcases Nat.lt_or_ge n l.length with h1 | h1
  · have := h.lo n h1; omega
  · exact h1

/-! goodb: good numbers -/
def good (l : List Int) : Bool := decide ((l.length : Int) ≤ 6) && inAll 0 65535 l && decide (l.getLast? ≠ some 0)
theorem last_val (l : List Int) (hn : l.length ≤ 35184372088832) (h : ¬ (l.length : Int) = 0) : ∃ x, l.getLast? = some x ∧ wrap64 ((l.length : Int) - 1) = ((l.length - 1 : Nat) : Int) ∧ rd l ((l.length - 1 : Nat) : Int) = x := by
  rcases List.eq_nil_or_concat l with e | ⟨a, x, e⟩
  · subst e; simp at h
  · rw [List.concat_eq_append] at e
    subst e
    refine ⟨x, by simp, ?_, ?_⟩
    · simp only [List.length_append, List.length_cons, List.length_nil] at hn ⊢; rw [wr (by omega) (by omega)]; omega
    · rw [rd_at _ _ (by simp)]; simp
theorem good_lim {l : List Int} (h : good l = true) : l.length ≤ 6 ∧ Can l := by
  simp only [good, Bool.and_eq_true, decide_eq_true_eq] at h
  exact ⟨by omega, inAll_mem h.1.2, h.2⟩
theorem good_of {l : List Int} (h : l.length ≤ 6) (hc : Can l) : good l = true := by
  simp only [good, Bool.and_eq_true, decide_eq_true_eq]
  refine ⟨⟨by omega, ?_⟩, hc.2⟩
  unfold inAll
  rw [List.all_eq_true]
  intro x hx
  have := hc.1 x hx
  simp; omega

/-! ins: between two numbers, in the reference -/
theorem in_some (a b c : Int) : spec_l1In.f a b c = some (decide (b ≤ a) && decide (a ≤ c)) := by
  unfold spec_l1In.f
  by_cases h : a ≥ b
  · rw [if_pos h]; have : b ≤ a := h; simp [this]
  · rw [if_neg h]; have : ¬ b ≤ a := h; simp [this]

/-! sall: all numbers of a list between two numbers, in the reference -/
theorem all_loop (lo up : Int) (xs : List Int) (hn : xs.length ≤ 35184372088832) (d : Nat) : ∀ (k : Nat) (i : Nat), i + d = xs.length → d < k →
    spec_l1All.l0 k lo up xs (xs.length : Int) (i : Int) = some (inAll lo up (xs.drop i)) := by
  induction d with
  | zero =>
    intro k i hd hk
    obtain ⟨k, rfl⟩ : ∃ m, k = m + 1 := ⟨k - 1, by omega⟩
    simp only [spec_l1All.l0]
    rw [if_neg (by omega), List.drop_of_length_le (by omega)]; rfl
  | succ d ih =>
    intro k i hd hk
    obtain ⟨k, rfl⟩ : ∃ m, k = m + 1 := ⟨k - 1, by omega⟩
    have hi : i < xs.length := by omega
    have h1 : (i : Int) < (xs.length : Int) := by omega
    have h2 : (0 : Int) ≤ (i : Int) := by omega
    simp only [spec_l1All.l0]
    rw [if_pos h1, if_pos h2, if_pos h1, rd_at xs i hi, in_some, wr_succ i (by omega), ih k (i + 1) (by omega) (by omega), List.drop_eq_getElem_cons hi]
    simp only [Option.bind_some, inAll, List.all_cons]
    generalize (decide (lo ≤ xs[i]) && decide (xs[i] ≤ up)) = b
    cases b <;> simp
theorem spec_all {k : Nat} (lo hi : Int) (xs : List Int) (hn : xs.length ≤ 35184372088832) (hk : xs.length < k) : spec_l1All.f k xs lo hi = some (inAll lo hi xs) := by
  unfold spec_l1All.f
  have := all_loop lo hi xs hn xs.length k 0 (by omega) hk
  simpa using this

/-! goods: good numbers, in the reference -/
theorem spec_good {k : Nat} (l : List Int) (hn : l.length ≤ 35184372088832) (hk : 6 < k) : spec_GoodBig.f k l = some (good l) := by
  unfold spec_GoodBig.f good
  by_cases h : (l.length : Int) ≤ 6
  · rw [if_pos h, spec_all 0 65535 l hn (by omega)]
    simp only [Option.bind_some, h, decide_true, Bool.true_and]
    by_cases h0 : (l.length : Int) = 0
    · have : l = [] := List.eq_nil_of_length_eq_zero (by omega)
      subst this
      simp [inAll]
    · obtain ⟨x, h1, h2, h3⟩ := last_val l hn h0
      have g1 : (0 : Int) ≤ ((l.length - 1 : Nat) : Int) := by omega
      have g2 : ((l.length - 1 : Nat) : Int) < (l.length : Int) := by omega
      simp only [if_neg h0, h2, if_pos g1, if_pos g2, h3, h1]
      have hx : (x != 0) = decide (some x ≠ some 0) := by by_cases e : x = 0 <;> simp [e]
      cases inAll 0 65535 l <;> simp [hx]
  · rw [if_neg h]; simp [h]

/-! in: between two numbers -/
theorem within_eq (a b c : Int) : impl_within.f a b c = spec_l1In.f a b c := rfl

/-! iall: all numbers of a list between two numbers, in the program -/
theorem iall_loop (lo up : Int) (xs : List Int) (hn : xs.length ≤ 35184372088832) (d : Nat) : ∀ (k : Nat) (i : Nat), i + d = xs.length → d < k →
    impl_allWithin.l0 k lo up xs (xs.length : Int) (i : Int) = some (inAll lo up (xs.drop i)) := by
  induction d with
  | zero =>
    intro k i hd hk
    obtain ⟨k, rfl⟩ : ∃ m, k = m + 1 := ⟨k - 1, by omega⟩
    simp only [impl_allWithin.l0]
    rw [if_neg (by omega), List.drop_of_length_le (by omega)]; rfl
  | succ d ih =>
    intro k i hd hk
    obtain ⟨k, rfl⟩ : ∃ m, k = m + 1 := ⟨k - 1, by omega⟩
    have hi : i < xs.length := by omega
    have h1 : (i : Int) < (xs.length : Int) := by omega
    have h2 : (0 : Int) ≤ (i : Int) := by omega
    simp only [impl_allWithin.l0]
    rw [if_pos h1, if_pos h2, if_pos h1, rd_at xs i hi, within_eq, in_some, wr_succ i (by omega), ih k (i + 1) (by omega) (by omega), List.drop_eq_getElem_cons hi]
    simp only [Option.bind_some, inAll, List.all_cons]
    generalize (decide (lo ≤ xs[i]) && decide (xs[i] ≤ up)) = b
    cases b <;> simp
theorem impl_all {k : Nat} (lo hi : Int) (xs : List Int) (hn : xs.length ≤ 35184372088832) (hk : xs.length < k) : impl_allWithin.f k xs lo hi = some (inAll lo hi xs) := by
  unfold impl_allWithin.f
  have := iall_loop lo hi xs hn xs.length k 0 (by omega) hk
  simpa using this

/-! goodi: good numbers, in the program -/
theorem impl_good {k : Nat} (l : List Int) (hn : l.length ≤ 35184372088832) (hk : 6 < k) : impl_GoodBig.f k l = some (good l) := by
  unfold impl_GoodBig.f good
  by_cases h : (l.length : Int) ≤ 6
  · rw [if_pos h, impl_all 0 65535 l hn (by omega)]
    simp only [Option.bind_some, h, decide_true, Bool.true_and]
    by_cases h0 : (l.length : Int) = 0
    · have : l = [] := List.eq_nil_of_length_eq_zero (by omega)
      subst this
      simp [inAll]
    · obtain ⟨x, h1, h2, h3⟩ := last_val l hn h0
      have g1 : (0 : Int) ≤ ((l.length - 1 : Nat) : Int) := by omega
      have g2 : ((l.length - 1 : Nat) : Int) < (l.length : Int) := by omega
      simp only [if_neg h0, h2, if_pos g1, if_pos g2, h3, h1]
      have hx : (x != 0) = decide (some x ≠ some 0) := by by_cases e : x = 0 <;> simp [e]
      cases inAll 0 65535 l <;> simp [hx]
  · rw [if_neg h]; simp [h]


/-! areboth: two good numbers, in both texts -/
theorem spec_both {k : Nat} (a b : List Int) (ha : a.length ≤ 35184372088832) (hb : b.length ≤ 35184372088832) (hk : 6 < k) : spec_l1Both.f k a b = some (good a && good b) := by
  unfold spec_l1Both.f
  rw [spec_good a ha hk, spec_good b hb hk]
  cases good a <;> simp
theorem impl_both {k : Nat} (a b : List Int) (ha : a.length ≤ 35184372088832) (hb : b.length ≤ 35184372088832) (hk : 9 < k) : impl_areBigs.f k [(⟨a⟩ : S27), (⟨b⟩ : S27)] = some (good a && good b) := by
  unfold impl_areBigs.f
  obtain ⟨k, rfl⟩ : ∃ m, k = m + 3 := ⟨k - 3, by omega⟩
  have e0 : rd_T27 [(⟨a⟩ : S27), (⟨b⟩ : S27)] 0 = ⟨a⟩ := rfl
  have e1 : rd_T27 [(⟨a⟩ : S27), (⟨b⟩ : S27)] 1 = ⟨b⟩ := rfl
  have w1 : wrap64 (0 + 1) = 1 := wr (by omega) (by omega)
  have w2 : wrap64 (1 + 1) = 2 := wr (by omega) (by omega)
  have hl : (([(⟨a⟩ : S27), (⟨b⟩ : S27)] : List S27).length : Int) = 2 := rfl
  simp only [impl_areBigs.l0, hl, e0, e1, w1, w2, impl_good (k := k + 2) a ha (by omega), impl_good (k := k + 1) b hb (by omega), Option.bind_some]
  cases good a <;> cases good b <;> simp

/-! cn: the good list of a value -/
def cn (v : Int) : List Int := if v ≤ 0 then [] else v % 65536 :: cn (v / 65536)
termination_by v.toNat
decreasing_by omega
theorem cn_zero {v : Int} (h : v ≤ 0) : cn v = [] := by rw [cn, if_pos h]
theorem cn_pos {v : Int} (h : 0 < v) : cn v = v % 65536 :: cn (v / 65536) := by rw [cn, if_neg (by omega)]
theorem cn_all (n : Nat) : ∀ v : Int, 0 ≤ v → v < n → Can (cn v) ∧ V (cn v) = v := by
  induction n with
  | zero => intro v h h'; omega
  | succ n ih =>
    intro v h h'
    by_cases h0 : v = 0
    · subst h0
      rw [cn_zero (by omega)]
      exact ⟨Can.nil, rfl⟩
    · obtain ⟨c1, c2⟩ := ih (v / 65536) (by omega) (by omega)
      rw [cn_pos (by omega)]
      refine ⟨⟨Lim.cons (by omega) (by omega) c1.1, ?_⟩, ?_⟩
      · by_cases hz : v / 65536 = 0
        · rw [cn_zero (by omega)]
          simp only [List.getLast?_singleton]
          intro e
          injection e with e
          omega
        · obtain ⟨y, l, e⟩ : ∃ y l, cn (v / 65536) = y :: l := ⟨_, _, cn_pos (by omega)⟩
          rw [e, List.getLast?_cons_cons, ← e]
          exact c1.2
      · simp only [V]; rw [c2]; omega
theorem cn_can {v : Int} (h : 0 ≤ v) : Can (cn v) := (cn_all (v.toNat + 1) v h (by omega)).1
theorem V_cn {v : Int} (h : 0 ≤ v) : V (cn v) = v := (cn_all (v.toNat + 1) v h (by omega)).2
theorem cn_V {l : List Int} (h : Can l) : cn (V l) = l := Can.inj (cn_can (V_nonneg h.1)) h (V_cn (V_nonneg h.1))
theorem cn_len {v : Int} (h : 0 ≤ v) (n : Nat) (hv : v < 65536 ^ n) : (cn v).length ≤ n := (cn_can h).hi n (by rw [V_cn h]; exact hv)
theorem Can.take_lim {l : List Int} (h : Lim l) (n : Nat) : Lim (l.take n) := fun x hx => h x (List.mem_of_mem_take hx)
theorem V_zeros (n : Nat) : V (List.replicate n 0) = 0 := by
  induction n with
  | zero => rfl
  | succ n ih => simp only [List.replicate_succ, V, ih]; rfl
theorem V_take_drop (l : List Int) (i : Nat) (h : i ≤ l.length) : V l = V (l.take i) + 65536 ^ i * V (l.drop i) := by
  conv => lhs; rw [← List.take_append_drop i l]
  rw [V_append, List.length_take, Nat.min_eq_left h]
theorem V_take_succ (l : List Int) (i : Nat) (h : i < l.length) : V (l.take (i + 1)) = V (l.take i) + 65536 ^ i * l[i] := by
  rw [List.take_succ_eq_append_getElem h, V_snoc, List.length_take, Nat.min_eq_left (by omega)]
theorem V_drop_cons (l : List Int) (i : Nat) (h : i < l.length) : V (l.drop i) = l[i] + 65536 * V (l.drop (i + 1)) := by
  rw [List.drop_eq_getElem_cons h]; rfl
theorem V_set (l : List Int) (i : Nat) (y : Int) (h : i < l.length) : V (l.set i y) = V l + 65536 ^ i * (y - l[i]) := by
  induction l generalizing i with
  | nil => simp at h
  | cons x l ih =>
    cases i with
    | zero => simp only [List.set_cons_zero, V, Int.pow_zero, Int.one_mul, List.getElem_cons_zero]; omega
    | succ i =>
      have h' : i < l.length := by simpa using h
      simp only [List.set_cons_succ, V, List.getElem_cons_succ]
      rw [ih i h', Int.pow_succ, Int.mul_add, Int.add_assoc]
      congr 2
      rw [Int.mul_comm (65536 ^ i) 65536, Int.mul_assoc]
theorem Lim.set {l : List Int} (h : Lim l) (i : Nat) {y : Int} (h0 : 0 ≤ y) (h1 : y ≤ 65535) : Lim (l.set i y) := by
  intro x hx
  rcases List.mem_or_eq_of_mem_set hx with hx | hx
  · exact h x hx
  · rw [hx]; exact ⟨h0, h1⟩
/-- what stands at the end of a list of noughts cut off is its good list -/
theorem cut_can (l : List Int) (hl : Lim l) (n : Nat) (hn : n ≤ l.length) (hz : ∀ j, (h : j < l.length) → n ≤ j → l[j] = 0) (hx : ∀ h : 0 < n, l[n - 1]'(by omega) ≠ 0) : l.take n = cn (V l) := by
  have hd : V (l.drop n) = 0 := by
    have : ∀ (m : List Int), (∀ x ∈ m, x = 0) → V m = 0 := by
      intro m
      induction m with
      | nil => intro _; rfl
      | cons x m ih =>
        intro h
        simp only [V]
        rw [h x (by simp), ih (fun y hy => h y (by simp [hy]))]; rfl
    refine this _ (fun x hx => ?_)
    obtain ⟨j, hj, e⟩ := List.getElem_of_mem hx
    rw [List.getElem_drop] at e
    rw [← e]
    exact hz (n + j) (by simp at hj; omega) (by omega)
  have hv : V l = V (l.take n) := by rw [V_take_drop l n hn, hd]; omega
  have hc : Can (l.take n) := by
    refine ⟨Can.take_lim hl n, ?_⟩
    by_cases h0 : n = 0
    · subst h0; simp
    · obtain ⟨m, rfl⟩ : ∃ m, n = m + 1 := ⟨n - 1, by omega⟩
      rw [List.take_succ_eq_append_getElem (by omega)]
      simp only [List.getLast?_append, List.getLast?_singleton]
      have := hx (by omega)
      simpa using this
  rw [hv, cn_V hc]

/-! ring: small identities between values -/
theorem at_drop (l : List Int) (i : Nat) : V (l.drop i) = l.getD i 0 + 65536 * V (l.drop (i + 1)) := by
  by_cases h : i < l.length
  · rw [V_drop_cons l i h, List.getD_eq_getElem?_getD, List.getElem?_eq_getElem h]; rfl
  · rw [List.drop_of_length_le (by omega), List.drop_of_length_le (by omega), List.getD_eq_getElem?_getD, List.getElem?_eq_none (by omega)]
    rfl
theorem at_lim {l : List Int} (h : Lim l) (i : Nat) : 0 ≤ l.getD i 0 ∧ l.getD i 0 ≤ 65535 := by
  by_cases hi : i < l.length
  · rw [List.getD_eq_getElem?_getD, List.getElem?_eq_getElem hi]
    exact h _ (List.getElem_mem hi)
  · rw [List.getD_eq_getElem?_getD, List.getElem?_eq_none (by omega)]
    simp
theorem at_in (l : List Int) (i : Nat) (h : i < l.length) : rd l (i : Int) = l.getD i 0 := by
  rw [rd_at l i h, List.getD_eq_getElem?_getD, List.getElem?_eq_getElem h]; rfl
theorem at_out (l : List Int) (i : Nat) (h : ¬ i < l.length) : l.getD i 0 = 0 := by
  rw [List.getD_eq_getElem?_getD, List.getElem?_eq_none (by omega)]; rfl
theorem carry_step (o P c x y U W T s : Int) (hs : s = c + x + y) (h : o + P * (c + (x + 65536 * U) + (y + 65536 * W)) = T) : o + P * (s % 65536) + P * 65536 * (s / 65536 + U + W) = T := by
  have e : s = 65536 * (s / 65536) + s % 65536 := by omega
  generalize s / 65536 = q at *
  generalize s % 65536 = r at *
  grind
theorem borrow_step (o P c x y U W T s r b : Int) (hs : s = x - y - c) (hr : r = s + 65536 * b) (h : o + P * ((x + 65536 * U) - (y + 65536 * W) - c) = T) : o + P * r + P * 65536 * (U - W - b) = T := by
  grind
theorem no_carry (o P c T : Int) (ho : 0 ≤ o) (hP : 0 < P) (hc : 0 ≤ c) (h : o + P * c = T) (hT : T < P) : c = 0 := by
  rcases Int.lt_or_le 0 c with h1 | h1
  · exfalso
    have : P * 1 ≤ P * c := Int.mul_le_mul_of_nonneg_left (by omega) (by omega)
    omega
  · omega

/-! trims: the noughts at the end cut off, in the reference -/
theorem trims_loop (n : Nat) : ∀ (k : Nat) (l : List Int), l.length = n → n < k → n ≤ 1000 → Lim l → spec_l1Trim.l0 k l = some (cn (V l)) := by
  induction n with
  | zero =>
    intro k l hl hk hn hm
    obtain ⟨k, rfl⟩ : ∃ m, k = m + 1 := ⟨k - 1, by omega⟩
    have : l = [] := List.eq_nil_of_length_eq_zero hl
    subst this
    simp only [spec_l1Trim.l0]
    rw [if_neg (by simp)]
    simp only [V]
    rw [cn_zero (by omega)]
  | succ n ih =>
    intro k l hl hk hn hm
    obtain ⟨k, rfl⟩ : ∃ m, k = m + 1 := ⟨k - 1, by omega⟩
    have e : wrap64 ((l.length : Int) - 1) = (n : Int) := by rw [wr (by omega) (by omega)]; omega
    have h0 : (l.length : Int) > 0 := by omega
    have h1 : (0 : Int) ≤ (n : Int) := by omega
    have h2 : (n : Int) < (l.length : Int) := by omega
    have h3 : (n : Int) ≤ (l.length : Int) := by omega
    simp only [spec_l1Trim.l0]
    rw [if_pos h0, e, if_pos h1, if_pos h2, rd_at l n (by omega), if_pos h3, Int.toNat_natCast]
    by_cases hx : l[n] = 0
    · rw [if_pos hx, ih k (l.take n) (by simp; omega) (by omega) (by omega) (Can.take_lim hm n)]
      have := V_take_succ l n (by omega)
      rw [hx, List.take_of_length_le (by omega)] at this
      rw [this]
      congr 2
      omega
    · rw [if_neg hx]
      have := cut_can l hm (n + 1) (by omega) (fun j hj h => by omega) (fun _ => by simpa using hx)
      rw [List.take_of_length_le (by omega)] at this
      rw [← this]
theorem spec_trim {k : Nat} (l : List Int) (hn : l.length ≤ 1000) (hl : Lim l) (hk : l.length < k) : spec_l1Trim.f k l = some (cn (V l)) := by
  unfold spec_l1Trim.f
  exact trims_loop l.length k l rfl hk hn hl

/-! specat: a limb at a place, in the reference -/
theorem spec_at (l : List Int) (i : Nat) : spec_l1At.f l (i : Int) = some (l.getD i 0) := by
  unfold spec_l1At.f
  by_cases h : i < l.length
  · have g : (i : Int) < (l.length : Int) := by omega
    rw [if_pos g, if_pos (by omega), at_in l i h]
  · have g : ¬ (i : Int) < (l.length : Int) := by omega
    rw [if_neg g, at_out l i h]

/-! lesss: the difference of two numbers of limbs, in the reference -/
theorem lesss_end {a b out : List Int} (ho : Lim out) {c : Int} (hc : 0 ≤ c) (hl : out.length = a.length) (hab : b.length ≤ a.length) (hv : V b ≤ V a) (h : V out + 65536 ^ a.length * (V (a.drop a.length) - V (b.drop a.length) - c) = V a - V b) : V out = V a - V b := by
  rw [List.drop_of_length_le (by omega), List.drop_of_length_le (by omega)] at h
  simp only [V] at h
  have h1 := V_lt ho
  rw [hl] at h1
  have hp := pow_pos' a.length
  rcases Int.lt_or_le 0 c with h2 | h2
  · have := Int.mul_le_mul_of_nonneg_left (show (1 : Int) ≤ c by omega) (show (0 : Int) ≤ 65536 ^ a.length by omega)
    rw [show (0 : Int) - 0 - c = -c by omega, Int.mul_neg] at h
    omega
  · have : c = 0 := by omega
    subst this
    simpa using h
theorem lesss_loop (a b : List Int) (ha : Lim a) (hb : Lim b) (hla : a.length ≤ 100) (hab : b.length ≤ a.length) (hv : V b ≤ V a) (d : Nat) : ∀ (k : Nat) (out : List Int) (c : Int) (i : Nat), i + d = a.length → d + 102 < k → out.length = i → Lim out → 0 ≤ c → c ≤ 1 →
    V out + 65536 ^ i * (V (a.drop i) - V (b.drop i) - c) = V a - V b →
    spec_l1Less.l0 k a b out c (a.length : Int) (i : Int) = some (cn (V a - V b)) := by
  induction d with
  | zero =>
    intro k out c i hd hk hl ho hc hc' h
    obtain ⟨k, rfl⟩ : ∃ m, k = m + 1 := ⟨k - 1, by omega⟩
    have hx : ¬ (i : Int) < (a.length : Int) := by omega
    have hi : i = a.length := by omega
    rw [hi] at h
    simp only [spec_l1Less.l0]
    rw [if_neg hx, spec_trim out (by omega) ho (by omega), lesss_end ho hc (by omega) hab hv h]
    rfl
  | succ d ih =>
    intro k out c i hd hk hl ho hc hc' h
    obtain ⟨k, rfl⟩ : ∃ m, k = m + 1 := ⟨k - 1, by omega⟩
    have hx : (i : Int) < (a.length : Int) := by omega
    have h0 : (0 : Int) ≤ (i : Int) := by omega
    have hol : out.length < 17592186044416 := by omega
    have la := at_lim ha i
    have lb := at_lim hb i
    simp only [spec_l1Less.l0]
    rw [if_pos hx, if_pos h0, if_pos hx, at_in a i (by omega), spec_at]
    simp only [Option.bind_some]
    rw [wr (x := a.getD i 0 - b.getD i 0) (by omega) (by omega), wr (x := a.getD i 0 - b.getD i 0 - c) (by omega) (by omega)]
    by_cases hn : a.getD i 0 - b.getD i 0 - c < 0
    · rw [if_pos hn, if_pos hol, wr (x := a.getD i 0 - b.getD i 0 - c + 65536) (by omega) (by omega), wr_succ i (by omega)]
      refine ih k _ 1 (i + 1) (by omega) (by omega) (by simp; omega) (ho.append (Lim.one (by omega) (by omega))) (by omega) (by omega) ?_
      rw [V_snoc, hl, Int.pow_succ]
      rw [at_drop a i, at_drop b i] at h
      exact borrow_step _ _ c _ _ _ _ _ _ _ 1 rfl (by omega) h
    · rw [if_neg hn, if_pos hol, wr_succ i (by omega)]
      refine ih k _ 0 (i + 1) (by omega) (by omega) (by simp; omega) (ho.append (Lim.one (by omega) (by omega))) (by omega) (by omega) ?_
      rw [V_snoc, hl, Int.pow_succ]
      rw [at_drop a i, at_drop b i] at h
      exact borrow_step _ _ c _ _ _ _ _ _ _ 0 rfl (by omega) h
theorem cans_len {a b : List Int} (ha : Can a) (hb : Can b) (h : V b ≤ V a) : b.length ≤ a.length := hb.hi _ (by have := V_lt ha.1; omega)
theorem spec_sub {k : Nat} (a b : List Int) (ha : Can a) (hb : Can b) (hla : a.length ≤ 100) (hv : V b ≤ V a) (hk : 300 < k) : spec_l1Less.f k a b = some (cn (V a - V b)) := by
  unfold spec_l1Less.f
  have := lesss_loop a b ha.1 hb.1 hla (cans_len ha hb hv) hv a.length k [] 0 0 (by omega) (by omega) rfl Lim.nil (by omega) (by omega) (by simp [V])
  exact this

/-! trimi: the noughts at the end cut off, in the program -/
theorem trim_loop (l : List Int) (hn : l.length ≤ 1000) (hl : Lim l) (n : Nat) : ∀ (k : Nat), n < k → n ≤ l.length → (∀ j, (h : j < l.length) → n ≤ j → l[j] = 0) → impl_trimmed.l0 k l (n : Int) = some (cn (V l)) := by
  induction n with
  | zero =>
    intro k hk hle hz
    obtain ⟨k, rfl⟩ : ∃ m, k = m + 1 := ⟨k - 1, by omega⟩
    simp only [impl_trimmed.l0]
    rw [if_neg (by omega), if_pos (by omega), if_pos (by omega), Int.toNat_natCast, cut_can l hl 0 (by omega) hz (by omega)]
  | succ n ih =>
    intro k hk hle hz
    obtain ⟨k, rfl⟩ : ∃ m, k = m + 1 := ⟨k - 1, by omega⟩
    have e : wrap64 (((n + 1 : Nat) : Int) - 1) = (n : Int) := by rw [wr (by omega) (by omega)]; omega
    have h0 : ((n + 1 : Nat) : Int) > 0 := by omega
    have h1 : (0 : Int) ≤ (n : Int) := by omega
    have h2 : (n : Int) < (l.length : Int) := by omega
    have h3 : (0 : Int) ≤ ((n + 1 : Nat) : Int) := by omega
    have h4 : ((n + 1 : Nat) : Int) ≤ (l.length : Int) := by omega
    simp only [impl_trimmed.l0]
    rw [if_pos h0, e, if_pos h1, if_pos h2, rd_at l n (by omega)]
    by_cases hx : l[n] = 0
    · rw [if_pos hx]
      refine ih k (by omega) (by omega) (fun j hj hnj => ?_)
      by_cases e : j = n
      · subst e; exact hx
      · exact hz j hj (by omega)
    · rw [if_neg hx, if_pos h3, if_pos h4, Int.toNat_natCast, cut_can l hl (n + 1) hle hz (fun _ => by simpa using hx)]
theorem impl_trim {k : Nat} (l : List Int) (hn : l.length ≤ 1000) (hl : Lim l) (hk : l.length < k) : impl_trimmed.f k l = some (cn (V l)) := by
  unfold impl_trimmed.f
  exact trim_loop l hn hl l.length k hk (Nat.le_refl _) (fun j hj h => by omega)

/-! lessi: the difference of two numbers of limbs, in the program -/
theorem less_end {a b out : List Int} (ho : Lim out) {c : Int} (hc : 0 ≤ c) (hl : out.length = a.length) (hab : b.length ≤ a.length) (hv : V b ≤ V a) (h : V out + 65536 ^ a.length * (V (a.drop a.length) - V (b.drop a.length) - c) = V a - V b) : V out = V a - V b := by
  rw [List.drop_of_length_le (by omega), List.drop_of_length_le (by omega)] at h
  simp only [V] at h
  have h1 := V_lt ho
  rw [hl] at h1
  have hp := pow_pos' a.length
  rcases Int.lt_or_le 0 c with h2 | h2
  · have := Int.mul_le_mul_of_nonneg_left (show (1 : Int) ≤ c by omega) (show (0 : Int) ≤ 65536 ^ a.length by omega)
    rw [show (0 : Int) - 0 - c = -c by omega, Int.mul_neg] at h
    omega
  · have : c = 0 := by omega
    subst this
    simpa using h
theorem less_loop (a b : List Int) (ha : Lim a) (hb : Lim b) (hla : a.length ≤ 100) (hab : b.length ≤ a.length) (hv : V b ≤ V a) (d : Nat) : ∀ (k : Nat) (out : List Int) (c : Int) (i : Nat), i + d = a.length → d + 102 < k → out.length = i → Lim out → 0 ≤ c → c ≤ 1 →
    V out + 65536 ^ i * (V (a.drop i) - V (b.drop i) - c) = V a - V b →
    impl_less.l0 k b out c a (a.length : Int) (i : Int) = some (cn (V a - V b)) := by
  induction d with
  | zero =>
    intro k out c i hd hk hl ho hc hc' h
    obtain ⟨k, rfl⟩ : ∃ m, k = m + 1 := ⟨k - 1, by omega⟩
    have hx : ¬ (i : Int) < (a.length : Int) := by omega
    have hi : i = a.length := by omega
    rw [hi] at h
    simp only [impl_less.l0]
    rw [if_neg hx, impl_trim out (by omega) ho (by omega), less_end ho hc (by omega) hab hv h]
    rfl
  | succ d ih =>
    intro k out c i hd hk hl ho hc hc' h
    obtain ⟨k, rfl⟩ : ∃ m, k = m + 1 := ⟨k - 1, by omega⟩
    have hx : (i : Int) < (a.length : Int) := by omega
    have h0 : (0 : Int) ≤ (i : Int) := by omega
    have hol : out.length < 17592186044416 := by omega
    have la := at_lim ha i
    have lb := at_lim hb i
    have stepN : a.getD i 0 - b.getD i 0 - c < 0 → impl_less.l0 k b (out ++ [a.getD i 0 - b.getD i 0 - c + 65536]) 1 a (a.length : Int) ((i + 1 : Nat) : Int) = some (cn (V a - V b)) := by
      intro hn
      refine ih k _ 1 (i + 1) (by omega) (by omega) (by simp; omega) (ho.append (Lim.one (by omega) (by omega))) (by omega) (by omega) ?_
      rw [V_snoc, hl, Int.pow_succ]
      rw [at_drop a i, at_drop b i] at h
      exact borrow_step _ _ c _ _ _ _ _ _ _ 1 rfl (by omega) h
    have stepP : ¬ a.getD i 0 - b.getD i 0 - c < 0 → impl_less.l0 k b (out ++ [a.getD i 0 - b.getD i 0 - c]) 0 a (a.length : Int) ((i + 1 : Nat) : Int) = some (cn (V a - V b)) := by
      intro hn
      refine ih k _ 0 (i + 1) (by omega) (by omega) (by simp; omega) (ho.append (Lim.one (by omega) (by omega))) (by omega) (by omega) ?_
      rw [V_snoc, hl, Int.pow_succ]
      rw [at_drop a i, at_drop b i] at h
      exact borrow_step _ _ c _ _ _ _ _ _ _ 0 rfl (by omega) h
    simp only [impl_less.l0]
    rw [if_pos hx, if_pos h0, if_pos hx, at_in a i (by omega)]
    by_cases h2 : i < b.length
    · have g2 : (i : Int) < (b.length : Int) := by omega
      rw [if_pos g2, at_in b i h2, wr (x := a.getD i 0 - c) (by omega) (by omega), show a.getD i 0 - c - b.getD i 0 = a.getD i 0 - b.getD i 0 - c by omega, wr (x := a.getD i 0 - b.getD i 0 - c) (by omega) (by omega)]
      by_cases hn : a.getD i 0 - b.getD i 0 - c < 0
      · rw [if_pos hn, if_pos hol, wr (x := a.getD i 0 - b.getD i 0 - c + 65536) (by omega) (by omega), wr_succ i (by omega)]
        exact stepN hn
      · rw [if_neg hn, if_pos hol, wr_succ i (by omega)]
        exact stepP hn
    · have g2 : ¬ (i : Int) < (b.length : Int) := by omega
      rw [at_out b i h2, Int.sub_zero] at stepN stepP
      rw [if_neg g2, wr (x := a.getD i 0 - c) (by omega) (by omega)]
      by_cases hn : a.getD i 0 - c < 0
      · rw [if_pos hn, if_pos hol, wr (x := a.getD i 0 - c + 65536) (by omega) (by omega), wr_succ i (by omega)]
        exact stepN hn
      · rw [if_neg hn, if_pos hol, wr_succ i (by omega)]
        exact stepP hn
theorem can_len {a b : List Int} (ha : Can a) (hb : Can b) (h : V b ≤ V a) : b.length ≤ a.length := hb.hi _ (by have := V_lt ha.1; omega)
theorem impl_sub {k : Nat} (a b : List Int) (ha : Can a) (hb : Can b) (hla : a.length ≤ 100) (hv : V b ≤ V a) (hk : 300 < k) : impl_less.f k a b = some (cn (V a - V b)) := by
  unfold impl_less.f
  have := less_loop a b ha.1 hb.1 hla (can_len ha hb hv) hv a.length k [] 0 0 (by omega) (by omega) rfl Lim.nil (by omega) (by omega) (by simp [V])
  exact this

/-! compare: numbers of limbs compared, in both texts -/
def cmpV (x y : Int) : Int := if x < y then -1 else if x = y then 0 else 1
theorem lib_compare (x y : Int) : cmp_Compare_int.f x y = some (cmpV x y) := by
  unfold cmp_Compare_int.f cmp_isNaN_int.f cmpV
  simp only [Option.bind_some, bne_self_eq_false, Bool.false_eq_true, if_false]
  by_cases h : x < y
  · rw [if_pos h, if_pos h]
  · rw [if_neg h, if_neg h]
    by_cases h2 : x = y
    · rw [if_pos h2, if_neg (by omega)]
    · rw [if_neg h2, if_pos (by omega)]
theorem cmpV_eq {x y u w : Int} (h1 : x < y ↔ u < w) (h2 : x = y ↔ u = w) : cmpV x y = cmpV u w := by
  unfold cmpV; simp only [h1, h2]
/-- a place that differs, the places above it alike -/
theorem top_cmp (a b : List Int) (ha : Lim a) (hb : Lim b) (i : Nat) (h1 : i < a.length) (h2 : i < b.length) (hd : V (a.drop (i + 1)) = V (b.drop (i + 1))) (hx : a[i] ≠ b[i]) : cmpV a[i] b[i] = cmpV (V a) (V b) := by
  have ea := V_take_drop a i (by omega)
  have eb := V_take_drop b i (by omega)
  rw [V_drop_cons a i h1] at ea
  rw [V_drop_cons b i h2] at eb
  have la := V_lt (Can.take_lim ha i)
  have lb := V_lt (Can.take_lim hb i)
  have na := V_nonneg (Can.take_lim ha i)
  have nb := V_nonneg (Can.take_lim hb i)
  rw [List.length_take, Nat.min_eq_left (by omega)] at la lb
  have hp := pow_pos' i
  rw [hd] at ea
  have ka : 65536 ^ i * (a[i] + 65536 * V (b.drop (i + 1))) = 65536 ^ i * a[i] + 65536 ^ i * (65536 * V (b.drop (i + 1))) := Int.mul_add _ _ _
  have kb : 65536 ^ i * (b[i] + 65536 * V (b.drop (i + 1))) = 65536 ^ i * b[i] + 65536 ^ i * (65536 * V (b.drop (i + 1))) := Int.mul_add _ _ _
  rw [ka] at ea
  rw [kb] at eb
  rcases Int.lt_or_lt_of_ne hx with h | h
  · have := Int.mul_le_mul_of_nonneg_left (show a[i] + 1 ≤ b[i] by omega) (show (0 : Int) ≤ 65536 ^ i by omega)
    rw [Int.mul_add, Int.mul_one] at this
    exact cmpV_eq (by constructor <;> intro <;> omega) (by constructor <;> intro <;> omega)
  · have := Int.mul_le_mul_of_nonneg_left (show b[i] + 1 ≤ a[i] by omega) (show (0 : Int) ≤ 65536 ^ i by omega)
    rw [Int.mul_add, Int.mul_one] at this
    exact cmpV_eq (by constructor <;> intro <;> omega) (by constructor <;> intro <;> omega)
theorem len_cmp {a b : List Int} (ha : Can a) (hb : Can b) (h : ¬ a.length = b.length) : cmpV (a.length : Int) (b.length : Int) = cmpV (V a) (V b) := by
  rcases Nat.lt_or_gt_of_ne h with h | h
  · have h1 := hb.lo a.length h
    have h2 := V_lt ha.1
    exact cmpV_eq (by constructor <;> intro <;> omega) (by constructor <;> intro <;> omega)
  · have h1 := ha.lo b.length h
    have h2 := V_lt hb.1
    exact cmpV_eq (by constructor <;> intro <;> omega) (by constructor <;> intro <;> omega)

/-! comparei: numbers of limbs compared, in the program -/
theorem impl_cmp_loop (a b : List Int) (ha : Lim a) (hb : Lim b) (hl : a.length = b.length) (hn : a.length ≤ 1000) (i : Nat) : ∀ (k : Nat), i ≤ a.length → i < k → V (a.drop i) = V (b.drop i) →
    impl_compare.l0 k a b ((i : Int) - 1) = some (cmpV (V a) (V b)) := by
  induction i with
  | zero =>
    intro k hi hk h
    obtain ⟨k, rfl⟩ : ∃ m, k = m + 1 := ⟨k - 1, by omega⟩
    have hz : ¬ ((0 : Nat) : Int) - 1 ≥ 0 := by omega
    simp only [impl_compare.l0, if_neg hz]
    simp only [List.drop_zero] at h
    rw [h]
    simp [cmpV]
  | succ i ih =>
    intro k hi hk h
    obtain ⟨k, rfl⟩ : ∃ m, k = m + 1 := ⟨k - 1, by omega⟩
    have e : ((i + 1 : Nat) : Int) - 1 = (i : Int) := by omega
    have g0 : (i : Int) ≥ 0 := by omega
    have g1 : (0 : Int) ≤ (i : Int) := by omega
    have g2 : (i : Int) < (a.length : Int) := by omega
    have g3 : (i : Int) < (b.length : Int) := by omega
    rw [e]
    simp only [impl_compare.l0]
    rw [if_pos g0, if_pos g1, if_pos g2, if_pos g3, rd_at a i (by omega), rd_at b i (by omega)]
    by_cases hx : a[i] = b[i]
    · rw [if_pos hx, wr (by omega) (by omega)]
      refine ih k (by omega) (by omega) ?_
      rw [V_drop_cons a i (by omega), V_drop_cons b i (by omega), hx, h]
    · rw [if_neg hx, lib_compare, Option.bind_some, top_cmp a b ha hb i (by omega) (by omega) h hx]
theorem impl_cmp {k : Nat} (a b : List Int) (ha : Can a) (hb : Can b) (hna : a.length ≤ 1000) (hnb : b.length ≤ 1000) (hk : 1001 < k) : impl_compare.f k a b = some (cmpV (V a) (V b)) := by
  unfold impl_compare.f
  by_cases h : a.length = b.length
  · have g : (a.length : Int) = (b.length : Int) := by omega
    rw [if_pos g, wr (by omega) (by omega)]
    exact impl_cmp_loop a b ha.1 hb.1 h hna a.length k (by omega) (by omega) (by rw [List.drop_of_length_le (by omega), List.drop_of_length_le (by omega)])
  · have g : ¬ (a.length : Int) = (b.length : Int) := by omega
    rw [if_neg g, lib_compare, Option.bind_some, len_cmp ha hb h]

/-! compares: numbers of limbs compared, in the reference -/
theorem spec_cmp_loop (a b : List Int) (ha : Lim a) (hb : Lim b) (hl : a.length = b.length) (hn : a.length ≤ 1000) (i : Nat) : ∀ (k : Nat), i ≤ a.length → i < k → V (a.drop i) = V (b.drop i) →
    spec_l1Compare.l0 k a b ((i : Int) - 1) = some (cmpV (V a) (V b)) := by
  induction i with
  | zero =>
    intro k hi hk h
    obtain ⟨k, rfl⟩ : ∃ m, k = m + 1 := ⟨k - 1, by omega⟩
    have hz : ¬ ((0 : Nat) : Int) - 1 ≥ 0 := by omega
    simp only [spec_l1Compare.l0, if_neg hz]
    simp only [List.drop_zero] at h
    rw [h]
    simp [cmpV]
  | succ i ih =>
    intro k hi hk h
    obtain ⟨k, rfl⟩ : ∃ m, k = m + 1 := ⟨k - 1, by omega⟩
    have e : ((i + 1 : Nat) : Int) - 1 = (i : Int) := by omega
    have g0 : (i : Int) ≥ 0 := by omega
    have g1 : (0 : Int) ≤ (i : Int) := by omega
    have g2 : (i : Int) < (a.length : Int) := by omega
    have g3 : (i : Int) < (b.length : Int) := by omega
    rw [e]
    simp only [spec_l1Compare.l0]
    rw [if_pos g0, if_pos g1, if_pos g2, if_pos g3, rd_at a i (by omega), rd_at b i (by omega)]
    by_cases hx : a[i] = b[i]
    · rw [if_neg (by omega), if_neg (by omega), wr (by omega) (by omega)]
      refine ih k (by omega) (by omega) ?_
      rw [V_drop_cons a i (by omega), V_drop_cons b i (by omega), hx, h]
    · rw [← top_cmp a b ha hb i (by omega) (by omega) h hx]
      unfold cmpV
      by_cases hlt : a[i] < b[i]
      · rw [if_pos hlt, if_pos hlt]
      · rw [if_neg hlt, if_pos (by omega), if_neg hlt, if_neg hx]
theorem spec_cmp {k : Nat} (a b : List Int) (ha : Can a) (hb : Can b) (hna : a.length ≤ 1000) (hnb : b.length ≤ 1000) (hk : 1001 < k) : spec_l1Compare.f k a b = some (cmpV (V a) (V b)) := by
  unfold spec_l1Compare.f
  by_cases h : a.length = b.length
  · have g : (a.length : Int) = (b.length : Int) := by omega
    rw [if_pos g, wr (by omega) (by omega)]
    exact spec_cmp_loop a b ha.1 hb.1 h hna a.length k (by omega) (by omega) (by rw [List.drop_of_length_le (by omega), List.drop_of_length_le (by omega)])
  · have g : ¬ (a.length : Int) = (b.length : Int) := by omega
    rw [if_neg g, ← len_cmp ha hb h]
    unfold cmpV
    by_cases hlt : (a.length : Int) < (b.length : Int)
    · rw [if_pos hlt, if_pos hlt]
    · rw [if_neg hlt, if_neg hlt, if_neg g]

/-! tell: a number of limbs told, in the reference -/
theorem spec_tell {k : Nat} (l : List Int) (hn : l.length ≤ 1000) (hl : Lim l) (hk : l.length + 7 < k) : spec_l1Tell.f k l = some (if (cn (V l)).length ≤ 6 then (cn (V l), true) else ([], false)) := by
  unfold spec_l1Tell.f
  have hv := V_nonneg hl
  have hc := cn_can hv
  have hlen : (cn (V l)).length ≤ l.length := by
    have := V_lt hl
    exact cn_len hv _ this
  rw [spec_trim l hn hl (by omega)]
  simp only [Option.bind_some, List.nil_append, List.length_nil]
  rw [if_pos (by omega), spec_good (cn (V l)) (by omega) (by omega)]
  simp only [Option.bind_some]
  by_cases h : (cn (V l)).length ≤ 6
  · rw [if_pos (good_of h hc), if_pos h]
  · have : good (cn (V l)) = false := by
      cases hg : good (cn (V l)) with
      | false => rfl
      | true => exact absurd (good_lim hg).1 h
    rw [this, if_neg h]; rfl

/-! tellr: what is told of a number -/
def tellR (v : Int) : List Int × Bool := if (cn v).length ≤ 6 then (cn v, true) else ([], false)
theorem tellR_len (v : Int) : (tellR v).1.length ≤ 6 := by
  unfold tellR
  by_cases h : (cn v).length ≤ 6
  · rw [if_pos h]; exact h
  · rw [if_neg h]; simp

/-! lessbig: LessBig, in both texts -/
def lessR (a b : List Int) : List Int × Bool := if (good a && good b) = true then (if V a < V b then ([], false) else (cn (V a - V b), true)) else ([], false)
theorem lessR_all (a b : List Int) (h1 : good a = true) (h2 : good b = true) (h : ¬ V a < V b) : (cn (V a - V b)).length ≤ 6 := by
  obtain ⟨la, ca⟩ := good_lim h1
  obtain ⟨lb, cb⟩ := good_lim h2
  have v1 := V_lt ca.1
  have v2 := V_nonneg cb.1
  have h3 : (65536 : Int) ^ a.length ≤ 65536 ^ 6 := pow_mono' (by omega)
  exact cn_len (by omega) 6 (by omega)
theorem lessR_len (a b : List Int) : (lessR a b).1.length ≤ 6 := by
  unfold lessR
  by_cases h : (good a && good b) = true
  · obtain ⟨h1, h2⟩ := Bool.and_eq_true_iff.1 h
    rw [if_pos h]
    by_cases hv : V a < V b
    · rw [if_pos hv]; simp
    · rw [if_neg hv]; exact lessR_all a b h1 h2 hv
  · rw [if_neg h]; simp
theorem cmp_neg (x y : Int) : cmpV x y < 0 ↔ x < y := by
  unfold cmpV
  by_cases h : x < y
  · simp [h]
  · by_cases h' : x = y <;> simp [h, h']
theorem less_big {k : Nat} (a b : List Int) (ha : a.length ≤ 35184372088832) (hb : b.length ≤ 35184372088832) (hk : 3000 < k) : spec_LessBig.f k a b = some (lessR a b) ∧ impl_LessBig.f k a b = some (lessR a b) := by
  obtain ⟨k, rfl⟩ : ∃ m, k = m + 1 := ⟨k - 1, by omega⟩
  unfold spec_LessBig.f impl_LessBig.f lessR
  rw [spec_both a b ha hb (by omega), impl_both a b ha hb (by omega), Option.bind_some, Option.bind_some]
  by_cases h : (good a && good b) = true
  · obtain ⟨h1, h2⟩ := Bool.and_eq_true_iff.1 h
    obtain ⟨la, ca⟩ := good_lim h1
    obtain ⟨lb, cb⟩ := good_lim h2
    rw [if_pos h, if_pos h, if_pos h, spec_cmp a b ca cb (by omega) (by omega) (by omega), impl_cmp a b ca cb (by omega) (by omega) (by omega), Option.bind_some, Option.bind_some]
    by_cases hv : V a < V b
    · have hc := (cmp_neg (V a) (V b)).2 hv
      rw [if_pos hv, if_pos hc]
      simp only [spec_LessBig.j0, hc, decide_true, if_true]
      exact ⟨trivial, trivial⟩
    · have hc : ¬ cmpV (V a) (V b) < 0 := fun h' => hv ((cmp_neg (V a) (V b)).1 h')
      have v0 : 0 ≤ V a - V b := by omega
      have hl := lessR_all a b h1 h2 hv
      rw [if_neg hv, if_neg hc, impl_sub a b ca cb (by omega) (by omega) (by omega), Option.bind_some]
      simp only [spec_LessBig.j0, hc, decide_false, Bool.false_eq_true, if_false]
      rw [spec_sub a b ca cb (by omega) (by omega) (by omega), Option.bind_some, spec_tell _ (by omega) (cn_can v0).1 (by omega), V_cn v0, Option.bind_some, if_pos hl]
      simp
  · rw [if_neg h, if_neg h, if_neg h]
    simp only [spec_LessBig.j0, if_true]
    exact ⟨trivial, trivial⟩

theorem FnExactLessBig : ∀ (l0_0 : List Int) (l1_0 : List Int), l0_0.length ≤ maxLen → (∀ n ∈ l0_0, (Lit.int .i64 n).wf = true) → l1_0.length ≤ maxLen → (∀ n ∈ l1_0, (Lit.int .i64 n).wf = true) → ∃ k, laws_FnExactLessBig.f k l0_0 l1_0 = some true := by
  intro a b hma _ hmb _
  unfold maxLen at hma hmb
  refine rounds_of (a.length + b.length + 100000) fun k hk => ?_
  obtain ⟨k, rfl⟩ : ∃ j, k = j + 3 := ⟨k - 3, by omega⟩
  unfold laws_FnExactLessBig.f
  rw [sz_big a 1048576 hma (by omega) (by omega), Option.bind_some]
  by_cases h : (1048576 : Int) < (a.length : Int)
  · simp [h]
  · rw [if_neg h, if_neg (by omega), sz_big b _ hmb (by omega) (by omega), Option.bind_some]
    by_cases h' : (1048576 : Int) - a.length < (b.length : Int)
    · simp [h']
    · rw [if_neg h', if_neg (by omega)]
      have hl := lessR_len a b
      obtain ⟨za, za1, za2, _⟩ := markBig_held a (by omega) 1 (by omega) (by omega)
      obtain ⟨zb, zb1, zb2, _⟩ := markBig_held b (by omega) (1 + a.length) (by omega) (by omega)
      obtain ⟨zo, zo1, zo2, zo3⟩ := markBig_held (lessR a b).1 (by omega) 1 (by omega) (by omega)
      have q1 : ¬ (1 + (a.length : Int) + (b.length : Int) < 0) := by omega
      have q2 : ¬ (1 + ((lessR a b).1.length : Int) < 0) := by omega
      obtain ⟨s3, i3⟩ := less_big (k := k + 3) a b (by omega) (by omega) (by omega)
      obtain ⟨_, i1⟩ := less_big (k := k + 1) a b (by omega) (by omega) (by omega)
      generalize lessR a b = R at *
      rw [to_big (k := k + 3) a (by omega) (by omega), Option.bind_some, to_big (k := k + 3) b (by omega) (by omega), Option.bind_some, s3, Option.bind_some, Option.bind_some, Option.bind_some, i3, Option.bind_some, eq_big (k := k + 3) R.1 (by omega) (by omega), Option.bind_some, if_pos rfl, bne_self_eq_false]
      simp only [laws_FnExactLessBig.j0, Bool.false_eq_true, if_false]
      rw [to_big (k := k + 2) a (by omega) (by omega), Option.bind_some, eq_big (k := k + 2) a (by omega) (by omega), Option.bind_some, if_pos rfl, to_big (k := k + 2) b (by omega) (by omega), Option.bind_some, eq_big (k := k + 2) b (by omega) (by omega), Option.bind_some, if_pos rfl, za2 (k + 2) (by omega), Option.bind_some, zb2 (k + 2) (by omega), Option.bind_some, if_neg q1, eq_big (k := k + 2) R.1 (by omega) (by omega), Option.bind_some, if_pos rfl]
      simp only [laws_FnExactLessBig.j1, bne_self_eq_false, Bool.false_eq_true, if_false]
      rw [zo2 (k + 1) (by omega), Option.bind_some, zo3 (k + 1) (by omega), Option.bind_some, if_neg q2, if_pos rfl, to_big (k := k + 1) a (by omega) (by omega), Option.bind_some, to_big (k := k + 1) b (by omega) (by omega), Option.bind_some, i1, Option.bind_some, eq_big (k := k + 1) R.1 (by omega) (by omega), Option.bind_some, if_pos rfl]
      simp only [laws_FnExactLessBig.j2, bne_self_eq_false, Bool.false_eq_true, if_false]
      rw [zo3 k (by omega), Option.bind_some, if_neg q2, if_pos rfl]

end Go.Proofs.Ytcehboknhdmmfaa.Pure
