/- CompareBig answers as the reference does and leaves its arguments alone, for all numbers of limbs (the plain half). -/
import Derived.Test.YtcehboknhdmmfaaPFnExactCompareBigx
set_option linter.unusedVariables false
set_option linter.unusedSimpArgs false
namespace Go.Proofs.Ytcehboknhdmmfaa.Pure
open Go.RowKit Go.Proofs.Ytcehboknhdmmfaa.PFnExactCompareBig Go.Proofs.YtcehboknhdmmfaaW.PrintWords Go.Proofs.YtcehboknhdmmfaaW.PrintLast Go.Proofs.YtcehboknhdmmfaaW.PrintMore

/-! base: sums of int that stay in range; `tmod` and `tdiv` of what is not negative -/
theorem wr {x : Int} (h1 : -9223372036854775808 ≤ x) (h2 : x ≤ 9223372036854775807) : wrap64 x = x := by
  unfold wrap64; omega
theorem tmod_pos {a b : Int} (h : 0 ≤ a) : Int.tmod a b = a % b := Int.tmod_eq_emod_of_nonneg h
theorem tdiv_pos {a b : Int} (h : 0 ≤ a) : Int.tdiv a b = a / b := Int.tdiv_eq_ediv_of_nonneg h
theorem rounds_of {α : Type} {g : Nat → Option α} {r : α} (N : Nat) (h : ∀ k, N < k → g k = some r) : ∃ k, g k = some r := ⟨N + 1, h _ (Nat.lt_succ_self N)⟩

/-! lists: reading a list at a place; a copy of a list; a list is like itself -/
theorem rd_at (xs : List Int) (i : Nat) (h : i < xs.length) : rd xs (i : Int) = xs[i] := by
  simp [rd, List.getD_eq_getElem?_getD, h]
theorem wr_succ (i : Nat) (h : i < 9000000000000000000) : wrap64 ((i : Int) + 1) = ((i + 1 : Nat) : Int) := by
  rw [wr (by omega) (by omega)]; omega
theorem same_list {α : Type} {xs ys : List α} (hl : ys.length = xs.length) (h : ∀ j, j < xs.length → ys[j]? = xs[j]?) : ys = xs := by
  apply List.ext_getElem?
  intro j
  by_cases hj : j < xs.length
  · exact h j hj
  · rw [List.getElem?_eq_none (by omega), List.getElem?_eq_none (by omega)]
theorem set_upto {α : Type} {xs ys : List α} {i : Nat} (hl : ys.length = xs.length) (hi : i < xs.length) (h : ∀ j, j < i → ys[j]? = xs[j]?) :
    ∀ j, j < i + 1 → (ys.set i xs[i])[j]? = xs[j]? := by
  intro j hj
  rw [List.getElem?_set]
  by_cases e : i = j
  · subst e; rw [if_pos rfl, if_pos (by omega), List.getElem?_eq_getElem hi]
  · rw [if_neg e]; exact h j (by omega)

/-! toints: laws.toIntS copies -/
theorem toIntS_loop (xs : List Int) (hn : xs.length ≤ 35184372088832) (d : Nat) : ∀ (k : Nat) (ys : List Int) (i : Nat), ys.length = xs.length → (∀ j, j < i → ys[j]? = xs[j]?) → i + d = xs.length → d < k →
    laws_toIntS.l0 k xs ys (i : Int) = some xs := by
  induction d with
  | zero =>
    intro k ys i hl h hd hk
    obtain ⟨k, rfl⟩ : ∃ m, k = m + 1 := ⟨k - 1, by omega⟩
    simp only [laws_toIntS.l0]
    rw [if_neg (by omega), same_list hl (fun j hj => h j (by omega))]
  | succ d ih =>
    intro k ys i hl h hd hk
    obtain ⟨k, rfl⟩ : ∃ m, k = m + 1 := ⟨k - 1, by omega⟩
    have hi : i < xs.length := by omega
    have h1 : (i : Int) < (xs.length : Int) := by omega
    have h2 : (0 : Int) ≤ (i : Int) := by omega
    have h3 : (i : Int) < (ys.length : Int) := by omega
    simp only [laws_toIntS.l0]
    rw [if_pos h1, if_pos h2, if_pos h3, rd_at xs i hi, wr_succ i (by omega), Int.toNat_natCast]
    exact ih k _ (i + 1) (by simpa using hl) (set_upto hl hi h) (by omega) (by omega)
theorem toIntS_eq {k : Nat} (xs : List Int) (hn : xs.length ≤ 35184372088832) (hk : xs.length < k) : laws_toIntS.f k xs = some xs := by
  unfold laws_toIntS.f
  rw [if_pos (by omega), if_pos (by omega)]
  exact toIntS_loop xs hn xs.length k _ 0 (by simp) (fun j hj => by omega) (by omega) hk

/-! eqints: laws.eqIntS says that a list is itself -/
theorem eqIntS_loop (xs : List Int) (hn : xs.length ≤ 35184372088832) (d : Nat) : ∀ (k : Nat) (i : Nat), i + d = xs.length → d < k → laws_eqIntS.l0 k xs xs (i : Int) = some true := by
  induction d with
  | zero =>
    intro k i hd hk
    obtain ⟨k, rfl⟩ : ∃ m, k = m + 1 := ⟨k - 1, by omega⟩
    simp only [laws_eqIntS.l0]
    rw [if_neg (by omega)]
  | succ d ih =>
    intro k i hd hk
    obtain ⟨k, rfl⟩ : ∃ m, k = m + 1 := ⟨k - 1, by omega⟩
    have h1 : (i : Int) < (xs.length : Int) := by omega
    have h2 : (0 : Int) ≤ (i : Int) := by omega
    simp only [laws_eqIntS.l0, if_pos h1, if_pos h2, if_true, wr_succ i (by omega)]
    exact ih k (i + 1) (by omega) (by omega)
theorem eqIntS_self {k : Nat} (xs : List Int) (hn : xs.length ≤ 35184372088832) (hk : xs.length < k) : laws_eqIntS.f k xs xs = some true := by
  unfold laws_eqIntS.f
  rw [if_pos rfl]
  exact eqIntS_loop xs hn xs.length k 0 (by omega) hk

/-! eqbig: laws.eqBig says that a number is itself -/
theorem eq_big {k : Nat} (l : List Int) (hn : l.length ≤ 35184372088832) (hk : l.length < k) : laws_eqBig.f k l l = some true := by
  simp [laws_eqBig.f, eqIntS_self l hn hk]

/-! bigs: laws.szBig, laws.toBig -/
theorem sz_big (l : List Int) (left : Int) (hl : l.length ≤ 9223372036854775807) (h0 : 0 ≤ left) (h1 : left ≤ 1048576) : laws_szBig.f l left = some (if left < (l.length : Int) then -1 else left - l.length) := by
  unfold laws_szBig.f laws_szIntS.f
  rw [wr (by omega) (by omega)]
  by_cases h : left < (l.length : Int)
  · rw [if_pos (by omega), if_pos h]; rfl
  · rw [if_neg (by omega), if_neg h]
    simp only [Option.bind_some]
    rw [if_neg (by omega)]
theorem to_big {k : Nat} (l : List Int) (hn : l.length ≤ 35184372088832) (hk : l.length < k) : laws_toBig.f k l = some l := by
  simp [laws_toBig.f, toIntS_eq l hn hk]

/-! inall: all numbers of a list between two numbers -/
def inAll (lo hi : Int) (xs : List Int) : Bool := xs.all fun x => decide (lo ≤ x) && decide (x ≤ hi)
theorem inAll_mem {lo hi : Int} {xs : List Int} (h : inAll lo hi xs = true) : ∀ x ∈ xs, lo ≤ x ∧ x ≤ hi := by
  intro x hx
  have := List.all_eq_true.1 h x hx
  simpa using this

/-! limbs: plain mathematics of limbs: the value of a list of limbs, and that a good list is told by its value -/
def V : List Int → Int
  | [] => 0
  | x :: l => x + 65536 * V l
def Lim (l : List Int) : Prop := ∀ x ∈ l, 0 ≤ x ∧ x ≤ 65535
def Can (l : List Int) : Prop := Lim l ∧ l.getLast? ≠ some 0
theorem Lim.nil : Lim [] := by intro x hx; cases hx
theorem Lim.cons {x : Int} {l : List Int} (h0 : 0 ≤ x) (h1 : x ≤ 65535) (h : Lim l) : Lim (x :: l) := by
  intro y hy
  rcases List.mem_cons.1 hy with rfl | hy
  · exact ⟨h0, h1⟩
  · exact h y hy
theorem Lim.tail {x : Int} {l : List Int} (h : Lim (x :: l)) : Lim l := fun y hy => h y (List.mem_cons_of_mem _ hy)
theorem Lim.head {x : Int} {l : List Int} (h : Lim (x :: l)) : 0 ≤ x ∧ x ≤ 65535 := h x (by simp)
theorem Lim.append {a b : List Int} (ha : Lim a) (hb : Lim b) : Lim (a ++ b) := by
  intro x hx
  rcases List.mem_append.1 hx with h | h
  · exact ha x h
  · exact hb x h
theorem Lim.left {a b : List Int} (h : Lim (a ++ b)) : Lim a := fun x hx => h x (List.mem_append_left _ hx)
theorem Lim.one {x : Int} (h0 : 0 ≤ x) (h1 : x ≤ 65535) : Lim [x] := Lim.cons h0 h1 Lim.nil
theorem Can.nil : Can [] := ⟨Lim.nil, by simp⟩
theorem V_nonneg {l : List Int} (h : Lim l) : 0 ≤ V l := by
  induction l with
  | nil => simp [V]
  | cons x l ih => have := ih h.tail; have := h.head; simp only [V]; omega
theorem V_append (a b : List Int) : V (a ++ b) = V a + 65536 ^ a.length * V b := by
  induction a with
  | nil => simp [V]
  | cons x a ih =>
    simp only [List.cons_append, V, ih, List.length_cons, Int.pow_succ]
    generalize (65536 : Int) ^ a.length = P
    grind
theorem pow_pos' (n : Nat) : (0 : Int) < 65536 ^ n := Int.pow_pos (by omega)
theorem pow_mono' {a b : Nat} (h : a ≤ b) : (65536 : Int) ^ a ≤ 65536 ^ b := by
  obtain ⟨c, rfl⟩ := Nat.exists_eq_add_of_le h
  have h1 := pow_pos' a
  have h2 := pow_pos' c
  rw [Int.pow_add]
  have := Int.mul_le_mul_of_nonneg_left (show (1 : Int) ≤ 65536 ^ c by omega) (show (0 : Int) ≤ 65536 ^ a by omega)
  omega
theorem V_lt {l : List Int} (h : Lim l) : V l < 65536 ^ l.length := by
  induction l with
  | nil => simp [V]
  | cons x l ih =>
    have h1 := ih h.tail
    have h2 := h.head
    simp only [V, List.length_cons, Int.pow_succ]
    omega
theorem Can.tail {x : Int} {l : List Int} (h : Can (x :: l)) : Can l := by
  refine ⟨h.1.tail, ?_⟩
  have := h.2
  cases l with
  | nil => simp
  | cons y l => simpa [List.getLast?_cons_cons] using this
theorem Can.zero {l : List Int} (h : Can l) (e : V l = 0) : l = [] := by
  induction l with
  | nil => rfl
  | cons x l ih =>
    exfalso
    have h1 := V_nonneg h.1.tail
    have h2 := h.1.head
    simp only [V] at e
    have e1 : V l = 0 := by omega
    have e2 : x = 0 := by omega
    have e3 := ih h.tail e1
    subst e3; subst e2
    exact h.2 (by simp)
theorem Can.inj {a b : List Int} (ha : Can a) (hb : Can b) (e : V a = V b) : a = b := by
  induction a generalizing b with
  | nil => exact (hb.zero (by rw [← e]; rfl)).symm
  | cons x a ih =>
    cases b with
    | nil => exact ha.zero (by rw [e]; rfl)
    | cons y b =>
      have h1 := ha.1.head
      have h2 := hb.1.head
      simp only [V] at e
      have e1 : x = y := by omega
      have e2 : V a = V b := by omega
      rw [e1, ih ha.tail hb.tail e2]
theorem V_snoc (l : List Int) (x : Int) : V (l ++ [x]) = V l + 65536 ^ l.length * x := by
  rw [V_append]; simp [V]
/-- A good list that has a limb has at least the value of its last place. -/
theorem Can.lo {l : List Int} (h : Can l) (n : Nat) (hn : n < l.length) : 65536 ^ n ≤ V l := by
  rcases List.eq_nil_or_concat l with rfl | ⟨a, x, e⟩
  · simp at hn
  · rw [List.concat_eq_append] at e
    subst e
    have h1 : Lim a := h.1.left
    have h2 := V_nonneg h1
    have h3 : x ≠ 0 := by
      intro e; subst e; exact h.2 (by simp)
    have h4 := h.1 x (by simp)
    rw [V_snoc]
    have h5 : (65536 : Int) ^ n ≤ 65536 ^ a.length := by
      apply pow_mono'
      simp at hn; omega
    have h6 : (65536 : Int) ^ a.length * 1 ≤ 65536 ^ a.length * x := Int.mul_le_mul_of_nonneg_left (by omega) (by have := pow_pos' a.length; omega)
    omega
theorem Can.hi {l : List Int} (h : Can l) (n : Nat) (hv : V l < 65536 ^ n) : l.length ≤ n := by
  rcases Nat.lt_or_ge n l.length with h1 | h1
  · have := h.lo n h1; omega
  · exact h1

/-! goodb: good numbers -/
def good (l : List Int) : Bool := decide ((l.length : Int) ≤ 6) && inAll 0 65535 l && decide (l.getLast? ≠ some 0)
theorem last_val (l : List Int) (hn : l.length ≤ 35184372088832) (h : ¬ (l.length : Int) = 0) : ∃ x, l.getLast? = some x ∧ wrap64 ((l.length : Int) - 1) = ((l.length - 1 : Nat) : Int) ∧ rd l ((l.length - 1 : Nat) : Int) = x := by
  rcases List.eq_nil_or_concat l with e | ⟨a, x, e⟩
  · subst e; simp at h
  · rw [List.concat_eq_append] at e
    subst e
    refine ⟨x, by simp, ?_, ?_⟩
    · simp only [List.length_append, List.length_cons, List.length_nil] at hn ⊢; rw [wr (by omega) (by omega)]; omega
    · rw [rd_at _ _ (by simp)]; simp
theorem good_lim {l : List Int} (h : good l = true) : l.length ≤ 6 ∧ Can l := by
  simp only [good, Bool.and_eq_true, decide_eq_true_eq] at h
  exact ⟨by omega, inAll_mem h.1.2, h.2⟩
theorem good_of {l : List Int} (h : l.length ≤ 6) (hc : Can l) : good l = true := by
  simp only [good, Bool.and_eq_true, decide_eq_true_eq]
  refine ⟨⟨by omega, ?_⟩, hc.2⟩
  unfold inAll
  rw [List.all_eq_true]
  intro x hx
  have := hc.1 x hx
  simp; omega

/-! ins: between two numbers, in the reference -/
theorem in_some (a b c : Int) : spec_l1In.f a b c = some (decide (b ≤ a) && decide (a ≤ c)) := by
  unfold spec_l1In.f
  by_cases h : a ≥ b
  · rw [if_pos h]; have : b ≤ a := h; simp [this]
  · rw [if_neg h]; have : ¬ b ≤ a := h; simp [this]

/-! sall: all numbers of a list between two numbers, in the reference -/
theorem all_loop (lo up : Int) (xs : List Int) (hn : xs.length ≤ 35184372088832) (d : Nat) : ∀ (k : Nat) (i : Nat), i + d = xs.length → d < k →
    spec_l1All.l0 k lo up xs (xs.length : Int) (i : Int) = some (inAll lo up (xs.drop i)) := by
  induction d with
  | zero =>
    intro k i hd hk
    obtain ⟨k, rfl⟩ : ∃ m, k = m + 1 := ⟨k - 1, by omega⟩
    simp only [spec_l1All.l0]
    rw [if_neg (by omega), List.drop_of_length_le (by omega)]; rfl
  | succ d ih =>
    intro k i hd hk
    obtain ⟨k, rfl⟩ : ∃ m, k = m + 1 := ⟨k - 1, by omega⟩
    have hi : i < xs.length := by omega
    have h1 : (i : Int) < (xs.length : Int) := by omega
    have h2 : (0 : Int) ≤ (i : Int) := by omega
    simp only [spec_l1All.l0]
    rw [if_pos h1, if_pos h2, if_pos h1, rd_at xs i hi, in_some, wr_succ i (by omega), ih k (i + 1) (by omega) (by omega), List.drop_eq_getElem_cons hi]
    simp only [Option.bind_some, inAll, List.all_cons]
    generalize (decide (lo ≤ xs[i]) && decide (xs[i] ≤ up)) = b
    cases b <;> simp
theorem spec_all {k : Nat} (lo hi : Int) (xs : List Int) (hn : xs.length ≤ 35184372088832) (hk : xs.length < k) : spec_l1All.f k xs lo hi = some (inAll lo hi xs) := by
  unfold spec_l1All.f
  have := all_loop lo hi xs hn xs.length k 0 (by omega) hk
  simpa using this

/-! goods: good numbers, in the reference -/
theorem spec_good {k : Nat} (l : List Int) (hn : l.length ≤ 35184372088832) (hk : 6 < k) : spec_GoodBig.f k l = some (good l) := by
  unfold spec_GoodBig.f good
  by_cases h : (l.length : Int) ≤ 6
  · rw [if_pos h, spec_all 0 65535 l hn (by omega)]
    simp only [Option.bind_some, h, decide_true, Bool.true_and]
    by_cases h0 : (l.length : Int) = 0
    · have : l = [] := List.eq_nil_of_length_eq_zero (by omega)
      subst this
      simp [inAll]
    · obtain ⟨x, h1, h2, h3⟩ := last_val l hn h0
      have g1 : (0 : Int) ≤ ((l.length - 1 : Nat) : Int) := by omega
      have g2 : ((l.length - 1 : Nat) : Int) < (l.length : Int) := by omega
      simp only [if_neg h0, h2, if_pos g1, if_pos g2, h3, h1]
      have hx : (x != 0) = decide (some x ≠ some 0) := by by_cases e : x = 0 <;> simp [e]
      cases inAll 0 65535 l <;> simp [hx]
  · rw [if_neg h]; simp [h]

/-! in: between two numbers -/
theorem within_eq (a b c : Int) : impl_within.f a b c = spec_l1In.f a b c := rfl

/-! iall: all numbers of a list between two numbers, in the program -/
theorem iall_loop (lo up : Int) (xs : List Int) (hn : xs.length ≤ 35184372088832) (d : Nat) : ∀ (k : Nat) (i : Nat), i + d = xs.length → d < k →
    impl_allWithin.l0 k lo up xs (xs.length : Int) (i : Int) = some (inAll lo up (xs.drop i)) := by
  induction d with
  | zero =>
    intro k i hd hk
    obtain ⟨k, rfl⟩ : ∃ m, k = m + 1 := ⟨k - 1, by omega⟩
    simp only [impl_allWithin.l0]
    rw [if_neg (by omega), List.drop_of_length_le (by omega)]; rfl
  | succ d ih =>
    intro k i hd hk
    obtain ⟨k, rfl⟩ : ∃ m, k = m + 1 := ⟨k - 1, by omega⟩
    have hi : i < xs.length := by omega
    have h1 : (i : Int) < (xs.length : Int) := by omega
    have h2 : (0 : Int) ≤ (i : Int) := by omega
    simp only [impl_allWithin.l0]
    rw [if_pos h1, if_pos h2, if_pos h1, rd_at xs i hi, within_eq, in_some, wr_succ i (by omega), ih k (i + 1) (by omega) (by omega), List.drop_eq_getElem_cons hi]
    simp only [Option.bind_some, inAll, List.all_cons]
    generalize (decide (lo ≤ xs[i]) && decide (xs[i] ≤ up)) = b
    cases b <;> simp
theorem impl_all {k : Nat} (lo hi : Int) (xs : List Int) (hn : xs.length ≤ 35184372088832) (hk : xs.length < k) : impl_allWithin.f k xs lo hi = some (inAll lo hi xs) := by
  unfold impl_allWithin.f
  have := iall_loop lo hi xs hn xs.length k 0 (by omega) hk
  simpa using this

/-! goodi: good numbers, in the program -/
theorem impl_good {k : Nat} (l : List Int) (hn : l.length ≤ 35184372088832) (hk : 6 < k) : impl_GoodBig.f k l = some (good l) := by
  unfold impl_GoodBig.f good
  by_cases h : (l.length : Int) ≤ 6
  · rw [if_pos h, impl_all 0 65535 l hn (by omega)]
    simp only [Option.bind_some, h, decide_true, Bool.true_and]
    by_cases h0 : (l.length : Int) = 0
    · have : l = [] := List.eq_nil_of_length_eq_zero (by omega)
      subst this
      simp [inAll]
    · obtain ⟨x, h1, h2, h3⟩ := last_val l hn h0
      have g1 : (0 : Int) ≤ ((l.length - 1 : Nat) : Int) := by omega
      have g2 : ((l.length - 1 : Nat) : Int) < (l.length : Int) := by omega
      simp only [if_neg h0, h2, if_pos g1, if_pos g2, h3, h1]
      have hx : (x != 0) = decide (some x ≠ some 0) := by by_cases e : x = 0 <;> simp [e]
      cases inAll 0 65535 l <;> simp [hx]
  · rw [if_neg h]; simp [h]


/-! areboth: two good numbers, in both texts -/
theorem spec_both {k : Nat} (a b : List Int) (ha : a.length ≤ 35184372088832) (hb : b.length ≤ 35184372088832) (hk : 6 < k) : spec_l1Both.f k a b = some (good a && good b) := by
  unfold spec_l1Both.f
  rw [spec_good a ha hk, spec_good b hb hk]
  cases good a <;> simp
theorem impl_both {k : Nat} (a b : List Int) (ha : a.length ≤ 35184372088832) (hb : b.length ≤ 35184372088832) (hk : 9 < k) : impl_areBigs.f k [(⟨a⟩ : S27), (⟨b⟩ : S27)] = some (good a && good b) := by
  unfold impl_areBigs.f
  obtain ⟨k, rfl⟩ : ∃ m, k = m + 3 := ⟨k - 3, by omega⟩
  have e0 : rd_T27 [(⟨a⟩ : S27), (⟨b⟩ : S27)] 0 = ⟨a⟩ := rfl
  have e1 : rd_T27 [(⟨a⟩ : S27), (⟨b⟩ : S27)] 1 = ⟨b⟩ := rfl
  have w1 : wrap64 (0 + 1) = 1 := wr (by omega) (by omega)
  have w2 : wrap64 (1 + 1) = 2 := wr (by omega) (by omega)
  have hl : (([(⟨a⟩ : S27), (⟨b⟩ : S27)] : List S27).length : Int) = 2 := rfl
  simp only [impl_areBigs.l0, hl, e0, e1, w1, w2, impl_good (k := k + 2) a ha (by omega), impl_good (k := k + 1) b hb (by omega), Option.bind_some]
  cases good a <;> cases good b <;> simp

/-! cn: the good list of a value -/
def cn (v : Int) : List Int := if v ≤ 0 then [] else v % 65536 :: cn (v / 65536)
termination_by v.toNat
decreasing_by omega
theorem cn_zero {v : Int} (h : v ≤ 0) : cn v = [] := by rw [cn, if_pos h]
theorem cn_pos {v : Int} (h : 0 < v) : cn v = v % 65536 :: cn (v / 65536) := by rw [cn, if_neg (by omega)]
theorem cn_all (n : Nat) : ∀ v : Int, 0 ≤ v → v < n → Can (cn v) ∧ V (cn v) = v := by
  induction n with
  | zero => intro v h h'; omega
  | succ n ih =>
    intro v h h'
    by_cases h0 : v = 0
    · subst h0
      rw [cn_zero (by omega)]
      exact ⟨Can.nil, rfl⟩
    · obtain ⟨c1, c2⟩ := ih (v / 65536) (by omega) (by omega)
      rw [cn_pos (by omega)]
      refine ⟨⟨Lim.cons (by omega) (by omega) c1.1, ?_⟩, ?_⟩
      · by_cases hz : v / 65536 = 0
        · rw [cn_zero (by omega)]
          simp only [List.getLast?_singleton]
          intro e
          injection e with e
          omega
        · obtain ⟨y, l, e⟩ : ∃ y l, cn (v / 65536) = y :: l := ⟨_, _, cn_pos (by omega)⟩
          rw [e, List.getLast?_cons_cons, ← e]
          exact c1.2
      · simp only [V]; rw [c2]; omega
theorem cn_can {v : Int} (h : 0 ≤ v) : Can (cn v) := (cn_all (v.toNat + 1) v h (by omega)).1
theorem V_cn {v : Int} (h : 0 ≤ v) : V (cn v) = v := (cn_all (v.toNat + 1) v h (by omega)).2
theorem cn_V {l : List Int} (h : Can l) : cn (V l) = l := Can.inj (cn_can (V_nonneg h.1)) h (V_cn (V_nonneg h.1))
theorem cn_len {v : Int} (h : 0 ≤ v) (n : Nat) (hv : v < 65536 ^ n) : (cn v).length ≤ n := (cn_can h).hi n (by rw [V_cn h]; exact hv)
theorem Can.take_lim {l : List Int} (h : Lim l) (n : Nat) : Lim (l.take n) := fun x hx => h x (List.mem_of_mem_take hx)
theorem V_zeros (n : Nat) : V (List.replicate n 0) = 0 := by
  induction n with
  | zero => rfl
  | succ n ih => simp only [List.replicate_succ, V, ih]; rfl
theorem V_take_drop (l : List Int) (i : Nat) (h : i ≤ l.length) : V l = V (l.take i) + 65536 ^ i * V (l.drop i) := by
  conv => lhs; rw [← List.take_append_drop i l]
  rw [V_append, List.length_take, Nat.min_eq_left h]
theorem V_take_succ (l : List Int) (i : Nat) (h : i < l.length) : V (l.take (i + 1)) = V (l.take i) + 65536 ^ i * l[i] := by
  rw [List.take_succ_eq_append_getElem h, V_snoc, List.length_take, Nat.min_eq_left (by omega)]
theorem V_drop_cons (l : List Int) (i : Nat) (h : i < l.length) : V (l.drop i) = l[i] + 65536 * V (l.drop (i + 1)) := by
  rw [List.drop_eq_getElem_cons h]; rfl
theorem V_set (l : List Int) (i : Nat) (y : Int) (h : i < l.length) : V (l.set i y) = V l + 65536 ^ i * (y - l[i]) := by
  induction l generalizing i with
  | nil => simp at h
  | cons x l ih =>
    cases i with
    | zero => simp only [List.set_cons_zero, V, Int.pow_zero, Int.one_mul, List.getElem_cons_zero]; omega
    | succ i =>
      have h' : i < l.length := by simpa using h
      simp only [List.set_cons_succ, V, List.getElem_cons_succ]
      rw [ih i h', Int.pow_succ, Int.mul_add, Int.add_assoc]
      congr 2
      rw [Int.mul_comm (65536 ^ i) 65536, Int.mul_assoc]
theorem Lim.set {l : List Int} (h : Lim l) (i : Nat) {y : Int} (h0 : 0 ≤ y) (h1 : y ≤ 65535) : Lim (l.set i y) := by
  intro x hx
  rcases List.mem_or_eq_of_mem_set hx with hx | hx
  · exact h x hx
  · rw [hx]; exact ⟨h0, h1⟩
/-- what stands at the end of a list of noughts cut off is its good list -/
theorem cut_can (l : List Int) (hl : Lim l) (n : Nat) (hn : n ≤ l.length) (hz : ∀ j, (h : j < l.length) → n ≤ j → l[j] = 0) (hx : ∀ h : 0 < n, l[n - 1]'(by omega) ≠ 0) : l.take n = cn (V l) := by
  have hd : V (l.drop n) = 0 := by
    have : ∀ (m : List Int), (∀ x ∈ m, x = 0) → V m = 0 := by
      intro m
      induction m with
      | nil => intro _; rfl
      | cons x m ih =>
        intro h
        simp only [V]
        rw [h x (by simp), ih (fun y hy => h y (by simp [hy]))]; rfl
    refine this _ (fun x hx => ?_)
    obtain ⟨j, hj, e⟩ := List.getElem_of_mem hx
    rw [List.getElem_drop] at e
    rw [← e]
    exact hz (n + j) (by simp at hj; omega) (by omega)
  have hv : V l = V (l.take n) := by rw [V_take_drop l n hn, hd]; omega
  have hc : Can (l.take n) := by
    refine ⟨Can.take_lim hl n, ?_⟩
    by_cases h0 : n = 0
    · subst h0; simp
    · obtain ⟨m, rfl⟩ : ∃ m, n = m + 1 := ⟨n - 1, by omega⟩
      rw [List.take_succ_eq_append_getElem (by omega)]
      simp only [List.getLast?_append, List.getLast?_singleton]
      have := hx (by omega)
      simpa using this
  rw [hv, cn_V hc]

/-! ring: small identities between values -/
theorem at_drop (l : List Int) (i : Nat) : V (l.drop i) = l.getD i 0 + 65536 * V (l.drop (i + 1)) := by
  by_cases h : i < l.length
  · rw [V_drop_cons l i h, List.getD_eq_getElem?_getD, List.getElem?_eq_getElem h]; rfl
  · rw [List.drop_of_length_le (by omega), List.drop_of_length_le (by omega), List.getD_eq_getElem?_getD, List.getElem?_eq_none (by omega)]
    rfl
theorem at_lim {l : List Int} (h : Lim l) (i : Nat) : 0 ≤ l.getD i 0 ∧ l.getD i 0 ≤ 65535 := by
  by_cases hi : i < l.length
  · rw [List.getD_eq_getElem?_getD, List.getElem?_eq_getElem hi]
    exact h _ (List.getElem_mem hi)
  · rw [List.getD_eq_getElem?_getD, List.getElem?_eq_none (by omega)]
    simp
theorem at_in (l : List Int) (i : Nat) (h : i < l.length) : rd l (i : Int) = l.getD i 0 := by
  rw [rd_at l i h, List.getD_eq_getElem?_getD, List.getElem?_eq_getElem h]; rfl
theorem at_out (l : List Int) (i : Nat) (h : ¬ i < l.length) : l.getD i 0 = 0 := by
  rw [List.getD_eq_getElem?_getD, List.getElem?_eq_none (by omega)]; rfl
theorem carry_step (o P c x y U W T s : Int) (hs : s = c + x + y) (h : o + P * (c + (x + 65536 * U) + (y + 65536 * W)) = T) : o + P * (s % 65536) + P * 65536 * (s / 65536 + U + W) = T := by
  have e : s = 65536 * (s / 65536) + s % 65536 := by omega
  generalize s / 65536 = q at *
  generalize s % 65536 = r at *
  grind
theorem borrow_step (o P c x y U W T s r b : Int) (hs : s = x - y - c) (hr : r = s + 65536 * b) (h : o + P * ((x + 65536 * U) - (y + 65536 * W) - c) = T) : o + P * r + P * 65536 * (U - W - b) = T := by
  grind
theorem no_carry (o P c T : Int) (ho : 0 ≤ o) (hP : 0 < P) (hc : 0 ≤ c) (h : o + P * c = T) (hT : T < P) : c = 0 := by
  rcases Int.lt_or_le 0 c with h1 | h1
  · exfalso
    have : P * 1 ≤ P * c := Int.mul_le_mul_of_nonneg_left (by omega) (by omega)
    omega
  · omega

/-! compare: numbers of limbs compared, in both texts -/
def cmpV (x y : Int) : Int := if x < y then -1 else if x = y then 0 else 1
theorem lib_compare (x y : Int) : cmp_Compare_int.f x y = some (cmpV x y) := by
  unfold cmp_Compare_int.f cmp_isNaN_int.f cmpV
  simp only [Option.bind_some, bne_self_eq_false, Bool.false_eq_true, if_false]
  by_cases h : x < y
  · rw [if_pos h, if_pos h]
  · rw [if_neg h, if_neg h]
    by_cases h2 : x = y
    · rw [if_pos h2, if_neg (by omega)]
    · rw [if_neg h2, if_pos (by omega)]
theorem cmpV_eq {x y u w : Int} (h1 : x < y ↔ u < w) (h2 : x = y ↔ u = w) : cmpV x y = cmpV u w := by
  unfold cmpV; simp only [h1, h2]
/-- a place that differs, the places above it alike -/
theorem top_cmp (a b : List Int) (ha : Lim a) (hb : Lim b) (i : Nat) (h1 : i < a.length) (h2 : i < b.length) (hd : V (a.drop (i + 1)) = V (b.drop (i + 1))) (hx : a[i] ≠ b[i]) : cmpV a[i] b[i] = cmpV (V a) (V b) := by
  have ea := V_take_drop a i (by omega)
  have eb := V_take_drop b i (by omega)
  rw [V_drop_cons a i h1] at ea
  rw [V_drop_cons b i h2] at eb
  have la := V_lt (Can.take_lim ha i)
  have lb := V_lt (Can.take_lim hb i)
  have na := V_nonneg (Can.take_lim ha i)
  have nb := V_nonneg (Can.take_lim hb i)
  rw [List.length_take, Nat.min_eq_left (by omega)] at la lb
  have hp := pow_pos' i
  rw [hd] at ea
  have ka : 65536 ^ i * (a[i] + 65536 * V (b.drop (i + 1))) = 65536 ^ i * a[i] + 65536 ^ i * (65536 * V (b.drop (i + 1))) := Int.mul_add _ _ _
  have kb : 65536 ^ i * (b[i] + 65536 * V (b.drop (i + 1))) = 65536 ^ i * b[i] + 65536 ^ i * (65536 * V (b.drop (i + 1))) := Int.mul_add _ _ _
  rw [ka] at ea
  rw [kb] at eb
  rcases Int.lt_or_lt_of_ne hx with h | h
  · have := Int.mul_le_mul_of_nonneg_left (show a[i] + 1 ≤ b[i] by omega) (show (0 : Int) ≤ 65536 ^ i by omega)
    rw [Int.mul_add, Int.mul_one] at this
    exact cmpV_eq (by constructor <;> intro <;> omega) (by constructor <;> intro <;> omega)
  · have := Int.mul_le_mul_of_nonneg_left (show b[i] + 1 ≤ a[i] by omega) (show (0 : Int) ≤ 65536 ^ i by omega)
    rw [Int.mul_add, Int.mul_one] at this
    exact cmpV_eq (by constructor <;> intro <;> omega) (by constructor <;> intro <;> omega)
theorem len_cmp {a b : List Int} (ha : Can a) (hb : Can b) (h : ¬ a.length = b.length) : cmpV (a.length : Int) (b.length : Int) = cmpV (V a) (V b) := by
  rcases Nat.lt_or_gt_of_ne h with h | h
  · have h1 := hb.lo a.length h
    have h2 := V_lt ha.1
    exact cmpV_eq (by constructor <;> intro <;> omega) (by constructor <;> intro <;> omega)
  · have h1 := ha.lo b.length h
    have h2 := V_lt hb.1
    exact cmpV_eq (by constructor <;> intro <;> omega) (by constructor <;> intro <;> omega)

/-! comparei: numbers of limbs compared, in the program -/
theorem impl_cmp_loop (a b : List Int) (ha : Lim a) (hb : Lim b) (hl : a.length = b.length) (hn : a.length ≤ 1000) (i : Nat) : ∀ (k : Nat), i ≤ a.length → i < k → V (a.drop i) = V (b.drop i) →
    impl_compare.l0 k a b ((i : Int) - 1) = some (cmpV (V a) (V b)) := by
  induction i with
  | zero =>
    intro k hi hk h
    obtain ⟨k, rfl⟩ : ∃ m, k = m + 1 := ⟨k - 1, by omega⟩
    have hz : ¬ ((0 : Nat) : Int) - 1 ≥ 0 := by omega
    simp only [impl_compare.l0, if_neg hz]
    simp only [List.drop_zero] at h
    rw [h]
    simp [cmpV]
  | succ i ih =>
    intro k hi hk h
    obtain ⟨k, rfl⟩ : ∃ m, k = m + 1 := ⟨k - 1, by omega⟩
    have e : ((i + 1 : Nat) : Int) - 1 = (i : Int) := by omega
    have g0 : (i : Int) ≥ 0 := by omega
    have g1 : (0 : Int) ≤ (i : Int) := by omega
    have g2 : (i : Int) < (a.length : Int) := by omega
    have g3 : (i : Int) < (b.length : Int) := by omega
    rw [e]
    simp only [impl_compare.l0]
    rw [if_pos g0, if_pos g1, if_pos g2, if_pos g3, rd_at a i (by omega), rd_at b i (by omega)]
    by_cases hx : a[i] = b[i]
    · rw [if_pos hx, wr (by omega) (by omega)]
      refine ih k (by omega) (by omega) ?_
      rw [V_drop_cons a i (by omega), V_drop_cons b i (by omega), hx, h]
    · rw [if_neg hx, lib_compare, Option.bind_some, top_cmp a b ha hb i (by omega) (by omega) h hx]
theorem impl_cmp {k : Nat} (a b : List Int) (ha : Can a) (hb : Can b) (hna : a.length ≤ 1000) (hnb : b.length ≤ 1000) (hk : 1001 < k) : impl_compare.f k a b = some (cmpV (V a) (V b)) := by
  unfold impl_compare.f
  by_cases h : a.length = b.length
  · have g : (a.length : Int) = (b.length : Int) := by omega
    rw [if_pos g, wr (by omega) (by omega)]
    exact impl_cmp_loop a b ha.1 hb.1 h hna a.length k (by omega) (by omega) (by rw [List.drop_of_length_le (by omega), List.drop_of_length_le (by omega)])
  · have g : ¬ (a.length : Int) = (b.length : Int) := by omega
    rw [if_neg g, lib_compare, Option.bind_some, len_cmp ha hb h]

/-! compares: numbers of limbs compared, in the reference -/
theorem spec_cmp_loop (a b : List Int) (ha : Lim a) (hb : Lim b) (hl : a.length = b.length) (hn : a.length ≤ 1000) (i : Nat) : ∀ (k : Nat), i ≤ a.length → i < k → V (a.drop i) = V (b.drop i) →
    spec_l1Compare.l0 k a b ((i : Int) - 1) = some (cmpV (V a) (V b)) := by
  induction i with
  | zero =>
    intro k hi hk h
    obtain ⟨k, rfl⟩ : ∃ m, k = m + 1 := ⟨k - 1, by omega⟩
    have hz : ¬ ((0 : Nat) : Int) - 1 ≥ 0 := by omega
    simp only [spec_l1Compare.l0, if_neg hz]
    simp only [List.drop_zero] at h
    rw [h]
    simp [cmpV]
  | succ i ih =>
    intro k hi hk h
    obtain ⟨k, rfl⟩ : ∃ m, k = m + 1 := ⟨k - 1, by omega⟩
    have e : ((i + 1 : Nat) : Int) - 1 = (i : Int) := by omega
    have g0 : (i : Int) ≥ 0 := by omega
    have g1 : (0 : Int) ≤ (i : Int) := by omega
    have g2 : (i : Int) < (a.length : Int) := by omega
    have g3 : (i : Int) < (b.length : Int) := by omega
    rw [e]
    simp only [spec_l1Compare.l0]
    rw [if_pos g0, if_pos g1, if_pos g2, if_pos g3, rd_at a i (by omega), rd_at b i (by omega)]
    by_cases hx : a[i] = b[i]
    · rw [if_neg (by omega), if_neg (by omega), wr (by omega) (by omega)]
      refine ih k (by omega) (by omega) ?_
      rw [V_drop_cons a i (by omega), V_drop_cons b i (by omega), hx, h]
    · rw [← top_cmp a b ha hb i (by omega) (by omega) h hx]
      unfold cmpV
      by_cases hlt : a[i] < b[i]
      · rw [if_pos hlt, if_pos hlt]
      · rw [if_neg hlt, if_pos (by omega), if_neg hlt, if_neg hx]
theorem spec_cmp {k : Nat} (a b : List Int) (ha : Can a) (hb : Can b) (hna : a.length ≤ 1000) (hnb : b.length ≤ 1000) (hk : 1001 < k) : spec_l1Compare.f k a b = some (cmpV (V a) (V b)) := by
  unfold spec_l1Compare.f
  by_cases h : a.length = b.length
  · have g : (a.length : Int) = (b.length : Int) := by omega
    rw [if_pos g, wr (by omega) (by omega)]
    exact spec_cmp_loop a b ha.1 hb.1 h hna a.length k (by omega) (by omega) (by rw [List.drop_of_length_le (by omega), List.drop_of_length_le (by omega)])
  · have g : ¬ (a.length : Int) = (b.length : Int) := by omega
    rw [if_neg g, ← len_cmp ha hb h]
    unfold cmpV
    by_cases hlt : (a.length : Int) < (b.length : Int)
    · rw [if_pos hlt, if_pos hlt]
    · rw [if_neg hlt, if_neg hlt, if_neg g]

/-! comparebig: CompareBig, in both texts -/
theorem compare_big {k : Nat} (a b : List Int) (ha : a.length ≤ 35184372088832) (hb : b.length ≤ 35184372088832) (hk : 1010 < k) : ∃ r, spec_CompareBig.f k a b = some r ∧ impl_CompareBig.f k a b = some r := by
  unfold spec_CompareBig.f impl_CompareBig.f
  rw [spec_both a b ha hb (by omega), impl_both a b ha hb (by omega)]
  by_cases h : (good a && good b) = true
  · obtain ⟨h1, h2⟩ := Bool.and_eq_true_iff.1 h
    obtain ⟨la, ca⟩ := good_lim h1
    obtain ⟨lb, cb⟩ := good_lim h2
    exact ⟨(cmpV (V a) (V b), true), by simp [h1, h2, spec_cmp (k := k) a b ca cb (by omega) (by omega) (by omega)], by simp [h1, h2, impl_cmp (k := k) a b ca cb (by omega) (by omega) (by omega)]⟩
  · exact ⟨(0, false), by simp [h], by simp [h]⟩

theorem FnExactCompareBig : ∀ (l0_0 : List Int) (l1_0 : List Int), l0_0.length ≤ maxLen → (∀ n ∈ l0_0, (Lit.int .i64 n).wf = true) → l1_0.length ≤ maxLen → (∀ n ∈ l1_0, (Lit.int .i64 n).wf = true) → ∃ k, laws_FnExactCompareBig.f k l0_0 l1_0 = some true := by
  intro a b hma _ hmb _
  unfold maxLen at hma hmb
  refine rounds_of (a.length + b.length + 2000) fun k hk => ?_
  obtain ⟨k, rfl⟩ : ∃ j, k = j + 1 := ⟨k - 1, by omega⟩
  unfold laws_FnExactCompareBig.f
  rw [sz_big a 1048576 hma (by omega) (by omega)]
  simp only [Option.bind_some]
  by_cases h : (1048576 : Int) < (a.length : Int)
  · simp [h]
  · rw [if_neg h, if_neg (by omega), sz_big b _ hmb (by omega) (by omega)]
    simp only [Option.bind_some]
    by_cases h' : (1048576 : Int) - a.length < (b.length : Int)
    · simp [h']
    · rw [if_neg h', if_neg (by omega)]
      obtain ⟨r, s1, i1⟩ := compare_big (k := k + 1) a b (by omega) (by omega) (by omega)
      simp only [to_big (k := k + 1) a (by omega) (by omega), to_big (k := k + 1) b (by omega) (by omega), s1, i1, Option.bind_some, bne_self_eq_false, if_true]
      simp [laws_FnExactCompareBig.j0, to_big (k := k) a (by omega) (by omega), to_big (k := k) b (by omega) (by omega), eq_big (k := k) a (by omega) (by omega), eq_big (k := k) b (by omega) (by omega)]

end Go.Proofs.Ytcehboknhdmmfaa.Pure
