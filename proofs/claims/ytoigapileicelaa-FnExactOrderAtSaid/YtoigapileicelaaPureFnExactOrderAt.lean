/- OrderAt answers as the reference does and owns its answer, for every two numbers (the plain half). -/
import Derived.Test.YtoigapileicelaaQFnExactOrderAtx
set_option linter.unusedVariables false
set_option linter.unusedSimpArgs false
namespace Go.Proofs.Ytoigapileicelaa.Pure
open Go.RowKit Go.Proofs.Ytoigapileicelaa.QFnExactOrderAt Go.Proofs.YtoigapileicelaaW.PrintWords Go.Proofs.YtoigapileicelaaW.PrintLast Go.Proofs.YtoigapileicelaaW.PrintMore

/-! base: sums of int that stay in range; `tmod` and `tdiv` of what is not negative -/
theorem wr {x : Int} (h1 : -9223372036854775808 ≤ x) (h2 : x ≤ 9223372036854775807) : wrap64 x = x := by
  unfold wrap64; omega
theorem tmod_pos {a b : Int} (h : 0 ≤ a) : Int.tmod a b = a % b := Int.tmod_eq_emod_of_nonneg h
theorem tdiv_pos {a b : Int} (h : 0 ≤ a) : Int.tdiv a b = a / b := Int.tdiv_eq_ediv_of_nonneg h
theorem rounds_of {α : Type} {g : Nat → Option α} {r : α} (N : Nat) (h : ∀ k, N < k → g k = some r) : ∃ k, g k = some r := ⟨N + 1, h _ (Nat.lt_succ_self N)⟩

/-! lists: reading a list at a place; a copy of a list; a list is like itself -/
theorem rd_at (xs : List Int) (i : Nat) (h : i < xs.length) : rd xs (i : Int) = xs[i] := by
  simp [rd, List.getD_eq_getElem?_getD, h]
theorem wr_succ (i : Nat) (h : i < 9000000000000000000) : wrap64 ((i : Int) + 1) = ((i + 1 : Nat) : Int) := by
  rw [wr (by omega) (by omega)]; omega
theorem same_list {α : Type} {xs ys : List α} (hl : ys.length = xs.length) (h : ∀ j, j < xs.length → ys[j]? = xs[j]?) : ys = xs := by
  apply List.ext_getElem?
  intro j
  by_cases hj : j < xs.length
  · exact h j hj
  · rw [List.getElem?_eq_none (by omega), List.getElem?_eq_none (by omega)]
theorem set_upto {α : Type} {xs ys : List α} {i : Nat} (hl : ys.length = xs.length) (hi : i < xs.length) (h : ∀ j, j < i → ys[j]? = xs[j]?) :
    ∀ j, j < i + 1 → (ys.set i xs[i])[j]? = xs[j]? := by
  intro j hj
  rw [List.getElem?_set]
  by_cases e : i = j
  · subst e; rw [if_pos rfl, if_pos (by omega), List.getElem?_eq_getElem hi]
  · rw [if_neg e]; exact h j (by omega)

/-! ins: between two numbers, in the reference -/
theorem in_some (a b c : Int) : spec_l1In.f a b c = some (decide (b ≤ a) && decide (a ≤ c)) := by
  unfold spec_l1In.f
  by_cases h : a ≥ b
  · rw [if_pos h]; have : b ≤ a := h; simp [this]
  · rw [if_neg h]; have : ¬ b ≤ a := h; simp [this]

/-! in: between two numbers -/
theorem within_eq (a b c : Int) : impl_within.f a b c = spec_l1In.f a b c := rfl

/-! orders: how many orders there are, in both texts -/
theorem orders_l0_eq (k : Nat) : ∀ a b c, impl_orders.l0 k a b c = spec_l4Orders.l0 k a b c := by
  induction k with
  | zero => intros; rfl
  | succ k ih => intro a b c; simp only [impl_orders.l0, spec_l4Orders.l0, ih]
theorem orders_eq (k : Nat) (a : Int) : impl_orders.f k a = spec_l4Orders.f k a := by simp only [impl_orders.f, spec_l4Orders.f, orders_l0_eq]
theorem orders_ends (many : Int) (hm : many ≤ 100) (d : Nat) : ∀ (k : Nat) (x i : Int), 0 ≤ i → many + 1 - i ≤ d → d < k → ∃ r, spec_l4Orders.l0 k many x i = some r := by
  induction d with
  | zero =>
    intro k x i h0 hd hk
    obtain ⟨k, rfl⟩ : ∃ m, k = m + 1 := ⟨k - 1, by omega⟩
    simp only [spec_l4Orders.l0]
    rw [if_neg (by omega)]
    exact ⟨_, rfl⟩
  | succ d ih =>
    intro k x i h0 hd hk
    obtain ⟨k, rfl⟩ : ∃ m, k = m + 1 := ⟨k - 1, by omega⟩
    simp only [spec_l4Orders.l0]
    by_cases h : i ≤ many
    · rw [if_pos h, wr (x := i + 1) (by omega) (by omega)]
      exact ih k _ (i + 1) (by omega) (by omega) (by omega)
    · rw [if_neg h]; exact ⟨_, rfl⟩

/-! eqints: laws.eqIntS says that a list is itself -/
theorem eqIntS_loop (xs : List Int) (hn : xs.length ≤ 35184372088832) (d : Nat) : ∀ (k : Nat) (i : Nat), i + d = xs.length → d < k → laws_eqIntS.l0 k xs xs (i : Int) = some true := by
  induction d with
  | zero =>
    intro k i hd hk
    obtain ⟨k, rfl⟩ : ∃ m, k = m + 1 := ⟨k - 1, by omega⟩
    simp only [laws_eqIntS.l0]
    rw [if_neg (by omega)]
  | succ d ih =>
    intro k i hd hk
    obtain ⟨k, rfl⟩ : ∃ m, k = m + 1 := ⟨k - 1, by omega⟩
    have h1 : (i : Int) < (xs.length : Int) := by omega
    have h2 : (0 : Int) ≤ (i : Int) := by omega
    simp only [laws_eqIntS.l0, if_pos h1, if_pos h2, if_true, wr_succ i (by omega)]
    exact ih k (i + 1) (by omega) (by omega)
theorem eqIntS_self {k : Nat} (xs : List Int) (hn : xs.length ≤ 35184372088832) (hk : xs.length < k) : laws_eqIntS.f k xs xs = some true := by
  unfold laws_eqIntS.f
  rw [if_pos rfl]
  exact eqIntS_loop xs hn xs.length k 0 (by omega) hk

/-! markintonly: laws.markIntS writes marks -/
theorem markIntS_loop (n : Nat) (hn : n ≤ 35184372088832) (c : Int) (hc : 0 ≤ c) (hc' : c ≤ 1000000000000000000) (d : Nat) : ∀ (k : Nat) (ys : List Int) (i : Nat), ys.length = n → i + d = n → d < k →
    (∀ j, j < i → ys[j]? = some (c + j)) →
    ∃ zs, zs.length = n ∧ laws_markIntS.l0 k ys (c + i) (i : Int) = some (c + n, zs) ∧ ∀ j, j < n → zs[j]? = some (c + j) := by
  induction d with
  | zero =>
    intro k ys i hl hd hk h
    obtain ⟨k, rfl⟩ : ∃ m, k = m + 1 := ⟨k - 1, by omega⟩
    obtain rfl : i = n := by omega
    refine ⟨ys, hl, ?_, h⟩
    simp only [laws_markIntS.l0]
    rw [if_neg (by omega)]
  | succ d ih =>
    intro k ys i hl hd hk h
    obtain ⟨k, rfl⟩ : ∃ m, k = m + 1 := ⟨k - 1, by omega⟩
    have h1 : (i : Int) < (ys.length : Int) := by omega
    have h2 : (0 : Int) ≤ (i : Int) := by omega
    have e : wrap64 (c + (i : Int) + 1) = c + ((i + 1 : Nat) : Int) := by rw [wr (by omega) (by omega)]; omega
    obtain ⟨zs, z1, z2, z3⟩ := ih k (ys.set i (c + i)) (i + 1) (by simpa using hl) (by omega) (by omega) (by
      intro j hj
      rw [List.getElem?_set]
      by_cases e : i = j
      · subst e; rw [if_pos rfl, if_pos (by omega)]
      · rw [if_neg e]; exact h j (by omega))
    refine ⟨zs, z1, ?_, z3⟩
    simp only [laws_markIntS.l0]
    rw [if_pos h1, if_pos h2, e, wr_succ i (by omega), Int.toNat_natCast]
    exact z2
theorem markIntS_some (xs : List Int) (hn : xs.length ≤ 35184372088832) (c : Int) (hc : 0 ≤ c) (hc' : c ≤ 1000000000000000000) {k : Nat} (hk : xs.length < k) : ∃ zs, laws_markIntS.f k xs c = some (c + xs.length, zs) := by
  obtain ⟨zs, _, h, _⟩ := markIntS_loop xs.length hn c hc hc' xs.length k xs 0 rfl (by omega) hk (fun j hj => by omega)
  exact ⟨zs, by simpa [laws_markIntS.f] using h⟩

/-! markints: laws.heldIntS finds the marks -/
theorem heldIntS_loop (zs : List Int) (hn : zs.length ≤ 35184372088832) (c : Int) (hc : 0 ≤ c) (hc' : c ≤ 1000000000000000000) (hz : ∀ j, j < zs.length → zs[j]? = some (c + j)) (d : Nat) : ∀ (k : Nat) (i : Nat), i + d = zs.length → d < k →
    laws_heldIntS.l0 k zs (c + i) (i : Int) = some (c + zs.length) := by
  induction d with
  | zero =>
    intro k i hd hk
    obtain ⟨k, rfl⟩ : ∃ m, k = m + 1 := ⟨k - 1, by omega⟩
    simp only [laws_heldIntS.l0]
    rw [if_neg (by omega), show i = zs.length by omega]
  | succ d ih =>
    intro k i hd hk
    obtain ⟨k, rfl⟩ : ∃ m, k = m + 1 := ⟨k - 1, by omega⟩
    have hi : i < zs.length := by omega
    have h1 : (i : Int) < (zs.length : Int) := by omega
    have h2 : (0 : Int) ≤ (i : Int) := by omega
    have e : wrap64 (c + (i : Int) + 1) = c + ((i + 1 : Nat) : Int) := by rw [wr (by omega) (by omega)]; omega
    have hv : zs[i] = c + i := by
      have := hz i hi
      rw [List.getElem?_eq_getElem hi] at this
      exact Option.some.inj this
    have hr : rd zs (i : Int) = c + i := by rw [rd_at zs i hi, hv]
    simp only [laws_heldIntS.l0]
    rw [if_pos h1, if_pos h2, if_pos hr, e, wr_succ i (by omega)]
    exact ih k (i + 1) (by omega) (by omega)
theorem markIntS_held (xs : List Int) (hn : xs.length ≤ 35184372088832) (c : Int) (hc : 0 ≤ c) (hc' : c ≤ 1000000000000000000) :
    ∃ zs, zs.length = xs.length ∧ (∀ k, xs.length < k → laws_markIntS.f k xs c = some (c + xs.length, zs)) ∧ (∀ k, xs.length < k → laws_heldIntS.f k zs c = some (c + xs.length)) := by
  have all : ∀ k, xs.length < k → ∃ zs, zs.length = xs.length ∧ laws_markIntS.f k xs c = some (c + xs.length, zs) ∧ ∀ j, j < xs.length → zs[j]? = some (c + j) := by
    intro k hk
    have := markIntS_loop xs.length hn c hc hc' xs.length k xs 0 rfl (by omega) hk (fun j hj => by omega)
    simpa [laws_markIntS.f] using this
  obtain ⟨zs, z1, _, z3⟩ := all (xs.length + 1) (by omega)
  refine ⟨zs, z1, fun k hk => ?_, fun k hk => ?_⟩
  · obtain ⟨us, u1, u2, u3⟩ := all k hk
    rw [u2, show us = zs from same_list (by omega) (fun j hj => by rw [u3 j (by omega), z3 j (by omega)])]
  · have := heldIntS_loop zs (by omega) c hc hc' (fun j hj => z3 j (by omega)) zs.length k 0 (by omega) (by omega)
    simpa [laws_heldIntS.f, z1] using this

/-! hd: an equation that the search for linear facts is to leave alone -/
def Hd (p : Prop) : Prop := p
theorem Hd.mk {p : Prop} (h : p) : Hd p := h
theorem Hd.out {p : Prop} (h : Hd p) : p := h

def fct : Nat → Nat
  | 0 => 1
  | n + 1 => (n + 1) * fct n
theorem fct_pos (n : Nat) : 0 < fct n := by
  induction n with
  | zero => exact Nat.one_pos
  | succ n ih => exact Nat.mul_pos (Nat.succ_pos n) ih
theorem fct_le : ∀ n : Nat, n ≤ 9 → fct n ≤ 362880
  | 0, _ => by decide
  | 1, _ => by decide
  | 2, _ => by decide
  | 3, _ => by decide
  | 4, _ => by decide
  | 5, _ => by decide
  | 6, _ => by decide
  | 7, _ => by decide
  | 8, _ => by decide
  | 9, _ => by decide
  | n + 10, h => absurd h (by omega)
theorem orders12 : ∀ n : Nat, n ≤ 9 → spec_l4Orders.f 12 (n : Int) = some (fct n : Int)
  | 0, _ => by simp [spec_l4Orders.f, spec_l4Orders.l0, wrap64, fct]
  | 1, _ => by simp [spec_l4Orders.f, spec_l4Orders.l0, wrap64, fct]
  | 2, _ => by simp [spec_l4Orders.f, spec_l4Orders.l0, wrap64, fct]
  | 3, _ => by simp [spec_l4Orders.f, spec_l4Orders.l0, wrap64, fct]
  | 4, _ => by simp [spec_l4Orders.f, spec_l4Orders.l0, wrap64, fct]
  | 5, _ => by simp [spec_l4Orders.f, spec_l4Orders.l0, wrap64, fct]
  | 6, _ => by simp [spec_l4Orders.f, spec_l4Orders.l0, wrap64, fct]
  | 7, _ => by simp [spec_l4Orders.f, spec_l4Orders.l0, wrap64, fct]
  | 8, _ => by simp [spec_l4Orders.f, spec_l4Orders.l0, wrap64, fct]
  | 9, _ => by simp [spec_l4Orders.f, spec_l4Orders.l0, wrap64, fct]
  | n + 10, h => absurd h (by omega)
theorem orders_val {k : Nat} (n : Nat) (h : n ≤ 9) (hk : 12 ≤ k) : spec_l4Orders.f k (n : Int) = some (fct n : Int) :=
  at_rounds (fun k => spec_l4Orders.mono (n : Int) k) hk (orders12 n h)
theorem order_l1 (n : Nat) : ∀ (k : Nat) (at_ : Int) (xs ys : List Int), n ≤ 9 → xs.length = n → n + ys.length ≤ 9 → 0 ≤ at_ → at_ < (fct n : Int) → n + 14 < k →
    ∃ r : List Int × Bool, r.1.length ≤ 9 ∧ spec_OrderAt.l1 k at_ xs ys = some r ∧ impl_OrderAt.l1 k at_ xs ys = some r := by
  induction n with
  | zero =>
    intro k a xs ys _ hx hy _ _ hk
    obtain ⟨k, rfl⟩ : ∃ m, k = m + 1 := ⟨k - 1, by omega⟩
    have h : ¬ (xs.length : Int) > 0 := by omega
    refine ⟨(ys, true), by simpa using hy, ?_, ?_⟩
    · simp only [spec_OrderAt.l1, if_neg h]
    · simp only [impl_OrderAt.l1, if_neg h]
  | succ n ih =>
    intro k a xs ys hn hx hy h0 h1 hk
    obtain ⟨k, rfl⟩ : ∃ m, k = m + 1 := ⟨k - 1, by omega⟩
    have h : (xs.length : Int) > 0 := by omega
    have hp := fct_pos n
    have hle := fct_le n (by omega)
    have hle' := fct_le (n + 1) hn
    have e1 : Hd (wrap64 ((xs.length : Int) - 1) = (n : Int)) := by show _ = _; rw [wr (by omega) (by omega)]; omega
    have hz : ¬ (fct n : Int) = 0 := by omega
    have hf : (fct (n + 1) : Int) = ((n : Int) + 1) * (fct n : Int) := by show (((n + 1) * fct n : Nat) : Int) = _; rw [Int.natCast_mul]; rfl
    have hq0 : 0 ≤ a / (fct n : Int) := Int.ediv_nonneg h0 (by omega)
    have hq1 : a / (fct n : Int) < (n : Int) + 1 := Int.ediv_lt_of_lt_mul (by omega) (by rw [← hf]; exact h1)
    obtain ⟨q, hq⟩ := Int.eq_ofNat_of_zero_le hq0
    have e2 : Hd (wrap64 (Int.tdiv a (fct n : Int)) = (q : Int)) := by show _ = _; rw [tdiv_pos h0, hq]; exact wr (by omega) (by omega)
    have c1 : (0 : Int) ≤ (q : Int) := by omega
    have c2 : (q : Int) < (xs.length : Int) := by omega
    have c3 : ys.length < 17592186044416 := by omega
    have c4 : (q : Int) ≤ (xs.length : Int) := by omega
    have e3 : Hd (wrap64 ((q : Int) + 1) = ((q + 1 : Nat) : Int)) := by show _ = _; rw [wr (by omega) (by omega)]; omega
    have c5 : (0 : Int) ≤ ((q + 1 : Nat) : Int) := by omega
    have c6 : ((q + 1 : Nat) : Int) ≤ (xs.length : Int) := by omega
    have c7 : ([] : List Int).length + (xs.take q).length < 17592186044416 := by simp; omega
    have c8 : ([] ++ xs.take q : List Int).length + (xs.drop (q + 1)).length < 17592186044416 := by simp; omega
    have hm0 : 0 ≤ Int.tmod a (fct n : Int) := by rw [tmod_pos h0]; exact Int.emod_nonneg _ hz
    have hm1 : Int.tmod a (fct n : Int) < (fct n : Int) := by rw [tmod_pos h0]; exact Int.emod_lt_of_pos _ (by omega)
    obtain ⟨r, r1, r2, r3⟩ := ih k (Int.tmod a (fct n : Int)) (xs.eraseIdx q) (ys ++ [rd xs (q : Int)]) (by omega) (by rw [List.length_eraseIdx_of_lt (by omega)]; omega) (by simp; omega) hm0 hm1 (by omega)
    refine ⟨r, r1, ?_, ?_⟩
    · rw [List.eraseIdx_eq_take_drop_succ] at r2
      simp only [spec_OrderAt.l1, if_pos h, e1.out, orders_val (k := k) n (by omega) (by omega), Option.bind_some, if_neg hz, e2.out, if_pos c1, if_pos c2, if_pos c3, if_pos c4, e3.out, if_pos c5, if_pos c6, Int.toNat_natCast, if_pos c7, if_pos c8, List.nil_append, r2]
      rw [if_pos (by simpa using c8)]
    · simp only [impl_OrderAt.l1, if_pos h, e1.out, orders_eq, orders_val (k := k) n (by omega) (by omega), Option.bind_some, if_neg hz, e2.out, if_pos c1, if_pos c2, if_pos c3, Int.toNat_natCast, r3]
theorem order_l0 (many : Nat) (hm : many ≤ 9) (at_ : Int) (h0 : 0 ≤ at_) (h1 : at_ < (fct many : Int)) (d : Nat) : ∀ (k i : Nat) (xs : List Int), i + d = many → xs.length = i → d + 30 < k →
    ∃ r : List Int × Bool, r.1.length ≤ 9 ∧ spec_OrderAt.l0 k many at_ xs (i : Int) = some r ∧ impl_OrderAt.l0 k at_ xs [] many (i : Int) = some r := by
  induction d with
  | zero =>
    intro k i xs hd hx hk
    obtain ⟨k, rfl⟩ : ∃ m, k = m + 1 := ⟨k - 1, by omega⟩
    have h : ¬ (i : Int) < (many : Int) := by omega
    obtain ⟨r, r1, r2, r3⟩ := order_l1 many k at_ xs [] hm (by omega) (by simpa using hm) h0 h1 (by omega)
    exact ⟨r, r1, by simp only [spec_OrderAt.l0, if_neg h, r2], by simp only [impl_OrderAt.l0, if_neg h, r3]⟩
  | succ d ih =>
    intro k i xs hd hx hk
    obtain ⟨k, rfl⟩ : ∃ m, k = m + 1 := ⟨k - 1, by omega⟩
    have h : (i : Int) < (many : Int) := by omega
    have c : xs.length < 17592186044416 := by omega
    obtain ⟨r, r1, r2, r3⟩ := ih k (i + 1) (xs ++ [(i : Int)]) (by omega) (by simp; omega) (by omega)
    exact ⟨r, r1, by simp only [spec_OrderAt.l0, if_pos h, if_pos c, wr_succ i (by omega), r2], by simp only [impl_OrderAt.l0, if_pos h, if_pos c, wr_succ i (by omega), r3]⟩
theorem order_at {k : Nat} (many at_ : Int) (hk : 60 < k) : ∃ r : List Int × Bool, r.1.length ≤ 9 ∧ spec_OrderAt.f k many at_ = some r ∧ impl_OrderAt.f k many at_ = some r := by
  obtain ⟨k, rfl⟩ : ∃ m, k = m + 1 := ⟨k - 1, by omega⟩
  unfold spec_OrderAt.f impl_OrderAt.f
  simp only [within_eq, orders_eq, in_some, Option.bind_some]
  by_cases h : 0 ≤ many ∧ many ≤ 9
  · obtain ⟨m, rfl⟩ := Int.eq_ofNat_of_zero_le h.1
    have hle := fct_le m (by omega)
    have hp := fct_pos m
    have hd : (decide (0 ≤ (m : Int)) && decide ((m : Int) ≤ 9)) = true := by simpa using h
    simp only [hd, if_true, orders_val (k := k + 1) m (by omega) (by omega), Option.bind_some]
    rw [wr (x := (fct m : Int) - 1) (by omega) (by omega)]
    by_cases h' : 0 ≤ at_ ∧ at_ ≤ (fct m : Int) - 1
    · have hd' : (decide (0 ≤ at_) && decide (at_ ≤ (fct m : Int) - 1)) = true := by simpa using h'
      obtain ⟨r, r1, r2, r3⟩ := order_l0 m (by omega) at_ h'.1 (by omega) m k 0 [] (by omega) rfl (by omega)
      rw [show ((0 : Nat) : Int) = 0 from rfl] at r2 r3
      exact ⟨r, r1, by simp [hd', spec_OrderAt.j0, r2], by simp [hd', impl_OrderAt.j0, r3]⟩
    · have hd' : (decide (0 ≤ at_) && decide (at_ ≤ (fct m : Int) - 1)) = false := by simpa using h'
      exact ⟨([], false), by simp, by simp [hd', spec_OrderAt.j0], by simp [hd', impl_OrderAt.j0]⟩
  · have hd : (decide (0 ≤ many) && decide (many ≤ 9)) = false := by simpa using h
    exact ⟨([], false), by simp, by simp [hd, spec_OrderAt.j0], by simp [hd, impl_OrderAt.j0]⟩
theorem FnExactOrderAt : laws_FnExactOrderAt.Pure := by
  intro many at_ _ _
  refine rounds_of 200 fun k hk => ?_
  obtain ⟨k, rfl⟩ : ∃ j, k = j + 2 := ⟨k - 2, by omega⟩
  obtain ⟨r, hl, s1, i1⟩ := order_at (k := k + 1) many at_ (by omega)
  have s2 := at_rounds (fun k => spec_OrderAt.mono many at_ k) (by omega : k + 1 ≤ k + 2) s1
  have i2 := at_rounds (fun k => impl_OrderAt.mono many at_ k) (by omega : k + 1 ≤ k + 2) i1
  obtain ⟨zo, zo1, zo2, zo3⟩ := markIntS_held r.1 (by omega) 1 (by omega) (by omega)
  have q2 : ¬ (1 + (r.1.length : Int) < 0) := by omega
  unfold laws_FnExactOrderAt.f
  simp only [s2, i2, eqIntS_self (k := k + 2) r.1 (by omega) (by omega), Option.bind_some, bne_self_eq_false, if_true]
  simp only [laws_FnExactOrderAt.j0, zo2 (k + 1) (by omega), zo3 (k + 1) (by omega), i1, eqIntS_self (k := k + 1) r.1 (by omega) (by omega), Option.bind_some, if_true, if_neg q2, bne_self_eq_false, Bool.false_eq_true, if_false]
  simp only [laws_FnExactOrderAt.j1, zo3 k (by omega), Option.bind_some, if_true, if_neg q2, Bool.false_eq_true, if_false]

end Go.Proofs.Ytoigapileicelaa.Pure
