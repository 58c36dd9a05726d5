/- FnTaps holds for all bytes: the register found is the reference's, it makes the bits, and no drawn taps with a lesser long do (the plain half). -/
import Derived.Test.YticchbgbbnpgoaaQFnTapsx
set_option linter.unusedVariables false
set_option linter.unusedSimpArgs false
namespace Go.Proofs.Yticchbgbbnpgoaa.Pure
open Go.RowKit Go.Proofs.Yticchbgbbnpgoaa.QFnTaps Go.Proofs.YticchbgbbnpgoaaW.PrintWords Go.Proofs.YticchbgbbnpgoaaW.PrintLast Go.Proofs.YticchbgbbnpgoaaW.PrintMore

/-! base: sums of int that stay in range; `tmod` and `tdiv` of what is not negative -/
theorem wr {x : Int} (h1 : -9223372036854775808 ≤ x) (h2 : x ≤ 9223372036854775807) : wrap64 x = x := by
  unfold wrap64; omega
theorem tmod_pos {a b : Int} (h : 0 ≤ a) : Int.tmod a b = a % b := Int.tmod_eq_emod_of_nonneg h
theorem tdiv_pos {a b : Int} (h : 0 ≤ a) : Int.tdiv a b = a / b := Int.tdiv_eq_ediv_of_nonneg h
theorem rounds_of {α : Type} {g : Nat → Option α} {r : α} (N : Nat) (h : ∀ k, N < k → g k = some r) : ∃ k, g k = some r := ⟨N + 1, h _ (Nat.lt_succ_self N)⟩

/-! draws: what is drawn from bytes -/
theorem u64_range (n : Int) : 0 ≤ IntKind.u64.wrap n ∧ IntKind.u64.wrap n < 18446744073709551616 := by
  simp [IntKind.wrap, IntKind.bits, IntKind.signed]; omega
theorem wraps_u64_24 (n : Int) (h₀ : 0 ≤ n) (h₁ : n < 2 ^ 24) : IntKind.u64.wrap n = n := by
  simp [IntKind.wrap, IntKind.bits, IntKind.signed]; omega
theorem and255 (z : Int) : 0 ≤ wrap64 (Go.bits .and .u64 (IntKind.u64.wrap z / 1099511627776) 255) ∧ wrap64 (Go.bits .and .u64 (IntKind.u64.wrap z / 1099511627776) 255) ≤ 255 := by
  obtain ⟨h1, h2⟩ := u64_range z
  generalize IntKind.u64.wrap z = y at *
  have e : Go.bits .and .u64 (y / 1099511627776) 255 = (y / 1099511627776) % 256 := bits_mask .u64 24 (by decide) wraps_u64_24 8 (by decide) _ (by omega) (by omega)
  rw [e, wr (by omega) (by omega)]
  omega
def Byt (s : List Int) : Prop := ∀ x ∈ s, 0 ≤ x ∧ x ≤ 255
theorem Byt.at {s : List Int} (h : Byt s) (a : Int) : 0 ≤ rd s a ∧ rd s a ≤ 255 := by
  unfold rd
  rw [List.getD_eq_getElem?_getD]
  by_cases e : a.toNat < s.length
  · rw [List.getElem?_eq_getElem e]; exact h _ (List.getElem_mem e)
  · rw [List.getElem?_eq_none (by omega)]; simp
theorem next_ok {s : List Int} (hs : Byt s) (a z : Int) (h0 : 0 ≤ a) (h1 : a ≤ 1000000000000) : ∃ r z', spec_l1Cur_next.f s a z = some (r, a + 1, z') ∧ 0 ≤ r ∧ r ≤ 255 := by
  have hb := hs.at a
  unfold spec_l1Cur_next.f
  rw [wr (x := a + 1) (by omega) (by omega)]
  by_cases h : a < (s.length : Int)
  · rw [if_pos h, if_pos h0]
    by_cases h' : a + 1 ≤ (s.length : Int)
    · rw [if_pos h']
      exact ⟨_, _, rfl, by rw [wr (by omega) (by omega)]; omega, by rw [wr (by omega) (by omega)]; omega⟩
    · rw [if_neg h']
      exact ⟨_, _, rfl, (and255 _).1, (and255 _).2⟩
  · rw [if_neg h]
    by_cases h' : a + 1 ≤ (s.length : Int)
    · rw [if_pos h']
      exact ⟨_, _, rfl, by omega, by omega⟩
    · rw [if_neg h']
      exact ⟨_, _, rfl, (and255 _).1, (and255 _).2⟩
theorem pick_ok {s : List Int} (hs : Byt s) (a z n : Int) (h0 : 0 ≤ a) (h1 : a ≤ 100000000000) (hn : n ≤ 1000000) : ∃ r a' z', spec_l1Cur_pick.f s a z n = some (r, a', z') ∧ 0 ≤ r ∧ (1 ≤ n → r < n) ∧ r ≤ 1000000 ∧ a ≤ a' ∧ a' ≤ a + 2 := by
  unfold spec_l1Cur_pick.f
  by_cases h : n ≤ 1
  · rw [if_pos h]
    exact ⟨0, a, z, rfl, by omega, by omega, by omega, by omega, by omega⟩
  · rw [if_neg h]
    obtain ⟨r, z1, e1, r0, r1⟩ := next_ok hs a z h0 (by omega)
    rw [e1, Option.bind_some]
    have hz : ¬ n = 0 := by omega
    by_cases h' : n > 200
    · obtain ⟨q, z2, e2, q0, q1⟩ := next_ok hs (a + 1) z1 (by omega) (by omega)
      rw [if_pos h', e2, Option.bind_some, if_neg hz]
      have e : wrap64 (wrap64 (r * 256) + q) = r * 256 + q := by rw [wr (x := r * 256) (by omega) (by omega), wr (by omega) (by omega)]
      rw [e, Int.tmod_eq_emod_of_nonneg (by omega)]
      have b0 := Int.emod_nonneg (r * 256 + q) hz
      have b1 := Int.emod_lt_of_pos (r * 256 + q) (show 0 < n by omega)
      exact ⟨_, _, _, rfl, b0, fun _ => b1, by omega, (by show a ≤ a + 1 + 1; omega), (by show a + 1 + 1 ≤ a + 2; omega)⟩
    · rw [if_neg h', if_neg hz, Int.tmod_eq_emod_of_nonneg r0]
      have b0 := Int.emod_nonneg r hz
      have b1 := Int.emod_lt_of_pos r (show 0 < n by omega)
      exact ⟨_, _, _, rfl, b0, fun _ => b1, by omega, (by show a ≤ a + 1; omega), (by show a + 1 ≤ a + 2; omega)⟩
theorem byt_of {s : List Int} (hs : ∀ x ∈ s, (Lit.int .u8 x).wf = true) : Byt s := by
  intro x hx
  have := hs x hx
  simp [Lit.wf, IntKind.min, IntKind.max, IntKind.bits, IntKind.signed] at this
  omega

theorem among_ok {s : List Int} (hs : Byt s) (a z : Int) (l : List Int) (h0 : 0 ≤ a) (h1 : a ≤ 100000000000) (hl : 1 ≤ l.length) (hl' : l.length ≤ 1000) : ∃ r a' z', spec_l1Cur_among.f s a z l = some (r, a', z') ∧ r ∈ l ∧ a ≤ a' ∧ a' ≤ a + 2 := by
  unfold spec_l1Cur_among.f
  obtain ⟨r, a', z', e, r0, r1, _, r2, r3⟩ := pick_ok hs a z (l.length : Int) h0 h1 (by omega)
  have r4 := r1 (by omega)
  rw [e, Option.bind_some, if_pos r0, if_pos r4]
  refine ⟨_, _, _, rfl, ?_, r2, r3⟩
  unfold rd
  rw [List.getD_eq_getElem?_getD, List.getElem?_eq_getElem (by omega)]
  exact List.getElem_mem _

/-! lists: reading a list at a place; a copy of a list; a list is like itself -/
theorem rd_at (xs : List Int) (i : Nat) (h : i < xs.length) : rd xs (i : Int) = xs[i] := by
  simp [rd, List.getD_eq_getElem?_getD, h]
theorem wr_succ (i : Nat) (h : i < 9000000000000000000) : wrap64 ((i : Int) + 1) = ((i + 1 : Nat) : Int) := by
  rw [wr (by omega) (by omega)]; omega
theorem same_list {α : Type} {xs ys : List α} (hl : ys.length = xs.length) (h : ∀ j, j < xs.length → ys[j]? = xs[j]?) : ys = xs := by
  apply List.ext_getElem?
  intro j
  by_cases hj : j < xs.length
  · exact h j hj
  · rw [List.getElem?_eq_none (by omega), List.getElem?_eq_none (by omega)]
theorem set_upto {α : Type} {xs ys : List α} {i : Nat} (hl : ys.length = xs.length) (hi : i < xs.length) (h : ∀ j, j < i → ys[j]? = xs[j]?) :
    ∀ j, j < i + 1 → (ys.set i xs[i])[j]? = xs[j]? := by
  intro j hj
  rw [List.getElem?_set]
  by_cases e : i = j
  · subst e; rw [if_pos rfl, if_pos (by omega), List.getElem?_eq_getElem hi]
  · rw [if_neg e]; exact h j (by omega)

/-! top: the greatest tap, in both texts -/
def topTap (xs : List Int) : Int := xs.getLast?.getD 0
theorem spec_top (xs : List Int) (hn : xs.length ≤ 35184372088832) : spec_l3Top.f xs = some (topTap xs) := by
  unfold spec_l3Top.f
  rcases List.eq_nil_or_concat xs with rfl | ⟨l, x, rfl⟩
  · rfl
  · rw [List.concat_eq_append] at *
    have hl : (l ++ [x]).length = l.length + 1 := by simp
    have e : wrap64 (((l ++ [x]).length : Int) - 1) = ((l.length : Nat) : Int) := by rw [wr (by omega) (by omega)]; omega
    rw [if_neg (by omega), e, if_pos (by omega), if_pos (by omega), rd_at _ l.length (by omega)]
    simp [topTap]
theorem impl_top (xs : List Int) : impl_greatest.f xs = spec_l3Top.f xs := rfl

/-! drawstreamof: what spec.DrawStreamOf draws -/
theorem one_ok {s : List Int} (hs : Byt s) (a z n : Int) (h0 : 0 ≤ a) (h1 : a ≤ 100000000000) (hn : n ≤ 1000000) : ∃ r a' z', spec_l1Cur_one.f s a z n = some (r, a', z') ∧ a ≤ a' ∧ a' ≤ a + 2 := by
  unfold spec_l1Cur_one.f
  obtain ⟨r, a', z', e, _, _, _, u, v⟩ := pick_ok hs a z n h0 h1 hn
  rw [e, Option.bind_some]
  exact ⟨_, a', z', rfl, u, v⟩
theorem bits_loop_ok {s : List Int} (hs : Byt s) (n : Int) (hn : n ≤ 100) (d : Nat) : ∀ (k : Nat) (o : List Bool) (i a z : Int), (n - i).toNat = d → 0 ≤ i → i ≤ 200 → o.length + d ≤ 300 → d < k → 0 ≤ a → a + 2 * d ≤ 100000 → ∃ r a' z', spec_l1Cur_bits.l0 k n o i s a z = some (r, a', z') ∧ r.length = o.length + d ∧ a ≤ a' ∧ a' ≤ a + 2 * d := by
  induction d with
  | zero =>
    intro k o i a z hd hi hi' ho hk h0 h1
    obtain ⟨k, rfl⟩ : ∃ m, k = m + 1 := ⟨k - 1, by omega⟩
    simp only [spec_l1Cur_bits.l0]
    rw [if_neg (by omega)]
    exact ⟨o, a, z, rfl, by omega, by omega, by omega⟩
  | succ d ih =>
    intro k o i a z hd hi hi' ho hk h0 h1
    obtain ⟨k, rfl⟩ : ∃ m, k = m + 1 := ⟨k - 1, by omega⟩
    obtain ⟨r1, a1, z1, e1, u1, v1⟩ := one_ok hs a z 2 h0 (by omega) (by omega)
    simp only [spec_l1Cur_bits.l0]
    rw [if_pos (by omega), e1, Option.bind_some, if_pos (by omega), wr (x := i + 1) (by omega) (by omega)]
    obtain ⟨r, a', z', e, l, u, v⟩ := ih k (o ++ [r1]) (i + 1) a1 z1 (by omega) (by omega) (by omega) (by simp; omega) (by omega) (by omega) (by omega)
    refine ⟨r, a', z', e, ?_, by omega, by omega⟩
    rw [l]; simp; omega
theorem bits_ok {s : List Int} (hs : Byt s) (n : Int) (hn : n ≤ 100) {k : Nat} (hk : 200 < k) (a z : Int) (h0 : 0 ≤ a) (h1 : a ≤ 10000) : ∃ r a' z', spec_l1Cur_bits.f k s a z n = some (r, a', z') ∧ r.length ≤ 100 ∧ a ≤ a' ∧ a' ≤ a + 200 := by
  unfold spec_l1Cur_bits.f
  obtain ⟨r, a', z', e, l, u, v⟩ := bits_loop_ok hs n hn (n - 0).toNat k [] 0 a z rfl (by omega) (by omega) (by simp; omega) (by omega) h0 (by omega)
  exact ⟨r, a', z', e, by rw [l]; simp; omega, u, by omega⟩
theorem put_ok (l : List Int) (x : Int) (hn : l.length ≤ 1000) (d : Nat) : ∀ (k : Nat) (i : Nat), i + d = l.length → d < k → ∃ r, spec_l1Put.l0 k l x (i : Int) = some r ∧ (∀ v ∈ r, v ∈ l ∨ v = x) ∧ r.length ≤ l.length + 1 := by
  have fin : ∀ i : Nat, (∀ v ∈ [] ++ l.take i ++ [x] ++ l.drop i, v ∈ l ∨ v = x) ∧ ([] ++ l.take i ++ [x] ++ l.drop i).length ≤ l.length + 1 := fun i => by
    constructor
    · intro v hv
      simp only [List.nil_append, List.mem_append, List.mem_singleton] at hv
      rcases hv with (h | h) | h
      · exact .inl (List.mem_of_mem_take h)
      · exact .inr h
      · exact .inl (List.mem_of_mem_drop h)
    · simp; omega
  induction d with
  | zero =>
    intro k i hd hk
    obtain ⟨k, rfl⟩ : ∃ m, k = m + 1 := ⟨k - 1, by omega⟩
    have g1 : ¬ (i : Int) < (l.length : Int) := by omega
    have g2 : (0 : Int) ≤ (i : Int) := by omega
    have g3 : (i : Int) ≤ (l.length : Int) := by omega
    have c1 : ([] : List Int).length + (l.take i).length < 17592186044416 := by simp; omega
    have c2 : (([] : List Int) ++ l.take i).length < 17592186044416 := by simp; omega
    have c3 : (([] : List Int) ++ l.take i ++ [x]).length + (l.drop i).length < 17592186044416 := by simp; omega
    simp only [spec_l1Put.l0]
    rw [if_neg g1, Option.bind_some, if_pos g2, if_pos g3, Int.toNat_natCast, Option.bind_some, if_pos c1, Option.bind_some, if_pos c2, Option.bind_some, Option.bind_some, if_pos c3]
    exact ⟨_, rfl, (fin i).1, (fin i).2⟩
  | succ d ih =>
    intro k i hd hk
    obtain ⟨k, rfl⟩ : ∃ m, k = m + 1 := ⟨k - 1, by omega⟩
    have g1 : (i : Int) < (l.length : Int) := by omega
    have g2 : (0 : Int) ≤ (i : Int) := by omega
    have g3 : (i : Int) ≤ (l.length : Int) := by omega
    have c1 : ([] : List Int).length + (l.take i).length < 17592186044416 := by simp; omega
    have c2 : (([] : List Int) ++ l.take i).length < 17592186044416 := by simp; omega
    have c3 : (([] : List Int) ++ l.take i ++ [x]).length + (l.drop i).length < 17592186044416 := by simp; omega
    simp only [spec_l1Put.l0]
    rw [if_pos g1, if_pos g2]
    by_cases e1 : rd l (i : Int) < x
    · rw [if_pos e1, wr_succ i (by omega)]
      exact ih k (i + 1) (by omega) (by omega)
    · rw [if_neg e1]
      by_cases e2 : rd l (i : Int) = x
      · rw [if_pos e2]
        exact ⟨l, rfl, fun v hv => .inl hv, by omega⟩
      · rw [if_neg e2, Option.bind_some, if_pos g3, Int.toNat_natCast, Option.bind_some, if_pos c1, Option.bind_some, if_pos c2, Option.bind_some, Option.bind_some, if_pos c3]
        exact ⟨_, rfl, (fin i).1, (fin i).2⟩
def Tp (l : List Int) : Prop := ∀ v ∈ l, 0 ≤ v ∧ v ≤ 13
theorem put_tp {k : Nat} (l : List Int) (x : Int) (hl : Tp l) (hx : 0 ≤ x ∧ x ≤ 13) (hn : l.length ≤ 100) (hk : 200 < k) : ∃ r, spec_l1Put.f k l x = some r ∧ Tp r ∧ r.length ≤ l.length + 1 := by
  unfold spec_l1Put.f
  obtain ⟨r, e, m, n⟩ := put_ok l x (by omega) l.length k 0 (by omega) (by omega)
  rw [show ((0 : Nat) : Int) = 0 from rfl] at e
  refine ⟨r, e, fun v hv => ?_, n⟩
  rcases m v hv with h | h
  · exact hl v h
  · rw [h]; exact hx
theorem taps_loop_ok {s : List Int} (hs : Byt s) (n : Nat) : ∀ (k : Nat) (l : List Int) (a z : Int), n + 300 < k → Tp l → l.length + n ≤ 10 → 0 ≤ a → a + 2 * n ≤ 1000 → ∃ r a' z', spec_l1Cur_taps.l0 k l (n : Int) s a z = some (r, a', z') ∧ Tp r ∧ r.length ≤ 20 ∧ 0 ≤ a' ∧ a' ≤ 1100 := by
  induction n with
  | zero =>
    intro k l a z hk hl hn h0 h1
    obtain ⟨k, rfl⟩ : ∃ m, k = m + 1 := ⟨k - 1, by omega⟩
    have h : ¬ ((0 : Nat) : Int) > 0 := by omega
    obtain ⟨r1, a1, z1, e1, u1, v1⟩ := one_ok hs a z 12 h0 (by omega) (by omega)
    simp only [spec_l1Cur_taps.l0]
    rw [if_neg h, e1, Option.bind_some]
    cases r1 with
    | false => rw [if_neg Bool.false_ne_true]; exact ⟨l, a1, z1, rfl, hl, by omega, by omega, by omega⟩
    | true =>
      obtain ⟨r2, a2, z2, e2, m2, u2, v2⟩ := among_ok hs a1 z1 ([12, 13, 0] : List Int) (by omega) (by omega) (by simp) (by simp)
      have hr : 0 ≤ r2 ∧ r2 ≤ 13 := by simp at m2; omega
      obtain ⟨r, e, t, n⟩ := put_tp (k := k) l r2 hl hr (by omega) (by omega)
      rw [if_pos rfl, e2, Option.bind_some, e, Option.bind_some]
      exact ⟨r, a2, z2, rfl, t, by omega, by omega, by omega⟩
  | succ n ih =>
    intro k l a z hk hl hn h0 h1
    obtain ⟨k, rfl⟩ : ∃ m, k = m + 1 := ⟨k - 1, by omega⟩
    have h : ((n + 1 : Nat) : Int) > 0 := by omega
    obtain ⟨r1, a1, z1, e1, p0, p1, _, u1, v1⟩ := pick_ok hs a z 7 h0 (by omega) (by omega)
    have p2 := p1 (by omega)
    have hw : wrap64 (1 + r1) = 1 + r1 := wr (by omega) (by omega)
    obtain ⟨r, e, t, n'⟩ := put_tp (k := k) l (1 + r1) hl (by omega) (by omega) (by omega)
    simp only [spec_l1Cur_taps.l0]
    rw [if_pos h, e1, Option.bind_some, hw, e, Option.bind_some, wr (x := ((n + 1 : Nat) : Int) - 1) (by omega) (by omega), show ((n + 1 : Nat) : Int) - 1 = (n : Int) by omega]
    exact ih k r a1 z1 (by omega) t (by omega) (by omega) (by omega)
theorem taps_ok {s : List Int} (hs : Byt s) {k : Nat} (hk : 1000 < k) : ∃ r a' z', spec_l1Cur_taps.f k s 0 0 = some (r, a', z') ∧ Tp r ∧ r.length ≤ 20 ∧ 0 ≤ a' ∧ a' ≤ 1100 := by
  unfold spec_l1Cur_taps.f
  obtain ⟨r1, a1, z1, e1, p0, p1, _, u1, v1⟩ := pick_ok hs 0 0 4 (by omega) (by omega) (by omega)
  have p2 := p1 (by omega)
  obtain ⟨n, rfl⟩ := Int.eq_ofNat_of_zero_le p0
  rw [e1, Option.bind_some]
  exact taps_loop_ok hs n k [] a1 z1 (by omega) (fun v hv => by cases hv) (by simp; omega) (by omega) (by omega)
theorem top_tp {l : List Int} (h : Tp l) : 0 ≤ topTap l ∧ topTap l ≤ 13 := by
  unfold topTap
  rcases List.eq_nil_or_concat l with rfl | ⟨l', x, rfl⟩
  · simp
  · have := h x (by simp)
    simpa using this
theorem drawstream_ok {s : List Int} (hs : Byt s) {k : Nat} (hk : 1000 < k) : ∃ (t : List Int) (f : List Bool) (n : Int), spec_DrawStreamOf.f k s = some (t, f, n) ∧ t.length ≤ 20 ∧ f.length ≤ 100 := by
  unfold spec_DrawStreamOf.f
  obtain ⟨t, a1, z1, e1, ht, l1, u1, v1⟩ := taps_ok hs hk
  have hT := top_tp ht
  obtain ⟨r2, a2, z2, e2, p0, p1, _, u2, v2⟩ := pick_ok hs a1 z1 9 u1 (by omega) (by omega)
  have p2 := p1 (by omega)
  have hw : wrap64 (topTap t + wrap64 (Int.tdiv r2 8)) = topTap t + r2 / 8 := by
    rw [Int.tdiv_eq_ediv_of_nonneg p0, wr (x := r2 / 8) (by omega) (by omega), wr (by omega) (by omega)]
  obtain ⟨f, a3, z3, e3, l3, u3, v3⟩ := bits_ok hs (topTap t + r2 / 8) (by omega) (k := k) (by omega) a2 z2 (by omega) (by omega)
  obtain ⟨n, a4, z4, e4, _, _, _⟩ := among_ok hs a3 z3 ([(-1), 0, 5, 20, 40, 41] : List Int) (by omega) (by omega) (by simp) (by simp)
  rw [e1, Option.bind_some, spec_top t (by omega), Option.bind_some, e2, Option.bind_some, hw, e3, Option.bind_some, e4, Option.bind_some]
  exact ⟨t, f, n, rfl, l1, l3⟩

/-! ins: between two numbers, in the reference -/
theorem in_some (a b c : Int) : spec_l1In.f a b c = some (decide (b ≤ a) && decide (a ≤ c)) := by
  unfold spec_l1In.f
  by_cases h : a ≥ b
  · rw [if_pos h]; have : b ≤ a := h; simp [this]
  · rw [if_neg h]; have : ¬ b ≤ a := h; simp [this]

/-! in: between two numbers -/
theorem within_eq (a b c : Int) : impl_within.f a b c = spec_l1In.f a b c := rfl

/-! inall: all numbers of a list between two numbers -/
def inAll (lo hi : Int) (xs : List Int) : Bool := xs.all fun x => decide (lo ≤ x) && decide (x ≤ hi)
theorem inAll_mem {lo hi : Int} {xs : List Int} (h : inAll lo hi xs = true) : ∀ x ∈ xs, lo ≤ x ∧ x ≤ hi := by
  intro x hx
  have := List.all_eq_true.1 h x hx
  simpa using this

/-! iall: all numbers of a list between two numbers, in the program -/
theorem iall_loop (lo up : Int) (xs : List Int) (hn : xs.length ≤ 35184372088832) (d : Nat) : ∀ (k : Nat) (i : Nat), i + d = xs.length → d < k →
    impl_allWithin.l0 k lo up xs (xs.length : Int) (i : Int) = some (inAll lo up (xs.drop i)) := by
  induction d with
  | zero =>
    intro k i hd hk
    obtain ⟨k, rfl⟩ : ∃ m, k = m + 1 := ⟨k - 1, by omega⟩
    simp only [impl_allWithin.l0]
    rw [if_neg (by omega), List.drop_of_length_le (by omega)]; rfl
  | succ d ih =>
    intro k i hd hk
    obtain ⟨k, rfl⟩ : ∃ m, k = m + 1 := ⟨k - 1, by omega⟩
    have hi : i < xs.length := by omega
    have h1 : (i : Int) < (xs.length : Int) := by omega
    have h2 : (0 : Int) ≤ (i : Int) := by omega
    simp only [impl_allWithin.l0]
    rw [if_pos h1, if_pos h2, if_pos h1, rd_at xs i hi, within_eq, in_some, wr_succ i (by omega), ih k (i + 1) (by omega) (by omega), List.drop_eq_getElem_cons hi]
    simp only [Option.bind_some, inAll, List.all_cons]
    generalize (decide (lo ≤ xs[i]) && decide (xs[i] ≤ up)) = b
    cases b <;> simp
theorem impl_all {k : Nat} (lo hi : Int) (xs : List Int) (hn : xs.length ≤ 35184372088832) (hk : xs.length < k) : impl_allWithin.f k xs lo hi = some (inAll lo hi xs) := by
  unfold impl_allWithin.f
  have := iall_loop lo hi xs hn xs.length k 0 (by omega) hk
  simpa using this

/-! taps: good taps, in both texts -/
def rise : List Int → Bool
  | x :: y :: l => decide (x < y) && rise (y :: l)
  | _ => true
def goodTaps (xs : List Int) : Bool := rise xs && inAll 1 12 xs
theorem rise_short {l : List Int} (h : l.length ≤ 1) : rise l = true := by
  match l, h with
  | [], _ => rfl
  | [_], _ => rfl
theorem drop2 (xs : List Int) (i : Nat) (h : i + 1 < xs.length) : xs.drop i = xs[i]'(by omega) :: xs[i + 1] :: xs.drop (i + 2) := by
  rw [List.drop_eq_getElem_cons (by omega), List.drop_eq_getElem_cons h]
theorem rising_loop (lo up : Int) (xs : List Int) (hn : xs.length ≤ 35184372088832) (d : Nat) : ∀ (k : Nat) (i : Nat), i + 1 + d = xs.length → d + 1 + xs.length < k →
    impl_isRising.l0 k xs lo up ((i + 1 : Nat) : Int) = some (rise (xs.drop i) && inAll lo up xs) := by
  induction d with
  | zero =>
    intro k i hd hk
    obtain ⟨k, rfl⟩ : ∃ m, k = m + 1 := ⟨k - 1, by omega⟩
    simp only [impl_isRising.l0]
    have hx : rise (xs.drop i) = true := rise_short (by simp; omega)
    rw [if_neg (by omega), impl_all lo up xs hn (by omega), hx]
    simp
  | succ d ih =>
    intro k i hd hk
    obtain ⟨k, rfl⟩ : ∃ m, k = m + 1 := ⟨k - 1, by omega⟩
    have hi : i + 1 < xs.length := by omega
    have h1 : ((i + 1 : Nat) : Int) < (xs.length : Int) := by omega
    have e : wrap64 (((i + 1 : Nat) : Int) - 1) = (i : Int) := by rw [wr (by omega) (by omega)]; omega
    have h2 : (0 : Int) ≤ (i : Int) := by omega
    have h3 : (i : Int) < (xs.length : Int) := by omega
    have h4 : (0 : Int) ≤ ((i + 1 : Nat) : Int) := by omega
    simp only [impl_isRising.l0]
    rw [if_pos h1, e, if_pos h2, if_pos h3, if_pos h4, rd_at xs i (by omega), rd_at xs (i + 1) hi, wr_succ (i + 1) (by omega), drop2 xs i hi]
    simp only [rise]
    by_cases h : xs[i] ≥ xs[i + 1]
    · have hx : ¬ xs[i] < xs[i + 1] := by omega
      rw [if_pos h]; simp [hx]
    · have hx : xs[i] < xs[i + 1] := by omega
      rw [if_neg h, ih k (i + 1) (by omega) (by omega), List.drop_eq_getElem_cons hi]
      simp [hx]
theorem impl_rising {k : Nat} (lo up : Int) (xs : List Int) (hn : xs.length ≤ 35184372088832) (hk : 2 * xs.length + 1 < k) : impl_isRising.f k xs lo up = some (rise xs && inAll lo up xs) := by
  unfold impl_isRising.f
  by_cases h : xs = []
  · subst h
    obtain ⟨k, rfl⟩ : ∃ m, k = m + 1 := ⟨k - 1, by omega⟩
    simp only [impl_isRising.l0]
    rw [if_neg (by simp), impl_all lo up [] hn (by simp at hk ⊢; omega)]
    rfl
  · have : 0 < xs.length := List.length_pos_iff.2 h
    have := rising_loop lo up xs hn (xs.length - 1) k 0 (by omega) (by omega)
    simpa using this
theorem spec_rising_loop (lo up : Int) (xs : List Int) (hn : xs.length ≤ 35184372088832) (d : Nat) : ∀ (k : Nat) (i : Nat), i + 1 + d = xs.length → d < k →
    spec_l1Rising.l0 k xs lo up xs (xs.length : Int) ((i + 1 : Nat) : Int) = some (rise (xs.drop i) && inAll lo up (xs.drop (i + 1))) := by
  induction d with
  | zero =>
    intro k i hd hk
    obtain ⟨k, rfl⟩ : ∃ m, k = m + 1 := ⟨k - 1, by omega⟩
    simp only [spec_l1Rising.l0]
    have hx : rise (xs.drop i) = true := rise_short (by simp; omega)
    rw [if_neg (by omega), hx, List.drop_of_length_le (by omega)]
    rfl
  | succ d ih =>
    intro k i hd hk
    obtain ⟨k, rfl⟩ : ∃ m, k = m + 1 := ⟨k - 1, by omega⟩
    have hi : i + 1 < xs.length := by omega
    have h1 : ((i + 1 : Nat) : Int) < (xs.length : Int) := by omega
    have e : wrap64 (((i + 1 : Nat) : Int) - 1) = (i : Int) := by rw [wr (by omega) (by omega)]; omega
    have h2 : (0 : Int) ≤ (i : Int) := by omega
    have h3 : (i : Int) < (xs.length : Int) := by omega
    have h4 : (0 : Int) ≤ ((i + 1 : Nat) : Int) := by omega
    have h5 : ((i + 1 : Nat) : Int) > 0 := by omega
    simp only [spec_l1Rising.l0]
    rw [if_pos h1, if_pos h4, if_pos h1, if_pos h5, e, if_pos h2, if_pos h3, rd_at xs i (by omega), rd_at xs (i + 1) hi, wr_succ (i + 1) (by omega), in_some, ih k (i + 1) (by omega) (by omega), drop2 xs i hi, List.drop_eq_getElem_cons hi]
    simp only [rise, Option.bind_some, inAll, List.all_cons]
    generalize (decide (lo ≤ xs[i + 1]) && decide (xs[i + 1] ≤ up)) = b
    by_cases h : xs[i] ≥ xs[i + 1]
    · have hx : ¬ xs[i] < xs[i + 1] := by omega
      rw [if_pos h]; cases b <;> simp [hx]
    · have hx : xs[i] < xs[i + 1] := by omega
      rw [if_neg h]; cases b <;> simp [hx]
theorem spec_rising {k : Nat} (lo up : Int) (xs : List Int) (hn : xs.length ≤ 35184372088832) (hk : xs.length < k) : spec_l1Rising.f k xs lo up = some (rise xs && inAll lo up xs) := by
  unfold spec_l1Rising.f
  obtain ⟨k, rfl⟩ : ∃ m, k = m + 1 := ⟨k - 1, by omega⟩
  simp only [spec_l1Rising.l0]
  cases xs with
  | nil => simp [rise, inAll]
  | cons x l =>
    have h1 : (0 : Int) < ((x :: l).length : Int) := by simp
    have h0 : ¬ (0 : Int) > 0 := by omega
    have := spec_rising_loop lo up (x :: l) hn l.length k 0 (by simp; omega) (by simp at hk; omega)
    rw [show ((0 + 1 : Nat) : Int) = 1 from rfl] at this
    rw [if_pos h1, if_pos (by omega), if_pos h1, if_neg h0, show wrap64 (0 + 1) = 1 from wr (by omega) (by omega), this, show rd (x :: l) 0 = x from rfl, in_some]
    simp only [Option.bind_some, inAll, List.all_cons, List.drop_zero, List.drop_succ_cons]
    generalize (decide (lo ≤ x) && decide (x ≤ up)) = b
    cases b <;> simp
theorem spec_goodTaps {k : Nat} (xs : List Int) (hn : xs.length ≤ 35184372088832) (hk : xs.length < k) : spec_GoodTaps.f k xs = some (goodTaps xs) := by
  simp [spec_GoodTaps.f, spec_rising 1 12 xs hn hk, goodTaps]
theorem impl_goodTaps {k : Nat} (xs : List Int) (hn : xs.length ≤ 35184372088832) (hk : 2 * xs.length + 1 < k) : impl_GoodTaps.f k xs = some (goodTaps xs) := by
  simp [impl_GoodTaps.f, impl_rising 1 12 xs hn hk, goodTaps]

/-! rdb: a bool at a place -/
theorem rdb_at (xs : List Bool) (i : Nat) (h : i < xs.length) : rdOf false xs (i : Int) = xs[i] := by
  simp [rdOf, List.getD_eq_getElem?_getD, h]

/-! bitval: a bit at a place, none ahead of the first -/
def sAt (bits : List Bool) (i : Int) : Bool := if 0 ≤ i then bits.getD i.toNat false else false
theorem sAt_neg {bits : List Bool} {i : Int} (h : i < 0) : sAt bits i = false := by unfold sAt; rw [if_neg (by omega)]
theorem sAt_rd {bits : List Bool} {i : Int} (h : 0 ≤ i) : rdOf false bits i = sAt bits i := by unfold sAt rdOf; rw [if_pos h]
theorem sAt_nat (bits : List Bool) (i : Nat) (h : i < bits.length) : sAt bits (i : Int) = bits[i] := by
  simp [sAt, List.getD_eq_getElem?_getD, h]

/-! xdef: unlike sums over taps -/
def X : List Int → (Int → Bool) → Bool
  | [], _ => false
  | t :: l, f => (f t ^^ X l f)
theorem X_congr {l : List Int} {f g : Int → Bool} (h : ∀ t ∈ l, f t = g t) : X l f = X l g := by
  induction l with
  | nil => rfl
  | cons t l ih => simp only [X]; rw [h t (by simp), ih (fun t ht => h t (by simp [ht]))]
theorem X_none {l : List Int} {f : Int → Bool} (h : ∀ t ∈ l, f t = false) : X l f = false := by
  induction l with
  | nil => rfl
  | cons t l ih => simp only [X]; rw [h t (by simp), ih (fun t ht => h t (by simp [ht]))]; rfl
theorem X_xor (l : List Int) (f g : Int → Bool) : X l (fun t => f t ^^ g t) = (X l f ^^ X l g) := by
  induction l with
  | nil => rfl
  | cons t l ih => simp only [X]; rw [ih]; cases f t <;> cases g t <;> cases X l f <;> cases X l g <;> rfl
theorem X_swap (A B : List Int) (f : Int → Int → Bool) : X A (fun a => X B (fun b => f a b)) = X B (fun b => X A (fun a => f a b)) := by
  induction A with
  | nil => simp only [X]; exact (X_none (fun _ _ => rfl)).symm
  | cons a A ih => simp only [X]; rw [ih, X_xor]
theorem X_map (l : List Int) (g : Int → Int) (f : Int → Bool) : X (l.map g) f = X l (fun t => f (g t)) := by
  induction l with
  | nil => rfl
  | cons t l ih => simp only [X, List.map_cons]; rw [ih]
/-- The unlikeness at a place: the bit there and the bits at the taps. -/
def Dis (s : Int → Bool) (T : List Int) (i : Int) : Bool := X (0 :: T) (fun t => s (i - t))
theorem Dis_eq (s : Int → Bool) (T : List Int) (i : Int) : Dis s T i = (s i ^^ X T (fun t => s (i - t))) := by
  simp [Dis, X]

/-! next: the next bit by taps, in the reference -/
theorem X_append (a b : List Int) (f : Int → Bool) : X (a ++ b) f = (X a f ^^ X b f) := by
  induction a with
  | nil => simp [X]
  | cons t a ih => simp only [List.cons_append, X]; rw [ih]; cases f t <;> cases X a f <;> cases X b f <;> rfl
theorem next_loop (bits : List Bool) (taps : List Int) (at_ : Int) (h0 : 0 ≤ at_) (h1 : at_ ≤ bits.length) (hb : bits.length ≤ 1000000000000) (ht : ∀ t ∈ taps, 1 ≤ t ∧ t ≤ 1000000000000) (hn : taps.length ≤ 35184372088832) (d : Nat) :
    ∀ (k : Nat) (o : Bool) (i : Nat), i + d = taps.length → d < k → spec_l3Next.l0 k bits at_ o taps (taps.length : Int) (i : Int) = some (o ^^ X (taps.drop i) (fun t => sAt bits (at_ - t))) := by
  induction d with
  | zero =>
    intro k o i hd hk
    obtain ⟨k, rfl⟩ : ∃ m, k = m + 1 := ⟨k - 1, by omega⟩
    simp only [spec_l3Next.l0]
    rw [if_neg (by omega), List.drop_of_length_le (by omega)]
    simp [X]
  | succ d ih =>
    intro k o i hd hk
    obtain ⟨k, rfl⟩ : ∃ m, k = m + 1 := ⟨k - 1, by omega⟩
    have hi : i < taps.length := by omega
    have g1 : (i : Int) < (taps.length : Int) := by omega
    have g2 : (0 : Int) ≤ (i : Int) := by omega
    have hx := ht taps[i] (List.getElem_mem hi)
    simp only [spec_l3Next.l0]
    rw [if_pos g1, if_pos g2, if_pos g1, rd_at taps i hi, List.drop_eq_getElem_cons hi]
    by_cases h : at_ ≥ taps[i]
    · have g3 : (0 : Int) ≤ at_ - taps[i] := by omega
      have g4 : at_ - taps[i] < (bits.length : Int) := by omega
      rw [if_pos h, wr (x := at_ - taps[i]) (by omega) (by omega), if_pos g3, if_pos g4, sAt_rd g3, wr_succ i (by omega)]
      simp only [X]
      cases hv : sAt bits (at_ - taps[i])
      · rw [if_neg (by simp), ih k o (i + 1) (by omega) (by omega)]; simp
      · rw [if_pos rfl, ih k (!o) (i + 1) (by omega) (by omega)]; simp
    · have g3 : at_ - taps[i] < 0 := by omega
      rw [if_neg h, wr_succ i (by omega), ih k o (i + 1) (by omega) (by omega)]
      simp only [X]
      rw [sAt_neg g3]; simp
theorem spec_next {k : Nat} (bits : List Bool) (taps : List Int) (at_ : Int) (h0 : 0 ≤ at_) (h1 : at_ ≤ bits.length) (hb : bits.length ≤ 1000000000000) (ht : ∀ t ∈ taps, 1 ≤ t ∧ t ≤ 1000000000000) (hn : taps.length ≤ 35184372088832) (hk : taps.length < k) :
    spec_l3Next.f k bits taps at_ = some (X taps (fun t => sAt bits (at_ - t))) := by
  unfold spec_l3Next.f
  have := next_loop bits taps at_ h0 h1 hb ht hn taps.length k false 0 (by omega) hk
  simpa using this

/-! tapped: the next bit by taps, in the program -/
theorem tapped_key (o b : Bool) (F : Bool → Option Bool) : F (o != b) = if b = true then F (!o) else F o := by cases o <;> cases b <;> rfl
theorem tapped_l0_eq (k : Nat) : ∀ bits at_ o xs n i, impl_tapped.l0 k bits at_ o xs n i = spec_l3Next.l0 k bits at_ o xs n i := by
  induction k with
  | zero => intros; rfl
  | succ k ih =>
    intro bits at_ o xs n i
    have key := tapped_key o (rdOf false bits (wrap64 (at_ - rd xs i))) (fun z => spec_l3Next.l0 k bits at_ z xs n (wrap64 (i + 1)))
    simp only [impl_tapped.l0, spec_l3Next.l0, ih, ge_iff_le, key]
theorem tapped_eq (k : Nat) (taps : List Int) (bits : List Bool) (at_ : Int) : impl_tapped.f k taps bits at_ = spec_l3Next.f k bits taps at_ := by
  simp only [impl_tapped.f, spec_l3Next.f, tapped_l0_eq]

/-! gens: whether taps make the bits from a place on -/
def genB (s : Int → Bool) (T : List Int) : Nat → Int → Bool
  | 0, _ => true
  | d + 1, i => !Dis s T i && genB s T d (i + 1)
theorem genB_iff (s : Int → Bool) (T : List Int) (d : Nat) : ∀ i, genB s T d i = true ↔ ∀ j, i ≤ j → j < i + d → Dis s T j = false := by
  induction d with
  | zero => intro i; simp only [genB, true_iff]; intro j h1 h2; omega
  | succ d ih =>
    intro i
    simp only [genB, Bool.and_eq_true, Bool.not_eq_true', ih]
    constructor
    · rintro ⟨h1, h2⟩ j h3 h4
      by_cases e : j = i
      · rw [e]; exact h1
      · exact h2 j (by omega) (by omega)
    · intro h
      exact ⟨h i (by omega) (by omega), fun j h1 h2 => h j (by omega) (by omega)⟩

/-! tapsin: what good taps are between -/
theorem goodTaps_mem {taps : List Int} (h : goodTaps taps = true) : ∀ t ∈ taps, 1 ≤ t ∧ t ≤ 12 := by
  simp [goodTaps] at h; exact inAll_mem h.2
theorem topTap_nonneg {taps : List Int} (h : goodTaps taps = true) : 0 ≤ topTap taps := by
  unfold topTap
  rcases List.eq_nil_or_concat taps with rfl | ⟨l, x, rfl⟩
  · simp
  · have := goodTaps_mem h x (by simp)
    simp; omega

/-! strv: the stream that taps make -/
def strV (taps : List Int) : Nat → List Bool → List Bool
  | 0, o => o
  | d + 1, o => strV taps d (o ++ [X taps (fun t => sAt o ((o.length : Int) - t))])
theorem strV_len (taps : List Int) (d : Nat) : ∀ o : List Bool, (strV taps d o).length = o.length + d := by
  induction d with
  | zero => intro o; rfl
  | succ d ih => intro o; simp only [strV]; rw [ih]; simp; omega
theorem topTap_le {taps : List Int} (h : goodTaps taps = true) : topTap taps ≤ 12 := by
  unfold topTap
  rcases List.eq_nil_or_concat taps with rfl | ⟨l, x, rfl⟩
  · simp
  · have := goodTaps_mem h x (by simp)
    simp; omega

/-! streamspec: StreamOf, in the reference alone -/
theorem sstream_loop (taps : List Int) (hm : ∀ t ∈ taps, 1 ≤ t ∧ t ≤ 12) (hn : taps.length ≤ 35184372088832) (n : Int) (h0 : 0 ≤ n) (d : Nat) : ∀ (k : Nat) (o : List Bool), (n - (o.length : Int)).toNat = d → o.length + d ≤ 1000 → d + taps.length + 1 < k →
    spec_StreamOf.l0 k taps n o = some ((strV taps d o).take n.toNat, true) := by
  induction d with
  | zero =>
    intro k o hd ho hk
    obtain ⟨k, rfl⟩ : ∃ m, k = m + 1 := ⟨k - 1, by omega⟩
    have h : ¬ (o.length : Int) < n := by omega
    have h2 : n ≤ (o.length : Int) := by omega
    have h3 : ([] : List Bool).length + (o.take n.toNat).length < 140737488355328 := by simp; omega
    simp only [spec_StreamOf.l0, strV]
    rw [if_neg h, Option.bind_some, if_pos h0, if_pos h2, Option.bind_some, if_pos h3]
    rfl
  | succ d ih =>
    intro k o hd ho hk
    obtain ⟨k, rfl⟩ : ∃ m, k = m + 1 := ⟨k - 1, by omega⟩
    have h : (o.length : Int) < n := by omega
    have h3 : o.length < 140737488355328 := by omega
    have hv := spec_next (k := k) o taps (o.length : Int) (by omega) (by omega) (by omega) (fun t ht => by have := hm t ht; omega) hn (by omega)
    have r1 := ih k (o ++ [X taps (fun t => sAt o ((o.length : Int) - t))]) (by simp; omega) (by simp; omega) (by omega)
    simp only [spec_StreamOf.l0, strV]
    rw [if_pos h, hv, Option.bind_some, if_pos h3]
    exact r1
theorem sstream_of {k : Nat} (taps : List Int) (bits : List Bool) (n : Int) (hn : taps.length ≤ 35184372088832) (hk : 2 * taps.length + 100 < k) :
    ∃ o ok, spec_StreamOf.f k taps bits n = some (o, ok) ∧ o.length ≤ 40 := by
  obtain ⟨k, rfl⟩ : ∃ m, k = m + 1 := ⟨k - 1, by omega⟩
  unfold spec_StreamOf.f
  rw [spec_goodTaps taps hn (by omega), spec_top taps hn, in_some]
  simp only [Option.bind_some]
  by_cases hg : goodTaps taps = true
  · by_cases hl : (bits.length : Int) = topTap taps
    · by_cases hb : 0 ≤ n ∧ n ≤ 40
      · have ht := topTap_le hg
        have hc : ([] : List Bool).length + bits.length < 140737488355328 := by simp; omega
        have hd : (decide (0 ≤ n) && decide (n ≤ 40)) = true := by simp; omega
        have r1 := sstream_loop taps (goodTaps_mem hg) hn n hb.1 (n - (bits.length : Int)).toNat k bits rfl (by omega) (by omega)
        rw [if_pos hg, if_pos hl, hd]
        simp only [spec_StreamOf.j0, Bool.not_true, Bool.false_eq_true, if_false]
        rw [Option.bind_some, if_pos hc, List.nil_append, r1]
        exact ⟨_, _, rfl, by simp; omega⟩
      · have hd : (decide (0 ≤ n) && decide (n ≤ 40)) = false := by simpa using hb
        rw [if_pos hg, if_pos hl, hd]
        simp [spec_StreamOf.j0]
    · rw [if_pos hg, if_neg hl]
      simp [spec_StreamOf.j0]
  · rw [if_neg hg]
    simp [spec_StreamOf.j0]

/-! drawtaps: what FnTaps draws -/
theorem drawshort_ok {s : List Int} (hs : Byt s) {k : Nat} (hk : 1000 < k) : ∃ bits : List Bool, spec_DrawShortestTaps.f k s = some bits := by
  obtain ⟨k, rfl⟩ : ∃ m, k = m + 1 := ⟨k - 1, by omega⟩
  unfold spec_DrawShortestTaps.f
  obtain ⟨t, f, n, e1, l1, l2⟩ := drawstream_ok hs hk
  obtain ⟨r2, a2, z2, e2, p0, p1, _, u2, v2⟩ := pick_ok hs 0 0 36 (by omega) (by omega) (by omega)
  have hj : ∀ (o : List Bool) (b : Bool) (a z : Int), 0 ≤ a → a ≤ 100 → ∃ r, spec_DrawShortestTaps.j0 (k + 1) o b s a z = some r := by
    intro o b a z ha ha'
    simp only [spec_DrawShortestTaps.j0]
    cases b with
    | true => rw [if_pos rfl]; exact ⟨_, rfl⟩
    | false =>
      obtain ⟨r3, a3, z3, e3, q0, q1, _, u3, v3⟩ := pick_ok hs a z 24 ha (by omega) (by omega)
      have q2 := q1 (by omega)
      obtain ⟨r4, a4, z4, e4, u4, v4⟩ := one_ok hs a3 z3 20 (by omega) (by omega) (by omega)
      rw [if_neg Bool.false_ne_true, e3, Option.bind_some, e4, Option.bind_some]
      cases r4 with
      | true =>
        obtain ⟨r5, a5, z5, e5, s0, s1, _, u5, v5⟩ := pick_ok hs a4 z4 2 (by omega) (by omega) (by omega)
        have s2 := s1 (by omega)
        obtain ⟨g, a6, z6, e6, l6, u6, v6⟩ := bits_ok hs (wrap64 (40 + r5)) (by rw [wr (by omega) (by omega)]; omega) (k := k) (by omega) a5 z5 (by omega) (by omega)
        rw [if_pos rfl, e5, Option.bind_some, e6, Option.bind_some]
        exact ⟨_, rfl⟩
      | false =>
        obtain ⟨g, a6, z6, e6, l6, u6, v6⟩ := bits_ok hs r3 (by omega) (k := k) (by omega) a4 z4 (by omega) (by omega)
        rw [if_neg Bool.false_ne_true, e6, Option.bind_some]
        exact ⟨_, rfl⟩
  obtain ⟨o, ok, e5, hl⟩ := sstream_of (k := k + 1) t f r2 (by omega) (by omega)
  rw [e1, Option.bind_some, e2, Option.bind_some, e5, Option.bind_some]
  by_cases c : ok = true
  · obtain ⟨r3, a3, z3, e3, u3, v3⟩ := one_ok hs a2 z2 2 (by omega) (by omega) (by omega)
    rw [if_pos c, e3, Option.bind_some]
    exact hj o r3 a3 z3 (by omega) (by omega)
  · rw [if_neg c]
    exact hj o false a2 z2 (by omega) (by omega)
theorem drawmakes_ok {s : List Int} (hs : Byt s) {k : Nat} (hk : 1000 < k) : ∃ (u : List Int) (n : Int) (b : List Bool), spec_DrawMakesBits.f k s = some (u, n, b) ∧ u.length ≤ 20 := by
  obtain ⟨k, rfl⟩ : ∃ m, k = m + 1 := ⟨k - 1, by omega⟩
  unfold spec_DrawMakesBits.f
  obtain ⟨t, f, n, e1, l1, l2⟩ := drawstream_ok hs hk
  obtain ⟨r2, a2, z2, e2, p0, p1, _, u2, v2⟩ := pick_ok hs 0 0 30 (by omega) (by omega) (by omega)
  have hj : ∀ (o : List Bool) (b : Bool) (a z : Int), 0 ≤ a → a ≤ 100 → o.length ≤ 40 → (b = true → 0 < o.length) → ∃ u n b', spec_DrawMakesBits.j0 (k + 1) t o b s a z = some (u, n, b') ∧ u.length ≤ 20 := by
    intro o b a z ha ha' ho hb
    simp only [spec_DrawMakesBits.j0]
    obtain ⟨r3, a3, z3, e3, q0, q1, _, u3, v3⟩ := pick_ok hs a z 3 ha (by omega) (by omega)
    obtain ⟨r4, a4, z4, e4, _, _, _, u4, v4⟩ := pick_ok hs a3 z3 9 (by omega) (by omega) (by omega)
    cases b with
    | true =>
      have := hb rfl
      have e : wrap64 ((o.length : Int) - 1) = (o.length : Int) - 1 := wr (by omega) (by omega)
      rw [if_pos rfl, e, if_pos (show (0 : Int) ≤ (o.length : Int) - 1 by omega), if_pos (show (o.length : Int) - 1 < (o.length : Int) by omega), spec_top t (by omega), Option.bind_some, e3, Option.bind_some, e4, Option.bind_some]
      exact ⟨_, _, _, rfl, l1⟩
    | false =>
      rw [if_neg Bool.false_ne_true, spec_top t (by omega), Option.bind_some, e3, Option.bind_some, e4, Option.bind_some]
      exact ⟨_, _, _, rfl, l1⟩
  obtain ⟨o, ok, e5, hl⟩ := sstream_of (k := k + 1) t f r2 (by omega) (by omega)
  rw [e1, Option.bind_some, e2, Option.bind_some, e5, Option.bind_some]
  by_cases c : ((o.length : Nat) : Int) > 0
  · obtain ⟨r3, a3, z3, e3, u3, v3⟩ := one_ok hs a2 z2 4 (by omega) (by omega) (by omega)
    rw [if_pos c, e3, Option.bind_some]
    exact hj o r3 a3 z3 (by omega) (by omega) hl (fun _ => by omega)
  · rw [if_neg c]
    exact hj o false a2 z2 (by omega) (by omega) hl (fun h => by cases h)

/-! contains: a list has a number, in the library's words -/
theorem mem_drop_step' (xs : List Int) (v : Int) (i : Nat) (h : i < xs.length) : (v ∈ xs.drop i) ↔ v = xs[i] ∨ v ∈ xs.drop (i + 1) := by
  rw [List.drop_eq_getElem_cons h, List.mem_cons]
theorem index_loop (xs : List Int) (v : Int) (hn : xs.length ≤ 35184372088832) (d : Nat) : ∀ (k : Nat) (i : Nat), i + d = xs.length → d < k → ∃ r, slices_Index_int_int.l0 k xs v (xs.length : Int) (i : Int) = some r ∧ (r ≥ 0 ↔ v ∈ xs.drop i) := by
  induction d with
  | zero =>
    intro k i hd hk
    obtain ⟨k, rfl⟩ : ∃ m, k = m + 1 := ⟨k - 1, by omega⟩
    simp only [slices_Index_int_int.l0]
    rw [if_neg (by omega), List.drop_of_length_le (by omega)]
    exact ⟨-1, rfl, by simp⟩
  | succ d ih =>
    intro k i hd hk
    obtain ⟨k, rfl⟩ : ∃ m, k = m + 1 := ⟨k - 1, by omega⟩
    have hi : i < xs.length := by omega
    have h1 : (i : Int) < (xs.length : Int) := by omega
    have h2 : (0 : Int) ≤ (i : Int) := by omega
    simp only [slices_Index_int_int.l0]
    rw [if_pos h1, if_pos h2, if_pos h1, rd_at xs i hi, wr_succ i (by omega), mem_drop_step' xs v i hi]
    by_cases h : v = xs[i]
    · rw [if_pos h]
      exact ⟨i, rfl, by simp [h]⟩
    · rw [if_neg h]
      obtain ⟨r, h3, h4⟩ := ih k (i + 1) (by omega) (by omega)
      exact ⟨r, h3, by rw [h4]; simp [h]⟩
theorem lib_contains {k : Nat} (xs : List Int) (v : Int) (hn : xs.length ≤ 35184372088832) (hk : xs.length < k) : slices_Contains_int_int.f k xs v = some (decide (v ∈ xs)) := by
  unfold slices_Contains_int_int.f slices_Index_int_int.f
  obtain ⟨r, h1, h2⟩ := index_loop xs v hn xs.length k 0 (by omega) hk
  rw [show ((0 : Nat) : Int) = 0 from rfl] at h1
  rw [List.drop_zero] at h2
  simp only [h1, Option.bind_some, h2]

/-! rising: lists that rise, told by their members; the numbers that are in just one of two lists -/
def Ris (l : List Int) : Prop := l.Pairwise (fun x y => x < y)
theorem ris_ext : ∀ {a b : List Int}, Ris a → Ris b → (∀ x, x ∈ a ↔ x ∈ b) → a = b
  | [], [], _, _, _ => rfl
  | [], b :: ys, _, _, h => absurd ((h b).2 List.mem_cons_self) (by simp)
  | a :: xs, [], _, _, h => absurd ((h a).1 List.mem_cons_self) (by simp)
  | a :: xs, b :: ys, ha, hb, h => by
    obtain ⟨ha1, ha2⟩ := List.pairwise_cons.1 ha
    obtain ⟨hb1, hb2⟩ := List.pairwise_cons.1 hb
    have e : a = b := by
      rcases List.mem_cons.1 ((h a).1 List.mem_cons_self) with e | e
      · exact e
      · rcases List.mem_cons.1 ((h b).2 List.mem_cons_self) with e' | e'
        · exact e'.symm
        · have := hb1 a e; have := ha1 b e'; omega
    subst e
    rw [ris_ext ha2 hb2 (fun x => ⟨fun hx => ?_, fun hx => ?_⟩)]
    · rcases List.mem_cons.1 ((h x).1 (List.mem_cons_of_mem _ hx)) with e | e
      · have := ha1 x hx; omega
      · exact e
    · rcases List.mem_cons.1 ((h x).2 (List.mem_cons_of_mem _ hx)) with e | e
      · have := hb1 x hx; omega
      · exact e
theorem ris_nodup {l : List Int} (h : Ris l) : l.Nodup := h.imp (fun h => by omega)
theorem ris_of {l : List Int} (h1 : l.Pairwise (fun x y => x ≤ y)) (h2 : l.Nodup) : Ris l := h1.imp₂ (fun _ _ h h' => by omega) h2
def symd (a b : List Int) : List Int := (a ++ b).filter fun n => a.contains n != b.contains n
def mergedV (a b : List Int) : List Int := (symd a b).mergeSort fun x y => decide (x ≤ y)
theorem mem_symd (a b : List Int) (x : Int) : x ∈ symd a b ↔ ((x ∈ a ∧ x ∉ b) ∨ (x ∈ b ∧ x ∉ a)) := by
  unfold symd
  rw [List.mem_filter, List.mem_append]
  by_cases h1 : x ∈ a <;> by_cases h2 : x ∈ b <;> simp [h1, h2]
theorem symd_nodup {a b : List Int} (ha : a.Nodup) (hb : b.Nodup) : (symd a b).Nodup := by
  unfold symd
  rw [List.filter_append]
  refine List.nodup_append.2 ⟨ha.sublist List.filter_sublist, hb.sublist List.filter_sublist, fun x hx y hy e => ?_⟩
  subst e
  obtain ⟨h1, h2⟩ := List.mem_filter.1 hx
  obtain ⟨h3, _⟩ := List.mem_filter.1 hy
  simp [h1, h3] at h2
theorem mem_merged (a b : List Int) (x : Int) : x ∈ mergedV a b ↔ ((x ∈ a ∧ x ∉ b) ∨ (x ∈ b ∧ x ∉ a)) := by
  unfold mergedV
  rw [List.mem_mergeSort, mem_symd]
theorem merged_ris {a b : List Int} (ha : a.Nodup) (hb : b.Nodup) : Ris (mergedV a b) := by
  refine ris_of ?_ ((List.mergeSort_perm _ _).nodup_iff.2 (symd_nodup ha hb))
  have := List.pairwise_mergeSort (le := fun x y : Int => decide (x ≤ y)) (fun a b c h1 h2 => by simp at *; omega) (fun a b => by simp; omega) (symd a b)
  exact this.imp (fun h => by simpa using h)
def putV (l : List Int) (t : Int) : List Int := l.takeWhile (fun x => decide (x < t)) ++ t :: l.dropWhile (fun x => decide (x < t))
def turnV (l : List Int) (t : Int) : List Int := if l.contains t then l.filter (fun x => x != t) else putV l t
theorem drop_ge {l : List Int} (h : Ris l) (t : Int) : ∀ x ∈ l.dropWhile (fun x => decide (x < t)), t ≤ x := by
  induction l with
  | nil => intro x hx; cases hx
  | cons y l ih =>
    intro x hx
    rw [List.dropWhile_cons] at hx
    obtain ⟨h1, h2⟩ := List.pairwise_cons.1 h
    by_cases hy : y < t
    · rw [if_pos (by simpa using hy)] at hx; exact ih h2 x hx
    · rw [if_neg (by simpa using hy)] at hx
      rcases List.mem_cons.1 hx with e | e
      · omega
      · have := h1 x e; omega
theorem take_lt (l : List Int) (t : Int) : ∀ x ∈ l.takeWhile (fun x => decide (x < t)), x < t := by
  induction l with
  | nil => intro x hx; cases hx
  | cons y l ih =>
    intro x hx
    rw [List.takeWhile_cons] at hx
    by_cases hy : y < t
    · rw [if_pos (by simpa using hy)] at hx
      rcases List.mem_cons.1 hx with e | e
      · omega
      · exact ih x e
    · rw [if_neg (by simpa using hy)] at hx; cases hx
theorem put_ris {l : List Int} (h : Ris l) (t : Int) (ht : t ∉ l) : Ris (putV l t) := by
  have hs := List.takeWhile_append_dropWhile (p := fun x => decide (x < t)) (l := l)
  have hd := drop_ge h t
  have hn : ∀ x ∈ l.dropWhile (fun x => decide (x < t)), t < x := fun x hx => by
    have := hd x hx
    have hx' : x ∈ l := by rw [← hs]; exact List.mem_append_right _ hx
    have : x ≠ t := fun e => ht (e ▸ hx')
    omega
  have hk := take_lt l t
  rw [← hs] at h
  obtain ⟨h1, h2, h3⟩ := List.pairwise_append.1 h
  unfold putV
  refine List.pairwise_append.2 ⟨h1, List.pairwise_cons.2 ⟨hn, h2⟩, fun x hx y hy => ?_⟩
  rcases List.mem_cons.1 hy with e | e
  · rw [e]; exact hk x hx
  · exact h3 x hx y e
theorem mem_put (l : List Int) (t x : Int) : x ∈ putV l t ↔ (x = t ∨ x ∈ l) := by
  have hs := List.takeWhile_append_dropWhile (p := fun x => decide (x < t)) (l := l)
  unfold putV
  rw [List.mem_append, List.mem_cons]
  constructor
  · rintro (h | h | h)
    · right; rw [← hs]; exact List.mem_append_left _ h
    · exact .inl h
    · right; rw [← hs]; exact List.mem_append_right _ h
  · rintro (h | h)
    · exact .inr (.inl h)
    · rw [← hs] at h
      rcases List.mem_append.1 h with h | h
      · exact .inl h
      · exact .inr (.inr h)
theorem turn_ris {l : List Int} (h : Ris l) (t : Int) : Ris (turnV l t) := by
  unfold turnV
  by_cases hc : t ∈ l
  · rw [if_pos (by simpa using hc)]; exact List.Pairwise.sublist List.filter_sublist h
  · rw [if_neg (by simpa using hc)]; exact put_ris h t hc
theorem mem_turn (l : List Int) (t x : Int) : x ∈ turnV l t ↔ ((x ∈ l ∧ x ≠ t) ∨ (x ∉ l ∧ x = t)) := by
  unfold turnV
  by_cases hc : t ∈ l
  · rw [if_pos (by simpa using hc), List.mem_filter]
    by_cases e : x = t
    · subst e; simp [hc]
    · simp [e]
  · rw [if_neg (by simpa using hc), mem_put]
    by_cases e : x = t
    · subst e; simp [hc]
    · simp [e]
/-- What the reference does with many taps, one by one. -/
theorem turns_mem (ts : List Int) : ∀ (l : List Int) (x : Int), ts.Nodup → Ris l → (Ris (ts.foldl turnV l) ∧ (x ∈ ts.foldl turnV l ↔ ((x ∈ l ∧ x ∉ ts) ∨ (x ∈ ts ∧ x ∉ l)))) := by
  induction ts with
  | nil => intro l x _ h; exact ⟨h, by simp⟩
  | cons t ts ih =>
    intro l x hn h
    obtain ⟨h1, h2⟩ := List.nodup_cons.1 hn
    obtain ⟨r1, r2⟩ := ih (turnV l t) x h2 (turn_ris h t)
    refine ⟨r1, ?_⟩
    rw [List.foldl_cons, r2, mem_turn, List.mem_cons]
    by_cases e : x = t
    · subst e; simp [h1]
    · simp [e]
theorem turns_merged (l ts : List Int) (h : Ris l) (hn : ts.Nodup) : ts.foldl turnV l = mergedV l ts :=
  ris_ext (turns_mem ts l 0 hn h).1 (merged_ris (ris_nodup h) hn) (fun x => by rw [(turns_mem ts l x hn h).2, mem_merged])

/-! merged: two lists put together; the numbers that are in just one of them, in the program -/
theorem rd_L2_0 (a b : List Int) : rd_L2 [a, b] 0 = a := rfl
theorem rd_L2_1 (a b : List Int) : rd_L2 [a, b] 1 = b := rfl
theorem lib_concat {k : Nat} (a b : List Int) (ha : a.length ≤ 1000) (hb : b.length ≤ 1000) (hk : 8 ≤ k) : slices_Concat_int_int.f k [a, b] = some (a ++ b) := by
  obtain ⟨k, rfl⟩ : ∃ m, k = m + 8 := ⟨k - 8, by omega⟩
  have w0 : wrap64 ((0 : Int) + 1) = 1 := by unfold wrap64; omega
  have w1 : wrap64 ((1 : Int) + 1) = 2 := by unfold wrap64; omega
  have e1 : wrap64 ((0 : Int) + (a.length : Int)) = (a.length : Int) := by rw [wr (by omega) (by omega)]; omega
  have e2 : wrap64 ((a.length : Int) + (b.length : Int)) = ((a.length : Int) + (b.length : Int)) := wr (by omega) (by omega)
  have n1 : ¬ ((a.length : Int) < 0) := by omega
  have n2 : ¬ ((a.length : Int) + (b.length : Int) < 0) := by omega
  have l2 : ((([a, b] : List (List Int)).length : Nat) : Int) = 2 := rfl
  have q1 : (0 : Int) < 2 := by decide
  have q2 : (1 : Int) < 2 := by decide
  have q3 : (0 : Int) ≤ 0 := by decide
  have q4 : (0 : Int) ≤ 1 := by decide
  have q5 : ¬ (2 : Int) < 2 := by decide
  have g : (([] : List Int) = [] ∧ 0 ≤ (a.length : Int) + (b.length : Int) ∧ (a.length : Int) + (b.length : Int) < 17592186044416) := ⟨rfl, by omega, by omega⟩
  have g1 : ([] : List Int).length + a.length < 17592186044416 := by simp; omega
  have g2 : a.length + b.length < 17592186044416 := by omega
  simp only [slices_Concat_int_int.f, slices_Concat_int_int.l0, slices_Concat_int_int.l1, slices_Grow_int_int.f, l2, if_pos q1, if_pos q2, if_pos q3, if_pos q4, rd_L2_0, rd_L2_1, w0, w1, e1, e2, if_neg n1, if_neg n2, if_neg q5]
  rw [if_pos ⟨trivial, g.2⟩, Option.bind_some, if_pos g1, List.nil_append, if_pos g2]
theorem merged_loop (a b z : List Int) (ha : a.length ≤ 1000) (hb : b.length ≤ 1000) (hz : z.length ≤ 2000) (d : Nat) : ∀ (k : Nat) (i : Nat) (out : List Int), i + d = z.length → d + 1001 < k → out.length ≤ i →
    impl_merged.l0 k a b out z (z.length : Int) (i : Int) = some ((out ++ (z.drop i).filter fun n => a.contains n != b.contains n).mergeSort fun x y => decide (x ≤ y)) := by
  induction d with
  | zero =>
    intro k i out hd hk ho
    obtain ⟨k, rfl⟩ : ∃ m, k = m + 1 := ⟨k - 1, by omega⟩
    simp only [impl_merged.l0]
    rw [if_neg (by omega), List.drop_of_length_le (by omega)]
    unfold slices_Sort_int_int.f
    rw [if_pos (by omega)]; simp
  | succ d ih =>
    intro k i out hd hk ho
    obtain ⟨k, rfl⟩ : ∃ m, k = m + 1 := ⟨k - 1, by omega⟩
    have hi : i < z.length := by omega
    have g1 : (i : Int) < (z.length : Int) := by omega
    have g2 : (0 : Int) ≤ (i : Int) := by omega
    simp only [impl_merged.l0]
    rw [if_pos g1, if_pos g2, if_pos g1, rd_at z i hi, lib_contains a _ (by omega) (by omega), Option.bind_some, lib_contains b _ (by omega) (by omega), Option.bind_some, wr_succ i (by omega), List.drop_eq_getElem_cons hi, List.filter_cons]
    have e : (decide (z[i] ∈ a) != decide (z[i] ∈ b)) = (a.contains z[i] != b.contains z[i]) := by
      rw [List.contains_eq_mem, List.contains_eq_mem]
    rw [e]
    by_cases h : (a.contains z[i] != b.contains z[i]) = true
    · rw [if_pos h, if_pos (by omega), ih k (i + 1) _ (by omega) (by omega) (by simp; omega), if_pos h]
      simp
    · rw [if_neg h, ih k (i + 1) _ (by omega) (by omega) (by omega), if_neg h]
theorem impl_merged_eq {k : Nat} (a b : List Int) (ha : a.length ≤ 1000) (hb : b.length ≤ 1000) (hk : a.length + b.length + 1001 < k) : impl_merged.f k a b = some (mergedV a b) := by
  unfold impl_merged.f
  rw [lib_concat a b ha hb (by omega), Option.bind_some]
  have := merged_loop a b (a ++ b) ha hb (by simp; omega) (a ++ b).length k 0 [] (by omega) (by simp; omega) (by simp)
  simpa [mergedV, symd] using this

/-! has: a list has a number, in the reference -/
theorem mem_drop_step (xs : List Int) (v : Int) (i : Nat) (h : i < xs.length) : (v ∈ xs.drop i) ↔ xs[i] = v ∨ v ∈ xs.drop (i + 1) := by
  rw [List.drop_eq_getElem_cons h, List.mem_cons]
  constructor
  · rintro (h | h)
    · exact .inl h.symm
    · exact .inr h
  · rintro (h | h)
    · exact .inl h.symm
    · exact .inr h
theorem has_loop (xs : List Int) (v : Int) (hn : xs.length ≤ 35184372088832) (d : Nat) : ∀ (k : Nat) (i : Nat), i + d = xs.length → d < k → spec_l1Has.l0 k v xs (xs.length : Int) (i : Int) = some (decide (v ∈ xs.drop i)) := by
  induction d with
  | zero =>
    intro k i hd hk
    obtain ⟨k, rfl⟩ : ∃ m, k = m + 1 := ⟨k - 1, by omega⟩
    simp only [spec_l1Has.l0]
    rw [if_neg (by omega), List.drop_of_length_le (by omega)]; simp
  | succ d ih =>
    intro k i hd hk
    obtain ⟨k, rfl⟩ : ∃ m, k = m + 1 := ⟨k - 1, by omega⟩
    have hi : i < xs.length := by omega
    have h1 : (i : Int) < (xs.length : Int) := by omega
    have h2 : (0 : Int) ≤ (i : Int) := by omega
    simp only [spec_l1Has.l0]
    rw [if_pos h1, if_pos h2, if_pos h1, rd_at xs i hi, wr_succ i (by omega), ih k (i + 1) (by omega) (by omega)]
    simp only [mem_drop_step xs v i hi]
    by_cases h : xs[i] = v
    · rw [if_pos h]; simp [h]
    · rw [if_neg h]; simp [h]
theorem spec_has {k : Nat} (xs : List Int) (v : Int) (hn : xs.length ≤ 35184372088832) (hk : xs.length < k) : spec_l1Has.f k xs v = some (decide (v ∈ xs)) := by
  unfold spec_l1Has.f
  have := has_loop xs v hn xs.length k 0 (by omega) hk
  simpa using this

/-! turns: a tap turned, in the reference -/
theorem put_at {l : List Int} (h : Ris l) (t : Int) (i : Nat) (hi : i ≤ l.length) (h1 : ∀ j, (hj : j < l.length) → j < i → l[j] < t) (h2 : ∀ hj : i < l.length, t < l[i]) : l.take i ++ t :: l.drop i = putV l t := by
  unfold putV
  have e1 : l.takeWhile (fun x => decide (x < t)) = l.take i ∧ l.dropWhile (fun x => decide (x < t)) = l.drop i := by
    clear h
    induction l generalizing i with
    | nil => simp
    | cons x l ih =>
      match i with
      | 0 =>
        have := h2 (by simp)
        simp only [List.getElem_cons_zero] at this
        simp [List.takeWhile_cons, List.dropWhile_cons]
        omega
      | i + 1 =>
        have h3 := h1 0 (by simp) (by omega)
        simp only [List.getElem_cons_zero] at h3
        obtain ⟨e1, e2⟩ := ih i (by simp at hi; omega) (fun j hj hji => by have := h1 (j + 1) (by simp; omega) (by omega); simpa using this) (fun hj => by have := h2 (by simp; omega); simpa using this)
        simp [List.takeWhile_cons, List.dropWhile_cons, h3, e1, e2]
  rw [e1.1, e1.2]
theorem put_loop (l : List Int) (t : Int) (hr : Ris l) (ht : t ∉ l) (hn : l.length ≤ 1000) (d : Nat) : ∀ (k : Nat) (i : Nat), i + d = l.length → d < k → (∀ j, (hj : j < l.length) → j < i → l[j] < t) → spec_l1PutN.l0 k l t (i : Int) = some (putV l t) := by
  induction d with
  | zero =>
    intro k i hd hk h1
    obtain ⟨k, rfl⟩ : ∃ m, k = m + 1 := ⟨k - 1, by omega⟩
    have hi : i = l.length := by omega
    have g2 : (0 : Int) ≤ (i : Int) := by omega
    have g3 : (i : Int) ≤ (l.length : Int) := by omega
    simp only [spec_l1PutN.l0]
    rw [if_neg (by omega), Option.bind_some, if_pos g2, if_pos g3, Int.toNat_natCast, if_pos (by simp; omega), Option.bind_some, if_pos (by simp; omega), Option.bind_some, if_pos (by simp; omega), ← put_at hr t i (by omega) h1 (fun hj => by omega)]
    simp
  | succ d ih =>
    intro k i hd hk h1
    obtain ⟨k, rfl⟩ : ∃ m, k = m + 1 := ⟨k - 1, by omega⟩
    have hi : i < l.length := by omega
    have g1 : (i : Int) < (l.length : Int) := by omega
    have g2 : (0 : Int) ≤ (i : Int) := by omega
    have g3 : (i : Int) ≤ (l.length : Int) := by omega
    simp only [spec_l1PutN.l0]
    rw [if_pos g1, if_pos g2, rd_at l i hi]
    by_cases h : l[i] < t
    · rw [if_pos h, wr_succ i (by omega)]
      exact ih k (i + 1) (by omega) (by omega) (fun j hj hji => by
        by_cases e : j = i
        · subst e; exact h
        · exact h1 j hj (by omega))
    · have hne : ¬ l[i] = t := fun e => ht (e ▸ List.getElem_mem hi)
      rw [if_neg h, if_neg hne, Option.bind_some, if_pos g3, Int.toNat_natCast, if_pos (by simp; omega), Option.bind_some, if_pos (by simp; omega), Option.bind_some, if_pos (by simp; omega), ← put_at hr t i (by omega) h1 (fun hj => by omega)]
      simp
theorem spec_put {k : Nat} (l : List Int) (t : Int) (hr : Ris l) (ht : t ∉ l) (hn : l.length ≤ 1000) (hk : l.length < k) : spec_l1PutN.f k l t = some (putV l t) :=
  put_loop l t hr ht hn l.length k 0 (by omega) hk (fun j _ h => by omega)
theorem turn_loop (l : List Int) (t : Int) (hn : l.length ≤ 1000) (d : Nat) : ∀ (k : Nat) (i : Nat) (out : List Int), i + d = l.length → d < k → out.length ≤ i → spec_l3Turn.l0 k t out l (l.length : Int) (i : Int) = some (out ++ (l.drop i).filter (fun x => x != t)) := by
  induction d with
  | zero =>
    intro k i out hd hk ho
    obtain ⟨k, rfl⟩ : ∃ m, k = m + 1 := ⟨k - 1, by omega⟩
    simp only [spec_l3Turn.l0]
    rw [if_neg (by omega), List.drop_of_length_le (by omega)]; simp
  | succ d ih =>
    intro k i out hd hk ho
    obtain ⟨k, rfl⟩ : ∃ m, k = m + 1 := ⟨k - 1, by omega⟩
    have hi : i < l.length := by omega
    have g1 : (i : Int) < (l.length : Int) := by omega
    have g2 : (0 : Int) ≤ (i : Int) := by omega
    simp only [spec_l3Turn.l0]
    rw [if_pos g1, if_pos g2, if_pos g1, rd_at l i hi, wr_succ i (by omega), List.drop_eq_getElem_cons hi, List.filter_cons]
    by_cases h : l[i] = t
    · rw [if_pos h, ih k (i + 1) out (by omega) (by omega) (by omega), if_neg (by simp [h])]
    · rw [if_neg h, if_pos (by omega), ih k (i + 1) _ (by omega) (by omega) (by simp; omega), if_pos (by simp [h])]
      simp
theorem spec_turn {k : Nat} (l : List Int) (t : Int) (hr : Ris l) (hn : l.length ≤ 1000) (hk : l.length < k) : spec_l3Turn.f k l t = some (turnV l t) := by
  unfold spec_l3Turn.f turnV
  rw [spec_has l t (by omega) hk, Option.bind_some]
  by_cases h : t ∈ l
  · rw [if_pos (by simpa using h), if_pos (by simpa using h)]
    have := turn_loop l t hn l.length k 0 [] (by omega) hk (by simp)
    simpa using this
  · rw [if_neg (by simpa using h), if_neg (by simpa using h), spec_put l t hr h hn hk]
    rfl

/-! massey: plain mathematics of Berlekamp's and Massey's way: the lemma of Massey, one step -/
theorem massey_lemma (s : Int → Bool) (T T2 : List Int) (L L2 n : Int) (h0 : 0 ≤ L) (h0' : 0 ≤ L2)
    (hT : ∀ t ∈ T, 1 ≤ t ∧ t ≤ L) (hT2 : ∀ t ∈ T2, 1 ≤ t ∧ t ≤ L2)
    (h1 : ∀ i, L ≤ i → i < n → Dis s T i = false) (h2 : Dis s T n = true) (h3 : ∀ i, L2 ≤ i → i ≤ n → Dis s T2 i = false) : n + 1 - L ≤ L2 := by
  rcases Int.lt_or_le L2 (n + 1 - L) with h | h
  · exfalso
    have e : X (0 :: T) (fun j => Dis s T2 (n - j)) = X (0 :: T2) (fun k => Dis s T (n - k)) := by
      unfold Dis
      rw [X_swap]
      refine X_congr fun k _ => X_congr fun j _ => ?_
      rw [show n - j - k = n - k - j by omega]
    have l : X (0 :: T) (fun j => Dis s T2 (n - j)) = false := X_none fun j hj => by
      rcases List.mem_cons.1 hj with rfl | hj
      · exact h3 _ (by omega) (by omega)
      · have := hT j hj; exact h3 _ (by omega) (by omega)
    have r : X (0 :: T2) (fun k => Dis s T (n - k)) = true := by
      simp only [X]
      rw [show n - 0 = n by omega, h2, X_none (fun k hk => by have := hT2 k hk; exact h1 _ (by omega) (by omega))]
      rfl
    rw [l, r] at e
    cases e
  · exact h
structure BM (s : Int → Bool) (n : Int) (T B : List Int) (L m : Int) : Prop where
  l0 : 0 ≤ L
  ln : L ≤ n
  m1 : 1 ≤ m
  b0 : 0 ≤ n - m + 1 - L
  mn : m ≤ n + 1
  hT : ∀ t ∈ T, 1 ≤ t ∧ t ≤ L
  hB : ∀ t ∈ B, 1 ≤ t ∧ t ≤ n - m + 1 - L
  gT : ∀ i, L ≤ i → i < n → Dis s T i = false
  gB : ∀ i, n - m + 1 - L ≤ i → i < n - m → Dis s B i = false
  dB : (n - m = -1 ∧ L = 0) ∨ Dis s B (n - m) = true
  least : ∀ (T2 : List Int) (L2 : Int), 0 ≤ L2 → (∀ t ∈ T2, 1 ≤ t ∧ t ≤ L2) → (∀ i, L2 ≤ i → i < n → Dis s T2 i = false) → L ≤ L2
theorem BM.start (s : Int → Bool) : BM s 0 [] [] 0 1 where
  l0 := by omega
  ln := by omega
  m1 := by omega
  b0 := by omega
  mn := by omega
  hT := by intro t ht; cases ht
  hB := by intro t ht; cases ht
  gT := by intro i h h'; omega
  gB := by intro i h h'; omega
  dB := .inl ⟨by omega, rfl⟩
  least := by intro T2 L2 h _ _; exact h
theorem BM.alike {s : Int → Bool} {n : Int} {T B : List Int} {L m : Int} (I : BM s n T B L m) (h : Dis s T n = false) : BM s (n + 1) T B L (m + 1) where
  l0 := I.l0
  ln := by have := I.ln; omega
  m1 := by have := I.m1; omega
  b0 := by have := I.b0; omega
  mn := by have := I.mn; omega
  hT := I.hT
  hB := by intro t ht; have := I.hB t ht; omega
  gT := by
    intro i h1 h2
    by_cases e : i = n
    · rw [e]; exact h
    · exact I.gT i h1 (by omega)
  gB := by intro i h1 h2; exact I.gB i (by omega) (by omega)
  dB := by
    rcases I.dB with h | h
    · exact .inl ⟨by omega, h.2⟩
    · right; rw [show n + 1 - (m + 1) = n - m by omega]; exact h
  least := by intro T2 L2 h0 h1 h2; exact I.least T2 L2 h0 h1 (fun i a b => h2 i a (by omega))
theorem Dis_sum {s : Int → Bool} {T B T' : List Int} {m : Int} (hX : ∀ f : Int → Bool, X T' f = (X T f ^^ X (0 :: B) (fun t => f (t + m)))) (i : Int) :
    Dis s T' i = (Dis s T i ^^ Dis s B (i - m)) := by
  rw [Dis_eq, Dis_eq, hX]
  have : X (0 :: B) (fun t => s (i - (t + m))) = Dis s B (i - m) := by
    unfold Dis
    exact X_congr fun t _ => by rw [show i - (t + m) = i - m - t by omega]
  rw [this]
  cases s i <;> cases X T (fun t => s (i - t)) <;> cases Dis s B (i - m) <;> rfl
theorem BM.unlike {s : Int → Bool} {n : Int} {T B T' : List Int} {L m : Int} (I : BM s n T B L m) (h : Dis s T n = true)
    (hX : ∀ f : Int → Bool, X T' f = (X T f ^^ X (0 :: B) (fun t => f (t + m)))) (hM : ∀ t ∈ T', t ∈ T ∨ t = m ∨ ∃ b ∈ B, t = b + m) :
    (L * 2 > n → BM s (n + 1) T' B L (m + 1)) ∧ (¬ L * 2 > n → BM s (n + 1) T' T (n + 1 - L) 1) := by
  have l0 := I.l0
  have ln := I.ln
  have m1 := I.m1
  have b0 := I.b0
  have mn := I.mn
  have bd : ∀ t ∈ T', 1 ≤ t ∧ (t ≤ L ∨ t ≤ n + 1 - L) := by
    intro t ht
    rcases hM t ht with h | h | ⟨b, hb, h⟩
    · have := I.hT t h; omega
    · omega
    · have := I.hB b hb; omega
  have gen : ∀ i, L ≤ i → n + 1 - L ≤ i → i < n + 1 → Dis s T' i = false := by
    intro i h1 h2 h3
    rw [Dis_sum hX]
    by_cases e : i = n
    · subst e
      rcases I.dB with hb | hb
      · omega
      · rw [h, hb]; rfl
    · rw [I.gT i h1 (by omega), I.gB (i - m) (by omega) (by omega)]; rfl
  have low : ∀ (T2 : List Int) (L2 : Int), 0 ≤ L2 → (∀ t ∈ T2, 1 ≤ t ∧ t ≤ L2) → (∀ i, L2 ≤ i → i < n + 1 → Dis s T2 i = false) → L ≤ L2 ∧ n + 1 - L ≤ L2 := by
    intro T2 L2 h0 h1 h2
    exact ⟨I.least T2 L2 h0 h1 (fun i a b => h2 i a (by omega)), massey_lemma s T T2 L L2 n l0 h0 I.hT h1 I.gT h (fun i a b => h2 i a (by omega))⟩
  constructor
  · intro hL
    exact {
      l0 := l0, ln := by omega, m1 := by omega, b0 := by omega, mn := by omega
      hT := by intro t ht; have := bd t ht; omega
      hB := by intro t ht; have := I.hB t ht; omega
      gT := by intro i h1 h2; exact gen i h1 (by omega) h2
      gB := by intro i h1 h2; exact I.gB i (by omega) (by omega)
      dB := by
        rcases I.dB with h | h
        · exact .inl ⟨by omega, h.2⟩
        · right; rw [show n + 1 - (m + 1) = n - m by omega]; exact h
      least := by intro T2 L2 h0 h1 h2; exact (low T2 L2 h0 h1 h2).1 }
  · intro hL
    exact {
      l0 := by omega, ln := by omega, m1 := by omega, b0 := by omega, mn := by omega
      hT := by intro t ht; have := bd t ht; omega
      hB := by intro t ht; have := I.hT t ht; omega
      gT := by intro i h1 h2; exact gen i (by omega) (by omega) h2
      gB := by intro i h1 h2; exact I.gT i (by omega) (by omega)
      dB := by right; rw [show n + 1 - 1 = n by omega]; exact h
      least := by intro T2 L2 h0 h1 h2; exact (low T2 L2 h0 h1 h2).2 }

/-! shortest: the shortest register, in both texts: one walk of Berlekamp's and Massey's way -/
theorem ris_len (b : Int) : ∀ {l : List Int} {a : Int}, Ris l → a ≤ b + 1 → (∀ x ∈ l, a ≤ x ∧ x ≤ b) → (l.length : Int) ≤ b + 1 - a
  | [], a, _, h, _ => by simp; omega
  | x :: l, a, hr, h, hm => by
    obtain ⟨h1, h2⟩ := List.pairwise_cons.1 hr
    have hx := hm x List.mem_cons_self
    have := ris_len b (l := l) (a := x + 1) h2 (by omega) (fun y hy => by have := h1 y hy; have := hm y (List.mem_cons_of_mem _ hy); omega)
    rw [List.length_cons]; omega
theorem X_filter_ne {l : List Int} (h : l.Nodup) (t : Int) (ht : t ∈ l) (f : Int → Bool) : X (l.filter (fun x => x != t)) f = (X l f ^^ f t) := by
  induction l with
  | nil => cases ht
  | cons y l ih =>
    obtain ⟨h1, h2⟩ := List.nodup_cons.1 h
    rw [List.filter_cons]
    by_cases e : y = t
    · subst e
      rw [if_neg (by simp), List.filter_eq_self.2 (fun x hx => by simp; rintro rfl; exact h1 hx)]
      simp only [X]
      cases f y <;> cases X l f <;> rfl
    · have ht' : t ∈ l := by
        rcases List.mem_cons.1 ht with h | h
        · exact absurd h.symm e
        · exact h
      rw [if_pos (by simpa using e)]
      simp only [X]
      rw [ih h2 ht']
      cases f y <;> cases X l f <;> cases f t <;> rfl
theorem X_turn {l : List Int} (h : Ris l) (t : Int) (f : Int → Bool) : X (turnV l t) f = (X l f ^^ f t) := by
  unfold turnV
  by_cases hc : t ∈ l
  · rw [if_pos (by simpa using hc)]; exact X_filter_ne (ris_nodup h) t hc f
  · rw [if_neg (by simpa using hc)]
    unfold putV
    have e : X l f = (X (l.takeWhile (fun x => decide (x < t))) f ^^ X (l.dropWhile (fun x => decide (x < t))) f) := by
      rw [← X_append, List.takeWhile_append_dropWhile]
    rw [X_append, e]
    simp only [X]
    cases X (l.takeWhile (fun x => decide (x < t))) f <;> cases X (l.dropWhile (fun x => decide (x < t))) f <;> cases f t <;> rfl
theorem X_turns (ts : List Int) : ∀ (l : List Int) (f : Int → Bool), Ris l → X (ts.foldl turnV l) f = (X l f ^^ X ts f) := by
  induction ts with
  | nil => intro l f _; simp [X]
  | cons t ts ih =>
    intro l f h
    rw [List.foldl_cons, ih _ f (turn_ris h t), X_turn h]
    simp only [X]
    cases X l f <;> cases f t <;> cases X ts f <;> rfl
/-- The old register's taps, moved. -/
def moved (B : List Int) (m : Int) : List Int := (0 :: B).map (fun t => t + m)
theorem moved_cons (B : List Int) (m : Int) : moved B m = m :: B.map (fun t => t + m) := by
  unfold moved; rw [List.map_cons, Int.zero_add]
theorem moved_nodup {B : List Int} (h : Ris B) (h1 : ∀ t ∈ B, 1 ≤ t) (m : Int) : (moved B m).Nodup := by
  have hr : Ris (0 :: B) := List.pairwise_cons.2 ⟨fun x hx => by have := h1 x hx; omega, h⟩
  have : Ris (moved B m) := List.pairwise_map.2 (hr.imp (fun h => by omega))
  exact ris_nodup this
theorem turned_bd {lo hi : Int} : ∀ (ts l : List Int), (∀ t ∈ ts, lo ≤ t ∧ t ≤ hi) → (∀ t ∈ l, lo ≤ t ∧ t ≤ hi) → ∀ t ∈ ts.foldl turnV l, lo ≤ t ∧ t ≤ hi
  | [], l, _, h, t, ht => h t ht
  | u :: ts, l, h1, h2, t, ht => by
    refine turned_bd ts (turnV l u) (fun t ht => h1 t (List.mem_cons_of_mem _ ht)) (fun t ht => ?_) t ht
    rcases (mem_turn l u t).1 ht with h | h
    · exact h2 t h.1
    · rw [h.2]; exact h1 u List.mem_cons_self
/-- The reference turns the old register's taps, one by one. -/
theorem spec_inner (bits : List Bool) (B old : List Int) (L m n len : Int) (hB : ∀ t ∈ B, 1 ≤ t ∧ t ≤ 100) (hm : 1 ≤ m ∧ m ≤ 100) (hn : B.length ≤ 200) (d : Nat) :
    ∀ (K k : Nat) (j : Nat) (T : List Int), K = k + d + 1 → j + d = B.length → 300 ≤ k → Ris T → (∀ t ∈ T, 1 ≤ t ∧ t ≤ 200) →
      spec_ShortestTaps.l1 K bits T B L m n old len n B (B.length : Int) (j : Int) =
        (if (wrap64 (2 * L)) ≤ n then spec_ShortestTaps.l0 k bits (((B.drop j).map (fun t => t + m)).foldl turnV T) old (wrap64 ((wrap64 (n + 1)) - L)) 1 len (wrap64 (n + 1))
          else spec_ShortestTaps.l0 k bits (((B.drop j).map (fun t => t + m)).foldl turnV T) B L (wrap64 (m + 1)) len (wrap64 (n + 1))) := by
  induction d with
  | zero =>
    intro K k j T hK hd hk hT hb
    subst hK
    simp only [spec_ShortestTaps.l1]
    rw [if_neg (by omega), List.drop_of_length_le (by omega)]
    rfl
  | succ d ih =>
    intro K k j T hK hd hk hT hb
    obtain ⟨K, rfl⟩ : ∃ m, K = m + 1 := ⟨K - 1, by omega⟩
    have hj : j < B.length := by omega
    have g1 : (j : Int) < (B.length : Int) := by omega
    have g2 : (0 : Int) ≤ (j : Int) := by omega
    have hx := hB B[j] (List.getElem_mem hj)
    have hl := ris_len 200 hT (by omega) hb
    simp only [spec_ShortestTaps.l1]
    rw [if_pos g1, if_pos g2, if_pos g1, rd_at B j hj, wr (x := B[j] + m) (by omega) (by omega), spec_turn T _ hT (by omega) (by omega), Option.bind_some, wr_succ j (by omega),
      ih K k (j + 1) (turnV T (B[j] + m)) (by omega) (by omega) hk (turn_ris hT _) (fun t ht => by
        rcases (mem_turn T (B[j] + m) t).1 ht with h | h
        · exact hb t h.1
        · omega), List.drop_eq_getElem_cons hj, List.map_cons, List.foldl_cons]
/-- The program lists them first. -/
theorem impl_inner (bits bits2 : List Bool) (T B : List Int) (L m n len : Int) (hB : ∀ t ∈ B, 0 ≤ t ∧ t ≤ 100) (hm : 1 ≤ m ∧ m ≤ 100) (hn : B.length ≤ 200) (hT : T.length ≤ 200) (d : Nat) :
    ∀ (K k : Nat) (j : Nat) (out : List Int), K = k + d + 1 → j + d = B.length → 1500 ≤ k → out.length ≤ j →
      impl_ShortestTaps.l1 K bits T B L m n out bits2 len n B (B.length : Int) (j : Int) =
        (if (wrap64 (2 * L)) > n then impl_ShortestTaps.l0 k bits (mergedV T (out ++ (B.drop j).map (fun t => t + m))) B L (wrap64 (m + 1)) bits2 len (wrap64 (n + 1))
          else impl_ShortestTaps.l0 k bits (mergedV T (out ++ (B.drop j).map (fun t => t + m))) (0 :: T) (wrap64 ((wrap64 (n + 1)) - L)) 1 bits2 len (wrap64 (n + 1))) := by
  induction d with
  | zero =>
    intro K k j out hK hd hk ho
    subst hK
    simp only [impl_ShortestTaps.l1]
    rw [if_neg (by omega), List.drop_of_length_le (by omega), impl_merged_eq T out (by omega) (by omega) (by omega), Option.bind_some, Option.bind_some, if_pos (show ([0] : List Int).length + T.length < 17592186044416 by simp; omega)]
    simp
  | succ d ih =>
    intro K k j out hK hd hk ho
    obtain ⟨K, rfl⟩ : ∃ m, K = m + 1 := ⟨K - 1, by omega⟩
    have hj : j < B.length := by omega
    have g1 : (j : Int) < (B.length : Int) := by omega
    have g2 : (0 : Int) ≤ (j : Int) := by omega
    have hx := hB B[j] (List.getElem_mem hj)
    simp only [impl_ShortestTaps.l1]
    rw [if_pos g1, if_pos g2, if_pos g1, rd_at B j hj, wr (x := B[j] + m) (by omega) (by omega), if_pos (by omega), wr_succ j (by omega),
      ih K k (j + 1) (out ++ [B[j] + m]) (by omega) (by omega) hk (by simp; omega), List.drop_eq_getElem_cons hj, List.map_cons, List.append_assoc, List.singleton_append]
/-- What both hand back. -/
def shortEnd (T : List Int) (L : Int) : List Int × Int × Bool := if topTap T > 12 then ([], 0, false) else (T, L, true)
theorem short_loop (bits : List Bool) (hb : bits.length ≤ 40) (d : Nat) : ∀ (n : Nat) (T B : List Int) (L m : Int), n + d = bits.length → BM (sAt bits) (n : Int) T B L m → Ris T → Ris B →
    ∃ (T' B' : List Int) (L' m' : Int), BM (sAt bits) (bits.length : Int) T' B' L' m' ∧ Ris T' ∧
      ∀ k, 2000 + 200 * d ≤ k → spec_ShortestTaps.l0 k bits T B L m (bits.length : Int) (n : Int) = some (shortEnd T' L') ∧
        impl_ShortestTaps.l0 k bits T (0 :: B) L m bits (bits.length : Int) (n : Int) = some (shortEnd T' L') := by
  induction d with
  | zero =>
    intro n T B L m hd I hT hB
    have e : (n : Int) = (bits.length : Int) := by omega
    have l0 := I.l0
    have ln := I.ln
    have hl := ris_len L hT (by omega) I.hT
    refine ⟨T, B, L, m, e ▸ I, hT, fun k hk => ?_⟩
    obtain ⟨k, rfl⟩ : ∃ j, k = j + 1 := ⟨k - 1, by omega⟩
    have g : ¬ (n : Int) < (bits.length : Int) := by omega
    simp only [spec_ShortestTaps.l0, impl_ShortestTaps.l0, if_neg g, impl_top, spec_top T (by omega), Option.bind_some, shortEnd]
    by_cases ht : topTap T > 12
    · simp only [if_pos ht]; exact ⟨trivial, trivial⟩
    · have g3 : ([] : List Int).length + T.length < 17592186044416 := by simp; omega
      simp only [if_neg ht, if_pos g3, List.nil_append]; exact ⟨trivial, trivial⟩
  | succ d ih =>
    intro n T B L m hd I hT hB
    have l0 := I.l0
    have ln := I.ln
    have m1 := I.m1
    have b0 := I.b0
    have mn := I.mn
    have hn : n < bits.length := by omega
    have g1 : (n : Int) < (bits.length : Int) := by omega
    have g2 : (0 : Int) ≤ (n : Int) := by omega
    have hl := ris_len L hT (by omega) I.hT
    have hl2 := ris_len _ hB (by omega) I.hB
    have hTb : ∀ t ∈ T, 1 ≤ t ∧ t ≤ 100 := fun t ht => by have := I.hT t ht; omega
    have hBb : ∀ t ∈ B, 1 ≤ t ∧ t ≤ 100 := fun t ht => by have := I.hB t ht; omega
    have hnx : ∀ k, 100 ≤ k → spec_l3Next.f k bits T (n : Int) = some (X T (fun t => sAt bits ((n : Int) - t))) := fun k hk =>
      spec_next bits T n g2 (by omega) (by omega) (fun t ht => by have := hTb t ht; omega) (by omega) (by omega)
    have hD := Dis_eq (sAt bits) T (n : Int)
    have e1 : wrap64 ((n : Int) + 1) = ((n + 1 : Nat) : Int) := wr_succ n (by omega)
    cases hdis : Dis (sAt bits) T (n : Int)
    · obtain ⟨T', B', L', m', I', hT', hr⟩ := ih (n + 1) T B L (m + 1) (by omega) (by have := I.alike hdis; rwa [← Int.natCast_succ] at this) hT hB
      refine ⟨T', B', L', m', I', hT', fun k hk => ?_⟩
      obtain ⟨k, rfl⟩ : ∃ j, k = j + 1 := ⟨k - 1, by omega⟩
      rw [hdis] at hD
      have eq : sAt bits (n : Int) = X T (fun t => sAt bits ((n : Int) - t)) := by
        have hq : ∀ a b : Bool, false = (a ^^ b) → a = b := by decide
        exact hq _ _ hD
      obtain ⟨r1, r2⟩ := hr k (by omega)
      simp only [spec_ShortestTaps.l0, impl_ShortestTaps.l0, if_pos g1, if_pos g2, tapped_eq, hnx k (by omega), Option.bind_some, sAt_rd g2, eq, beq_self_eq_true, if_true, e1, wr (x := m + 1) (by omega) (by omega)]
      exact ⟨r1, r2⟩
    · rw [hdis] at hD
      have hne : ∀ (a b : Bool), true = (a ^^ b) → ¬ (a == b) = true ∧ ¬ (b == a) = true := by decide
      obtain ⟨q1, q2⟩ := hne _ _ hD
      have hmd : ∀ t ∈ moved B m, 1 ≤ t ∧ t ≤ 200 := by
        intro t ht
        rw [moved_cons] at ht
        rcases List.mem_cons.1 ht with rfl | ht
        · omega
        · obtain ⟨b, hb1, rfl⟩ := List.mem_map.1 ht
          have := hBb b hb1; omega
      have hnd := moved_nodup hB (fun t ht => (hBb t ht).1) m
      obtain ⟨T', hT'⟩ : ∃ T', T' = (moved B m).foldl turnV T := ⟨_, rfl⟩
      have hrT : Ris T' := by rw [hT']; exact (turns_mem _ T 0 hnd hT).1
      have hmg : mergedV T (moved B m) = T' := by rw [hT']; exact (turns_merged T _ hT hnd).symm
      have hX : ∀ f : Int → Bool, X T' f = (X T f ^^ X (0 :: B) (fun t => f (t + m))) := by
        intro f
        rw [hT', X_turns _ T f hT]
        unfold moved
        rw [X_map]
      have hM : ∀ t ∈ T', t ∈ T ∨ t = m ∨ ∃ b ∈ B, t = b + m := by
        intro t ht
        rw [hT'] at ht
        rcases (turns_mem _ T t hnd hT).2.1 ht with h | h
        · exact .inl h.1
        · right
          have h := h.1
          rw [moved_cons] at h
          rcases List.mem_cons.1 h with h | h
          · exact .inl h
          · obtain ⟨b, hb1, rfl⟩ := List.mem_map.1 h
            exact .inr ⟨b, hb1, rfl⟩
      obtain ⟨s1, s2⟩ := I.unlike hdis hX hM
      have e2 : wrap64 (2 * L) = L * 2 := by rw [wr (by omega) (by omega)]; omega
      have sp : ∀ k, 300 ≤ k → spec_ShortestTaps.l1 (k + B.length + 1) bits (turnV T m) B L m (n : Int) T (bits.length : Int) (n : Int) B (B.length : Int) 0 = _ := fun k hk =>
        spec_inner bits B T L m n bits.length hBb (by omega) (by omega) B.length _ k 0 (turnV T m) rfl (by omega) hk (turn_ris hT m) (fun t ht => by
          rcases (mem_turn T m t).1 ht with h | h
          · have := hTb t h.1; omega
          · omega)
      have im : ∀ k, 1500 ≤ k → impl_ShortestTaps.l1 (k + (0 :: B).length + 1) bits T (0 :: B) L m (n : Int) [] bits (bits.length : Int) (n : Int) (0 :: B) ((0 :: B).length : Int) 0 = _ := fun k hk =>
        impl_inner bits bits T (0 :: B) L m n bits.length (fun t ht => by
          rcases List.mem_cons.1 ht with rfl | ht
          · omega
          · have := hBb t ht; omega) (by omega) (by simp; omega) (by omega) (0 :: B).length _ k 0 [] rfl (by omega) hk (by simp)
      have ef : ((B.drop 0).map (fun t => t + m)).foldl turnV (turnV T m) = T' := by
        rw [hT', moved_cons, List.foldl_cons, List.drop_zero]
      have eg : mergedV T ([] ++ ((0 :: B).drop 0).map (fun t => t + m)) = T' := by
        rw [List.nil_append, List.drop_zero]; exact hmg
      rw [ef, e2] at sp
      rw [eg, e2] at im
      have st : ∀ k, 400 + B.length ≤ k → spec_ShortestTaps.l0 (k + 1) bits T B L m (bits.length : Int) (n : Int) = spec_ShortestTaps.l1 k bits (turnV T m) B L m (n : Int) T (bits.length : Int) (n : Int) B (B.length : Int) 0 := by
        intro k hk
        simp only [spec_ShortestTaps.l0, if_pos g1, if_pos g2, hnx k (by omega), Option.bind_some, sAt_rd g2]
        rw [if_neg q1, spec_turn T m hT (by omega) (by omega), Option.bind_some]
      have it : ∀ k, 400 + B.length ≤ k → impl_ShortestTaps.l0 (k + 1) bits T (0 :: B) L m bits (bits.length : Int) (n : Int) = impl_ShortestTaps.l1 k bits T (0 :: B) L m (n : Int) [] bits (bits.length : Int) (n : Int) (0 :: B) ((0 :: B).length : Int) 0 := by
        intro k hk
        simp only [impl_ShortestTaps.l0, if_pos g1, if_pos g2, tapped_eq, hnx k (by omega), Option.bind_some, sAt_rd g2]
        rw [if_neg q2]
      have hlc : (0 :: B).length = B.length + 1 := rfl
      by_cases hL : L * 2 > (n : Int)
      · obtain ⟨T2, B2, L2, m2, I2, hT2, hr⟩ := ih (n + 1) T' B L (m + 1) (by omega) (by have := s1 hL; rwa [← Int.natCast_succ] at this) hrT hB
        refine ⟨T2, B2, L2, m2, I2, hT2, fun k hk => ?_⟩
        have hL' : ¬ L * 2 ≤ (n : Int) := by omega
        obtain ⟨a, rfl⟩ : ∃ a, k = (a + B.length + 1) + 1 := ⟨k - B.length - 2, by omega⟩
        obtain ⟨b, hb'⟩ : ∃ b, a + B.length + 1 = b + (0 :: B).length + 1 := ⟨a - 1, by rw [hlc]; omega⟩
        rw [st _ (by omega), sp a (by omega), if_neg hL', it _ (by omega), hb', im b (by rw [hlc] at hb'; omega), if_pos hL, e1, wr (x := m + 1) (by omega) (by omega)]
        exact ⟨(hr a (by omega)).1, (hr b (by rw [hlc] at hb'; omega)).2⟩
      · obtain ⟨T2, B2, L2, m2, I2, hT2, hr⟩ := ih (n + 1) T' T ((n : Int) + 1 - L) 1 (by omega) (by have := s2 hL; rwa [← Int.natCast_succ] at this) hrT hT
        refine ⟨T2, B2, L2, m2, I2, hT2, fun k hk => ?_⟩
        have hL' : L * 2 ≤ (n : Int) := by omega
        have e3 : wrap64 (((n + 1 : Nat) : Int) - L) = (n : Int) + 1 - L := by rw [wr (by omega) (by omega)]; omega
        obtain ⟨a, rfl⟩ : ∃ a, k = (a + B.length + 1) + 1 := ⟨k - B.length - 2, by omega⟩
        obtain ⟨b, hb'⟩ : ∃ b, a + B.length + 1 = b + (0 :: B).length + 1 := ⟨a - 1, by rw [hlc]; omega⟩
        rw [st _ (by omega), sp a (by omega), if_pos hL', it _ (by omega), hb', im b (by rw [hlc] at hb'; omega), if_neg hL, e1, e3]
        exact ⟨(hr a (by omega)).1, (hr b (by rw [hlc] at hb'; omega)).2⟩
/-- What both texts answer: nothing for too many bits; else a register as Berlekamp and Massey find it. -/
theorem short_eq (bits : List Bool) : ∃ r : List Int × Int × Bool, (∀ k, 20000 ≤ k → spec_ShortestTaps.f k bits = some r ∧ impl_ShortestTaps.f k bits = some r) ∧
    (r = ([], 0, false) ∨ bits.length ≤ 40 ∧ topTap r.1 ≤ 12 ∧ r.2.2 = true ∧ Ris r.1 ∧ ∃ B m, BM (sAt bits) (bits.length : Int) r.1 B r.2.1 m) := by
  by_cases hb : (bits.length : Int) > 40
  · refine ⟨([], 0, false), fun k hk => ?_, .inl rfl⟩
    have h1 : ¬ (bits.length : Int) ≤ 40 := by omega
    unfold spec_ShortestTaps.f impl_ShortestTaps.f spec_l3Long.f
    rw [if_pos hb, Option.bind_some, if_neg (by simpa using h1)]
    exact ⟨rfl, rfl⟩
  · obtain ⟨T, B, L, m, I, hT, hr⟩ := short_loop bits (by omega) bits.length 0 [] [] 0 1 (by omega) (BM.start _) .nil .nil
    refine ⟨shortEnd T L, fun k hk => ?_, ?_⟩
    · have h1 : (bits.length : Int) ≤ 40 := by omega
      obtain ⟨r1, r2⟩ := hr k (by omega)
      unfold spec_ShortestTaps.f impl_ShortestTaps.f spec_l3Long.f
      rw [if_neg hb, Option.bind_some, if_pos (by simpa using h1)]
      exact ⟨r1, r2⟩
    · unfold shortEnd
      by_cases ht : topTap T > 12
      · rw [if_pos ht]; exact .inl rfl
      · rw [if_neg ht]; exact .inr ⟨by omega, by show topTap T ≤ 12; omega, rfl, hT, B, m, I⟩
theorem short_len {bits : List Bool} {r : List Int × Int × Bool} (h : r = ([], 0, false) ∨ bits.length ≤ 40 ∧ topTap r.1 ≤ 12 ∧ r.2.2 = true ∧ Ris r.1 ∧ ∃ B m, BM (sAt bits) (bits.length : Int) r.1 B r.2.1 m) : r.1.length ≤ 40 := by
  rcases h with rfl | ⟨h1, _, _, h2, B, m, I⟩
  · simp
  · have l0 := I.l0
    have ln := I.ln
    have := ris_len r.2.1 h2 (by omega) I.hT
    omega

/-! makes: MakesBits, in both texts -/
def makesV (taps : List Int) (long : Int) (bits : List Bool) : Bool × Bool :=
  if goodTaps taps = true ∧ topTap taps ≤ long ∧ long ≤ 40 ∧ (bits.length : Int) ≤ 40 then (genB (sAt bits) taps ((bits.length : Int) - long).toNat long, true) else (false, false)
theorem makes_loop (taps : List Int) (bits : List Bool) (hg : goodTaps taps = true) (hn : taps.length ≤ 35184372088832) (hb : bits.length ≤ 40) (d : Nat) : ∀ (k : Nat) (i : Int), 0 ≤ i → (bits.length : Int) - i = d → d + 1 + taps.length < k →
    spec_MakesBits.l0 k taps bits i = some (genB (sAt bits) taps d i, true) ∧ impl_MakesBits.l0 k taps bits i = some (genB (sAt bits) taps d i, true) := by
  induction d with
  | zero =>
    intro k i h0 hd hk
    obtain ⟨k, rfl⟩ : ∃ m, k = m + 1 := ⟨k - 1, by omega⟩
    have h : ¬ i < (bits.length : Int) := by omega
    simp only [spec_MakesBits.l0, impl_MakesBits.l0, if_neg h, genB, and_self]
  | succ d ih =>
    intro k i h0 hd hk
    obtain ⟨k, rfl⟩ : ∃ m, k = m + 1 := ⟨k - 1, by omega⟩
    have h1 : i < (bits.length : Int) := by omega
    have hm := goodTaps_mem hg
    have hv := spec_next (k := k) bits taps i h0 (by omega) (by omega) (fun t ht => by have := hm t ht; omega) hn (by omega)
    obtain ⟨r1, r2⟩ := ih k (i + 1) (by omega) (by omega) (by omega)
    simp only [spec_MakesBits.l0, impl_MakesBits.l0, if_pos h1, if_pos h0, tapped_eq, hv, Option.bind_some, sAt_rd h0, wr (x := i + 1) (by omega) (by omega), r1, r2, genB, Dis_eq]
    cases sAt bits i <;> cases X taps (fun t => sAt bits (i - t)) <;> simp
theorem makes_bits {k : Nat} (taps : List Int) (long : Int) (bits : List Bool) (hn : taps.length ≤ 35184372088832) (hk : 2 * taps.length + 100 < k) :
    spec_MakesBits.f k taps long bits = some (makesV taps long bits) ∧ impl_MakesBits.f k taps long bits = some (makesV taps long bits) := by
  obtain ⟨k, rfl⟩ : ∃ m, k = m + 1 := ⟨k - 1, by omega⟩
  unfold spec_MakesBits.f impl_MakesBits.f makesV spec_l3Long.f
  rw [spec_goodTaps taps hn (by omega), impl_goodTaps taps hn (by omega), impl_top, spec_top taps hn]
  simp only [Option.bind_some, within_eq, in_some, spec_MakesBits.j0, impl_MakesBits.j0]
  by_cases hg : goodTaps taps = true
  · by_cases hl : topTap taps ≤ long ∧ long ≤ 40
    · by_cases hb : (bits.length : Int) ≤ 40
      · have ht := topTap_nonneg hg
        by_cases hz : long ≤ (bits.length : Int)
        · obtain ⟨r1, r2⟩ := makes_loop taps bits hg hn (by omega) ((bits.length : Int) - long).toNat k long (by omega) (by omega) (by omega)
          have hb' : ¬ (bits.length : Int) > 40 := by omega
          simp [hg, hl, hb, r1, r2]
        · obtain ⟨k, rfl⟩ : ∃ m, k = m + 1 := ⟨k - 1, by omega⟩
          have h : ¬ long < (bits.length : Int) := by omega
          have e : ((bits.length : Int) - long).toNat = 0 := by omega
          simp [hg, hl, hb, spec_MakesBits.l0, impl_MakesBits.l0, h, e, genB]
      · have hb' : (bits.length : Int) > 40 := by omega
        simp [hg, hl, hb, hb']
    · have hd : (decide (topTap taps ≤ long) && decide (long ≤ 40)) = false := by simpa using hl
      have hx : ¬ (topTap taps ≤ long ∧ long ≤ 40 ∧ (bits.length : Int) ≤ 40) := by omega
      simp [hg, hd, hx]
  · simp [hg]

/-! leastlaw: the register found makes the bits, and no shorter one does -/
theorem rise_iff : ∀ l : List Int, rise l = true ↔ Ris l
  | [] => by simp [rise, Ris]
  | [x] => by simp [rise, Ris]
  | x :: y :: l => by
    have ih := rise_iff (y :: l)
    simp only [rise, Bool.and_eq_true, decide_eq_true_eq, ih]
    constructor
    · rintro ⟨h1, h2⟩
      refine List.pairwise_cons.2 ⟨fun z hz => ?_, h2⟩
      rcases List.mem_cons.1 hz with rfl | hz
      · exact h1
      · have := (List.pairwise_cons.1 h2).1 z hz; omega
    · intro h
      obtain ⟨h1, h2⟩ := List.pairwise_cons.1 h
      exact ⟨h1 y List.mem_cons_self, h2⟩
theorem ris_top {l : List Int} (h : Ris l) : ∀ x ∈ l, x ≤ topTap l := by
  unfold topTap
  rcases List.eq_nil_or_concat l with rfl | ⟨l', z, rfl⟩
  · intro x hx; cases hx
  · rw [List.concat_eq_append] at h
    intro x hx
    rw [List.concat_eq_append] at hx
    have e : (l'.concat z).getLast?.getD 0 = z := by simp
    rw [e]
    rcases List.mem_append.1 hx with hx | hx
    · have := (List.pairwise_append.1 h).2.2 x hx z (by simp); omega
    · simp at hx; omega
theorem top_le {l : List Int} {L : Int} (h0 : 0 ≤ L) (h : ∀ t ∈ l, t ≤ L) : topTap l ≤ L := by
  unfold topTap
  rcases List.eq_nil_or_concat l with rfl | ⟨l', z, rfl⟩
  · simpa using h0
  · have := h z (by simp)
    simpa using this
theorem found_good {bits : List Bool} {T B : List Int} {L m : Int} (hb : bits.length ≤ 40) (h12 : topTap T ≤ 12) (hT : Ris T) (I : BM (sAt bits) (bits.length : Int) T B L m) : makesV T L bits = (true, true) := by
  have l0 := I.l0
  have ln := I.ln
  have hg : goodTaps T = true := by
    unfold goodTaps inAll
    rw [(rise_iff T).2 hT, Bool.true_and, List.all_eq_true]
    intro x hx
    have h1 := ris_top hT x hx
    have h2 := I.hT x hx
    simp; omega
  have hc : goodTaps T = true ∧ topTap T ≤ L ∧ L ≤ 40 ∧ (bits.length : Int) ≤ 40 := ⟨hg, top_le l0 (fun t ht => (I.hT t ht).2), by omega, by omega⟩
  unfold makesV
  rw [if_pos hc]
  have : genB (sAt bits) T ((bits.length : Int) - L).toNat L = true := by
    rw [genB_iff]
    intro j h1 h2
    exact I.gT j h1 (by omega)
  rw [this]
theorem none_less {bits : List Bool} {T B : List Int} {L m : Int} (I : BM (sAt bits) (bits.length : Int) T B L m) (U : List Int) (n : Int) (h0 : 0 ≤ n) (hn : n < L) : ¬ ((makesV U n bits).2 = true ∧ (makesV U n bits).1 = true) := by
  unfold makesV
  by_cases hc : goodTaps U = true ∧ topTap U ≤ n ∧ n ≤ 40 ∧ (bits.length : Int) ≤ 40
  · rw [if_pos hc]
    rintro ⟨_, h⟩
    have hg : genB (sAt bits) U ((bits.length : Int) - n).toNat n = true := h
    rw [genB_iff] at hg
    have hr : Ris U := by
      have := hc.1
      unfold goodTaps at this
      rw [Bool.and_eq_true] at this
      exact (rise_iff U).1 this.1
    have := I.least U n h0 (fun t ht => ⟨(goodTaps_mem hc.1 t ht).1, by have := ris_top hr t ht; omega⟩) (fun i h1 h2 => hg i h1 (by omega))
    omega
  · rw [if_neg hc]; simp

/-! sameints: a list is the same as itself -/
theorem sameints_loop (a : List Int) (hn : a.length ≤ 35184372088832) (d : Nat) : ∀ (k : Nat) (i : Nat), i + d = a.length → d < k → laws_sameInts.l0 k a a (a.length : Int) (i : Int) = some true := by
  induction d with
  | zero =>
    intro k i hd hk
    obtain ⟨k, rfl⟩ : ∃ m, k = m + 1 := ⟨k - 1, by omega⟩
    simp only [laws_sameInts.l0]
    rw [if_neg (by omega)]
  | succ d ih =>
    intro k i hd hk
    obtain ⟨k, rfl⟩ : ∃ m, k = m + 1 := ⟨k - 1, by omega⟩
    have h1 : (i : Int) < (a.length : Int) := by omega
    have h2 : (0 : Int) ≤ (i : Int) := by omega
    simp only [laws_sameInts.l0]
    rw [if_pos h1, if_pos h2, if_pos h1, if_pos h1, if_pos trivial, wr_succ i (by omega)]
    exact ih k (i + 1) (by omega) (by omega)
theorem sameints {k : Nat} (a : List Int) (hn : a.length ≤ 35184372088832) (hk : a.length < k) : laws_sameInts.f k a a = some true := by
  unfold laws_sameInts.f
  rw [if_pos rfl]
  exact sameints_loop a hn a.length k 0 (by omega) hk

theorem taps_j3 {more : List Int} (hb : Byt more) (k : Nat) (hk : 2000 < k) : laws_FnTaps.j3 (k + 1) more = some true := by
  simp only [laws_FnTaps.j3]
  obtain ⟨u, n, b, e1, l1⟩ := drawmakes_ok hb (k := k) (by omega)
  obtain ⟨s1, i1⟩ := makes_bits (k := k) u n b (by omega) (by omega)
  rw [e1, Option.bind_some, i1, Option.bind_some, s1, Option.bind_some]
  simp only [beq_self_eq_true, if_true]
  rw [impl_goodTaps u (by omega) (by omega), Option.bind_some, spec_goodTaps u (by omega) (by omega), Option.bind_some, beq_self_eq_true]
theorem taps_loop {more : List Int} (hb : Byt more) {bits : List Bool} {T B : List Int} {L m : Int} (I : BM (sAt bits) (bits.length : Int) T B L m) (hL : L ≤ 1000) (U : List Int) (hU : U.length ≤ 20) (d : Nat) :
    ∀ (k : Nat) (n : Int), (L - n).toNat = d → 0 ≤ n → d + 3000 < k → laws_FnTaps.l0 k more bits L U n = some true := by
  induction d with
  | zero =>
    intro k n hd h0 hk
    obtain ⟨k, rfl⟩ : ∃ j, k = j + 2 := ⟨k - 2, by omega⟩
    simp only [laws_FnTaps.l0]
    rw [if_neg (by omega)]
    exact taps_j3 hb k (by omega)
  | succ d ih =>
    intro k n hd h0 hk
    obtain ⟨k, rfl⟩ : ∃ j, k = j + 1 := ⟨k - 1, by omega⟩
    have g : n < L := by omega
    have hn := none_less I U n h0 g
    have hi := ih k (n + 1) (by omega) (by omega) (by omega)
    simp only [laws_FnTaps.l0]
    rw [if_pos g, (makes_bits (k := k) U n bits (by omega) (by omega)).2, Option.bind_some, wr (x := n + 1) (by omega) (by omega), hi]
    by_cases c2 : (makesV U n bits).2 = true
    · rw [if_pos c2]
      by_cases c1 : (makesV U n bits).1 = true
      · exact absurd ⟨c2, c1⟩ hn
      · rw [if_neg c1]
    · rw [if_neg c2]
theorem FnTaps : ∀ (l0 : List Int) (l1 : List Int), l0.length ≤ maxLen → (∀ n ∈ l0, (Lit.int .u8 n).wf = true) → l1.length ≤ maxLen → (∀ n ∈ l1, (Lit.int .u8 n).wf = true) → ∃ k, laws_FnTaps.f k l0 l1 = some true := by
  intro code more _ h1 _ h2
  refine ⟨60000, ?_⟩
  have hc := byt_of h1
  have hm := byt_of h2
  unfold laws_FnTaps.f
  by_cases h : wrap64 ((code.length : Int) + (more.length : Int)) > 1048576
  · rw [if_pos h]
  · obtain ⟨bits, e1⟩ := drawshort_ok hc (k := 60000) (by omega)
    obtain ⟨r, hr, hv⟩ := short_eq bits
    have hl := short_len hv
    obtain ⟨s1, i1⟩ := hr 60000 (by omega)
    rw [if_neg h, e1, Option.bind_some, i1, Option.bind_some, s1, Option.bind_some]
    simp only [bne_self_eq_false, Bool.false_eq_true, if_false, if_true]
    rw [sameints (k := 60000) r.1 (by omega) (by omega), Option.bind_some]
    show laws_FnTaps.j0 (59999 + 1) more bits r.1 r.2.1 r.2.2 (!true) = some true
    simp only [laws_FnTaps.j0, Bool.not_true, Bool.false_eq_true, if_false]
    rcases hv with rfl | ⟨hb, h12, hok, hT, B, m, I⟩
    · simp only [Bool.false_eq_true, if_false]
      exact taps_j3 hm 59998 (by omega)
    · have ln := I.ln
      have hn : ¬ r.2.1 > (bits.length : Int) := by omega
      rw [if_pos hok, (makes_bits (k := 59999) r.1 r.2.1 bits (by omega) (by omega)).2, Option.bind_some, found_good hb h12 hT I]
      simp only [if_true]
      rw [decide_eq_false hn]
      show laws_FnTaps.j1 (59998 + 1) more bits r.2.1 false = some true
      simp only [laws_FnTaps.j1, Bool.false_eq_true, if_false]
      obtain ⟨t, f, n, e2, l1, l2⟩ := drawstream_ok hm (k := 59998) (by omega)
      rw [e2, Option.bind_some]
      exact taps_loop hm I (by omega) t l1 _ 59998 0 rfl (by omega) (by omega)

end Go.Proofs.Yticchbgbbnpgoaa.Pure
