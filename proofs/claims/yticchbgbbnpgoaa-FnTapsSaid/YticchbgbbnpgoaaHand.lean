/- slices.Sort and slices.Grow over a row of whole numbers of the call's own, in the form that the print's texts take (out of the shelf's contracts, laid at this program). -/
import Derived.Test.YticchbgbbnpgoaaProg
import Derived.KernelRfl
import Derived.Shelf.Spec.SlicesGrow
import Derived.Shelf.SortG.SortNone
import Derived.Shelf.SortG.Plain
import Derived.Sort.OwnSortedInts
import Derived.Test.YticchbgbbnpgoaaWMore
import Derived.Test.YticchbgbbnpgoaaWLast
import Derived.Test.YticchbgbbnpgoaaWKept
namespace Go.Proofs.Yticchbgbbnpgoaa
open Go.RowKit Go.Shelf Go.Sort Go.Proofs Go.Proofs.YticchbgbbnpgoaaW.PrintWords Go.Proofs.YticchbgbbnpgoaaW.PrintLast Go.Proofs.YticchbgbbnpgoaaW.PrintMore
set_option linter.unusedVariables false
def Try.grow80_ren : Go.Shelf.Ren := ⟨fun | 4 => 80 | n => n, fun | 22 => 28 | 25 => 3 | 3 => 3 | 4 => 4 | 9 => 9 | 20 => 20 | 0 => 0 | n => n, fun | n => n⟩
theorem Try.grow80 : Go.Proofs.Lays8.n4 Try.prog Try.grow80_ren := {
  mixed := by kernel_rfl
  f4 := ⟨Try.f80.name, by decide, Try.func80.trans (congrArg some (by kernel_rfl))⟩
  t0 := Try.underlying0
  a0 := Try.isAgg0
  z0 := Try.sizeOf0
  v0 := Try.zeroValue0
  t3 := Try.underlying3
  a3 := Try.isAgg3
  z3 := Try.sizeOf3
  v3 := Try.zeroValue3
  t4 := Try.underlying4
  a4 := Try.isAgg4
  z4 := Try.sizeOf4
  v4 := Try.zeroValue4
  t9 := Try.underlying9
  a9 := Try.isAgg9
  z9 := Try.sizeOf9
  v9 := Try.zeroValue9
  t20 := Try.underlying20
  a20 := Try.isAgg20
  z20 := Try.sizeOf20
  v20 := Try.zeroValue20
  t22 := Try.underlying28
  a22 := Try.isAgg28
  z22 := Try.sizeOf28
  v22 := Try.zeroValue28 }
def Try.sort76_ren : Go.Shelf.Ren := ⟨fun | 53 => 76 | 64 => 83 | 63 => 82 | 78 => 93 | 79 => 94 | 70 => 84 | 71 => 85 | 72 => 86 | 73 => 87 | 74 => 88 | 75 => 89 | 59 => 90 | 76 => 91 | 77 => 92 | 88 => 95 | 89 => 96 | 90 => 97 | 91 => 98 | 92 => 99 | 68 => 100 | 96 => 101 | n => n, fun | 22 => 28 | 23 => 3 | 3 => 3 | 51 => 62 | 0 => 0 | 67 => 97 | 69 => 69 | 4 => 4 | 61 => 91 | 60 => 90 | 44 => 54 | 5 => 5 | 9 => 9 | 75 => 99 | 79 => 103 | 83 => 105 | 84 => 106 | n => n, fun | n => n⟩
theorem Try.sort76 : Go.Proofs.SlLaysN.n53 Try.prog Try.sort76_ren := {
  mixed := by kernel_rfl
  f53 := ⟨Try.f76.name, by decide, Try.func76.trans (congrArg some (by kernel_rfl))⟩
  f59 := ⟨Try.f90.name, by decide, Try.func90.trans (congrArg some (by kernel_rfl))⟩
  f63 := ⟨Try.f82.name, by decide, Try.func82.trans (congrArg some (by kernel_rfl))⟩
  f64 := Try.func83.trans (congrArg some (by kernel_rfl))
  f68 := ⟨Try.f100.name, by decide, Try.func100.trans (congrArg some (by kernel_rfl))⟩
  f70 := ⟨Try.f84.name, by decide, Try.func84.trans (congrArg some (by kernel_rfl))⟩
  f71 := ⟨Try.f85.name, by decide, Try.func85.trans (congrArg some (by kernel_rfl))⟩
  f72 := ⟨Try.f86.name, by decide, Try.func86.trans (congrArg some (by kernel_rfl))⟩
  f73 := ⟨Try.f87.name, by decide, Try.func87.trans (congrArg some (by kernel_rfl))⟩
  f74 := ⟨Try.f88.name, by decide, Try.func88.trans (congrArg some (by kernel_rfl))⟩
  f75 := ⟨Try.f89.name, by decide, Try.func89.trans (congrArg some (by kernel_rfl))⟩
  f76 := ⟨Try.f91.name, by decide, Try.func91.trans (congrArg some (by kernel_rfl))⟩
  f77 := ⟨Try.f92.name, by decide, Try.func92.trans (congrArg some (by kernel_rfl))⟩
  f78 := Try.func93.trans (congrArg some (by kernel_rfl))
  f79 := Try.func94.trans (congrArg some (by kernel_rfl))
  f88 := ⟨Try.f95.name, by decide, Try.func95.trans (congrArg some (by kernel_rfl))⟩
  f89 := Try.func96.trans (congrArg some (by kernel_rfl))
  f90 := Try.func97.trans (congrArg some (by kernel_rfl))
  f91 := ⟨Try.f98.name, by decide, Try.func98.trans (congrArg some (by kernel_rfl))⟩
  f92 := ⟨Try.f99.name, by decide, Try.func99.trans (congrArg some (by kernel_rfl))⟩
  f96 := ⟨Try.f101.name, by decide, Try.func101.trans (congrArg some (by kernel_rfl))⟩
  t0 := Try.underlying0
  a0 := Try.isAgg0
  z0 := Try.sizeOf0
  v0 := Try.zeroValue0
  t3 := Try.underlying3
  a3 := Try.isAgg3
  z3 := Try.sizeOf3
  v3 := Try.zeroValue3
  t4 := Try.underlying4
  a4 := Try.isAgg4
  z4 := Try.sizeOf4
  v4 := Try.zeroValue4
  t5 := Try.underlying5
  a5 := Try.isAgg5
  z5 := Try.sizeOf5
  v5 := Try.zeroValue5
  t9 := Try.underlying9
  a9 := Try.isAgg9
  z9 := Try.sizeOf9
  v9 := Try.zeroValue9
  t22 := Try.underlying28
  a22 := Try.isAgg28
  z22 := Try.sizeOf28
  v22 := Try.zeroValue28
  t23 := Try.underlying3
  a23 := Try.isAgg3
  z23 := Try.sizeOf3
  v23 := Try.zeroValue3
  t44 := Try.underlying54
  a44 := Try.isAgg54
  z44 := Try.sizeOf54
  v44 := Try.zeroValue54
  t51 := Try.underlying62
  a51 := Try.isAgg62
  z51 := Try.sizeOf62
  v51 := Try.zeroValue62
  t60 := Try.underlying90
  a60 := Try.isAgg90
  z60 := Try.sizeOf90
  v60 := Try.zeroValue90
  t61 := Try.underlying91
  a61 := Try.isAgg91
  z61 := Try.sizeOf91
  v61 := Try.zeroValue91
  t67 := Try.underlying97
  a67 := Try.isAgg97
  z67 := Try.sizeOf97
  v67 := Try.zeroValue97
  t69 := Try.underlying69
  a69 := Try.isAgg69
  z69 := Try.sizeOf69
  v69 := Try.zeroValue69
  t75 := Try.underlying99
  a75 := Try.isAgg99
  z75 := Try.sizeOf99
  v75 := Try.zeroValue99
  t79 := Try.underlying103
  a79 := Try.isAgg103
  z79 := Try.sizeOf103
  v79 := Try.zeroValue103
  t83 := Try.underlying105
  a83 := Try.isAgg105
  z83 := Try.sizeOf105
  v83 := Try.zeroValue105
  t84 := Try.underlying106
  a84 := Try.isAgg106
  z84 := Try.sizeOf106
  v84 := Try.zeroValue106 }
section
variable {W w0 w : World} {base g c : Nat} {ok P0_ : Nat → Prop} {xs : List Int}
/-- A row of whole numbers, opened. -/
theorem int_R_form {v : Value} (HO : Kd.R (Kd.int .i64) 3 W base ok v xs) :
    (v = .slice none 0 0 ∧ xs = []) ∨ ∃ g c cur, v = .slice (some ⟨g, 0, none⟩) xs.length c ∧ ok g ∧ base ≤ g ∧ W.heap[g]? = some (.cells cur 3 (0, 0)) ∧ xs.length ≤ c ∧ c ≤ maxLen ∧ cur.size = c * 1 ∧ cur.toList.take xs.length = xs.map (Value.int .i64) := by
  obtain ⟨hok, inner, hown, hr⟩ := HO
  rcases hown.2 with ⟨hv, hn⟩ | ⟨g, c, cur, hv, hb, hh, h1, h2, h3, h4⟩
  · exact .inl ⟨hv, List.length_eq_zero_iff.1 hn⟩
  · refine .inr ⟨g, c, cur, hv, hok g (by rw [hv]; rfl), hb, hh, h1, h2, h3, ?_⟩
    have h4' : cur.toList.take xs.length = inner := by rw [← h4]; show _ = cur.toList.take (xs.length * 1); rw [Nat.mul_one]
    rw [h4']
    have hl : inner.length = xs.length := by rw [hr.1]; exact Nat.mul_one _
    apply List.ext_getElem?
    intro j
    by_cases hj : j < xs.length
    · have h5 := hr.2 j xs[j] (List.getElem?_eq_getElem hj)
      have h6 : (inner.drop (j * 1)).take 1 = [Value.int .i64 xs[j]] := h5
      rw [List.getElem?_map, List.getElem?_eq_getElem hj, Option.map_some]
      have h7 : ((inner.drop (j * 1)).take 1)[0]? = some (Value.int .i64 xs[j]) := by rw [h6]; rfl
      rw [List.getElem?_take_of_lt (by omega), List.getElem?_drop, Nat.mul_one, Nat.add_zero] at h7
      exact h7
    · rw [List.getElem?_eq_none (by omega), List.getElem?_eq_none (by simp; omega)]
/-- .. and shut. -/
theorem int_R_of {cur : Array Value} (hok : ok g) (hb : base ≤ g) (hh : W.heap[g]? = some (.cells cur 3 (0, 0))) (h1 : xs.length ≤ c) (h2 : c ≤ maxLen) (h3 : cur.size = c * 1) (h4 : cur.toList.take xs.length = xs.map (Value.int .i64)) :
    Kd.R (Kd.int .i64) 3 W base ok (.slice (some ⟨g, 0, none⟩) xs.length c) xs := by
  refine ⟨fun k hk => ?_, xs.map (Value.int .i64), ⟨?_, .inr ⟨g, c, cur, rfl, hb, hh, h1, h2, h3, ?_⟩⟩, ?_, ?_⟩
  · have : g = k := by simpa [Value.ownBlock] using hk
    subst this; exact hok
  · rw [List.length_map]; exact (Nat.mul_one _).symm
  · show cur.toList.take (xs.length * 1) = _
    rw [Nat.mul_one]; exact h4
  · rw [List.length_map]; exact (Nat.mul_one _).symm
  · intro j p hj
    obtain ⟨hj1, hj2⟩ := List.getElem?_eq_some_iff.1 hj
    show ((xs.map (Value.int .i64)).drop (j * 1)).take 1 = [Value.int .i64 p]
    rw [Nat.mul_one, List.drop_eq_getElem_cons (by simpa using hj1), List.take_succ_cons, List.take_zero, List.getElem_map, hj2]
theorem sort_R {v : Value} (hB : Below w0.heap.size w0 w) (ho : Kd.R (Kd.int .i64) 3 w w0.heap.size P0_ v xs) (hl : xs.length < 17592186044416) :
    Calls Try.prog 76 #[v] w fun e w' => e = .returned (.tuple #[]) ∧ Kd.R (Kd.int .i64) 3 w' w0.heap.size (fun k_ => (P0_ k_ ∨ w.heap.size ≤ k_)) v (xs.mergeSort fun x y => decide (x ≤ y)) ∧ Below w0.heap.size w0 w' ∧ Kept w w' (fun k_ => P0_ k_) := by
  rcases int_R_form ho with ⟨rfl, rfl⟩ | ⟨g, c, cur, rfl, hok, hb, hh, h1, h2, h3, h4⟩
  · have H : Calls Try.prog 76 #[.slice none 0 0] w _ := AnyG.slices_Sort_int_none Try.sort76 none 0 w
    refine H.mono ?_
    rintro e w' ⟨rfl, rfl⟩
    refine ⟨rfl, ?_, hB, Kept.refl _ _⟩
    rw [List.mergeSort_nil]
    exact Kd.R_mono ho (fun _ h => .inl h)
  · have H : Calls Try.prog 76 #[.slice (some ⟨g, 0, none⟩) xs.length c] w _ := AnyG.slices_Sort_int Try.sort76 g 0 c xs w (holds_of_blockI hh h4) (Array.getElem?_eq_some_iff.1 hh).1 (by omega)
    refine H.mono ?_
    rintro e w' ⟨rfl, n, os, rfl⟩
    have hg : w.grownBy (grow (putRow (Value.int .i64) (Sort.ahead w n) g 0 (xs.mergeSort fun x y => decide (x ≤ y)).toArray) os) (some g) := grownBy_sortedI _
    have hsz : (xs.mergeSort fun x y => decide (x ≤ y)).length = xs.length := List.length_mergeSort xs
    refine ⟨rfl, ?_, hB.grown hg hB.size (fun k hk => by injection hk with hk; subst hk; exact hb), hg.size, fun i hi hs => hg.block i hi (fun he => by injection he with he; subst he; exact hs hok)⟩
    have := int_R_of (W := grow (putRow (Value.int .i64) (Sort.ahead w n) g 0 (xs.mergeSort fun x y => decide (x ≤ y)).toArray) os) (base := w0.heap.size) (ok := fun k_ => (P0_ k_ ∨ w.heap.size ≤ k_)) (g := g) (c := c) (xs := xs.mergeSort fun x y => decide (x ≤ y)) (.inl hok) hb (heap_sortedI _ hh) (by omega) h2 (by simp [putCells, h3]) (take_putCellsI cur _ (by omega))
    rw [hsz] at this
    exact this
theorem grow_R {v : Value} {n : Int} (hB : Below w0.heap.size w0 w) (ho : Kd.R (Kd.int .i64) 3 w w0.heap.size P0_ v []) (hn0 : 0 ≤ n) (hn : n < 17592186044416) :
    Calls Try.prog 80 #[v, .int .i64 n] w fun e w' => ∃ v0_ : Value, e = .returned v0_ ∧ Kd.R (Kd.int .i64) 3 w' w0.heap.size (fun k_ => (P0_ k_ ∨ w.heap.size ≤ k_)) v0_ [] ∧ Below w0.heap.size w0 w' ∧ Kept w w' (fun k_ => P0_ k_) := by
  obtain ⟨m, rfl⟩ := Int.eq_ofNat_of_zero_le hn0
  obtain ⟨A, c, hv, hc, hcs⟩ : ∃ (A : Option Addr) (c : Nat), v = .slice A 0 c ∧ c ≤ maxLen ∧ ∃ cs : List Value, cs.length = c * 1 ∧ (A = none → c = 0) ∧ ∀ a, A = some a → ∀ j u, cs[j]? = some u → w.cell? (a.add j) = some u := by
    rcases int_R_form ho with ⟨rfl, _⟩ | ⟨g, c, cur, rfl, hok, hb, hh, h1, h2, h3, h4⟩
    · exact ⟨none, 0, rfl, by unfold maxLen; omega, [], rfl, fun _ => rfl, fun _ h => by cases h⟩
    · refine ⟨_, c, rfl, h2, cur.toList, by simpa using h3, (fun h => by cases h), fun a ha j u hu => ?_⟩
      injection ha with ha
      subst ha
      rw [Addr.add_lit, Nat.zero_add, cell_of_row w g j cur 3 (0, 0) hh, ← Array.getElem?_toList]
      exact hu
  subst hv
  obtain ⟨cs, hcl, hnil, hcell⟩ := hcs
  have hc' : c ≤ 9223372036854775807 := by unfold maxLen at hc; omega
  by_cases hroom : m ≤ c
  · have H : Calls Try.prog 80 #[.slice A 0 c, .int .i64 (m : Int)] w _ := Any8.slices_Grow_room Try.grow80 A 0 c m w (Nat.zero_le _) hc' (by omega) (by omega)
    refine H.mono ?_
    rintro e w' ⟨rfl, rfl⟩
    exact ⟨_, rfl, Kd.R_mono ho (fun _ h => .inl h), hB, Kept.refl _ _⟩
  · obtain ⟨i0, hi0, hz0, hs0, hb0⟩ : ∃ i0, Try.prog.info? 3 = some i0 ∧ i0.zero = some (.int .i64 0) ∧ i0.size = 1 ∧ i0.bytes = 8 := by
      have h : (Try.prog.info? 3).map (fun i => (i.zero, i.size, i.bytes)) = some (some (.int .i64 0), 1, 8) := by kernel_rfl
      obtain ⟨i0, h1, h2⟩ := Option.map_eq_some_iff.1 h
      refine ⟨i0, h1, ?_, ?_, ?_⟩ <;> simp_all
    have H : Calls Try.prog 80 #[.slice A 0 c, .int .i64 (m : Int)] w fun e w' => e = .returned (.slice (some ⟨w.heap.size, 0, none⟩) 0 (grownCap w (0 + m) c 3)) ∧
        w' = w.drew.alloc (.cells (cs.toArray ++ Builtin.zeroCells (Value.int .i64 0).cells (0 + m - c) ++ Builtin.zeroCells (Value.int .i64 0).cells (grownCap w (0 + m) c 3 - (0 + m))) 3) :=
      Any8.slices_Grow_grow Try.grow80 i0 (.int .i64 0) hi0 hz0 (by omega) A 0 c m cs w (Nat.zero_le _) (by omega) (by rw [hb0]; omega) (by omega) (by rw [hs0]; exact hcl) hnil hcell
    have hge : 0 + m ≤ grownCap w (0 + m) c 3 := grownCap_ge _ _ _ _
    have hle : grownCap w (0 + m) c 3 ≤ maxLen := grownCap_le_maxLen _ _ _ _ (by unfold maxLen; omega)
    generalize grownCap w (0 + m) c 3 = G at H hge hle
    refine H.mono ?_
    rintro e w' ⟨rfl, rfl⟩
    have hbel : Below w.heap.size w (w.drew.alloc (.cells (cs.toArray ++ Builtin.zeroCells (Value.int .i64 0).cells (0 + m - c) ++ Builtin.zeroCells (Value.int .i64 0).cells (G - (0 + m))) 3)) := below_alloc (below_drew (Below.refl _ _)) _
    refine ⟨_, rfl, ?_, hB.trans (hbel.mono hB.size), Kept.of_below hbel _⟩
    have hzs : ∀ n, (Builtin.zeroCells (Value.int .i64 0).cells n).size = n := fun n => by simp [Builtin.zeroCells, Value.cells]
    exact int_R_of (xs := []) (.inr (Nat.le_refl _)) hB.size (heap_alloc_new w.drew _) (Nat.zero_le _) hle (by
      rw [Array.size_append, Array.size_append, hzs, hzs]
      have : cs.toArray.size = c := by simp; omega
      omega) rfl
end
end Go.Proofs.Yticchbgbbnpgoaa
