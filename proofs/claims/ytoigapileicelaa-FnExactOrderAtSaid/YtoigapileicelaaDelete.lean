import Derived.Test.YtoigapileicelaaProg
import Derived.Shelf.Slices.Cells
import Derived.KernelRfl
import Derived.Test.YtoigapileicelaaWMore
import Derived.Laws.Rows
namespace Go.Proofs.Ytoigapileicelaa
open Go.RowKit Go.Proofs.YtoigapileicelaaW.PrintWords Go.Proofs.YtoigapileicelaaW.PrintLast Go.Proofs.YtoigapileicelaaW.PrintMore Go.Shelf
def dren : Ren := { f := fun _ => 77, t := fun n => if n = 22 then 27 else n, g := fun n => n }
set_option maxRecDepth 100000 in
theorem dlay : Lays2.n23 Try.prog dren := {
  mixed := by kernel_rfl
  f23 := by kernel_rfl
  t0 := by kernel_rfl
  a0 := fun w => by rfl
  z0 := fun w => by rfl
  v0 := fun w => by rfl
  t3 := by kernel_rfl
  a3 := fun w => by rfl
  z3 := fun w => by rfl
  v3 := fun w => by rfl
  t4 := by kernel_rfl
  a4 := fun w => by rfl
  z4 := fun w => by rfl
  v4 := fun w => by rfl
  t22 := by kernel_rfl
  a22 := fun w => by rfl
  z22 := fun w => by rfl
  v22 := fun w => by rfl
  i3 := by kernel_rfl }

/-- slices.Delete of one element of a row of one's own, in place. -/
theorem delete_one {W : World} (base : Nat) {ok : Nat → Prop} {g n c k : Nat} {xs : List Int} (HO : Kd.R (Kd.int .i64) 3 W base ok (.slice (some ⟨g, 0, none⟩) n c) xs) (hk : k < n) :
    Calls Try.prog 77 #[.slice (some ⟨g, 0, none⟩) n c, .int .i64 (k : Int), .int .i64 ((k + 1 : Nat) : Int)] W fun e w' => e = .returned (.slice (some ⟨g, 0, none⟩) (n - 1) c) ∧ Kd.R (Kd.int .i64) 3 w' base ok (.slice (some ⟨g, 0, none⟩) (n - 1) c) (xs.eraseIdx k) ∧ W.grownBy w' (some g) := by
  obtain ⟨hn, hnc, hC⟩ := Kd.R_reads' HO
  obtain ⟨hok, inner, hown, hr⟩ := HO
  have hin0 : inner.length = n * 1 := by rw [hr.1, hn]; rfl
  rcases hown.2 with ⟨hv, _⟩ | ⟨g', cap', cur, hv, hb, hh, _, hcm, hcs, htake⟩
  · cases hv
  injection hv with ha _ hc
  injection ha with ha
  injection ha with hg
  subst hg; subst hc
  have hcell : ∀ j, j < xs.length → W.cell? ⟨g, 0 + j, none⟩ = some (.int .i64 (xs.getD j 0)) := by
    intro j hj
    obtain ⟨ad, e, hx⟩ := Kd.at_int hC (j : Int) (by omega) (by omega)
    injection e with e
    subst e
    rw [Int.toNat_natCast] at hx
    rw [Addr.add_lit] at hx
    rw [hx]
    unfold rd
    rw [Int.toNat_natCast]
  have hinner : inner = xs.map (Value.int .i64) := by
    apply List.ext_getElem?
    intro j
    by_cases hj : j < n
    · have h1 := hcell j (by omega)
      rw [Nat.zero_add, cell_of_row W g j cur 3 (0, 0) hh, ← Array.getElem?_toList] at h1
      rw [← htake, List.getElem?_take, if_pos (show j < xs.length * (Kd.int .i64).sz by show j < xs.length * 1; omega), h1, List.getElem?_map, List.getElem?_eq_getElem (show j < xs.length by omega), Option.map_some, List.getD_eq_getElem?_getD, List.getElem?_eq_getElem (show j < xs.length by omega)]
      rfl
    · rw [List.getElem?_eq_none (by omega), List.getElem?_eq_none (by simp; omega)]
  have hfr : ∀ j, j < n → W.frozen? ⟨g, 0 + j, none⟩ = false := fun j _ => blk_frozen hh _
  have hcm' : c ≤ 9223372036854775807 := by unfold maxLen at hcm; omega
  have H : Calls Try.prog 77 #[.slice (some ⟨g, 0, none⟩) n c, .int .i64 (k : Int), .int .i64 ((k + 1 : Nat) : Int)] W _ := Any.slices_Delete_int_cells dlay g 0 n c k (k + 1) xs W (by omega) hnc hcm' (by omega) (by omega) hcell hfr
  refine H.mono ?_
  rintro e w' ⟨rfl, q, rfl⟩
  have hxs : xs.take n = xs := List.take_of_length_le (by omega)
  rw [hxs, show n - (k + 1 - k) = n - 1 by omega, show k + 1 - k = 1 by omega]
  obtain ⟨L, hL⟩ : ∃ L, L = (xs.take k ++ xs.drop (k + 1) ++ List.replicate 1 (0 : Int)).map (Value.int .i64) := ⟨_, rfl⟩
  rw [← hL]
  have hLl : L.length = n := by rw [hL]; simp; omega
  have hh' : (W.drewN q).heap[g]? = some (.cells cur 3 (0, 0)) := hh
  have hcur : n ≤ cur.size := by
    have : cur.size = c * 1 := hcs
    omega
  obtain ⟨cur', h3, h4, h5⟩ := setCells_row L 0 (W.drewN q) cur hh' (by omega)
  obtain ⟨s1, s2, s3, s4⟩ := setCells_same g L 0 (W.drewN q)
  have hfar : ∀ k', k' ≠ g → ((W.drewN q).setCells g 0 L).heap[k']? = W.heap[k']? := fun k' hk' => setCells_far L 0 k' hk'
  have hgo : ∀ m, some g = (Value.slice (some ⟨g, 0, none⟩) m c).ownBlock := fun m => by simp [Value.ownBlock]
  have hel : (xs.eraseIdx k).length = n - 1 := by rw [List.length_eraseIdx_of_lt (by omega), hn]
  refine ⟨rfl, ⟨fun k' hk' => hok k' (by rw [← hgo] at hk' ⊢; exact hk'), (xs.eraseIdx k).map (Value.int .i64), ⟨?_, .inr ⟨g, c, cur', by rw [hel], hb, h3, by rw [hel]; omega, hcm, by rw [h4, hcs], ?_⟩⟩, ?_⟩, ?_⟩
  · rw [List.length_map, hel]
    show n - 1 = (n - 1) * 1
    omega
  · rw [hel, h5]
    show (cur.toList.take 0 ++ L ++ cur.toList.drop (0 + L.length)).take ((n - 1) * 1) = _
    rw [List.take_zero, List.nil_append, List.take_append_of_le_length (by omega), hL, List.eraseIdx_eq_take_drop_succ, Nat.mul_one, ← List.map_take, List.take_append_of_le_length (by simp; omega), List.take_of_length_le (by simp; omega)]
  · rw [List.eraseIdx_eq_take_drop_succ, List.map_append]
    have hmv : ∀ p q', (Kd.int .i64).M W base (fun k' => ok k' ∧ some k' ≠ (Value.slice (some ⟨g, 0, none⟩) n c).ownBlock) p q' → (Kd.int .i64).M ((W.drewN q).setCells g 0 L) base (fun k' => ok k' ∧ some k' ≠ (Value.slice (some ⟨g, 0, none⟩) (n - 1) c).ownBlock) p q' := fun p q' hp => hp
    have t1 := (Kd.reps_take (m := k) hr (by omega)).imp_ hmv
    have t2 := (Kd.reps_drop (m := k + 1) hr).imp_ hmv
    have e1 : inner.take (k * (Kd.int .i64).sz) = (xs.take k).map (Value.int .i64) := by
      show inner.take (k * 1) = _
      rw [Nat.mul_one, hinner, List.map_take]
    have e2 : inner.drop ((k + 1) * (Kd.int .i64).sz) = (xs.drop (k + 1)).map (Value.int .i64) := by
      show inner.drop ((k + 1) * 1) = _
      rw [Nat.mul_one, hinner, List.map_drop]
    rw [e1] at t1
    rw [e2] at t2
    exact Kd.reps_append t1 t2
  · exact ⟨s1, s2, s3, by rw [s4]; exact Nat.le_refl _, fun k' _ hk' => hfar k' (fun he => hk' (by rw [he]))⟩
/-- The same at the program's own numbers. -/
theorem delete_at {W : World} (base : Nat) {ok : Nat → Prop} {g n c : Nat} {j : Int} {xs : List Int} (HO : Kd.R (Kd.int .i64) 3 W base ok (.slice (some ⟨g, 0, none⟩) n c) xs) (h0 : 0 ≤ j) (h1 : j < (n : Int)) :
    Calls Try.prog 77 #[.slice (some ⟨g, 0, none⟩) n c, .int .i64 j, .int .i64 (wrap64 (j + 1))] W fun e w' => e = .returned (.slice (some ⟨g, 0, none⟩) (n - 1) c) ∧ Kd.R (Kd.int .i64) 3 w' base ok (.slice (some ⟨g, 0, none⟩) (n - 1) c) (xs.eraseIdx j.toNat) ∧ W.grownBy w' (some g) := by
  obtain ⟨k, rfl⟩ := Int.eq_ofNat_of_zero_le h0
  have hb := (Kd.R_reads' HO).2.2.2.1
  have hn := (Kd.R_reads' HO).1
  rw [show wrap64 ((k : Int) + 1) = ((k + 1 : Nat) : Int) by unfold wrap64; omega]
  exact delete_one base HO (by omega)
end Go.Proofs.Ytoigapileicelaa
