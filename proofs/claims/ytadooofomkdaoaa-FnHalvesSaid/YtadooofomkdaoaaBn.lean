/- What a straight text knows of its memory, in one word: the boxes of its own (a struct variable each) and the rows of its own, apart from each other; every step moves the whole at once. -/





import Derived.Test.YtadooofomkdaoaaU
namespace Go.Proofs.Ytadooofomkdaoaa.Bn
open Go.RowKit Go.Proofs.YtadooofomkdaoaaW.PrintWords Go.Proofs.YtadooofomkdaoaaW.PrintLast Go.Proofs.YtadooofomkdaoaaW.PrintMore
set_option linter.unusedVariables false
/-- A row of the text's own: the kind of its elements, their type, the slice, what it holds. -/
structure Rw where
  {α : Type}
  d : Kd α
  e : Nat
  v : Value
  xs : List α
def Rw.ok (r : Rw) (w : World) (base : Nat) : Prop := r.d.E = [] ∧ r.d.R r.e w base (fun k => r.v.ownBlock = some k) r.v r.xs
theorem R_self {α : Type} {d : Kd α} {e base : Nat} {w : World} {ok : Nat → Prop} {v : Value} {xs : List α} (hE : d.E = []) (h : d.R e w base ok v xs) : d.R e w base (fun k => v.ownBlock = some k) v xs :=
  ⟨fun k hk => hk, h.2.imp_ (fun _ _ hp => d.M_mono (fun k hk => by obtain ⟨_, _, _, q, hq, _⟩ := hk; rw [hE] at hq; cases hq) (d.M_bound hp))⟩
structure B (w0 w : World) (bs : List (Nat × Array Value × TypeId)) (rs : List Rw) : Prop where
  below : Below w0.heap.size w0 w
  box : ∀ b, b ∈ bs → w0.heap.size ≤ b.1 ∧ w.heap[b.1]? = some (.cells b.2.1 b.2.2 (0, 0))
  bnd : bs.Pairwise (fun a b => a.1 ≠ b.1)
  row : ∀ r, r ∈ rs → r.ok w w0.heap.size
  rnd : rs.Pairwise (fun a b => ∀ k, a.v.ownBlock = some k → b.v.ownBlock ≠ some k)
  sep : ∀ b, b ∈ bs → ∀ r, r ∈ rs → r.v.ownBlock ≠ some b.1
section
variable {w0 w w1 : World} {bs : List (Nat × Array Value × TypeId)} {rs : List Rw} {g i j : Nat} {cs : Array Value} {t : TypeId} {α β : Type} {d : Kd α} {d2 : Kd β} {e e2 : Nat} {v v2 : Value} {xs ys : List α} {xs2 : List β} {ok ok2 : Nat → Prop} {A : Option Addr} {n c : Nat}
theorem B.start (w : World) : B w w [] [] := ⟨Below.refl _ _, fun _ h => (by cases h), .nil, fun _ h => (by cases h), .nil, fun _ h => (by cases h)⟩
theorem B.call (h : B w0 w bs rs) (hb : Below w.heap.size w w1) : B w0 w1 bs rs :=
  ⟨h.below.trans (hb.mono h.below.size), fun b hm => ⟨(h.box b hm).1, blk_below (h.box b hm).2 hb⟩, h.bnd, fun r hm => ⟨(h.row r hm).1, Kd.R_below (h.row r hm).2 hb⟩, h.rnd, h.sep⟩
theorem B.drew (h : B w0 w bs rs) : B w0 w.drew bs rs := h.call (below_drew (Below.refl _ _))
theorem B.drewN (h : B w0 w bs rs) (m : Nat) : B w0 (w.drewN m) bs rs := h.call (pw_below_drewN (Below.refl _ _) m)
theorem B.drawn (h : B w0 w bs rs) (hd : Drawn0 w w1) : B w0 w1 bs rs := by
  obtain ⟨m, rfl⟩ := hd
  exact h.drewN m
theorem B.addBox (h : B w0 w bs rs) (hg : g = w.heap.size) (hn : w1.heap[g]? = some (.cells cs t (0, 0))) (hb : Below w.heap.size w w1) : B w0 w1 ((g, cs, t) :: bs) rs := by
  subst hg
  have h1 := h.call hb
  refine ⟨h1.below, fun b hm => ?_, .cons (fun b hm he => ?_) h.bnd, h1.row, h.rnd, fun b hm r hr he => ?_⟩
  · rcases List.mem_cons.1 hm with rfl | hm
    · exact ⟨h.below.size, hn⟩
    · exact h1.box b hm
  · have := blk_lt (h.box b hm).2
    have he : w.heap.size = b.1 := he
    omega
  · rcases List.mem_cons.1 hm with rfl | hm
    · have h2 := Kd.R_lt (h.row r hr).2 _ he
      exact absurd h2 (Nat.lt_irrefl _)
    · exact h.sep b hm r hr he
theorem B.addRow (h : B w0 w bs rs) (hr : d.R e w1 w.heap.size ok v xs) (hb : Below w.heap.size w w1) (hE : d.E = [] := by rfl) : B w0 w1 bs (⟨d, e, v, xs⟩ :: rs) := by
  have h1 := h.call hb
  refine ⟨h1.below, h1.box, h1.bnd, fun r hm => ?_, .cons (fun r hm k hk he => ?_) h.rnd, fun b hm r hr2 he => ?_⟩
  · rcases List.mem_cons.1 hm with rfl | hm
    · exact ⟨hE, Kd.R_lower (R_self hE hr) h.below.size⟩
    · exact h1.row r hm
  · have h2 := Kd.R_lt (h.row r hm).2 k he
    have h3 := Kd.R_base hr k hk
    omega
  · rcases List.mem_cons.1 hr2 with rfl | hr2
    · have h2 := Kd.R_base hr b.1 he
      have h3 := blk_lt (h.box b hm).2
      omega
    · exact h.sep b hm r hr2 he
theorem B.addRow2 (h : B w0 w bs rs) (hr : d.R e w1 w.heap.size ok v xs) (hr2 : d2.R e2 w1 w.heap.size ok2 v2 xs2) (hne : ∀ k, v.ownBlock = some k → v2.ownBlock ≠ some k) (hb : Below w.heap.size w w1) (hE : d.E = [] := by rfl) (hE2 : d2.E = [] := by rfl) :
    B w0 w1 bs (⟨d, e, v, xs⟩ :: ⟨d2, e2, v2, xs2⟩ :: rs) := by
  have h1 := h.addRow hr hb hE
  have h2 := h.addRow hr2 hb hE2
  refine ⟨h1.below, h1.box, h1.bnd, fun r hm => ?_, .cons (fun r hm k hk he => ?_) h2.rnd, fun b hm r hq he => ?_⟩
  · rcases List.mem_cons.1 hm with rfl | hm
    · exact h1.row _ List.mem_cons_self
    · exact h2.row r hm
  · rcases List.mem_cons.1 hm with rfl | hm
    · exact hne k hk he
    · exact (List.pairwise_cons.1 h1.rnd).1 r hm k hk he
  · rcases List.mem_cons.1 hq with rfl | hq
    · exact h1.sep b hm _ List.mem_cons_self he
    · exact h2.sep b hm r hq he
theorem B.get (h : B w0 w bs rs) (i : Nat) (hi : bs[i]? = some (g, cs, t)) : w0.heap.size ≤ g ∧ w.heap[g]? = some (.cells cs t (0, 0)) := h.box _ (List.mem_of_getElem? hi)
theorem B.cell (h : B w0 w bs rs) (i : Nat) (hi : bs[i]? = some (g, cs, t)) (j : Nat) {u : Value} (hj : cs[j]? = some u) : w.cell? ⟨g, j, none⟩ = some u := (blk_cell (h.get i hi).2 j).trans hj
theorem B.froz (h : B w0 w bs rs) (i : Nat) (hi : bs[i]? = some (g, cs, t)) (j : Nat) : w.frozen? ⟨g, j, none⟩ = false := blk_frozen (h.get i hi).2 j
theorem B.rowR (h : B w0 w bs rs) (i : Nat) (hi : rs[i]? = some ⟨d, e, v, xs⟩) : d.R e w w0.heap.size (fun k => v.ownBlock = some k) v xs := (h.row _ (List.mem_of_getElem? hi)).2
theorem B.C (h : B w0 w bs rs) (i : Nat) (hi : rs[i]? = some ⟨d, e, .slice A n c, xs⟩) : d.C w A n xs := by
  have h2 := Kd.R_reads' (h.rowR i hi)
  rw [h2.1]; exact h2.2.2
theorem B.cap (h : B w0 w bs rs) (i : Nat) (hi : rs[i]? = some ⟨d, e, .slice A n c, xs⟩) : n ≤ c := (Kd.R_reads' (h.rowR i hi)).2.1
theorem B.len (h : B w0 w bs rs) (i : Nat) (hi : rs[i]? = some ⟨d, e, .slice A n c, xs⟩) : n = xs.length := (Kd.R_reads' (h.rowR i hi)).1
theorem B.CC (h : B w0 w bs rs) (i : Nat) (hi : rs[i]? = some ⟨d, e, .slice A n c, xs⟩) : d.C w A xs.length xs := (Kd.R_reads' (h.rowR i hi)).2.2
theorem B.ccap (h : B w0 w bs rs) (i : Nat) (hi : rs[i]? = some ⟨d, e, .slice A n c, xs⟩) : xs.length ≤ c := (h.len i hi) ▸ h.cap i hi
theorem B.V (h : B w0 w bs rs) (i : Nat) (hi : rs[i]? = some ⟨d, e, v, xs⟩) {base : Nat} : Kd.V d e w base (fun k => v.ownBlock = some k) v xs := Kd.R_V (h.rowR i hi)
theorem pairwise_ne {α : Type} {R : α → α → Prop} (hs : ∀ a b, R a b → R b a) {l : List α} (h : l.Pairwise R) {i k : Nat} {a b : α} (hi : l[i]? = some a) (hk : l[k]? = some b) (hne : i ≠ k) : R a b := by
  obtain ⟨hi1, hi2⟩ := List.getElem?_eq_some_iff.1 hi
  obtain ⟨hk1, hk2⟩ := List.getElem?_eq_some_iff.1 hk
  rcases Nat.lt_or_gt_of_ne hne with hl | hl
  · have := List.pairwise_iff_getElem.1 h i k hi1 hk1 hl
    rwa [hi2, hk2] at this
  · have := List.pairwise_iff_getElem.1 h k i hk1 hi1 hl
    rw [hi2, hk2] at this
    exact hs _ _ this
theorem pairwise_ne1 {α : Type 1} {R : α → α → Prop} (hs : ∀ a b, R a b → R b a) {l : List α} (h : l.Pairwise R) {i k : Nat} {a b : α} (hi : l[i]? = some a) (hk : l[k]? = some b) (hne : i ≠ k) : R a b := by
  obtain ⟨hi1, hi2⟩ := List.getElem?_eq_some_iff.1 hi
  obtain ⟨hk1, hk2⟩ := List.getElem?_eq_some_iff.1 hk
  rcases Nat.lt_or_gt_of_ne hne with hl | hl
  · have := List.pairwise_iff_getElem.1 h i k hi1 hk1 hl
    rwa [hi2, hk2] at this
  · have := List.pairwise_iff_getElem.1 h k i hk1 hi1 hl
    rw [hi2, hk2] at this
    exact hs _ _ this
/-- One box is written. -/
theorem B.upd (h : B w0 w bs rs) (i : Nat) (hi : bs[i]? = some (g, cs, t)) {cs' : Array Value} (hB : Below w0.heap.size w0 w1) (hn : w1.heap[g]? = some (.cells cs' t (0, 0))) (ho : ∀ k, k ≠ g → w1.heap[k]? = w.heap[k]?) : B w0 w1 (bs.set i (g, cs', t)) rs := by
  have hg := h.get i hi
  have hm0 := List.mem_of_getElem? hi
  refine ⟨hB, fun b hm => ?_, ?_, fun r hm => ⟨(h.row r hm).1, ?_⟩, h.rnd, fun b hm r hr => ?_⟩
  · obtain ⟨k, hk⟩ := List.mem_iff_getElem?.1 hm
    rw [List.getElem?_set] at hk
    by_cases hik : i = k
    · subst hik
      rw [if_pos rfl] at hk
      split at hk
      · injection hk with hk; subst hk; exact ⟨hg.1, hn⟩
      · cases hk
    · rw [if_neg hik] at hk
      have hb := h.box b (List.mem_of_getElem? hk)
      exact ⟨hb.1, (ho _ (fun he => pairwise_ne (fun _ _ hn => Ne.symm hn) h.bnd hk hi (Ne.symm hik) he)).trans hb.2⟩
  · have : (bs.set i (g, cs', t)).map (·.1) = bs.map (·.1) := by
      apply List.ext_getElem?
      intro k
      rw [List.getElem?_map, List.getElem?_set, List.getElem?_map]
      by_cases hik : i = k
      · subst hik
        have hlt := (List.getElem?_eq_some_iff.1 hi).1
        rw [if_pos rfl, if_pos hlt, hi]; rfl
      · rw [if_neg hik]
    have h2 : (bs.map (·.1)).Pairwise (· ≠ ·) := List.pairwise_map.2 h.bnd
    rw [← this] at h2
    exact List.pairwise_map.1 h2
  · exact Kd.R_step (h.row r hm).2 (fun k hk _ => ho k (fun he => h.sep _ hm0 r hm (by rw [hk, he])))
  · rcases List.mem_or_eq_of_mem_set hm with hm | rfl
    · exact h.sep b hm r hr
    · exact h.sep _ hm0 r hr
theorem B.put (h : B w0 w bs rs) (i : Nat) (hi : bs[i]? = some (g, cs, t)) (j : Nat) (u : Value) {cs' : Array Value} (hc : cs.setIfInBounds j u = cs') : B w0 (w.setCell ⟨g, j, none⟩ u) (bs.set i (g, cs', t)) rs :=
  h.upd i hi (below_set h.below (h.get i hi).1) (blk_put (h.get i hi).2 j u hc) (fun k hk => Below.heap_setCell w ⟨g, j, none⟩ u k hk)
theorem B.putRow (h : B w0 w bs rs) (i : Nat) (hi : bs[i]? = some (g, cs, t)) (cells : Array Value) : B w0 (w.setRow g cells) (bs.set i (g, cells, t)) rs :=
  h.upd i hi (h.below.trans ⟨rfl, rfl, rfl, by simp, fun k hk => setRow_other w g k cells (by have := (h.get i hi).1; omega)⟩) (setRow_heap w g cs cells t (0, 0) (h.get i hi).2) (fun k hk => setRow_other w g k cells hk)
/-- One row is written, by a call. -/
theorem B.mark (h : B w0 w bs rs) (i : Nat) (hi : rs[i]? = some ⟨d, e, v, xs⟩) (hr : d.R e w1 w0.heap.size ok v ys) (hB : Below w0.heap.size w0 w1) (hk : Kept w w1 (fun k => v.ownBlock = some k)) : B w0 w1 bs (rs.set i ⟨d, e, v, ys⟩) := by
  have hm0 := List.mem_of_getElem? hi
  have hE : d.E = [] := (h.row _ hm0).1
  refine ⟨hB, fun b hm => ⟨(h.box b hm).1, ?_⟩, h.bnd, fun r hm => ?_, ?_, fun b hm r hr2 => ?_⟩
  · exact blk_kept (h.box b hm).2 hk (fun he => h.sep b hm _ hm0 he)
  · obtain ⟨k, hq⟩ := List.mem_iff_getElem?.1 hm
    rw [List.getElem?_set] at hq
    by_cases hik : i = k
    · subst hik
      rw [if_pos rfl] at hq
      split at hq
      · injection hq with hq; subst hq; exact ⟨hE, R_self hE hr⟩
      · cases hq
    · rw [if_neg hik] at hq
      have hb := h.row r (List.mem_of_getElem? hq)
      refine ⟨hb.1, Kd.R_kept hb.2 hk (fun k2 h2 h3 => ?_)⟩
      exact pairwise_ne1 (R := fun a b : Rw => ∀ k, a.v.ownBlock = some k → b.v.ownBlock ≠ some k) (fun a b hn k hb ha => hn k ha hb) h.rnd hq hi (Ne.symm hik) k2 h2 h3
  · rw [List.pairwise_iff_getElem] at *
    have hP := h.rnd
    rw [List.pairwise_iff_getElem] at hP
    intro a b ha hb hab k
    rw [List.length_set] at ha hb
    have := hP a b ha hb hab k
    have hlt := (List.getElem?_eq_some_iff.1 hi)
    rw [List.getElem_set, List.getElem_set]
    by_cases h1 : i = a
    · subst h1
      rw [if_pos rfl]
      rw [hlt.2] at this
      by_cases h2 : i = b
      · omega
      · rw [if_neg h2]; exact this
    · rw [if_neg h1]
      by_cases h2 : i = b
      · subst h2; rw [if_pos rfl]; rw [hlt.2] at this; exact this
      · rw [if_neg h2]; exact this
  · rcases List.mem_or_eq_of_mem_set hr2 with hr2 | rfl
    · exact h.sep b hm r hr2
    · have h9 := h.sep b hm _ hm0; exact h9
theorem B.perm {bs' : List (Nat × Array Value × TypeId)} {rs' : List Rw} (h : B w0 w bs rs) (hb : bs.Perm bs') (hr : rs.Perm rs') : B w0 w bs' rs' :=
  ⟨h.below, fun b hm => h.box b (hb.mem_iff.2 hm), (hb.pairwise_iff (fun hn => Ne.symm hn)).1 h.bnd, fun r hm => h.row r (hr.mem_iff.2 hm),
    (hr.pairwise_iff (fun hn k hb ha => hn k ha hb)).1 h.rnd, fun b hm r hm2 => h.sep b (hb.mem_iff.2 hm) r (hr.mem_iff.2 hm2)⟩
/-- What is no longer needed is forgotten. -/
theorem B.take (h : B w0 w bs rs) (m n : Nat) : B w0 w (bs.take m) (rs.take n) :=
  ⟨h.below, fun b hm => h.box b (List.mem_of_mem_take hm), h.bnd.sublist (List.take_sublist _ _), fun r hm => h.row r (List.mem_of_mem_take hm), h.rnd.sublist (List.take_sublist _ _), fun b hm r hm2 => h.sep b (List.mem_of_mem_take hm) r (List.mem_of_mem_take hm2)⟩
theorem B.boxE (h : B w0 w bs rs) (hg : g = w.heap.size) (hn : w1.heap[g]? = some (.cells cs t (0, 0))) (hb : Below w.heap.size w w1) : B w0 w1 (bs ++ [(g, cs, t)]) rs :=
  (h.addBox hg hn hb).perm (List.perm_append_singleton _ _).symm (.refl _)
theorem B.rowE (h : B w0 w bs rs) (hr : d.R e w1 w.heap.size ok v xs) (hb : Below w.heap.size w w1) (hE : d.E = [] := by rfl) : B w0 w1 bs (rs ++ [⟨d, e, v, xs⟩]) :=
  (h.addRow hr hb hE).perm (.refl _) (List.perm_append_singleton _ _).symm
theorem B.rowsE (h : B w0 w bs rs) (hr : d.R e w1 w.heap.size ok v xs) (hr2 : d2.R e2 w1 w.heap.size ok2 v2 xs2) (hb : Below w.heap.size w w1)
    (hne : ∀ k, v.ownBlock = some k → v2.ownBlock ≠ some k) (hE : d.E = [] := by rfl) (hE2 : d2.E = [] := by rfl) :
    B w0 w1 bs (rs ++ [⟨d, e, v, xs⟩, ⟨d2, e2, v2, xs2⟩]) :=
  (h.addRow2 hr hr2 hne hb hE hE2).perm (.refl _) (List.perm_append_comm (l₁ := [_, _]))
theorem B.swapE {x y : Nat × Array Value × TypeId} (h : B w0 w (bs ++ [y] ++ [x]) rs) : B w0 w (bs ++ [x] ++ [y]) rs := by
  refine h.perm ?_ (.refl _)
  rw [List.append_assoc, List.append_assoc]
  exact List.Perm.append_left _ (List.Perm.swap _ _ _)
end
/-! Operations, over what is known. -/
section
variable {P : Program} {ops : Array Oper} {rest : List Oper} {o : Oper} {a : Act} {Q : Exit → Act → World → Prop} {w0 w : World} {bs : List (Nat × Array Value × TypeId)} {rs : List Rw} {g : Nat} {cs cells : Array Value} {t ty : TypeId} {x y : Operand} {v : Value} {fs : Array Field}
theorem run_load (h : B w0 w bs rs) (i : Nat) (hi : bs[i]? = some (g, cs, t)) (ho : o.op = .load ty x) (hx : a.eval x = .pointer (some ⟨g, 0, none⟩)) (hu : P.underlying ty = some (.struct fs)) (hs : (P.info? ty).map (·.size) = some cs.size) :
    (execOp a.eval o).run P w = .ok (.value (.agg cs)) w := by
  unfold execOp
  simp only [ho, hx, Instr.loadAt, Instr.sureAddr, Sem.run_bind, Sem.run_pure, Result.andThen_ok, run_loadVar_row w g t ty cs (0, 0) (.struct fs) (h.get i hi).2 hu rfl hs]
theorem run_store (h : B w0 w bs rs) (i : Nat) (hi : bs[i]? = some (g, cs, t)) (ho : o.op = .store ty x y) (hx : a.eval x = .pointer (some ⟨g, 0, none⟩)) (hy : a.eval y = .agg cells) (hs : (P.info? ty).map (·.size) = some cells.size) (hz : cs.size = cells.size) (h1 : cells.toList.all (·.oneCell') = true) :
    (execOp a.eval o).run P w = .ok .skip (w.setRow g cells) := by
  unfold execOp
  simp only [ho, hx, hy, Instr.storeAt, Instr.sureAddr, Sem.run_bind, Sem.run_pure, Result.andThen_ok, run_storeVar_row w g t ty cs cells (h.get i hi).2 hs hz (by rw [← Array.all_toList]; exact h1)]
theorem run_alloc (ho : o.op = .alloc ty) (hz : ∀ w : World, (Instr.alloc ty true (.tuple #[])).run P w = .ok (.pointer (some ⟨w.heap.size, 0, none⟩)) (w.alloc (.cells cs t (0, 0)))) :
    (execOp a.eval o).run P w = .ok (.value (.pointer (some ⟨w.heap.size, 0, none⟩))) (w.alloc (.cells cs t (0, 0))) := by
  unfold execOp
  simp only [ho, Sem.run_bind, Sem.run_pure, Result.andThen_ok, hz]
theorem run_box (ho : o.op = .box ty x) (hx : a.eval x = v) (hz : ∀ w : World, (Instr.box ty v).run P w = .ok (.pointer (some ⟨w.heap.size, 0, none⟩)) (w.alloc (.cells cs t (0, 0)))) :
    (execOp a.eval o).run P w = .ok (.value (.pointer (some ⟨w.heap.size, 0, none⟩))) (w.alloc (.cells cs t (0, 0))) := by
  unfold execOp
  simp only [ho, hx, Sem.run_bind, Sem.run_pure, Result.andThen_ok, hz]
theorem loadE (HX : Aside0 (B w0 w bs rs)) (i : Nat) (hgd : o.guard = none) (hi : bs[i]? = some (g, cs, t)) (ho : o.op = .load ty x) (hx : a.eval x = .pointer (some ⟨g, 0, none⟩)) (hu : P.underlying ty = some (.struct fs)) (hs : (P.info? ty).map (·.size) = some cs.size)
    (h : wpList P ops Q rest (a.put o.dst (.agg cs)) w) : wpList P ops Q (o :: rest) a w := Kd.event_run hgd (run_load HX.out i hi ho hx hu hs) h
theorem storeE (HX : Aside0 (B w0 w bs rs)) (i : Nat) (hgd : o.guard = none) (hd : o.dst = none) (hi : bs[i]? = some (g, cs, t)) (ho : o.op = .store ty x y) (hx : a.eval x = .pointer (some ⟨g, 0, none⟩)) (hy : a.eval y = .agg cells) (hs : (P.info? ty).map (·.size) = some cells.size) (hz : cs.size = cells.size) (h1 : cells.toList.all (·.oneCell') = true)
    (h : ∀ w1, Aside0 (B w0 w1 (bs.set i (g, cells, t)) rs) → wpList P ops Q rest a w1) : wpList P ops Q (o :: rest) a w := by
  refine wpList_plain hgd fun K hK => ?_
  unfold Oper.wp
  rw [run_store HX.out i hi ho hx hy hs hz h1]
  show K (a.put o.dst undef) _
  rw [hd]
  exact hK _ _ (h _ ⟨HX.out.putRow i hi cells⟩)
theorem allocE (HX : Aside0 (B w0 w bs rs)) (hgd : o.guard = none) (ho : o.op = .alloc ty) (hz : ∀ w : World, (Instr.alloc ty true (.tuple #[])).run P w = .ok (.pointer (some ⟨w.heap.size, 0, none⟩)) (w.alloc (.cells cs t (0, 0))))
    (h : ∀ g w1, Aside0 (B w0 w1 (bs ++ [(g, cs, t)]) rs) → wpList P ops Q rest (a.put o.dst (.pointer (some ⟨g, 0, none⟩))) w1) : wpList P ops Q (o :: rest) a w :=
  Kd.event_run hgd (run_alloc ho hz) (h _ _ ⟨HX.out.boxE rfl (blk_new w _) (below_alloc (Below.refl _ _) _)⟩)
theorem boxE (HX : Aside0 (B w0 w bs rs)) (hgd : o.guard = none) (ho : o.op = .box ty x) (hx : a.eval x = v) (hz : ∀ w : World, (Instr.box ty v).run P w = .ok (.pointer (some ⟨w.heap.size, 0, none⟩)) (w.alloc (.cells cs t (0, 0))))
    (h : ∀ g w1, Aside0 (B w0 w1 (bs ++ [(g, cs, t)]) rs) → wpList P ops Q rest (a.put o.dst (.pointer (some ⟨g, 0, none⟩))) w1) : wpList P ops Q (o :: rest) a w :=
  Kd.event_run hgd (run_box ho hx hz) (h _ _ ⟨HX.out.boxE rfl (blk_new w _) (below_alloc (Below.refl _ _) _)⟩)
end
/-! A region that draws its order: one invariant over what has come up, one proof an operation. -/
def needsT (md : Region.Mode) (ops : Array Oper) : List (List Nat) := (List.range ops.size).map fun i => match ops[i]? with
  | some o => needsOf md o
  | none => []
def rdy (T : List (List Nat)) (l : List Bool) (i : Nat) : Bool := !l.getD i true && (T.getD i []).all (fun j => l.getD j false)
/-- What has come up is closed under what each waits for. -/
def cl (T : List (List Nat)) (l : List Bool) : Bool := (List.range T.length).all fun j => !l.getD j false || (T.getD j []).all (fun i => l.getD i false)
theorem cl_off {T : List (List Nat)} {l : List Bool} (h : Aside0 (cl T l = true)) (j i : Nat) (hi : (T.getD j []).contains i = true) (hl : l.getD i false = false) : l.getD j false = false := by
  rcases Bool.eq_false_or_eq_true (l.getD j false) with hj | hj
  · exfalso
    have hlt : j < T.length := by
      rcases Nat.lt_or_ge j T.length with h1 | h1
      · exact h1
      · rw [List.getD_eq_getElem?_getD, List.getElem?_eq_none h1] at hi; simp at hi
    have h2 := List.all_eq_true.1 h.out j (List.mem_range.2 hlt)
    rw [hj] at h2
    have h3 := List.all_eq_true.1 (by simpa using h2 : (T.getD j []).all (fun i => l.getD i false) = true) i (by simpa using hi)
    rw [hl] at h3
    cases h3
  · exact hj
theorem rdy_self {T : List (List Nat)} {l : List Bool} {i : Nat} (h : rdy T l i = true) : l.getD i true = false := by
  unfold rdy at h
  rw [Bool.and_eq_true] at h
  simpa using h.1
theorem rdy_need {T : List (List Nat)} {l : List Bool} {i : Nat} (h : rdy T l i = true) (j : Nat) (hj : (T.getD i []).contains j = true) : l.getD j false = true := by
  unfold rdy at h
  rw [Bool.and_eq_true] at h
  exact List.all_eq_true.1 h.2 j (by simpa using hj)
theorem cl_set {T : List (List Nat)} {l : List Bool} {i : Nat} (h : cl T l = true) (hr : rdy T l i = true) : cl T (l.set i true) = true := by
  have mono : ∀ k, l.getD k false = true → (l.set i true).getD k false = true := by
    intro k hk
    have hlt : k < l.length := by
      rcases Nat.lt_or_ge k l.length with h1 | h1
      · exact h1
      · rw [List.getD_eq_getElem?_getD, List.getElem?_eq_none h1] at hk; cases hk
    rw [List.getD_eq_getElem?_getD, List.getElem?_set]
    by_cases hik : i = k
    · rw [if_pos hik, if_pos (by omega)]; rfl
    · rw [if_neg hik]; rw [List.getD_eq_getElem?_getD] at hk; exact hk
  unfold cl at *
  rw [List.all_eq_true] at *
  intro j hj
  by_cases hij : i = j
  · subst hij
    unfold rdy at hr
    rw [Bool.and_eq_true] at hr
    rw [Bool.or_eq_true]; right
    rw [List.all_eq_true]
    intro k hk
    exact mono k (List.all_eq_true.1 hr.2 k hk)
  · have h2 := h j hj
    rw [Bool.or_eq_true] at h2 ⊢
    rcases h2 with h2 | h2
    · left
      rw [List.getD_eq_getElem?_getD, List.getElem?_set, if_neg hij, ← List.getD_eq_getElem?_getD]
      exact h2
    · right
      rw [List.all_eq_true] at h2 ⊢
      exact fun k hk => mono k (h2 k hk)
def over (ts : List Value) : List (Nat × Value) → List Value
  | [] => ts
  | (n, v) :: r => over (ts.set n v) r
section
variable {P : Program} {ops : Array Oper} {Q : Exit → Act → World → Prop} {md : Region.Mode}
theorem rdy_of {l : Array Bool} {i : Nat} (h : i ∈ Region.ready md ops l) : rdy (needsT md ops) l.toList i = true ∧ i < ops.size := by
  obtain ⟨h1, o, ho, h2⟩ := mem_ready.1 h
  have hlt := (Array.getElem?_eq_some_iff.1 ho).1
  refine ⟨?_, hlt⟩
  have e : (needsT md ops).getD i [] = needsOf md o := by
    unfold needsT
    rw [List.getD_eq_getElem?_getD, List.getElem?_map, List.getElem?_range hlt, Option.map_some, ho]; rfl
  unfold rdy
  rw [e, ← gd, h1, ← needs_all o (fun j => l.toList.getD j false)]
  simp only [Bool.not_false, Bool.true_and]
  rw [Array.all_eq_true_iff_forall_mem]
  intro x hx
  by_cases hb : Region.binds md x = true
  · rw [← gd, h2 x hx hb]; simp
  · simp [hb]
theorem not_rdy {l : Array Bool} (h : Region.ready md ops l = []) (i : Nat) (hi : i < ops.size) : rdy (needsT md ops) l.toList i = false := by
  rcases Bool.eq_false_or_eq_true (rdy (needsT md ops) l.toList i) with h1 | h1
  · exfalso
    obtain ⟨o, ho⟩ : ∃ o, ops[i]? = some o := ⟨ops[i], Array.getElem?_eq_getElem hi⟩
    have e : (needsT md ops).getD i [] = needsOf md o := by
      unfold needsT
      rw [List.getD_eq_getElem?_getD, List.getElem?_map, List.getElem?_range hi, Option.map_some, ho]; rfl
    unfold rdy at h1
    rw [e, ← gd, Bool.and_eq_true, ← needs_all o (fun j => l.toList.getD j false), Array.all_eq_true_iff_forall_mem] at h1
    have : i ∈ Region.ready md ops l := mem_ready.2 ⟨by simpa using h1.1, o, ho, fun x hx hb => by have := h1.2 x hx; rw [← gd] at this; simpa [hb] using this⟩
    rw [h] at this
    cases this
  · exact h1
theorem all_up {T : List (List Nat)} {l : List Bool} {n : Nat} (hl : l.length = n) (hord : (List.range n).all (fun i => (T.getD i []).all (fun j => decide (j < i))) = true) (h : ∀ i, i < n → rdy T l i = false) : l = List.replicate n true := by
  have key : ∀ m i, i < m → i < n → l.getD i false = true := by
    intro m
    induction m with
    | zero => intro i h1; omega
    | succ m ih =>
      intro i h1 h2
      have h3 := h i h2
      unfold rdy at h3
      have h4 : (T.getD i []).all (fun j => l.getD j false) = true := by
        rw [List.all_eq_true]
        intro j hj
        have h5 := List.all_eq_true.1 hord i (List.mem_range.2 h2)
        have h6 := List.all_eq_true.1 h5 j hj
        have h7 : j < i := by simpa using h6
        exact ih j (by omega) (by omega)
      rw [h4, Bool.and_true] at h3
      have hlt : i < l.length := by omega
      rw [List.getD_eq_getElem?_getD, List.getElem?_eq_getElem hlt] at h3 ⊢
      simpa using h3
  apply List.ext_getElem?
  intro i
  by_cases hi : i < n
  · have := key (i + 1) i (by omega) hi
    have hlt : i < l.length := by omega
    rw [List.getD_eq_getElem?_getD, List.getElem?_eq_getElem hlt] at this
    rw [List.getElem?_eq_getElem hlt, List.getElem?_replicate, if_pos hi]
    simpa using this
  · rw [List.getElem?_eq_none (by omega), List.getElem?_eq_none (by simp; omega)]
def stp (P : Program) (ops : Array Oper) (Q : Exit → Act → World → Prop) (o : Oper) (a : Act) (w : World) (K : Act → World → Prop) : Prop := if Region.wanted o (yielded ops a.tmps) = true then Oper.wp P o a w K Q else K (a.put o.dst undef) w
section
variable {o : Oper} {a : Act} {w w1 : World} {K : Act → World → Prop} {v : Value}
theorem stp_value (hw : Region.wanted o (yielded ops a.tmps) = true) (hrun : (execOp a.eval o).run P w = .ok (.value v) w1) (h : K (a.put o.dst v) w1) : stp P ops Q o a w K := value_ hw rfl hrun h
theorem stp_skip (hw : Region.wanted o (yielded ops a.tmps) = true) (hd : o.dst = none) (hrun : (execOp a.eval o).run P w = .ok .skip w1) (h : K a w1) : stp P ops Q o a w K := by have := skip_ (Q := Q) hw hd hrun h; rw [← hd] at this; exact this
theorem stp_goes {f : FuncId} {fn : Func} {as : Array Operand} {ts : Array TypeId} (hf : P.funcs[f]? = some fn) (hname : (fn.name == "runtime.NumGoroutine") = false) (hb : fn.body.isSome = true) (args : Array Value)
    (hw : Region.wanted o (yielded ops a.tmps) = true) (hop : o.op = .call { callee := .value (.func f), args := as, argTypes := ts }) (hargs : as.map a.eval = args)
    (h : Calls P f args w fun e w' => ∃ v, e = .returned v ∧ K (a.put o.dst v) w') : stp P ops Q o a w K := goes_ hf hname hb args hw rfl hop hargs h
theorem stp_box (hw : Region.wanted o (yielded ops a.tmps) = true) {cs : Array Value} {t : TypeId} (hrun : (execOp a.eval o).run P w = .ok (.value (.pointer (some ⟨w.heap.size, 0, none⟩))) (w.alloc (.cells cs t (0, 0))))
    (h : ∀ g, g = w.heap.size → ∀ w1, w1.heap[g]? = some (.cells cs t (0, 0)) → Below w.heap.size w w1 → K (a.put o.dst (.pointer (some ⟨g, 0, none⟩))) w1) : stp P ops Q o a w K :=
  stp_value hw hrun (h _ rfl _ (blk_new w _) (below_alloc (Below.refl _ _) _))
end
section
variable {o : Oper} {a : Act} {w0 w : World} {K : Act → World → Prop} {v : Value} {bs : List (Nat × Array Value × TypeId)} {rs : List Rw} {g : Nat} {cs cells : Array Value} {t ty : TypeId} {x y : Operand} {fs : Array Field}
theorem stp_load (HX : Aside0 (B w0 w bs rs)) (i : Nat) (hw : Region.wanted o (yielded ops a.tmps) = true) (hi : bs[i]? = some (g, cs, t)) (ho : o.op = .load ty x) (hx : a.eval x = .pointer (some ⟨g, 0, none⟩)) (hu : P.underlying ty = some (.struct fs)) (hs : (P.info? ty).map (·.size) = some cs.size)
    (h : K (a.put o.dst (.agg cs)) w) : stp P ops Q o a w K := stp_value hw (run_load HX.out i hi ho hx hu hs) h
theorem stp_store (HX : Aside0 (B w0 w bs rs)) (i : Nat) (hw : Region.wanted o (yielded ops a.tmps) = true) (hd : o.dst = none) (hi : bs[i]? = some (g, cs, t)) (ho : o.op = .store ty x y) (hx : a.eval x = .pointer (some ⟨g, 0, none⟩)) (hy : a.eval y = .agg cells) (hs : (P.info? ty).map (·.size) = some cells.size) (hz : cs.size = cells.size) (h1 : cells.toList.all (·.oneCell') = true)
    (h : ∀ w1, B w0 w1 (bs.set i (g, cells, t)) rs → K a w1) : stp P ops Q o a w K := stp_skip hw hd (run_store HX.out i hi ho hx hy hs hz h1) (h _ (HX.out.putRow i hi cells))
theorem stp_alloc (HX : Aside0 (B w0 w bs rs)) (hw : Region.wanted o (yielded ops a.tmps) = true) (ho : o.op = .alloc ty) (hz : ∀ w : World, (Instr.alloc ty true (.tuple #[])).run P w = .ok (.pointer (some ⟨w.heap.size, 0, none⟩)) (w.alloc (.cells cs t (0, 0))))
    (h : ∀ g w1, B w0 w1 (bs ++ [(g, cs, t)]) rs → K (a.put o.dst (.pointer (some ⟨g, 0, none⟩))) w1) : stp P ops Q o a w K :=
  stp_value hw (run_alloc ho hz) (h _ _ (HX.out.boxE rfl (blk_new w _) (below_alloc (Below.refl _ _) _)))
end
def steps (P : Program) (ops : Array Oper) (Q : Exit → Act → World → Prop) (T : List (List Nat)) (J : List Bool → Act → World → Prop) : Nat → List Oper → Prop
  | _, [] => True
  | k, o :: rest => (∀ l a w, J l a w → Aside0 (cl T l = true) → rdy T l k = true → ∀ K : Act → World → Prop, Aside0 (∀ a w, J (l.set k true) a w → K a w) → stp P ops Q o a w K) ∧ steps P ops Q T J (k + 1) rest
theorem steps_at {T : List (List Nat)} {J : List Bool → Act → World → Prop} : ∀ (os : List Oper) (k : Nat), steps P ops Q T J k os → ∀ i o, os[i]? = some o →
    ∀ l a w, J l a w → Aside0 (cl T l = true) → rdy T l (k + i) = true → ∀ K : Act → World → Prop, Aside0 (∀ a w, J (l.set (k + i) true) a w → K a w) → stp P ops Q o a w K := by
  intro os
  induction os with
  | nil => intro k _ i o ho; simp at ho
  | cons o' rest ih =>
    intro k h i o ho
    cases i with
    | zero =>
      simp at ho; subst ho
      exact h.1
    | succ i =>
      have := ih (k + 1) h.2 i o (by simpa using ho)
      rw [show k + (i + 1) = k + 1 + i by omega]
      exact this
theorem inv_any {n : Nat} {T : List (List Nat)} (J : List Bool → Act → World → Prop) (hn : ops.size = n) (hT : needsT .any ops = T) (hord : (List.range n).all (fun i => (T.getD i []).all (fun j => decide (j < i))) = true)
    (hstep : steps P ops Q T J 0 ops.toList) (hend : ∀ a w, J (List.replicate n true) a w → Q .normal a w) :
    ∀ (fuel : Nat) (l : Array Bool) (a : Act) (w : World), l.size = n → (l.toList.filter (fun b => !b)).length ≤ fuel → cl T l.toList = true → J l.toList a w → wpAny P .any ops Q fuel l a w := by
  subst hT
  have hend2 : ∀ (l : Array Bool) (a : Act) (w : World), l.size = n → J l.toList a w → Region.ready .any ops l = [] → Q .normal a w := by
    intro l a w hl hJ hr
    have := all_up (by rw [Array.length_toList, hl]) hord (fun i hi => not_rdy hr i (by omega))
    rw [this] at hJ
    exact hend a w hJ
  intro fuel
  induction fuel with
  | zero =>
    intro l a w hl hf hcl hJ
    have hr : Region.ready .any ops l = [] := by
      rw [List.eq_nil_iff_forall_not_mem]
      intro i hi
      obtain ⟨h1, h2⟩ := rdy_of hi
      have hlt : i < l.toList.length := by rw [Array.length_toList]; omega
      have hb : l.toList[i] = false := by
        unfold rdy at h1
        rw [Bool.and_eq_true, List.getD_eq_getElem?_getD, List.getElem?_eq_getElem hlt] at h1
        simpa using h1.1
      have : l.toList[i] ∈ l.toList.filter (fun b => !b) := List.mem_filter.2 ⟨List.getElem_mem hlt, by rw [hb]; rfl⟩
      have := List.length_pos_of_mem this
      omega
    exact ⟨hr, hend2 l a w hl hJ hr⟩
  | succ fuel ih =>
    intro l a w hl hf hcl hJ
    refine ⟨hend2 l a w hl hJ, fun i hi => ?_⟩
    obtain ⟨h1, h2⟩ := rdy_of hi
    obtain ⟨o, ho⟩ : ∃ o, ops[i]? = some o := ⟨ops[i], Array.getElem?_eq_getElem h2⟩
    refine wpOp_step ho (fun K hK => ?_)
    change stp P ops Q o a w K
    have := steps_at ops.toList 0 hstep i o (by simpa using ho) l.toList a w hJ ⟨hcl⟩ (by rw [Nat.zero_add]; exact h1) K ⟨fun a' w' hJ' => hK a' w' (ih _ a' w' (by simpa using hl) ?_ (by rw [Array.toList_setIfInBounds]; exact cl_set hcl h1) (by rw [Array.toList_setIfInBounds]; rw [Nat.zero_add] at hJ'; exact hJ'))⟩
    · exact this
    · have hlt : i < l.toList.length := by rw [Array.length_toList]; omega
      have hb : l.toList[i] = false := by
        unfold rdy at h1
        rw [Bool.and_eq_true, List.getD_eq_getElem?_getD, List.getElem?_eq_getElem hlt] at h1
        simpa using h1.1
      rw [Array.toList_setIfInBounds]
      have e1 : l.toList = l.toList.take i ++ false :: l.toList.drop (i + 1) := by
        rw [← hb, List.getElem_cons_drop, List.take_append_drop]
      have e2 : l.toList.set i true = l.toList.take i ++ true :: l.toList.drop (i + 1) := List.set_eq_take_append_cons_drop.trans (if_pos hlt)
      rw [e2]
      rw [e1] at hf
      simp only [List.filter_append, List.filter_cons, List.length_append, Bool.not_false, Bool.not_true, if_true, Bool.false_eq_true, if_false, List.length_cons] at hf ⊢
      omega
theorem steps_nil {T : List (List Nat)} {J : List Bool → Act → World → Prop} {k : Nat} : steps P ops Q T J k [] := trivial
theorem steps_cons {T : List (List Nat)} {J : List Bool → Act → World → Prop} {k : Nat} {o : Oper} {rest : List Oper}
    (h : ∀ l a w, J l a w → Aside0 (cl T l = true) → rdy T l k = true → ∀ K : Act → World → Prop, Aside0 (∀ a w, J (l.set k true) a w → K a w) → stp P ops Q o a w K)
    (h2 : steps P ops Q T J (k + 1) rest) : steps P ops Q T J k (o :: rest) := ⟨h, h2⟩
/-- 'ov' tells the act: what the region finds, with the region's slots written over. -/
theorem inv_ {id : Nat} {os : List Oper} {ts : List Value} {ds : List Deferred} {w : World} (n : Nat) (T : List (List Nat)) (J : (List (Nat × Value) → Act) → List Bool → Act → World → Prop) (hm : P.follows .mixedOrders = true) (hn : os.length = n) (hT : needsT .any os.toArray = T)
    (hord : (List.range n).all (fun i => (T.getD i []).all (fun j => decide (j < i))) = true) (h0 : J (fun c => { tmps := (over ts c).toArray, defers := ds }) (List.replicate n false) { tmps := ts.toArray, defers := ds } w.drew)
    (hstep : steps P os.toArray Q T (J (fun c => { tmps := (over ts c).toArray, defers := ds })) 0 os)
    (hend : ∀ a w, J (fun c => { tmps := (over ts c).toArray, defers := ds }) (List.replicate n true) a w → Q .normal a w) : (Code.region id os.toArray true).wp P Q { tmps := ts.toArray, defers := ds } w := by
  subst hn
  refine wp_region_any hm (inv_any _ (by simp) hT hord (by simpa using hstep) hend os.toArray.size _ _ _ (by simp) (by rw [Array.toList_replicate]; exact Nat.le_trans (List.length_filter_le _ _) (by simp)) ?_ ?_)
  · rw [Array.toList_replicate]
    unfold cl
    rw [List.all_eq_true]
    intro j _
    rw [Bool.or_eq_true]; left
    simp [List.getD_eq_getElem?_getD, List.getElem?_replicate]
    split <;> rfl
  rw [Array.toList_replicate]
  simpa using h0
end
end Go.Proofs.Ytadooofomkdaoaa.Bn
