import Derived.Test.YticchbgbbnpgoaaSqueeze
import Derived.Test.YticchbgbbnpgoaaQFnStreamsx0
namespace Go.Proofs.Yticchbgbbnpgoaa.QFnStreams
open Go.RowKit Go.Proofs.YticchbgbbnpgoaaW.PrintWords Go.Proofs.YticchbgbbnpgoaaW.PrintLast Go.Proofs.YticchbgbbnpgoaaW.PrintMore
attribute [local go_sem] max2_int min2_int max_two min_two max_three min_three max_four min_four   -- for this text's walks alone
set_option linter.unusedVariables false
set_option linter.unusedSimpArgs false

/-! ### impl_RunsOf: function 39 -/
def impl_RunsOf.l0 : Nat → List Bool → List Int → List Bool → Int → Int → Option (List Int × Bool)
  | 0, _, _, _, _, _ => none
  | k + 1, x0, x4, x11, x12, x13 => if x13 < x12 then (if 0 ≤ x13 then (if x13 < (x11.length : Int) then (if x13 = 0 then (if x4.length < 17592186044416 then ((some (x4 ++ [0] : List Int)).bind fun y273 => (if 0 ≤ (wrap64 ((y273.length : Int) - 1)) then (if (wrap64 ((y273.length : Int) - 1)) < (y273.length : Int) then (impl_RunsOf.l0 k x0 (y273.set ((wrap64 ((y273.length : Int) - 1)) : Int).toNat (wrap64 ((rd y273 (wrap64 ((y273.length : Int) - 1))) + 1))) x11 x12 (wrap64 (x13 + 1))) else (none)) else (none))) else (none)) else (if 0 ≤ (wrap64 (x13 - 1)) then (if (wrap64 (x13 - 1)) < (x0.length : Int) then (if ((rdOf false x0 (wrap64 (x13 - 1))) != (rdOf false x11 x13)) = true then (if x4.length < 17592186044416 then ((some (x4 ++ [0] : List Int)).bind fun y279 => (if 0 ≤ (wrap64 ((y279.length : Int) - 1)) then (if (wrap64 ((y279.length : Int) - 1)) < (y279.length : Int) then (impl_RunsOf.l0 k x0 (y279.set ((wrap64 ((y279.length : Int) - 1)) : Int).toNat (wrap64 ((rd y279 (wrap64 ((y279.length : Int) - 1))) + 1))) x11 x12 (wrap64 (x13 + 1))) else (none)) else (none))) else (none)) else (if 0 ≤ (wrap64 ((x4.length : Int) - 1)) then (if (wrap64 ((x4.length : Int) - 1)) < (x4.length : Int) then (impl_RunsOf.l0 k x0 (x4.set ((wrap64 ((x4.length : Int) - 1)) : Int).toNat (wrap64 ((rd x4 (wrap64 ((x4.length : Int) - 1))) + 1))) x11 x12 (wrap64 (x13 + 1))) else (none)) else (none))) else (none)) else (none))) else (none)) else (none)) else (some (x4, true))
def impl_RunsOf.f (k : Nat) (l0 : List Bool) : Option (List Int × Bool) := if (l0.length : Int) > 40 then (some (([] : List Int), false)) else (impl_RunsOf.l0 k l0 (([] : List Int)) l0 (l0.length : Int) 0)
theorem impl_RunsOf.mono_l : ∀ k, (∀ y0 y1 y2 y3 y4, LeO (impl_RunsOf.l0 k y0 y1 y2 y3 y4) (impl_RunsOf.l0 (k + 1) y0 y1 y2 y3 y4))
  | 0 => fun _ _ _ _ _ r h => by simp [impl_RunsOf.l0] at h
  | k + 1 => by
    have ih0 := impl_RunsOf.mono_l k
    · intro y0 y1 y2 y3 y4
      unfold impl_RunsOf.l0
      repeat' first
      | (with_reducible exact ih0 _ _ _ _ _)
      | (with_reducible exact LeO.refl _)
      | (with_reducible exact LeO.none _)
      | (with_reducible refine LeO.ite ?_ ?_)
      | (with_reducible refine LeO.bind ?_ (fun _ => ?_))
      | exact ih0 _ _ _ _ _
      | exact LeO.none _
      | refine LeO.ite ?_ ?_
      | refine LeO.bind ?_ (fun _ => ?_)
theorem impl_RunsOf.mono : ∀ a0 k, LeO (impl_RunsOf.f k a0) (impl_RunsOf.f (k + 1) a0) := by
  intro a0 k
  have ih0 := impl_RunsOf.mono_l k
  unfold impl_RunsOf.f
  repeat' first
      | (with_reducible exact ih0 _ _ _ _ _)
      | (with_reducible exact LeO.refl _)
      | (with_reducible exact LeO.none _)
      | (with_reducible refine LeO.ite ?_ ?_)
      | (with_reducible refine LeO.bind ?_ (fun _ => ?_))
      | exact ih0 _ _ _ _ _
      | exact LeO.none _
      | refine LeO.ite ?_ ?_
      | refine LeO.bind ?_ (fun _ => ?_)
set_option maxHeartbeats 8000000 in
set_option maxRecDepth 100000 in
theorem impl_RunsOf.calls (k : Nat) (A0 : Option Addr) (c0 : Nat) (l0 : List Bool) (r1 : List Int) (r2 : Bool) (w : World) (hr0 : Kd.C Kd.bool w A0 l0.length l0) (hc0 : l0.length ≤ c0) (h : impl_RunsOf.f k l0 = some (r1, r2)) :
    Calls Try.prog 39 #[.slice A0 l0.length c0] w fun e w' => ∃ v0_ : Value, e = .returned (.tuple #[v0_, .bool r2]) ∧ Kd.R (Kd.int .i64) 3 w' w.heap.size (fun _ => True) v0_ r1 ∧ Below w.heap.size w w' := by
 have HR0 := Aside0.mk hr0
 have HC0 := Aside0.mk hc0
 clear hr0 hc0
 have HB := Aside0.mk (Below.refl w.heap.size w)
 have H : (if (l0.length : Int) > 40 then (some (([] : List Int), false)) else (impl_RunsOf.l0 k l0 (([] : List Int)) l0 (l0.length : Int) 0)) = some (r1, r2) := h
 clear h
 by_cases c2 : (l0.length : Int) > 40
 · rw [if_pos c2] at H
   have c2b0 : decide (40 < (l0.length : Int)) = true := decide_eq_true c2
   have c2b1 : decide (40 < l0.length) = true := decide_eq_true (by omega)
   clear c2
   simp only [Option.some.injEq, Prod.mk.injEq] at H
   obtain ⟨rfl, rfl⟩ := H
   go_enter Try.func39, Try.ntmps39
   go_wp2
   go_ret2
   exact ⟨_, by first | rfl | (simp [errW_none, errW_some] <;> rfl) | (simp [*, errW_none, errW_some] <;> rfl), by first | exact Kd.R_nil _ _ _ _ _ | exact Kd.R_nil _ _ _ 0 _ | exact Kd.N_nil _ _ _ _ _ | exact Kd.V_nil _ _ _ _ _ | exact Kd.Q_nil _ _ _ _ _ | exact Kd.S_nil _ _ _ _ _, hq HB⟩
 rw [if_neg c2] at H
 have c2b0 : decide (40 < (l0.length : Int)) = false := decide_eq_false c2
 have c2b1 : decide (40 < l0.length) = false := decide_eq_false (by omega)
 clear c2
 obtain ⟨y269, hy269⟩ : ∃ y_ : List Int, y_ = (([] : List Int)) := ⟨_, rfl⟩
 replace H : (impl_RunsOf.l0 k l0 y269 l0 (l0.length : Int) 0) = some (r1, r2) := by first | (rw [hy269]; with_reducible exact H) | (have H2_ := (Option.bind_some _ _).symm.trans H; rw [hy269]; with_reducible exact H2_) | (have H2_ := (Option.bind_some _ _).symm.trans H; with_reducible exact H2_) | with_reducible exact H | (rw [hy269]; exact H) | exact H
 have Ny269 := Aside0.mk hy269
 clear hy269
 have H' := Aside0.mk H
 clear H
 go_enter Try.func39, Try.ntmps39
 go_wp2_with (first | ((with_reducible refine gate_dst (N := 10) rfl ?_); refine Kd.R_lit (Kd.int .i64) _ 3 ?hg (N := 10) ?hd (xs := ([] : List Int)) (inner := []) (ok := fun _ => True) (okp := fun _ => True) ?hr ?hp (fun _ hk => hk) trivial (Below.refl _ _) (Nat.le_refl _) (by simp) ?_; (case hd => rfl); (case hg => rfl); (case hr => first | (go_simp; done) | (go_simp; rfl)); (case hp => exact (Reps.none _ _)); intro v270 w3 ho4 hb hg_ hnew_; clear hg_ hnew_; (first | rw [← Ny269.out] at ho4 | (simp only [Int.reduceToNat] at ho4; rw [← Ny269.out] at ho4)); have HO271 := Aside0.mk (Kd.R_lower ho4 (below_size (hq HB))); replace HB := cs (hq HB) hb; clear hb ho4))
 go_loopg [4, 13] k (fun kq v4 v13 w' => ∃ (x4_1 : List Int) (x13_1 : Int), v13 = .int .i64 x13_1 ∧ Aside0 (impl_RunsOf.l0 kq l0 x4_1 l0 (l0.length : Int) x13_1 = some (r1, r2)) ∧ Aside0 (kq ≤ k) ∧ Aside0 (Kd.R (Kd.int .i64) 3 w' w.heap.size (fun _ => True) v4 x4_1) ∧ Aside0 (Below w.heap.size w w'))
 case atStart => exact ⟨(y269), (0), (by first | rfl | (simp; done) | (simp [*]; done)), H', ⟨Nat.le_refl _⟩, ⟨by (with_reducible repeat (first | apply Kd.R_alloc | apply Kd.R_drewN | apply Kd.R_drew)); exact HO271.out⟩, ⟨hq HB⟩⟩
 case round =>
   clear H'
   try clear c2
   try clear c2b0
   try clear c2b1
   try clear p2
   try clear c3
   obtain ⟨x4_1, x13_1, rfl, HA, HK1, HO_4, HB⟩ := hrel
   cases gk with
   | zero => exact absurd HA.out (by simp [impl_RunsOf.l0])
   | succ k1 =>
     have H := HA.out
     clear HA
     simp only [impl_RunsOf.l0] at H
     by_cases c5 : x13_1 < (l0.length : Int)
     · rw [if_pos c5] at H
       have c5b0 : decide (x13_1 < (l0.length : Int)) = true := decide_eq_true c5
       clear c5
       by_cases c6 : 0 ≤ x13_1
       · rw [if_pos c6] at H
         have c6b0 : decide (0 ≤ x13_1) = true := decide_eq_true c6
         clear c6
         by_cases c7 : x13_1 < (l0.length : Int)
         · rw [if_pos c7] at H
           have c7b0 : decide (x13_1 < (l0.length : Int)) = true := decide_eq_true c7
           clear c7
           by_cases c8 : x13_1 = 0
           · rw [if_pos c8] at H
             have c8b0 : (x13_1 == 0) = true := beq_iff_eq.mpr c8
             have c8b1 : (x13_1 != 0) = false := bne_eq_false_iff_eq.mpr c8
             clear c8
             by_cases c9 : x4_1.length < 17592186044416
             · rw [if_pos c9] at H
               have LMc9 := Aside0.mk c9
               clear c9
               obtain ⟨y273, hy273⟩ : ∃ y_ : List Int, y_ = (x4_1 ++ [0]) := ⟨_, rfl⟩
               replace H : (if 0 ≤ (wrap64 ((y273.length : Int) - 1)) then (if (wrap64 ((y273.length : Int) - 1)) < (y273.length : Int) then (impl_RunsOf.l0 k1 l0 (y273.set ((wrap64 ((y273.length : Int) - 1)) : Int).toNat (wrap64 ((rd y273 (wrap64 ((y273.length : Int) - 1))) + 1))) l0 (l0.length : Int) (wrap64 (x13_1 + 1))) else (none)) else (none)) = some (r1, r2) := by first | (rw [hy273]; with_reducible exact H) | (have H2_ := (Option.bind_some _ _).symm.trans H; rw [hy273]; with_reducible exact H2_) | (have H2_ := (Option.bind_some _ _).symm.trans H; with_reducible exact H2_) | with_reducible exact H | (rw [hy273]; exact H) | exact H
               have Ny273 := Aside0.mk hy273
               clear hy273
               obtain ⟨ji10, hji10⟩ : ∃ j_ : Int, (wrap64 ((y273.length : Int) - 1)) = j_ := ⟨_, rfl⟩
               replace H : (if 0 ≤ (ji10) then (if (ji10) < (y273.length : Int) then (impl_RunsOf.l0 k1 l0 (y273.set ((ji10) : Int).toNat (wrap64 ((rd y273 (ji10)) + 1))) l0 (l0.length : Int) (wrap64 (x13_1 + 1))) else (none)) else (none)) = some (r1, r2) := by first | (rw [hji10] at H; exact H) | (simp only [hji10] at H ⊢; exact H)
               have hji10w : (IntKind.i64.wrap ((y273.length : Int) - 1)) = ji10 := (i64_w _).trans hji10
               by_cases c11 : 0 ≤ (ji10)
               · rw [if_pos c11] at H
                 have c11b0 : decide (0 ≤ (ji10)) = true := decide_eq_true c11
                 clear c11
                 by_cases c12 : (ji10) < (y273.length : Int)
                 · rw [if_pos c12] at H
                   have c12b0 : decide ((ji10) < (y273.length : Int)) = true := decide_eq_true c12
                   clear c12
                   obtain ⟨y277, hy277⟩ : ∃ y_ : List Int, y_ = (y273.set ((ji10) : Int).toNat (wrap64 ((rd y273 (ji10)) + 1))) := ⟨_, rfl⟩
                   replace H : (impl_RunsOf.l0 k1 l0 y277 l0 (l0.length : Int) (wrap64 (x13_1 + 1))) = some (r1, r2) := by first | (rw [hy277]; with_reducible exact H) | (have H2_ := (Option.bind_some _ _).symm.trans H; rw [hy277]; with_reducible exact H2_) | (have H2_ := (Option.bind_some _ _).symm.trans H; with_reducible exact H2_) | with_reducible exact H | (rw [hy277]; exact H) | exact H
                   have Ny277 := Aside0.mk hy277
                   clear hy277
                   have H' := Aside0.mk H
                   clear H
                   have p272 : 0 ≤ (x13_1 : Int) := of_decide_eq_true (by first | (with_reducible assumption) | assumption)
                   have q272 : x13_1 < (l0.length : Int) := of_decide_eq_true (by first | (with_reducible assumption) | assumption)
                   obtain ⟨ad272, e272, hx272_0⟩ := Kd.at_bool HR0.out x13_1 p272 q272
                   cases e272
                   replace hx272_0 := (HB.out.cell (World.block_lt_of_cell? w _ hx272_0)).trans hx272_0
                   replace p272 := eq_true p272
                   replace q272 := eq_true q272
                   go_wp2_with (first | ((with_reducible refine gate_builtin (b := .append) (xs := #[.tmp 29, .tmp 30]) rfl ?_); at_builtin; refine Kd.R_append (Kd.int .i64) (w0 := w) w.heap.size rfl (.tmp 29) (.tmp 30) 28 3 (.int .i64 0) 8 rfl Try.underlying28 info3 rfl (by decide) (by omega) u4 x4_1 0 [.int .i64 0] (fun _ => True) (fun _ => False) rfl rfl ?aP (fun _ hk => hk.elim) ?aF ?aO ?aB ?aS ?aL ?_; (case aP => exact rfl); (case aB => exact (hq HB)); (case aF => exact (fun _ _ => trivial)); (case aO => exact (rq HO_4)); (case aS => exact (below_size (hq HB))); (case aL => have := LMc9.out; omega); intro v274 w14 ho hb hg hat; rw [← Ny273.out] at ho; replace HB := Aside0.mk (hb); have HO275 := Aside0.mk (ho); clear HO_4; clear ho hb hg hat; obtain ⟨Ao15, co15, eo15⟩ := Kd.R_slice HO275.out; subst eo15; have p276 : 0 ≤ ((ji10) : Int) := of_decide_eq_true (by first | (with_reducible assumption) | assumption); have q276 : (ji10) < (y273.length : Int) := of_decide_eq_true (by first | (with_reducible assumption) | assumption); obtain ⟨ad276, e276, hx276_0⟩ := Kd.at_int (Kd.R_reads' HO275.out).2.2 (ji10) p276 q276; cases e276; replace p276 := eq_true p276; replace q276 := eq_true q276; have p13 : 0 ≤ ((ji10) : Int) := of_decide_eq_true (by first | (with_reducible assumption) | assumption); have q13 : ((ji10) : Int) < ((y273.length : Int) : Int) := of_decide_eq_true (by first | (with_reducible assumption) | assumption); obtain ⟨go13, co13, eo13, gb13, gl13, cl13, HG13⟩ := Kd.R_form HO275.out (by omega); (first | cases eo13 | (injection eo13 with ea_ en_ ec_; (first | subst ea_ | (injection ea_ with ea_; subst ea_)); subst ec_; clear en_)); have GB13 := Aside0.mk gb13; have GG13 := Aside0.mk HG13; clear gb13 gl13 HG13; (first | simp only [add_plain] at hx276_0 | skip); obtain ⟨hx13_0, hf13_0⟩ := Kd.R_celln 0 HO275.out ((ji10) : Int) p13 q13; replace p13 := eq_true p13; replace q13 := eq_true q13; obtain ⟨hy16_, hz16_⟩ := Kd.R_celln 0 HO275.out ((ji10) : Int) (of_decide_eq_true (by first | (with_reducible assumption) | assumption)) (of_decide_eq_true (by first | (with_reducible assumption) | assumption)); have HP16 := Kd.R_putg HO275.out ((ji10) : Int) (wrap64 ((rd y273 (ji10)) + 1))) | ((with_reducible refine gate_store (t := 3) (p := 39) rfl ?_); refine store_event (t := 3) (p := 39) (v := ?vo_w17) (w1 := (w14.setCell ⟨go13, ((ji10) : Int).toNat, none⟩ (.int .i64 (wrap64 ((rd y273 (ji10)) + 1))))) ?hg ?ho ?hn ?hr ?_; (case ho => rfl); (case hg => rfl); (case hn => rfl); (case hr => first | (go_simp; done) | (go_simp; rfl)); intro w17 hw; have hg : w14.grownBy w17 (some go13) := (by rw [hw]; exact HP16.2); have hp_ : Kd.R (Kd.int .i64) 3 w17 w.heap.size (fun _ => True) (.slice (some ⟨go13, 0, none⟩) y273.length co15) y277 := (by rw [hw, Ny277.out]; exact HP16.1); clear HP16; replace HO275 := Aside0.mk (hp_); replace HB := Aside0.mk ((by rw [hw]; exact below_set (HB.out) GB13.out : Below w.heap.size w w17)); clear hg hw hp_))
                   go_roundg k1
                   case measure => have := HK1.out; omega
                   case rel => exact ⟨(y277), (wrap64 (x13_1 + 1)), (by first | rfl | (simp; done) | (simp [*]; done)), H', ⟨by have := HK1.out; omega⟩, ⟨by (with_reducible repeat (first | apply Kd.R_alloc | apply Kd.R_drewN | apply Kd.R_drew)); exact HO275.out⟩, ⟨hq HB⟩⟩
                 · rw [if_neg c12] at H
                   exact absurd H (by simp)
               · rw [if_neg c11] at H
                 exact absurd H (by simp)
             · rw [if_neg c9] at H
               exact absurd H (by simp)
           · rw [if_neg c8] at H
             have c8b0 : (x13_1 == 0) = false := beq_eq_false_iff_ne.mpr c8
             have c8b1 : (x13_1 != 0) = true := bne_iff_ne.mpr c8
             obtain ⟨ji18, hji18⟩ : ∃ j_ : Int, (wrap64 (x13_1 - 1)) = j_ := ⟨_, rfl⟩
             replace H : (if 0 ≤ (ji18) then (if (ji18) < (l0.length : Int) then (if ((rdOf false l0 (ji18)) != (rdOf false l0 x13_1)) = true then (if x4_1.length < 17592186044416 then ((some (x4_1 ++ [0] : List Int)).bind fun y279 => (if 0 ≤ (wrap64 ((y279.length : Int) - 1)) then (if (wrap64 ((y279.length : Int) - 1)) < (y279.length : Int) then (impl_RunsOf.l0 k1 l0 (y279.set ((wrap64 ((y279.length : Int) - 1)) : Int).toNat (wrap64 ((rd y279 (wrap64 ((y279.length : Int) - 1))) + 1))) l0 (l0.length : Int) (wrap64 (x13_1 + 1))) else (none)) else (none))) else (none)) else (if 0 ≤ (wrap64 ((x4_1.length : Int) - 1)) then (if (wrap64 ((x4_1.length : Int) - 1)) < (x4_1.length : Int) then (impl_RunsOf.l0 k1 l0 (x4_1.set ((wrap64 ((x4_1.length : Int) - 1)) : Int).toNat (wrap64 ((rd x4_1 (wrap64 ((x4_1.length : Int) - 1))) + 1))) l0 (l0.length : Int) (wrap64 (x13_1 + 1))) else (none)) else (none))) else (none)) else (none)) = some (r1, r2) := by first | (rw [hji18] at H; exact H) | (simp only [hji18] at H ⊢; exact H)
             have hji18w : (IntKind.i64.wrap (x13_1 - 1)) = ji18 := (i64_w _).trans hji18
             by_cases c19 : 0 ≤ (ji18)
             · rw [if_pos c19] at H
               have c19b0 : decide (0 ≤ (ji18)) = true := decide_eq_true c19
               clear c19
               by_cases c20 : (ji18) < (l0.length : Int)
               · rw [if_pos c20] at H
                 have c20b0 : decide ((ji18) < (l0.length : Int)) = true := decide_eq_true c20
                 clear c20
                 by_cases c21 : ((rdOf false l0 (ji18)) != (rdOf false l0 x13_1)) = true
                 · rw [if_pos c21] at H
                   have c21b0 : ((rdOf false l0 (ji18)) != (rdOf false l0 x13_1)) = true := c21
                   (try (have c21b1 : decide ((rdOf false l0 (ji18)) = (rdOf false l0 x13_1)) = false := by simpa using c21))
                   (try (have c21b2 : ((rdOf false l0 (ji18)) == (rdOf false l0 x13_1)) = false := by simpa using c21))
                   (try (have c21b3 : ¬ ((rdOf false l0 (ji18)) = (rdOf false l0 x13_1)) := by simpa using c21))
                   clear c21
                   by_cases c22 : x4_1.length < 17592186044416
                   · rw [if_pos c22] at H
                     have LMc22 := Aside0.mk c22
                     clear c22
                     obtain ⟨y279, hy279⟩ : ∃ y_ : List Int, y_ = (x4_1 ++ [0]) := ⟨_, rfl⟩
                     replace H : (if 0 ≤ (wrap64 ((y279.length : Int) - 1)) then (if (wrap64 ((y279.length : Int) - 1)) < (y279.length : Int) then (impl_RunsOf.l0 k1 l0 (y279.set ((wrap64 ((y279.length : Int) - 1)) : Int).toNat (wrap64 ((rd y279 (wrap64 ((y279.length : Int) - 1))) + 1))) l0 (l0.length : Int) (wrap64 (x13_1 + 1))) else (none)) else (none)) = some (r1, r2) := by first | (rw [hy279]; with_reducible exact H) | (have H2_ := (Option.bind_some _ _).symm.trans H; rw [hy279]; with_reducible exact H2_) | (have H2_ := (Option.bind_some _ _).symm.trans H; with_reducible exact H2_) | with_reducible exact H | (rw [hy279]; exact H) | exact H
                     have Ny279 := Aside0.mk hy279
                     clear hy279
                     obtain ⟨ji23, hji23⟩ : ∃ j_ : Int, (wrap64 ((y279.length : Int) - 1)) = j_ := ⟨_, rfl⟩
                     replace H : (if 0 ≤ (ji23) then (if (ji23) < (y279.length : Int) then (impl_RunsOf.l0 k1 l0 (y279.set ((ji23) : Int).toNat (wrap64 ((rd y279 (ji23)) + 1))) l0 (l0.length : Int) (wrap64 (x13_1 + 1))) else (none)) else (none)) = some (r1, r2) := by first | (rw [hji23] at H; exact H) | (simp only [hji23] at H ⊢; exact H)
                     have hji23w : (IntKind.i64.wrap ((y279.length : Int) - 1)) = ji23 := (i64_w _).trans hji23
                     by_cases c24 : 0 ≤ (ji23)
                     · rw [if_pos c24] at H
                       have c24b0 : decide (0 ≤ (ji23)) = true := decide_eq_true c24
                       clear c24
                       by_cases c25 : (ji23) < (y279.length : Int)
                       · rw [if_pos c25] at H
                         have c25b0 : decide ((ji23) < (y279.length : Int)) = true := decide_eq_true c25
                         clear c25
                         obtain ⟨y283, hy283⟩ : ∃ y_ : List Int, y_ = (y279.set ((ji23) : Int).toNat (wrap64 ((rd y279 (ji23)) + 1))) := ⟨_, rfl⟩
                         replace H : (impl_RunsOf.l0 k1 l0 y283 l0 (l0.length : Int) (wrap64 (x13_1 + 1))) = some (r1, r2) := by first | (rw [hy283]; with_reducible exact H) | (have H2_ := (Option.bind_some _ _).symm.trans H; rw [hy283]; with_reducible exact H2_) | (have H2_ := (Option.bind_some _ _).symm.trans H; with_reducible exact H2_) | with_reducible exact H | (rw [hy283]; exact H) | exact H
                         have Ny283 := Aside0.mk hy283
                         clear hy283
                         have H' := Aside0.mk H
                         clear H
                         have p272 : 0 ≤ (x13_1 : Int) := of_decide_eq_true (by first | (with_reducible assumption) | assumption)
                         have q272 : x13_1 < (l0.length : Int) := of_decide_eq_true (by first | (with_reducible assumption) | assumption)
                         obtain ⟨ad272, e272, hx272_0⟩ := Kd.at_bool HR0.out x13_1 p272 q272
                         cases e272
                         replace hx272_0 := (HB.out.cell (World.block_lt_of_cell? w _ hx272_0)).trans hx272_0
                         replace p272 := eq_true p272
                         replace q272 := eq_true q272
                         have p278 : 0 ≤ ((ji18) : Int) := of_decide_eq_true (by first | (with_reducible assumption) | assumption)
                         have q278 : (ji18) < (l0.length : Int) := of_decide_eq_true (by first | (with_reducible assumption) | assumption)
                         obtain ⟨ad278, e278, hx278_0⟩ := Kd.at_bool HR0.out (ji18) p278 q278
                         obtain rfl : ad272 = ad278 := (by injection e278)
                         replace hx278_0 := (HB.out.cell (World.block_lt_of_cell? w _ hx278_0)).trans hx278_0
                         replace p278 := eq_true p278
                         replace q278 := eq_true q278
                         go_wp2_with (first | ((with_reducible refine gate_builtin (b := .append) (xs := #[.tmp 29, .tmp 30]) rfl ?_); at_builtin; refine Kd.R_append (Kd.int .i64) (w0 := w) w.heap.size rfl (.tmp 29) (.tmp 30) 28 3 (.int .i64 0) 8 rfl Try.underlying28 info3 rfl (by decide) (by omega) u4 x4_1 0 [.int .i64 0] (fun _ => True) (fun _ => False) rfl rfl ?aP (fun _ hk => hk.elim) ?aF ?aO ?aB ?aS ?aL ?_; (case aP => exact rfl); (case aB => exact (hq HB)); (case aF => exact (fun _ _ => trivial)); (case aO => exact (rq HO_4)); (case aS => exact (below_size (hq HB))); (case aL => have := LMc22.out; omega); intro v280 w27 ho hb hg hat; rw [← Ny279.out] at ho; replace HB := Aside0.mk (hb); have HO281 := Aside0.mk (ho); clear HO_4; clear ho hb hg hat; obtain ⟨Ao28, co28, eo28⟩ := Kd.R_slice HO281.out; subst eo28; have p282 : 0 ≤ ((ji23) : Int) := of_decide_eq_true (by first | (with_reducible assumption) | assumption); have q282 : (ji23) < (y279.length : Int) := of_decide_eq_true (by first | (with_reducible assumption) | assumption); obtain ⟨ad282, e282, hx282_0⟩ := Kd.at_int (Kd.R_reads' HO281.out).2.2 (ji23) p282 q282; cases e282; replace p282 := eq_true p282; replace q282 := eq_true q282; have p26 : 0 ≤ ((ji23) : Int) := of_decide_eq_true (by first | (with_reducible assumption) | assumption); have q26 : ((ji23) : Int) < ((y279.length : Int) : Int) := of_decide_eq_true (by first | (with_reducible assumption) | assumption); obtain ⟨go26, co26, eo26, gb26, gl26, cl26, HG26⟩ := Kd.R_form HO281.out (by omega); (first | cases eo26 | (injection eo26 with ea_ en_ ec_; (first | subst ea_ | (injection ea_ with ea_; subst ea_)); subst ec_; clear en_)); have GB26 := Aside0.mk gb26; have GG26 := Aside0.mk HG26; clear gb26 gl26 HG26; (first | simp only [add_plain] at hx282_0 | skip); obtain ⟨hx26_0, hf26_0⟩ := Kd.R_celln 0 HO281.out ((ji23) : Int) p26 q26; replace p26 := eq_true p26; replace q26 := eq_true q26; obtain ⟨hy29_, hz29_⟩ := Kd.R_celln 0 HO281.out ((ji23) : Int) (of_decide_eq_true (by first | (with_reducible assumption) | assumption)) (of_decide_eq_true (by first | (with_reducible assumption) | assumption)); have HP29 := Kd.R_putg HO281.out ((ji23) : Int) (wrap64 ((rd y279 (ji23)) + 1))) | ((with_reducible refine gate_store (t := 3) (p := 39) rfl ?_); refine store_event (t := 3) (p := 39) (v := ?vo_w30) (w1 := (w27.setCell ⟨go26, ((ji23) : Int).toNat, none⟩ (.int .i64 (wrap64 ((rd y279 (ji23)) + 1))))) ?hg ?ho ?hn ?hr ?_; (case ho => rfl); (case hg => rfl); (case hn => rfl); (case hr => first | (go_simp; done) | (go_simp; rfl)); intro w30 hw; have hg : w27.grownBy w30 (some go26) := (by rw [hw]; exact HP29.2); have hp_ : Kd.R (Kd.int .i64) 3 w30 w.heap.size (fun _ => True) (.slice (some ⟨go26, 0, none⟩) y279.length co28) y283 := (by rw [hw, Ny283.out]; exact HP29.1); clear HP29; replace HO281 := Aside0.mk (hp_); replace HB := Aside0.mk ((by rw [hw]; exact below_set (HB.out) GB26.out : Below w.heap.size w w30)); clear hg hw hp_))
                         go_roundg k1
                         case measure => have := HK1.out; omega
                         case rel => exact ⟨(y283), (wrap64 (x13_1 + 1)), (by first | rfl | (simp; done) | (simp [*]; done)), H', ⟨by have := HK1.out; omega⟩, ⟨by (with_reducible repeat (first | apply Kd.R_alloc | apply Kd.R_drewN | apply Kd.R_drew)); exact HO281.out⟩, ⟨hq HB⟩⟩
                       · rw [if_neg c25] at H
                         exact absurd H (by simp)
                     · rw [if_neg c24] at H
                       exact absurd H (by simp)
                   · rw [if_neg c22] at H
                     exact absurd H (by simp)
                 · rw [if_neg c21] at H
                   have c21b0 : ((rdOf false l0 (ji18)) != (rdOf false l0 x13_1)) = false := by simpa using c21
                   (try (have c21b1 : decide ((rdOf false l0 (ji18)) = (rdOf false l0 x13_1)) = true := by simpa using c21))
                   (try (have c21b2 : ((rdOf false l0 (ji18)) == (rdOf false l0 x13_1)) = true := by simpa using c21))
                   clear c21
                   obtain ⟨ji31, hji31⟩ : ∃ j_ : Int, (wrap64 ((x4_1.length : Int) - 1)) = j_ := ⟨_, rfl⟩
                   replace H : (if 0 ≤ (ji31) then (if (ji31) < (x4_1.length : Int) then (impl_RunsOf.l0 k1 l0 (x4_1.set ((ji31) : Int).toNat (wrap64 ((rd x4_1 (ji31)) + 1))) l0 (l0.length : Int) (wrap64 (x13_1 + 1))) else (none)) else (none)) = some (r1, r2) := by first | (rw [hji31] at H; exact H) | (simp only [hji31] at H ⊢; exact H)
                   have hji31w : (IntKind.i64.wrap ((x4_1.length : Int) - 1)) = ji31 := (i64_w _).trans hji31
                   by_cases c32 : 0 ≤ (ji31)
                   · rw [if_pos c32] at H
                     have c32b0 : decide (0 ≤ (ji31)) = true := decide_eq_true c32
                     clear c32
                     by_cases c33 : (ji31) < (x4_1.length : Int)
                     · rw [if_pos c33] at H
                       have c33b0 : decide ((ji31) < (x4_1.length : Int)) = true := decide_eq_true c33
                       clear c33
                       obtain ⟨y285, hy285⟩ : ∃ y_ : List Int, y_ = (x4_1.set ((ji31) : Int).toNat (wrap64 ((rd x4_1 (ji31)) + 1))) := ⟨_, rfl⟩
                       replace H : (impl_RunsOf.l0 k1 l0 y285 l0 (l0.length : Int) (wrap64 (x13_1 + 1))) = some (r1, r2) := by first | (rw [hy285]; with_reducible exact H) | (have H2_ := (Option.bind_some _ _).symm.trans H; rw [hy285]; with_reducible exact H2_) | (have H2_ := (Option.bind_some _ _).symm.trans H; with_reducible exact H2_) | with_reducible exact H | (rw [hy285]; exact H) | exact H
                       have Ny285 := Aside0.mk hy285
                       clear hy285
                       have H' := Aside0.mk H
                       clear H
                       have p272 : 0 ≤ (x13_1 : Int) := of_decide_eq_true (by first | (with_reducible assumption) | assumption)
                       have q272 : x13_1 < (l0.length : Int) := of_decide_eq_true (by first | (with_reducible assumption) | assumption)
                       obtain ⟨ad272, e272, hx272_0⟩ := Kd.at_bool HR0.out x13_1 p272 q272
                       cases e272
                       replace hx272_0 := (HB.out.cell (World.block_lt_of_cell? w _ hx272_0)).trans hx272_0
                       replace p272 := eq_true p272
                       replace q272 := eq_true q272
                       have p278 : 0 ≤ ((ji18) : Int) := of_decide_eq_true (by first | (with_reducible assumption) | assumption)
                       have q278 : (ji18) < (l0.length : Int) := of_decide_eq_true (by first | (with_reducible assumption) | assumption)
                       obtain ⟨ad278, e278, hx278_0⟩ := Kd.at_bool HR0.out (ji18) p278 q278
                       obtain rfl : ad272 = ad278 := (by injection e278)
                       replace hx278_0 := (HB.out.cell (World.block_lt_of_cell? w _ hx278_0)).trans hx278_0
                       replace p278 := eq_true p278
                       replace q278 := eq_true q278
                       obtain ⟨Ao35, co35, eo35⟩ := Kd.R_slice HO_4.out
                       subst eo35
                       have p284 : 0 ≤ ((ji31) : Int) := of_decide_eq_true (by first | (with_reducible assumption) | assumption)
                       have q284 : (ji31) < (x4_1.length : Int) := of_decide_eq_true (by first | (with_reducible assumption) | assumption)
                       obtain ⟨ad284, e284, hx284_0⟩ := Kd.at_int (Kd.R_reads' HO_4.out).2.2 (ji31) p284 q284
                       cases e284
                       replace p284 := eq_true p284
                       replace q284 := eq_true q284
                       have p34 : 0 ≤ ((ji31) : Int) := of_decide_eq_true (by first | (with_reducible assumption) | assumption)
                       have q34 : ((ji31) : Int) < ((x4_1.length : Int) : Int) := of_decide_eq_true (by first | (with_reducible assumption) | assumption)
                       obtain ⟨go34, co34, eo34, gb34, gl34, cl34, HG34⟩ := Kd.R_form HO_4.out (by omega)
                       (first | cases eo34 | (injection eo34 with ea_ en_ ec_; (first | subst ea_ | (injection ea_ with ea_; subst ea_)); subst ec_; clear en_))
                       have GB34 := Aside0.mk gb34
                       have GG34 := Aside0.mk HG34
                       clear gb34 gl34 HG34
                       (first | simp only [add_plain] at hx284_0 | skip)
                       obtain ⟨hx34_0, hf34_0⟩ := Kd.R_celln 0 HO_4.out ((ji31) : Int) p34 q34
                       replace p34 := eq_true p34
                       replace q34 := eq_true q34
                       have HP36 := Kd.R_putg HO_4.out ((ji31) : Int) (wrap64 ((rd x4_1 (ji31)) + 1))
                       go_wp2_with (first | ((with_reducible refine gate_store (t := 3) (p := 39) rfl ?_); refine store_event (t := 3) (p := 39) (v := ?vo_w37) (w1 := (wr.setCell ⟨go34, ((ji31) : Int).toNat, none⟩ (.int .i64 (wrap64 ((rd x4_1 (ji31)) + 1))))) ?hg ?ho ?hn ?hr ?_; (case ho => rfl); (case hg => rfl); (case hn => rfl); (case hr => first | (go_simp; done) | (go_simp; rfl)); intro w37 hw; have hg : wr.grownBy w37 (some go34) := (by rw [hw]; exact HP36.2); have hp_ : Kd.R (Kd.int .i64) 3 w37 w.heap.size (fun _ => True) (.slice (some ⟨go34, 0, none⟩) x4_1.length co35) y285 := (by rw [hw, Ny285.out]; exact HP36.1); clear HP36; replace HO_4 := Aside0.mk (hp_); replace HB := Aside0.mk ((by rw [hw]; exact below_set (HB.out) GB34.out : Below w.heap.size w w37)); clear hg hw hp_))
                       go_roundg k1
                       case measure => have := HK1.out; omega
                       case rel => exact ⟨(y285), (wrap64 (x13_1 + 1)), (by first | rfl | (simp; done) | (simp [*]; done)), H', ⟨by have := HK1.out; omega⟩, ⟨by (with_reducible repeat (first | apply Kd.R_alloc | apply Kd.R_drewN | apply Kd.R_drew)); exact HO_4.out⟩, ⟨hq HB⟩⟩
                     · rw [if_neg c33] at H
                       exact absurd H (by simp)
                   · rw [if_neg c32] at H
                     exact absurd H (by simp)
               · rw [if_neg c20] at H
                 exact absurd H (by simp)
             · rw [if_neg c19] at H
               exact absurd H (by simp)
         · rw [if_neg c7] at H
           exact absurd H (by simp)
       · rw [if_neg c6] at H
         exact absurd H (by simp)
     · rw [if_neg c5] at H
       have c5b0 : decide (x13_1 < (l0.length : Int)) = false := decide_eq_false c5
       clear c5
       simp only [Option.some.injEq, Prod.mk.injEq] at H
       obtain ⟨rfl, rfl⟩ := H
       go_wp2
       go_ret2
       exact ⟨_, by first | rfl | (simp [errW_none, errW_some] <;> rfl) | (simp [*, errW_none, errW_some] <;> rfl), by (with_reducible repeat (first | apply Kd.R_alloc | apply Kd.R_drewN | apply Kd.R_drew)); exact HO_4.out, hq HB⟩

/-! ### spec_l1In: function 65 -/
def spec_l1In.f (a0 : Int) (a1 : Int) (a2 : Int) : Option (Bool) := if a0 ≥ a1 then (some (decide (a0 ≤ a2))) else (some false)
set_option maxHeartbeats 8000000 in
set_option maxRecDepth 100000 in
theorem spec_l1In.calls (a0 : Int) (a1 : Int) (a2 : Int) (r : Bool) (w : World) (h : spec_l1In.f a0 a1 a2 = some r) :
    Calls Try.prog 65 #[.int .i64 a0, .int .i64 a1, .int .i64 a2] w fun e w' => e = .returned (.bool r) ∧ Drawn0 w w' := by
 have H : (if a0 ≥ a1 then (some (decide (a0 ≤ a2))) else (some false)) = some r := h
 clear h
 by_cases c4 : a0 ≥ a1
 · rw [if_pos c4] at H
   have c4b0 : decide (a1 ≤ a0) = true := decide_eq_true c4
   clear c4
   obtain rfl := Option.some.inj H
   go_enter Try.func65, Try.ntmps65
   go_wp2
   go_ret
   exact ⟨by first | rfl | (simp; done) | (simp [*]; done), by repeat (first | exact Drawn0.refl _ | apply Drawn0.step)⟩
 rw [if_neg c4] at H
 have c4b0 : decide (a1 ≤ a0) = false := decide_eq_false c4
 clear c4
 obtain rfl := Option.some.inj H
 go_enter Try.func65, Try.ntmps65
 go_wp2
 go_ret
 exact ⟨by first | rfl | (simp; done) | (simp [*]; done), by repeat (first | exact Drawn0.refl _ | apply Drawn0.step)⟩

/-! ### spec_l1Rising: function 51 -/
def spec_l1Rising.l0 : Nat → List Int → Int → Int → List Int → Int → Int → Option (Bool)
  | 0, _, _, _, _, _, _ => none
  | k + 1, x0, x1, x2, x9, x10, x11 => if x11 < x10 then (if 0 ≤ x11 then (if x11 < (x9.length : Int) then ((spec_l1In.f (rd x9 x11) x1 x2).bind fun t287 => (if t287 = true then (if x11 > 0 then (if 0 ≤ (wrap64 (x11 - 1)) then (if (wrap64 (x11 - 1)) < (x0.length : Int) then (if (rd x0 (wrap64 (x11 - 1))) ≥ (rd x9 x11) then (some false) else (spec_l1Rising.l0 k x0 x1 x2 x9 x10 (wrap64 (x11 + 1)))) else (none)) else (none)) else (spec_l1Rising.l0 k x0 x1 x2 x9 x10 (wrap64 (x11 + 1)))) else (some false))) else (none)) else (none)) else (some true)
def spec_l1Rising.f (k : Nat) (l0 : List Int) (a1 : Int) (a2 : Int) : Option (Bool) := spec_l1Rising.l0 k l0 a1 a2 l0 (l0.length : Int) 0
theorem spec_l1Rising.mono_l : ∀ k, (∀ y0 y1 y2 y3 y4 y5, LeO (spec_l1Rising.l0 k y0 y1 y2 y3 y4 y5) (spec_l1Rising.l0 (k + 1) y0 y1 y2 y3 y4 y5))
  | 0 => fun _ _ _ _ _ _ r h => by simp [spec_l1Rising.l0] at h
  | k + 1 => by
    have ih0 := spec_l1Rising.mono_l k
    · intro y0 y1 y2 y3 y4 y5
      unfold spec_l1Rising.l0
      repeat' first
      | (with_reducible exact ih0 _ _ _ _ _ _)
      | (with_reducible exact LeO.refl _)
      | (with_reducible exact LeO.none _)
      | (with_reducible refine LeO.ite ?_ ?_)
      | (with_reducible refine LeO.bind ?_ (fun _ => ?_))
      | exact ih0 _ _ _ _ _ _
      | exact LeO.none _
      | refine LeO.ite ?_ ?_
      | refine LeO.bind ?_ (fun _ => ?_)
theorem spec_l1Rising.mono : ∀ a0 a1 a2 k, LeO (spec_l1Rising.f k a0 a1 a2) (spec_l1Rising.f (k + 1) a0 a1 a2) := by
  intro a0 a1 a2 k
  have ih0 := spec_l1Rising.mono_l k
  unfold spec_l1Rising.f
  repeat' first
      | (with_reducible exact ih0 _ _ _ _ _ _)
      | (with_reducible exact LeO.refl _)
      | (with_reducible exact LeO.none _)
      | (with_reducible refine LeO.ite ?_ ?_)
      | (with_reducible refine LeO.bind ?_ (fun _ => ?_))
      | exact ih0 _ _ _ _ _ _
      | exact LeO.none _
      | refine LeO.ite ?_ ?_
      | refine LeO.bind ?_ (fun _ => ?_)
set_option maxHeartbeats 8000000 in
set_option maxRecDepth 100000 in
theorem spec_l1Rising.calls (k : Nat) (A0 : Option Addr) (c0 : Nat) (l0 : List Int) (a1 : Int) (a2 : Int) (r : Bool) (w : World) (hr0 : Kd.C (Kd.int .i64) w A0 l0.length l0) (hc0 : l0.length ≤ c0) (h : spec_l1Rising.f k l0 a1 a2 = some r) :
    Calls Try.prog 51 #[.slice A0 l0.length c0, .int .i64 a1, .int .i64 a2] w fun e w' => e = .returned (.bool r) ∧ Drawn0 w w' := by
 have HR0 := Aside0.mk hr0
 have HC0 := Aside0.mk hc0
 clear hr0 hc0
 have H : (spec_l1Rising.l0 k l0 a1 a2 l0 (l0.length : Int) 0) = some r := h
 clear h
 have H' := Aside0.mk H
 clear H
 go_enter Try.func51, Try.ntmps51
 go_wp2
 go_loopg [11] k (fun kq v11 w' => ∃ (x11_1 : Int), v11 = .int .i64 x11_1 ∧ Aside0 (spec_l1Rising.l0 kq l0 a1 a2 l0 (l0.length : Int) x11_1 = some r) ∧ Aside0 (kq ≤ k) ∧ Drawn0 w w')
 case atStart => exact ⟨(0), (by first | rfl | (simp; done) | (simp [*]; done)), H', ⟨Nat.le_refl _⟩, by repeat (first | exact Drawn0.refl _ | apply Drawn0.step)⟩
 case round =>
   clear H'
   try clear p2
   obtain ⟨x11_1, rfl, HA, HK1, ⟨m1, rfl⟩⟩ := hrel
   cases gk with
   | zero => exact absurd HA.out (by simp [spec_l1Rising.l0])
   | succ k1 =>
     have H := HA.out
     clear HA
     simp only [spec_l1Rising.l0] at H
     by_cases c4 : x11_1 < (l0.length : Int)
     · rw [if_pos c4] at H
       have c4b0 : decide (x11_1 < (l0.length : Int)) = true := decide_eq_true c4
       clear c4
       by_cases c5 : 0 ≤ x11_1
       · rw [if_pos c5] at H
         have c5b0 : decide (0 ≤ x11_1) = true := decide_eq_true c5
         clear c5
         by_cases c6 : x11_1 < (l0.length : Int)
         · rw [if_pos c6] at H
           have c6b0 : decide (x11_1 < (l0.length : Int)) = true := decide_eq_true c6
           clear c6
           replace H := Option.bind_eq_some_iff.mp H
           obtain ⟨t287, A70, H⟩ := H
           replace H : (if t287 = true then (if x11_1 > 0 then (if 0 ≤ (wrap64 (x11_1 - 1)) then (if (wrap64 (x11_1 - 1)) < (l0.length : Int) then (if (rd l0 (wrap64 (x11_1 - 1))) ≥ (rd l0 x11_1) then (some false) else (spec_l1Rising.l0 k1 l0 a1 a2 l0 (l0.length : Int) (wrap64 (x11_1 + 1)))) else (none)) else (none)) else (spec_l1Rising.l0 k1 l0 a1 a2 l0 (l0.length : Int) (wrap64 (x11_1 + 1)))) else (some false)) = some r := H
           have A7 := Aside0.mk A70
           clear A70
           by_cases c8 : t287 = true
           · subst c8
             have H1 : (if x11_1 > 0 then (if 0 ≤ (wrap64 (x11_1 - 1)) then (if (wrap64 (x11_1 - 1)) < (l0.length : Int) then (if (rd l0 (wrap64 (x11_1 - 1))) ≥ (rd l0 x11_1) then (some false) else (spec_l1Rising.l0 k1 l0 a1 a2 l0 (l0.length : Int) (wrap64 (x11_1 + 1)))) else (none)) else (none)) else (spec_l1Rising.l0 k1 l0 a1 a2 l0 (l0.length : Int) (wrap64 (x11_1 + 1)))) = some r := by rw [if_pos rfl] at H; exact H
             clear H
             have H := H1
             clear H1
             by_cases c9 : x11_1 > 0
             · rw [if_pos c9] at H
               have c9b0 : decide (0 < x11_1) = true := decide_eq_true c9
               clear c9
               obtain ⟨ji10, hji10⟩ : ∃ j_ : Int, (wrap64 (x11_1 - 1)) = j_ := ⟨_, rfl⟩
               replace H : (if 0 ≤ (ji10) then (if (ji10) < (l0.length : Int) then (if (rd l0 (ji10)) ≥ (rd l0 x11_1) then (some false) else (spec_l1Rising.l0 k1 l0 a1 a2 l0 (l0.length : Int) (wrap64 (x11_1 + 1)))) else (none)) else (none)) = some r := by first | (rw [hji10] at H; exact H) | (simp only [hji10] at H ⊢; exact H)
               (try rw [hji10] at A7)
               have hji10w : (IntKind.i64.wrap (x11_1 - 1)) = ji10 := (i64_w _).trans hji10
               by_cases c11 : 0 ≤ (ji10)
               · rw [if_pos c11] at H
                 have c11b0 : decide (0 ≤ (ji10)) = true := decide_eq_true c11
                 clear c11
                 by_cases c12 : (ji10) < (l0.length : Int)
                 · rw [if_pos c12] at H
                   have c12b0 : decide ((ji10) < (l0.length : Int)) = true := decide_eq_true c12
                   clear c12
                   by_cases c13 : (rd l0 (ji10)) ≥ (rd l0 x11_1)
                   · rw [if_pos c13] at H
                     have c13b0 : decide ((rd l0 x11_1) ≤ (rd l0 (ji10))) = true := decide_eq_true c13
                     clear c13
                     obtain rfl := Option.some.inj H
                     have p286 : 0 ≤ (x11_1 : Int) := of_decide_eq_true (by first | (with_reducible assumption) | assumption)
                     have q286 : x11_1 < (l0.length : Int) := of_decide_eq_true (by first | (with_reducible assumption) | assumption)
                     obtain ⟨ad286, e286, hx286_0⟩ := Kd.at_int HR0.out x11_1 p286 q286
                     cases e286
                     replace p286 := eq_true p286
                     replace q286 := eq_true q286
                     go_wp2_with (first | ((with_reducible refine gate_callee (f := 65) rfl ?_); refine goesL_ (some 19) rfl rfl Try.func65 (by kernel_rfl) rfl #[.int .i64 (rd l0 x11_1), .int .i64 a1, .int .i64 a2] rfl (by (try simp only [List.map_toArray, List.map_cons, List.map_nil]); first | done | rfl | (simp only [List.length_drop, List.length_take]; rfl)) ?_; (with_reducible refine (spec_l1In.calls (rd l0 x11_1) a1 a2 true _ A7.out).mono ?_); rintro e w' ⟨rfl, ⟨nd, rfl⟩⟩; refine ⟨_, rfl, ?_⟩; have p288 : 0 ≤ ((ji10) : Int) := of_decide_eq_true (by first | (with_reducible assumption) | assumption); have q288 : (ji10) < (l0.length : Int) := of_decide_eq_true (by first | (with_reducible assumption) | assumption); obtain ⟨ad288, e288, hx288_0⟩ := Kd.at_int HR0.out (ji10) p288 q288; obtain rfl : ad286 = ad288 := (by injection e288); replace p288 := eq_true p288; replace q288 := eq_true q288))
                     go_ret
                     exact ⟨by first | rfl | (simp; done) | (simp only [← hji10] <;> (first | rfl | simp)) | (simp [*]; done), by repeat (first | exact Drawn0.refl _ | apply Drawn0.step)⟩
                   · rw [if_neg c13] at H
                     have c13b0 : decide ((rd l0 x11_1) ≤ (rd l0 (ji10))) = false := decide_eq_false c13
                     clear c13
                     have H' := Aside0.mk H
                     clear H
                     have p286 : 0 ≤ (x11_1 : Int) := of_decide_eq_true (by first | (with_reducible assumption) | assumption)
                     have q286 : x11_1 < (l0.length : Int) := of_decide_eq_true (by first | (with_reducible assumption) | assumption)
                     obtain ⟨ad286, e286, hx286_0⟩ := Kd.at_int HR0.out x11_1 p286 q286
                     cases e286
                     replace p286 := eq_true p286
                     replace q286 := eq_true q286
                     go_wp2_with (first | ((with_reducible refine gate_callee (f := 65) rfl ?_); refine goesL_ (some 19) rfl rfl Try.func65 (by kernel_rfl) rfl #[.int .i64 (rd l0 x11_1), .int .i64 a1, .int .i64 a2] rfl (by (try simp only [List.map_toArray, List.map_cons, List.map_nil]); first | done | rfl | (simp only [List.length_drop, List.length_take]; rfl)) ?_; (with_reducible refine (spec_l1In.calls (rd l0 x11_1) a1 a2 true _ A7.out).mono ?_); rintro e w' ⟨rfl, ⟨nd, rfl⟩⟩; refine ⟨_, rfl, ?_⟩; have p288 : 0 ≤ ((ji10) : Int) := of_decide_eq_true (by first | (with_reducible assumption) | assumption); have q288 : (ji10) < (l0.length : Int) := of_decide_eq_true (by first | (with_reducible assumption) | assumption); obtain ⟨ad288, e288, hx288_0⟩ := Kd.at_int HR0.out (ji10) p288 q288; obtain rfl : ad286 = ad288 := (by injection e288); replace p288 := eq_true p288; replace q288 := eq_true q288))
                     go_roundg k1
                     case measure => have := HK1.out; omega
                     case rel => exact ⟨(wrap64 (x11_1 + 1)), (by first | rfl | (simp; done) | (simp [*]; done)), H', ⟨by have := HK1.out; omega⟩, by repeat (first | exact Drawn0.refl _ | apply Drawn0.step)⟩
                 · rw [if_neg c12] at H
                   exact absurd H (by simp)
               · rw [if_neg c11] at H
                 exact absurd H (by simp)
             · rw [if_neg c9] at H
               have c9b0 : decide (0 < x11_1) = false := decide_eq_false c9
               clear c9
               have H' := Aside0.mk H
               clear H
               have p286 : 0 ≤ (x11_1 : Int) := of_decide_eq_true (by first | (with_reducible assumption) | assumption)
               have q286 : x11_1 < (l0.length : Int) := of_decide_eq_true (by first | (with_reducible assumption) | assumption)
               obtain ⟨ad286, e286, hx286_0⟩ := Kd.at_int HR0.out x11_1 p286 q286
               cases e286
               replace p286 := eq_true p286
               replace q286 := eq_true q286
               go_wp2_with (first | ((with_reducible refine gate_callee (f := 65) rfl ?_); refine goesL_ (some 19) rfl rfl Try.func65 (by kernel_rfl) rfl #[.int .i64 (rd l0 x11_1), .int .i64 a1, .int .i64 a2] rfl (by (try simp only [List.map_toArray, List.map_cons, List.map_nil]); first | done | rfl | (simp only [List.length_drop, List.length_take]; rfl)) ?_; (with_reducible refine (spec_l1In.calls (rd l0 x11_1) a1 a2 true _ A7.out).mono ?_); rintro e w' ⟨rfl, ⟨nd, rfl⟩⟩; refine ⟨_, rfl, ?_⟩))
               go_roundg k1
               case measure => have := HK1.out; omega
               case rel => exact ⟨(wrap64 (x11_1 + 1)), (by first | rfl | (simp; done) | (simp [*]; done)), H', ⟨by have := HK1.out; omega⟩, by repeat (first | exact Drawn0.refl _ | apply Drawn0.step)⟩
           · replace c8 := Bool.eq_false_iff.mpr c8
             subst c8
             have H1 : (some false) = some r := by rw [if_neg (show ¬ (false = true) by decide)] at H; exact H
             clear H
             have H := H1
             clear H1
             obtain rfl := Option.some.inj H
             have p286 : 0 ≤ (x11_1 : Int) := of_decide_eq_true (by first | (with_reducible assumption) | assumption)
             have q286 : x11_1 < (l0.length : Int) := of_decide_eq_true (by first | (with_reducible assumption) | assumption)
             obtain ⟨ad286, e286, hx286_0⟩ := Kd.at_int HR0.out x11_1 p286 q286
             cases e286
             replace p286 := eq_true p286
             replace q286 := eq_true q286
             go_wp2_with (first | ((with_reducible refine gate_callee (f := 65) rfl ?_); refine goesL_ (some 19) rfl rfl Try.func65 (by kernel_rfl) rfl #[.int .i64 (rd l0 x11_1), .int .i64 a1, .int .i64 a2] rfl (by (try simp only [List.map_toArray, List.map_cons, List.map_nil]); first | done | rfl | (simp only [List.length_drop, List.length_take]; rfl)) ?_; (with_reducible refine (spec_l1In.calls (rd l0 x11_1) a1 a2 false _ A7.out).mono ?_); rintro e w' ⟨rfl, ⟨nd, rfl⟩⟩; refine ⟨_, rfl, ?_⟩))
             go_ret
             exact ⟨by first | rfl | (simp; done) | (simp [*]; done), by repeat (first | exact Drawn0.refl _ | apply Drawn0.step)⟩
         · rw [if_neg c6] at H
           exact absurd H (by simp)
       · rw [if_neg c5] at H
         exact absurd H (by simp)
     · rw [if_neg c4] at H
       have c4b0 : decide (x11_1 < (l0.length : Int)) = false := decide_eq_false c4
       clear c4
       obtain rfl := Option.some.inj H
       go_wp2
       go_ret
       exact ⟨by first | rfl | (simp; done) | (simp [*]; done), by repeat (first | exact Drawn0.refl _ | apply Drawn0.step)⟩

/-! ### spec_GoodTaps: function 18 -/
def spec_GoodTaps.f (k : Nat) (l0 : List Int) : Option (Bool) := (spec_l1Rising.f k l0 1 12).bind fun t289 => (some t289)
theorem spec_GoodTaps.mono : ∀ a0 k, LeO (spec_GoodTaps.f k a0) (spec_GoodTaps.f (k + 1) a0) := by
  intro a0 k
  unfold spec_GoodTaps.f
  repeat' first
      | (with_reducible exact spec_l1Rising.mono _ _ _ _)
      | (with_reducible exact LeO.refl _)
      | (with_reducible exact LeO.none _)
      | (with_reducible refine LeO.ite ?_ ?_)
      | (with_reducible refine LeO.bind ?_ (fun _ => ?_))
      | exact spec_l1Rising.mono _ _ _ _
      | exact LeO.none _
      | refine LeO.ite ?_ ?_
      | refine LeO.bind ?_ (fun _ => ?_)
set_option maxHeartbeats 8000000 in
set_option maxRecDepth 100000 in
theorem spec_GoodTaps.calls (k : Nat) (A0 : Option Addr) (c0 : Nat) (l0 : List Int) (r : Bool) (w : World) (hr0 : Kd.C (Kd.int .i64) w A0 l0.length l0) (hc0 : l0.length ≤ c0) (h : spec_GoodTaps.f k l0 = some r) :
    Calls Try.prog 18 #[.slice A0 l0.length c0] w fun e w' => e = .returned (.bool r) ∧ Drawn0 w w' := by
 have HR0 := Aside0.mk hr0
 have HC0 := Aside0.mk hc0
 clear hr0 hc0
 have H : ((spec_l1Rising.f k l0 1 12).bind fun t289 => (some t289)) = some r := h
 clear h
 replace H := Option.bind_eq_some_iff.mp H
 obtain ⟨t289, A20, H⟩ := H
 replace H : (some t289) = some r := H
 have A2 := Aside0.mk A20
 clear A20
 obtain rfl := Option.some.inj H
 go_enter Try.func18, Try.ntmps18
 go_wp2_with (first | ((with_reducible refine gate_callee (f := 51) rfl ?_); refine goesL_ (some 4) rfl rfl Try.func51 (by kernel_rfl) rfl #[.slice A0 l0.length c0, .int .i64 1, .int .i64 12] rfl (by (try simp only [List.map_toArray, List.map_cons, List.map_nil]); first | done | rfl | (simp only [List.length_drop, List.length_take]; rfl)) ?_; (with_reducible refine (spec_l1Rising.calls k _ _ l0 1 12 t289 _ ?side1 ?side2 A2.out).mono ?_); (case side1 => repeat (first | exact HR0.out | (with_reducible refine Kd.C_alloc ?_ _) | (with_reducible refine Kd.C_drewN ?_ _) | (with_reducible refine Kd.C_drew ?_))); (case side2 => exact HC0.out); rintro e w' ⟨rfl, ⟨nd, rfl⟩⟩; refine ⟨_, rfl, ?_⟩))
 go_ret
 exact ⟨by first | rfl | (simp; done) | (simp [*]; done), by repeat (first | exact Drawn0.refl _ | apply Drawn0.step)⟩

/-! ### spec_l3Next: function 53 -/
def spec_l3Next.l0 : Nat → List Bool → Int → Bool → List Int → Int → Int → Option (Bool)
  | 0, _, _, _, _, _, _ => none
  | k + 1, x0, x2, x7, x10, x11, x12 => if x12 < x11 then (if 0 ≤ x12 then (if x12 < (x10.length : Int) then (if x2 ≥ (rd x10 x12) then (if 0 ≤ (wrap64 (x2 - (rd x10 x12))) then (if (wrap64 (x2 - (rd x10 x12))) < (x0.length : Int) then (if rdOf false x0 (wrap64 (x2 - (rd x10 x12))) = true then (spec_l3Next.l0 k x0 x2 (!x7) x10 x11 (wrap64 (x12 + 1))) else (spec_l3Next.l0 k x0 x2 x7 x10 x11 (wrap64 (x12 + 1)))) else (none)) else (none)) else (spec_l3Next.l0 k x0 x2 x7 x10 x11 (wrap64 (x12 + 1)))) else (none)) else (none)) else (some x7)
def spec_l3Next.f (k : Nat) (l0 : List Bool) (l1 : List Int) (a2 : Int) : Option (Bool) := spec_l3Next.l0 k l0 a2 false l1 (l1.length : Int) 0
theorem spec_l3Next.mono_l : ∀ k, (∀ y0 y1 y2 y3 y4 y5, LeO (spec_l3Next.l0 k y0 y1 y2 y3 y4 y5) (spec_l3Next.l0 (k + 1) y0 y1 y2 y3 y4 y5))
  | 0 => fun _ _ _ _ _ _ r h => by simp [spec_l3Next.l0] at h
  | k + 1 => by
    have ih0 := spec_l3Next.mono_l k
    · intro y0 y1 y2 y3 y4 y5
      unfold spec_l3Next.l0
      repeat' first
      | (with_reducible exact ih0 _ _ _ _ _ _)
      | (with_reducible exact LeO.refl _)
      | (with_reducible exact LeO.none _)
      | (with_reducible refine LeO.ite ?_ ?_)
      | (with_reducible refine LeO.bind ?_ (fun _ => ?_))
      | exact ih0 _ _ _ _ _ _
      | exact LeO.none _
      | refine LeO.ite ?_ ?_
      | refine LeO.bind ?_ (fun _ => ?_)
theorem spec_l3Next.mono : ∀ a0 a1 a2 k, LeO (spec_l3Next.f k a0 a1 a2) (spec_l3Next.f (k + 1) a0 a1 a2) := by
  intro a0 a1 a2 k
  have ih0 := spec_l3Next.mono_l k
  unfold spec_l3Next.f
  repeat' first
      | (with_reducible exact ih0 _ _ _ _ _ _)
      | (with_reducible exact LeO.refl _)
      | (with_reducible exact LeO.none _)
      | (with_reducible refine LeO.ite ?_ ?_)
      | (with_reducible refine LeO.bind ?_ (fun _ => ?_))
      | exact ih0 _ _ _ _ _ _
      | exact LeO.none _
      | refine LeO.ite ?_ ?_
      | refine LeO.bind ?_ (fun _ => ?_)
set_option maxHeartbeats 8000000 in
set_option maxRecDepth 100000 in
theorem spec_l3Next.calls (k : Nat) (A0 : Option Addr) (c0 : Nat) (l0 : List Bool) (A1 : Option Addr) (c1 : Nat) (l1 : List Int) (a2 : Int) (r : Bool) (w : World) (hr0 : Kd.C Kd.bool w A0 l0.length l0) (hc0 : l0.length ≤ c0) (hr1 : Kd.C (Kd.int .i64) w A1 l1.length l1) (hc1 : l1.length ≤ c1) (h : spec_l3Next.f k l0 l1 a2 = some r) :
    Calls Try.prog 53 #[.slice A0 l0.length c0, .slice A1 l1.length c1, .int .i64 a2] w fun e w' => e = .returned (.bool r) ∧ Drawn0 w w' := by
 have HR0 := Aside0.mk hr0
 have HC0 := Aside0.mk hc0
 clear hr0 hc0
 have HR1 := Aside0.mk hr1
 have HC1 := Aside0.mk hc1
 clear hr1 hc1
 have H : (spec_l3Next.l0 k l0 a2 false l1 (l1.length : Int) 0) = some r := h
 clear h
 have H' := Aside0.mk H
 clear H
 go_enter Try.func53, Try.ntmps53
 go_wp2
 go_loopg [7, 12] k (fun kq v7 v12 w' => ∃ (x7_1 : Bool) (x12_1 : Int), v7 = .bool x7_1 ∧ v12 = .int .i64 x12_1 ∧ Aside0 (spec_l3Next.l0 kq l0 a2 x7_1 l1 (l1.length : Int) x12_1 = some r) ∧ Aside0 (kq ≤ k) ∧ Drawn0 w w')
 case atStart => exact ⟨(false), (0), (by first | rfl | (simp; done) | (simp [*]; done)), (by first | rfl | (simp; done) | (simp [*]; done)), H', ⟨Nat.le_refl _⟩, by repeat (first | exact Drawn0.refl _ | apply Drawn0.step)⟩
 case round =>
   clear H'
   try clear c1
   try clear p2
   obtain ⟨x7_1, x12_1, rfl, rfl, HA, HK1, ⟨m1, rfl⟩⟩ := hrel
   cases gk with
   | zero => exact absurd HA.out (by simp [spec_l3Next.l0])
   | succ k1 =>
     have H := HA.out
     clear HA
     simp only [spec_l3Next.l0] at H
     by_cases c4 : x12_1 < (l1.length : Int)
     · rw [if_pos c4] at H
       have c4b0 : decide (x12_1 < (l1.length : Int)) = true := decide_eq_true c4
       clear c4
       by_cases c5 : 0 ≤ x12_1
       · rw [if_pos c5] at H
         have c5b0 : decide (0 ≤ x12_1) = true := decide_eq_true c5
         clear c5
         by_cases c6 : x12_1 < (l1.length : Int)
         · rw [if_pos c6] at H
           have c6b0 : decide (x12_1 < (l1.length : Int)) = true := decide_eq_true c6
           clear c6
           by_cases c7 : a2 ≥ (rd l1 x12_1)
           · rw [if_pos c7] at H
             have c7b0 : decide ((rd l1 x12_1) ≤ a2) = true := decide_eq_true c7
             clear c7
             obtain ⟨ji8, hji8⟩ : ∃ j_ : Int, (wrap64 (a2 - (rd l1 x12_1))) = j_ := ⟨_, rfl⟩
             replace H : (if 0 ≤ (ji8) then (if (ji8) < (l0.length : Int) then (if rdOf false l0 (ji8) = true then (spec_l3Next.l0 k1 l0 a2 (!x7_1) l1 (l1.length : Int) (wrap64 (x12_1 + 1))) else (spec_l3Next.l0 k1 l0 a2 x7_1 l1 (l1.length : Int) (wrap64 (x12_1 + 1)))) else (none)) else (none)) = some r := by first | (rw [hji8] at H; exact H) | (simp only [hji8] at H ⊢; exact H)
             have hji8w : (IntKind.i64.wrap (a2 - (rd l1 x12_1))) = ji8 := (i64_w _).trans hji8
             by_cases c9 : 0 ≤ (ji8)
             · rw [if_pos c9] at H
               have c9b0 : decide (0 ≤ (ji8)) = true := decide_eq_true c9
               clear c9
               by_cases c10 : (ji8) < (l0.length : Int)
               · rw [if_pos c10] at H
                 have c10b0 : decide ((ji8) < (l0.length : Int)) = true := decide_eq_true c10
                 clear c10
                 obtain ⟨bq11, hbq11⟩ : ∃ b_ : Bool, b_ = (rdOf false l0 (ji8)) := ⟨_, rfl⟩
                 replace H : (if bq11 = true then (spec_l3Next.l0 k1 l0 a2 (!x7_1) l1 (l1.length : Int) (wrap64 (x12_1 + 1))) else (spec_l3Next.l0 k1 l0 a2 x7_1 l1 (l1.length : Int) (wrap64 (x12_1 + 1)))) = some r := by rw [← hbq11] at H; exact H
                 have Nbq11 := Aside0.mk hbq11
                 clear hbq11
                 by_cases c12 : bq11 = true
                 · subst c12
                   have H1 : (spec_l3Next.l0 k1 l0 a2 (!x7_1) l1 (l1.length : Int) (wrap64 (x12_1 + 1))) = some r := by rw [if_pos rfl] at H; exact H
                   clear H
                   have H := H1
                   clear H1
                   have H' := Aside0.mk H
                   clear H
                   have p290 : 0 ≤ (x12_1 : Int) := of_decide_eq_true (by first | (with_reducible assumption) | assumption)
                   have q290 : x12_1 < (l1.length : Int) := of_decide_eq_true (by first | (with_reducible assumption) | assumption)
                   obtain ⟨ad290, e290, hx290_0⟩ := Kd.at_int HR1.out x12_1 p290 q290
                   cases e290
                   replace p290 := eq_true p290
                   replace q290 := eq_true q290
                   have p291 : 0 ≤ ((ji8) : Int) := of_decide_eq_true (by first | (with_reducible assumption) | assumption)
                   have q291 : (ji8) < (l0.length : Int) := of_decide_eq_true (by first | (with_reducible assumption) | assumption)
                   obtain ⟨ad291, e291, hx291_0⟩ := Kd.at_bool HR0.out (ji8) p291 q291
                   (try rw [← Nbq11.out] at hx291_0)
                   cases e291
                   replace p291 := eq_true p291
                   replace q291 := eq_true q291
                   go_wp2
                   go_roundg k1
                   case measure => have := HK1.out; omega
                   case rel => exact ⟨(!x7_1), (wrap64 (x12_1 + 1)), (by first | rfl | (simp; done) | (simp [*]; done)), (by first | rfl | (simp; done) | (simp [*]; done)), H', ⟨by have := HK1.out; omega⟩, by repeat (first | exact Drawn0.refl _ | apply Drawn0.step)⟩
                 · replace c12 := Bool.eq_false_iff.mpr c12
                   subst c12
                   have H1 : (spec_l3Next.l0 k1 l0 a2 x7_1 l1 (l1.length : Int) (wrap64 (x12_1 + 1))) = some r := by rw [if_neg (show ¬ (false = true) by decide)] at H; exact H
                   clear H
                   have H := H1
                   clear H1
                   have H' := Aside0.mk H
                   clear H
                   have p290 : 0 ≤ (x12_1 : Int) := of_decide_eq_true (by first | (with_reducible assumption) | assumption)
                   have q290 : x12_1 < (l1.length : Int) := of_decide_eq_true (by first | (with_reducible assumption) | assumption)
                   obtain ⟨ad290, e290, hx290_0⟩ := Kd.at_int HR1.out x12_1 p290 q290
                   cases e290
                   replace p290 := eq_true p290
                   replace q290 := eq_true q290
                   have p291 : 0 ≤ ((ji8) : Int) := of_decide_eq_true (by first | (with_reducible assumption) | assumption)
                   have q291 : (ji8) < (l0.length : Int) := of_decide_eq_true (by first | (with_reducible assumption) | assumption)
                   obtain ⟨ad291, e291, hx291_0⟩ := Kd.at_bool HR0.out (ji8) p291 q291
                   (try rw [← Nbq11.out] at hx291_0)
                   cases e291
                   replace p291 := eq_true p291
                   replace q291 := eq_true q291
                   go_wp2
                   go_roundg k1
                   case measure => have := HK1.out; omega
                   case rel => exact ⟨(x7_1), (wrap64 (x12_1 + 1)), (by first | rfl | (simp; done) | (simp [*]; done)), (by first | rfl | (simp; done) | (simp [*]; done)), H', ⟨by have := HK1.out; omega⟩, by repeat (first | exact Drawn0.refl _ | apply Drawn0.step)⟩
               · rw [if_neg c10] at H
                 exact absurd H (by simp)
             · rw [if_neg c9] at H
               exact absurd H (by simp)
           · rw [if_neg c7] at H
             have c7b0 : decide ((rd l1 x12_1) ≤ a2) = false := decide_eq_false c7
             clear c7
             have H' := Aside0.mk H
             clear H
             have p290 : 0 ≤ (x12_1 : Int) := of_decide_eq_true (by first | (with_reducible assumption) | assumption)
             have q290 : x12_1 < (l1.length : Int) := of_decide_eq_true (by first | (with_reducible assumption) | assumption)
             obtain ⟨ad290, e290, hx290_0⟩ := Kd.at_int HR1.out x12_1 p290 q290
             cases e290
             replace p290 := eq_true p290
             replace q290 := eq_true q290
             go_wp2
             go_roundg k1
             case measure => have := HK1.out; omega
             case rel => exact ⟨(x7_1), (wrap64 (x12_1 + 1)), (by first | rfl | (simp; done) | (simp [*]; done)), (by first | rfl | (simp; done) | (simp [*]; done)), H', ⟨by have := HK1.out; omega⟩, by repeat (first | exact Drawn0.refl _ | apply Drawn0.step)⟩
         · rw [if_neg c6] at H
           exact absurd H (by simp)
       · rw [if_neg c5] at H
         exact absurd H (by simp)
     · rw [if_neg c4] at H
       have c4b0 : decide (x12_1 < (l1.length : Int)) = false := decide_eq_false c4
       clear c4
       obtain rfl := Option.some.inj H
       go_wp2
       go_ret
       exact ⟨by first | rfl | (simp; done) | (simp [*]; done), by repeat (first | exact Drawn0.refl _ | apply Drawn0.step)⟩

end Go.Proofs.Yticchbgbbnpgoaa.QFnStreams
