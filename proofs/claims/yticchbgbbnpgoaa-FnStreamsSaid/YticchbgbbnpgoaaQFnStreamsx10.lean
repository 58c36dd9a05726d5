import Derived.Test.YticchbgbbnpgoaaSqueeze
import Derived.Test.YticchbgbbnpgoaaQFnStreamsx0
import Derived.Test.YticchbgbbnpgoaaQFnStreamsx1
import Derived.Test.YticchbgbbnpgoaaQFnStreamsx2
import Derived.Test.YticchbgbbnpgoaaQFnStreamsx3
import Derived.Test.YticchbgbbnpgoaaQFnStreamsx4
import Derived.Test.YticchbgbbnpgoaaQFnStreamsx5
import Derived.Test.YticchbgbbnpgoaaQFnStreamsx6
import Derived.Test.YticchbgbbnpgoaaQFnStreamsx7
import Derived.Test.YticchbgbbnpgoaaQFnStreamsx8
import Derived.Test.YticchbgbbnpgoaaQFnStreamsx9
namespace Go.Proofs.Yticchbgbbnpgoaa.QFnStreams
open Go.RowKit Go.Proofs.YticchbgbbnpgoaaW.PrintWords Go.Proofs.YticchbgbbnpgoaaW.PrintLast Go.Proofs.YticchbgbbnpgoaaW.PrintMore
attribute [local go_sem] max2_int min2_int max_two min_two max_three min_three max_four min_four   -- for this text's walks alone
set_option linter.unusedVariables false
set_option linter.unusedSimpArgs false

/-! ### laws_FnStreams: function 13 -/
mutual
def laws_FnStreams.j0 : Nat → List Int → List Int → List Bool → Int → List Bool → Bool → Bool → Option (Bool)
  | 0, _, _, _, _, _, _, _ => none
  | k + 1, x1, x5, x6, x7, x8, x9, x82 => if x82 = true then (some false) else (if x9 = true then (laws_FnStreams.j1 k x1 x5 x6 x7 x8 (decide (x7 ≥ (x6.length : Int)))) else (laws_FnStreams.j1 k x1 x5 x6 x7 x8 false))
def laws_FnStreams.j1 : Nat → List Int → List Int → List Bool → Int → List Bool → Bool → Option (Bool)
  | 0, _, _, _, _, _, _ => none
  | k + 1, x1, x5, x6, x7, x8, x89 => if x89 = true then ((impl_MakesBits.f k x5 (x6.length : Int) x8).bind fun bt454 => (if bt454.2 = true then (if bt454.1 = true then (if (x8.length : Int) = x7 then (laws_FnStreams.j2 k x1) else (some false)) else (some false)) else (some false))) else (laws_FnStreams.j2 k x1)
def laws_FnStreams.j2 : Nat → List Int → Option (Bool)
  | 0, _ => none
  | k + 1, x1 => (spec_DrawPeriodOf.f k x1).bind fun bt456 => ((impl_PeriodOf.f k bt456.1 bt456.2).bind fun bt462 => ((spec_PeriodOf.f k bt456.1 bt456.2).bind fun bt464 => (if (bt462.2 != bt464.2) = true then (laws_FnStreams.j3 k x1 bt456.1 bt456.2 bt462.1 bt462.2 true) else (laws_FnStreams.j3 k x1 bt456.1 bt456.2 bt462.1 bt462.2 (bt462.1 != bt464.1)))))
def laws_FnStreams.j3 : Nat → List Int → List Int → List Bool → Int → Bool → Bool → Option (Bool)
  | 0, _, _, _, _, _, _ => none
  | k + 1, x1, x14, x15, x16, x17, x134 => if x134 = true then (some false) else (if x17 = true then (laws_FnStreams.j4 k x1 x14 x15 x16 (decide ((wrap64 (x16 + (x15.length : Int))) ≤ 40))) else (laws_FnStreams.j4 k x1 x14 x15 x16 false))
def laws_FnStreams.j4 : Nat → List Int → List Int → List Bool → Int → Bool → Option (Bool)
  | 0, _, _, _, _, _ => none
  | k + 1, x1, x14, x15, x16, x142 => if x142 = true then ((impl_StreamOf.f k x14 x15 (wrap64 (x16 + (x15.length : Int)))).bind fun bt466 => (if bt466.2 = true then (if 0 ≤ x16 then (if x16 ≤ (bt466.1.length : Int) then ((laws_sameBools.f k (bt466.1.drop (x16 : Int).toNat) x15).bind fun t474 => (if t474 = true then (laws_FnStreams.j5 k x1) else (some false))) else (none)) else (none)) else (some false))) else (laws_FnStreams.j5 k x1)
def laws_FnStreams.j5 : Nat → List Int → Option (Bool)
  | 0, _ => none
  | k + 1, x1 => (spec_DrawBitsOf.f x1).bind fun t475 => ((impl_BitsOf.f k t475).bind fun bt476 => ((spec_BitsOf.f k t475).bind fun bt480 => ((spec_DrawTextOf.f k x1).bind fun t484 => ((impl_TextOf.f k t484).bind fun bt487 => ((spec_TextOf.f k t484).bind fun bt489 => (if (bt476.2 != bt480.2) = true then (laws_FnStreams.j6 k x1 t475 bt476.1 bt476.2 true) else ((laws_sameBools.f k bt476.1 bt480.1).bind fun t491 => (if t491 = true then (if (bt487.2 != bt489.2) = true then (laws_FnStreams.j6 k x1 t475 bt476.1 bt476.2 true) else (laws_FnStreams.j6 k x1 t475 bt476.1 bt476.2 (bt487.1.toList != bt489.1.toList))) else (laws_FnStreams.j6 k x1 t475 bt476.1 bt476.2 true)))))))))
def laws_FnStreams.j6 : Nat → List Int → ByteArray → List Bool → Bool → Bool → Option (Bool)
  | 0, _, _, _, _, _ => none
  | k + 1, x1, x22, x23, x24, x205 => if x205 = true then (some false) else (if x24 = true then ((impl_TextOf.f k x23).bind fun bt492 => (if bt492.2 = true then (if bt492.1.toList = x22.toList then (laws_FnStreams.j7 k x1) else (some false)) else (some false))) else (laws_FnStreams.j7 k x1))
def laws_FnStreams.j7 : Nat → List Int → Option (Bool)
  | 0, _ => none
  | k + 1, x1 => (spec_DrawUnlikeBits.f k x1).bind fun bt494 => ((impl_UnlikeBits.f k bt494.1 bt494.2).bind fun bt500 => ((spec_UnlikeBits.f k bt494.1 bt494.2).bind fun bt504 => ((spec_DrawRunsOf.f k x1).bind fun t508 => ((impl_RunsOf.f k t508).bind fun bt511 => ((spec_RunsOf.f k t508).bind fun bt515 => (if (bt500.2 != bt504.2) = true then (laws_FnStreams.j8 k t508 bt511.1 bt511.2 true) else ((laws_sameBools.f k bt500.1 bt504.1).bind fun t519 => (if t519 = true then (if (bt511.2 != bt515.2) = true then (laws_FnStreams.j8 k t508 bt511.1 bt511.2 true) else ((laws_sameInts.f k bt511.1 bt515.1).bind fun t520 => (laws_FnStreams.j8 k t508 bt511.1 bt511.2 (!t520)))) else (laws_FnStreams.j8 k t508 bt511.1 bt511.2 true)))))))))
def laws_FnStreams.j8 : Nat → List Bool → List Int → Bool → Bool → Option (Bool)
  | 0, _, _, _, _ => none
  | k + 1, x40, x41, x42, x267 => if x267 = true then (some false) else (if x42 = true then (laws_FnStreams.l0 k x40 0 x41 (x41.length : Int) 0) else (some true))
def laws_FnStreams.l0 : Nat → List Bool → Int → List Int → Int → Int → Option (Bool)
  | 0, _, _, _, _, _ => none
  | k + 1, x40, x45, x269, x270, x271 => if x271 < x270 then (if 0 ≤ x271 then (if x271 < (x269.length : Int) then (if (rd x269 x271) < 1 then (some false) else (laws_FnStreams.l0 k x40 (wrap64 (x45 + (rd x269 x271))) x269 x270 (wrap64 (x271 + 1)))) else (none)) else (none)) else (some (x45 == (x40.length : Int)))
end
def laws_FnStreams.f (k : Nat) (l0 : List Int) (l1 : List Int) : Option (Bool) := if (wrap64 ((l0.length : Int) + (l1.length : Int))) > 1048576 then (some true) else ((spec_DrawStreamOf.f k l0).bind fun bt438 => ((impl_StreamOf.f k bt438.1 bt438.2.1 bt438.2.2).bind fun bt445 => ((spec_StreamOf.f k bt438.1 bt438.2.1 bt438.2.2).bind fun bt449 => (if (bt445.2 != bt449.2) = true then (laws_FnStreams.j0 k l1 bt438.1 bt438.2.1 bt438.2.2 bt445.1 bt445.2 true) else ((laws_sameBools.f k bt445.1 bt449.1).bind fun t453 => (laws_FnStreams.j0 k l1 bt438.1 bt438.2.1 bt438.2.2 bt445.1 bt445.2 (!t453)))))))
theorem laws_FnStreams.mono_l : ∀ k, (∀ y0 y1 y2 y3 y4 y5 y6, LeO (laws_FnStreams.j0 k y0 y1 y2 y3 y4 y5 y6) (laws_FnStreams.j0 (k + 1) y0 y1 y2 y3 y4 y5 y6)) ∧ (∀ y0 y1 y2 y3 y4 y5, LeO (laws_FnStreams.j1 k y0 y1 y2 y3 y4 y5) (laws_FnStreams.j1 (k + 1) y0 y1 y2 y3 y4 y5)) ∧ (∀ y0, LeO (laws_FnStreams.j2 k y0) (laws_FnStreams.j2 (k + 1) y0)) ∧ (∀ y0 y1 y2 y3 y4 y5, LeO (laws_FnStreams.j3 k y0 y1 y2 y3 y4 y5) (laws_FnStreams.j3 (k + 1) y0 y1 y2 y3 y4 y5)) ∧ (∀ y0 y1 y2 y3 y4, LeO (laws_FnStreams.j4 k y0 y1 y2 y3 y4) (laws_FnStreams.j4 (k + 1) y0 y1 y2 y3 y4)) ∧ (∀ y0, LeO (laws_FnStreams.j5 k y0) (laws_FnStreams.j5 (k + 1) y0)) ∧ (∀ y0 y1 y2 y3 y4, LeO (laws_FnStreams.j6 k y0 y1 y2 y3 y4) (laws_FnStreams.j6 (k + 1) y0 y1 y2 y3 y4)) ∧ (∀ y0, LeO (laws_FnStreams.j7 k y0) (laws_FnStreams.j7 (k + 1) y0)) ∧ (∀ y0 y1 y2 y3, LeO (laws_FnStreams.j8 k y0 y1 y2 y3) (laws_FnStreams.j8 (k + 1) y0 y1 y2 y3)) ∧ (∀ y0 y1 y2 y3 y4, LeO (laws_FnStreams.l0 k y0 y1 y2 y3 y4) (laws_FnStreams.l0 (k + 1) y0 y1 y2 y3 y4))
  | 0 => ⟨fun _ _ _ _ _ _ _ r h => by simp [laws_FnStreams.j0] at h, fun _ _ _ _ _ _ r h => by simp [laws_FnStreams.j1] at h, fun _ r h => by simp [laws_FnStreams.j2] at h, fun _ _ _ _ _ _ r h => by simp [laws_FnStreams.j3] at h, fun _ _ _ _ _ r h => by simp [laws_FnStreams.j4] at h, fun _ r h => by simp [laws_FnStreams.j5] at h, fun _ _ _ _ _ r h => by simp [laws_FnStreams.j6] at h, fun _ r h => by simp [laws_FnStreams.j7] at h, fun _ _ _ _ r h => by simp [laws_FnStreams.j8] at h, fun _ _ _ _ _ r h => by simp [laws_FnStreams.l0] at h⟩
  | k + 1 => by
    obtain ⟨ih0, ih1, ih2, ih3, ih4, ih5, ih6, ih7, ih8, ih9⟩ := laws_FnStreams.mono_l k
    refine ⟨?_, ?_, ?_, ?_, ?_, ?_, ?_, ?_, ?_, ?_⟩
    · intro y0 y1 y2 y3 y4 y5 y6
      unfold laws_FnStreams.j0
      repeat' first
      | (with_reducible exact ih0 _ _ _ _ _ _ _)
      | (with_reducible exact ih1 _ _ _ _ _ _)
      | (with_reducible exact ih2 _)
      | (with_reducible exact ih3 _ _ _ _ _ _)
      | (with_reducible exact ih4 _ _ _ _ _)
      | (with_reducible exact ih5 _)
      | (with_reducible exact ih6 _ _ _ _ _)
      | (with_reducible exact ih7 _)
      | (with_reducible exact ih8 _ _ _ _)
      | (with_reducible exact ih9 _ _ _ _ _)
      | (with_reducible exact impl_BitsOf.mono _ _)
      | (with_reducible exact impl_MakesBits.mono _ _ _ _)
      | (with_reducible exact impl_PeriodOf.mono _ _ _)
      | (with_reducible exact impl_RunsOf.mono _ _)
      | (with_reducible exact impl_StreamOf.mono _ _ _ _)
      | (with_reducible exact impl_TextOf.mono _ _)
      | (with_reducible exact impl_UnlikeBits.mono _ _ _)
      | (with_reducible exact laws_sameBools.mono _ _ _)
      | (with_reducible exact laws_sameInts.mono _ _ _)
      | (with_reducible exact spec_BitsOf.mono _ _)
      | (with_reducible exact spec_DrawPeriodOf.mono _ _)
      | (with_reducible exact spec_DrawRunsOf.mono _ _)
      | (with_reducible exact spec_DrawStreamOf.mono _ _)
      | (with_reducible exact spec_DrawTextOf.mono _ _)
      | (with_reducible exact spec_DrawUnlikeBits.mono _ _)
      | (with_reducible exact spec_PeriodOf.mono _ _ _)
      | (with_reducible exact spec_RunsOf.mono _ _)
      | (with_reducible exact spec_StreamOf.mono _ _ _ _)
      | (with_reducible exact spec_TextOf.mono _ _)
      | (with_reducible exact spec_UnlikeBits.mono _ _ _)
      | (with_reducible exact LeO.refl _)
      | (with_reducible exact LeO.none _)
      | (with_reducible refine LeO.ite ?_ ?_)
      | (with_reducible refine LeO.bind ?_ (fun _ => ?_))
      | exact ih0 _ _ _ _ _ _ _
      | exact ih1 _ _ _ _ _ _
      | exact ih2 _
      | exact ih3 _ _ _ _ _ _
      | exact ih4 _ _ _ _ _
      | exact ih5 _
      | exact ih6 _ _ _ _ _
      | exact ih7 _
      | exact ih8 _ _ _ _
      | exact ih9 _ _ _ _ _
      | exact impl_BitsOf.mono _ _
      | exact impl_MakesBits.mono _ _ _ _
      | exact impl_PeriodOf.mono _ _ _
      | exact impl_RunsOf.mono _ _
      | exact impl_StreamOf.mono _ _ _ _
      | exact impl_TextOf.mono _ _
      | exact impl_UnlikeBits.mono _ _ _
      | exact laws_sameBools.mono _ _ _
      | exact laws_sameInts.mono _ _ _
      | exact spec_BitsOf.mono _ _
      | exact spec_DrawPeriodOf.mono _ _
      | exact spec_DrawRunsOf.mono _ _
      | exact spec_DrawStreamOf.mono _ _
      | exact spec_DrawTextOf.mono _ _
      | exact spec_DrawUnlikeBits.mono _ _
      | exact spec_PeriodOf.mono _ _ _
      | exact spec_RunsOf.mono _ _
      | exact spec_StreamOf.mono _ _ _ _
      | exact spec_TextOf.mono _ _
      | exact spec_UnlikeBits.mono _ _ _
      | exact LeO.none _
      | refine LeO.ite ?_ ?_
      | refine LeO.bind ?_ (fun _ => ?_)
    · intro y0 y1 y2 y3 y4 y5
      unfold laws_FnStreams.j1
      repeat' first
      | (with_reducible exact ih0 _ _ _ _ _ _ _)
      | (with_reducible exact ih1 _ _ _ _ _ _)
      | (with_reducible exact ih2 _)
      | (with_reducible exact ih3 _ _ _ _ _ _)
      | (with_reducible exact ih4 _ _ _ _ _)
      | (with_reducible exact ih5 _)
      | (with_reducible exact ih6 _ _ _ _ _)
      | (with_reducible exact ih7 _)
      | (with_reducible exact ih8 _ _ _ _)
      | (with_reducible exact ih9 _ _ _ _ _)
      | (with_reducible exact impl_BitsOf.mono _ _)
      | (with_reducible exact impl_MakesBits.mono _ _ _ _)
      | (with_reducible exact impl_PeriodOf.mono _ _ _)
      | (with_reducible exact impl_RunsOf.mono _ _)
      | (with_reducible exact impl_StreamOf.mono _ _ _ _)
      | (with_reducible exact impl_TextOf.mono _ _)
      | (with_reducible exact impl_UnlikeBits.mono _ _ _)
      | (with_reducible exact laws_sameBools.mono _ _ _)
      | (with_reducible exact laws_sameInts.mono _ _ _)
      | (with_reducible exact spec_BitsOf.mono _ _)
      | (with_reducible exact spec_DrawPeriodOf.mono _ _)
      | (with_reducible exact spec_DrawRunsOf.mono _ _)
      | (with_reducible exact spec_DrawStreamOf.mono _ _)
      | (with_reducible exact spec_DrawTextOf.mono _ _)
      | (with_reducible exact spec_DrawUnlikeBits.mono _ _)
      | (with_reducible exact spec_PeriodOf.mono _ _ _)
      | (with_reducible exact spec_RunsOf.mono _ _)
      | (with_reducible exact spec_StreamOf.mono _ _ _ _)
      | (with_reducible exact spec_TextOf.mono _ _)
      | (with_reducible exact spec_UnlikeBits.mono _ _ _)
      | (with_reducible exact LeO.refl _)
      | (with_reducible exact LeO.none _)
      | (with_reducible refine LeO.ite ?_ ?_)
      | (with_reducible refine LeO.bind ?_ (fun _ => ?_))
      | exact ih0 _ _ _ _ _ _ _
      | exact ih1 _ _ _ _ _ _
      | exact ih2 _
      | exact ih3 _ _ _ _ _ _
      | exact ih4 _ _ _ _ _
      | exact ih5 _
      | exact ih6 _ _ _ _ _
      | exact ih7 _
      | exact ih8 _ _ _ _
      | exact ih9 _ _ _ _ _
      | exact impl_BitsOf.mono _ _
      | exact impl_MakesBits.mono _ _ _ _
      | exact impl_PeriodOf.mono _ _ _
      | exact impl_RunsOf.mono _ _
      | exact impl_StreamOf.mono _ _ _ _
      | exact impl_TextOf.mono _ _
      | exact impl_UnlikeBits.mono _ _ _
      | exact laws_sameBools.mono _ _ _
      | exact laws_sameInts.mono _ _ _
      | exact spec_BitsOf.mono _ _
      | exact spec_DrawPeriodOf.mono _ _
      | exact spec_DrawRunsOf.mono _ _
      | exact spec_DrawStreamOf.mono _ _
      | exact spec_DrawTextOf.mono _ _
      | exact spec_DrawUnlikeBits.mono _ _
      | exact spec_PeriodOf.mono _ _ _
      | exact spec_RunsOf.mono _ _
      | exact spec_StreamOf.mono _ _ _ _
      | exact spec_TextOf.mono _ _
      | exact spec_UnlikeBits.mono _ _ _
      | exact LeO.none _
      | refine LeO.ite ?_ ?_
      | refine LeO.bind ?_ (fun _ => ?_)
    · intro y0
      unfold laws_FnStreams.j2
      repeat' first
      | (with_reducible exact ih0 _ _ _ _ _ _ _)
      | (with_reducible exact ih1 _ _ _ _ _ _)
      | (with_reducible exact ih2 _)
      | (with_reducible exact ih3 _ _ _ _ _ _)
      | (with_reducible exact ih4 _ _ _ _ _)
      | (with_reducible exact ih5 _)
      | (with_reducible exact ih6 _ _ _ _ _)
      | (with_reducible exact ih7 _)
      | (with_reducible exact ih8 _ _ _ _)
      | (with_reducible exact ih9 _ _ _ _ _)
      | (with_reducible exact impl_BitsOf.mono _ _)
      | (with_reducible exact impl_MakesBits.mono _ _ _ _)
      | (with_reducible exact impl_PeriodOf.mono _ _ _)
      | (with_reducible exact impl_RunsOf.mono _ _)
      | (with_reducible exact impl_StreamOf.mono _ _ _ _)
      | (with_reducible exact impl_TextOf.mono _ _)
      | (with_reducible exact impl_UnlikeBits.mono _ _ _)
      | (with_reducible exact laws_sameBools.mono _ _ _)
      | (with_reducible exact laws_sameInts.mono _ _ _)
      | (with_reducible exact spec_BitsOf.mono _ _)
      | (with_reducible exact spec_DrawPeriodOf.mono _ _)
      | (with_reducible exact spec_DrawRunsOf.mono _ _)
      | (with_reducible exact spec_DrawStreamOf.mono _ _)
      | (with_reducible exact spec_DrawTextOf.mono _ _)
      | (with_reducible exact spec_DrawUnlikeBits.mono _ _)
      | (with_reducible exact spec_PeriodOf.mono _ _ _)
      | (with_reducible exact spec_RunsOf.mono _ _)
      | (with_reducible exact spec_StreamOf.mono _ _ _ _)
      | (with_reducible exact spec_TextOf.mono _ _)
      | (with_reducible exact spec_UnlikeBits.mono _ _ _)
      | (with_reducible exact LeO.refl _)
      | (with_reducible exact LeO.none _)
      | (with_reducible refine LeO.ite ?_ ?_)
      | (with_reducible refine LeO.bind ?_ (fun _ => ?_))
      | exact ih0 _ _ _ _ _ _ _
      | exact ih1 _ _ _ _ _ _
      | exact ih2 _
      | exact ih3 _ _ _ _ _ _
      | exact ih4 _ _ _ _ _
      | exact ih5 _
      | exact ih6 _ _ _ _ _
      | exact ih7 _
      | exact ih8 _ _ _ _
      | exact ih9 _ _ _ _ _
      | exact impl_BitsOf.mono _ _
      | exact impl_MakesBits.mono _ _ _ _
      | exact impl_PeriodOf.mono _ _ _
      | exact impl_RunsOf.mono _ _
      | exact impl_StreamOf.mono _ _ _ _
      | exact impl_TextOf.mono _ _
      | exact impl_UnlikeBits.mono _ _ _
      | exact laws_sameBools.mono _ _ _
      | exact laws_sameInts.mono _ _ _
      | exact spec_BitsOf.mono _ _
      | exact spec_DrawPeriodOf.mono _ _
      | exact spec_DrawRunsOf.mono _ _
      | exact spec_DrawStreamOf.mono _ _
      | exact spec_DrawTextOf.mono _ _
      | exact spec_DrawUnlikeBits.mono _ _
      | exact spec_PeriodOf.mono _ _ _
      | exact spec_RunsOf.mono _ _
      | exact spec_StreamOf.mono _ _ _ _
      | exact spec_TextOf.mono _ _
      | exact spec_UnlikeBits.mono _ _ _
      | exact LeO.none _
      | refine LeO.ite ?_ ?_
      | refine LeO.bind ?_ (fun _ => ?_)
    · intro y0 y1 y2 y3 y4 y5
      unfold laws_FnStreams.j3
      repeat' first
      | (with_reducible exact ih0 _ _ _ _ _ _ _)
      | (with_reducible exact ih1 _ _ _ _ _ _)
      | (with_reducible exact ih2 _)
      | (with_reducible exact ih3 _ _ _ _ _ _)
      | (with_reducible exact ih4 _ _ _ _ _)
      | (with_reducible exact ih5 _)
      | (with_reducible exact ih6 _ _ _ _ _)
      | (with_reducible exact ih7 _)
      | (with_reducible exact ih8 _ _ _ _)
      | (with_reducible exact ih9 _ _ _ _ _)
      | (with_reducible exact impl_BitsOf.mono _ _)
      | (with_reducible exact impl_MakesBits.mono _ _ _ _)
      | (with_reducible exact impl_PeriodOf.mono _ _ _)
      | (with_reducible exact impl_RunsOf.mono _ _)
      | (with_reducible exact impl_StreamOf.mono _ _ _ _)
      | (with_reducible exact impl_TextOf.mono _ _)
      | (with_reducible exact impl_UnlikeBits.mono _ _ _)
      | (with_reducible exact laws_sameBools.mono _ _ _)
      | (with_reducible exact laws_sameInts.mono _ _ _)
      | (with_reducible exact spec_BitsOf.mono _ _)
      | (with_reducible exact spec_DrawPeriodOf.mono _ _)
      | (with_reducible exact spec_DrawRunsOf.mono _ _)
      | (with_reducible exact spec_DrawStreamOf.mono _ _)
      | (with_reducible exact spec_DrawTextOf.mono _ _)
      | (with_reducible exact spec_DrawUnlikeBits.mono _ _)
      | (with_reducible exact spec_PeriodOf.mono _ _ _)
      | (with_reducible exact spec_RunsOf.mono _ _)
      | (with_reducible exact spec_StreamOf.mono _ _ _ _)
      | (with_reducible exact spec_TextOf.mono _ _)
      | (with_reducible exact spec_UnlikeBits.mono _ _ _)
      | (with_reducible exact LeO.refl _)
      | (with_reducible exact LeO.none _)
      | (with_reducible refine LeO.ite ?_ ?_)
      | (with_reducible refine LeO.bind ?_ (fun _ => ?_))
      | exact ih0 _ _ _ _ _ _ _
      | exact ih1 _ _ _ _ _ _
      | exact ih2 _
      | exact ih3 _ _ _ _ _ _
      | exact ih4 _ _ _ _ _
      | exact ih5 _
      | exact ih6 _ _ _ _ _
      | exact ih7 _
      | exact ih8 _ _ _ _
      | exact ih9 _ _ _ _ _
      | exact impl_BitsOf.mono _ _
      | exact impl_MakesBits.mono _ _ _ _
      | exact impl_PeriodOf.mono _ _ _
      | exact impl_RunsOf.mono _ _
      | exact impl_StreamOf.mono _ _ _ _
      | exact impl_TextOf.mono _ _
      | exact impl_UnlikeBits.mono _ _ _
      | exact laws_sameBools.mono _ _ _
      | exact laws_sameInts.mono _ _ _
      | exact spec_BitsOf.mono _ _
      | exact spec_DrawPeriodOf.mono _ _
      | exact spec_DrawRunsOf.mono _ _
      | exact spec_DrawStreamOf.mono _ _
      | exact spec_DrawTextOf.mono _ _
      | exact spec_DrawUnlikeBits.mono _ _
      | exact spec_PeriodOf.mono _ _ _
      | exact spec_RunsOf.mono _ _
      | exact spec_StreamOf.mono _ _ _ _
      | exact spec_TextOf.mono _ _
      | exact spec_UnlikeBits.mono _ _ _
      | exact LeO.none _
      | refine LeO.ite ?_ ?_
      | refine LeO.bind ?_ (fun _ => ?_)
    · intro y0 y1 y2 y3 y4
      unfold laws_FnStreams.j4
      repeat' first
      | (with_reducible exact ih0 _ _ _ _ _ _ _)
      | (with_reducible exact ih1 _ _ _ _ _ _)
      | (with_reducible exact ih2 _)
      | (with_reducible exact ih3 _ _ _ _ _ _)
      | (with_reducible exact ih4 _ _ _ _ _)
      | (with_reducible exact ih5 _)
      | (with_reducible exact ih6 _ _ _ _ _)
      | (with_reducible exact ih7 _)
      | (with_reducible exact ih8 _ _ _ _)
      | (with_reducible exact ih9 _ _ _ _ _)
      | (with_reducible exact impl_BitsOf.mono _ _)
      | (with_reducible exact impl_MakesBits.mono _ _ _ _)
      | (with_reducible exact impl_PeriodOf.mono _ _ _)
      | (with_reducible exact impl_RunsOf.mono _ _)
      | (with_reducible exact impl_StreamOf.mono _ _ _ _)
      | (with_reducible exact impl_TextOf.mono _ _)
      | (with_reducible exact impl_UnlikeBits.mono _ _ _)
      | (with_reducible exact laws_sameBools.mono _ _ _)
      | (with_reducible exact laws_sameInts.mono _ _ _)
      | (with_reducible exact spec_BitsOf.mono _ _)
      | (with_reducible exact spec_DrawPeriodOf.mono _ _)
      | (with_reducible exact spec_DrawRunsOf.mono _ _)
      | (with_reducible exact spec_DrawStreamOf.mono _ _)
      | (with_reducible exact spec_DrawTextOf.mono _ _)
      | (with_reducible exact spec_DrawUnlikeBits.mono _ _)
      | (with_reducible exact spec_PeriodOf.mono _ _ _)
      | (with_reducible exact spec_RunsOf.mono _ _)
      | (with_reducible exact spec_StreamOf.mono _ _ _ _)
      | (with_reducible exact spec_TextOf.mono _ _)
      | (with_reducible exact spec_UnlikeBits.mono _ _ _)
      | (with_reducible exact LeO.refl _)
      | (with_reducible exact LeO.none _)
      | (with_reducible refine LeO.ite ?_ ?_)
      | (with_reducible refine LeO.bind ?_ (fun _ => ?_))
      | exact ih0 _ _ _ _ _ _ _
      | exact ih1 _ _ _ _ _ _
      | exact ih2 _
      | exact ih3 _ _ _ _ _ _
      | exact ih4 _ _ _ _ _
      | exact ih5 _
      | exact ih6 _ _ _ _ _
      | exact ih7 _
      | exact ih8 _ _ _ _
      | exact ih9 _ _ _ _ _
      | exact impl_BitsOf.mono _ _
      | exact impl_MakesBits.mono _ _ _ _
      | exact impl_PeriodOf.mono _ _ _
      | exact impl_RunsOf.mono _ _
      | exact impl_StreamOf.mono _ _ _ _
      | exact impl_TextOf.mono _ _
      | exact impl_UnlikeBits.mono _ _ _
      | exact laws_sameBools.mono _ _ _
      | exact laws_sameInts.mono _ _ _
      | exact spec_BitsOf.mono _ _
      | exact spec_DrawPeriodOf.mono _ _
      | exact spec_DrawRunsOf.mono _ _
      | exact spec_DrawStreamOf.mono _ _
      | exact spec_DrawTextOf.mono _ _
      | exact spec_DrawUnlikeBits.mono _ _
      | exact spec_PeriodOf.mono _ _ _
      | exact spec_RunsOf.mono _ _
      | exact spec_StreamOf.mono _ _ _ _
      | exact spec_TextOf.mono _ _
      | exact spec_UnlikeBits.mono _ _ _
      | exact LeO.none _
      | refine LeO.ite ?_ ?_
      | refine LeO.bind ?_ (fun _ => ?_)
    · intro y0
      unfold laws_FnStreams.j5
      repeat' first
      | (with_reducible exact ih0 _ _ _ _ _ _ _)
      | (with_reducible exact ih1 _ _ _ _ _ _)
      | (with_reducible exact ih2 _)
      | (with_reducible exact ih3 _ _ _ _ _ _)
      | (with_reducible exact ih4 _ _ _ _ _)
      | (with_reducible exact ih5 _)
      | (with_reducible exact ih6 _ _ _ _ _)
      | (with_reducible exact ih7 _)
      | (with_reducible exact ih8 _ _ _ _)
      | (with_reducible exact ih9 _ _ _ _ _)
      | (with_reducible exact impl_BitsOf.mono _ _)
      | (with_reducible exact impl_MakesBits.mono _ _ _ _)
      | (with_reducible exact impl_PeriodOf.mono _ _ _)
      | (with_reducible exact impl_RunsOf.mono _ _)
      | (with_reducible exact impl_StreamOf.mono _ _ _ _)
      | (with_reducible exact impl_TextOf.mono _ _)
      | (with_reducible exact impl_UnlikeBits.mono _ _ _)
      | (with_reducible exact laws_sameBools.mono _ _ _)
      | (with_reducible exact laws_sameInts.mono _ _ _)
      | (with_reducible exact spec_BitsOf.mono _ _)
      | (with_reducible exact spec_DrawPeriodOf.mono _ _)
      | (with_reducible exact spec_DrawRunsOf.mono _ _)
      | (with_reducible exact spec_DrawStreamOf.mono _ _)
      | (with_reducible exact spec_DrawTextOf.mono _ _)
      | (with_reducible exact spec_DrawUnlikeBits.mono _ _)
      | (with_reducible exact spec_PeriodOf.mono _ _ _)
      | (with_reducible exact spec_RunsOf.mono _ _)
      | (with_reducible exact spec_StreamOf.mono _ _ _ _)
      | (with_reducible exact spec_TextOf.mono _ _)
      | (with_reducible exact spec_UnlikeBits.mono _ _ _)
      | (with_reducible exact LeO.refl _)
      | (with_reducible exact LeO.none _)
      | (with_reducible refine LeO.ite ?_ ?_)
      | (with_reducible refine LeO.bind ?_ (fun _ => ?_))
      | exact ih0 _ _ _ _ _ _ _
      | exact ih1 _ _ _ _ _ _
      | exact ih2 _
      | exact ih3 _ _ _ _ _ _
      | exact ih4 _ _ _ _ _
      | exact ih5 _
      | exact ih6 _ _ _ _ _
      | exact ih7 _
      | exact ih8 _ _ _ _
      | exact ih9 _ _ _ _ _
      | exact impl_BitsOf.mono _ _
      | exact impl_MakesBits.mono _ _ _ _
      | exact impl_PeriodOf.mono _ _ _
      | exact impl_RunsOf.mono _ _
      | exact impl_StreamOf.mono _ _ _ _
      | exact impl_TextOf.mono _ _
      | exact impl_UnlikeBits.mono _ _ _
      | exact laws_sameBools.mono _ _ _
      | exact laws_sameInts.mono _ _ _
      | exact spec_BitsOf.mono _ _
      | exact spec_DrawPeriodOf.mono _ _
      | exact spec_DrawRunsOf.mono _ _
      | exact spec_DrawStreamOf.mono _ _
      | exact spec_DrawTextOf.mono _ _
      | exact spec_DrawUnlikeBits.mono _ _
      | exact spec_PeriodOf.mono _ _ _
      | exact spec_RunsOf.mono _ _
      | exact spec_StreamOf.mono _ _ _ _
      | exact spec_TextOf.mono _ _
      | exact spec_UnlikeBits.mono _ _ _
      | exact LeO.none _
      | refine LeO.ite ?_ ?_
      | refine LeO.bind ?_ (fun _ => ?_)
    · intro y0 y1 y2 y3 y4
      unfold laws_FnStreams.j6
      repeat' first
      | (with_reducible exact ih0 _ _ _ _ _ _ _)
      | (with_reducible exact ih1 _ _ _ _ _ _)
      | (with_reducible exact ih2 _)
      | (with_reducible exact ih3 _ _ _ _ _ _)
      | (with_reducible exact ih4 _ _ _ _ _)
      | (with_reducible exact ih5 _)
      | (with_reducible exact ih6 _ _ _ _ _)
      | (with_reducible exact ih7 _)
      | (with_reducible exact ih8 _ _ _ _)
      | (with_reducible exact ih9 _ _ _ _ _)
      | (with_reducible exact impl_BitsOf.mono _ _)
      | (with_reducible exact impl_MakesBits.mono _ _ _ _)
      | (with_reducible exact impl_PeriodOf.mono _ _ _)
      | (with_reducible exact impl_RunsOf.mono _ _)
      | (with_reducible exact impl_StreamOf.mono _ _ _ _)
      | (with_reducible exact impl_TextOf.mono _ _)
      | (with_reducible exact impl_UnlikeBits.mono _ _ _)
      | (with_reducible exact laws_sameBools.mono _ _ _)
      | (with_reducible exact laws_sameInts.mono _ _ _)
      | (with_reducible exact spec_BitsOf.mono _ _)
      | (with_reducible exact spec_DrawPeriodOf.mono _ _)
      | (with_reducible exact spec_DrawRunsOf.mono _ _)
      | (with_reducible exact spec_DrawStreamOf.mono _ _)
      | (with_reducible exact spec_DrawTextOf.mono _ _)
      | (with_reducible exact spec_DrawUnlikeBits.mono _ _)
      | (with_reducible exact spec_PeriodOf.mono _ _ _)
      | (with_reducible exact spec_RunsOf.mono _ _)
      | (with_reducible exact spec_StreamOf.mono _ _ _ _)
      | (with_reducible exact spec_TextOf.mono _ _)
      | (with_reducible exact spec_UnlikeBits.mono _ _ _)
      | (with_reducible exact LeO.refl _)
      | (with_reducible exact LeO.none _)
      | (with_reducible refine LeO.ite ?_ ?_)
      | (with_reducible refine LeO.bind ?_ (fun _ => ?_))
      | exact ih0 _ _ _ _ _ _ _
      | exact ih1 _ _ _ _ _ _
      | exact ih2 _
      | exact ih3 _ _ _ _ _ _
      | exact ih4 _ _ _ _ _
      | exact ih5 _
      | exact ih6 _ _ _ _ _
      | exact ih7 _
      | exact ih8 _ _ _ _
      | exact ih9 _ _ _ _ _
      | exact impl_BitsOf.mono _ _
      | exact impl_MakesBits.mono _ _ _ _
      | exact impl_PeriodOf.mono _ _ _
      | exact impl_RunsOf.mono _ _
      | exact impl_StreamOf.mono _ _ _ _
      | exact impl_TextOf.mono _ _
      | exact impl_UnlikeBits.mono _ _ _
      | exact laws_sameBools.mono _ _ _
      | exact laws_sameInts.mono _ _ _
      | exact spec_BitsOf.mono _ _
      | exact spec_DrawPeriodOf.mono _ _
      | exact spec_DrawRunsOf.mono _ _
      | exact spec_DrawStreamOf.mono _ _
      | exact spec_DrawTextOf.mono _ _
      | exact spec_DrawUnlikeBits.mono _ _
      | exact spec_PeriodOf.mono _ _ _
      | exact spec_RunsOf.mono _ _
      | exact spec_StreamOf.mono _ _ _ _
      | exact spec_TextOf.mono _ _
      | exact spec_UnlikeBits.mono _ _ _
      | exact LeO.none _
      | refine LeO.ite ?_ ?_
      | refine LeO.bind ?_ (fun _ => ?_)
    · intro y0
      unfold laws_FnStreams.j7
      repeat' first
      | (with_reducible exact ih0 _ _ _ _ _ _ _)
      | (with_reducible exact ih1 _ _ _ _ _ _)
      | (with_reducible exact ih2 _)
      | (with_reducible exact ih3 _ _ _ _ _ _)
      | (with_reducible exact ih4 _ _ _ _ _)
      | (with_reducible exact ih5 _)
      | (with_reducible exact ih6 _ _ _ _ _)
      | (with_reducible exact ih7 _)
      | (with_reducible exact ih8 _ _ _ _)
      | (with_reducible exact ih9 _ _ _ _ _)
      | (with_reducible exact impl_BitsOf.mono _ _)
      | (with_reducible exact impl_MakesBits.mono _ _ _ _)
      | (with_reducible exact impl_PeriodOf.mono _ _ _)
      | (with_reducible exact impl_RunsOf.mono _ _)
      | (with_reducible exact impl_StreamOf.mono _ _ _ _)
      | (with_reducible exact impl_TextOf.mono _ _)
      | (with_reducible exact impl_UnlikeBits.mono _ _ _)
      | (with_reducible exact laws_sameBools.mono _ _ _)
      | (with_reducible exact laws_sameInts.mono _ _ _)
      | (with_reducible exact spec_BitsOf.mono _ _)
      | (with_reducible exact spec_DrawPeriodOf.mono _ _)
      | (with_reducible exact spec_DrawRunsOf.mono _ _)
      | (with_reducible exact spec_DrawStreamOf.mono _ _)
      | (with_reducible exact spec_DrawTextOf.mono _ _)
      | (with_reducible exact spec_DrawUnlikeBits.mono _ _)
      | (with_reducible exact spec_PeriodOf.mono _ _ _)
      | (with_reducible exact spec_RunsOf.mono _ _)
      | (with_reducible exact spec_StreamOf.mono _ _ _ _)
      | (with_reducible exact spec_TextOf.mono _ _)
      | (with_reducible exact spec_UnlikeBits.mono _ _ _)
      | (with_reducible exact LeO.refl _)
      | (with_reducible exact LeO.none _)
      | (with_reducible refine LeO.ite ?_ ?_)
      | (with_reducible refine LeO.bind ?_ (fun _ => ?_))
      | exact ih0 _ _ _ _ _ _ _
      | exact ih1 _ _ _ _ _ _
      | exact ih2 _
      | exact ih3 _ _ _ _ _ _
      | exact ih4 _ _ _ _ _
      | exact ih5 _
      | exact ih6 _ _ _ _ _
      | exact ih7 _
      | exact ih8 _ _ _ _
      | exact ih9 _ _ _ _ _
      | exact impl_BitsOf.mono _ _
      | exact impl_MakesBits.mono _ _ _ _
      | exact impl_PeriodOf.mono _ _ _
      | exact impl_RunsOf.mono _ _
      | exact impl_StreamOf.mono _ _ _ _
      | exact impl_TextOf.mono _ _
      | exact impl_UnlikeBits.mono _ _ _
      | exact laws_sameBools.mono _ _ _
      | exact laws_sameInts.mono _ _ _
      | exact spec_BitsOf.mono _ _
      | exact spec_DrawPeriodOf.mono _ _
      | exact spec_DrawRunsOf.mono _ _
      | exact spec_DrawStreamOf.mono _ _
      | exact spec_DrawTextOf.mono _ _
      | exact spec_DrawUnlikeBits.mono _ _
      | exact spec_PeriodOf.mono _ _ _
      | exact spec_RunsOf.mono _ _
      | exact spec_StreamOf.mono _ _ _ _
      | exact spec_TextOf.mono _ _
      | exact spec_UnlikeBits.mono _ _ _
      | exact LeO.none _
      | refine LeO.ite ?_ ?_
      | refine LeO.bind ?_ (fun _ => ?_)
    · intro y0 y1 y2 y3
      unfold laws_FnStreams.j8
      repeat' first
      | (with_reducible exact ih0 _ _ _ _ _ _ _)
      | (with_reducible exact ih1 _ _ _ _ _ _)
      | (with_reducible exact ih2 _)
      | (with_reducible exact ih3 _ _ _ _ _ _)
      | (with_reducible exact ih4 _ _ _ _ _)
      | (with_reducible exact ih5 _)
      | (with_reducible exact ih6 _ _ _ _ _)
      | (with_reducible exact ih7 _)
      | (with_reducible exact ih8 _ _ _ _)
      | (with_reducible exact ih9 _ _ _ _ _)
      | (with_reducible exact impl_BitsOf.mono _ _)
      | (with_reducible exact impl_MakesBits.mono _ _ _ _)
      | (with_reducible exact impl_PeriodOf.mono _ _ _)
      | (with_reducible exact impl_RunsOf.mono _ _)
      | (with_reducible exact impl_StreamOf.mono _ _ _ _)
      | (with_reducible exact impl_TextOf.mono _ _)
      | (with_reducible exact impl_UnlikeBits.mono _ _ _)
      | (with_reducible exact laws_sameBools.mono _ _ _)
      | (with_reducible exact laws_sameInts.mono _ _ _)
      | (with_reducible exact spec_BitsOf.mono _ _)
      | (with_reducible exact spec_DrawPeriodOf.mono _ _)
      | (with_reducible exact spec_DrawRunsOf.mono _ _)
      | (with_reducible exact spec_DrawStreamOf.mono _ _)
      | (with_reducible exact spec_DrawTextOf.mono _ _)
      | (with_reducible exact spec_DrawUnlikeBits.mono _ _)
      | (with_reducible exact spec_PeriodOf.mono _ _ _)
      | (with_reducible exact spec_RunsOf.mono _ _)
      | (with_reducible exact spec_StreamOf.mono _ _ _ _)
      | (with_reducible exact spec_TextOf.mono _ _)
      | (with_reducible exact spec_UnlikeBits.mono _ _ _)
      | (with_reducible exact LeO.refl _)
      | (with_reducible exact LeO.none _)
      | (with_reducible refine LeO.ite ?_ ?_)
      | (with_reducible refine LeO.bind ?_ (fun _ => ?_))
      | exact ih0 _ _ _ _ _ _ _
      | exact ih1 _ _ _ _ _ _
      | exact ih2 _
      | exact ih3 _ _ _ _ _ _
      | exact ih4 _ _ _ _ _
      | exact ih5 _
      | exact ih6 _ _ _ _ _
      | exact ih7 _
      | exact ih8 _ _ _ _
      | exact ih9 _ _ _ _ _
      | exact impl_BitsOf.mono _ _
      | exact impl_MakesBits.mono _ _ _ _
      | exact impl_PeriodOf.mono _ _ _
      | exact impl_RunsOf.mono _ _
      | exact impl_StreamOf.mono _ _ _ _
      | exact impl_TextOf.mono _ _
      | exact impl_UnlikeBits.mono _ _ _
      | exact laws_sameBools.mono _ _ _
      | exact laws_sameInts.mono _ _ _
      | exact spec_BitsOf.mono _ _
      | exact spec_DrawPeriodOf.mono _ _
      | exact spec_DrawRunsOf.mono _ _
      | exact spec_DrawStreamOf.mono _ _
      | exact spec_DrawTextOf.mono _ _
      | exact spec_DrawUnlikeBits.mono _ _
      | exact spec_PeriodOf.mono _ _ _
      | exact spec_RunsOf.mono _ _
      | exact spec_StreamOf.mono _ _ _ _
      | exact spec_TextOf.mono _ _
      | exact spec_UnlikeBits.mono _ _ _
      | exact LeO.none _
      | refine LeO.ite ?_ ?_
      | refine LeO.bind ?_ (fun _ => ?_)
    · intro y0 y1 y2 y3 y4
      unfold laws_FnStreams.l0
      repeat' first
      | (with_reducible exact ih0 _ _ _ _ _ _ _)
      | (with_reducible exact ih1 _ _ _ _ _ _)
      | (with_reducible exact ih2 _)
      | (with_reducible exact ih3 _ _ _ _ _ _)
      | (with_reducible exact ih4 _ _ _ _ _)
      | (with_reducible exact ih5 _)
      | (with_reducible exact ih6 _ _ _ _ _)
      | (with_reducible exact ih7 _)
      | (with_reducible exact ih8 _ _ _ _)
      | (with_reducible exact ih9 _ _ _ _ _)
      | (with_reducible exact impl_BitsOf.mono _ _)
      | (with_reducible exact impl_MakesBits.mono _ _ _ _)
      | (with_reducible exact impl_PeriodOf.mono _ _ _)
      | (with_reducible exact impl_RunsOf.mono _ _)
      | (with_reducible exact impl_StreamOf.mono _ _ _ _)
      | (with_reducible exact impl_TextOf.mono _ _)
      | (with_reducible exact impl_UnlikeBits.mono _ _ _)
      | (with_reducible exact laws_sameBools.mono _ _ _)
      | (with_reducible exact laws_sameInts.mono _ _ _)
      | (with_reducible exact spec_BitsOf.mono _ _)
      | (with_reducible exact spec_DrawPeriodOf.mono _ _)
      | (with_reducible exact spec_DrawRunsOf.mono _ _)
      | (with_reducible exact spec_DrawStreamOf.mono _ _)
      | (with_reducible exact spec_DrawTextOf.mono _ _)
      | (with_reducible exact spec_DrawUnlikeBits.mono _ _)
      | (with_reducible exact spec_PeriodOf.mono _ _ _)
      | (with_reducible exact spec_RunsOf.mono _ _)
      | (with_reducible exact spec_StreamOf.mono _ _ _ _)
      | (with_reducible exact spec_TextOf.mono _ _)
      | (with_reducible exact spec_UnlikeBits.mono _ _ _)
      | (with_reducible exact LeO.refl _)
      | (with_reducible exact LeO.none _)
      | (with_reducible refine LeO.ite ?_ ?_)
      | (with_reducible refine LeO.bind ?_ (fun _ => ?_))
      | exact ih0 _ _ _ _ _ _ _
      | exact ih1 _ _ _ _ _ _
      | exact ih2 _
      | exact ih3 _ _ _ _ _ _
      | exact ih4 _ _ _ _ _
      | exact ih5 _
      | exact ih6 _ _ _ _ _
      | exact ih7 _
      | exact ih8 _ _ _ _
      | exact ih9 _ _ _ _ _
      | exact impl_BitsOf.mono _ _
      | exact impl_MakesBits.mono _ _ _ _
      | exact impl_PeriodOf.mono _ _ _
      | exact impl_RunsOf.mono _ _
      | exact impl_StreamOf.mono _ _ _ _
      | exact impl_TextOf.mono _ _
      | exact impl_UnlikeBits.mono _ _ _
      | exact laws_sameBools.mono _ _ _
      | exact laws_sameInts.mono _ _ _
      | exact spec_BitsOf.mono _ _
      | exact spec_DrawPeriodOf.mono _ _
      | exact spec_DrawRunsOf.mono _ _
      | exact spec_DrawStreamOf.mono _ _
      | exact spec_DrawTextOf.mono _ _
      | exact spec_DrawUnlikeBits.mono _ _
      | exact spec_PeriodOf.mono _ _ _
      | exact spec_RunsOf.mono _ _
      | exact spec_StreamOf.mono _ _ _ _
      | exact spec_TextOf.mono _ _
      | exact spec_UnlikeBits.mono _ _ _
      | exact LeO.none _
      | refine LeO.ite ?_ ?_
      | refine LeO.bind ?_ (fun _ => ?_)
theorem laws_FnStreams.mono : ∀ a0 a1 k, LeO (laws_FnStreams.f k a0 a1) (laws_FnStreams.f (k + 1) a0 a1) := by
  intro a0 a1 k
  obtain ⟨ih0, ih1, ih2, ih3, ih4, ih5, ih6, ih7, ih8, ih9⟩ := laws_FnStreams.mono_l k
  unfold laws_FnStreams.f
  repeat' first
      | (with_reducible exact ih0 _ _ _ _ _ _ _)
      | (with_reducible exact ih1 _ _ _ _ _ _)
      | (with_reducible exact ih2 _)
      | (with_reducible exact ih3 _ _ _ _ _ _)
      | (with_reducible exact ih4 _ _ _ _ _)
      | (with_reducible exact ih5 _)
      | (with_reducible exact ih6 _ _ _ _ _)
      | (with_reducible exact ih7 _)
      | (with_reducible exact ih8 _ _ _ _)
      | (with_reducible exact ih9 _ _ _ _ _)
      | (with_reducible exact impl_BitsOf.mono _ _)
      | (with_reducible exact impl_MakesBits.mono _ _ _ _)
      | (with_reducible exact impl_PeriodOf.mono _ _ _)
      | (with_reducible exact impl_RunsOf.mono _ _)
      | (with_reducible exact impl_StreamOf.mono _ _ _ _)
      | (with_reducible exact impl_TextOf.mono _ _)
      | (with_reducible exact impl_UnlikeBits.mono _ _ _)
      | (with_reducible exact laws_sameBools.mono _ _ _)
      | (with_reducible exact laws_sameInts.mono _ _ _)
      | (with_reducible exact spec_BitsOf.mono _ _)
      | (with_reducible exact spec_DrawPeriodOf.mono _ _)
      | (with_reducible exact spec_DrawRunsOf.mono _ _)
      | (with_reducible exact spec_DrawStreamOf.mono _ _)
      | (with_reducible exact spec_DrawTextOf.mono _ _)
      | (with_reducible exact spec_DrawUnlikeBits.mono _ _)
      | (with_reducible exact spec_PeriodOf.mono _ _ _)
      | (with_reducible exact spec_RunsOf.mono _ _)
      | (with_reducible exact spec_StreamOf.mono _ _ _ _)
      | (with_reducible exact spec_TextOf.mono _ _)
      | (with_reducible exact spec_UnlikeBits.mono _ _ _)
      | (with_reducible exact LeO.refl _)
      | (with_reducible exact LeO.none _)
      | (with_reducible refine LeO.ite ?_ ?_)
      | (with_reducible refine LeO.bind ?_ (fun _ => ?_))
      | exact ih0 _ _ _ _ _ _ _
      | exact ih1 _ _ _ _ _ _
      | exact ih2 _
      | exact ih3 _ _ _ _ _ _
      | exact ih4 _ _ _ _ _
      | exact ih5 _
      | exact ih6 _ _ _ _ _
      | exact ih7 _
      | exact ih8 _ _ _ _
      | exact ih9 _ _ _ _ _
      | exact impl_BitsOf.mono _ _
      | exact impl_MakesBits.mono _ _ _ _
      | exact impl_PeriodOf.mono _ _ _
      | exact impl_RunsOf.mono _ _
      | exact impl_StreamOf.mono _ _ _ _
      | exact impl_TextOf.mono _ _
      | exact impl_UnlikeBits.mono _ _ _
      | exact laws_sameBools.mono _ _ _
      | exact laws_sameInts.mono _ _ _
      | exact spec_BitsOf.mono _ _
      | exact spec_DrawPeriodOf.mono _ _
      | exact spec_DrawRunsOf.mono _ _
      | exact spec_DrawStreamOf.mono _ _
      | exact spec_DrawTextOf.mono _ _
      | exact spec_DrawUnlikeBits.mono _ _
      | exact spec_PeriodOf.mono _ _ _
      | exact spec_RunsOf.mono _ _
      | exact spec_StreamOf.mono _ _ _ _
      | exact spec_TextOf.mono _ _
      | exact spec_UnlikeBits.mono _ _ _
      | exact LeO.none _
      | refine LeO.ite ?_ ?_
      | refine LeO.bind ?_ (fun _ => ?_)
set_option maxHeartbeats 8000000 in
set_option maxRecDepth 100000 in
theorem laws_FnStreams.calls (k : Nat) (A0 : Option Addr) (c0 : Nat) (l0 : List Int) (A1 : Option Addr) (c1 : Nat) (l1 : List Int) (_r : Bool) (w : World) (hr0 : Kd.C (Kd.int .u8) w A0 l0.length l0) (hc0 : l0.length ≤ c0) (hr1 : Kd.C (Kd.int .u8) w A1 l1.length l1) (hc1 : l1.length ≤ c1) (h : laws_FnStreams.f k l0 l1 = some true) :
    Calls Try.prog 13 #[.slice A0 l0.length c0, .slice A1 l1.length c1] w fun e w' => e = .returned (.bool true) ∧ Below w.heap.size w w' := by
 have HR0 := Aside0.mk hr0
 have HC0 := Aside0.mk hc0
 clear hr0 hc0
 have HR1 := Aside0.mk hr1
 have HC1 := Aside0.mk hc1
 clear hr1 hc1
 have HB := Aside0.mk (Below.refl w.heap.size w)
 have H : (if (wrap64 ((l0.length : Int) + (l1.length : Int))) > 1048576 then (some true) else ((spec_DrawStreamOf.f k l0).bind fun bt438 => ((impl_StreamOf.f k bt438.1 bt438.2.1 bt438.2.2).bind fun bt445 => ((spec_StreamOf.f k bt438.1 bt438.2.1 bt438.2.2).bind fun bt449 => (if (bt445.2 != bt449.2) = true then (laws_FnStreams.j0 k l1 bt438.1 bt438.2.1 bt438.2.2 bt445.1 bt445.2 true) else ((laws_sameBools.f k bt445.1 bt449.1).bind fun t453 => (laws_FnStreams.j0 k l1 bt438.1 bt438.2.1 bt438.2.2 bt445.1 bt445.2 (!t453)))))))) = some true := h
 clear h
 by_cases c3 : (wrap64 ((l0.length : Int) + (l1.length : Int))) > 1048576
 · rw [if_pos c3] at H
   have c3b0 : decide (1048576 < (wrap64 ((l0.length : Int) + (l1.length : Int)))) = true := decide_eq_true c3
   clear c3
   clear H
   go_enter Try.func13, Try.ntmps13
   go_wp2
   go_ret
   exact ⟨by first | rfl | (simp [errW_none, errW_some] <;> rfl) | (simp [*, errW_none, errW_some] <;> rfl), hq HB⟩
 rw [if_neg c3] at H
 have c3b0 : decide (1048576 < (wrap64 ((l0.length : Int) + (l1.length : Int)))) = false := decide_eq_false c3
 clear c3
 replace H := Option.bind_eq_some_iff.mp H
 obtain ⟨⟨t438, t439, t440⟩, A40, H⟩ := H
 replace H : ((impl_StreamOf.f k t438 t439 t440).bind fun bt445 => ((spec_StreamOf.f k t438 t439 t440).bind fun bt449 => (if (bt445.2 != bt449.2) = true then (laws_FnStreams.j0 k l1 t438 t439 t440 bt445.1 bt445.2 true) else ((laws_sameBools.f k bt445.1 bt449.1).bind fun t453 => (laws_FnStreams.j0 k l1 t438 t439 t440 bt445.1 bt445.2 (!t453)))))) = some true := H
 have A4 := Aside0.mk A40
 clear A40
 replace H := Option.bind_eq_some_iff.mp H
 obtain ⟨⟨t445, t446⟩, A50, H⟩ := H
 replace H : ((spec_StreamOf.f k t438 t439 t440).bind fun bt449 => (if (t446 != bt449.2) = true then (laws_FnStreams.j0 k l1 t438 t439 t440 t445 t446 true) else ((laws_sameBools.f k t445 bt449.1).bind fun t453 => (laws_FnStreams.j0 k l1 t438 t439 t440 t445 t446 (!t453))))) = some true := H
 have A5 := Aside0.mk A50
 clear A50
 replace H := Option.bind_eq_some_iff.mp H
 obtain ⟨⟨t449, t450⟩, A60, H⟩ := H
 replace H : (if (t446 != t450) = true then (laws_FnStreams.j0 k l1 t438 t439 t440 t445 t446 true) else ((laws_sameBools.f k t445 t449).bind fun t453 => (laws_FnStreams.j0 k l1 t438 t439 t440 t445 t446 (!t453)))) = some true := H
 have A6 := Aside0.mk A60
 clear A60
 have HC7 := Aside0.mk H
 clear H
 go_enter Try.func13, Try.ntmps13
 go_upto_region 6 with (first | ((with_reducible refine gate_callee (f := 35) rfl ?_); refine goesL_ (some 56) rfl rfl Try.func35 (by kernel_rfl) rfl #[.slice A0 l0.length c0] rfl (by (try simp only [List.map_toArray, List.map_cons, List.map_nil]); first | done | rfl | (simp only [List.length_drop, List.length_take]; rfl)) ?_; (with_reducible refine (spec_DrawStreamOf.calls k _ _ l0 t438 t439 t440 _ ?side1 ?side2 A4.out).mono ?_); (case side1 => repeat (first | exact HR0.out | (with_reducible refine Kd.C_alloc ?_ _) | (with_reducible refine Kd.C_drewN ?_ _) | (with_reducible refine Kd.C_drew ?_))); (case side2 => exact HC0.out); rintro e w8 ⟨v441, v443, rfl, ho0, ho1, hb⟩; refine ⟨_, rfl, ?_⟩; have HO442 := Aside0.mk (Kd.R_lower ho0 (below_size (hq HB))); have HO444 := Aside0.mk (Kd.R_lower ho1 (below_size (hq HB))); replace HB := cs (hq HB) hb; (try clear hb); (try clear hb2); (try clear hk); (try clear hi); (try clear ho0); (try clear ho1); obtain ⟨Ao9, co9, eo9⟩ := Kd.R_slice HO442.out; subst eo9; obtain ⟨Ao10, co10, eo10⟩ := Kd.R_slice HO444.out; subst eo10) | ((with_reducible refine gate_callee (f := 41) rfl ?_); refine goesL_ (some 64) rfl rfl Try.func41 (by kernel_rfl) rfl #[.slice Ao9 t438.length co9, .slice Ao10 t439.length co10, .int .i64 t440] rfl (by (try simp only [List.map_toArray, List.map_cons, List.map_nil]); first | done | rfl | (simp only [List.length_drop, List.length_take]; rfl)) ?_; (with_reducible refine (impl_StreamOf.calls k _ _ t438 _ _ t439 t440 t445 t446 _ ?side1 ?side2 ?side3 ?side4 A5.out).mono ?_); (case side1 => repeat (first | exact (Kd.R_reads' HO442.out).2.2 | (with_reducible refine Kd.C_alloc ?_ _) | (with_reducible refine Kd.C_drewN ?_ _) | (with_reducible refine Kd.C_drew ?_))); (case side2 => exact (Kd.R_reads' HO442.out).2.1); (case side3 => repeat (first | exact (Kd.R_reads' HO444.out).2.2 | (with_reducible refine Kd.C_alloc ?_ _) | (with_reducible refine Kd.C_drewN ?_ _) | (with_reducible refine Kd.C_drew ?_))); (case side4 => exact (Kd.R_reads' HO444.out).2.1); rintro e w11 ⟨v447, rfl, ho0, hb⟩; refine ⟨_, rfl, ?_⟩; replace HO442 := cb HO442 hb; have n1_ := ce HO444 ho0 hb; have HO448 := Aside0.mk (Kd.R_lower (Kd.R_new' ho0 (ql HO444)) (below_size (hq HB))); replace HB := cs (hq HB) hb; replace HO444 := n1_; clear n1_; (try clear hb); (try clear hb2); (try clear hk); (try clear hi); (try clear ho0)) | ((with_reducible refine gate_callee (f := 40) rfl ?_); refine goesL_ (some 71) rfl rfl Try.func40 (by kernel_rfl) rfl #[.slice Ao9 t438.length co9, .slice Ao10 t439.length co10, .int .i64 t440] rfl (by (try simp only [List.map_toArray, List.map_cons, List.map_nil]); first | done | rfl | (simp only [List.length_drop, List.length_take]; rfl)) ?_; (with_reducible refine (spec_StreamOf.calls k _ _ t438 _ _ t439 t440 t449 t450 _ ?side1 ?side2 ?side3 ?side4 A6.out).mono ?_); (case side1 => repeat (first | exact (Kd.R_reads' HO442.out).2.2 | (with_reducible refine Kd.C_alloc ?_ _) | (with_reducible refine Kd.C_drewN ?_ _) | (with_reducible refine Kd.C_drew ?_))); (case side2 => exact (Kd.R_reads' HO442.out).2.1); (case side3 => repeat (first | exact (Kd.R_reads' HO444.out).2.2 | (with_reducible refine Kd.C_alloc ?_ _) | (with_reducible refine Kd.C_drewN ?_ _) | (with_reducible refine Kd.C_drew ?_))); (case side4 => exact (Kd.R_reads' HO444.out).2.1); rintro e w12 ⟨v451, rfl, ho0, hb⟩; refine ⟨_, rfl, ?_⟩; replace HO442 := cb HO442 hb; have n1_ := ce HO444 ho0 hb; have n2_ := ce HO448 ho0 hb; have HO452 := Aside0.mk (Kd.R_lower (Kd.R_new' (Kd.R_new' ho0 (ql HO444)) (ql HO448)) (below_size (hq HB))); replace HB := cs (hq HB) hb; replace HO444 := n1_; replace HO448 := n2_; clear n1_ n2_; (try clear hb); (try clear hb2); (try clear hk); (try clear hi); (try clear ho0)))
 (try simp only [Act.put, List.setIfInBounds_toArray, List.set_cons_zero, List.set_cons_succ])
 go_cut [82] from 45 to 82 (fun v82 wc => ∃ (kq : Nat) (x82_6 : Bool), v82 = .bool x82_6 ∧ Aside0 (laws_FnStreams.j0 kq l1 t438 t439 t440 t445 t446 x82_6 = some true) ∧ Aside0 (kq ≤ k) ∧ Aside0 (Kd.R (Kd.int .i64) 3 wc w.heap.size (fun _ => True) (.slice Ao9 t438.length co9) t438) ∧ Aside0 (Kd.R Kd.bool 4 wc w.heap.size (fun k_ => some k_ ≠ (v447 : Value).ownBlock) (.slice Ao10 t439.length co10) t439) ∧ Aside0 (Kd.R Kd.bool 4 wc w.heap.size (fun k_ => some k_ ≠ ((.slice Ao10 t439.length co10) : Value).ownBlock) v447 t445) ∧ Aside0 (Below w.heap.size w wc))
 case first =>
   have H := HC7.out
   clear HC7
   by_cases c13 : (t446 != t450) = true
   · rw [if_pos c13] at H
     have c13b0 : (t446 != t450) = true := c13
     (try (have c13b1 : decide (t446 = t450) = false := by simpa using c13))
     (try (have c13b2 : (t446 == t450) = false := by simpa using c13))
     (try (have c13b3 : ¬ (t446 = t450) := by simpa using c13))
     clear c13
     (first | rw [c13b0] | (simp only [i64_w, i32_w]; rw [c13b0]) | skip)
     have H' := Aside0.mk H
     clear H
     go_wp2
     go_meet
     case rel => exact ⟨_, (true), (by first | rfl | (simp; done) | (simp [*]; done)), H', ⟨by first | omega | exact Nat.le_refl _⟩, ⟨by (with_reducible repeat (first | apply Kd.R_alloc | apply Kd.R_drewN | apply Kd.R_drew)); exact HO442.out⟩, ⟨by (with_reducible repeat (first | apply Kd.R_alloc | apply Kd.R_drewN | apply Kd.R_drew)); exact Kd.R_mono HO444.out (fun _ hk => hk.1.2)⟩, ⟨by (with_reducible repeat (first | apply Kd.R_alloc | apply Kd.R_drewN | apply Kd.R_drew)); exact Kd.R_mono HO448.out (fun _ hk => hk.1.2)⟩, ⟨hq HB⟩⟩
   rw [if_neg c13] at H
   have c13b0 : (t446 != t450) = false := by simpa using c13
   (try (have c13b1 : decide (t446 = t450) = true := by simpa using c13))
   (try (have c13b2 : (t446 == t450) = true := by simpa using c13))
   clear c13
   (first | rw [c13b0] | (simp only [i64_w, i32_w]; rw [c13b0]) | skip)
   replace H := Option.bind_eq_some_iff.mp H
   obtain ⟨t453, A140, H⟩ := H
   replace H : (laws_FnStreams.j0 k l1 t438 t439 t440 t445 t446 (!t453)) = some true := H
   have A14 := Aside0.mk A140
   clear A140
   have H' := Aside0.mk H
   clear H
   obtain ⟨Ao15, co15, eo15⟩ := Kd.R_slice HO448.out
   subst eo15
   obtain ⟨Ao16, co16, eo16⟩ := Kd.R_slice HO452.out
   subst eo16
   go_wp2_with (first | (go_at_call 44; (with_reducible refine (laws_sameBools.calls k _ _ t445 _ _ t449 t453 _ ?side1 ?side2 ?side3 ?side4 A14.out).mono ?_); (case side1 => repeat (first | exact (Kd.R_reads' HO448.out).2.2 | (with_reducible refine Kd.C_alloc ?_ _) | (with_reducible refine Kd.C_drewN ?_ _) | (with_reducible refine Kd.C_drew ?_))); (case side2 => exact (Kd.R_reads' HO448.out).2.1); (case side3 => repeat (first | exact (Kd.R_reads' HO452.out).2.2 | (with_reducible refine Kd.C_alloc ?_ _) | (with_reducible refine Kd.C_drewN ?_ _) | (with_reducible refine Kd.C_drew ?_))); (case side4 => exact (Kd.R_reads' HO452.out).2.1); rintro e w' ⟨rfl, ⟨nd, rfl⟩⟩))
   go_meet
   case rel => exact ⟨_, (!t453), (by first | rfl | (simp; done) | (simp [*]; done)), H', ⟨by first | omega | exact Nat.le_refl _⟩, ⟨by (with_reducible repeat (first | apply Kd.R_alloc | apply Kd.R_drewN | apply Kd.R_drew)); exact HO442.out⟩, ⟨by (with_reducible repeat (first | apply Kd.R_alloc | apply Kd.R_drewN | apply Kd.R_drew)); exact Kd.R_mono HO444.out (fun _ hk => hk.1.2)⟩, ⟨by (with_reducible repeat (first | apply Kd.R_alloc | apply Kd.R_drewN | apply Kd.R_drew)); exact Kd.R_mono HO448.out (fun _ hk => hk.1.2)⟩, ⟨hq HB⟩⟩
 clear HC7
 try clear c1
 try clear p2
 try clear c3
 try clear c3b0
 try clear c4
 try clear p6
 try clear c13
 try clear c13b0
 try clear c13b1
 try clear c13b2
 obtain ⟨kq, x82_6, rfl, HA, HJ6, HO_5, HO_6, HO_8, HB⟩ := hcut
 obtain _ | kj6 := kq
 · exact absurd HA.out (by simp [laws_FnStreams.j0])
 have H := HA.out
 clear HA
 simp only [laws_FnStreams.j0] at H
 by_cases c17 : x82_6 = true
 · subst c17
   have H1 : (some false) = some true := by rw [if_pos rfl] at H; exact H
   clear H
   have H := H1
   clear H1
   cases H
 replace c17 := Bool.eq_false_iff.mpr c17
 subst c17
 have H1 : (if t446 = true then (laws_FnStreams.j1 kj6 l1 t438 t439 t440 t445 (decide (t440 ≥ (t439.length : Int)))) else (laws_FnStreams.j1 kj6 l1 t438 t439 t440 t445 false)) = some true := by rw [if_neg (show ¬ (false = true) by decide)] at H; exact H
 clear H
 have H := H1
 clear H1
 have HC18 := Aside0.mk H
 clear H
 go_upto_region 8 with (fail)
 go_cut [89] from 83 to 89 (fun v89 wc => ∃ (kq : Nat) (x89_17 : Bool), v89 = .bool x89_17 ∧ Aside0 (laws_FnStreams.j1 kq l1 t438 t439 t440 t445 x89_17 = some true) ∧ Aside0 (kq ≤ kj6) ∧ Aside0 (Kd.R (Kd.int .i64) 3 wc w.heap.size (fun _ => True) (.slice Ao9 t438.length co9) t438) ∧ Aside0 (Kd.R Kd.bool 4 wc w.heap.size (fun k_ => some k_ ≠ (v447 : Value).ownBlock) (.slice Ao10 t439.length co10) t439) ∧ Aside0 (Kd.R Kd.bool 4 wc w.heap.size (fun k_ => some k_ ≠ ((.slice Ao10 t439.length co10) : Value).ownBlock) v447 t445) ∧ Aside0 (Below w.heap.size w wc))
 case first =>
   have H := HC18.out
   clear HC18
   by_cases c19 : t446 = true
   · subst c19
     have H1 : (laws_FnStreams.j1 kj6 l1 t438 t439 t440 t445 (decide (t440 ≥ (t439.length : Int)))) = some true := by rw [if_pos rfl] at H; exact H
     clear H
     have H := H1
     clear H1
     have H' := Aside0.mk H
     clear H
     go_wp2
     go_meet
     case rel => exact ⟨_, (decide (t440 ≥ (t439.length : Int))), (by first | rfl | (simp; done) | (simp [*]; done)), H', ⟨by have := HJ6.out; first | omega | exact Nat.le_refl _⟩, ⟨by (with_reducible repeat (first | apply Kd.R_alloc | apply Kd.R_drewN | apply Kd.R_drew)); exact HO_5.out⟩, ⟨by (with_reducible repeat (first | apply Kd.R_alloc | apply Kd.R_drewN | apply Kd.R_drew)); exact HO_6.out⟩, ⟨by (with_reducible repeat (first | apply Kd.R_alloc | apply Kd.R_drewN | apply Kd.R_drew)); exact HO_8.out⟩, ⟨hq HB⟩⟩
   replace c19 := Bool.eq_false_iff.mpr c19
   subst c19
   have H1 : (laws_FnStreams.j1 kj6 l1 t438 t439 t440 t445 false) = some true := by rw [if_neg (show ¬ (false = true) by decide)] at H; exact H
   clear H
   have H := H1
   clear H1
   have H' := Aside0.mk H
   clear H
   go_wp2
   go_meet
   case rel => exact ⟨_, (false), (by first | rfl | (simp; done) | (simp [*]; done)), H', ⟨by have := HJ6.out; first | omega | exact Nat.le_refl _⟩, ⟨by (with_reducible repeat (first | apply Kd.R_alloc | apply Kd.R_drewN | apply Kd.R_drew)); exact HO_5.out⟩, ⟨by (with_reducible repeat (first | apply Kd.R_alloc | apply Kd.R_drewN | apply Kd.R_drew)); exact HO_6.out⟩, ⟨by (with_reducible repeat (first | apply Kd.R_alloc | apply Kd.R_drewN | apply Kd.R_drew)); exact HO_8.out⟩, ⟨hq HB⟩⟩
 clear HC18
 try clear c1
 try clear p2
 try clear c3
 try clear c3b0
 try clear c4
 try clear p6
 try clear c13
 try clear c13b0
 try clear c13b1
 try clear c13b2
 try clear c17
 try clear c19
 try clear p2
 try clear p6
 obtain ⟨kq, x89_17, rfl, HA, HJ17, HO_5, HO_6, HO_8, HB⟩ := hcut
 obtain _ | kj17 := kq
 · exact absurd HA.out (by simp [laws_FnStreams.j1])
 have H := HA.out
 clear HA
 simp only [laws_FnStreams.j1] at H
 have HC20 := Aside0.mk H
 clear H
 go_upto_if 89 with (fail)
 go_cut [] from 90 to 109 (fun wc => ∃ (kq : Nat), Aside0 (laws_FnStreams.j2 kq l1 = some true) ∧ Aside0 (kq ≤ kj17) ∧ Aside0 (Below w.heap.size w wc))
 case first =>
   have H := HC20.out
   clear HC20
   by_cases c21 : x89_17 = true
   rotate_left
   · replace c21 := Bool.eq_false_iff.mpr c21
     subst c21
     have H1 : (laws_FnStreams.j2 kj17 l1) = some true := by rw [if_neg (show ¬ (false = true) by decide)] at H; exact H
     clear H
     have H := H1
     clear H1
     have H' := Aside0.mk H
     clear H
     go_wp2
     go_meet
     case rel => exact ⟨_, H', ⟨by have := HJ6.out; have := HJ17.out; first | omega | exact Nat.le_refl _⟩, ⟨hq HB⟩⟩
   subst c21
   have H1 : ((impl_MakesBits.f kj17 t438 (t439.length : Int) t445).bind fun bt454 => (if bt454.2 = true then (if bt454.1 = true then (if (t445.length : Int) = t440 then (laws_FnStreams.j2 kj17 l1) else (some false)) else (some false)) else (some false))) = some true := by rw [if_pos rfl] at H; exact H
   clear H
   have H := H1
   clear H1
   replace H := Option.bind_eq_some_iff.mp H
   obtain ⟨⟨t454, t455⟩, A220, H⟩ := H
   replace H : (if t455 = true then (if t454 = true then (if (t445.length : Int) = t440 then (laws_FnStreams.j2 kj17 l1) else (some false)) else (some false)) else (some false)) = some true := H
   have A22 := Aside0.mk A220
   clear A220
   by_cases c23 : t455 = true
   rotate_left
   · replace c23 := Bool.eq_false_iff.mpr c23
     subst c23
     have H1 : (some false) = some true := by rw [if_neg (show ¬ (false = true) by decide)] at H; exact H
     clear H
     have H := H1
     clear H1
     cases H
   subst c23
   have H1 : (if t454 = true then (if (t445.length : Int) = t440 then (laws_FnStreams.j2 kj17 l1) else (some false)) else (some false)) = some true := by rw [if_pos rfl] at H; exact H
   clear H
   have H := H1
   clear H1
   by_cases c24 : t454 = true
   rotate_left
   · replace c24 := Bool.eq_false_iff.mpr c24
     subst c24
     have H1 : (some false) = some true := by rw [if_neg (show ¬ (false = true) by decide)] at H; exact H
     clear H
     have H := H1
     clear H1
     cases H
   subst c24
   have H1 : (if (t445.length : Int) = t440 then (laws_FnStreams.j2 kj17 l1) else (some false)) = some true := by rw [if_pos rfl] at H; exact H
   clear H
   have H := H1
   clear H1
   by_cases c25 : (t445.length : Int) = t440
   rotate_left
   · rw [if_neg c25] at H
     have c25b0 : ((t445.length : Int) == t440) = false := beq_eq_false_iff_ne.mpr c25
     have c25b1 : ((t445.length : Int) != t440) = true := bne_iff_ne.mpr c25
     (first | rw [c25b0] | (simp only [i64_w, i32_w]; rw [c25b0]) | skip)
     cases H
   rw [if_pos c25] at H
   have c25b0 : ((t445.length : Int) == t440) = true := beq_iff_eq.mpr c25
   have c25b1 : ((t445.length : Int) != t440) = false := bne_eq_false_iff_eq.mpr c25
   clear c25
   (first | rw [c25b0] | (simp only [i64_w, i32_w]; rw [c25b0]) | skip)
   have H' := Aside0.mk H
   clear H
   obtain ⟨Ao26, co26, eo26⟩ := Kd.R_slice HO_8.out
   subst eo26
   go_wp2_with (first | ((with_reducible refine gate_callee (f := 34) rfl ?_); refine goesL_ (some 95) rfl rfl Try.func34 (by kernel_rfl) rfl #[.slice Ao9 t438.length co9, .int .i64 (t439.length : Int), .slice Ao26 t445.length co26] rfl (by (try simp only [List.map_toArray, List.map_cons, List.map_nil]); first | done | rfl | (simp only [List.length_drop, List.length_take]; rfl)) ?_; (with_reducible refine (impl_MakesBits.calls kj17 _ _ t438 (t439.length : Int) _ _ t445 true true _ ?side1 ?side2 ?side3 ?side4 A22.out).mono ?_); (case side1 => repeat (first | exact (Kd.R_reads' HO_5.out).2.2 | (with_reducible refine Kd.C_alloc ?_ _) | (with_reducible refine Kd.C_drewN ?_ _) | (with_reducible refine Kd.C_drew ?_))); (case side2 => exact (Kd.R_reads' HO_5.out).2.1); (case side3 => repeat (first | exact (Kd.R_reads' HO_8.out).2.2 | (with_reducible refine Kd.C_alloc ?_ _) | (with_reducible refine Kd.C_drewN ?_ _) | (with_reducible refine Kd.C_drew ?_))); (case side4 => exact (Kd.R_reads' HO_8.out).2.1); rintro e w' ⟨rfl, ⟨nd, rfl⟩⟩; refine ⟨_, rfl, ?_⟩))
   go_meet
   case rel => exact ⟨_, H', ⟨by have := HJ6.out; have := HJ17.out; first | omega | exact Nat.le_refl _⟩, ⟨hq HB⟩⟩
 clear HC20
 try clear c1
 try clear c2
 try clear p2
 try clear c3
 try clear c3b0
 try clear c4
 try clear p6
 try clear c13
 try clear c13b0
 try clear c13b1
 try clear c13b2
 try clear c17
 try clear c19
 try clear c21
 try clear c23
 try clear c24
 try clear c25
 try clear c25b0
 try clear c25b1
 try clear p2
 try clear p6
 obtain ⟨kq, HA, HJ19, HB⟩ := hcut
 obtain _ | kj19 := kq
 · exact absurd HA.out (by simp [laws_FnStreams.j2])
 have H := HA.out
 clear HA
 simp only [laws_FnStreams.j2] at H
 replace H := Option.bind_eq_some_iff.mp H
 obtain ⟨⟨t456, t457⟩, A300, H⟩ := H
 replace H : ((impl_PeriodOf.f kj19 t456 t457).bind fun bt462 => ((spec_PeriodOf.f kj19 t456 t457).bind fun bt464 => (if (bt462.2 != bt464.2) = true then (laws_FnStreams.j3 kj19 l1 t456 t457 bt462.1 bt462.2 true) else (laws_FnStreams.j3 kj19 l1 t456 t457 bt462.1 bt462.2 (bt462.1 != bt464.1))))) = some true := H
 have A30 := Aside0.mk A300
 clear A300
 replace H := Option.bind_eq_some_iff.mp H
 obtain ⟨⟨t462, t463⟩, A310, H⟩ := H
 replace H : ((spec_PeriodOf.f kj19 t456 t457).bind fun bt464 => (if (t463 != bt464.2) = true then (laws_FnStreams.j3 kj19 l1 t456 t457 t462 t463 true) else (laws_FnStreams.j3 kj19 l1 t456 t457 t462 t463 (t462 != bt464.1)))) = some true := H
 have A31 := Aside0.mk A310
 clear A310
 replace H := Option.bind_eq_some_iff.mp H
 obtain ⟨⟨t464, t465⟩, A320, H⟩ := H
 replace H : (if (t463 != t465) = true then (laws_FnStreams.j3 kj19 l1 t456 t457 t462 t463 true) else (laws_FnStreams.j3 kj19 l1 t456 t457 t462 t463 (t462 != t464))) = some true := H
 have A32 := Aside0.mk A320
 clear A320
 have HC33 := Aside0.mk H
 clear H
 go_upto_region 15 with (first | ((with_reducible refine gate_callee (f := 45) rfl ?_); refine goesL_ (some 112) rfl rfl Try.func45 (by kernel_rfl) rfl #[.slice A1 l1.length c1] rfl (by (try simp only [List.map_toArray, List.map_cons, List.map_nil]); first | done | rfl | (simp only [List.length_drop, List.length_take]; rfl)) ?_; (with_reducible refine (spec_DrawPeriodOf.calls kj19 _ _ l1 t456 t457 _ ?side1 ?side2 A30.out).mono ?_); (case side1 => repeat (first | exact (Kd.C_below HR1.out HB.out) | (with_reducible refine Kd.C_alloc ?_ _) | (with_reducible refine Kd.C_drewN ?_ _) | (with_reducible refine Kd.C_drew ?_))); (case side2 => exact HC1.out); rintro e w34 ⟨v458, v460, rfl, ho0, ho1, hb⟩; refine ⟨_, rfl, ?_⟩; have HO459 := Aside0.mk (Kd.R_lower ho0 (below_size (hq HB))); have HO461 := Aside0.mk (Kd.R_lower ho1 (below_size (hq HB))); replace HB := cs (hq HB) hb; (try clear hb); (try clear hb2); (try clear hk); (try clear hi); (try clear ho0); (try clear ho1); obtain ⟨Ao35, co35, eo35⟩ := Kd.R_slice HO459.out; subst eo35; obtain ⟨Ao36, co36, eo36⟩ := Kd.R_slice HO461.out; subst eo36) | ((with_reducible refine gate_callee (f := 43) rfl ?_); refine goesL_ (some 118) rfl rfl Try.func43 (by kernel_rfl) rfl #[.slice Ao35 t456.length co35, .slice Ao36 t457.length co36] rfl (by (try simp only [List.map_toArray, List.map_cons, List.map_nil]); first | done | rfl | (simp only [List.length_drop, List.length_take]; rfl)) ?_; (with_reducible refine (impl_PeriodOf.calls kj19 _ _ t456 _ _ t457 t462 t463 _ ?side1 ?side2 ?side3 ?side4 A31.out).mono ?_); (case side1 => repeat (first | exact (Kd.R_reads' HO459.out).2.2 | (with_reducible refine Kd.C_alloc ?_ _) | (with_reducible refine Kd.C_drewN ?_ _) | (with_reducible refine Kd.C_drew ?_))); (case side2 => exact (Kd.R_reads' HO459.out).2.1); (case side3 => repeat (first | exact (Kd.R_reads' HO461.out).2.2 | (with_reducible refine Kd.C_alloc ?_ _) | (with_reducible refine Kd.C_drewN ?_ _) | (with_reducible refine Kd.C_drew ?_))); (case side4 => exact (Kd.R_reads' HO461.out).2.1); rintro e w37 ⟨rfl, hb⟩; refine ⟨_, rfl, ?_⟩; replace HO459 := cb HO459 hb; replace HO461 := cb HO461 hb; replace HB := cs (hq HB) hb; (try clear hb); (try clear hb2); (try clear hk); (try clear hi)) | ((with_reducible refine gate_callee (f := 42) rfl ?_); refine goesL_ (some 124) rfl rfl Try.func42 (by kernel_rfl) rfl #[.slice Ao35 t456.length co35, .slice Ao36 t457.length co36] rfl (by (try simp only [List.map_toArray, List.map_cons, List.map_nil]); first | done | rfl | (simp only [List.length_drop, List.length_take]; rfl)) ?_; (with_reducible refine (spec_PeriodOf.calls kj19 _ _ t456 _ _ t457 t464 t465 _ ?side1 ?side2 ?side3 ?side4 A32.out).mono ?_); (case side1 => repeat (first | exact (Kd.R_reads' HO459.out).2.2 | (with_reducible refine Kd.C_alloc ?_ _) | (with_reducible refine Kd.C_drewN ?_ _) | (with_reducible refine Kd.C_drew ?_))); (case side2 => exact (Kd.R_reads' HO459.out).2.1); (case side3 => repeat (first | exact (Kd.R_reads' HO461.out).2.2 | (with_reducible refine Kd.C_alloc ?_ _) | (with_reducible refine Kd.C_drewN ?_ _) | (with_reducible refine Kd.C_drew ?_))); (case side4 => exact (Kd.R_reads' HO461.out).2.1); rintro e w38 ⟨rfl, hb⟩; refine ⟨_, rfl, ?_⟩; replace HO459 := cb HO459 hb; replace HO461 := cb HO461 hb; replace HB := cs (hq HB) hb; (try clear hb); (try clear hb2); (try clear hk); (try clear hi)))
 (try simp only [Act.put, List.setIfInBounds_toArray, List.set_cons_zero, List.set_cons_succ])
 go_cut [134] from 110 to 134 (fun v134 wc => ∃ (kq : Nat) (x134_32 : Bool), v134 = .bool x134_32 ∧ Aside0 (laws_FnStreams.j3 kq l1 t456 t457 t462 t463 x134_32 = some true) ∧ Aside0 (kq ≤ kj19) ∧ Aside0 (Kd.R (Kd.int .i64) 3 wc w.heap.size (fun _ => True) (.slice Ao35 t456.length co35) t456) ∧ Aside0 (Kd.R Kd.bool 4 wc w.heap.size (fun _ => True) (.slice Ao36 t457.length co36) t457) ∧ Aside0 (Below w.heap.size w wc))
 case first =>
   have H := HC33.out
   clear HC33
   by_cases c39 : (t463 != t465) = true
   rotate_left
   · rw [if_neg c39] at H
     have c39b0 : (t463 != t465) = false := by simpa using c39
     (try (have c39b1 : decide (t463 = t465) = true := by simpa using c39))
     (try (have c39b2 : (t463 == t465) = true := by simpa using c39))
     clear c39
     (first | rw [c39b0] | (simp only [i64_w, i32_w]; rw [c39b0]) | skip)
     have H' := Aside0.mk H
     clear H
     go_wp2
     go_meet
     case rel => exact ⟨_, ((t462 != t464)), (by first | rfl | (simp; done) | (simp [*]; done)), H', ⟨by have := HJ6.out; have := HJ17.out; have := HJ19.out; first | omega | exact Nat.le_refl _⟩, ⟨by (with_reducible repeat (first | apply Kd.R_alloc | apply Kd.R_drewN | apply Kd.R_drew)); exact HO459.out⟩, ⟨by (with_reducible repeat (first | apply Kd.R_alloc | apply Kd.R_drewN | apply Kd.R_drew)); exact HO461.out⟩, ⟨hq HB⟩⟩
   rw [if_pos c39] at H
   have c39b0 : (t463 != t465) = true := c39
   (try (have c39b1 : decide (t463 = t465) = false := by simpa using c39))
   (try (have c39b2 : (t463 == t465) = false := by simpa using c39))
   (try (have c39b3 : ¬ (t463 = t465) := by simpa using c39))
   clear c39
   (first | rw [c39b0] | (simp only [i64_w, i32_w]; rw [c39b0]) | skip)
   have H' := Aside0.mk H
   clear H
   go_wp2
   go_meet
   case rel => exact ⟨_, (true), (by first | rfl | (simp; done) | (simp [*]; done)), H', ⟨by have := HJ6.out; have := HJ17.out; have := HJ19.out; first | omega | exact Nat.le_refl _⟩, ⟨by (with_reducible repeat (first | apply Kd.R_alloc | apply Kd.R_drewN | apply Kd.R_drew)); exact HO459.out⟩, ⟨by (with_reducible repeat (first | apply Kd.R_alloc | apply Kd.R_drewN | apply Kd.R_drew)); exact HO461.out⟩, ⟨hq HB⟩⟩
 clear HC33
 try clear c1
 try clear c2
 try clear p2
 try clear c3
 try clear c3b0
 try clear c4
 try clear p6
 try clear c13
 try clear c13b0
 try clear c13b1
 try clear c13b2
 try clear c17
 try clear c19
 try clear c21
 try clear c23
 try clear c24
 try clear c25
 try clear c25b0
 try clear c25b1
 try clear c34
 try clear c35
 try clear c39
 try clear c39b0
 try clear c39b1
 try clear c39b2
 try clear p2
 try clear p6
 obtain ⟨kq, x134_32, rfl, HA, HJ32, HO_14, HO_15, HB⟩ := hcut
 obtain _ | kj32 := kq
 · exact absurd HA.out (by simp [laws_FnStreams.j3])
 have H := HA.out
 clear HA
 simp only [laws_FnStreams.j3] at H
 by_cases c40 : x134_32 = true
 · subst c40
   have H1 : (some false) = some true := by rw [if_pos rfl] at H; exact H
   clear H
   have H := H1
   clear H1
   cases H
 replace c40 := Bool.eq_false_iff.mpr c40
 subst c40
 have H1 : (if t463 = true then (laws_FnStreams.j4 kj32 l1 t456 t457 t462 (decide ((wrap64 (t462 + (t457.length : Int))) ≤ 40))) else (laws_FnStreams.j4 kj32 l1 t456 t457 t462 false)) = some true := by rw [if_neg (show ¬ (false = true) by decide)] at H; exact H
 clear H
 have H := H1
 clear H1
 have HC41 := Aside0.mk H
 clear H
 go_upto_region 17 with (fail)
 go_cut [142] from 135 to 142 (fun v142 wc => ∃ (kq : Nat) (x142_40 : Bool), v142 = .bool x142_40 ∧ Aside0 (laws_FnStreams.j4 kq l1 t456 t457 t462 x142_40 = some true) ∧ Aside0 (kq ≤ kj32) ∧ Aside0 (Kd.R (Kd.int .i64) 3 wc w.heap.size (fun _ => True) (.slice Ao35 t456.length co35) t456) ∧ Aside0 (Kd.R Kd.bool 4 wc w.heap.size (fun _ => True) (.slice Ao36 t457.length co36) t457) ∧ Aside0 (Below w.heap.size w wc))
 case first =>
   have H := HC41.out
   clear HC41
   by_cases c42 : t463 = true
   · subst c42
     have H1 : (laws_FnStreams.j4 kj32 l1 t456 t457 t462 (decide ((wrap64 (t462 + (t457.length : Int))) ≤ 40))) = some true := by rw [if_pos rfl] at H; exact H
     clear H
     have H := H1
     clear H1
     have H' := Aside0.mk H
     clear H
     go_wp2
     go_meet
     case rel => exact ⟨_, (decide ((wrap64 (t462 + (t457.length : Int))) ≤ 40)), (by first | rfl | (simp; done) | (simp [*]; done)), H', ⟨by have := HJ6.out; have := HJ17.out; have := HJ19.out; have := HJ32.out; first | omega | exact Nat.le_refl _⟩, ⟨by (with_reducible repeat (first | apply Kd.R_alloc | apply Kd.R_drewN | apply Kd.R_drew)); exact HO_14.out⟩, ⟨by (with_reducible repeat (first | apply Kd.R_alloc | apply Kd.R_drewN | apply Kd.R_drew)); exact HO_15.out⟩, ⟨hq HB⟩⟩
   replace c42 := Bool.eq_false_iff.mpr c42
   subst c42
   have H1 : (laws_FnStreams.j4 kj32 l1 t456 t457 t462 false) = some true := by rw [if_neg (show ¬ (false = true) by decide)] at H; exact H
   clear H
   have H := H1
   clear H1
   have H' := Aside0.mk H
   clear H
   go_wp2
   go_meet
   case rel => exact ⟨_, (false), (by first | rfl | (simp; done) | (simp [*]; done)), H', ⟨by have := HJ6.out; have := HJ17.out; have := HJ19.out; have := HJ32.out; first | omega | exact Nat.le_refl _⟩, ⟨by (with_reducible repeat (first | apply Kd.R_alloc | apply Kd.R_drewN | apply Kd.R_drew)); exact HO_14.out⟩, ⟨by (with_reducible repeat (first | apply Kd.R_alloc | apply Kd.R_drewN | apply Kd.R_drew)); exact HO_15.out⟩, ⟨hq HB⟩⟩
 clear HC41
 try clear c1
 try clear c2
 try clear p2
 try clear c3
 try clear c3b0
 try clear c4
 try clear p6
 try clear c13
 try clear c13b0
 try clear c13b1
 try clear c13b2
 try clear c17
 try clear c19
 try clear c21
 try clear c23
 try clear c24
 try clear c25
 try clear c25b0
 try clear c25b1
 try clear c34
 try clear c35
 try clear c39
 try clear c39b0
 try clear c39b1
 try clear c39b2
 try clear c40
 try clear c41
 try clear c42
 try clear p2
 try clear p6
 obtain ⟨kq, x142_40, rfl, HA, HJ40, HO_14, HO_15, HB⟩ := hcut
 obtain _ | kj40 := kq
 · exact absurd HA.out (by simp [laws_FnStreams.j4])
 have H := HA.out
 clear HA
 simp only [laws_FnStreams.j4] at H
 have HC43 := Aside0.mk H
 clear H
 go_upto_if 142 with (fail)
 go_cut [] from 143 to 162 (fun wc => ∃ (kq : Nat), Aside0 (laws_FnStreams.j5 kq l1 = some true) ∧ Aside0 (kq ≤ kj40) ∧ Aside0 (Below w.heap.size w wc))
 case first =>
   have H := HC43.out
   clear HC43
   by_cases c44 : x142_40 = true
   rotate_left
   · replace c44 := Bool.eq_false_iff.mpr c44
     subst c44
     have H1 : (laws_FnStreams.j5 kj40 l1) = some true := by rw [if_neg (show ¬ (false = true) by decide)] at H; exact H
     clear H
     have H := H1
     clear H1
     have H' := Aside0.mk H
     clear H
     go_wp2
     go_meet
     case rel => exact ⟨_, H', ⟨by have := HJ6.out; have := HJ17.out; have := HJ19.out; have := HJ32.out; have := HJ40.out; first | omega | exact Nat.le_refl _⟩, ⟨hq HB⟩⟩
   subst c44
   have H1 : ((impl_StreamOf.f kj40 t456 t457 (wrap64 (t462 + (t457.length : Int)))).bind fun bt466 => (if bt466.2 = true then (if 0 ≤ t462 then (if t462 ≤ (bt466.1.length : Int) then ((laws_sameBools.f kj40 (bt466.1.drop (t462 : Int).toNat) t457).bind fun t474 => (if t474 = true then (laws_FnStreams.j5 kj40 l1) else (some false))) else (none)) else (none)) else (some false))) = some true := by rw [if_pos rfl] at H; exact H
   clear H
   have H := H1
   clear H1
   replace H := Option.bind_eq_some_iff.mp H
   obtain ⟨⟨t466, t467⟩, A450, H⟩ := H
   replace H : (if t467 = true then (if 0 ≤ t462 then (if t462 ≤ (t466.length : Int) then ((laws_sameBools.f kj40 (t466.drop (t462 : Int).toNat) t457).bind fun t474 => (if t474 = true then (laws_FnStreams.j5 kj40 l1) else (some false))) else (none)) else (none)) else (some false)) = some true := H
   have A45 := Aside0.mk A450
   clear A450
   by_cases c46 : t467 = true
   rotate_left
   · replace c46 := Bool.eq_false_iff.mpr c46
     subst c46
     have H1 : (some false) = some true := by rw [if_neg (show ¬ (false = true) by decide)] at H; exact H
     clear H
     have H := H1
     clear H1
     cases H
   subst c46
   have H1 : (if 0 ≤ t462 then (if t462 ≤ (t466.length : Int) then ((laws_sameBools.f kj40 (t466.drop (t462 : Int).toNat) t457).bind fun t474 => (if t474 = true then (laws_FnStreams.j5 kj40 l1) else (some false))) else (none)) else (none)) = some true := by rw [if_pos rfl] at H; exact H
   clear H
   have H := H1
   clear H1
   by_cases c47 : 0 ≤ t462
   rotate_left
   · rw [if_neg c47] at H
     exact absurd H (by simp)
   rw [if_pos c47] at H
   have c47b0 := eq_true c47
   have c47b1 : decide (0 ≤ t462) = true := decide_eq_true c47
   clear c47
   by_cases c48 : t462 ≤ (t466.length : Int)
   rotate_left
   · rw [if_neg c48] at H
     exact absurd H (by simp)
   rw [if_pos c48] at H
   have c48b0 := eq_true c48
   have c48b1 : decide (t462 ≤ (t466.length : Int)) = true := decide_eq_true c48
   clear c48
   obtain ⟨y470, hy470⟩ : ∃ y_ : List Bool, y_ = (t466.drop (t462 : Int).toNat) := ⟨_, rfl⟩
   replace H : ((laws_sameBools.f kj40 y470 t457).bind fun t474 => (if t474 = true then (laws_FnStreams.j5 kj40 l1) else (some false))) = some true := by first | (rw [hy470]; with_reducible exact H) | (have H2_ := (Option.bind_some _ _).symm.trans H; rw [hy470]; with_reducible exact H2_) | (have H2_ := (Option.bind_some _ _).symm.trans H; with_reducible exact H2_) | with_reducible exact H | (rw [hy470]; exact H) | exact H
   have Ny470 := Aside0.mk hy470
   clear hy470
   replace H := Option.bind_eq_some_iff.mp H
   obtain ⟨t474, A490, H⟩ := H
   replace H : (if t474 = true then (laws_FnStreams.j5 kj40 l1) else (some false)) = some true := H
   have A49 := Aside0.mk A490
   clear A490
   by_cases c50 : t474 = true
   rotate_left
   · replace c50 := Bool.eq_false_iff.mpr c50
     subst c50
     have H1 : (some false) = some true := by rw [if_neg (show ¬ (false = true) by decide)] at H; exact H
     clear H
     have H := H1
     clear H1
     cases H
   subst c50
   have H1 : (laws_FnStreams.j5 kj40 l1) = some true := by rw [if_pos rfl] at H; exact H
   clear H
   have H := H1
   clear H1
   have H' := Aside0.mk H
   clear H
   go_wp2_with (first | ((with_reducible refine gate_callee (f := 41) rfl ?_); refine goesL_ (some 150) rfl rfl Try.func41 (by kernel_rfl) rfl #[.slice Ao35 t456.length co35, .slice Ao36 t457.length co36, .int .i64 (wrap64 (t462 + (t457.length : Int)))] rfl (by (try simp only [List.map_toArray, List.map_cons, List.map_nil]); first | done | rfl | (simp only [List.length_drop, List.length_take]; rfl)) ?_; (with_reducible refine (impl_StreamOf.calls kj40 _ _ t456 _ _ t457 (wrap64 (t462 + (t457.length : Int))) t466 true _ ?side1 ?side2 ?side3 ?side4 A45.out).mono ?_); (case side1 => repeat (first | exact (Kd.R_reads' HO_14.out).2.2 | (with_reducible refine Kd.C_alloc ?_ _) | (with_reducible refine Kd.C_drewN ?_ _) | (with_reducible refine Kd.C_drew ?_))); (case side2 => exact (Kd.R_reads' HO_14.out).2.1); (case side3 => repeat (first | exact (Kd.R_reads' HO_15.out).2.2 | (with_reducible refine Kd.C_alloc ?_ _) | (with_reducible refine Kd.C_drewN ?_ _) | (with_reducible refine Kd.C_drew ?_))); (case side4 => exact (Kd.R_reads' HO_15.out).2.1); rintro e w51 ⟨v468, rfl, ho0, hb⟩; refine ⟨_, rfl, ?_⟩; replace HO_14 := cb HO_14 hb; have n1_ := ce HO_15 ho0 hb; have HO469 := Aside0.mk (Kd.R_lower (Kd.R_new' ho0 (ql HO_15)) (below_size (hq HB))); replace HB := cs (hq HB) hb; replace HO_15 := n1_; clear n1_; (try clear hb); (try clear hb2); (try clear hk); (try clear hi); (try clear ho0); obtain ⟨Ao53, co53, eo53⟩ := Kd.R_slice HO469.out; subst eo53; have q52 : (t462 : Int) ≤ ((t466.length : Int) : Int) := of_decide_eq_true (by first | (with_reducible assumption) | assumption); obtain ⟨i052, hi052, _, hsz52, _⟩ := info_parts info4; have hroom52 : t466.length ≤ co53 := (Kd.R_reads' HO469.out).2.1; have hC52 : Kd.C Kd.bool _ Ao53 t466.length t466 := (Kd.R_reads' HO469.out).2.2; have q052 : (0 : Int) ≤ (t462 : Int) := of_decide_eq_true (by first | (with_reducible assumption) | assumption); have hcut52 := cut_from (P := Try.prog) 22 4 .i64 Try.underlying22 hi052 1 hsz52 Ao53 t466.length co53 t462 q052 q52; have hr52 := Kd.C_drop (m := (t462 : Int).toNat) (c := co53) hC52 (by omega) hroom52; obtain ⟨A52, hA52⟩ : ∃ A1, A1 = (if co53 = (t462 : Int).toNat then Ao53 else (Ao53 : Option Addr).map (·.add ((t462 : Int).toNat * 1))) := ⟨_, rfl⟩; obtain ⟨c52, hc52⟩ : ∃ c1, c1 = co53 - (t462 : Int).toNat := ⟨_, rfl⟩; have hy52 : y470.length = t466.length - (t462 : Int).toNat := (by rw [Ny470.out, List.length_drop] <;> omega); rw [show (t466).drop (t462 : Int).toNat = y470 from Ny470.out.symm] at hr52; replace hr52 : Kd.C Kd.bool _ A52 y470.length y470 := (by rw [hA52]; exact hr52); rw [← hy52, ← hA52, ← hc52] at hcut52; have HR473 := Aside0.mk hr52; have HC473 := Aside0.mk (show y470.length ≤ c52 from by rw [hy52, hc52]; exact Nat.sub_le_sub_right hroom52 _); clear hr52 hC52 hroom52 hi052 hsz52 hc52; have KY52 := Aside0.mk hy52; have KA52 := Aside0.mk hA52; clear hy52 hA52; have KL52 := Aside0.mk (show (t462 : Int).toNat ≤ t466.length from by omega); replace q52 := eq_true q52) | (go_at_call 44; (with_reducible refine (laws_sameBools.calls kj40 _ _ y470 _ _ t457 true _ ?side1 ?side2 ?side3 ?side4 A49.out).mono ?_); (case side1 => repeat (first | exact (by repeat (first | (with_reducible exact HR473.out) | (with_reducible refine Kd.C_alloc ?_ _) | (with_reducible refine Kd.C_drewN ?_ _) | (with_reducible refine Kd.C_drew ?_) | exact HR473.out)) | (with_reducible refine Kd.C_alloc ?_ _) | (with_reducible refine Kd.C_drewN ?_ _) | (with_reducible refine Kd.C_drew ?_))); (case side2 => exact HC473.out); (case side3 => repeat (first | exact (Kd.R_reads' HO_15.out).2.2 | (with_reducible refine Kd.C_alloc ?_ _) | (with_reducible refine Kd.C_drewN ?_ _) | (with_reducible refine Kd.C_drew ?_))); (case side4 => exact (Kd.R_reads' HO_15.out).2.1); rintro e w' ⟨rfl, ⟨nd, rfl⟩⟩))
   go_meet
   case rel => exact ⟨_, H', ⟨by have := HJ6.out; have := HJ17.out; have := HJ19.out; have := HJ32.out; have := HJ40.out; first | omega | exact Nat.le_refl _⟩, ⟨hq HB⟩⟩
 clear HC43
 try clear c1
 try clear c2
 try clear p2
 try clear c3
 try clear c3b0
 try clear c4
 try clear c5
 try clear q5
 try clear p6
 try clear c13
 try clear c13b0
 try clear c13b1
 try clear c13b2
 try clear c17
 try clear c19
 try clear c21
 try clear c23
 try clear c24
 try clear c25
 try clear c25b0
 try clear c25b1
 try clear c34
 try clear c35
 try clear c39
 try clear c39b0
 try clear c39b1
 try clear c39b2
 try clear c40
 try clear c41
 try clear c42
 try clear c43
 try clear c44
 try clear c45
 try clear c46
 try clear c47
 try clear c47b0
 try clear c47b1
 try clear c48
 try clear c48b0
 try clear c48b1
 try clear c50
 try clear c52
 try clear q52
 try clear c55
 try clear q55
 try clear p2
 try clear p6
 try clear q052
 try clear q055
 try clear q52
 try clear q55
 obtain ⟨kq, HA, HJ42, HB⟩ := hcut
 obtain _ | kj42 := kq
 · exact absurd HA.out (by simp [laws_FnStreams.j5])
 have H := HA.out
 clear HA
 simp only [laws_FnStreams.j5] at H
 replace H := Option.bind_eq_some_iff.mp H
 obtain ⟨t475, A580, H⟩ := H
 replace H : ((impl_BitsOf.f kj42 t475).bind fun bt476 => ((spec_BitsOf.f kj42 t475).bind fun bt480 => ((spec_DrawTextOf.f kj42 l1).bind fun t484 => ((impl_TextOf.f kj42 t484).bind fun bt487 => ((spec_TextOf.f kj42 t484).bind fun bt489 => (if (bt476.2 != bt480.2) = true then (laws_FnStreams.j6 kj42 l1 t475 bt476.1 bt476.2 true) else ((laws_sameBools.f kj42 bt476.1 bt480.1).bind fun t491 => (if t491 = true then (if (bt487.2 != bt489.2) = true then (laws_FnStreams.j6 kj42 l1 t475 bt476.1 bt476.2 true) else (laws_FnStreams.j6 kj42 l1 t475 bt476.1 bt476.2 (bt487.1.toList != bt489.1.toList))) else (laws_FnStreams.j6 kj42 l1 t475 bt476.1 bt476.2 true))))))))) = some true := H
 have A58 := Aside0.mk A580
 clear A580
 replace H := Option.bind_eq_some_iff.mp H
 obtain ⟨⟨t476, t477⟩, A590, H⟩ := H
 replace H : ((spec_BitsOf.f kj42 t475).bind fun bt480 => ((spec_DrawTextOf.f kj42 l1).bind fun t484 => ((impl_TextOf.f kj42 t484).bind fun bt487 => ((spec_TextOf.f kj42 t484).bind fun bt489 => (if (t477 != bt480.2) = true then (laws_FnStreams.j6 kj42 l1 t475 t476 t477 true) else ((laws_sameBools.f kj42 t476 bt480.1).bind fun t491 => (if t491 = true then (if (bt487.2 != bt489.2) = true then (laws_FnStreams.j6 kj42 l1 t475 t476 t477 true) else (laws_FnStreams.j6 kj42 l1 t475 t476 t477 (bt487.1.toList != bt489.1.toList))) else (laws_FnStreams.j6 kj42 l1 t475 t476 t477 true)))))))) = some true := H
 have A59 := Aside0.mk A590
 clear A590
 replace H := Option.bind_eq_some_iff.mp H
 obtain ⟨⟨t480, t481⟩, A600, H⟩ := H
 replace H : ((spec_DrawTextOf.f kj42 l1).bind fun t484 => ((impl_TextOf.f kj42 t484).bind fun bt487 => ((spec_TextOf.f kj42 t484).bind fun bt489 => (if (t477 != t481) = true then (laws_FnStreams.j6 kj42 l1 t475 t476 t477 true) else ((laws_sameBools.f kj42 t476 t480).bind fun t491 => (if t491 = true then (if (bt487.2 != bt489.2) = true then (laws_FnStreams.j6 kj42 l1 t475 t476 t477 true) else (laws_FnStreams.j6 kj42 l1 t475 t476 t477 (bt487.1.toList != bt489.1.toList))) else (laws_FnStreams.j6 kj42 l1 t475 t476 t477 true))))))) = some true := H
 have A60 := Aside0.mk A600
 clear A600
 replace H := Option.bind_eq_some_iff.mp H
 obtain ⟨t484, A610, H⟩ := H
 replace H : ((impl_TextOf.f kj42 t484).bind fun bt487 => ((spec_TextOf.f kj42 t484).bind fun bt489 => (if (t477 != t481) = true then (laws_FnStreams.j6 kj42 l1 t475 t476 t477 true) else ((laws_sameBools.f kj42 t476 t480).bind fun t491 => (if t491 = true then (if (bt487.2 != bt489.2) = true then (laws_FnStreams.j6 kj42 l1 t475 t476 t477 true) else (laws_FnStreams.j6 kj42 l1 t475 t476 t477 (bt487.1.toList != bt489.1.toList))) else (laws_FnStreams.j6 kj42 l1 t475 t476 t477 true)))))) = some true := H
 have A61 := Aside0.mk A610
 clear A610
 replace H := Option.bind_eq_some_iff.mp H
 obtain ⟨⟨t487, t488⟩, A620, H⟩ := H
 replace H : ((spec_TextOf.f kj42 t484).bind fun bt489 => (if (t477 != t481) = true then (laws_FnStreams.j6 kj42 l1 t475 t476 t477 true) else ((laws_sameBools.f kj42 t476 t480).bind fun t491 => (if t491 = true then (if (t488 != bt489.2) = true then (laws_FnStreams.j6 kj42 l1 t475 t476 t477 true) else (laws_FnStreams.j6 kj42 l1 t475 t476 t477 (t487.toList != bt489.1.toList))) else (laws_FnStreams.j6 kj42 l1 t475 t476 t477 true))))) = some true := H
 have A62 := Aside0.mk A620
 clear A620
 replace H := Option.bind_eq_some_iff.mp H
 obtain ⟨⟨t489, t490⟩, A630, H⟩ := H
 replace H : (if (t477 != t481) = true then (laws_FnStreams.j6 kj42 l1 t475 t476 t477 true) else ((laws_sameBools.f kj42 t476 t480).bind fun t491 => (if t491 = true then (if (t488 != t490) = true then (laws_FnStreams.j6 kj42 l1 t475 t476 t477 true) else (laws_FnStreams.j6 kj42 l1 t475 t476 t477 (t487.toList != t489.toList))) else (laws_FnStreams.j6 kj42 l1 t475 t476 t477 true)))) = some true := H
 have A63 := Aside0.mk A630
 clear A630
 have HC64 := Aside0.mk H
 clear H
 go_upto_region 27 with (first | ((with_reducible refine gate_callee (f := 46) rfl ?_); refine goesL_ (some 164) rfl rfl Try.func46 (by kernel_rfl) rfl #[.slice A1 l1.length c1] rfl (by (try simp only [List.map_toArray, List.map_cons, List.map_nil]); first | done | rfl | (simp only [List.length_drop, List.length_take]; rfl)) ?_; (with_reducible refine (spec_DrawBitsOf.calls _ _ l1 t475 _ ?side1 ?side2 A58.out).mono ?_); (case side1 => repeat (first | exact (Kd.C_below HR1.out HB.out) | (with_reducible refine Kd.C_alloc ?_ _) | (with_reducible refine Kd.C_drewN ?_ _) | (with_reducible refine Kd.C_drew ?_))); (case side2 => exact HC1.out); rintro e w65 ⟨rfl, hb⟩; refine ⟨_, rfl, ?_⟩; replace HB := cs (hq HB) hb; (try clear hb); (try clear hb2); (try clear hk); (try clear hi)) | ((with_reducible refine gate_callee (f := 23) rfl ?_); refine goesL_ (some 167) rfl rfl Try.func23 (by kernel_rfl) rfl #[.string t475] rfl (by (try simp only [List.map_toArray, List.map_cons, List.map_nil]); first | done | rfl | (simp only [List.length_drop, List.length_take]; rfl)) ?_; (with_reducible refine (impl_BitsOf.calls kj42 t475 t476 t477 _ A59.out).mono ?_); rintro e w66 ⟨v478, rfl, ho0, hb⟩; refine ⟨_, rfl, ?_⟩; have HO479 := Aside0.mk (Kd.R_lower ho0 (below_size (hq HB))); replace HB := cs (hq HB) hb; (try clear hb); (try clear hb2); (try clear hk); (try clear hi); (try clear ho0)) | ((with_reducible refine gate_callee (f := 22) rfl ?_); refine goesL_ (some 172) rfl rfl Try.func22 (by kernel_rfl) rfl #[.string t475] rfl (by (try simp only [List.map_toArray, List.map_cons, List.map_nil]); first | done | rfl | (simp only [List.length_drop, List.length_take]; rfl)) ?_; (with_reducible refine (spec_BitsOf.calls kj42 t475 t480 t481 _ A60.out).mono ?_); rintro e w67 ⟨v482, rfl, ho0, hb⟩; refine ⟨_, rfl, ?_⟩; have n0_ := ce HO479 ho0 hb; have HO483 := Aside0.mk (Kd.R_lower (Kd.R_new' ho0 (ql HO479)) (below_size (hq HB))); replace HB := cs (hq HB) hb; replace HO479 := n0_; clear n0_; (try clear hb); (try clear hb2); (try clear hk); (try clear hi); (try clear ho0)) | ((with_reducible refine gate_callee (f := 47) rfl ?_); refine goesL_ (some 176) rfl rfl Try.func47 (by kernel_rfl) rfl #[.slice A1 l1.length c1] rfl (by (try simp only [List.map_toArray, List.map_cons, List.map_nil]); first | done | rfl | (simp only [List.length_drop, List.length_take]; rfl)) ?_; (with_reducible refine (spec_DrawTextOf.calls kj42 _ _ l1 t484 _ ?side1 ?side2 A61.out).mono ?_); (case side1 => repeat (first | exact (Kd.C_below HR1.out HB.out) | (with_reducible refine Kd.C_alloc ?_ _) | (with_reducible refine Kd.C_drewN ?_ _) | (with_reducible refine Kd.C_drew ?_))); (case side2 => exact HC1.out); rintro e w68 ⟨v485, rfl, ho0, hb⟩; refine ⟨_, rfl, ?_⟩; have n0_ := ce HO479 ho0 hb; have n1_ := ce HO483 ho0 hb; have HO486 := Aside0.mk (Kd.R_lower (Kd.R_new' (Kd.R_new' ho0 (ql HO479)) (ql HO483)) (below_size (hq HB))); replace HB := cs (hq HB) hb; replace HO479 := n0_; replace HO483 := n1_; clear n0_ n1_; (try clear hb); (try clear hb2); (try clear hk); (try clear hi); (try clear ho0); obtain ⟨Ao69, co69, eo69⟩ := Kd.R_slice HO486.out; subst eo69) | ((with_reducible refine gate_callee (f := 16) rfl ?_); refine goesL_ (some 179) rfl rfl Try.func16 (by kernel_rfl) rfl #[.slice Ao69 t484.length co69] rfl (by (try simp only [List.map_toArray, List.map_cons, List.map_nil]); first | done | rfl | (simp only [List.length_drop, List.length_take]; rfl)) ?_; (with_reducible refine (impl_TextOf.calls kj42 _ _ t484 t487 t488 _ ?side1 ?side2 A62.out).mono ?_); (case side1 => repeat (first | exact (Kd.R_reads' HO486.out).2.2 | (with_reducible refine Kd.C_alloc ?_ _) | (with_reducible refine Kd.C_drewN ?_ _) | (with_reducible refine Kd.C_drew ?_))); (case side2 => exact (Kd.R_reads' HO486.out).2.1); rintro e w70 ⟨rfl, hb⟩; refine ⟨_, rfl, ?_⟩; replace HO479 := cb HO479 hb; replace HO483 := cb HO483 hb; replace HO486 := cb HO486 hb; replace HB := cs (hq HB) hb; (try clear hb); (try clear hb2); (try clear hk); (try clear hi)) | ((with_reducible refine gate_callee (f := 14) rfl ?_); refine goesL_ (some 184) rfl rfl Try.func14 (by kernel_rfl) rfl #[.slice Ao69 t484.length co69] rfl (by (try simp only [List.map_toArray, List.map_cons, List.map_nil]); first | done | rfl | (simp only [List.length_drop, List.length_take]; rfl)) ?_; (with_reducible refine (spec_TextOf.calls kj42 _ _ t484 t489 t490 _ ?side1 ?side2 A63.out).mono ?_); (case side1 => repeat (first | exact (Kd.R_reads' HO486.out).2.2 | (with_reducible refine Kd.C_alloc ?_ _) | (with_reducible refine Kd.C_drewN ?_ _) | (with_reducible refine Kd.C_drew ?_))); (case side2 => exact (Kd.R_reads' HO486.out).2.1); rintro e w71 ⟨rfl, hb⟩; refine ⟨_, rfl, ?_⟩; replace HO479 := cb HO479 hb; replace HO483 := cb HO483 hb; replace HO486 := cb HO486 hb; replace HB := cs (hq HB) hb; (try clear hb); (try clear hb2); (try clear hk); (try clear hi)))
 (try simp only [Act.put, List.setIfInBounds_toArray, List.set_cons_zero, List.set_cons_succ])
 go_cut [205] from 163 to 205 (fun v205 wc => ∃ (kq : Nat) (x205_63 : Bool), v205 = .bool x205_63 ∧ Aside0 (laws_FnStreams.j6 kq l1 t475 t476 t477 x205_63 = some true) ∧ Aside0 (kq ≤ kj42) ∧ Aside0 (Kd.R Kd.bool 4 wc w.heap.size (fun _ => True) v478 t476) ∧ Aside0 (Below w.heap.size w wc))
 case first =>
   have H := HC64.out
   clear HC64
   by_cases c72 : (t477 != t481) = true
   · rw [if_pos c72] at H
     have c72b0 : (t477 != t481) = true := c72
     (try (have c72b1 : decide (t477 = t481) = false := by simpa using c72))
     (try (have c72b2 : (t477 == t481) = false := by simpa using c72))
     (try (have c72b3 : ¬ (t477 = t481) := by simpa using c72))
     clear c72
     (first | rw [c72b0] | (simp only [i64_w, i32_w]; rw [c72b0]) | skip)
     have H' := Aside0.mk H
     clear H
     go_wp2
     go_meet
     case rel => exact ⟨_, (true), (by first | rfl | (simp; done) | (simp [*]; done)), H', ⟨by have := HJ6.out; have := HJ17.out; have := HJ19.out; have := HJ32.out; have := HJ40.out; have := HJ42.out; first | omega | exact Nat.le_refl _⟩, ⟨by (with_reducible repeat (first | apply Kd.R_alloc | apply Kd.R_drewN | apply Kd.R_drew)); exact Kd.R_mono HO479.out (fun _ hk => trivial)⟩, ⟨hq HB⟩⟩
   rw [if_neg c72] at H
   have c72b0 : (t477 != t481) = false := by simpa using c72
   (try (have c72b1 : decide (t477 = t481) = true := by simpa using c72))
   (try (have c72b2 : (t477 == t481) = true := by simpa using c72))
   clear c72
   (first | rw [c72b0] | (simp only [i64_w, i32_w]; rw [c72b0]) | skip)
   replace H := Option.bind_eq_some_iff.mp H
   obtain ⟨t491, A730, H⟩ := H
   replace H : (if t491 = true then (if (t488 != t490) = true then (laws_FnStreams.j6 kj42 l1 t475 t476 t477 true) else (laws_FnStreams.j6 kj42 l1 t475 t476 t477 (t487.toList != t489.toList))) else (laws_FnStreams.j6 kj42 l1 t475 t476 t477 true)) = some true := H
   have A73 := Aside0.mk A730
   clear A730
   by_cases c74 : t491 = true
   rotate_left
   · replace c74 := Bool.eq_false_iff.mpr c74
     subst c74
     have H1 : (laws_FnStreams.j6 kj42 l1 t475 t476 t477 true) = some true := by rw [if_neg (show ¬ (false = true) by decide)] at H; exact H
     clear H
     have H := H1
     clear H1
     have H' := Aside0.mk H
     clear H
     obtain ⟨Ao80, co80, eo80⟩ := Kd.R_slice HO479.out
     subst eo80
     obtain ⟨Ao81, co81, eo81⟩ := Kd.R_slice HO483.out
     subst eo81
     go_wp2_with (first | (go_at_call 44; (with_reducible refine (laws_sameBools.calls kj42 _ _ t476 _ _ t480 false _ ?side1 ?side2 ?side3 ?side4 A73.out).mono ?_); (case side1 => repeat (first | exact (Kd.R_reads' HO479.out).2.2 | (with_reducible refine Kd.C_alloc ?_ _) | (with_reducible refine Kd.C_drewN ?_ _) | (with_reducible refine Kd.C_drew ?_))); (case side2 => exact (Kd.R_reads' HO479.out).2.1); (case side3 => repeat (first | exact (Kd.R_reads' HO483.out).2.2 | (with_reducible refine Kd.C_alloc ?_ _) | (with_reducible refine Kd.C_drewN ?_ _) | (with_reducible refine Kd.C_drew ?_))); (case side4 => exact (Kd.R_reads' HO483.out).2.1); rintro e w' ⟨rfl, ⟨nd, rfl⟩⟩))
     go_meet
     case rel => exact ⟨_, (true), (by first | rfl | (simp; done) | (simp [*]; done)), H', ⟨by have := HJ6.out; have := HJ17.out; have := HJ19.out; have := HJ32.out; have := HJ40.out; have := HJ42.out; first | omega | exact Nat.le_refl _⟩, ⟨by (with_reducible repeat (first | apply Kd.R_alloc | apply Kd.R_drewN | apply Kd.R_drew)); exact Kd.R_mono HO479.out (fun _ hk => trivial)⟩, ⟨hq HB⟩⟩
   subst c74
   have H1 : (if (t488 != t490) = true then (laws_FnStreams.j6 kj42 l1 t475 t476 t477 true) else (laws_FnStreams.j6 kj42 l1 t475 t476 t477 (t487.toList != t489.toList))) = some true := by rw [if_pos rfl] at H; exact H
   clear H
   have H := H1
   clear H1
   by_cases c75 : (t488 != t490) = true
   rotate_left
   · rw [if_neg c75] at H
     have c75b0 : (t488 != t490) = false := by simpa using c75
     (try (have c75b1 : decide (t488 = t490) = true := by simpa using c75))
     (try (have c75b2 : (t488 == t490) = true := by simpa using c75))
     clear c75
     have H' := Aside0.mk H
     clear H
     obtain ⟨Ao78, co78, eo78⟩ := Kd.R_slice HO479.out
     subst eo78
     obtain ⟨Ao79, co79, eo79⟩ := Kd.R_slice HO483.out
     subst eo79
     go_wp2_with (first | (go_at_call 44; (with_reducible refine (laws_sameBools.calls kj42 _ _ t476 _ _ t480 true _ ?side1 ?side2 ?side3 ?side4 A73.out).mono ?_); (case side1 => repeat (first | exact (Kd.R_reads' HO479.out).2.2 | (with_reducible refine Kd.C_alloc ?_ _) | (with_reducible refine Kd.C_drewN ?_ _) | (with_reducible refine Kd.C_drew ?_))); (case side2 => exact (Kd.R_reads' HO479.out).2.1); (case side3 => repeat (first | exact (Kd.R_reads' HO483.out).2.2 | (with_reducible refine Kd.C_alloc ?_ _) | (with_reducible refine Kd.C_drewN ?_ _) | (with_reducible refine Kd.C_drew ?_))); (case side4 => exact (Kd.R_reads' HO483.out).2.1); rintro e w' ⟨rfl, ⟨nd, rfl⟩⟩))
     go_meet
     case rel => exact ⟨_, ((t487.toList != t489.toList)), (by first | rfl | (simp; done) | (simp [*]; done)), H', ⟨by have := HJ6.out; have := HJ17.out; have := HJ19.out; have := HJ32.out; have := HJ40.out; have := HJ42.out; first | omega | exact Nat.le_refl _⟩, ⟨by (with_reducible repeat (first | apply Kd.R_alloc | apply Kd.R_drewN | apply Kd.R_drew)); exact Kd.R_mono HO479.out (fun _ hk => trivial)⟩, ⟨hq HB⟩⟩
   rw [if_pos c75] at H
   have c75b0 : (t488 != t490) = true := c75
   (try (have c75b1 : decide (t488 = t490) = false := by simpa using c75))
   (try (have c75b2 : (t488 == t490) = false := by simpa using c75))
   (try (have c75b3 : ¬ (t488 = t490) := by simpa using c75))
   clear c75
   have H' := Aside0.mk H
   clear H
   obtain ⟨Ao76, co76, eo76⟩ := Kd.R_slice HO479.out
   subst eo76
   obtain ⟨Ao77, co77, eo77⟩ := Kd.R_slice HO483.out
   subst eo77
   go_wp2_with (first | (go_at_call 44; (with_reducible refine (laws_sameBools.calls kj42 _ _ t476 _ _ t480 true _ ?side1 ?side2 ?side3 ?side4 A73.out).mono ?_); (case side1 => repeat (first | exact (Kd.R_reads' HO479.out).2.2 | (with_reducible refine Kd.C_alloc ?_ _) | (with_reducible refine Kd.C_drewN ?_ _) | (with_reducible refine Kd.C_drew ?_))); (case side2 => exact (Kd.R_reads' HO479.out).2.1); (case side3 => repeat (first | exact (Kd.R_reads' HO483.out).2.2 | (with_reducible refine Kd.C_alloc ?_ _) | (with_reducible refine Kd.C_drewN ?_ _) | (with_reducible refine Kd.C_drew ?_))); (case side4 => exact (Kd.R_reads' HO483.out).2.1); rintro e w' ⟨rfl, ⟨nd, rfl⟩⟩))
   go_meet
   case rel => exact ⟨_, (true), (by first | rfl | (simp; done) | (simp [*]; done)), H', ⟨by have := HJ6.out; have := HJ17.out; have := HJ19.out; have := HJ32.out; have := HJ40.out; have := HJ42.out; first | omega | exact Nat.le_refl _⟩, ⟨by (with_reducible repeat (first | apply Kd.R_alloc | apply Kd.R_drewN | apply Kd.R_drew)); exact Kd.R_mono HO479.out (fun _ hk => trivial)⟩, ⟨hq HB⟩⟩
 clear HC64
 try clear c1
 try clear c2
 try clear p2
 try clear c3
 try clear c3b0
 try clear c4
 try clear c5
 try clear q5
 try clear p6
 try clear c7
 try clear c13
 try clear c13b0
 try clear c13b1
 try clear c13b2
 try clear c14
 try clear c16
 try clear c17
 try clear c19
 try clear c21
 try clear c22
 try clear c23
 try clear c24
 try clear c25
 try clear c25b0
 try clear c25b1
 try clear c34
 try clear c35
 try clear c39
 try clear c39b0
 try clear c39b1
 try clear c39b2
 try clear c40
 try clear c41
 try clear c42
 try clear c43
 try clear c44
 try clear c45
 try clear c46
 try clear c47
 try clear c47b0
 try clear c47b1
 try clear c48
 try clear c48b0
 try clear c48b1
 try clear c50
 try clear c52
 try clear q52
 try clear c55
 try clear q55
 try clear p64
 try clear c72
 try clear c72b0
 try clear c72b1
 try clear c72b2
 try clear c74
 try clear c75
 try clear c75b0
 try clear c75b1
 try clear c75b2
 try clear p2
 try clear p6
 try clear q052
 try clear q055
 try clear q5
 try clear q52
 try clear q55
 obtain ⟨kq, x205_63, rfl, HA, HJ63, HO_23, HB⟩ := hcut
 obtain _ | kj63 := kq
 · exact absurd HA.out (by simp [laws_FnStreams.j6])
 have H := HA.out
 clear HA
 simp only [laws_FnStreams.j6] at H
 by_cases c82 : x205_63 = true
 · subst c82
   have H1 : (some false) = some true := by rw [if_pos rfl] at H; exact H
   clear H
   have H := H1
   clear H1
   cases H
 replace c82 := Bool.eq_false_iff.mpr c82
 subst c82
 have H1 : (if t477 = true then ((impl_TextOf.f kj63 t476).bind fun bt492 => (if bt492.2 = true then (if bt492.1.toList = t475.toList then (laws_FnStreams.j7 kj63 l1) else (some false)) else (some false))) else (laws_FnStreams.j7 kj63 l1)) = some true := by rw [if_neg (show ¬ (false = true) by decide)] at H; exact H
 clear H
 have H := H1
 clear H1
 have HC83 := Aside0.mk H
 clear H
 go_upto_if 206 with (fail)
 go_cut [] from 206 to 218 (fun wc => ∃ (kq : Nat), Aside0 (laws_FnStreams.j7 kq l1 = some true) ∧ Aside0 (kq ≤ kj63) ∧ Aside0 (Below w.heap.size w wc))
 case first =>
   have H := HC83.out
   clear HC83
   by_cases c84 : t477 = true
   rotate_left
   · replace c84 := Bool.eq_false_iff.mpr c84
     subst c84
     have H1 : (laws_FnStreams.j7 kj63 l1) = some true := by rw [if_neg (show ¬ (false = true) by decide)] at H; exact H
     clear H
     have H := H1
     clear H1
     have H' := Aside0.mk H
     clear H
     go_wp2
     go_meet
     case rel => exact ⟨_, H', ⟨by have := HJ6.out; have := HJ17.out; have := HJ19.out; have := HJ32.out; have := HJ40.out; have := HJ42.out; have := HJ63.out; first | omega | exact Nat.le_refl _⟩, ⟨hq HB⟩⟩
   subst c84
   have H1 : ((impl_TextOf.f kj63 t476).bind fun bt492 => (if bt492.2 = true then (if bt492.1.toList = t475.toList then (laws_FnStreams.j7 kj63 l1) else (some false)) else (some false))) = some true := by rw [if_pos rfl] at H; exact H
   clear H
   have H := H1
   clear H1
   replace H := Option.bind_eq_some_iff.mp H
   obtain ⟨⟨t492, t493⟩, A850, H⟩ := H
   replace H : (if t493 = true then (if t492.toList = t475.toList then (laws_FnStreams.j7 kj63 l1) else (some false)) else (some false)) = some true := H
   have A85 := Aside0.mk A850
   clear A850
   by_cases c86 : t493 = true
   rotate_left
   · replace c86 := Bool.eq_false_iff.mpr c86
     subst c86
     have H1 : (some false) = some true := by rw [if_neg (show ¬ (false = true) by decide)] at H; exact H
     clear H
     have H := H1
     clear H1
     cases H
   subst c86
   have H1 : (if t492.toList = t475.toList then (laws_FnStreams.j7 kj63 l1) else (some false)) = some true := by rw [if_pos rfl] at H; exact H
   clear H
   have H := H1
   clear H1
   by_cases c87 : t492.toList = t475.toList
   rotate_left
   · rw [if_neg c87] at H
     have c87b0 : (t492.toList == t475.toList) = false := beq_eq_false_iff_ne.mpr c87
     have c87b1 : (t492.toList != t475.toList) = true := bne_iff_ne.mpr c87
     (first | rw [c87b0] | (simp only [i64_w, i32_w]; rw [c87b0]) | skip)
     cases H
   rw [if_pos c87] at H
   have c87b0 : (t492.toList == t475.toList) = true := beq_iff_eq.mpr c87
   have c87b1 : (t492.toList != t475.toList) = false := bne_eq_false_iff_eq.mpr c87
   clear c87
   (first | rw [c87b0] | (simp only [i64_w, i32_w]; rw [c87b0]) | skip)
   have H' := Aside0.mk H
   clear H
   obtain ⟨Ao88, co88, eo88⟩ := Kd.R_slice HO_23.out
   subst eo88
   go_wp2_with (first | ((with_reducible refine gate_callee (f := 16) rfl ?_); refine goesL_ (some 209) rfl rfl Try.func16 (by kernel_rfl) rfl #[.slice Ao88 t476.length co88] rfl (by (try simp only [List.map_toArray, List.map_cons, List.map_nil]); first | done | rfl | (simp only [List.length_drop, List.length_take]; rfl)) ?_; (with_reducible refine (impl_TextOf.calls kj63 _ _ t476 t492 true _ ?side1 ?side2 A85.out).mono ?_); (case side1 => repeat (first | exact (Kd.R_reads' HO_23.out).2.2 | (with_reducible refine Kd.C_alloc ?_ _) | (with_reducible refine Kd.C_drewN ?_ _) | (with_reducible refine Kd.C_drew ?_))); (case side2 => exact (Kd.R_reads' HO_23.out).2.1); rintro e w89 ⟨rfl, hb⟩; refine ⟨_, rfl, ?_⟩; replace HO_23 := cb HO_23 hb; replace HB := cs (hq HB) hb; (try clear hb); (try clear hb2); (try clear hk); (try clear hi)))
   go_meet
   case rel => exact ⟨_, H', ⟨by have := HJ6.out; have := HJ17.out; have := HJ19.out; have := HJ32.out; have := HJ40.out; have := HJ42.out; have := HJ63.out; first | omega | exact Nat.le_refl _⟩, ⟨hq HB⟩⟩
 clear HC83
 try clear c1
 try clear c2
 try clear p2
 try clear c3
 try clear c3b0
 try clear c4
 try clear c5
 try clear q5
 try clear p6
 try clear c7
 try clear c8
 try clear c13
 try clear c13b0
 try clear c13b1
 try clear c13b2
 try clear c14
 try clear c16
 try clear c17
 try clear c19
 try clear c21
 try clear c22
 try clear c23
 try clear c24
 try clear c25
 try clear c25b0
 try clear c25b1
 try clear c34
 try clear c35
 try clear c39
 try clear c39b0
 try clear c39b1
 try clear c39b2
 try clear c40
 try clear c41
 try clear c42
 try clear c43
 try clear c44
 try clear c45
 try clear c46
 try clear c47
 try clear c47b0
 try clear c47b1
 try clear c48
 try clear c48b0
 try clear c48b1
 try clear c50
 try clear c52
 try clear q52
 try clear c55
 try clear q55
 try clear p64
 try clear c72
 try clear c72b0
 try clear c72b1
 try clear c72b2
 try clear c74
 try clear c75
 try clear c75b0
 try clear c75b1
 try clear c75b2
 try clear c82
 try clear c84
 try clear c86
 try clear c87
 try clear c87b0
 try clear c87b1
 try clear p2
 try clear p6
 try clear p64
 try clear q052
 try clear q055
 try clear q5
 try clear q52
 try clear q55
 obtain ⟨kq, HA, HJ82, HB⟩ := hcut
 obtain _ | kj82 := kq
 · exact absurd HA.out (by simp [laws_FnStreams.j7])
 have H := HA.out
 clear HA
 simp only [laws_FnStreams.j7] at H
 replace H := Option.bind_eq_some_iff.mp H
 obtain ⟨⟨t494, t495⟩, A940, H⟩ := H
 replace H : ((impl_UnlikeBits.f kj82 t494 t495).bind fun bt500 => ((spec_UnlikeBits.f kj82 t494 t495).bind fun bt504 => ((spec_DrawRunsOf.f kj82 l1).bind fun t508 => ((impl_RunsOf.f kj82 t508).bind fun bt511 => ((spec_RunsOf.f kj82 t508).bind fun bt515 => (if (bt500.2 != bt504.2) = true then (laws_FnStreams.j8 kj82 t508 bt511.1 bt511.2 true) else ((laws_sameBools.f kj82 bt500.1 bt504.1).bind fun t519 => (if t519 = true then (if (bt511.2 != bt515.2) = true then (laws_FnStreams.j8 kj82 t508 bt511.1 bt511.2 true) else ((laws_sameInts.f kj82 bt511.1 bt515.1).bind fun t520 => (laws_FnStreams.j8 kj82 t508 bt511.1 bt511.2 (!t520)))) else (laws_FnStreams.j8 kj82 t508 bt511.1 bt511.2 true))))))))) = some true := H
 have A94 := Aside0.mk A940
 clear A940
 replace H := Option.bind_eq_some_iff.mp H
 obtain ⟨⟨t500, t501⟩, A950, H⟩ := H
 replace H : ((spec_UnlikeBits.f kj82 t494 t495).bind fun bt504 => ((spec_DrawRunsOf.f kj82 l1).bind fun t508 => ((impl_RunsOf.f kj82 t508).bind fun bt511 => ((spec_RunsOf.f kj82 t508).bind fun bt515 => (if (t501 != bt504.2) = true then (laws_FnStreams.j8 kj82 t508 bt511.1 bt511.2 true) else ((laws_sameBools.f kj82 t500 bt504.1).bind fun t519 => (if t519 = true then (if (bt511.2 != bt515.2) = true then (laws_FnStreams.j8 kj82 t508 bt511.1 bt511.2 true) else ((laws_sameInts.f kj82 bt511.1 bt515.1).bind fun t520 => (laws_FnStreams.j8 kj82 t508 bt511.1 bt511.2 (!t520)))) else (laws_FnStreams.j8 kj82 t508 bt511.1 bt511.2 true)))))))) = some true := H
 have A95 := Aside0.mk A950
 clear A950
 replace H := Option.bind_eq_some_iff.mp H
 obtain ⟨⟨t504, t505⟩, A960, H⟩ := H
 replace H : ((spec_DrawRunsOf.f kj82 l1).bind fun t508 => ((impl_RunsOf.f kj82 t508).bind fun bt511 => ((spec_RunsOf.f kj82 t508).bind fun bt515 => (if (t501 != t505) = true then (laws_FnStreams.j8 kj82 t508 bt511.1 bt511.2 true) else ((laws_sameBools.f kj82 t500 t504).bind fun t519 => (if t519 = true then (if (bt511.2 != bt515.2) = true then (laws_FnStreams.j8 kj82 t508 bt511.1 bt511.2 true) else ((laws_sameInts.f kj82 bt511.1 bt515.1).bind fun t520 => (laws_FnStreams.j8 kj82 t508 bt511.1 bt511.2 (!t520)))) else (laws_FnStreams.j8 kj82 t508 bt511.1 bt511.2 true))))))) = some true := H
 have A96 := Aside0.mk A960
 clear A960
 replace H := Option.bind_eq_some_iff.mp H
 obtain ⟨t508, A970, H⟩ := H
 replace H : ((impl_RunsOf.f kj82 t508).bind fun bt511 => ((spec_RunsOf.f kj82 t508).bind fun bt515 => (if (t501 != t505) = true then (laws_FnStreams.j8 kj82 t508 bt511.1 bt511.2 true) else ((laws_sameBools.f kj82 t500 t504).bind fun t519 => (if t519 = true then (if (bt511.2 != bt515.2) = true then (laws_FnStreams.j8 kj82 t508 bt511.1 bt511.2 true) else ((laws_sameInts.f kj82 bt511.1 bt515.1).bind fun t520 => (laws_FnStreams.j8 kj82 t508 bt511.1 bt511.2 (!t520)))) else (laws_FnStreams.j8 kj82 t508 bt511.1 bt511.2 true)))))) = some true := H
 have A97 := Aside0.mk A970
 clear A970
 replace H := Option.bind_eq_some_iff.mp H
 obtain ⟨⟨t511, t512⟩, A980, H⟩ := H
 replace H : ((spec_RunsOf.f kj82 t508).bind fun bt515 => (if (t501 != t505) = true then (laws_FnStreams.j8 kj82 t508 t511 t512 true) else ((laws_sameBools.f kj82 t500 t504).bind fun t519 => (if t519 = true then (if (t512 != bt515.2) = true then (laws_FnStreams.j8 kj82 t508 t511 t512 true) else ((laws_sameInts.f kj82 t511 bt515.1).bind fun t520 => (laws_FnStreams.j8 kj82 t508 t511 t512 (!t520)))) else (laws_FnStreams.j8 kj82 t508 t511 t512 true))))) = some true := H
 have A98 := Aside0.mk A980
 clear A980
 replace H := Option.bind_eq_some_iff.mp H
 obtain ⟨⟨t515, t516⟩, A990, H⟩ := H
 replace H : (if (t501 != t505) = true then (laws_FnStreams.j8 kj82 t508 t511 t512 true) else ((laws_sameBools.f kj82 t500 t504).bind fun t519 => (if t519 = true then (if (t512 != t516) = true then (laws_FnStreams.j8 kj82 t508 t511 t512 true) else ((laws_sameInts.f kj82 t511 t515).bind fun t520 => (laws_FnStreams.j8 kj82 t508 t511 t512 (!t520)))) else (laws_FnStreams.j8 kj82 t508 t511 t512 true)))) = some true := H
 have A99 := Aside0.mk A990
 clear A990
 have HC100 := Aside0.mk H
 clear H
 go_upto_region 39 with (first | ((with_reducible refine gate_callee (f := 48) rfl ?_); refine goesL_ (some 221) rfl rfl Try.func48 (by kernel_rfl) rfl #[.slice A1 l1.length c1] rfl (by (try simp only [List.map_toArray, List.map_cons, List.map_nil]); first | done | rfl | (simp only [List.length_drop, List.length_take]; rfl)) ?_; (with_reducible refine (spec_DrawUnlikeBits.calls kj82 _ _ l1 t494 t495 _ ?side1 ?side2 A94.out).mono ?_); (case side1 => repeat (first | exact (Kd.C_below HR1.out HB.out) | (with_reducible refine Kd.C_alloc ?_ _) | (with_reducible refine Kd.C_drewN ?_ _) | (with_reducible refine Kd.C_drew ?_))); (case side2 => exact HC1.out); rintro e w101 ⟨v496, v498, rfl, ho0, ho1, hb⟩; refine ⟨_, rfl, ?_⟩; have HO497 := Aside0.mk (Kd.R_lower ho0 (below_size (hq HB))); have HO499 := Aside0.mk (Kd.R_lower ho1 (below_size (hq HB))); replace HB := cs (hq HB) hb; (try clear hb); (try clear hb2); (try clear hk); (try clear hi); (try clear ho0); (try clear ho1); obtain ⟨Ao102, co102, eo102⟩ := Kd.R_slice HO497.out; subst eo102; obtain ⟨Ao103, co103, eo103⟩ := Kd.R_slice HO499.out; subst eo103) | ((with_reducible refine gate_callee (f := 31) rfl ?_); refine goesL_ (some 227) rfl rfl Try.func31 (by kernel_rfl) rfl #[.slice Ao102 t494.length co102, .slice Ao103 t495.length co103] rfl (by (try simp only [List.map_toArray, List.map_cons, List.map_nil]); first | done | rfl | (simp only [List.length_drop, List.length_take]; rfl)) ?_; (with_reducible refine (impl_UnlikeBits.calls kj82 _ _ t494 _ _ t495 t500 t501 _ ?side1 ?side2 ?side3 ?side4 A95.out).mono ?_); (case side1 => repeat (first | exact (Kd.R_reads' HO497.out).2.2 | (with_reducible refine Kd.C_alloc ?_ _) | (with_reducible refine Kd.C_drewN ?_ _) | (with_reducible refine Kd.C_drew ?_))); (case side2 => exact (Kd.R_reads' HO497.out).2.1); (case side3 => repeat (first | exact (Kd.R_reads' HO499.out).2.2 | (with_reducible refine Kd.C_alloc ?_ _) | (with_reducible refine Kd.C_drewN ?_ _) | (with_reducible refine Kd.C_drew ?_))); (case side4 => exact (Kd.R_reads' HO499.out).2.1); rintro e w104 ⟨v502, rfl, ho0, hb⟩; refine ⟨_, rfl, ?_⟩; have n0_ := ce HO497 ho0 hb; have n1_ := ce HO499 ho0 hb; have HO503 := Aside0.mk (Kd.R_lower (Kd.R_new' (Kd.R_new' ho0 (ql HO497)) (ql HO499)) (below_size (hq HB))); replace HB := cs (hq HB) hb; replace HO497 := n0_; replace HO499 := n1_; clear n0_ n1_; (try clear hb); (try clear hb2); (try clear hk); (try clear hi); (try clear ho0)) | ((with_reducible refine gate_callee (f := 30) rfl ?_); refine goesL_ (some 233) rfl rfl Try.func30 (by kernel_rfl) rfl #[.slice Ao102 t494.length co102, .slice Ao103 t495.length co103] rfl (by (try simp only [List.map_toArray, List.map_cons, List.map_nil]); first | done | rfl | (simp only [List.length_drop, List.length_take]; rfl)) ?_; (with_reducible refine (spec_UnlikeBits.calls kj82 _ _ t494 _ _ t495 t504 t505 _ ?side1 ?side2 ?side3 ?side4 A96.out).mono ?_); (case side1 => repeat (first | exact (Kd.R_reads' HO497.out).2.2 | (with_reducible refine Kd.C_alloc ?_ _) | (with_reducible refine Kd.C_drewN ?_ _) | (with_reducible refine Kd.C_drew ?_))); (case side2 => exact (Kd.R_reads' HO497.out).2.1); (case side3 => repeat (first | exact (Kd.R_reads' HO499.out).2.2 | (with_reducible refine Kd.C_alloc ?_ _) | (with_reducible refine Kd.C_drewN ?_ _) | (with_reducible refine Kd.C_drew ?_))); (case side4 => exact (Kd.R_reads' HO499.out).2.1); rintro e w105 ⟨v506, rfl, ho0, hb⟩; refine ⟨_, rfl, ?_⟩; have n0_ := ce HO497 ho0 hb; have n1_ := ce HO499 ho0 hb; have n2_ := ce HO503 ho0 hb; have HO507 := Aside0.mk (Kd.R_lower (Kd.R_new' (Kd.R_new' (Kd.R_new' ho0 (ql HO497)) (ql HO499)) (ql HO503)) (below_size (hq HB))); replace HB := cs (hq HB) hb; replace HO497 := n0_; replace HO499 := n1_; replace HO503 := n2_; clear n0_ n1_ n2_; (try clear hb); (try clear hb2); (try clear hk); (try clear hi); (try clear ho0)) | ((with_reducible refine gate_callee (f := 49) rfl ?_); refine goesL_ (some 237) rfl rfl Try.func49 (by kernel_rfl) rfl #[.slice A1 l1.length c1] rfl (by (try simp only [List.map_toArray, List.map_cons, List.map_nil]); first | done | rfl | (simp only [List.length_drop, List.length_take]; rfl)) ?_; (with_reducible refine (spec_DrawRunsOf.calls kj82 _ _ l1 t508 _ ?side1 ?side2 A97.out).mono ?_); (case side1 => repeat (first | exact (Kd.C_below HR1.out HB.out) | (with_reducible refine Kd.C_alloc ?_ _) | (with_reducible refine Kd.C_drewN ?_ _) | (with_reducible refine Kd.C_drew ?_))); (case side2 => exact HC1.out); rintro e w106 ⟨v509, rfl, ho0, hb⟩; refine ⟨_, rfl, ?_⟩; have n0_ := ce HO497 ho0 hb; have n1_ := ce HO499 ho0 hb; have n2_ := ce HO503 ho0 hb; have n3_ := ce HO507 ho0 hb; have HO510 := Aside0.mk (Kd.R_lower (Kd.R_new' (Kd.R_new' (Kd.R_new' (Kd.R_new' ho0 (ql HO497)) (ql HO499)) (ql HO503)) (ql HO507)) (below_size (hq HB))); replace HB := cs (hq HB) hb; replace HO497 := n0_; replace HO499 := n1_; replace HO503 := n2_; replace HO507 := n3_; clear n0_ n1_ n2_ n3_; (try clear hb); (try clear hb2); (try clear hk); (try clear hi); (try clear ho0); obtain ⟨Ao107, co107, eo107⟩ := Kd.R_slice HO510.out; subst eo107) | ((with_reducible refine gate_callee (f := 39) rfl ?_); refine goesL_ (some 240) rfl rfl Try.func39 (by kernel_rfl) rfl #[.slice Ao107 t508.length co107] rfl (by (try simp only [List.map_toArray, List.map_cons, List.map_nil]); first | done | rfl | (simp only [List.length_drop, List.length_take]; rfl)) ?_; (with_reducible refine (impl_RunsOf.calls kj82 _ _ t508 t511 t512 _ ?side1 ?side2 A98.out).mono ?_); (case side1 => repeat (first | exact (Kd.R_reads' HO510.out).2.2 | (with_reducible refine Kd.C_alloc ?_ _) | (with_reducible refine Kd.C_drewN ?_ _) | (with_reducible refine Kd.C_drew ?_))); (case side2 => exact (Kd.R_reads' HO510.out).2.1); rintro e w108 ⟨v513, rfl, ho0, hb⟩; refine ⟨_, rfl, ?_⟩; replace HO497 := cb HO497 hb; replace HO499 := cb HO499 hb; replace HO503 := cb HO503 hb; replace HO507 := cb HO507 hb; replace HO510 := cb HO510 hb; have HO514 := Aside0.mk (Kd.R_lower ho0 (below_size (hq HB))); replace HB := cs (hq HB) hb; (try clear hb); (try clear hb2); (try clear hk); (try clear hi); (try clear ho0)) | ((with_reducible refine gate_callee (f := 38) rfl ?_); refine goesL_ (some 245) rfl rfl Try.func38 (by kernel_rfl) rfl #[.slice Ao107 t508.length co107] rfl (by (try simp only [List.map_toArray, List.map_cons, List.map_nil]); first | done | rfl | (simp only [List.length_drop, List.length_take]; rfl)) ?_; (with_reducible refine (spec_RunsOf.calls kj82 _ _ t508 t515 t516 _ ?side1 ?side2 A99.out).mono ?_); (case side1 => repeat (first | exact (Kd.R_reads' HO510.out).2.2 | (with_reducible refine Kd.C_alloc ?_ _) | (with_reducible refine Kd.C_drewN ?_ _) | (with_reducible refine Kd.C_drew ?_))); (case side2 => exact (Kd.R_reads' HO510.out).2.1); rintro e w109 ⟨v517, rfl, ho0, hb⟩; refine ⟨_, rfl, ?_⟩; replace HO497 := cb HO497 hb; replace HO499 := cb HO499 hb; replace HO503 := cb HO503 hb; replace HO507 := cb HO507 hb; replace HO510 := cb HO510 hb; have n5_ := ce HO514 ho0 hb; have HO518 := Aside0.mk (Kd.R_lower (Kd.R_new' ho0 (ql HO514)) (below_size (hq HB))); replace HB := cs (hq HB) hb; replace HO514 := n5_; clear n5_; (try clear hb); (try clear hb2); (try clear hk); (try clear hi); (try clear ho0)))
 (try simp only [Act.put, List.setIfInBounds_toArray, List.set_cons_zero, List.set_cons_succ])
 go_cut [267] from 219 to 267 (fun v267 wc => ∃ (kq : Nat) (x267_99 : Bool), v267 = .bool x267_99 ∧ Aside0 (laws_FnStreams.j8 kq t508 t511 t512 x267_99 = some true) ∧ Aside0 (kq ≤ kj82) ∧ Aside0 (Kd.R Kd.bool 4 wc w.heap.size (fun _ => True) (.slice Ao107 t508.length co107) t508) ∧ Aside0 (Kd.R (Kd.int .i64) 3 wc w.heap.size (fun _ => True) v513 t511) ∧ Aside0 (Below w.heap.size w wc))
 case first =>
   have H := HC100.out
   clear HC100
   by_cases c110 : (t501 != t505) = true
   · rw [if_pos c110] at H
     have c110b0 : (t501 != t505) = true := c110
     (try (have c110b1 : decide (t501 = t505) = false := by simpa using c110))
     (try (have c110b2 : (t501 == t505) = false := by simpa using c110))
     (try (have c110b3 : ¬ (t501 = t505) := by simpa using c110))
     clear c110
     (first | rw [c110b0] | (simp only [i64_w, i32_w]; rw [c110b0]) | skip)
     have H' := Aside0.mk H
     clear H
     go_wp2
     go_meet
     case rel => exact ⟨_, (true), (by first | rfl | (simp; done) | (simp [*]; done)), H', ⟨by have := HJ6.out; have := HJ17.out; have := HJ19.out; have := HJ32.out; have := HJ40.out; have := HJ42.out; have := HJ63.out; have := HJ82.out; first | omega | exact Nat.le_refl _⟩, ⟨by (with_reducible repeat (first | apply Kd.R_alloc | apply Kd.R_drewN | apply Kd.R_drew)); exact Kd.R_mono HO510.out (fun _ hk => trivial)⟩, ⟨by (with_reducible repeat (first | apply Kd.R_alloc | apply Kd.R_drewN | apply Kd.R_drew)); exact Kd.R_mono HO514.out (fun _ hk => trivial)⟩, ⟨hq HB⟩⟩
   rw [if_neg c110] at H
   have c110b0 : (t501 != t505) = false := by simpa using c110
   (try (have c110b1 : decide (t501 = t505) = true := by simpa using c110))
   (try (have c110b2 : (t501 == t505) = true := by simpa using c110))
   clear c110
   (first | rw [c110b0] | (simp only [i64_w, i32_w]; rw [c110b0]) | skip)
   replace H := Option.bind_eq_some_iff.mp H
   obtain ⟨t519, A1110, H⟩ := H
   replace H : (if t519 = true then (if (t512 != t516) = true then (laws_FnStreams.j8 kj82 t508 t511 t512 true) else ((laws_sameInts.f kj82 t511 t515).bind fun t520 => (laws_FnStreams.j8 kj82 t508 t511 t512 (!t520)))) else (laws_FnStreams.j8 kj82 t508 t511 t512 true)) = some true := H
   have A111 := Aside0.mk A1110
   clear A1110
   by_cases c112 : t519 = true
   rotate_left
   · replace c112 := Bool.eq_false_iff.mpr c112
     subst c112
     have H1 : (laws_FnStreams.j8 kj82 t508 t511 t512 true) = some true := by rw [if_neg (show ¬ (false = true) by decide)] at H; exact H
     clear H
     have H := H1
     clear H1
     have H' := Aside0.mk H
     clear H
     obtain ⟨Ao121, co121, eo121⟩ := Kd.R_slice HO503.out
     subst eo121
     obtain ⟨Ao122, co122, eo122⟩ := Kd.R_slice HO507.out
     subst eo122
     go_wp2_with (first | (go_at_call 44; (with_reducible refine (laws_sameBools.calls kj82 _ _ t500 _ _ t504 false _ ?side1 ?side2 ?side3 ?side4 A111.out).mono ?_); (case side1 => repeat (first | exact (Kd.R_reads' HO503.out).2.2 | (with_reducible refine Kd.C_alloc ?_ _) | (with_reducible refine Kd.C_drewN ?_ _) | (with_reducible refine Kd.C_drew ?_))); (case side2 => exact (Kd.R_reads' HO503.out).2.1); (case side3 => repeat (first | exact (Kd.R_reads' HO507.out).2.2 | (with_reducible refine Kd.C_alloc ?_ _) | (with_reducible refine Kd.C_drewN ?_ _) | (with_reducible refine Kd.C_drew ?_))); (case side4 => exact (Kd.R_reads' HO507.out).2.1); rintro e w' ⟨rfl, ⟨nd, rfl⟩⟩))
     go_meet
     case rel => exact ⟨_, (true), (by first | rfl | (simp; done) | (simp [*]; done)), H', ⟨by have := HJ6.out; have := HJ17.out; have := HJ19.out; have := HJ32.out; have := HJ40.out; have := HJ42.out; have := HJ63.out; have := HJ82.out; first | omega | exact Nat.le_refl _⟩, ⟨by (with_reducible repeat (first | apply Kd.R_alloc | apply Kd.R_drewN | apply Kd.R_drew)); exact Kd.R_mono HO510.out (fun _ hk => trivial)⟩, ⟨by (with_reducible repeat (first | apply Kd.R_alloc | apply Kd.R_drewN | apply Kd.R_drew)); exact Kd.R_mono HO514.out (fun _ hk => trivial)⟩, ⟨hq HB⟩⟩
   subst c112
   have H1 : (if (t512 != t516) = true then (laws_FnStreams.j8 kj82 t508 t511 t512 true) else ((laws_sameInts.f kj82 t511 t515).bind fun t520 => (laws_FnStreams.j8 kj82 t508 t511 t512 (!t520)))) = some true := by rw [if_pos rfl] at H; exact H
   clear H
   have H := H1
   clear H1
   by_cases c113 : (t512 != t516) = true
   · rw [if_pos c113] at H
     have c113b0 : (t512 != t516) = true := c113
     (try (have c113b1 : decide (t512 = t516) = false := by simpa using c113))
     (try (have c113b2 : (t512 == t516) = false := by simpa using c113))
     (try (have c113b3 : ¬ (t512 = t516) := by simpa using c113))
     clear c113
     have H' := Aside0.mk H
     clear H
     obtain ⟨Ao114, co114, eo114⟩ := Kd.R_slice HO503.out
     subst eo114
     obtain ⟨Ao115, co115, eo115⟩ := Kd.R_slice HO507.out
     subst eo115
     go_wp2_with (first | (go_at_call 44; (with_reducible refine (laws_sameBools.calls kj82 _ _ t500 _ _ t504 true _ ?side1 ?side2 ?side3 ?side4 A111.out).mono ?_); (case side1 => repeat (first | exact (Kd.R_reads' HO503.out).2.2 | (with_reducible refine Kd.C_alloc ?_ _) | (with_reducible refine Kd.C_drewN ?_ _) | (with_reducible refine Kd.C_drew ?_))); (case side2 => exact (Kd.R_reads' HO503.out).2.1); (case side3 => repeat (first | exact (Kd.R_reads' HO507.out).2.2 | (with_reducible refine Kd.C_alloc ?_ _) | (with_reducible refine Kd.C_drewN ?_ _) | (with_reducible refine Kd.C_drew ?_))); (case side4 => exact (Kd.R_reads' HO507.out).2.1); rintro e w' ⟨rfl, ⟨nd, rfl⟩⟩))
     go_meet
     case rel => exact ⟨_, (true), (by first | rfl | (simp; done) | (simp [*]; done)), H', ⟨by have := HJ6.out; have := HJ17.out; have := HJ19.out; have := HJ32.out; have := HJ40.out; have := HJ42.out; have := HJ63.out; have := HJ82.out; first | omega | exact Nat.le_refl _⟩, ⟨by (with_reducible repeat (first | apply Kd.R_alloc | apply Kd.R_drewN | apply Kd.R_drew)); exact Kd.R_mono HO510.out (fun _ hk => trivial)⟩, ⟨by (with_reducible repeat (first | apply Kd.R_alloc | apply Kd.R_drewN | apply Kd.R_drew)); exact Kd.R_mono HO514.out (fun _ hk => trivial)⟩, ⟨hq HB⟩⟩
   rw [if_neg c113] at H
   have c113b0 : (t512 != t516) = false := by simpa using c113
   (try (have c113b1 : decide (t512 = t516) = true := by simpa using c113))
   (try (have c113b2 : (t512 == t516) = true := by simpa using c113))
   clear c113
   replace H := Option.bind_eq_some_iff.mp H
   obtain ⟨t520, A1160, H⟩ := H
   replace H : (laws_FnStreams.j8 kj82 t508 t511 t512 (!t520)) = some true := H
   have A116 := Aside0.mk A1160
   clear A1160
   have H' := Aside0.mk H
   clear H
   obtain ⟨Ao117, co117, eo117⟩ := Kd.R_slice HO503.out
   subst eo117
   obtain ⟨Ao118, co118, eo118⟩ := Kd.R_slice HO507.out
   subst eo118
   go_wp2_with (first | (go_at_call 44; (with_reducible refine (laws_sameBools.calls kj82 _ _ t500 _ _ t504 true _ ?side1 ?side2 ?side3 ?side4 A111.out).mono ?_); (case side1 => repeat (first | exact (Kd.R_reads' HO503.out).2.2 | (with_reducible refine Kd.C_alloc ?_ _) | (with_reducible refine Kd.C_drewN ?_ _) | (with_reducible refine Kd.C_drew ?_))); (case side2 => exact (Kd.R_reads' HO503.out).2.1); (case side3 => repeat (first | exact (Kd.R_reads' HO507.out).2.2 | (with_reducible refine Kd.C_alloc ?_ _) | (with_reducible refine Kd.C_drewN ?_ _) | (with_reducible refine Kd.C_drew ?_))); (case side4 => exact (Kd.R_reads' HO507.out).2.1); rintro e w' ⟨rfl, ⟨nd, rfl⟩⟩; obtain ⟨Ao119, co119, eo119⟩ := Kd.R_slice HO514.out; subst eo119; obtain ⟨Ao120, co120, eo120⟩ := Kd.R_slice HO518.out; subst eo120) | (go_at_call 33; (with_reducible refine (laws_sameInts.calls kj82 _ _ t511 _ _ t515 t520 _ ?side1 ?side2 ?side3 ?side4 A116.out).mono ?_); (case side1 => repeat (first | exact (Kd.R_reads' HO514.out).2.2 | (with_reducible refine Kd.C_alloc ?_ _) | (with_reducible refine Kd.C_drewN ?_ _) | (with_reducible refine Kd.C_drew ?_))); (case side2 => exact (Kd.R_reads' HO514.out).2.1); (case side3 => repeat (first | exact (Kd.R_reads' HO518.out).2.2 | (with_reducible refine Kd.C_alloc ?_ _) | (with_reducible refine Kd.C_drewN ?_ _) | (with_reducible refine Kd.C_drew ?_))); (case side4 => exact (Kd.R_reads' HO518.out).2.1); rintro e w' ⟨rfl, ⟨nd, rfl⟩⟩))
   go_meet
   case rel => exact ⟨_, (!t520), (by first | rfl | (simp; done) | (simp [*]; done)), H', ⟨by have := HJ6.out; have := HJ17.out; have := HJ19.out; have := HJ32.out; have := HJ40.out; have := HJ42.out; have := HJ63.out; have := HJ82.out; first | omega | exact Nat.le_refl _⟩, ⟨by (with_reducible repeat (first | apply Kd.R_alloc | apply Kd.R_drewN | apply Kd.R_drew)); exact Kd.R_mono HO510.out (fun _ hk => trivial)⟩, ⟨by (with_reducible repeat (first | apply Kd.R_alloc | apply Kd.R_drewN | apply Kd.R_drew)); exact Kd.R_mono HO514.out (fun _ hk => trivial)⟩, ⟨hq HB⟩⟩
 clear HC100
 try clear c1
 try clear c2
 try clear p2
 try clear c3
 try clear c3b0
 try clear c4
 try clear c5
 try clear q5
 try clear p6
 try clear c7
 try clear c8
 try clear c11
 try clear c13
 try clear c13b0
 try clear c13b1
 try clear c13b2
 try clear c14
 try clear c16
 try clear c17
 try clear c19
 try clear c21
 try clear c22
 try clear c23
 try clear c24
 try clear c25
 try clear c25b0
 try clear c25b1
 try clear c30
 try clear c31
 try clear c34
 try clear c35
 try clear c38
 try clear c39
 try clear c39b0
 try clear c39b1
 try clear c39b2
 try clear c40
 try clear c41
 try clear c42
 try clear c43
 try clear c44
 try clear c45
 try clear c46
 try clear c47
 try clear c47b0
 try clear c47b1
 try clear c48
 try clear c48b0
 try clear c48b1
 try clear c49
 try clear c50
 try clear c52
 try clear q52
 try clear c55
 try clear q55
 try clear p64
 try clear c72
 try clear c72b0
 try clear c72b1
 try clear c72b2
 try clear c74
 try clear c75
 try clear c75b0
 try clear c75b1
 try clear c75b2
 try clear c82
 try clear c84
 try clear c86
 try clear c87
 try clear c87b0
 try clear c87b1
 try clear c110
 try clear c110b0
 try clear c110b1
 try clear c110b2
 try clear c112
 try clear c113
 try clear c113b0
 try clear c113b1
 try clear c113b2
 try clear p2
 try clear p6
 try clear p64
 try clear q052
 try clear q055
 try clear q5
 try clear q52
 try clear q55
 obtain ⟨kq, x267_99, rfl, HA, HJ99, HO_40, HO_41, HB⟩ := hcut
 obtain _ | kj99 := kq
 · exact absurd HA.out (by simp [laws_FnStreams.j8])
 have H := HA.out
 clear HA
 simp only [laws_FnStreams.j8] at H
 by_cases c123 : x267_99 = true
 · subst c123
   have H1 : (some false) = some true := by rw [if_pos rfl] at H; exact H
   clear H
   have H := H1
   clear H1
   cases H
 replace c123 := Bool.eq_false_iff.mpr c123
 subst c123
 have H1 : (if t512 = true then (laws_FnStreams.l0 kj99 t508 0 t511 (t511.length : Int) 0) else (some true)) = some true := by rw [if_neg (show ¬ (false = true) by decide)] at H; exact H
 clear H
 have H := H1
 clear H1
 by_cases c124 : t512 = true
 rotate_left
 · replace c124 := Bool.eq_false_iff.mpr c124
   subst c124
   have H1 : (some true : Option Bool) = some true := rfl
   clear H
   have H := H1
   clear H1
   clear H
   go_wp2
   go_ret
   exact ⟨by first | rfl | (simp [errW_none, errW_some] <;> rfl) | (simp [*, errW_none, errW_some] <;> rfl), hq HB⟩

 subst c124
 have H1 : (laws_FnStreams.l0 kj99 t508 0 t511 (t511.length : Int) 0) = some true := by rw [if_pos rfl] at H; exact H
 clear H
 have H := H1
 clear H1
 have H' := Aside0.mk H
 clear H
 obtain ⟨Ao125, co125, eo125⟩ := Kd.R_slice HO_41.out
 subst eo125
 go_wp2
 go_loopg [45, 271] kj99 (fun kq v45 v271 w' => ∃ (x45_10 : Int) (x271_10 : Int), v45 = .int .i64 x45_10 ∧ v271 = .int .i64 x271_10 ∧ Aside0 (laws_FnStreams.l0 kq t508 x45_10 t511 (t511.length : Int) x271_10 = some true) ∧ Aside0 (kq ≤ kj99) ∧ Aside0 (Kd.R Kd.bool 4 w' w.heap.size (fun _ => True) (.slice Ao107 t508.length co107) t508) ∧ Aside0 (Kd.R (Kd.int .i64) 3 w' w.heap.size (fun _ => True) (.slice Ao125 t511.length co125) t511) ∧ Aside0 (Below w.heap.size w w'))
 case atStart => exact ⟨(0), (0), (by first | rfl | (simp; done) | (simp [*]; done)), (by first | rfl | (simp; done) | (simp [*]; done)), H', ⟨Nat.le_refl _⟩, ⟨by (with_reducible repeat (first | apply Kd.R_alloc | apply Kd.R_drewN | apply Kd.R_drew)); exact HO_40.out⟩, ⟨by (with_reducible repeat (first | apply Kd.R_alloc | apply Kd.R_drewN | apply Kd.R_drew)); exact HO_41.out⟩, ⟨hq HB⟩⟩
 case round =>
   clear H'
   try clear c1
   try clear c2
   try clear p2
   try clear c3
   try clear c3b0
   try clear c4
   try clear c5
   try clear q5
   try clear p6
   try clear c7
   try clear c8
   try clear c11
   try clear c12
   try clear c13
   try clear c13b0
   try clear c13b1
   try clear c13b2
   try clear c14
   try clear c16
   try clear c17
   try clear c19
   try clear c21
   try clear c22
   try clear c23
   try clear c24
   try clear c25
   try clear c25b0
   try clear c25b1
   try clear c30
   try clear c31
   try clear c34
   try clear c35
   try clear c38
   try clear c39
   try clear c39b0
   try clear c39b1
   try clear c39b2
   try clear c40
   try clear c41
   try clear c42
   try clear c43
   try clear c44
   try clear c45
   try clear c46
   try clear c47
   try clear c47b0
   try clear c47b1
   try clear c48
   try clear c48b0
   try clear c48b1
   try clear c49
   try clear c50
   try clear c52
   try clear q52
   try clear c55
   try clear q55
   try clear p64
   try clear c72
   try clear c72b0
   try clear c72b1
   try clear c72b2
   try clear c74
   try clear c75
   try clear c75b0
   try clear c75b1
   try clear c75b2
   try clear c82
   try clear c84
   try clear c86
   try clear c87
   try clear c87b0
   try clear c87b1
   try clear c110
   try clear c110b0
   try clear c110b1
   try clear c110b2
   try clear c112
   try clear c113
   try clear c113b0
   try clear c113b1
   try clear c113b2
   try clear c123
   try clear c124
   try clear p2
   try clear p6
   try clear p64
   try clear q052
   try clear q055
   try clear q5
   try clear q52
   try clear q55
   obtain ⟨x45_10, x271_10, rfl, rfl, HA, HK10, HO_40, HO_269, HB⟩ := hrel
   cases gk with
   | zero => exact absurd HA.out (by simp [laws_FnStreams.l0])
   | succ k10 =>
     have H := HA.out
     clear HA
     simp only [laws_FnStreams.l0] at H
     by_cases c126 : x271_10 < (t511.length : Int)
     · rw [if_pos c126] at H
       have c126b0 : decide (x271_10 < (t511.length : Int)) = true := decide_eq_true c126
       clear c126
       by_cases c127 : 0 ≤ x271_10
       · rw [if_pos c127] at H
         have c127b0 : decide (0 ≤ x271_10) = true := decide_eq_true c127
         clear c127
         by_cases c128 : x271_10 < (t511.length : Int)
         · rw [if_pos c128] at H
           have c128b0 : decide (x271_10 < (t511.length : Int)) = true := decide_eq_true c128
           clear c128
           by_cases c129 : (rd t511 x271_10) < 1
           · rw [if_pos c129] at H
             have c129b0 : decide ((rd t511 x271_10) < 1) = true := decide_eq_true c129
             clear c129
             cases H
           · rw [if_neg c129] at H
             have c129b0 : decide ((rd t511 x271_10) < 1) = false := decide_eq_false c129
             clear c129
             have H' := Aside0.mk H
             clear H
             have p521 : 0 ≤ (x271_10 : Int) := of_decide_eq_true (by first | (with_reducible assumption) | assumption)
             have q521 : x271_10 < (t511.length : Int) := of_decide_eq_true (by first | (with_reducible assumption) | assumption)
             obtain ⟨ad521, e521, hx521_0⟩ := Kd.at_int (Kd.R_reads' HO_269.out).2.2 x271_10 p521 q521
             cases e521
             replace p521 := eq_true p521
             replace q521 := eq_true q521
             go_wp2
             go_roundg k10
             case measure => have := HJ6.out; have := HJ17.out; have := HJ19.out; have := HJ32.out; have := HJ40.out; have := HJ42.out; have := HJ63.out; have := HJ82.out; have := HJ99.out; have := HK10.out; omega
             case rel => exact ⟨(wrap64 (x45_10 + (rd t511 x271_10))), (wrap64 (x271_10 + 1)), (by first | rfl | (simp; done) | (simp [*]; done)), (by first | rfl | (simp; done) | (simp [*]; done)), H', ⟨by have := HJ6.out; have := HJ17.out; have := HJ19.out; have := HJ32.out; have := HJ40.out; have := HJ42.out; have := HJ63.out; have := HJ82.out; have := HJ99.out; have := HK10.out; omega⟩, ⟨by (with_reducible repeat (first | apply Kd.R_alloc | apply Kd.R_drewN | apply Kd.R_drew)); exact HO_40.out⟩, ⟨by (with_reducible repeat (first | apply Kd.R_alloc | apply Kd.R_drewN | apply Kd.R_drew)); exact HO_269.out⟩, ⟨hq HB⟩⟩
         · rw [if_neg c128] at H
           exact absurd H (by simp)
       · rw [if_neg c127] at H
         exact absurd H (by simp)
     · rw [if_neg c126] at H
       have c126b0 : decide (x271_10 < (t511.length : Int)) = false := decide_eq_false c126
       clear c126
       have Hr_ := Option.some.inj H
       clear H
       go_wp2
       go_ret
       exact ⟨by first | rfl | (simp [errW_none, errW_some] <;> rfl) | (simp [*, errW_none, errW_some] <;> rfl), hq HB⟩
/-- THE ONE PURE STATEMENT of laws_FnStreams: yours. -/
def laws_FnStreams.Pure : Prop := ∀ (l0 : List Int) (l1 : List Int), l0.length ≤ maxLen → l0.length * 1 ≤ 140737488351232 → (∀ x ∈ l0, (Lit.int .u8 x).wf = true) → l1.length ≤ maxLen → l1.length * 1 ≤ 140737488351232 → (∀ x ∈ l1, (Lit.int .u8 x).wf = true) → ∃ k, laws_FnStreams.f k l0 l1 = some true
theorem laws_FnStreams.walk (P : laws_FnStreams.Pure) (a0 : Option Addr) (len0 cap0 : Nat) (z0 : List Int) (a1 : Option Addr) (len1 cap1 : Nat) (z1 : List Int) (w : World) (w0 : (a0 = none ∧ len0 = 0 ∧ cap0 = 0 ∧ z0 = []) ∨ ∃ x, a0 = some x ∧ len0 ≤ cap0 ∧ cap0 ≤ maxLen ∧ z0.length = cap0 ∧ (∀ i, i < z0.length → w.cell? (x.add i) = some (.int .u8 (z0.getD i 0))) ∧ ∀ n ∈ z0, (Lit.int .u8 n).wf = true) (y0 : len0 * 1 ≤ 140737488351232) (w1 : (a1 = none ∧ len1 = 0 ∧ cap1 = 0 ∧ z1 = []) ∨ ∃ x, a1 = some x ∧ len1 ≤ cap1 ∧ cap1 ≤ maxLen ∧ z1.length = cap1 ∧ (∀ i, i < z1.length → w.cell? (x.add i) = some (.int .u8 (z1.getD i 0))) ∧ ∀ n ∈ z1, (Lit.int .u8 n).wf = true) (y1 : len1 * 1 ≤ 140737488351232) :
    Calls Try.prog 13 #[.slice a0 len0 cap0, .slice a1 len1 cap1] w fun e w' => e = .returned (.bool true) ∧ Below w.heap.size w w' := by
  obtain ⟨l0, rfl, hr0, hm0, hw0, hc0⟩ := ReadsInt.ofRowC w0
  obtain ⟨l1, rfl, hr1, hm1, hw1, hc1⟩ := ReadsInt.ofRowC w1
  obtain ⟨k, h⟩ := P l0 l1 hm0 y0 hw0 hm1 y1 hw1
  refine (laws_FnStreams.calls k _ _ l0 _ _ l1 true w (Kd.C_of_reads (d := (0 : Int)) (h1 := fun _ => rfl) hr0) hc0 (Kd.C_of_reads (d := (0 : Int)) (h1 := fun _ => rfl) hr1) hc1 h).mono ?_
  rintro e w' ⟨rfl, hd⟩
  exact ⟨rfl, hd⟩

end Go.Proofs.Yticchbgbbnpgoaa.QFnStreams
