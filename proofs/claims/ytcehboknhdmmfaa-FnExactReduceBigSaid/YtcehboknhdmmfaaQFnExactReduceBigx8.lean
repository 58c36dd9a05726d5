import Derived.Test.YtcehboknhdmmfaaSqueeze
import Derived.Test.YtcehboknhdmmfaaQFnExactReduceBigx0
import Derived.Test.YtcehboknhdmmfaaQFnExactReduceBigx1
import Derived.Test.YtcehboknhdmmfaaQFnExactReduceBigx4
import Derived.Test.YtcehboknhdmmfaaQFnExactReduceBigx7
namespace Go.Proofs.Ytcehboknhdmmfaa.QFnExactReduceBig
open Go.RowKit Go.Proofs.YtcehboknhdmmfaaW.PrintWords Go.Proofs.YtcehboknhdmmfaaW.PrintLast Go.Proofs.YtcehboknhdmmfaaW.PrintMore
attribute [local go_sem] max2_int min2_int max_two min_two max_three min_three max_four min_four   -- for this text's walks alone
set_option linter.unusedVariables false
set_option linter.unusedSimpArgs false

/-! ### laws_FnExactReduceBig: function 14 -/
mutual
def laws_FnExactReduceBig.j0 : Nat → Bool → Bool → Bool → List Int → List Int → List Int → List Int → List Int → List Int → Option (Bool)
  | 0, _, _, _, _, _, _, _, _, _ => none
  | k + 1, x7, x11, x53, x295000, x296000, x309000, x313000, x317000, x322000 => if x53 = true then (some false) else ((laws_toBig.f k x295000).bind fun t323 => ((laws_eqBig.f k x313000 t323).bind fun t326 => (if t326 = true then ((laws_toBig.f k x296000).bind fun t327 => ((laws_eqBig.f k x317000 t327).bind fun t330 => (if t330 = true then ((laws_markBig.f k x313000 1).bind fun bt331 => ((laws_markBig.f k x317000 bt331.1).bind fun bt333 => (if bt333.1 < 0 then (laws_FnExactReduceBig.j1 k x7 true x295000 x296000 x309000 x322000) else ((laws_eqBig.f k x322000 x309000).bind fun t335 => (if t335 = true then (laws_FnExactReduceBig.j1 k x7 (x11 != x7) x295000 x296000 x309000 x322000) else (laws_FnExactReduceBig.j1 k x7 true x295000 x296000 x309000 x322000)))))) else (some false)))) else (some false))))
def laws_FnExactReduceBig.j1 : Nat → Bool → Bool → List Int → List Int → List Int → List Int → Option (Bool)
  | 0, _, _, _, _, _, _ => none
  | k + 1, x7, x82, x295000, x296000, x309000, x322000 => if x82 = true then (some false) else ((laws_markBig.f k x322000 1).bind fun bt336 => ((laws_heldBig.f k bt336.2 1).bind fun t338 => (if t338 < 0 then (some false) else (if t338 = bt336.1 then ((laws_toBig.f k x295000).bind fun t339 => ((laws_toBig.f k x296000).bind fun t342 => ((impl_ReduceBig.f k t339 t342).bind fun bt345 => ((laws_eqBig.f k bt345.1 x309000).bind fun t350 => (if t350 = true then (laws_FnExactReduceBig.j2 k bt336.1 (bt345.2 != x7) bt336.2) else (laws_FnExactReduceBig.j2 k bt336.1 true bt336.2)))))) else (some false)))))
def laws_FnExactReduceBig.j2 : Nat → Int → Bool → List Int → Option (Bool)
  | 0, _, _, _ => none
  | k + 1, x13, x110, x322000 => if x110 = true then (some false) else ((laws_heldBig.f k x322000 1).bind fun t351 => (if t351 < 0 then (some false) else (if t351 = x13 then (some true) else (some false))))
end
def laws_FnExactReduceBig.f (k : Nat) (l0_0 : List Int) (l1_0 : List Int) : Option (Bool) := (laws_szBig.f l0_0 1048576).bind fun t296 => (if t296 < 0 then (some true) else ((laws_szBig.f l1_0 t296).bind fun t297 => (if t297 < 0 then (some true) else ((laws_toBig.f k l0_0).bind fun t298 => ((laws_toBig.f k l1_0).bind fun t301 => ((spec_ReduceBig.f k t298 t301).bind fun bt304 => ((laws_toBig.f k l0_0).bind fun t309 => ((laws_toBig.f k l1_0).bind fun t313 => ((impl_ReduceBig.f k t309 t313).bind fun bt317 => ((laws_eqBig.f k bt317.1 bt304.1).bind fun t322 => (if t322 = true then (laws_FnExactReduceBig.j0 k bt304.2 bt317.2 (bt317.2 != bt304.2) l0_0 l1_0 bt304.1 t309 t313 bt317.1) else (laws_FnExactReduceBig.j0 k bt304.2 bt317.2 true l0_0 l1_0 bt304.1 t309 t313 bt317.1))))))))))))
def laws_FnExactReduceBig.T8 : Bool × List (List Nat × List Nat) := (true, [([], []), ([0], [0]), ([], []), ([2, 1], [2]), ([1, 3, 3], [1, 3]), ([4], [4]), ([5], [5]), ([5], [5]), ([], []), ([8, 6, 4, 0, 1, 2, 3, 4, 5, 6, 8], [6, 8]), ([7, 9, 0, 1, 2, 3, 4, 5, 6, 7, 8, 9], [7])])
def laws_FnExactReduceBig.B8 : List Nat := [0, 1, 0, 7, 15, 31, 63, 63, 0, 383, 1023]
theorem laws_FnExactReduceBig.tab8 : rtab .any (opsOf Try.f14 8) = laws_FnExactReduceBig.T8 := by kernel_rfl
theorem laws_FnExactReduceBig.bits8 : waitsOk laws_FnExactReduceBig.T8.2 laws_FnExactReduceBig.B8 = true := by kernel_rfl
def laws_FnExactReduceBig.T31 : Bool × List (List Nat × List Nat) := (true, [([], []), ([0], [0]), ([], []), ([2, 1], [2]), ([1, 3, 3], [1, 3]), ([4], [4]), ([5], [5]), ([5], [5]), ([], []), ([8, 6, 4, 0, 1, 2, 3, 4, 5, 6, 8], [6, 8]), ([7, 9, 0, 1, 2, 3, 4, 5, 6, 7, 8, 9], [7])])
def laws_FnExactReduceBig.B31 : List Nat := [0, 1, 0, 7, 15, 31, 63, 63, 0, 383, 1023]
theorem laws_FnExactReduceBig.tab31 : rtab .any (opsOf Try.f14 31) = laws_FnExactReduceBig.T31 := by kernel_rfl
theorem laws_FnExactReduceBig.bits31 : waitsOk laws_FnExactReduceBig.T31.2 laws_FnExactReduceBig.B31 = true := by kernel_rfl
set_option maxHeartbeats 8000000 in
set_option maxRecDepth 100000 in
theorem laws_FnExactReduceBig.calls (k : Nat) (A0_0 : Option Addr) (c0_0 : Nat) (l0_0 : List Int) (A1_0 : Option Addr) (c1_0 : Nat) (l1_0 : List Int) (_r : Bool) (w : World) (hr0_0 : Kd.C (Kd.int .i64) w A0_0 l0_0.length l0_0) (hc0_0 : l0_0.length ≤ c0_0) (hr1_0 : Kd.C (Kd.int .i64) w A1_0 l1_0.length l1_0) (hc1_0 : l1_0.length ≤ c1_0) (h : laws_FnExactReduceBig.f k l0_0 l1_0 = some true) :
    Calls Try.prog 14 #[.agg #[.slice A0_0 l0_0.length c0_0], .agg #[.slice A1_0 l1_0.length c1_0]] w fun e w' => e = .returned (.bool true) ∧ Below w.heap.size w w' := by
 have hu24 := Try.underlying24
 have hu27 := Try.underlying27
 have HR0_0 := Aside0.mk hr0_0
 have HC0_0 := Aside0.mk hc0_0
 clear hr0_0 hc0_0
 have HR1_0 := Aside0.mk hr1_0
 have HC1_0 := Aside0.mk hc1_0
 clear hr1_0 hc1_0
 have HB := Aside0.mk (Below.refl w.heap.size w)
 have H : ((laws_szBig.f l0_0 1048576).bind fun t296 => (if t296 < 0 then (some true) else ((laws_szBig.f l1_0 t296).bind fun t297 => (if t297 < 0 then (some true) else ((laws_toBig.f k l0_0).bind fun t298 => ((laws_toBig.f k l1_0).bind fun t301 => ((spec_ReduceBig.f k t298 t301).bind fun bt304 => ((laws_toBig.f k l0_0).bind fun t309 => ((laws_toBig.f k l1_0).bind fun t313 => ((impl_ReduceBig.f k t309 t313).bind fun bt317 => ((laws_eqBig.f k bt317.1 bt304.1).bind fun t322 => (if t322 = true then (laws_FnExactReduceBig.j0 k bt304.2 bt317.2 (bt317.2 != bt304.2) l0_0 l1_0 bt304.1 t309 t313 bt317.1) else (laws_FnExactReduceBig.j0 k bt304.2 bt317.2 true l0_0 l1_0 bt304.1 t309 t313 bt317.1))))))))))))) = some true := h
 clear h
 replace H := Option.bind_eq_some_iff.mp H
 obtain ⟨t296, A30, H⟩ := H
 replace H : (if t296 < 0 then (some true) else ((laws_szBig.f l1_0 t296).bind fun t297 => (if t297 < 0 then (some true) else ((laws_toBig.f k l0_0).bind fun t298 => ((laws_toBig.f k l1_0).bind fun t301 => ((spec_ReduceBig.f k t298 t301).bind fun bt304 => ((laws_toBig.f k l0_0).bind fun t309 => ((laws_toBig.f k l1_0).bind fun t313 => ((impl_ReduceBig.f k t309 t313).bind fun bt317 => ((laws_eqBig.f k bt317.1 bt304.1).bind fun t322 => (if t322 = true then (laws_FnExactReduceBig.j0 k bt304.2 bt317.2 (bt317.2 != bt304.2) l0_0 l1_0 bt304.1 t309 t313 bt317.1) else (laws_FnExactReduceBig.j0 k bt304.2 bt317.2 true l0_0 l1_0 bt304.1 t309 t313 bt317.1)))))))))))) = some true := H
 have A3 := Aside0.mk A30
 clear A30
 by_cases c4 : t296 < 0
 · rw [if_pos c4] at H
   have c4b0 : decide (t296 < 0) = true := decide_eq_true c4
   clear c4
   clear H
   go_enter Try.func14, Try.ntmps14
   go_wp2_with (first | ((with_reducible refine gate_dst (N := 2) rfl ?_); refine box_event ?hg (N := 2) ?hd (cs := #[.slice A0_0 l0_0.length c0_0]) (t := 24) ?hr ?_; (case hd => rfl); (case hg => rfl); (case hr => first | (go_simp; done) | (go_simp; rfl)); intro gb294 hg w5 hbox hb; have n0_ := cs (hq HB) hb; have BK294 := Aside0.mk (hbox); have GW294 := cg hg (hq HB); have GE294 := cg hg (hq HB); replace HB := n0_; clear n0_; clear hb hbox hg) | ((with_reducible refine gate_dst (N := 3) rfl ?_); refine box_event ?hg (N := 3) ?hd (cs := #[.slice A1_0 l1_0.length c1_0]) (t := 24) ?hr ?_; (case hd => rfl); (case hg => rfl); (case hr => first | (go_simp; done) | (go_simp; rfl)); intro gb295 hg w6 hbox hb; have n0_ := cB BK294 hb; have n1_ := cs (hq1 HB GE294) hb; have BK295 := Aside0.mk (hbox); have GW295 := cg hg (hq1 HB GE294); have GE295 := cg hg (hq1 HB GE294); have NB294_295 := cl hg BK294; have NB295_294 := cr hg BK294; replace BK294 := n0_; replace HB := n1_; clear n0_ n1_; clear hb hbox hg; have hnb7 := NB294_295.out; have hnc7 := NB295_294.out; have hcz8_0 : w6.cell? ⟨gb294, 0, none⟩ = some (.slice A0_0 l0_0.length c0_0) := (blk_cell BK294.out 0).trans rfl; have hfz8_0 := blk_frozen BK294.out 0) | ((with_reducible refine gate_callee (f := 15) rfl ?_); refine goesL_ (some 19) rfl rfl Try.func15 (by kernel_rfl) rfl #[.agg #[.slice A0_0 l0_0.length c0_0], .int .i64 1048576] rfl (by (try simp only [List.map_toArray, List.map_cons, List.map_nil]); first | done | rfl | (simp only [List.length_drop, List.length_take]; rfl)) ?_; (with_reducible refine (laws_szBig.calls _ _ l0_0 1048576 t296 _ ?side1 ?side2 A3.out).mono ?_); (case side1 => repeat (first | exact (Kd.C_below HR0_0.out HB.out) | (with_reducible refine Kd.C_alloc ?_ _) | (with_reducible refine Kd.C_drewN ?_ _) | (with_reducible refine Kd.C_drew ?_))); (case side2 => exact HC0_0.out); rintro e w9 ⟨rfl, hb⟩; refine ⟨_, rfl, ?_⟩; replace BK294 := cB BK294 hb; replace BK295 := cB BK295 hb; replace HB := cs (hq2 HB GE294 GE295) hb; (try clear hb); (try clear hb2); (try clear hk); (try clear hi)))
   go_ret
   exact ⟨by first | rfl | (simp [errW_none, errW_some] <;> rfl) | (simp [*, errW_none, errW_some] <;> rfl), hq2 HB GE294 GE295⟩
 rw [if_neg c4] at H
 have c4b0 : decide (t296 < 0) = false := decide_eq_false c4
 clear c4
 replace H := Option.bind_eq_some_iff.mp H
 obtain ⟨t297, A100, H⟩ := H
 replace H : (if t297 < 0 then (some true) else ((laws_toBig.f k l0_0).bind fun t298 => ((laws_toBig.f k l1_0).bind fun t301 => ((spec_ReduceBig.f k t298 t301).bind fun bt304 => ((laws_toBig.f k l0_0).bind fun t309 => ((laws_toBig.f k l1_0).bind fun t313 => ((impl_ReduceBig.f k t309 t313).bind fun bt317 => ((laws_eqBig.f k bt317.1 bt304.1).bind fun t322 => (if t322 = true then (laws_FnExactReduceBig.j0 k bt304.2 bt317.2 (bt317.2 != bt304.2) l0_0 l1_0 bt304.1 t309 t313 bt317.1) else (laws_FnExactReduceBig.j0 k bt304.2 bt317.2 true l0_0 l1_0 bt304.1 t309 t313 bt317.1)))))))))) = some true := H
 have A10 := Aside0.mk A100
 clear A100
 by_cases c11 : t297 < 0
 · rw [if_pos c11] at H
   have c11b0 : decide (t297 < 0) = true := decide_eq_true c11
   clear c11
   clear H
   go_enter Try.func14, Try.ntmps14
   go_wp2_with (first | ((with_reducible refine gate_dst (N := 2) rfl ?_); refine box_event ?hg (N := 2) ?hd (cs := #[.slice A0_0 l0_0.length c0_0]) (t := 24) ?hr ?_; (case hd => rfl); (case hg => rfl); (case hr => first | (go_simp; done) | (go_simp; rfl)); intro gb294 hg w12 hbox hb; have n0_ := cs (hq HB) hb; have BK294 := Aside0.mk (hbox); have GW294 := cg hg (hq HB); have GE294 := cg hg (hq HB); replace HB := n0_; clear n0_; clear hb hbox hg) | ((with_reducible refine gate_dst (N := 3) rfl ?_); refine box_event ?hg (N := 3) ?hd (cs := #[.slice A1_0 l1_0.length c1_0]) (t := 24) ?hr ?_; (case hd => rfl); (case hg => rfl); (case hr => first | (go_simp; done) | (go_simp; rfl)); intro gb295 hg w13 hbox hb; have n0_ := cB BK294 hb; have n1_ := cs (hq1 HB GE294) hb; have BK295 := Aside0.mk (hbox); have GW295 := cg hg (hq1 HB GE294); have GE295 := cg hg (hq1 HB GE294); have NB294_295 := cl hg BK294; have NB295_294 := cr hg BK294; replace BK294 := n0_; replace HB := n1_; clear n0_ n1_; clear hb hbox hg; have hnb14 := NB294_295.out; have hnc14 := NB295_294.out; have hcz15_0 : w13.cell? ⟨gb294, 0, none⟩ = some (.slice A0_0 l0_0.length c0_0) := (blk_cell BK294.out 0).trans rfl; have hfz15_0 := blk_frozen BK294.out 0) | ((with_reducible refine gate_callee (f := 15) rfl ?_); refine goesL_ (some 19) rfl rfl Try.func15 (by kernel_rfl) rfl #[.agg #[.slice A0_0 l0_0.length c0_0], .int .i64 1048576] rfl (by (try simp only [List.map_toArray, List.map_cons, List.map_nil]); first | done | rfl | (simp only [List.length_drop, List.length_take]; rfl)) ?_; (with_reducible refine (laws_szBig.calls _ _ l0_0 1048576 t296 _ ?side1 ?side2 A3.out).mono ?_); (case side1 => repeat (first | exact (Kd.C_below HR0_0.out HB.out) | (with_reducible refine Kd.C_alloc ?_ _) | (with_reducible refine Kd.C_drewN ?_ _) | (with_reducible refine Kd.C_drew ?_))); (case side2 => exact HC0_0.out); rintro e w16 ⟨rfl, hb⟩; refine ⟨_, rfl, ?_⟩; replace BK294 := cB BK294 hb; replace BK295 := cB BK295 hb; replace HB := cs (hq2 HB GE294 GE295) hb; (try clear hb); (try clear hb2); (try clear hk); (try clear hi); have hcz17_0 : w16.cell? ⟨gb295, 0, none⟩ = some (.slice A1_0 l1_0.length c1_0) := (blk_cell BK295.out 0).trans rfl; have hfz17_0 := blk_frozen BK295.out 0) | ((with_reducible refine gate_callee (f := 15) rfl ?_); refine goesL_ (some 24) rfl rfl Try.func15 (by kernel_rfl) rfl #[.agg #[.slice A1_0 l1_0.length c1_0], .int .i64 t296] rfl (by (try simp only [List.map_toArray, List.map_cons, List.map_nil]); first | done | rfl | (simp only [List.length_drop, List.length_take]; rfl)) ?_; (with_reducible refine (laws_szBig.calls _ _ l1_0 t296 t297 _ ?side1 ?side2 A10.out).mono ?_); (case side1 => repeat (first | exact (Kd.C_below HR1_0.out HB.out) | (with_reducible refine Kd.C_alloc ?_ _) | (with_reducible refine Kd.C_drewN ?_ _) | (with_reducible refine Kd.C_drew ?_))); (case side2 => exact HC1_0.out); rintro e w18 ⟨rfl, hb⟩; refine ⟨_, rfl, ?_⟩; replace BK294 := cB BK294 hb; replace BK295 := cB BK295 hb; replace HB := cs (hq2 HB GE294 GE295) hb; (try clear hb); (try clear hb2); (try clear hk); (try clear hi)))
   go_ret
   exact ⟨by first | rfl | (simp [errW_none, errW_some] <;> rfl) | (simp [*, errW_none, errW_some] <;> rfl), hq2 HB GE294 GE295⟩
 rw [if_neg c11] at H
 have c11b0 : decide (t297 < 0) = false := decide_eq_false c11
 clear c11
 replace H := Option.bind_eq_some_iff.mp H
 obtain ⟨t298, A190, H⟩ := H
 replace H : ((laws_toBig.f k l1_0).bind fun t301 => ((spec_ReduceBig.f k t298 t301).bind fun bt304 => ((laws_toBig.f k l0_0).bind fun t309 => ((laws_toBig.f k l1_0).bind fun t313 => ((impl_ReduceBig.f k t309 t313).bind fun bt317 => ((laws_eqBig.f k bt317.1 bt304.1).bind fun t322 => (if t322 = true then (laws_FnExactReduceBig.j0 k bt304.2 bt317.2 (bt317.2 != bt304.2) l0_0 l1_0 bt304.1 t309 t313 bt317.1) else (laws_FnExactReduceBig.j0 k bt304.2 bt317.2 true l0_0 l1_0 bt304.1 t309 t313 bt317.1)))))))) = some true := H
 have A19 := Aside0.mk A190
 clear A190
 replace H := Option.bind_eq_some_iff.mp H
 obtain ⟨t301, A200, H⟩ := H
 replace H : ((spec_ReduceBig.f k t298 t301).bind fun bt304 => ((laws_toBig.f k l0_0).bind fun t309 => ((laws_toBig.f k l1_0).bind fun t313 => ((impl_ReduceBig.f k t309 t313).bind fun bt317 => ((laws_eqBig.f k bt317.1 bt304.1).bind fun t322 => (if t322 = true then (laws_FnExactReduceBig.j0 k bt304.2 bt317.2 (bt317.2 != bt304.2) l0_0 l1_0 bt304.1 t309 t313 bt317.1) else (laws_FnExactReduceBig.j0 k bt304.2 bt317.2 true l0_0 l1_0 bt304.1 t309 t313 bt317.1))))))) = some true := H
 have A20 := Aside0.mk A200
 clear A200
 replace H := Option.bind_eq_some_iff.mp H
 obtain ⟨⟨t304, t307⟩, A210, H⟩ := H
 replace H : ((laws_toBig.f k l0_0).bind fun t309 => ((laws_toBig.f k l1_0).bind fun t313 => ((impl_ReduceBig.f k t309 t313).bind fun bt317 => ((laws_eqBig.f k bt317.1 t304).bind fun t322 => (if t322 = true then (laws_FnExactReduceBig.j0 k t307 bt317.2 (bt317.2 != t307) l0_0 l1_0 t304 t309 t313 bt317.1) else (laws_FnExactReduceBig.j0 k t307 bt317.2 true l0_0 l1_0 t304 t309 t313 bt317.1)))))) = some true := H
 have A21 := Aside0.mk A210
 clear A210
 replace H := Option.bind_eq_some_iff.mp H
 obtain ⟨t309, A220, H⟩ := H
 replace H : ((laws_toBig.f k l1_0).bind fun t313 => ((impl_ReduceBig.f k t309 t313).bind fun bt317 => ((laws_eqBig.f k bt317.1 t304).bind fun t322 => (if t322 = true then (laws_FnExactReduceBig.j0 k t307 bt317.2 (bt317.2 != t307) l0_0 l1_0 t304 t309 t313 bt317.1) else (laws_FnExactReduceBig.j0 k t307 bt317.2 true l0_0 l1_0 t304 t309 t313 bt317.1))))) = some true := H
 have A22 := Aside0.mk A220
 clear A220
 replace H := Option.bind_eq_some_iff.mp H
 obtain ⟨t313, A230, H⟩ := H
 replace H : ((impl_ReduceBig.f k t309 t313).bind fun bt317 => ((laws_eqBig.f k bt317.1 t304).bind fun t322 => (if t322 = true then (laws_FnExactReduceBig.j0 k t307 bt317.2 (bt317.2 != t307) l0_0 l1_0 t304 t309 t313 bt317.1) else (laws_FnExactReduceBig.j0 k t307 bt317.2 true l0_0 l1_0 t304 t309 t313 bt317.1)))) = some true := H
 have A23 := Aside0.mk A230
 clear A230
 replace H := Option.bind_eq_some_iff.mp H
 obtain ⟨⟨t317, t320⟩, A240, H⟩ := H
 replace H : ((laws_eqBig.f k t317 t304).bind fun t322 => (if t322 = true then (laws_FnExactReduceBig.j0 k t307 t320 (t320 != t307) l0_0 l1_0 t304 t309 t313 t317) else (laws_FnExactReduceBig.j0 k t307 t320 true l0_0 l1_0 t304 t309 t313 t317))) = some true := H
 have A24 := Aside0.mk A240
 clear A240
 have HC25 := Aside0.mk H
 clear H
 go_enter Try.func14, Try.ntmps14
 try go_wp2_with (first | ((with_reducible refine gate_dst (N := 2) rfl ?_); refine box_event ?hg (N := 2) ?hd (cs := #[.slice A0_0 l0_0.length c0_0]) (t := 24) ?hr ?_; (case hd => rfl); (case hg => rfl); (case hr => first | (go_simp; done) | (go_simp; rfl)); intro gb294 hg w26 hbox hb; have n0_ := cs (hq HB) hb; have BK294 := Aside0.mk (hbox); have GW294 := cg hg (hq HB); have GE294 := cg hg (hq HB); replace HB := n0_; clear n0_; clear hb hbox hg) | ((with_reducible refine gate_dst (N := 3) rfl ?_); refine box_event ?hg (N := 3) ?hd (cs := #[.slice A1_0 l1_0.length c1_0]) (t := 24) ?hr ?_; (case hd => rfl); (case hg => rfl); (case hr => first | (go_simp; done) | (go_simp; rfl)); intro gb295 hg w27 hbox hb; have n0_ := cB BK294 hb; have n1_ := cs (hq1 HB GE294) hb; have BK295 := Aside0.mk (hbox); have GW295 := cg hg (hq1 HB GE294); have GE295 := cg hg (hq1 HB GE294); have NB294_295 := cl hg BK294; have NB295_294 := cr hg BK294; replace BK294 := n0_; replace HB := n1_; clear n0_ n1_; clear hb hbox hg; have hnb28 := NB294_295.out; have hnc28 := NB295_294.out; have hcz29_0 : w27.cell? ⟨gb294, 0, none⟩ = some (.slice A0_0 l0_0.length c0_0) := (blk_cell BK294.out 0).trans rfl; have hfz29_0 := blk_frozen BK294.out 0) | ((with_reducible refine gate_callee (f := 15) rfl ?_); refine goesL_ (some 19) rfl rfl Try.func15 (by kernel_rfl) rfl #[.agg #[.slice A0_0 l0_0.length c0_0], .int .i64 1048576] rfl (by (try simp only [List.map_toArray, List.map_cons, List.map_nil]); first | done | rfl | (simp only [List.length_drop, List.length_take]; rfl)) ?_; (with_reducible refine (laws_szBig.calls _ _ l0_0 1048576 t296 _ ?side1 ?side2 A3.out).mono ?_); (case side1 => repeat (first | exact (Kd.C_below HR0_0.out HB.out) | (with_reducible refine Kd.C_alloc ?_ _) | (with_reducible refine Kd.C_drewN ?_ _) | (with_reducible refine Kd.C_drew ?_))); (case side2 => exact HC0_0.out); rintro e w30 ⟨rfl, hb⟩; refine ⟨_, rfl, ?_⟩; replace BK294 := cB BK294 hb; replace BK295 := cB BK295 hb; replace HB := cs (hq2 HB GE294 GE295) hb; (try clear hb); (try clear hb2); (try clear hk); (try clear hi); have hcz31_0 : w30.cell? ⟨gb295, 0, none⟩ = some (.slice A1_0 l1_0.length c1_0) := (blk_cell BK295.out 0).trans rfl; have hfz31_0 := blk_frozen BK295.out 0) | ((with_reducible refine gate_callee (f := 15) rfl ?_); refine goesL_ (some 24) rfl rfl Try.func15 (by kernel_rfl) rfl #[.agg #[.slice A1_0 l1_0.length c1_0], .int .i64 t296] rfl (by (try simp only [List.map_toArray, List.map_cons, List.map_nil]); first | done | rfl | (simp only [List.length_drop, List.length_take]; rfl)) ?_; (with_reducible refine (laws_szBig.calls _ _ l1_0 t296 t297 _ ?side1 ?side2 A10.out).mono ?_); (case side1 => repeat (first | exact (Kd.C_below HR1_0.out HB.out) | (with_reducible refine Kd.C_alloc ?_ _) | (with_reducible refine Kd.C_drewN ?_ _) | (with_reducible refine Kd.C_drew ?_))); (case side2 => exact HC1_0.out); rintro e w32 ⟨rfl, hb⟩; refine ⟨_, rfl, ?_⟩; replace BK294 := cB BK294 hb; replace BK295 := cB BK295 hb; replace HB := cs (hq2 HB GE294 GE295) hb; (try clear hb); (try clear hb2); (try clear hk); (try clear hi)))
 replace BK294 := Aside0.mk (blk_drew BK294.out)
 replace BK295 := Aside0.mk (blk_drew BK295.out)
 replace HB := Aside0.mk (below_drew1 HB.out)
 refine start_ (n := 11) (S := fun w' => w'.cell? ⟨gb294, 0, none⟩ = some (.slice A0_0 l0_0.length c0_0) ∧ w'.cell? ⟨gb295, 0, none⟩ = some (.slice A1_0 l1_0.length c1_0)) (ds := []) #[false, false, false, false, false, false, false, false, false, false, false] (by kernel_rfl) rfl rfl ⟨(blk_cell BK294.out 0).trans rfl, (blk_cell BK295.out 0).trans rfl⟩ (fun hHeld => ?_); refine with_tabW laws_FnExactReduceBig.tab8 laws_FnExactReduceBig.bits8 (fun HT_ HW_ => ?_)
 generalize w32.drew = w33 at BK294 BK295 HB hHeld ⊢
 refine take_ (i := 0) (N := some 28) (v := ?_) (a' := ?_) #[true, false, false, false, false, false, false, false, false, false, false] rfl rfl (take_ofW HT_.out HW_.out (by kernel_rfl)) (fun _ _ _ h => h) (Or.inl ⟨by rfl, ?_⟩) hHeld ?_ ?_
 rotate_left
 · rintro w' ⟨s0, s1⟩
   go_simp
   with_reducible rfl
 rotate_left
 · simp only [Act.put, List.setIfInBounds_toArray, List.set_cons_zero, List.set_cons_succ, i64_w, i32_w]
   rfl
 refine take_ (i := 2) (N := some 30) (v := ?_) (a' := ?_) #[true, false, true, false, false, false, false, false, false, false, false] rfl rfl (take_ofW HT_.out HW_.out (by kernel_rfl)) (fun _ _ _ h => h) (Or.inl ⟨by rfl, ?_⟩) hHeld ?_ ?_
 rotate_left
 · rintro w' ⟨s0, s1⟩
   go_simp
   with_reducible rfl
 rotate_left
 · simp only [Act.put, List.setIfInBounds_toArray, List.set_cons_zero, List.set_cons_succ, i64_w, i32_w]
   rfl
 refine join_ (σ := Value × Value × Value × Nat) 2 #[true, true, true, true, true, true, true, true, true, false, false] (fun s_ => [(29, .agg #[s_.1]), (31, .agg #[s_.2.1]), (32, .tuple #[.agg #[s_.2.2.1], .bool t307]), (6, .pointer (some ⟨s_.2.2.2, 0, none⟩)), (27, .tuple #[.agg #[s_.2.2.1], .bool t307]), (33, .agg #[s_.2.2.1]), (34, .bool t307)]) (fun s_ w' => (w'.cell? ⟨gb294, 0, none⟩ = some (.slice A0_0 l0_0.length c0_0) ∧ w'.cell? ⟨gb295, 0, none⟩ = some (.slice A1_0 l1_0.length c1_0)) ∧ (Kd.R (Kd.int .i64) 3 w' w.heap.size (fun k_ => some k_ ≠ (s_.2.1 : Value).ownBlock ∧ some k_ ≠ (s_.2.2.1 : Value).ownBlock) s_.1 t298) ∧ (Kd.R (Kd.int .i64) 3 w' w.heap.size (fun k_ => some k_ ≠ (s_.1 : Value).ownBlock ∧ some k_ ≠ (s_.2.2.1 : Value).ownBlock) s_.2.1 t301) ∧ (Kd.R (Kd.int .i64) 3 w' w.heap.size (fun k_ => some k_ ≠ (s_.1 : Value).ownBlock ∧ some k_ ≠ (s_.2.1 : Value).ownBlock) s_.2.2.1 t304) ∧ (w'.heap[gb294]? = some (.cells #[.slice A0_0 l0_0.length c0_0] 24 (0, 0))) ∧ (w'.heap[gb295]? = some (.cells #[.slice A1_0 l1_0.length c1_0] 24 (0, 0))) ∧ (w'.heap[s_.2.2.2]? = some (.cells #[.slice none 0 0] 27 (0, 0))) ∧ (w.heap.size ≤ s_.2.2.2) ∧ (w.heap.size ≤ s_.2.2.2) ∧ (gb294 ≠ s_.2.2.2) ∧ (s_.2.2.2 ≠ gb294) ∧ (gb295 ≠ s_.2.2.2) ∧ (s_.2.2.2 ≠ gb295) ∧ (Below w.heap.size w w')) ?_ ?_
 rotate_left
 · intro hCont
   refine two_ (i := 1) (j := 8) (Ni := some 29) (Nj := some 6) #[true, true, true, false, false, false, false, false, false, false, false] #[true, false, true, false, false, false, false, false, true, false, false] rfl rfl rfl rfl (two_of HT_.out (by kernel_rfl)) (by decide) (by decide) (fun K hK => ?_) (fun K hK => ?_)
   · skip
     refine goes_ Try.func17 (by kernel_rfl) rfl #[.agg #[.slice A0_0 l0_0.length c0_0]] (by rfl) rfl rfl (by (try simp only [List.map_toArray, List.map_cons, List.map_nil]); first | done | rfl | (simp only [List.length_drop, List.length_take]; rfl)) ?_
     with_reducible refine (laws_toBig.calls k _ _ l0_0 t298 _ ?side1 ?side2 A19.out).mono ?_
     (case side1 => repeat (first | exact (Kd.C_below HR0_0.out HB.out) | (with_reducible refine Kd.C_alloc ?_ _) | (with_reducible refine Kd.C_drewN ?_ _) | (with_reducible refine Kd.C_drew ?_)))
     (case side2 => exact HC0_0.out)
     rintro e w34 ⟨v299, rfl, ho0, hb⟩
     refine ⟨_, rfl, ?_⟩
     have HO300 := Aside0.mk (Kd.R_lower ho0 (below_size (hq2 HB GE294 GE295)))
     replace BK294 := cB BK294 hb
     replace BK295 := cB BK295 hb
     replace HB := cs (hq2 HB GE294 GE295) hb
     (try clear hb)
     (try clear hb2)
     (try clear hk)
     (try clear hi)
     (try clear ho0)
     refine hK.out _ _ ⟨(blk_cell BK294.out 0).trans rfl, (blk_cell BK295.out 0).trans rfl⟩ (fun hHeld => ?_)
     clear hK K
     refine norm_ (a' := ?_) ?_ ?_
     rotate_left
     · show Act.put _ (some 29) _ = _
       simp only [Act.put, List.setIfInBounds_toArray, List.set_cons_zero, List.set_cons_succ, i64_w, i32_w]
       rfl
     refine two_ (i := 3) (j := 8) (Ni := some 31) (Nj := some 6) #[true, true, true, true, false, false, false, false, false, false, false] #[true, true, true, false, false, false, false, false, true, false, false] rfl rfl rfl rfl (two_of HT_.out (by kernel_rfl)) (by decide) (by decide) (fun K hK => ?_) (fun K hK => ?_)
     · skip
       refine goes_ Try.func17 (by kernel_rfl) rfl #[.agg #[.slice A1_0 l1_0.length c1_0]] (by rfl) rfl rfl (by (try simp only [List.map_toArray, List.map_cons, List.map_nil]); first | done | rfl | (simp only [List.length_drop, List.length_take]; rfl)) ?_
       with_reducible refine (laws_toBig.calls k _ _ l1_0 t301 _ ?side1 ?side2 A20.out).mono ?_
       (case side1 => repeat (first | exact (Kd.C_below HR1_0.out HB.out) | (with_reducible refine Kd.C_alloc ?_ _) | (with_reducible refine Kd.C_drewN ?_ _) | (with_reducible refine Kd.C_drew ?_)))
       (case side2 => exact HC1_0.out)
       rintro e w35 ⟨v302, rfl, ho0, hb⟩
       refine ⟨_, rfl, ?_⟩
       have n0_ := ce HO300 ho0 hb
       have HO303 := Aside0.mk (Kd.R_lower (Kd.R_new' ho0 (ql HO300)) (below_size (hq2 HB GE294 GE295)))
       replace BK294 := cB BK294 hb
       replace BK295 := cB BK295 hb
       replace HB := cs (hq2 HB GE294 GE295) hb
       replace HO300 := n0_
       clear n0_
       (try clear hb)
       (try clear hb2)
       (try clear hk)
       (try clear hi)
       (try clear ho0)
       obtain ⟨Ao36, co36, eo36⟩ := Kd.R_slice HO300.out
       (first | subst eo36 | (injection eo36 with f1_ f2_ f3_; have f4_ := f1_.symm; have f5_ := f3_.symm; clear f1_ f2_ f3_; subst f4_; subst f5_))
       obtain ⟨Ao37, co37, eo37⟩ := Kd.R_slice HO303.out
       (first | subst eo37 | (injection eo37 with f1_ f2_ f3_; have f4_ := f1_.symm; have f5_ := f3_.symm; clear f1_ f2_ f3_; subst f4_; subst f5_))
       refine hK.out _ _ ⟨(blk_cell BK294.out 0).trans rfl, (blk_cell BK295.out 0).trans rfl⟩ (fun hHeld => ?_)
       clear hK K
       refine norm_ (a' := ?_) ?_ ?_
       rotate_left
       · show Act.put _ (some 31) _ = _
         simp only [Act.put, List.setIfInBounds_toArray, List.set_cons_zero, List.set_cons_succ, i64_w, i32_w]
         rfl
       refine two_ (i := 4) (j := 8) (Ni := some 32) (Nj := some 6) #[true, true, true, true, true, false, false, false, false, false, false] #[true, true, true, true, false, false, false, false, true, false, false] rfl rfl rfl rfl (two_of HT_.out (by kernel_rfl)) (by decide) (by decide) (fun K hK => ?_) (fun K hK => ?_)
       · skip
         refine goes_ Try.func42 (by kernel_rfl) rfl #[.agg #[.slice Ao36 t298.length co36], .agg #[.slice Ao37 t301.length co37]] (by rfl) rfl rfl (by (try simp only [List.map_toArray, List.map_cons, List.map_nil]); first | done | rfl | (simp only [List.length_drop, List.length_take]; rfl)) ?_
         with_reducible refine (spec_ReduceBig.calls k _ _ t298 _ _ t301 t304 t307 _ ?side1 ?side2 ?side3 ?side4 A21.out).mono ?_
         (case side1 => repeat (first | exact (Kd.R_reads' HO300.out).2.2 | (with_reducible refine Kd.C_alloc ?_ _) | (with_reducible refine Kd.C_drewN ?_ _) | (with_reducible refine Kd.C_drew ?_)))
         (case side2 => exact (Kd.R_reads' HO300.out).2.1)
         (case side3 => repeat (first | exact (Kd.R_reads' HO303.out).2.2 | (with_reducible refine Kd.C_alloc ?_ _) | (with_reducible refine Kd.C_drewN ?_ _) | (with_reducible refine Kd.C_drew ?_)))
         (case side4 => exact (Kd.R_reads' HO303.out).2.1)
         rintro e w38 ⟨v305, rfl, ho0, hb⟩
         refine ⟨_, rfl, ?_⟩
         have n0_ := ce HO300 ho0 hb
         have n1_ := ce HO303 ho0 hb
         have HO306 := Aside0.mk (Kd.R_lower (Kd.R_new' (Kd.R_new' ho0 (ql HO300)) (ql HO303)) (below_size (hq2 HB GE294 GE295)))
         replace BK294 := cB BK294 hb
         replace BK295 := cB BK295 hb
         replace HB := cs (hq2 HB GE294 GE295) hb
         replace HO300 := n0_
         replace HO303 := n1_
         clear n0_ n1_
         (try clear hb)
         (try clear hb2)
         (try clear hk)
         (try clear hi)
         (try clear ho0)
         refine hK.out _ _ ⟨(blk_cell BK294.out 0).trans rfl, (blk_cell BK295.out 0).trans rfl⟩ (fun hHeld => ?_)
         clear hK K
         refine norm_ (a' := ?_) ?_ ?_
         rotate_left
         · show Act.put _ (some 32) _ = _
           simp only [Act.put, List.setIfInBounds_toArray, List.set_cons_zero, List.set_cons_succ, i64_w, i32_w]
           rfl
         refine pure_ (i := 5) (N := some 27) (v := ?_) (a' := ?_) #[true, true, true, true, true, true, false, false, false, false, false] rfl rfl (any_of HT_.out (by kernel_rfl)) (fun _ _ _ h => h) (Or.inl ⟨by rfl, ?_⟩) ?_ ?_
         rotate_left
         · intro w'
           first | (go_simp; with_reducible rfl) | (go_simp; unfold Instr.field; go_simp; rfl)
         rotate_left
         · simp only [Act.put, List.setIfInBounds_toArray, List.set_cons_zero, List.set_cons_succ, i64_w, i32_w]
           rfl
         refine pure_ (i := 6) (N := some 33) (v := ?_) (a' := ?_) #[true, true, true, true, true, true, true, false, false, false, false] rfl rfl (any_of HT_.out (by kernel_rfl)) (fun _ _ _ h => h) (Or.inl ⟨by rfl, ?_⟩) ?_ ?_
         rotate_left
         · intro w'
           first | (go_simp; with_reducible rfl) | (go_simp; unfold Instr.field; go_simp; rfl)
         rotate_left
         · simp only [Act.put, List.setIfInBounds_toArray, List.set_cons_zero, List.set_cons_succ, i64_w, i32_w]
           rfl
         refine pure_ (i := 7) (N := some 34) (v := ?_) (a' := ?_) #[true, true, true, true, true, true, true, true, false, false, false] rfl rfl (any_of HT_.out (by kernel_rfl)) (fun _ _ _ h => h) (Or.inl ⟨by rfl, ?_⟩) ?_ ?_
         rotate_left
         · intro w'
           first | (go_simp; with_reducible rfl) | (go_simp; unfold Instr.field; go_simp; rfl)
         rotate_left
         · simp only [Act.put, List.setIfInBounds_toArray, List.set_cons_zero, List.set_cons_succ, i64_w, i32_w]
           rfl
         refine one_ (i := 8) (N := some 6) #[true, true, true, true, true, true, true, true, true, false, false] rfl rfl (one_of HT_.out (by kernel_rfl)) (by decide) (fun K hK => ?_)
         refine box_step ?hg (N := 6) ?hd (cs := #[.slice none 0 0]) (t := 27) ?hr ?_; (case hd => rfl); (case hg => rfl); (case hr => first | (go_simp; done) | (go_simp; rfl))
         intro gb308 hg w39 hbox hb
         replace HO300 := cb HO300 hb
         replace HO303 := cb HO303 hb
         replace HO306 := cb HO306 hb
         have n3_ := cB BK294 hb
         have n4_ := cB BK295 hb
         have n5_ := cs (hq2 HB GE294 GE295) hb
         have BK308 := Aside0.mk (hbox)
         have GW308 := cg hg (hq2 HB GE294 GE295)
         have GE308 := cg hg (hq2 HB GE294 GE295)
         have NB294_308 := cl hg BK294
         have NB308_294 := cr hg BK294
         have NB295_308 := cl hg BK295
         have NB308_295 := cr hg BK295
         replace BK294 := n3_
         replace BK295 := n4_
         replace HB := n5_
         clear n3_ n4_ n5_
         clear hb hbox hg
         refine hK.out _ _ ⟨(blk_cell BK294.out 0).trans rfl, (blk_cell BK295.out 0).trans rfl⟩ (fun hHeld => ?_)
         clear hK K
         refine norm_ (a' := ?_) ?_ ?_
         rotate_left
         · show Act.put _ (some 6) _ = _
           simp only [Act.put, List.setIfInBounds_toArray, List.set_cons_zero, List.set_cons_succ, i64_w, i32_w]
           rfl
         exact norm_ (by simp only [putAll, Act.put, List.setIfInBounds_toArray, List.set_cons_zero, List.set_cons_succ]) (hCont (.slice Ao36 t298.length co36, .slice Ao37 t301.length co37, v305, gb308) _ ⟨hHeld, (by (with_reducible repeat (first | apply Kd.R_alloc | apply Kd.R_drewN | apply Kd.R_drew)); exact Kd.R_mono HO300.out (fun _ hk => ⟨hk.1.2, hk.2⟩)), (by (with_reducible repeat (first | apply Kd.R_alloc | apply Kd.R_drewN | apply Kd.R_drew)); exact Kd.R_mono HO303.out (fun _ hk => ⟨hk.1.2, hk.2⟩)), (by (with_reducible repeat (first | apply Kd.R_alloc | apply Kd.R_drewN | apply Kd.R_drew)); exact Kd.R_mono HO306.out (fun _ hk => ⟨hk.1.2, hk.2⟩)), (bq BK294), (bq BK295), (bq BK308), GW308.out, GE308.out, NB294_308.out, NB308_294.out, NB295_308.out, NB308_295.out, (hq3 HB GE294 GE295 GE308)⟩)
       skip
       refine box_step ?hg (N := 6) ?hd (cs := #[.slice none 0 0]) (t := 27) ?hr ?_; (case hd => rfl); (case hg => rfl); (case hr => first | (go_simp; done) | (go_simp; rfl))
       intro gb308 hg w36 hbox hb
       replace HO300 := cb HO300 hb
       replace HO303 := cb HO303 hb
       have n2_ := cB BK294 hb
       have n3_ := cB BK295 hb
       have n4_ := cs (hq2 HB GE294 GE295) hb
       have BK308 := Aside0.mk (hbox)
       have GW308 := cg hg (hq2 HB GE294 GE295)
       have GE308 := cg hg (hq2 HB GE294 GE295)
       have NB294_308 := cl hg BK294
       have NB308_294 := cr hg BK294
       have NB295_308 := cl hg BK295
       have NB308_295 := cr hg BK295
       replace BK294 := n2_
       replace BK295 := n3_
       replace HB := n4_
       clear n2_ n3_ n4_
       clear hb hbox hg
       obtain ⟨Ao37, co37, eo37⟩ := Kd.R_slice HO300.out
       (first | subst eo37 | (injection eo37 with f1_ f2_ f3_; have f4_ := f1_.symm; have f5_ := f3_.symm; clear f1_ f2_ f3_; subst f4_; subst f5_))
       obtain ⟨Ao38, co38, eo38⟩ := Kd.R_slice HO303.out
       (first | subst eo38 | (injection eo38 with f1_ f2_ f3_; have f4_ := f1_.symm; have f5_ := f3_.symm; clear f1_ f2_ f3_; subst f4_; subst f5_))
       refine hK.out _ _ ⟨(blk_cell BK294.out 0).trans rfl, (blk_cell BK295.out 0).trans rfl⟩ (fun hHeld => ?_)
       clear hK K
       refine norm_ (a' := ?_) ?_ ?_
       rotate_left
       · show Act.put _ (some 6) _ = _
         simp only [Act.put, List.setIfInBounds_toArray, List.set_cons_zero, List.set_cons_succ, i64_w, i32_w]
         rfl
       refine one_ (i := 4) (N := some 32) #[true, true, true, true, true, false, false, false, true, false, false] rfl rfl (one_of HT_.out (by kernel_rfl)) (by decide) (fun K hK => ?_)
       refine goes_ Try.func42 (by kernel_rfl) rfl #[.agg #[.slice Ao37 t298.length co37], .agg #[.slice Ao38 t301.length co38]] (by rfl) rfl rfl (by (try simp only [List.map_toArray, List.map_cons, List.map_nil]); first | done | rfl | (simp only [List.length_drop, List.length_take]; rfl)) ?_
       with_reducible refine (spec_ReduceBig.calls k _ _ t298 _ _ t301 t304 t307 _ ?side1 ?side2 ?side3 ?side4 A21.out).mono ?_
       (case side1 => repeat (first | exact (Kd.R_reads' HO300.out).2.2 | (with_reducible refine Kd.C_alloc ?_ _) | (with_reducible refine Kd.C_drewN ?_ _) | (with_reducible refine Kd.C_drew ?_)))
       (case side2 => exact (Kd.R_reads' HO300.out).2.1)
       (case side3 => repeat (first | exact (Kd.R_reads' HO303.out).2.2 | (with_reducible refine Kd.C_alloc ?_ _) | (with_reducible refine Kd.C_drewN ?_ _) | (with_reducible refine Kd.C_drew ?_)))
       (case side4 => exact (Kd.R_reads' HO303.out).2.1)
       rintro e w39 ⟨v305, rfl, ho0, hb⟩
       refine ⟨_, rfl, ?_⟩
       have n0_ := ce HO300 ho0 hb
       have n1_ := ce HO303 ho0 hb
       have HO306 := Aside0.mk (Kd.R_lower (Kd.R_new' (Kd.R_new' ho0 (ql HO300)) (ql HO303)) (below_size (hq3 HB GE294 GE295 GE308)))
       replace BK294 := cB BK294 hb
       replace BK295 := cB BK295 hb
       replace BK308 := cB BK308 hb
       replace HB := cs (hq3 HB GE294 GE295 GE308) hb
       replace HO300 := n0_
       replace HO303 := n1_
       clear n0_ n1_
       (try clear hb)
       (try clear hb2)
       (try clear hk)
       (try clear hi)
       (try clear ho0)
       refine hK.out _ _ ⟨(blk_cell BK294.out 0).trans rfl, (blk_cell BK295.out 0).trans rfl⟩ (fun hHeld => ?_)
       clear hK K
       refine norm_ (a' := ?_) ?_ ?_
       rotate_left
       · show Act.put _ (some 32) _ = _
         simp only [Act.put, List.setIfInBounds_toArray, List.set_cons_zero, List.set_cons_succ, i64_w, i32_w]
         rfl
       refine pure_ (i := 5) (N := some 27) (v := ?_) (a' := ?_) #[true, true, true, true, true, true, false, false, true, false, false] rfl rfl (any_of HT_.out (by kernel_rfl)) (fun _ _ _ h => h) (Or.inl ⟨by rfl, ?_⟩) ?_ ?_
       rotate_left
       · intro w'
         first | (go_simp; with_reducible rfl) | (go_simp; unfold Instr.field; go_simp; rfl)
       rotate_left
       · simp only [Act.put, List.setIfInBounds_toArray, List.set_cons_zero, List.set_cons_succ, i64_w, i32_w]
         rfl
       refine pure_ (i := 6) (N := some 33) (v := ?_) (a' := ?_) #[true, true, true, true, true, true, true, false, true, false, false] rfl rfl (any_of HT_.out (by kernel_rfl)) (fun _ _ _ h => h) (Or.inl ⟨by rfl, ?_⟩) ?_ ?_
       rotate_left
       · intro w'
         first | (go_simp; with_reducible rfl) | (go_simp; unfold Instr.field; go_simp; rfl)
       rotate_left
       · simp only [Act.put, List.setIfInBounds_toArray, List.set_cons_zero, List.set_cons_succ, i64_w, i32_w]
         rfl
       refine pure_ (i := 7) (N := some 34) (v := ?_) (a' := ?_) #[true, true, true, true, true, true, true, true, true, false, false] rfl rfl (any_of HT_.out (by kernel_rfl)) (fun _ _ _ h => h) (Or.inl ⟨by rfl, ?_⟩) ?_ ?_
       rotate_left
       · intro w'
         first | (go_simp; with_reducible rfl) | (go_simp; unfold Instr.field; go_simp; rfl)
       rotate_left
       · simp only [Act.put, List.setIfInBounds_toArray, List.set_cons_zero, List.set_cons_succ, i64_w, i32_w]
         rfl
       exact norm_ (by simp only [putAll, Act.put, List.setIfInBounds_toArray, List.set_cons_zero, List.set_cons_succ]) (hCont (.slice Ao37 t298.length co37, .slice Ao38 t301.length co38, v305, gb308) _ ⟨hHeld, (by (with_reducible repeat (first | apply Kd.R_alloc | apply Kd.R_drewN | apply Kd.R_drew)); exact Kd.R_mono HO300.out (fun _ hk => ⟨hk.1.2, hk.2⟩)), (by (with_reducible repeat (first | apply Kd.R_alloc | apply Kd.R_drewN | apply Kd.R_drew)); exact Kd.R_mono HO303.out (fun _ hk => ⟨hk.1.2, hk.2⟩)), (by (with_reducible repeat (first | apply Kd.R_alloc | apply Kd.R_drewN | apply Kd.R_drew)); exact Kd.R_mono HO306.out (fun _ hk => ⟨hk.1.2, hk.2⟩)), (bq BK294), (bq BK295), (bq BK308), GW308.out, GE308.out, NB294_308.out, NB308_294.out, NB295_308.out, NB308_295.out, (hq3 HB GE294 GE295 GE308)⟩)
     skip
     refine box_step ?hg (N := 6) ?hd (cs := #[.slice none 0 0]) (t := 27) ?hr ?_; (case hd => rfl); (case hg => rfl); (case hr => first | (go_simp; done) | (go_simp; rfl))
     intro gb308 hg w35 hbox hb
     replace HO300 := cb HO300 hb
     have n1_ := cB BK294 hb
     have n2_ := cB BK295 hb
     have n3_ := cs (hq2 HB GE294 GE295) hb
     have BK308 := Aside0.mk (hbox)
     have GW308 := cg hg (hq2 HB GE294 GE295)
     have GE308 := cg hg (hq2 HB GE294 GE295)
     have NB294_308 := cl hg BK294
     have NB308_294 := cr hg BK294
     have NB295_308 := cl hg BK295
     have NB308_295 := cr hg BK295
     replace BK294 := n1_
     replace BK295 := n2_
     replace HB := n3_
     clear n1_ n2_ n3_
     clear hb hbox hg
     refine hK.out _ _ ⟨(blk_cell BK294.out 0).trans rfl, (blk_cell BK295.out 0).trans rfl⟩ (fun hHeld => ?_)
     clear hK K
     refine norm_ (a' := ?_) ?_ ?_
     rotate_left
     · show Act.put _ (some 6) _ = _
       simp only [Act.put, List.setIfInBounds_toArray, List.set_cons_zero, List.set_cons_succ, i64_w, i32_w]
       rfl
     refine one_ (i := 3) (N := some 31) #[true, true, true, true, false, false, false, false, true, false, false] rfl rfl (one_of HT_.out (by kernel_rfl)) (by decide) (fun K hK => ?_)
     refine goes_ Try.func17 (by kernel_rfl) rfl #[.agg #[.slice A1_0 l1_0.length c1_0]] (by rfl) rfl rfl (by (try simp only [List.map_toArray, List.map_cons, List.map_nil]); first | done | rfl | (simp only [List.length_drop, List.length_take]; rfl)) ?_
     with_reducible refine (laws_toBig.calls k _ _ l1_0 t301 _ ?side1 ?side2 A20.out).mono ?_
     (case side1 => repeat (first | exact (Kd.C_below HR1_0.out HB.out) | (with_reducible refine Kd.C_alloc ?_ _) | (with_reducible refine Kd.C_drewN ?_ _) | (with_reducible refine Kd.C_drew ?_)))
     (case side2 => exact HC1_0.out)
     rintro e w36 ⟨v302, rfl, ho0, hb⟩
     refine ⟨_, rfl, ?_⟩
     have n0_ := ce HO300 ho0 hb
     have HO303 := Aside0.mk (Kd.R_lower (Kd.R_new' ho0 (ql HO300)) (below_size (hq3 HB GE294 GE295 GE308)))
     replace BK294 := cB BK294 hb
     replace BK295 := cB BK295 hb
     replace BK308 := cB BK308 hb
     replace HB := cs (hq3 HB GE294 GE295 GE308) hb
     replace HO300 := n0_
     clear n0_
     (try clear hb)
     (try clear hb2)
     (try clear hk)
     (try clear hi)
     (try clear ho0)
     obtain ⟨Ao37, co37, eo37⟩ := Kd.R_slice HO300.out
     (first | subst eo37 | (injection eo37 with f1_ f2_ f3_; have f4_ := f1_.symm; have f5_ := f3_.symm; clear f1_ f2_ f3_; subst f4_; subst f5_))
     obtain ⟨Ao38, co38, eo38⟩ := Kd.R_slice HO303.out
     (first | subst eo38 | (injection eo38 with f1_ f2_ f3_; have f4_ := f1_.symm; have f5_ := f3_.symm; clear f1_ f2_ f3_; subst f4_; subst f5_))
     refine hK.out _ _ ⟨(blk_cell BK294.out 0).trans rfl, (blk_cell BK295.out 0).trans rfl⟩ (fun hHeld => ?_)
     clear hK K
     refine norm_ (a' := ?_) ?_ ?_
     rotate_left
     · show Act.put _ (some 31) _ = _
       simp only [Act.put, List.setIfInBounds_toArray, List.set_cons_zero, List.set_cons_succ, i64_w, i32_w]
       rfl
     refine one_ (i := 4) (N := some 32) #[true, true, true, true, true, false, false, false, true, false, false] rfl rfl (one_of HT_.out (by kernel_rfl)) (by decide) (fun K hK => ?_)
     refine goes_ Try.func42 (by kernel_rfl) rfl #[.agg #[.slice Ao37 t298.length co37], .agg #[.slice Ao38 t301.length co38]] (by rfl) rfl rfl (by (try simp only [List.map_toArray, List.map_cons, List.map_nil]); first | done | rfl | (simp only [List.length_drop, List.length_take]; rfl)) ?_
     with_reducible refine (spec_ReduceBig.calls k _ _ t298 _ _ t301 t304 t307 _ ?side1 ?side2 ?side3 ?side4 A21.out).mono ?_
     (case side1 => repeat (first | exact (Kd.R_reads' HO300.out).2.2 | (with_reducible refine Kd.C_alloc ?_ _) | (with_reducible refine Kd.C_drewN ?_ _) | (with_reducible refine Kd.C_drew ?_)))
     (case side2 => exact (Kd.R_reads' HO300.out).2.1)
     (case side3 => repeat (first | exact (Kd.R_reads' HO303.out).2.2 | (with_reducible refine Kd.C_alloc ?_ _) | (with_reducible refine Kd.C_drewN ?_ _) | (with_reducible refine Kd.C_drew ?_)))
     (case side4 => exact (Kd.R_reads' HO303.out).2.1)
     rintro e w39 ⟨v305, rfl, ho0, hb⟩
     refine ⟨_, rfl, ?_⟩
     have n0_ := ce HO300 ho0 hb
     have n1_ := ce HO303 ho0 hb
     have HO306 := Aside0.mk (Kd.R_lower (Kd.R_new' (Kd.R_new' ho0 (ql HO300)) (ql HO303)) (below_size (hq3 HB GE294 GE295 GE308)))
     replace BK294 := cB BK294 hb
     replace BK295 := cB BK295 hb
     replace BK308 := cB BK308 hb
     replace HB := cs (hq3 HB GE294 GE295 GE308) hb
     replace HO300 := n0_
     replace HO303 := n1_
     clear n0_ n1_
     (try clear hb)
     (try clear hb2)
     (try clear hk)
     (try clear hi)
     (try clear ho0)
     refine hK.out _ _ ⟨(blk_cell BK294.out 0).trans rfl, (blk_cell BK295.out 0).trans rfl⟩ (fun hHeld => ?_)
     clear hK K
     refine norm_ (a' := ?_) ?_ ?_
     rotate_left
     · show Act.put _ (some 32) _ = _
       simp only [Act.put, List.setIfInBounds_toArray, List.set_cons_zero, List.set_cons_succ, i64_w, i32_w]
       rfl
     refine pure_ (i := 5) (N := some 27) (v := ?_) (a' := ?_) #[true, true, true, true, true, true, false, false, true, false, false] rfl rfl (any_of HT_.out (by kernel_rfl)) (fun _ _ _ h => h) (Or.inl ⟨by rfl, ?_⟩) ?_ ?_
     rotate_left
     · intro w'
       first | (go_simp; with_reducible rfl) | (go_simp; unfold Instr.field; go_simp; rfl)
     rotate_left
     · simp only [Act.put, List.setIfInBounds_toArray, List.set_cons_zero, List.set_cons_succ, i64_w, i32_w]
       rfl
     refine pure_ (i := 6) (N := some 33) (v := ?_) (a' := ?_) #[true, true, true, true, true, true, true, false, true, false, false] rfl rfl (any_of HT_.out (by kernel_rfl)) (fun _ _ _ h => h) (Or.inl ⟨by rfl, ?_⟩) ?_ ?_
     rotate_left
     · intro w'
       first | (go_simp; with_reducible rfl) | (go_simp; unfold Instr.field; go_simp; rfl)
     rotate_left
     · simp only [Act.put, List.setIfInBounds_toArray, List.set_cons_zero, List.set_cons_succ, i64_w, i32_w]
       rfl
     refine pure_ (i := 7) (N := some 34) (v := ?_) (a' := ?_) #[true, true, true, true, true, true, true, true, true, false, false] rfl rfl (any_of HT_.out (by kernel_rfl)) (fun _ _ _ h => h) (Or.inl ⟨by rfl, ?_⟩) ?_ ?_
     rotate_left
     · intro w'
       first | (go_simp; with_reducible rfl) | (go_simp; unfold Instr.field; go_simp; rfl)
     rotate_left
     · simp only [Act.put, List.setIfInBounds_toArray, List.set_cons_zero, List.set_cons_succ, i64_w, i32_w]
       rfl
     exact norm_ (by simp only [putAll, Act.put, List.setIfInBounds_toArray, List.set_cons_zero, List.set_cons_succ]) (hCont (.slice Ao37 t298.length co37, .slice Ao38 t301.length co38, v305, gb308) _ ⟨hHeld, (by (with_reducible repeat (first | apply Kd.R_alloc | apply Kd.R_drewN | apply Kd.R_drew)); exact Kd.R_mono HO300.out (fun _ hk => ⟨hk.1.2, hk.2⟩)), (by (with_reducible repeat (first | apply Kd.R_alloc | apply Kd.R_drewN | apply Kd.R_drew)); exact Kd.R_mono HO303.out (fun _ hk => ⟨hk.1.2, hk.2⟩)), (by (with_reducible repeat (first | apply Kd.R_alloc | apply Kd.R_drewN | apply Kd.R_drew)); exact Kd.R_mono HO306.out (fun _ hk => ⟨hk.1.2, hk.2⟩)), (bq BK294), (bq BK295), (bq BK308), GW308.out, GE308.out, NB294_308.out, NB308_294.out, NB295_308.out, NB308_295.out, (hq3 HB GE294 GE295 GE308)⟩)
   skip
   refine box_step ?hg (N := 6) ?hd (cs := #[.slice none 0 0]) (t := 27) ?hr ?_; (case hd => rfl); (case hg => rfl); (case hr => first | (go_simp; done) | (go_simp; rfl))
   intro gb308 hg w34 hbox hb
   have n0_ := cB BK294 hb
   have n1_ := cB BK295 hb
   have n2_ := cs (hq2 HB GE294 GE295) hb
   have BK308 := Aside0.mk (hbox)
   have GW308 := cg hg (hq2 HB GE294 GE295)
   have GE308 := cg hg (hq2 HB GE294 GE295)
   have NB294_308 := cl hg BK294
   have NB308_294 := cr hg BK294
   have NB295_308 := cl hg BK295
   have NB308_295 := cr hg BK295
   replace BK294 := n0_
   replace BK295 := n1_
   replace HB := n2_
   clear n0_ n1_ n2_
   clear hb hbox hg
   refine hK.out _ _ ⟨(blk_cell BK294.out 0).trans rfl, (blk_cell BK295.out 0).trans rfl⟩ (fun hHeld => ?_)
   clear hK K
   refine norm_ (a' := ?_) ?_ ?_
   rotate_left
   · show Act.put _ (some 6) _ = _
     simp only [Act.put, List.setIfInBounds_toArray, List.set_cons_zero, List.set_cons_succ, i64_w, i32_w]
     rfl
   refine one_ (i := 1) (N := some 29) #[true, true, true, false, false, false, false, false, true, false, false] rfl rfl (one_of HT_.out (by kernel_rfl)) (by decide) (fun K hK => ?_)
   refine goes_ Try.func17 (by kernel_rfl) rfl #[.agg #[.slice A0_0 l0_0.length c0_0]] (by rfl) rfl rfl (by (try simp only [List.map_toArray, List.map_cons, List.map_nil]); first | done | rfl | (simp only [List.length_drop, List.length_take]; rfl)) ?_
   with_reducible refine (laws_toBig.calls k _ _ l0_0 t298 _ ?side1 ?side2 A19.out).mono ?_
   (case side1 => repeat (first | exact (Kd.C_below HR0_0.out HB.out) | (with_reducible refine Kd.C_alloc ?_ _) | (with_reducible refine Kd.C_drewN ?_ _) | (with_reducible refine Kd.C_drew ?_)))
   (case side2 => exact HC0_0.out)
   rintro e w35 ⟨v299, rfl, ho0, hb⟩
   refine ⟨_, rfl, ?_⟩
   have HO300 := Aside0.mk (Kd.R_lower ho0 (below_size (hq3 HB GE294 GE295 GE308)))
   replace BK294 := cB BK294 hb
   replace BK295 := cB BK295 hb
   replace BK308 := cB BK308 hb
   replace HB := cs (hq3 HB GE294 GE295 GE308) hb
   (try clear hb)
   (try clear hb2)
   (try clear hk)
   (try clear hi)
   (try clear ho0)
   refine hK.out _ _ ⟨(blk_cell BK294.out 0).trans rfl, (blk_cell BK295.out 0).trans rfl⟩ (fun hHeld => ?_)
   clear hK K
   refine norm_ (a' := ?_) ?_ ?_
   rotate_left
   · show Act.put _ (some 29) _ = _
     simp only [Act.put, List.setIfInBounds_toArray, List.set_cons_zero, List.set_cons_succ, i64_w, i32_w]
     rfl
   refine one_ (i := 3) (N := some 31) #[true, true, true, true, false, false, false, false, true, false, false] rfl rfl (one_of HT_.out (by kernel_rfl)) (by decide) (fun K hK => ?_)
   refine goes_ Try.func17 (by kernel_rfl) rfl #[.agg #[.slice A1_0 l1_0.length c1_0]] (by rfl) rfl rfl (by (try simp only [List.map_toArray, List.map_cons, List.map_nil]); first | done | rfl | (simp only [List.length_drop, List.length_take]; rfl)) ?_
   with_reducible refine (laws_toBig.calls k _ _ l1_0 t301 _ ?side1 ?side2 A20.out).mono ?_
   (case side1 => repeat (first | exact (Kd.C_below HR1_0.out HB.out) | (with_reducible refine Kd.C_alloc ?_ _) | (with_reducible refine Kd.C_drewN ?_ _) | (with_reducible refine Kd.C_drew ?_)))
   (case side2 => exact HC1_0.out)
   rintro e w36 ⟨v302, rfl, ho0, hb⟩
   refine ⟨_, rfl, ?_⟩
   have n0_ := ce HO300 ho0 hb
   have HO303 := Aside0.mk (Kd.R_lower (Kd.R_new' ho0 (ql HO300)) (below_size (hq3 HB GE294 GE295 GE308)))
   replace BK294 := cB BK294 hb
   replace BK295 := cB BK295 hb
   replace BK308 := cB BK308 hb
   replace HB := cs (hq3 HB GE294 GE295 GE308) hb
   replace HO300 := n0_
   clear n0_
   (try clear hb)
   (try clear hb2)
   (try clear hk)
   (try clear hi)
   (try clear ho0)
   obtain ⟨Ao37, co37, eo37⟩ := Kd.R_slice HO300.out
   (first | subst eo37 | (injection eo37 with f1_ f2_ f3_; have f4_ := f1_.symm; have f5_ := f3_.symm; clear f1_ f2_ f3_; subst f4_; subst f5_))
   obtain ⟨Ao38, co38, eo38⟩ := Kd.R_slice HO303.out
   (first | subst eo38 | (injection eo38 with f1_ f2_ f3_; have f4_ := f1_.symm; have f5_ := f3_.symm; clear f1_ f2_ f3_; subst f4_; subst f5_))
   refine hK.out _ _ ⟨(blk_cell BK294.out 0).trans rfl, (blk_cell BK295.out 0).trans rfl⟩ (fun hHeld => ?_)
   clear hK K
   refine norm_ (a' := ?_) ?_ ?_
   rotate_left
   · show Act.put _ (some 31) _ = _
     simp only [Act.put, List.setIfInBounds_toArray, List.set_cons_zero, List.set_cons_succ, i64_w, i32_w]
     rfl
   refine one_ (i := 4) (N := some 32) #[true, true, true, true, true, false, false, false, true, false, false] rfl rfl (one_of HT_.out (by kernel_rfl)) (by decide) (fun K hK => ?_)
   refine goes_ Try.func42 (by kernel_rfl) rfl #[.agg #[.slice Ao37 t298.length co37], .agg #[.slice Ao38 t301.length co38]] (by rfl) rfl rfl (by (try simp only [List.map_toArray, List.map_cons, List.map_nil]); first | done | rfl | (simp only [List.length_drop, List.length_take]; rfl)) ?_
   with_reducible refine (spec_ReduceBig.calls k _ _ t298 _ _ t301 t304 t307 _ ?side1 ?side2 ?side3 ?side4 A21.out).mono ?_
   (case side1 => repeat (first | exact (Kd.R_reads' HO300.out).2.2 | (with_reducible refine Kd.C_alloc ?_ _) | (with_reducible refine Kd.C_drewN ?_ _) | (with_reducible refine Kd.C_drew ?_)))
   (case side2 => exact (Kd.R_reads' HO300.out).2.1)
   (case side3 => repeat (first | exact (Kd.R_reads' HO303.out).2.2 | (with_reducible refine Kd.C_alloc ?_ _) | (with_reducible refine Kd.C_drewN ?_ _) | (with_reducible refine Kd.C_drew ?_)))
   (case side4 => exact (Kd.R_reads' HO303.out).2.1)
   rintro e w39 ⟨v305, rfl, ho0, hb⟩
   refine ⟨_, rfl, ?_⟩
   have n0_ := ce HO300 ho0 hb
   have n1_ := ce HO303 ho0 hb
   have HO306 := Aside0.mk (Kd.R_lower (Kd.R_new' (Kd.R_new' ho0 (ql HO300)) (ql HO303)) (below_size (hq3 HB GE294 GE295 GE308)))
   replace BK294 := cB BK294 hb
   replace BK295 := cB BK295 hb
   replace BK308 := cB BK308 hb
   replace HB := cs (hq3 HB GE294 GE295 GE308) hb
   replace HO300 := n0_
   replace HO303 := n1_
   clear n0_ n1_
   (try clear hb)
   (try clear hb2)
   (try clear hk)
   (try clear hi)
   (try clear ho0)
   refine hK.out _ _ ⟨(blk_cell BK294.out 0).trans rfl, (blk_cell BK295.out 0).trans rfl⟩ (fun hHeld => ?_)
   clear hK K
   refine norm_ (a' := ?_) ?_ ?_
   rotate_left
   · show Act.put _ (some 32) _ = _
     simp only [Act.put, List.setIfInBounds_toArray, List.set_cons_zero, List.set_cons_succ, i64_w, i32_w]
     rfl
   refine pure_ (i := 5) (N := some 27) (v := ?_) (a' := ?_) #[true, true, true, true, true, true, false, false, true, false, false] rfl rfl (any_of HT_.out (by kernel_rfl)) (fun _ _ _ h => h) (Or.inl ⟨by rfl, ?_⟩) ?_ ?_
   rotate_left
   · intro w'
     first | (go_simp; with_reducible rfl) | (go_simp; unfold Instr.field; go_simp; rfl)
   rotate_left
   · simp only [Act.put, List.setIfInBounds_toArray, List.set_cons_zero, List.set_cons_succ, i64_w, i32_w]
     rfl
   refine pure_ (i := 6) (N := some 33) (v := ?_) (a' := ?_) #[true, true, true, true, true, true, true, false, true, false, false] rfl rfl (any_of HT_.out (by kernel_rfl)) (fun _ _ _ h => h) (Or.inl ⟨by rfl, ?_⟩) ?_ ?_
   rotate_left
   · intro w'
     first | (go_simp; with_reducible rfl) | (go_simp; unfold Instr.field; go_simp; rfl)
   rotate_left
   · simp only [Act.put, List.setIfInBounds_toArray, List.set_cons_zero, List.set_cons_succ, i64_w, i32_w]
     rfl
   refine pure_ (i := 7) (N := some 34) (v := ?_) (a' := ?_) #[true, true, true, true, true, true, true, true, true, false, false] rfl rfl (any_of HT_.out (by kernel_rfl)) (fun _ _ _ h => h) (Or.inl ⟨by rfl, ?_⟩) ?_ ?_
   rotate_left
   · intro w'
     first | (go_simp; with_reducible rfl) | (go_simp; unfold Instr.field; go_simp; rfl)
   rotate_left
   · simp only [Act.put, List.setIfInBounds_toArray, List.set_cons_zero, List.set_cons_succ, i64_w, i32_w]
     rfl
   exact norm_ (by simp only [putAll, Act.put, List.setIfInBounds_toArray, List.set_cons_zero, List.set_cons_succ]) (hCont (.slice Ao37 t298.length co37, .slice Ao38 t301.length co38, v305, gb308) _ ⟨hHeld, (by (with_reducible repeat (first | apply Kd.R_alloc | apply Kd.R_drewN | apply Kd.R_drew)); exact Kd.R_mono HO300.out (fun _ hk => ⟨hk.1.2, hk.2⟩)), (by (with_reducible repeat (first | apply Kd.R_alloc | apply Kd.R_drewN | apply Kd.R_drew)); exact Kd.R_mono HO303.out (fun _ hk => ⟨hk.1.2, hk.2⟩)), (by (with_reducible repeat (first | apply Kd.R_alloc | apply Kd.R_drewN | apply Kd.R_drew)); exact Kd.R_mono HO306.out (fun _ hk => ⟨hk.1.2, hk.2⟩)), (bq BK294), (bq BK295), (bq BK308), GW308.out, GE308.out, NB294_308.out, NB308_294.out, NB295_308.out, NB308_295.out, (hq3 HB GE294 GE295 GE308)⟩)
 rintro ⟨v299, v302, v305, gb308⟩ w40 ⟨hS_, h0_, h1_, h2_, h3_, h4_, h5_, h6_, h7_, h8_, h9_, h10_, h11_, h12_⟩
 have n0_ : Aside0 (Kd.R (Kd.int .i64) 3 w40 w.heap.size (fun k_ => some k_ ≠ (v302 : Value).ownBlock ∧ some k_ ≠ (v305 : Value).ownBlock) v299 t298) := ⟨h0_⟩
 have n1_ : Aside0 (Kd.R (Kd.int .i64) 3 w40 w.heap.size (fun k_ => some k_ ≠ (v299 : Value).ownBlock ∧ some k_ ≠ (v305 : Value).ownBlock) v302 t301) := ⟨h1_⟩
 have n2_ : Aside0 (Kd.R (Kd.int .i64) 3 w40 w.heap.size (fun k_ => some k_ ≠ (v299 : Value).ownBlock ∧ some k_ ≠ (v302 : Value).ownBlock) v305 t304) := ⟨h2_⟩
 have n3_ : Aside0 (w40.heap[gb294]? = some (.cells #[.slice A0_0 l0_0.length c0_0] 24 (0, 0))) := ⟨h3_⟩
 have n4_ : Aside0 (w40.heap[gb295]? = some (.cells #[.slice A1_0 l1_0.length c1_0] 24 (0, 0))) := ⟨h4_⟩
 have n5_ : Aside0 (w40.heap[gb308]? = some (.cells #[.slice none 0 0] 27 (0, 0))) := ⟨h5_⟩
 have n6_ : Aside0 (w.heap.size ≤ gb308) := ⟨h6_⟩
 have n7_ : Aside0 (w.heap.size ≤ gb308) := ⟨h7_⟩
 have n8_ : Aside0 (gb294 ≠ gb308) := ⟨h8_⟩
 have n9_ : Aside0 (gb308 ≠ gb294) := ⟨h9_⟩
 have n10_ : Aside0 (gb295 ≠ gb308) := ⟨h10_⟩
 have n11_ : Aside0 (gb308 ≠ gb295) := ⟨h11_⟩
 have n12_ : Aside0 (Below w.heap.size w w40) := ⟨h12_⟩
 clear BK294
 clear BK295
 clear HB
 clear h0_ h1_ h2_ h3_ h4_ h5_ h6_ h7_ h8_ h9_ h10_ h11_ h12_
 have HO300 := n0_
 have HO303 := n1_
 have HO306 := n2_
 have BK294 := n3_
 have BK295 := n4_
 have BK308 := n5_
 have GW308 := n6_
 have GE308 := n7_
 have NB294_308 := n8_
 have NB308_294 := n9_
 have NB295_308 := n10_
 have NB308_295 := n11_
 have HB := n12_
 clear n0_ n1_ n2_ n3_ n4_ n5_ n6_ n7_ n8_ n9_ n10_ n11_ n12_
 have hHeld : w40.cell? ⟨gb294, 0, none⟩ = some (.slice A0_0 l0_0.length c0_0) ∧ w40.cell? ⟨gb295, 0, none⟩ = some (.slice A1_0 l1_0.length c1_0) := hS_
 obtain ⟨Ao41, co41, eo41⟩ := Kd.R_slice HO306.out
 (first | subst eo41 | (injection eo41 with f1_ f2_ f3_; have f4_ := f1_.symm; have f5_ := f3_.symm; clear f1_ f2_ f3_; subst f4_; subst f5_))
 refine norm_ (a' := ?_) ?_ ?_
 rotate_left
 · simp only [putAll, Act.put, List.setIfInBounds_toArray, List.set_cons_zero, List.set_cons_succ]
   rfl
 refine one_ (i := 9) (N := none) #[true, true, true, true, true, true, true, true, true, true, false] rfl rfl (one_of HT_.out (by kernel_rfl)) (by decide) (fun K hK => ?_)
 have hs42 : w40.cell? ⟨gb308, 0, none⟩ = some (.slice none 0 0) := (blk_cell BK308.out 0).trans rfl
 have hfs42 := blk_frozen BK308.out 0
 have hns42_0 := NB294_308.out
 have hns42_1 := NB295_308.out
 have hms42_0 := NB308_294.out
 have hms42_1 := NB308_295.out
 refine skip_ (w1 := ?_) (by rfl) rfl ?_ ?_
 rotate_left
 · go_simp
   rfl
 refine hK.out _ _ ⟨((cell_far (p := ⟨gb308, _, none⟩) NB294_308.out _).trans (hHeld.1)), ((cell_far (p := ⟨gb308, _, none⟩) NB295_308.out _).trans (hHeld.2))⟩ (fun hHeld => ?_)
 clear hK K
 refine pure_ (i := 10) (N := some 7) (v := ?_) (a' := ?_) #[true, true, true, true, true, true, true, true, true, true, true] rfl rfl (any_of HT_.out (by kernel_rfl)) (fun _ _ _ h => h) (Or.inl ⟨by rfl, ?_⟩) ?_ ?_
 rotate_left
 · intro w'
   first | (go_simp; with_reducible rfl) | (go_simp; unfold Instr.field; go_simp; rfl)
 rotate_left
 · simp only [Act.put, List.setIfInBounds_toArray, List.set_cons_zero, List.set_cons_succ, i64_w, i32_w]
   rfl
 refine done_ (done_of HT_.out (by kernel_rfl)) ?_
 have hnb43 := NB294_308.out
 have hnc43 := NB308_294.out
 have hcz44_0 : w40.cell? ⟨gb294, 0, none⟩ = some (.slice A0_0 l0_0.length c0_0) := (blk_cell BK294.out 0).trans rfl
 have hfz44_0 := blk_frozen BK294.out 0
 go_upto_region 12 with (first | ((with_reducible refine gate_callee (f := 17) rfl ?_); refine goesL_ (some 36) rfl rfl Try.func17 (by kernel_rfl) rfl #[.agg #[.slice A0_0 l0_0.length c0_0]] rfl (by (try simp only [List.map_toArray, List.map_cons, List.map_nil]); first | done | rfl | (simp only [List.length_drop, List.length_take]; rfl)) ?_; (with_reducible refine (laws_toBig.calls k _ _ l0_0 t309 _ ?side1 ?side2 A22.out).mono ?_); (case side1 => exact Kd.C_below HR0_0.out (hq3 HB GE294 GE295 GE308)); (case side2 => exact HC0_0.out); rintro e w45 ⟨v310, rfl, ho0, hb⟩; refine ⟨_, rfl, ?_⟩; have n0_ := Aside0.mk (Kd.R_elder' (by (with_reducible repeat (first | apply Kd.R_alloc | apply Kd.R_drewN | apply Kd.R_drew)); exact (Kd.R_mono (Kd.R_far (p := ⟨gb308, 0, none⟩) (Kd.R_types HO300.out BK308.out (by decide)) (fun _ hk => hk.2) (.slice Ao41 t304.length co41)) (fun _ h_ => h_.1))) (Kd.R_base ho0) hb); have n1_ := Aside0.mk (Kd.R_elder' (by (with_reducible repeat (first | apply Kd.R_alloc | apply Kd.R_drewN | apply Kd.R_drew)); exact (Kd.R_mono (Kd.R_far (p := ⟨gb308, 0, none⟩) (Kd.R_types HO303.out BK308.out (by decide)) (fun _ hk => hk.2) (.slice Ao41 t304.length co41)) (fun _ h_ => h_.1))) (Kd.R_base ho0) hb); have n2_ := Aside0.mk (Kd.R_elder' (by (with_reducible repeat (first | apply Kd.R_alloc | apply Kd.R_drewN | apply Kd.R_drew)); exact (Kd.R_mono (Kd.R_far (p := ⟨gb308, 0, none⟩) (Kd.R_types HO306.out BK308.out (by decide)) (fun _ hk => hk.2) (.slice Ao41 t304.length co41)) (fun _ h_ => h_.1))) (Kd.R_base ho0) hb); have HO311 := Aside0.mk (Kd.R_lower (Kd.R_new' (Kd.R_new' (Kd.R_new' ho0 (Kd.R_lt (by (with_reducible repeat (first | apply Kd.R_alloc | apply Kd.R_drewN | apply Kd.R_drew)); exact (Kd.R_mono (Kd.R_far (p := ⟨gb308, 0, none⟩) (Kd.R_types HO300.out BK308.out (by decide)) (fun _ hk => hk.2) (.slice Ao41 t304.length co41)) (fun _ h_ => h_.1))))) (Kd.R_lt (by (with_reducible repeat (first | apply Kd.R_alloc | apply Kd.R_drewN | apply Kd.R_drew)); exact (Kd.R_mono (Kd.R_far (p := ⟨gb308, 0, none⟩) (Kd.R_types HO303.out BK308.out (by decide)) (fun _ hk => hk.2) (.slice Ao41 t304.length co41)) (fun _ h_ => h_.1))))) (Kd.R_lt (by (with_reducible repeat (first | apply Kd.R_alloc | apply Kd.R_drewN | apply Kd.R_drew)); exact (Kd.R_mono (Kd.R_far (p := ⟨gb308, 0, none⟩) (Kd.R_types HO306.out BK308.out (by decide)) (fun _ hk => hk.2) (.slice Ao41 t304.length co41)) (fun _ h_ => h_.1))))) (below_size (hq3 HB GE294 GE295 GE308))); replace BK294 := Aside0.mk (blk_below (g := gb294) (o := .cells #[.slice A0_0 l0_0.length c0_0] 24 (0, 0)) (bf NB294_308 BK294) hb); replace BK295 := Aside0.mk (blk_below (g := gb295) (o := .cells #[.slice A1_0 l1_0.length c1_0] 24 (0, 0)) (bf NB295_308 BK295) hb); replace BK308 := Aside0.mk (blk_below (g := gb308) (o := .cells #[.slice Ao41 t304.length co41] 27 (0, 0)) (by (with_reducible repeat (first | refine blk_drewN ?_ _ | refine blk_drew ?_ | refine blk_alloc ?_ _)); refine blk_put (cs := #[.slice none 0 0]) ?_ 0 _ rfl; (with_reducible repeat (first | refine blk_drewN ?_ _ | refine blk_drew ?_ | refine blk_alloc ?_ _)); exact BK308.out) hb); replace HB := cs (hq3 HB GE294 GE295 GE308) hb; replace HO300 := n0_; replace HO303 := n1_; replace HO306 := n2_; clear n0_ n1_ n2_; (try clear hb); (try clear hb2); (try clear hk); (try clear hi); (try clear ho0)) | ((with_reducible refine gate_dst (N := 8) rfl ?_); refine box_event ?hg (N := 8) ?hd (cs := #[.slice none 0 0]) (t := 27) ?hr ?_; (case hd => rfl); (case hg => rfl); (case hr => first | (go_simp; done) | (go_simp; rfl)); intro gb312 hg w46 hbox hb; replace HO300 := cb HO300 hb; replace HO303 := cb HO303 hb; replace HO306 := cb HO306 hb; replace HO311 := cb HO311 hb; have n4_ := cB BK294 hb; have n5_ := cB BK295 hb; have n6_ := cB BK308 hb; have n7_ := cs (hq3 HB GE294 GE295 GE308) hb; have BK312 := Aside0.mk (hbox); have GW312 := cg hg (hq3 HB GE294 GE295 GE308); have GE312 := cg hg (hq3 HB GE294 GE295 GE308); have NB294_312 := cl hg BK294; have NB312_294 := cr hg BK294; have NB295_312 := cl hg BK295; have NB312_295 := cr hg BK295; have NB308_312 := cl hg BK308; have NB312_308 := cr hg BK308; replace BK294 := n4_; replace BK295 := n5_; replace BK308 := n6_; replace HB := n7_; clear n4_ n5_ n6_ n7_; clear hb hbox hg; obtain ⟨Ao47, co47, eo47⟩ := Kd.R_slice HO311.out; subst eo47; have hnb48 := NB312_294.out; have hnc48 := NB294_312.out; have hnb49 := NB312_295.out; have hnc49 := NB295_312.out; have hnb50 := NB312_308.out; have hnc50 := NB308_312.out; have hcz51_0 : w46.cell? ⟨gb312, 0, none⟩ = some (.slice none 0 0) := (blk_cell BK312.out 0).trans rfl; have hfz51_0 := blk_frozen BK312.out 0; have hnb52 := NB295_308.out; have hnc52 := NB308_295.out; have hcz53_0 : w46.cell? ⟨gb295, 0, none⟩ = some (.slice A1_0 l1_0.length c1_0) := (blk_cell BK295.out 0).trans rfl; have hfz53_0 := blk_frozen BK295.out 0) | ((with_reducible refine gate_callee (f := 17) rfl ?_); refine goesL_ (some 38) rfl rfl Try.func17 (by kernel_rfl) rfl #[.agg #[.slice A1_0 l1_0.length c1_0]] rfl (by (try simp only [List.map_toArray, List.map_cons, List.map_nil]); first | done | rfl | (simp only [List.length_drop, List.length_take]; rfl)) ?_; (with_reducible refine (laws_toBig.calls k _ _ l1_0 t313 _ ?side1 ?side2 A23.out).mono ?_); (case side1 => exact Kd.C_below HR1_0.out (hq4 HB GE294 GE295 GE308 GE312)); (case side2 => exact HC1_0.out); rintro e w54 ⟨v314, rfl, ho0, hb⟩; refine ⟨_, rfl, ?_⟩; have n0_ := Aside0.mk (Kd.R_elder' (by (with_reducible repeat (first | apply Kd.R_alloc | apply Kd.R_drewN | apply Kd.R_drew)); exact (Kd.R_mono (Kd.R_far (p := ⟨gb312, 0, none⟩) (Kd.R_types HO300.out BK312.out (by decide)) (fun _ hk => hk.2) (.slice Ao47 t309.length co47)) (fun _ h_ => h_.1))) (Kd.R_base ho0) hb); have n1_ := Aside0.mk (Kd.R_elder' (by (with_reducible repeat (first | apply Kd.R_alloc | apply Kd.R_drewN | apply Kd.R_drew)); exact (Kd.R_mono (Kd.R_far (p := ⟨gb312, 0, none⟩) (Kd.R_types HO303.out BK312.out (by decide)) (fun _ hk => hk.2) (.slice Ao47 t309.length co47)) (fun _ h_ => h_.1))) (Kd.R_base ho0) hb); have n2_ := Aside0.mk (Kd.R_elder' (by (with_reducible repeat (first | apply Kd.R_alloc | apply Kd.R_drewN | apply Kd.R_drew)); exact (Kd.R_mono (Kd.R_far (p := ⟨gb312, 0, none⟩) (Kd.R_types HO306.out BK312.out (by decide)) (fun _ hk => hk.2) (.slice Ao47 t309.length co47)) (fun _ h_ => h_.1))) (Kd.R_base ho0) hb); have n3_ := Aside0.mk (Kd.R_elder' (by (with_reducible repeat (first | apply Kd.R_alloc | apply Kd.R_drewN | apply Kd.R_drew)); exact (Kd.R_mono (Kd.R_far (p := ⟨gb312, 0, none⟩) (Kd.R_types HO311.out BK312.out (by decide)) (fun _ hk => hk.2) (.slice Ao47 t309.length co47)) (fun _ h_ => h_.1))) (Kd.R_base ho0) hb); have HO315 := Aside0.mk (Kd.R_lower (Kd.R_new' (Kd.R_new' (Kd.R_new' (Kd.R_new' ho0 (Kd.R_lt (by (with_reducible repeat (first | apply Kd.R_alloc | apply Kd.R_drewN | apply Kd.R_drew)); exact (Kd.R_mono (Kd.R_far (p := ⟨gb312, 0, none⟩) (Kd.R_types HO300.out BK312.out (by decide)) (fun _ hk => hk.2) (.slice Ao47 t309.length co47)) (fun _ h_ => h_.1))))) (Kd.R_lt (by (with_reducible repeat (first | apply Kd.R_alloc | apply Kd.R_drewN | apply Kd.R_drew)); exact (Kd.R_mono (Kd.R_far (p := ⟨gb312, 0, none⟩) (Kd.R_types HO303.out BK312.out (by decide)) (fun _ hk => hk.2) (.slice Ao47 t309.length co47)) (fun _ h_ => h_.1))))) (Kd.R_lt (by (with_reducible repeat (first | apply Kd.R_alloc | apply Kd.R_drewN | apply Kd.R_drew)); exact (Kd.R_mono (Kd.R_far (p := ⟨gb312, 0, none⟩) (Kd.R_types HO306.out BK312.out (by decide)) (fun _ hk => hk.2) (.slice Ao47 t309.length co47)) (fun _ h_ => h_.1))))) (Kd.R_lt (by (with_reducible repeat (first | apply Kd.R_alloc | apply Kd.R_drewN | apply Kd.R_drew)); exact (Kd.R_mono (Kd.R_far (p := ⟨gb312, 0, none⟩) (Kd.R_types HO311.out BK312.out (by decide)) (fun _ hk => hk.2) (.slice Ao47 t309.length co47)) (fun _ h_ => h_.1))))) (below_size (hq4 HB GE294 GE295 GE308 GE312))); replace BK294 := Aside0.mk (blk_below (g := gb294) (o := .cells #[.slice A0_0 l0_0.length c0_0] 24 (0, 0)) (bf NB294_312 BK294) hb); replace BK295 := Aside0.mk (blk_below (g := gb295) (o := .cells #[.slice A1_0 l1_0.length c1_0] 24 (0, 0)) (bf NB295_312 BK295) hb); replace BK308 := Aside0.mk (blk_below (g := gb308) (o := .cells #[.slice Ao41 t304.length co41] 27 (0, 0)) (bf NB308_312 BK308) hb); replace BK312 := Aside0.mk (blk_below (g := gb312) (o := .cells #[.slice Ao47 t309.length co47] 27 (0, 0)) (by (with_reducible repeat (first | refine blk_drewN ?_ _ | refine blk_drew ?_ | refine blk_alloc ?_ _)); refine blk_put (cs := #[.slice none 0 0]) ?_ 0 _ rfl; (with_reducible repeat (first | refine blk_drewN ?_ _ | refine blk_drew ?_ | refine blk_alloc ?_ _)); exact BK312.out) hb); replace HB := cs (hq4 HB GE294 GE295 GE308 GE312) hb; replace HO300 := n0_; replace HO303 := n1_; replace HO306 := n2_; replace HO311 := n3_; clear n0_ n1_ n2_ n3_; (try clear hb); (try clear hb2); (try clear hk); (try clear hi); (try clear ho0)) | ((with_reducible refine gate_dst (N := 9) rfl ?_); refine box_event ?hg (N := 9) ?hd (cs := #[.slice none 0 0]) (t := 27) ?hr ?_; (case hd => rfl); (case hg => rfl); (case hr => first | (go_simp; done) | (go_simp; rfl)); intro gb316 hg w55 hbox hb; replace HO300 := cb HO300 hb; replace HO303 := cb HO303 hb; replace HO306 := cb HO306 hb; replace HO311 := cb HO311 hb; replace HO315 := cb HO315 hb; have n5_ := cB BK294 hb; have n6_ := cB BK295 hb; have n7_ := cB BK308 hb; have n8_ := cB BK312 hb; have n9_ := cs (hq4 HB GE294 GE295 GE308 GE312) hb; have BK316 := Aside0.mk (hbox); have GW316 := cg hg (hq4 HB GE294 GE295 GE308 GE312); have GE316 := cg hg (hq4 HB GE294 GE295 GE308 GE312); have NB294_316 := cl hg BK294; have NB316_294 := cr hg BK294; have NB295_316 := cl hg BK295; have NB316_295 := cr hg BK295; have NB308_316 := cl hg BK308; have NB316_308 := cr hg BK308; have NB312_316 := cl hg BK312; have NB316_312 := cr hg BK312; replace BK294 := n5_; replace BK295 := n6_; replace BK308 := n7_; replace BK312 := n8_; replace HB := n9_; clear n5_ n6_ n7_ n8_ n9_; clear hb hbox hg; obtain ⟨Ao56, co56, eo56⟩ := Kd.R_slice HO315.out; subst eo56; have hnb57 := NB316_294.out; have hnc57 := NB294_316.out; have hnb58 := NB316_295.out; have hnc58 := NB295_316.out; have hnb59 := NB316_308.out; have hnc59 := NB308_316.out; have hnb60 := NB316_312.out; have hnc60 := NB312_316.out; have hcz61_0 : w55.cell? ⟨gb316, 0, none⟩ = some (.slice none 0 0) := (blk_cell BK316.out 0).trans rfl; have hfz61_0 := blk_frozen BK316.out 0) | ((with_reducible refine gate_store (t := 27) (p := 9) rfl ?_); refine store_event (t := 27) (p := 9) (v := ?vo_w62) (w1 := (w55.setCell ⟨gb316, 0, none⟩ (.slice Ao56 t313.length co56))) ?hg ?ho ?hn ?hr ?_; (case ho => rfl); (case hg => rfl); (case hn => rfl); (case hr => first | (go_simp; done) | (go_simp; rfl)); intro w62 hw; replace HO300 : Aside0 (Kd.R (Kd.int .i64) 3 w62 w.heap.size (fun k_ => some k_ ≠ (v302 : Value).ownBlock ∧ some k_ ≠ (.slice Ao41 t304.length co41 : Value).ownBlock ∧ some k_ ≠ (.slice Ao47 t309.length co47 : Value).ownBlock ∧ some k_ ≠ (.slice Ao56 t313.length co56 : Value).ownBlock) v299 t298) := ⟨(by rw [hw]; exact (by (with_reducible repeat (first | apply Kd.R_alloc | apply Kd.R_drewN | apply Kd.R_drew)); exact Kd.R_mono (Kd.R_far (p := ⟨gb316, 0, none⟩) (Kd.R_types HO300.out BK316.out (by decide)) (fun _ hk => hk.2) (.slice Ao56 t313.length co56)) (fun _ hk => ⟨hk.1.1.1.1, ⟨hk.1.1.1.2, ⟨hk.1.1.2, hk.1.2⟩⟩⟩)))⟩; replace HO303 : Aside0 (Kd.R (Kd.int .i64) 3 w62 w.heap.size (fun k_ => some k_ ≠ (v299 : Value).ownBlock ∧ some k_ ≠ (.slice Ao41 t304.length co41 : Value).ownBlock ∧ some k_ ≠ (.slice Ao47 t309.length co47 : Value).ownBlock ∧ some k_ ≠ (.slice Ao56 t313.length co56 : Value).ownBlock) v302 t301) := ⟨(by rw [hw]; exact (by (with_reducible repeat (first | apply Kd.R_alloc | apply Kd.R_drewN | apply Kd.R_drew)); exact Kd.R_mono (Kd.R_far (p := ⟨gb316, 0, none⟩) (Kd.R_types HO303.out BK316.out (by decide)) (fun _ hk => hk.2) (.slice Ao56 t313.length co56)) (fun _ hk => ⟨hk.1.1.1.1, ⟨hk.1.1.1.2, ⟨hk.1.1.2, hk.1.2⟩⟩⟩)))⟩; replace HO306 : Aside0 (Kd.R (Kd.int .i64) 3 w62 w.heap.size (fun k_ => some k_ ≠ (v299 : Value).ownBlock ∧ some k_ ≠ (v302 : Value).ownBlock ∧ some k_ ≠ (.slice Ao47 t309.length co47 : Value).ownBlock ∧ some k_ ≠ (.slice Ao56 t313.length co56 : Value).ownBlock) (.slice Ao41 t304.length co41) t304) := ⟨(by rw [hw]; exact (by (with_reducible repeat (first | apply Kd.R_alloc | apply Kd.R_drewN | apply Kd.R_drew)); exact Kd.R_mono (Kd.R_far (p := ⟨gb316, 0, none⟩) (Kd.R_types HO306.out BK316.out (by decide)) (fun _ hk => hk.2) (.slice Ao56 t313.length co56)) (fun _ hk => ⟨hk.1.1.1.1, ⟨hk.1.1.1.2, ⟨hk.1.1.2, hk.1.2⟩⟩⟩)))⟩; replace HO311 : Aside0 (Kd.R (Kd.int .i64) 3 w62 w.heap.size (fun k_ => some k_ ≠ (v299 : Value).ownBlock ∧ some k_ ≠ (v302 : Value).ownBlock ∧ some k_ ≠ (.slice Ao41 t304.length co41 : Value).ownBlock ∧ some k_ ≠ (.slice Ao56 t313.length co56 : Value).ownBlock) (.slice Ao47 t309.length co47) t309) := ⟨(by rw [hw]; exact (by (with_reducible repeat (first | apply Kd.R_alloc | apply Kd.R_drewN | apply Kd.R_drew)); exact Kd.R_mono (Kd.R_far (p := ⟨gb316, 0, none⟩) (Kd.R_types HO311.out BK316.out (by decide)) (fun _ hk => hk.2) (.slice Ao56 t313.length co56)) (fun _ hk => ⟨hk.1.1.1.1.2, ⟨hk.1.1.1.2, ⟨hk.1.1.2, hk.1.2⟩⟩⟩)))⟩; replace HO315 : Aside0 (Kd.R (Kd.int .i64) 3 w62 w.heap.size (fun k_ => some k_ ≠ (v299 : Value).ownBlock ∧ some k_ ≠ (v302 : Value).ownBlock ∧ some k_ ≠ (.slice Ao41 t304.length co41 : Value).ownBlock ∧ some k_ ≠ (.slice Ao47 t309.length co47 : Value).ownBlock) (.slice Ao56 t313.length co56) t313) := ⟨(by rw [hw]; exact (by (with_reducible repeat (first | apply Kd.R_alloc | apply Kd.R_drewN | apply Kd.R_drew)); exact Kd.R_mono (Kd.R_far (p := ⟨gb316, 0, none⟩) (Kd.R_types HO315.out BK316.out (by decide)) (fun _ hk => hk.2) (.slice Ao56 t313.length co56)) (fun _ hk => ⟨hk.1.1.1.1.2, ⟨hk.1.1.1.2, ⟨hk.1.1.2, hk.1.2⟩⟩⟩)))⟩; replace BK294 : Aside0 (w62.heap[gb294]? = some (.cells #[.slice A0_0 l0_0.length c0_0] 24 (0, 0))) := ⟨(by rw [hw]; exact (bf NB294_316 BK294))⟩; replace BK295 : Aside0 (w62.heap[gb295]? = some (.cells #[.slice A1_0 l1_0.length c1_0] 24 (0, 0))) := ⟨(by rw [hw]; exact (bf NB295_316 BK295))⟩; replace BK308 : Aside0 (w62.heap[gb308]? = some (.cells #[.slice Ao41 t304.length co41] 27 (0, 0))) := ⟨(by rw [hw]; exact (bf NB308_316 BK308))⟩; replace BK312 : Aside0 (w62.heap[gb312]? = some (.cells #[.slice Ao47 t309.length co47] 27 (0, 0))) := ⟨(by rw [hw]; exact (bf NB312_316 BK312))⟩; replace BK316 : Aside0 (w62.heap[gb316]? = some (.cells #[.slice Ao56 t313.length co56] 27 (0, 0))) := ⟨(by rw [hw]; exact (by (with_reducible repeat (first | refine blk_drewN ?_ _ | refine blk_drew ?_ | refine blk_alloc ?_ _)); refine blk_put (cs := #[.slice none 0 0]) ?_ 0 _ rfl; (with_reducible repeat (first | refine blk_drewN ?_ _ | refine blk_drew ?_ | refine blk_alloc ?_ _)); exact BK316.out))⟩; replace HB : Aside0 (Below w.heap.size w w62) := ⟨(by rw [hw]; exact (hq5 HB GE294 GE295 GE308 GE312 GE316))⟩; clear hw; have hcz63_0 : w62.cell? ⟨gb312, 0, none⟩ = some (.slice Ao47 t309.length co47) := (blk_cell BK312.out 0).trans rfl; have hfz63_0 := blk_frozen BK312.out 0; have hcz64_0 : w62.cell? ⟨gb316, 0, none⟩ = some (.slice Ao56 t313.length co56) := (blk_cell BK316.out 0).trans rfl; have hfz64_0 := blk_frozen BK316.out 0) | ((with_reducible refine gate_callee (f := 43) rfl ?_); refine goesL_ (some 42) rfl rfl Try.func43 (by kernel_rfl) rfl #[.agg #[.slice Ao47 t309.length co47], .agg #[.slice Ao56 t313.length co56]] rfl (by (try simp only [List.map_toArray, List.map_cons, List.map_nil]); first | done | rfl | (simp only [List.length_drop, List.length_take]; rfl)) ?_; (with_reducible refine (impl_ReduceBig.calls k (fun k_ => some k_ = (.slice Ao47 t309.length co47 : Value).ownBlock) _ _ t309 (fun k_ => some k_ = (.slice Ao56 t313.length co56 : Value).ownBlock) _ _ t313 t317 t320 _ ?side1 ?side2 A24.out).mono ?_); (case side1 => exact Kd.R_V (Kd.R_tight rfl (Kd.R_types (Kd.R_types (Kd.R_types (Kd.R_types (Kd.R_types (HO311.out) BK294.out (by decide)) BK295.out (by decide)) BK308.out (by decide)) BK312.out (by decide)) BK316.out (by decide)))); (case side2 => exact Kd.R_V (Kd.R_tight rfl (Kd.R_types (Kd.R_types (Kd.R_types (Kd.R_types (Kd.R_types (HO315.out) BK294.out (by decide)) BK295.out (by decide)) BK308.out (by decide)) BK312.out (by decide)) BK316.out (by decide)))); rintro e w65 ⟨v318, rfl, ho0, hb⟩; refine ⟨_, rfl, ?_⟩; have n0_ := ce HO300 ho0 hb; have n1_ := ce HO303 ho0 hb; have n2_ := ce HO306 ho0 hb; have n3_ := ce HO311 ho0 hb; have n4_ := ce HO315 ho0 hb; have HO319 := Aside0.mk (Kd.R_lower (Kd.R_new' (Kd.R_new' (Kd.R_new' (Kd.R_new' (Kd.R_new' (Kd.R_mono (ok' := fun k_ => True) ho0 (fun _ hk_ => trivial)) (ql HO300)) (ql HO303)) (ql HO306)) (ql HO311)) (ql HO315)) (below_size (hq5 HB GE294 GE295 GE308 GE312 GE316))); replace BK294 := cB BK294 hb; replace BK295 := cB BK295 hb; replace BK308 := cB BK308 hb; replace BK312 := cB BK312 hb; replace BK316 := cB BK316 hb; replace HB := cs (hq5 HB GE294 GE295 GE308 GE312 GE316) hb; replace HO300 := n0_; replace HO303 := n1_; replace HO306 := n2_; replace HO311 := n3_; replace HO315 := n4_; clear n0_ n1_ n2_ n3_ n4_; (try clear hb); (try clear hb2); (try clear hk); (try clear hi); (try clear ho0)) | ((with_reducible refine gate_dst (N := 10) rfl ?_); refine box_event ?hg (N := 10) ?hd (cs := #[.slice none 0 0]) (t := 27) ?hr ?_; (case hd => rfl); (case hg => rfl); (case hr => first | (go_simp; done) | (go_simp; rfl)); intro gb321 hg w66 hbox hb; replace HO300 := cb HO300 hb; replace HO303 := cb HO303 hb; replace HO306 := cb HO306 hb; replace HO311 := cb HO311 hb; replace HO315 := cb HO315 hb; replace HO319 := cb HO319 hb; have n6_ := cB BK294 hb; have n7_ := cB BK295 hb; have n8_ := cB BK308 hb; have n9_ := cB BK312 hb; have n10_ := cB BK316 hb; have n11_ := cs (hq5 HB GE294 GE295 GE308 GE312 GE316) hb; have BK321 := Aside0.mk (hbox); have GW321 := cg hg (hq5 HB GE294 GE295 GE308 GE312 GE316); have GE321 := cg hg (hq5 HB GE294 GE295 GE308 GE312 GE316); have NB294_321 := cl hg BK294; have NB321_294 := cr hg BK294; have NB295_321 := cl hg BK295; have NB321_295 := cr hg BK295; have NB308_321 := cl hg BK308; have NB321_308 := cr hg BK308; have NB312_321 := cl hg BK312; have NB321_312 := cr hg BK312; have NB316_321 := cl hg BK316; have NB321_316 := cr hg BK316; replace BK294 := n6_; replace BK295 := n7_; replace BK308 := n8_; replace BK312 := n9_; replace BK316 := n10_; replace HB := n11_; clear n6_ n7_ n8_ n9_ n10_ n11_; clear hb hbox hg; obtain ⟨Ao67, co67, eo67⟩ := Kd.R_slice HO319.out; subst eo67; have hnb68 := NB321_294.out; have hnc68 := NB294_321.out; have hnb69 := NB321_295.out; have hnc69 := NB295_321.out; have hnb70 := NB321_308.out; have hnc70 := NB308_321.out; have hnb71 := NB321_312.out; have hnc71 := NB312_321.out; have hnb72 := NB321_316.out; have hnc72 := NB316_321.out; have hcz73_0 : w66.cell? ⟨gb321, 0, none⟩ = some (.slice none 0 0) := (blk_cell BK321.out 0).trans rfl; have hfz73_0 := blk_frozen BK321.out 0))
 (try simp only [Act.put, List.setIfInBounds_toArray, List.set_cons_zero, List.set_cons_succ])
 go_cut [53] (fun v53 wc => ∃ (kq : Nat) (x53_24 : Bool), v53 = .bool x53_24 ∧ Aside0 (laws_FnExactReduceBig.j0 kq t307 t320 x53_24 l0_0 l1_0 t304 t309 t313 t317 = some true) ∧ Aside0 (kq ≤ k) ∧ Aside0 (Kd.R (Kd.int .i64) 3 wc w.heap.size (fun k_ => some k_ ≠ ((.slice Ao47 t309.length co47) : Value).ownBlock ∧ some k_ ≠ ((.slice Ao56 t313.length co56) : Value).ownBlock ∧ some k_ ≠ ((.slice Ao67 t317.length co67) : Value).ownBlock) (.slice Ao41 t304.length co41) t304) ∧ Aside0 (Kd.R (Kd.int .i64) 3 wc w.heap.size (fun k_ => some k_ ≠ ((.slice Ao41 t304.length co41) : Value).ownBlock ∧ some k_ ≠ ((.slice Ao56 t313.length co56) : Value).ownBlock ∧ some k_ ≠ ((.slice Ao67 t317.length co67) : Value).ownBlock) (.slice Ao47 t309.length co47) t309) ∧ Aside0 (Kd.R (Kd.int .i64) 3 wc w.heap.size (fun k_ => some k_ ≠ ((.slice Ao41 t304.length co41) : Value).ownBlock ∧ some k_ ≠ ((.slice Ao47 t309.length co47) : Value).ownBlock ∧ some k_ ≠ ((.slice Ao67 t317.length co67) : Value).ownBlock) (.slice Ao56 t313.length co56) t313) ∧ Aside0 (Kd.R (Kd.int .i64) 3 wc w.heap.size (fun k_ => some k_ ≠ ((.slice Ao41 t304.length co41) : Value).ownBlock ∧ some k_ ≠ ((.slice Ao47 t309.length co47) : Value).ownBlock ∧ some k_ ≠ ((.slice Ao56 t313.length co56) : Value).ownBlock) (.slice Ao67 t317.length co67) t317) ∧ Aside0 (wc.heap[gb294]? = some (.cells #[(.slice A0_0 l0_0.length c0_0)] 24 (0, 0))) ∧ Aside0 (wc.heap[gb295]? = some (.cells #[(.slice A1_0 l1_0.length c1_0)] 24 (0, 0))) ∧ Aside0 (wc.heap[gb308]? = some (.cells #[(.slice Ao41 t304.length co41)] 27 (0, 0))) ∧ Aside0 (wc.heap[gb312]? = some (.cells #[(.slice Ao47 t309.length co47)] 27 (0, 0))) ∧ Aside0 (wc.heap[gb316]? = some (.cells #[(.slice Ao56 t313.length co56)] 27 (0, 0))) ∧ Aside0 (wc.heap[gb321]? = some (.cells #[(.slice Ao67 t317.length co67)] 27 (0, 0))) ∧ Aside0 (Below w.heap.size w wc))
 case first =>
   have H := HC25.out
   clear HC25
   replace H := Option.bind_eq_some_iff.mp H
   obtain ⟨t322, A740, H⟩ := H
   replace H : (if t322 = true then (laws_FnExactReduceBig.j0 k t307 t320 (t320 != t307) l0_0 l1_0 t304 t309 t313 t317) else (laws_FnExactReduceBig.j0 k t307 t320 true l0_0 l1_0 t304 t309 t313 t317)) = some true := H
   have A74 := Aside0.mk A740
   clear A740
   by_cases c75 : t322 = true
   · subst c75
     have H1 : (laws_FnExactReduceBig.j0 k t307 t320 (t320 != t307) l0_0 l1_0 t304 t309 t313 t317) = some true := by rw [if_pos rfl] at H; exact H
     clear H
     have H := H1
     clear H1
     have H' := Aside0.mk H
     clear H
     have hnb76 := NB321_294.out
     have hnc76 := NB294_321.out
     have hnb77 := NB321_295.out
     have hnc77 := NB295_321.out
     have hnb78 := NB321_308.out
     have hnc78 := NB308_321.out
     have hnb79 := NB321_312.out
     have hnc79 := NB312_321.out
     have hnb80 := NB321_316.out
     have hnc80 := NB316_321.out
     have hcz81_0 : w66.cell? ⟨gb321, 0, none⟩ = some (.slice none 0 0) := (blk_cell BK321.out 0).trans rfl
     have hfz81_0 := blk_frozen BK321.out 0
     have hnb82 := NB308_294.out
     have hnc82 := NB294_308.out
     have hnb83 := NB308_295.out
     have hnc83 := NB295_308.out
     have hnb84 := NB308_312.out
     have hnc84 := NB312_308.out
     have hnb85 := NB308_316.out
     have hnc85 := NB316_308.out
     have hcz86_0 : w66.cell? ⟨gb308, 0, none⟩ = some (.slice Ao41 t304.length co41) := (blk_cell BK308.out 0).trans rfl
     have hfz86_0 := blk_frozen BK308.out 0
     go_wp2_with (first | ((with_reducible refine gate_callee (f := 19) rfl ?_); refine goesL_ (some 47) rfl rfl Try.func19 (by kernel_rfl) rfl #[.agg #[.slice Ao67 t317.length co67], .agg #[.slice Ao41 t304.length co41]] rfl (by (try simp only [List.map_toArray, List.map_cons, List.map_nil]); first | done | rfl | (simp only [List.length_drop, List.length_take]; rfl)) ?_; (with_reducible refine (laws_eqBig.calls k _ _ t317 _ _ t304 true _ ?side1 ?side2 ?side3 ?side4 A74.out).mono ?_); (case side1 => refine (Kd.R_reads' (e := 3) (base := w.heap.size) (ok := fun k_ => (((((True ∧ some k_ ≠ (v299 : Value).ownBlock) ∧ some k_ ≠ (v302 : Value).ownBlock) ∧ some k_ ≠ (.slice Ao41 t304.length co41 : Value).ownBlock) ∧ some k_ ≠ (.slice Ao47 t309.length co47 : Value).ownBlock) ∧ some k_ ≠ (.slice Ao56 t313.length co56 : Value).ownBlock)) (n := t317.length) (c := co67) ?_).2.2; exact (by (with_reducible repeat (first | apply Kd.R_alloc | apply Kd.R_drewN | apply Kd.R_drew)); exact (Kd.R_mono (Kd.R_far (p := ⟨gb321, 0, none⟩) (Kd.R_types HO319.out BK321.out (by decide)) (fun _ hk => hk.2) (.slice Ao67 t317.length co67)) (fun _ h_ => h_.1)))); (case side2 => exact (Kd.R_reads' HO319.out).2.1); (case side3 => refine (Kd.R_reads' (e := 3) (base := w.heap.size) (ok := fun k_ => ((some k_ ≠ (v299 : Value).ownBlock ∧ (some k_ ≠ (v302 : Value).ownBlock ∧ (some k_ ≠ (.slice Ao47 t309.length co47 : Value).ownBlock ∧ some k_ ≠ (.slice Ao56 t313.length co56 : Value).ownBlock))) ∧ some k_ ≠ (.slice Ao67 t317.length co67 : Value).ownBlock)) (n := t304.length) (c := co41) ?_).2.2; exact (by (with_reducible repeat (first | apply Kd.R_alloc | apply Kd.R_drewN | apply Kd.R_drew)); exact (Kd.R_mono (Kd.R_far (p := ⟨gb321, 0, none⟩) (Kd.R_types HO306.out BK321.out (by decide)) (fun _ hk => hk.2) (.slice Ao67 t317.length co67)) (fun _ h_ => h_.1)))); (case side4 => exact (Kd.R_reads' HO306.out).2.1); rintro e w87 ⟨rfl, hb⟩; refine ⟨_, rfl, ?_⟩; replace HO300 := Aside0.mk (Kd.R_below (by (with_reducible repeat (first | apply Kd.R_alloc | apply Kd.R_drewN | apply Kd.R_drew)); exact (Kd.R_mono (Kd.R_far (p := ⟨gb321, 0, none⟩) (Kd.R_types HO300.out BK321.out (by decide)) (fun _ hk => hk.2) (.slice Ao67 t317.length co67)) (fun _ h_ => h_.1))) hb); replace HO303 := Aside0.mk (Kd.R_below (by (with_reducible repeat (first | apply Kd.R_alloc | apply Kd.R_drewN | apply Kd.R_drew)); exact (Kd.R_mono (Kd.R_far (p := ⟨gb321, 0, none⟩) (Kd.R_types HO303.out BK321.out (by decide)) (fun _ hk => hk.2) (.slice Ao67 t317.length co67)) (fun _ h_ => h_.1))) hb); replace HO306 := Aside0.mk (Kd.R_below (by (with_reducible repeat (first | apply Kd.R_alloc | apply Kd.R_drewN | apply Kd.R_drew)); exact (Kd.R_mono (Kd.R_far (p := ⟨gb321, 0, none⟩) (Kd.R_types HO306.out BK321.out (by decide)) (fun _ hk => hk.2) (.slice Ao67 t317.length co67)) (fun _ h_ => h_.1))) hb); replace HO311 := Aside0.mk (Kd.R_below (by (with_reducible repeat (first | apply Kd.R_alloc | apply Kd.R_drewN | apply Kd.R_drew)); exact (Kd.R_mono (Kd.R_far (p := ⟨gb321, 0, none⟩) (Kd.R_types HO311.out BK321.out (by decide)) (fun _ hk => hk.2) (.slice Ao67 t317.length co67)) (fun _ h_ => h_.1))) hb); replace HO315 := Aside0.mk (Kd.R_below (by (with_reducible repeat (first | apply Kd.R_alloc | apply Kd.R_drewN | apply Kd.R_drew)); exact (Kd.R_mono (Kd.R_far (p := ⟨gb321, 0, none⟩) (Kd.R_types HO315.out BK321.out (by decide)) (fun _ hk => hk.2) (.slice Ao67 t317.length co67)) (fun _ h_ => h_.1))) hb); replace HO319 := Aside0.mk (Kd.R_below (by (with_reducible repeat (first | apply Kd.R_alloc | apply Kd.R_drewN | apply Kd.R_drew)); exact (Kd.R_mono (Kd.R_far (p := ⟨gb321, 0, none⟩) (Kd.R_types HO319.out BK321.out (by decide)) (fun _ hk => hk.2) (.slice Ao67 t317.length co67)) (fun _ h_ => h_.1))) hb); replace BK294 := Aside0.mk (blk_below (g := gb294) (o := .cells #[.slice A0_0 l0_0.length c0_0] 24 (0, 0)) (bf NB294_321 BK294) hb); replace BK295 := Aside0.mk (blk_below (g := gb295) (o := .cells #[.slice A1_0 l1_0.length c1_0] 24 (0, 0)) (bf NB295_321 BK295) hb); replace BK308 := Aside0.mk (blk_below (g := gb308) (o := .cells #[.slice Ao41 t304.length co41] 27 (0, 0)) (bf NB308_321 BK308) hb); replace BK312 := Aside0.mk (blk_below (g := gb312) (o := .cells #[.slice Ao47 t309.length co47] 27 (0, 0)) (bf NB312_321 BK312) hb); replace BK316 := Aside0.mk (blk_below (g := gb316) (o := .cells #[.slice Ao56 t313.length co56] 27 (0, 0)) (bf NB316_321 BK316) hb); replace BK321 := Aside0.mk (blk_below (g := gb321) (o := .cells #[.slice Ao67 t317.length co67] 27 (0, 0)) (by (with_reducible repeat (first | refine blk_drewN ?_ _ | refine blk_drew ?_ | refine blk_alloc ?_ _)); refine blk_put (cs := #[.slice none 0 0]) ?_ 0 _ rfl; (with_reducible repeat (first | refine blk_drewN ?_ _ | refine blk_drew ?_ | refine blk_alloc ?_ _)); exact BK321.out) hb); replace HB := cs (hq6 HB GE294 GE295 GE308 GE312 GE316 GE321) hb; (try clear hb); (try clear hb2); (try clear hk); (try clear hi)))
     go_meet
     case rel => exact ⟨_, ((t320 != t307)), (by first | rfl | (simp; done) | (simp [*]; done)), H', ⟨by first | omega | exact Nat.le_refl _⟩, ⟨by (with_reducible repeat (first | apply Kd.R_alloc | apply Kd.R_drewN | apply Kd.R_drew)); exact Kd.R_mono HO306.out (fun _ hk => ⟨hk.1.2.2.1, ⟨hk.1.2.2.2, hk.2⟩⟩)⟩, ⟨by (with_reducible repeat (first | apply Kd.R_alloc | apply Kd.R_drewN | apply Kd.R_drew)); exact Kd.R_mono HO311.out (fun _ hk => ⟨hk.1.2.2.1, ⟨hk.1.2.2.2, hk.2⟩⟩)⟩, ⟨by (with_reducible repeat (first | apply Kd.R_alloc | apply Kd.R_drewN | apply Kd.R_drew)); exact Kd.R_mono HO315.out (fun _ hk => ⟨hk.1.2.2.1, ⟨hk.1.2.2.2, hk.2⟩⟩)⟩, ⟨by (with_reducible repeat (first | apply Kd.R_alloc | apply Kd.R_drewN | apply Kd.R_drew)); exact Kd.R_mono HO319.out (fun _ hk => ⟨hk.1.1.2, ⟨hk.1.2, hk.2⟩⟩)⟩, ⟨by (with_reducible repeat (first | refine blk_drewN ?_ _ | refine blk_drew ?_ | refine blk_alloc ?_ _)); exact BK294.out⟩, ⟨by (with_reducible repeat (first | refine blk_drewN ?_ _ | refine blk_drew ?_ | refine blk_alloc ?_ _)); exact BK295.out⟩, ⟨by (with_reducible repeat (first | refine blk_drewN ?_ _ | refine blk_drew ?_ | refine blk_alloc ?_ _)); exact BK308.out⟩, ⟨by (with_reducible repeat (first | refine blk_drewN ?_ _ | refine blk_drew ?_ | refine blk_alloc ?_ _)); exact BK312.out⟩, ⟨by (with_reducible repeat (first | refine blk_drewN ?_ _ | refine blk_drew ?_ | refine blk_alloc ?_ _)); exact BK316.out⟩, ⟨by (with_reducible repeat (first | refine blk_drewN ?_ _ | refine blk_drew ?_ | refine blk_alloc ?_ _)); exact BK321.out⟩, ⟨hq6 HB GE294 GE295 GE308 GE312 GE316 GE321⟩⟩
   replace c75 := Bool.eq_false_iff.mpr c75
   subst c75
   have H1 : (laws_FnExactReduceBig.j0 k t307 t320 true l0_0 l1_0 t304 t309 t313 t317) = some true := by rw [if_neg (show ¬ (false = true) by decide)] at H; exact H
   clear H
   have H := H1
   clear H1
   have H' := Aside0.mk H
   clear H
   have hnb88 := NB321_294.out
   have hnc88 := NB294_321.out
   have hnb89 := NB321_295.out
   have hnc89 := NB295_321.out
   have hnb90 := NB321_308.out
   have hnc90 := NB308_321.out
   have hnb91 := NB321_312.out
   have hnc91 := NB312_321.out
   have hnb92 := NB321_316.out
   have hnc92 := NB316_321.out
   have hcz93_0 : w66.cell? ⟨gb321, 0, none⟩ = some (.slice none 0 0) := (blk_cell BK321.out 0).trans rfl
   have hfz93_0 := blk_frozen BK321.out 0
   have hnb94 := NB308_294.out
   have hnc94 := NB294_308.out
   have hnb95 := NB308_295.out
   have hnc95 := NB295_308.out
   have hnb96 := NB308_312.out
   have hnc96 := NB312_308.out
   have hnb97 := NB308_316.out
   have hnc97 := NB316_308.out
   have hcz98_0 : w66.cell? ⟨gb308, 0, none⟩ = some (.slice Ao41 t304.length co41) := (blk_cell BK308.out 0).trans rfl
   have hfz98_0 := blk_frozen BK308.out 0
   go_wp2_with (first | ((with_reducible refine gate_callee (f := 19) rfl ?_); refine goesL_ (some 47) rfl rfl Try.func19 (by kernel_rfl) rfl #[.agg #[.slice Ao67 t317.length co67], .agg #[.slice Ao41 t304.length co41]] rfl (by (try simp only [List.map_toArray, List.map_cons, List.map_nil]); first | done | rfl | (simp only [List.length_drop, List.length_take]; rfl)) ?_; (with_reducible refine (laws_eqBig.calls k _ _ t317 _ _ t304 false _ ?side1 ?side2 ?side3 ?side4 A74.out).mono ?_); (case side1 => refine (Kd.R_reads' (e := 3) (base := w.heap.size) (ok := fun k_ => (((((True ∧ some k_ ≠ (v299 : Value).ownBlock) ∧ some k_ ≠ (v302 : Value).ownBlock) ∧ some k_ ≠ (.slice Ao41 t304.length co41 : Value).ownBlock) ∧ some k_ ≠ (.slice Ao47 t309.length co47 : Value).ownBlock) ∧ some k_ ≠ (.slice Ao56 t313.length co56 : Value).ownBlock)) (n := t317.length) (c := co67) ?_).2.2; exact (by (with_reducible repeat (first | apply Kd.R_alloc | apply Kd.R_drewN | apply Kd.R_drew)); exact (Kd.R_mono (Kd.R_far (p := ⟨gb321, 0, none⟩) (Kd.R_types HO319.out BK321.out (by decide)) (fun _ hk => hk.2) (.slice Ao67 t317.length co67)) (fun _ h_ => h_.1)))); (case side2 => exact (Kd.R_reads' HO319.out).2.1); (case side3 => refine (Kd.R_reads' (e := 3) (base := w.heap.size) (ok := fun k_ => ((some k_ ≠ (v299 : Value).ownBlock ∧ (some k_ ≠ (v302 : Value).ownBlock ∧ (some k_ ≠ (.slice Ao47 t309.length co47 : Value).ownBlock ∧ some k_ ≠ (.slice Ao56 t313.length co56 : Value).ownBlock))) ∧ some k_ ≠ (.slice Ao67 t317.length co67 : Value).ownBlock)) (n := t304.length) (c := co41) ?_).2.2; exact (by (with_reducible repeat (first | apply Kd.R_alloc | apply Kd.R_drewN | apply Kd.R_drew)); exact (Kd.R_mono (Kd.R_far (p := ⟨gb321, 0, none⟩) (Kd.R_types HO306.out BK321.out (by decide)) (fun _ hk => hk.2) (.slice Ao67 t317.length co67)) (fun _ h_ => h_.1)))); (case side4 => exact (Kd.R_reads' HO306.out).2.1); rintro e w99 ⟨rfl, hb⟩; refine ⟨_, rfl, ?_⟩; replace HO300 := Aside0.mk (Kd.R_below (by (with_reducible repeat (first | apply Kd.R_alloc | apply Kd.R_drewN | apply Kd.R_drew)); exact (Kd.R_mono (Kd.R_far (p := ⟨gb321, 0, none⟩) (Kd.R_types HO300.out BK321.out (by decide)) (fun _ hk => hk.2) (.slice Ao67 t317.length co67)) (fun _ h_ => h_.1))) hb); replace HO303 := Aside0.mk (Kd.R_below (by (with_reducible repeat (first | apply Kd.R_alloc | apply Kd.R_drewN | apply Kd.R_drew)); exact (Kd.R_mono (Kd.R_far (p := ⟨gb321, 0, none⟩) (Kd.R_types HO303.out BK321.out (by decide)) (fun _ hk => hk.2) (.slice Ao67 t317.length co67)) (fun _ h_ => h_.1))) hb); replace HO306 := Aside0.mk (Kd.R_below (by (with_reducible repeat (first | apply Kd.R_alloc | apply Kd.R_drewN | apply Kd.R_drew)); exact (Kd.R_mono (Kd.R_far (p := ⟨gb321, 0, none⟩) (Kd.R_types HO306.out BK321.out (by decide)) (fun _ hk => hk.2) (.slice Ao67 t317.length co67)) (fun _ h_ => h_.1))) hb); replace HO311 := Aside0.mk (Kd.R_below (by (with_reducible repeat (first | apply Kd.R_alloc | apply Kd.R_drewN | apply Kd.R_drew)); exact (Kd.R_mono (Kd.R_far (p := ⟨gb321, 0, none⟩) (Kd.R_types HO311.out BK321.out (by decide)) (fun _ hk => hk.2) (.slice Ao67 t317.length co67)) (fun _ h_ => h_.1))) hb); replace HO315 := Aside0.mk (Kd.R_below (by (with_reducible repeat (first | apply Kd.R_alloc | apply Kd.R_drewN | apply Kd.R_drew)); exact (Kd.R_mono (Kd.R_far (p := ⟨gb321, 0, none⟩) (Kd.R_types HO315.out BK321.out (by decide)) (fun _ hk => hk.2) (.slice Ao67 t317.length co67)) (fun _ h_ => h_.1))) hb); replace HO319 := Aside0.mk (Kd.R_below (by (with_reducible repeat (first | apply Kd.R_alloc | apply Kd.R_drewN | apply Kd.R_drew)); exact (Kd.R_mono (Kd.R_far (p := ⟨gb321, 0, none⟩) (Kd.R_types HO319.out BK321.out (by decide)) (fun _ hk => hk.2) (.slice Ao67 t317.length co67)) (fun _ h_ => h_.1))) hb); replace BK294 := Aside0.mk (blk_below (g := gb294) (o := .cells #[.slice A0_0 l0_0.length c0_0] 24 (0, 0)) (bf NB294_321 BK294) hb); replace BK295 := Aside0.mk (blk_below (g := gb295) (o := .cells #[.slice A1_0 l1_0.length c1_0] 24 (0, 0)) (bf NB295_321 BK295) hb); replace BK308 := Aside0.mk (blk_below (g := gb308) (o := .cells #[.slice Ao41 t304.length co41] 27 (0, 0)) (bf NB308_321 BK308) hb); replace BK312 := Aside0.mk (blk_below (g := gb312) (o := .cells #[.slice Ao47 t309.length co47] 27 (0, 0)) (bf NB312_321 BK312) hb); replace BK316 := Aside0.mk (blk_below (g := gb316) (o := .cells #[.slice Ao56 t313.length co56] 27 (0, 0)) (bf NB316_321 BK316) hb); replace BK321 := Aside0.mk (blk_below (g := gb321) (o := .cells #[.slice Ao67 t317.length co67] 27 (0, 0)) (by (with_reducible repeat (first | refine blk_drewN ?_ _ | refine blk_drew ?_ | refine blk_alloc ?_ _)); refine blk_put (cs := #[.slice none 0 0]) ?_ 0 _ rfl; (with_reducible repeat (first | refine blk_drewN ?_ _ | refine blk_drew ?_ | refine blk_alloc ?_ _)); exact BK321.out) hb); replace HB := cs (hq6 HB GE294 GE295 GE308 GE312 GE316 GE321) hb; (try clear hb); (try clear hb2); (try clear hk); (try clear hi)))
   go_meet
   case rel => exact ⟨_, (true), (by first | rfl | (simp; done) | (simp [*]; done)), H', ⟨by first | omega | exact Nat.le_refl _⟩, ⟨by (with_reducible repeat (first | apply Kd.R_alloc | apply Kd.R_drewN | apply Kd.R_drew)); exact Kd.R_mono HO306.out (fun _ hk => ⟨hk.1.2.2.1, ⟨hk.1.2.2.2, hk.2⟩⟩)⟩, ⟨by (with_reducible repeat (first | apply Kd.R_alloc | apply Kd.R_drewN | apply Kd.R_drew)); exact Kd.R_mono HO311.out (fun _ hk => ⟨hk.1.2.2.1, ⟨hk.1.2.2.2, hk.2⟩⟩)⟩, ⟨by (with_reducible repeat (first | apply Kd.R_alloc | apply Kd.R_drewN | apply Kd.R_drew)); exact Kd.R_mono HO315.out (fun _ hk => ⟨hk.1.2.2.1, ⟨hk.1.2.2.2, hk.2⟩⟩)⟩, ⟨by (with_reducible repeat (first | apply Kd.R_alloc | apply Kd.R_drewN | apply Kd.R_drew)); exact Kd.R_mono HO319.out (fun _ hk => ⟨hk.1.1.2, ⟨hk.1.2, hk.2⟩⟩)⟩, ⟨by (with_reducible repeat (first | refine blk_drewN ?_ _ | refine blk_drew ?_ | refine blk_alloc ?_ _)); exact BK294.out⟩, ⟨by (with_reducible repeat (first | refine blk_drewN ?_ _ | refine blk_drew ?_ | refine blk_alloc ?_ _)); exact BK295.out⟩, ⟨by (with_reducible repeat (first | refine blk_drewN ?_ _ | refine blk_drew ?_ | refine blk_alloc ?_ _)); exact BK308.out⟩, ⟨by (with_reducible repeat (first | refine blk_drewN ?_ _ | refine blk_drew ?_ | refine blk_alloc ?_ _)); exact BK312.out⟩, ⟨by (with_reducible repeat (first | refine blk_drewN ?_ _ | refine blk_drew ?_ | refine blk_alloc ?_ _)); exact BK316.out⟩, ⟨by (with_reducible repeat (first | refine blk_drewN ?_ _ | refine blk_drew ?_ | refine blk_alloc ?_ _)); exact BK321.out⟩, ⟨hq6 HB GE294 GE295 GE308 GE312 GE316 GE321⟩⟩
 clear HC25
 try clear c1
 try clear p2
 try clear c4
 try clear c5
 try clear c6
 try clear c7
 try clear c8
 try clear c9
 try clear c17
 try clear c19
 try clear c42
 try clear c43
 try clear c48
 try clear c49
 try clear c50
 try clear c52
 try clear c57
 try clear c58
 try clear c59
 try clear c60
 try clear c68
 try clear c69
 try clear c70
 try clear c71
 try clear c72
 try clear c75
 try clear c76
 try clear c77
 try clear c78
 try clear c79
 try clear c80
 try clear c82
 try clear c83
 try clear c84
 try clear c85
 try clear c88
 try clear c89
 try clear c90
 try clear c91
 try clear c92
 try clear c94
 try clear c95
 try clear c96
 try clear c97
 try clear hcz44_0
 try clear hcz51_0
 try clear hcz53_0
 try clear hcz61_0
 try clear hcz63_0
 try clear hcz64_0
 try clear hcz73_0
 try clear hcz81_0
 try clear hcz86_0
 try clear hcz93_0
 try clear hcz98_0
 try clear hfz44_0
 try clear hfz51_0
 try clear hfz53_0
 try clear hfz61_0
 try clear hfz63_0
 try clear hfz64_0
 try clear hfz73_0
 try clear hfz81_0
 try clear hfz86_0
 try clear hfz93_0
 try clear hfz98_0
 obtain ⟨kq, x53_24, rfl, HA, HJ24, HO_309000, HO_313000, HO_317000, HO_322000, BK294, BK295, BK308, BK312, BK316, BK321, HB⟩ := hcut
 obtain _ | kj24 := kq
 · exact absurd HA.out (by simp [laws_FnExactReduceBig.j0])
 have H := HA.out
 clear HA
 simp only [laws_FnExactReduceBig.j0] at H
 by_cases c100 : x53_24 = true
 · subst c100
   have H1 : (some false) = some true := by rw [if_pos rfl] at H; exact H
   clear H
   have H := H1
   clear H1
   cases H
 replace c100 := Bool.eq_false_iff.mpr c100
 subst c100
 have H1 : ((laws_toBig.f kj24 l0_0).bind fun t323 => ((laws_eqBig.f kj24 t309 t323).bind fun t326 => (if t326 = true then ((laws_toBig.f kj24 l1_0).bind fun t327 => ((laws_eqBig.f kj24 t313 t327).bind fun t330 => (if t330 = true then ((laws_markBig.f kj24 t309 1).bind fun bt331 => ((laws_markBig.f kj24 t313 bt331.1).bind fun bt333 => (if bt333.1 < 0 then (laws_FnExactReduceBig.j1 kj24 t307 true l0_0 l1_0 t304 t317) else ((laws_eqBig.f kj24 t317 t304).bind fun t335 => (if t335 = true then (laws_FnExactReduceBig.j1 kj24 t307 (t320 != t307) l0_0 l1_0 t304 t317) else (laws_FnExactReduceBig.j1 kj24 t307 true l0_0 l1_0 t304 t317)))))) else (some false)))) else (some false)))) = some true := by rw [if_neg (show ¬ (false = true) by decide)] at H; exact H
 clear H
 have H := H1
 clear H1
 replace H := Option.bind_eq_some_iff.mp H
 obtain ⟨t323, A1010, H⟩ := H
 replace H : ((laws_eqBig.f kj24 t309 t323).bind fun t326 => (if t326 = true then ((laws_toBig.f kj24 l1_0).bind fun t327 => ((laws_eqBig.f kj24 t313 t327).bind fun t330 => (if t330 = true then ((laws_markBig.f kj24 t309 1).bind fun bt331 => ((laws_markBig.f kj24 t313 bt331.1).bind fun bt333 => (if bt333.1 < 0 then (laws_FnExactReduceBig.j1 kj24 t307 true l0_0 l1_0 t304 t317) else ((laws_eqBig.f kj24 t317 t304).bind fun t335 => (if t335 = true then (laws_FnExactReduceBig.j1 kj24 t307 (t320 != t307) l0_0 l1_0 t304 t317) else (laws_FnExactReduceBig.j1 kj24 t307 true l0_0 l1_0 t304 t317)))))) else (some false)))) else (some false))) = some true := H
 have A101 := Aside0.mk A1010
 clear A1010
 replace H := Option.bind_eq_some_iff.mp H
 obtain ⟨t326, A1020, H⟩ := H
 replace H : (if t326 = true then ((laws_toBig.f kj24 l1_0).bind fun t327 => ((laws_eqBig.f kj24 t313 t327).bind fun t330 => (if t330 = true then ((laws_markBig.f kj24 t309 1).bind fun bt331 => ((laws_markBig.f kj24 t313 bt331.1).bind fun bt333 => (if bt333.1 < 0 then (laws_FnExactReduceBig.j1 kj24 t307 true l0_0 l1_0 t304 t317) else ((laws_eqBig.f kj24 t317 t304).bind fun t335 => (if t335 = true then (laws_FnExactReduceBig.j1 kj24 t307 (t320 != t307) l0_0 l1_0 t304 t317) else (laws_FnExactReduceBig.j1 kj24 t307 true l0_0 l1_0 t304 t317)))))) else (some false)))) else (some false)) = some true := H
 have A102 := Aside0.mk A1020
 clear A1020
 by_cases c103 : t326 = true
 rotate_left
 · replace c103 := Bool.eq_false_iff.mpr c103
   subst c103
   have H1 : (some false) = some true := by rw [if_neg (show ¬ (false = true) by decide)] at H; exact H
   clear H
   have H := H1
   clear H1
   cases H
 subst c103
 have H1 : ((laws_toBig.f kj24 l1_0).bind fun t327 => ((laws_eqBig.f kj24 t313 t327).bind fun t330 => (if t330 = true then ((laws_markBig.f kj24 t309 1).bind fun bt331 => ((laws_markBig.f kj24 t313 bt331.1).bind fun bt333 => (if bt333.1 < 0 then (laws_FnExactReduceBig.j1 kj24 t307 true l0_0 l1_0 t304 t317) else ((laws_eqBig.f kj24 t317 t304).bind fun t335 => (if t335 = true then (laws_FnExactReduceBig.j1 kj24 t307 (t320 != t307) l0_0 l1_0 t304 t317) else (laws_FnExactReduceBig.j1 kj24 t307 true l0_0 l1_0 t304 t317)))))) else (some false)))) = some true := by rw [if_pos rfl] at H; exact H
 clear H
 have H := H1
 clear H1
 replace H := Option.bind_eq_some_iff.mp H
 obtain ⟨t327, A1040, H⟩ := H
 replace H : ((laws_eqBig.f kj24 t313 t327).bind fun t330 => (if t330 = true then ((laws_markBig.f kj24 t309 1).bind fun bt331 => ((laws_markBig.f kj24 t313 bt331.1).bind fun bt333 => (if bt333.1 < 0 then (laws_FnExactReduceBig.j1 kj24 t307 true l0_0 l1_0 t304 t317) else ((laws_eqBig.f kj24 t317 t304).bind fun t335 => (if t335 = true then (laws_FnExactReduceBig.j1 kj24 t307 (t320 != t307) l0_0 l1_0 t304 t317) else (laws_FnExactReduceBig.j1 kj24 t307 true l0_0 l1_0 t304 t317)))))) else (some false))) = some true := H
 have A104 := Aside0.mk A1040
 clear A1040
 replace H := Option.bind_eq_some_iff.mp H
 obtain ⟨t330, A1050, H⟩ := H
 replace H : (if t330 = true then ((laws_markBig.f kj24 t309 1).bind fun bt331 => ((laws_markBig.f kj24 t313 bt331.1).bind fun bt333 => (if bt333.1 < 0 then (laws_FnExactReduceBig.j1 kj24 t307 true l0_0 l1_0 t304 t317) else ((laws_eqBig.f kj24 t317 t304).bind fun t335 => (if t335 = true then (laws_FnExactReduceBig.j1 kj24 t307 (t320 != t307) l0_0 l1_0 t304 t317) else (laws_FnExactReduceBig.j1 kj24 t307 true l0_0 l1_0 t304 t317)))))) else (some false)) = some true := H
 have A105 := Aside0.mk A1050
 clear A1050
 by_cases c106 : t330 = true
 rotate_left
 · replace c106 := Bool.eq_false_iff.mpr c106
   subst c106
   have H1 : (some false) = some true := by rw [if_neg (show ¬ (false = true) by decide)] at H; exact H
   clear H
   have H := H1
   clear H1
   cases H
 subst c106
 have H1 : ((laws_markBig.f kj24 t309 1).bind fun bt331 => ((laws_markBig.f kj24 t313 bt331.1).bind fun bt333 => (if bt333.1 < 0 then (laws_FnExactReduceBig.j1 kj24 t307 true l0_0 l1_0 t304 t317) else ((laws_eqBig.f kj24 t317 t304).bind fun t335 => (if t335 = true then (laws_FnExactReduceBig.j1 kj24 t307 (t320 != t307) l0_0 l1_0 t304 t317) else (laws_FnExactReduceBig.j1 kj24 t307 true l0_0 l1_0 t304 t317)))))) = some true := by rw [if_pos rfl] at H; exact H
 clear H
 have H := H1
 clear H1
 replace H := Option.bind_eq_some_iff.mp H
 obtain ⟨⟨t331, t332⟩, A1070, H⟩ := H
 replace H : ((laws_markBig.f kj24 t313 t331).bind fun bt333 => (if bt333.1 < 0 then (laws_FnExactReduceBig.j1 kj24 t307 true l0_0 l1_0 t304 t317) else ((laws_eqBig.f kj24 t317 t304).bind fun t335 => (if t335 = true then (laws_FnExactReduceBig.j1 kj24 t307 (t320 != t307) l0_0 l1_0 t304 t317) else (laws_FnExactReduceBig.j1 kj24 t307 true l0_0 l1_0 t304 t317))))) = some true := H
 have A107 := Aside0.mk A1070
 clear A1070
 replace H := Option.bind_eq_some_iff.mp H
 obtain ⟨⟨t333, t334⟩, A1080, H⟩ := H
 replace H : (if t333 < 0 then (laws_FnExactReduceBig.j1 kj24 t307 true l0_0 l1_0 t304 t317) else ((laws_eqBig.f kj24 t317 t304).bind fun t335 => (if t335 = true then (laws_FnExactReduceBig.j1 kj24 t307 (t320 != t307) l0_0 l1_0 t304 t317) else (laws_FnExactReduceBig.j1 kj24 t307 true l0_0 l1_0 t304 t317)))) = some true := H
 have A108 := Aside0.mk A1080
 clear A1080
 have HC109 := Aside0.mk H
 clear H
 try go_wp2
 replace HO_309000 := Aside0.mk (Kd.R_drew HO_309000.out)
 replace HO_313000 := Aside0.mk (Kd.R_drew HO_313000.out)
 replace HO_317000 := Aside0.mk (Kd.R_drew HO_317000.out)
 replace HO_322000 := Aside0.mk (Kd.R_drew HO_322000.out)
 replace BK294 := Aside0.mk (blk_drew BK294.out)
 replace BK295 := Aside0.mk (blk_drew BK295.out)
 replace BK308 := Aside0.mk (blk_drew BK308.out)
 replace BK312 := Aside0.mk (blk_drew BK312.out)
 replace BK316 := Aside0.mk (blk_drew BK316.out)
 replace BK321 := Aside0.mk (blk_drew BK321.out)
 replace HB := Aside0.mk (below_drew1 HB.out)
 refine start_ (n := 5) (S := fun w' => w'.cell? ⟨gb312, 0, none⟩ = some (.slice Ao47 t309.length co47) ∧ w'.cell? ⟨gb294, 0, none⟩ = some (.slice A0_0 l0_0.length c0_0)) (ds := []) #[false, false, false, false, false] (by kernel_rfl) rfl rfl ⟨(blk_cell BK312.out 0).trans rfl, (blk_cell BK294.out 0).trans rfl⟩ (fun hHeld => ?_)
 generalize wc.drew = w110 at HO_309000 HO_313000 HO_317000 HO_322000 BK294 BK295 BK308 BK312 BK316 BK321 HB hHeld ⊢
 refine take_ (i := 0) (N := some 54) (v := ?_) (a' := ?_) #[true, false, false, false, false] rfl rfl (by kernel_rfl) (fun _ _ _ h => h) (Or.inl ⟨by rfl, ?_⟩) hHeld ?_ ?_
 rotate_left
 · rintro w' ⟨s0, s1⟩
   go_simp
   with_reducible rfl
 rotate_left
 · simp only [Act.put, List.setIfInBounds_toArray, List.set_cons_zero, List.set_cons_succ, i64_w, i32_w]
   rfl
 refine take_ (i := 1) (N := some 55) (v := ?_) (a' := ?_) #[true, true, false, false, false] rfl rfl (by kernel_rfl) (fun _ _ _ h => h) (Or.inl ⟨by rfl, ?_⟩) hHeld ?_ ?_
 rotate_left
 · rintro w' ⟨s0, s1⟩
   go_simp
   with_reducible rfl
 rotate_left
 · simp only [Act.put, List.setIfInBounds_toArray, List.set_cons_zero, List.set_cons_succ, i64_w, i32_w]
   rfl
 refine one_ (i := 2) (N := some 56) #[true, true, true, false, false] rfl rfl (by kernel_rfl) (by decide) (fun K hK => ?_)
 refine goes_ Try.func17 (by kernel_rfl) rfl #[.agg #[.slice A0_0 l0_0.length c0_0]] (by rfl) rfl rfl (by (try simp only [List.map_toArray, List.map_cons, List.map_nil]); first | done | rfl | (simp only [List.length_drop, List.length_take]; rfl)) ?_
 with_reducible refine (laws_toBig.calls kj24 _ _ l0_0 t323 _ ?side1 ?side2 A101.out).mono ?_
 (case side1 => repeat (first | exact (Kd.C_below HR0_0.out HB.out) | (with_reducible refine Kd.C_alloc ?_ _) | (with_reducible refine Kd.C_drewN ?_ _) | (with_reducible refine Kd.C_drew ?_)))
 (case side2 => exact HC0_0.out)
 rintro e w111 ⟨v324, rfl, ho0, hb⟩
 refine ⟨_, rfl, ?_⟩
 have n0_ := ce HO_309000 ho0 hb
 have n1_ := ce HO_313000 ho0 hb
 have n2_ := ce HO_317000 ho0 hb
 have n3_ := ce HO_322000 ho0 hb
 have HO325 := Aside0.mk (Kd.R_lower (Kd.R_new' (Kd.R_new' (Kd.R_new' (Kd.R_new' ho0 (ql HO_309000)) (ql HO_313000)) (ql HO_317000)) (ql HO_322000)) (below_size (hq6 HB GE294 GE295 GE308 GE312 GE316 GE321)))
 replace BK294 := cB BK294 hb
 replace BK295 := cB BK295 hb
 replace BK308 := cB BK308 hb
 replace BK312 := cB BK312 hb
 replace BK316 := cB BK316 hb
 replace BK321 := cB BK321 hb
 replace HB := cs (hq6 HB GE294 GE295 GE308 GE312 GE316 GE321) hb
 replace HO_309000 := n0_
 replace HO_313000 := n1_
 replace HO_317000 := n2_
 replace HO_322000 := n3_
 clear n0_ n1_ n2_ n3_
 (try clear hb)
 (try clear hb2)
 (try clear hk)
 (try clear hi)
 (try clear ho0)
 obtain ⟨Ao112, co112, eo112⟩ := Kd.R_slice HO325.out
 (first | subst eo112 | (injection eo112 with f1_ f2_ f3_; have f4_ := f1_.symm; have f5_ := f3_.symm; clear f1_ f2_ f3_; subst f4_; subst f5_))
 refine hK.out _ _ ⟨(blk_cell BK312.out 0).trans rfl, (blk_cell BK294.out 0).trans rfl⟩ (fun hHeld => ?_)
 clear hK K
 refine norm_ (a' := ?_) ?_ ?_
 rotate_left
 · show Act.put _ (some 56) _ = _
   simp only [Act.put, List.setIfInBounds_toArray, List.set_cons_zero, List.set_cons_succ, i64_w, i32_w]
   rfl
 refine one_ (i := 3) (N := some 57) #[true, true, true, true, false] rfl rfl (by kernel_rfl) (by decide) (fun K hK => ?_)
 refine goes_ Try.func19 (by kernel_rfl) rfl #[.agg #[.slice Ao47 t309.length co47], .agg #[.slice Ao112 t323.length co112]] (by rfl) rfl rfl (by (try simp only [List.map_toArray, List.map_cons, List.map_nil]); first | done | rfl | (simp only [List.length_drop, List.length_take]; rfl)) ?_
 with_reducible refine (laws_eqBig.calls kj24 _ _ t309 _ _ t323 true _ ?side1 ?side2 ?side3 ?side4 A102.out).mono ?_
 (case side1 => repeat (first | exact (Kd.R_reads' HO_313000.out).2.2 | (with_reducible refine Kd.C_alloc ?_ _) | (with_reducible refine Kd.C_drewN ?_ _) | (with_reducible refine Kd.C_drew ?_)))
 (case side2 => exact (Kd.R_reads' HO_313000.out).2.1)
 (case side3 => repeat (first | exact (Kd.R_reads' HO325.out).2.2 | (with_reducible refine Kd.C_alloc ?_ _) | (with_reducible refine Kd.C_drewN ?_ _) | (with_reducible refine Kd.C_drew ?_)))
 (case side4 => exact (Kd.R_reads' HO325.out).2.1)
 rintro e w113 ⟨rfl, hb⟩
 refine ⟨_, rfl, ?_⟩
 replace HO_309000 := cb HO_309000 hb
 replace HO_313000 := cb HO_313000 hb
 replace HO_317000 := cb HO_317000 hb
 replace HO_322000 := cb HO_322000 hb
 replace HO325 := cb HO325 hb
 replace BK294 := cB BK294 hb
 replace BK295 := cB BK295 hb
 replace BK308 := cB BK308 hb
 replace BK312 := cB BK312 hb
 replace BK316 := cB BK316 hb
 replace BK321 := cB BK321 hb
 replace HB := cs (hq6 HB GE294 GE295 GE308 GE312 GE316 GE321) hb
 (try clear hb)
 (try clear hb2)
 (try clear hk)
 (try clear hi)
 refine hK.out _ _ ⟨(blk_cell BK312.out 0).trans rfl, (blk_cell BK294.out 0).trans rfl⟩ (fun hHeld => ?_)
 clear hK K
 refine norm_ (a' := ?_) ?_ ?_
 rotate_left
 · show Act.put _ (some 57) _ = _
   simp only [Act.put, List.setIfInBounds_toArray, List.set_cons_zero, List.set_cons_succ, i64_w, i32_w]
   rfl
 refine pure_ (i := 4) (N := some 58) (v := ?_) (a' := ?_) #[true, true, true, true, true] rfl rfl (by kernel_rfl) (fun _ _ _ h => h) (Or.inl ⟨by rfl, ?_⟩) ?_ ?_
 rotate_left
 · intro w'
   first | (go_simp; with_reducible rfl) | (go_simp; unfold Instr.field; go_simp; rfl)
 rotate_left
 · simp only [Act.put, List.setIfInBounds_toArray, List.set_cons_zero, List.set_cons_succ, i64_w, i32_w]
   rfl
 refine done_ (by kernel_rfl) ?_
 try go_wp2
 replace HO_309000 := Aside0.mk (Kd.R_drew HO_309000.out)
 replace HO_313000 := Aside0.mk (Kd.R_drew HO_313000.out)
 replace HO_317000 := Aside0.mk (Kd.R_drew HO_317000.out)
 replace HO_322000 := Aside0.mk (Kd.R_drew HO_322000.out)
 replace HO325 := Aside0.mk (Kd.R_drew HO325.out)
 replace BK294 := Aside0.mk (blk_drew BK294.out)
 replace BK295 := Aside0.mk (blk_drew BK295.out)
 replace BK308 := Aside0.mk (blk_drew BK308.out)
 replace BK312 := Aside0.mk (blk_drew BK312.out)
 replace BK316 := Aside0.mk (blk_drew BK316.out)
 replace BK321 := Aside0.mk (blk_drew BK321.out)
 replace HB := Aside0.mk (below_drew1 HB.out)
 refine start_ (n := 5) (S := fun w' => w'.cell? ⟨gb316, 0, none⟩ = some (.slice Ao56 t313.length co56) ∧ w'.cell? ⟨gb295, 0, none⟩ = some (.slice A1_0 l1_0.length c1_0)) (ds := []) #[false, false, false, false, false] (by kernel_rfl) rfl rfl ⟨(blk_cell BK316.out 0).trans rfl, (blk_cell BK295.out 0).trans rfl⟩ (fun hHeld => ?_)
 generalize w113.drew = w114 at HO_309000 HO_313000 HO_317000 HO_322000 HO325 BK294 BK295 BK308 BK312 BK316 BK321 HB hHeld ⊢
 refine take_ (i := 0) (N := some 59) (v := ?_) (a' := ?_) #[true, false, false, false, false] rfl rfl (by kernel_rfl) (fun _ _ _ h => h) (Or.inl ⟨by rfl, ?_⟩) hHeld ?_ ?_
 rotate_left
 · rintro w' ⟨s0, s1⟩
   go_simp
   with_reducible rfl
 rotate_left
 · simp only [Act.put, List.setIfInBounds_toArray, List.set_cons_zero, List.set_cons_succ, i64_w, i32_w]
   rfl
 refine take_ (i := 1) (N := some 60) (v := ?_) (a' := ?_) #[true, true, false, false, false] rfl rfl (by kernel_rfl) (fun _ _ _ h => h) (Or.inl ⟨by rfl, ?_⟩) hHeld ?_ ?_
 rotate_left
 · rintro w' ⟨s0, s1⟩
   go_simp
   with_reducible rfl
 rotate_left
 · simp only [Act.put, List.setIfInBounds_toArray, List.set_cons_zero, List.set_cons_succ, i64_w, i32_w]
   rfl
 refine one_ (i := 2) (N := some 61) #[true, true, true, false, false] rfl rfl (by kernel_rfl) (by decide) (fun K hK => ?_)
 refine goes_ Try.func17 (by kernel_rfl) rfl #[.agg #[.slice A1_0 l1_0.length c1_0]] (by rfl) rfl rfl (by (try simp only [List.map_toArray, List.map_cons, List.map_nil]); first | done | rfl | (simp only [List.length_drop, List.length_take]; rfl)) ?_
 with_reducible refine (laws_toBig.calls kj24 _ _ l1_0 t327 _ ?side1 ?side2 A104.out).mono ?_
 (case side1 => repeat (first | exact (Kd.C_below HR1_0.out HB.out) | (with_reducible refine Kd.C_alloc ?_ _) | (with_reducible refine Kd.C_drewN ?_ _) | (with_reducible refine Kd.C_drew ?_)))
 (case side2 => exact HC1_0.out)
 rintro e w115 ⟨v328, rfl, ho0, hb⟩
 refine ⟨_, rfl, ?_⟩
 have n0_ := ce HO_309000 ho0 hb
 have n1_ := ce HO_313000 ho0 hb
 have n2_ := ce HO_317000 ho0 hb
 have n3_ := ce HO_322000 ho0 hb
 have n4_ := ce HO325 ho0 hb
 have HO329 := Aside0.mk (Kd.R_lower (Kd.R_new' (Kd.R_new' (Kd.R_new' (Kd.R_new' (Kd.R_new' ho0 (ql HO_309000)) (ql HO_313000)) (ql HO_317000)) (ql HO_322000)) (ql HO325)) (below_size (hq6 HB GE294 GE295 GE308 GE312 GE316 GE321)))
 replace BK294 := cB BK294 hb
 replace BK295 := cB BK295 hb
 replace BK308 := cB BK308 hb
 replace BK312 := cB BK312 hb
 replace BK316 := cB BK316 hb
 replace BK321 := cB BK321 hb
 replace HB := cs (hq6 HB GE294 GE295 GE308 GE312 GE316 GE321) hb
 replace HO_309000 := n0_
 replace HO_313000 := n1_
 replace HO_317000 := n2_
 replace HO_322000 := n3_
 replace HO325 := n4_
 clear n0_ n1_ n2_ n3_ n4_
 (try clear hb)
 (try clear hb2)
 (try clear hk)
 (try clear hi)
 (try clear ho0)
 obtain ⟨Ao116, co116, eo116⟩ := Kd.R_slice HO329.out
 (first | subst eo116 | (injection eo116 with f1_ f2_ f3_; have f4_ := f1_.symm; have f5_ := f3_.symm; clear f1_ f2_ f3_; subst f4_; subst f5_))
 refine hK.out _ _ ⟨(blk_cell BK316.out 0).trans rfl, (blk_cell BK295.out 0).trans rfl⟩ (fun hHeld => ?_)
 clear hK K
 refine norm_ (a' := ?_) ?_ ?_
 rotate_left
 · show Act.put _ (some 61) _ = _
   simp only [Act.put, List.setIfInBounds_toArray, List.set_cons_zero, List.set_cons_succ, i64_w, i32_w]
   rfl
 refine one_ (i := 3) (N := some 62) #[true, true, true, true, false] rfl rfl (by kernel_rfl) (by decide) (fun K hK => ?_)
 refine goes_ Try.func19 (by kernel_rfl) rfl #[.agg #[.slice Ao56 t313.length co56], .agg #[.slice Ao116 t327.length co116]] (by rfl) rfl rfl (by (try simp only [List.map_toArray, List.map_cons, List.map_nil]); first | done | rfl | (simp only [List.length_drop, List.length_take]; rfl)) ?_
 with_reducible refine (laws_eqBig.calls kj24 _ _ t313 _ _ t327 true _ ?side1 ?side2 ?side3 ?side4 A105.out).mono ?_
 (case side1 => repeat (first | exact (Kd.R_reads' HO_317000.out).2.2 | (with_reducible refine Kd.C_alloc ?_ _) | (with_reducible refine Kd.C_drewN ?_ _) | (with_reducible refine Kd.C_drew ?_)))
 (case side2 => exact (Kd.R_reads' HO_317000.out).2.1)
 (case side3 => repeat (first | exact (Kd.R_reads' HO329.out).2.2 | (with_reducible refine Kd.C_alloc ?_ _) | (with_reducible refine Kd.C_drewN ?_ _) | (with_reducible refine Kd.C_drew ?_)))
 (case side4 => exact (Kd.R_reads' HO329.out).2.1)
 rintro e w117 ⟨rfl, hb⟩
 refine ⟨_, rfl, ?_⟩
 replace HO_309000 := cb HO_309000 hb
 replace HO_313000 := cb HO_313000 hb
 replace HO_317000 := cb HO_317000 hb
 replace HO_322000 := cb HO_322000 hb
 replace HO325 := cb HO325 hb
 replace HO329 := cb HO329 hb
 replace BK294 := cB BK294 hb
 replace BK295 := cB BK295 hb
 replace BK308 := cB BK308 hb
 replace BK312 := cB BK312 hb
 replace BK316 := cB BK316 hb
 replace BK321 := cB BK321 hb
 replace HB := cs (hq6 HB GE294 GE295 GE308 GE312 GE316 GE321) hb
 (try clear hb)
 (try clear hb2)
 (try clear hk)
 (try clear hi)
 refine hK.out _ _ ⟨(blk_cell BK316.out 0).trans rfl, (blk_cell BK295.out 0).trans rfl⟩ (fun hHeld => ?_)
 clear hK K
 refine norm_ (a' := ?_) ?_ ?_
 rotate_left
 · show Act.put _ (some 62) _ = _
   simp only [Act.put, List.setIfInBounds_toArray, List.set_cons_zero, List.set_cons_succ, i64_w, i32_w]
   rfl
 refine pure_ (i := 4) (N := some 63) (v := ?_) (a' := ?_) #[true, true, true, true, true] rfl rfl (by kernel_rfl) (fun _ _ _ h => h) (Or.inl ⟨by rfl, ?_⟩) ?_ ?_
 rotate_left
 · intro w'
   first | (go_simp; with_reducible rfl) | (go_simp; unfold Instr.field; go_simp; rfl)
 rotate_left
 · simp only [Act.put, List.setIfInBounds_toArray, List.set_cons_zero, List.set_cons_succ, i64_w, i32_w]
   rfl
 refine done_ (by kernel_rfl) ?_
 have hnb118 := NB312_294.out
 have hnc118 := NB294_312.out
 have hnb119 := NB312_295.out
 have hnc119 := NB295_312.out
 have hnb120 := NB312_308.out
 have hnc120 := NB308_312.out
 have hnb121 := NB312_316.out
 have hnc121 := NB316_312.out
 have hnb122 := NB312_321.out
 have hnc122 := NB321_312.out
 have hcz123_0 : w117.cell? ⟨gb312, 0, none⟩ = some (.slice Ao47 t309.length co47) := (blk_cell BK312.out 0).trans rfl
 have hfz123_0 := blk_frozen BK312.out 0
 go_upto_region 21 with (first | ((with_reducible refine gate_callee (f := 22) rfl ?_); refine goesL_ (some 66) rfl rfl Try.func22 (by kernel_rfl) rfl #[.agg #[.slice Ao47 t309.length co47], .int .i64 1] rfl (by (try simp only [List.map_toArray, List.map_cons, List.map_nil]); first | done | rfl | (simp only [List.length_drop, List.length_take]; rfl)) ?_; (with_reducible refine (laws_markBig.calls kj24 (fun k_ => some k_ = (.slice Ao47 t309.length co47 : Value).ownBlock) (.slice Ao47 t309.length co47) t309 1 t331 t332 w _ ?side1 ?side2 A107.out).mono ?_); (case side1 => repeat (first | (with_reducible first | exact HB.out | apply below_alloc | apply pw_below_drewN | apply below_drew1 | refine below_set ?_ GE294.out | refine below_set ?_ GE295.out | refine below_set ?_ GE308.out | refine below_set ?_ GE312.out | refine below_set ?_ GE316.out | refine below_set ?_ GE321.out) | exact HB.out)); (case side2 => exact Kd.R_tight rfl HO_313000.out); rintro e w124 ⟨rfl, hy0, hb, hkp⟩; refine ⟨_, rfl, ?_⟩; replace HO_309000 := Aside0.mk (Kd.R_mono (ok' := fun k_ => some k_ ≠ (.slice Ao47 t309.length co47 : Value).ownBlock ∧ some k_ ≠ (.slice Ao56 t313.length co56 : Value).ownBlock ∧ some k_ ≠ (.slice Ao67 t317.length co67 : Value).ownBlock ∧ some k_ ≠ (.slice Ao112 t323.length co112 : Value).ownBlock ∧ some k_ ≠ (.slice Ao116 t327.length co116 : Value).ownBlock) (Kd.R_keptB (HO_309000.out) hkp (fun k_ hk_ hs_ => (hk_.1.1.1) hs_)) (fun k_ hk_ => ⟨hk_.1.1.1.1, hk_.1.1.1.2.1, hk_.1.1.1.2.2, hk_.1.1.2, hk_.1.2⟩)); have n1_ := Aside0.mk (Kd.R_reok rfl hy0 (fun k_ e_ => HO_313000.out.1 k_ e_)); replace HO_317000 := Aside0.mk (Kd.R_mono (ok' := fun k_ => some k_ ≠ (.slice Ao41 t304.length co41 : Value).ownBlock ∧ some k_ ≠ (.slice Ao47 t309.length co47 : Value).ownBlock ∧ some k_ ≠ (.slice Ao67 t317.length co67 : Value).ownBlock ∧ some k_ ≠ (.slice Ao112 t323.length co112 : Value).ownBlock ∧ some k_ ≠ (.slice Ao116 t327.length co116 : Value).ownBlock) (Kd.R_keptB (HO_317000.out) hkp (fun k_ hk_ hs_ => (hk_.1.1.2.1) hs_)) (fun k_ hk_ => ⟨hk_.1.1.1.1, hk_.1.1.1.2.1, hk_.1.1.1.2.2, hk_.1.1.2, hk_.1.2⟩)); replace HO_322000 := Aside0.mk (Kd.R_mono (ok' := fun k_ => some k_ ≠ (.slice Ao41 t304.length co41 : Value).ownBlock ∧ some k_ ≠ (.slice Ao47 t309.length co47 : Value).ownBlock ∧ some k_ ≠ (.slice Ao56 t313.length co56 : Value).ownBlock ∧ some k_ ≠ (.slice Ao112 t323.length co112 : Value).ownBlock ∧ some k_ ≠ (.slice Ao116 t327.length co116 : Value).ownBlock) (Kd.R_keptB (HO_322000.out) hkp (fun k_ hk_ hs_ => (hk_.1.1.2.1) hs_)) (fun k_ hk_ => ⟨hk_.1.1.1.1, hk_.1.1.1.2.1, hk_.1.1.1.2.2, hk_.1.1.2, hk_.1.2⟩)); replace BK294 := Aside0.mk (blk_kept (bq BK294) hkp (fun hs_ => (fun e_ => (Kd.R_ne HO_313000.out BK294.out (by decide)) e_) hs_)); replace BK295 := Aside0.mk (blk_kept (bq BK295) hkp (fun hs_ => (fun e_ => (Kd.R_ne HO_313000.out BK295.out (by decide)) e_) hs_)); replace BK308 := Aside0.mk (blk_kept (bq BK308) hkp (fun hs_ => (fun e_ => (Kd.R_ne HO_313000.out BK308.out (by decide)) e_) hs_)); replace BK312 := Aside0.mk (blk_kept (bq BK312) hkp (fun hs_ => (fun e_ => (Kd.R_ne HO_313000.out BK312.out (by decide)) e_) hs_)); replace BK316 := Aside0.mk (blk_kept (bq BK316) hkp (fun hs_ => (fun e_ => (Kd.R_ne HO_313000.out BK316.out (by decide)) e_) hs_)); replace BK321 := Aside0.mk (blk_kept (bq BK321) hkp (fun hs_ => (fun e_ => (Kd.R_ne HO_313000.out BK321.out (by decide)) e_) hs_)); replace HO325 := Aside0.mk (Kd.R_mono (ok' := fun k_ => some k_ ≠ (.slice Ao41 t304.length co41 : Value).ownBlock ∧ some k_ ≠ (.slice Ao47 t309.length co47 : Value).ownBlock ∧ some k_ ≠ (.slice Ao56 t313.length co56 : Value).ownBlock ∧ some k_ ≠ (.slice Ao67 t317.length co67 : Value).ownBlock ∧ some k_ ≠ (.slice Ao116 t327.length co116 : Value).ownBlock) (Kd.R_keptB (HO325.out) hkp (fun k_ hk_ hs_ => (hk_.1.1.1.2) hs_)) (fun k_ hk_ => ⟨hk_.1.1.1.1.1.2, hk_.1.1.1.1.2, hk_.1.1.1.2, hk_.1.1.2, hk_.1.2⟩)); replace HO329 := Aside0.mk (Kd.R_mono (ok' := fun k_ => some k_ ≠ (.slice Ao41 t304.length co41 : Value).ownBlock ∧ some k_ ≠ (.slice Ao47 t309.length co47 : Value).ownBlock ∧ some k_ ≠ (.slice Ao56 t313.length co56 : Value).ownBlock ∧ some k_ ≠ (.slice Ao67 t317.length co67 : Value).ownBlock ∧ some k_ ≠ (.slice Ao112 t323.length co112 : Value).ownBlock) (Kd.R_keptB (HO329.out) hkp (fun k_ hk_ hs_ => (hk_.1.1.1.2) hs_)) (fun k_ hk_ => ⟨hk_.1.1.1.1.1.2, hk_.1.1.1.1.2, hk_.1.1.1.2, hk_.1.1.2, hk_.1.2⟩)); replace HB := Aside0.mk (hb); replace HO_313000 := n1_; clear n1_; (try clear hb); (try clear hkp); (try clear hy0); have hnb125 := NB316_294.out; have hnc125 := NB294_316.out; have hnb126 := NB316_295.out; have hnc126 := NB295_316.out; have hnb127 := NB316_308.out; have hnc127 := NB308_316.out; have hnb128 := NB316_321.out; have hnc128 := NB321_316.out; have hcz129_0 : w124.cell? ⟨gb316, 0, none⟩ = some (.slice Ao56 t313.length co56) := (blk_cell BK316.out 0).trans rfl; have hfz129_0 := blk_frozen BK316.out 0) | ((with_reducible refine gate_callee (f := 22) rfl ?_); refine goesL_ (some 69) rfl rfl Try.func22 (by kernel_rfl) rfl #[.agg #[.slice Ao56 t313.length co56], .int .i64 t331] rfl (by (try simp only [List.map_toArray, List.map_cons, List.map_nil]); first | done | rfl | (simp only [List.length_drop, List.length_take]; rfl)) ?_; (with_reducible refine (laws_markBig.calls kj24 (fun k_ => some k_ = (.slice Ao56 t313.length co56 : Value).ownBlock) (.slice Ao56 t313.length co56) t313 t331 t333 t334 w _ ?side1 ?side2 A108.out).mono ?_); (case side1 => repeat (first | (with_reducible first | exact HB.out | apply below_alloc | apply pw_below_drewN | apply below_drew1 | refine below_set ?_ GE294.out | refine below_set ?_ GE295.out | refine below_set ?_ GE308.out | refine below_set ?_ GE312.out | refine below_set ?_ GE316.out | refine below_set ?_ GE321.out) | exact HB.out)); (case side2 => exact Kd.R_tight rfl HO_317000.out); rintro e w130 ⟨rfl, hy0, hb, hkp⟩; refine ⟨_, rfl, ?_⟩; replace HO_309000 := Aside0.mk (Kd.R_mono (ok' := fun k_ => some k_ ≠ (.slice Ao47 t309.length co47 : Value).ownBlock ∧ some k_ ≠ (.slice Ao56 t313.length co56 : Value).ownBlock ∧ some k_ ≠ (.slice Ao67 t317.length co67 : Value).ownBlock ∧ some k_ ≠ (.slice Ao112 t323.length co112 : Value).ownBlock ∧ some k_ ≠ (.slice Ao116 t327.length co116 : Value).ownBlock) (Kd.R_keptB (HO_309000.out) hkp (fun k_ hk_ hs_ => (hk_.2.1) hs_)) (fun k_ hk_ => ⟨hk_.1.1, hk_.1.2.1, hk_.1.2.2.1, hk_.1.2.2.2.1, hk_.1.2.2.2.2⟩)); replace HO_313000 := Aside0.mk (Kd.R_mono (ok' := fun k_ => some k_ ≠ (.slice Ao41 t304.length co41 : Value).ownBlock ∧ some k_ ≠ (.slice Ao56 t313.length co56 : Value).ownBlock ∧ some k_ ≠ (.slice Ao67 t317.length co67 : Value).ownBlock ∧ some k_ ≠ (.slice Ao112 t323.length co112 : Value).ownBlock ∧ some k_ ≠ (.slice Ao116 t327.length co116 : Value).ownBlock) (Kd.R_keptB (HO_313000.out) hkp (fun k_ hk_ hs_ => (hk_.1.1.2.1) hs_)) (fun k_ hk_ => ⟨hk_.1.1.1.1, hk_.1.1.1.2.1, hk_.1.1.1.2.2, hk_.1.1.2, hk_.1.2⟩)); have n2_ := Aside0.mk (Kd.R_reok rfl hy0 (fun k_ e_ => HO_317000.out.1 k_ e_)); replace HO_322000 := Aside0.mk (Kd.R_mono (ok' := fun k_ => some k_ ≠ (.slice Ao41 t304.length co41 : Value).ownBlock ∧ some k_ ≠ (.slice Ao47 t309.length co47 : Value).ownBlock ∧ some k_ ≠ (.slice Ao56 t313.length co56 : Value).ownBlock ∧ some k_ ≠ (.slice Ao112 t323.length co112 : Value).ownBlock ∧ some k_ ≠ (.slice Ao116 t327.length co116 : Value).ownBlock) (Kd.R_keptB (HO_322000.out) hkp (fun k_ hk_ hs_ => (hk_.2.2.1) hs_)) (fun k_ hk_ => ⟨hk_.1.1, hk_.1.2.1, hk_.1.2.2.1, hk_.1.2.2.2.1, hk_.1.2.2.2.2⟩)); replace BK294 := Aside0.mk (blk_kept (bq BK294) hkp (fun hs_ => (fun e_ => (Kd.R_ne HO_317000.out BK294.out (by decide)) e_) hs_)); replace BK295 := Aside0.mk (blk_kept (bq BK295) hkp (fun hs_ => (fun e_ => (Kd.R_ne HO_317000.out BK295.out (by decide)) e_) hs_)); replace BK308 := Aside0.mk (blk_kept (bq BK308) hkp (fun hs_ => (fun e_ => (Kd.R_ne HO_317000.out BK308.out (by decide)) e_) hs_)); replace BK312 := Aside0.mk (blk_kept (bq BK312) hkp (fun hs_ => (fun e_ => (Kd.R_ne HO_317000.out BK312.out (by decide)) e_) hs_)); replace BK316 := Aside0.mk (blk_kept (bq BK316) hkp (fun hs_ => (fun e_ => (Kd.R_ne HO_317000.out BK316.out (by decide)) e_) hs_)); replace BK321 := Aside0.mk (blk_kept (bq BK321) hkp (fun hs_ => (fun e_ => (Kd.R_ne HO_317000.out BK321.out (by decide)) e_) hs_)); replace HO325 := Aside0.mk (Kd.R_mono (ok' := fun k_ => some k_ ≠ (.slice Ao41 t304.length co41 : Value).ownBlock ∧ some k_ ≠ (.slice Ao47 t309.length co47 : Value).ownBlock ∧ some k_ ≠ (.slice Ao56 t313.length co56 : Value).ownBlock ∧ some k_ ≠ (.slice Ao67 t317.length co67 : Value).ownBlock ∧ some k_ ≠ (.slice Ao116 t327.length co116 : Value).ownBlock) (Kd.R_keptB (HO325.out) hkp (fun k_ hk_ hs_ => (hk_.2.2.1) hs_)) (fun k_ hk_ => ⟨hk_.1.1, hk_.1.2.1, hk_.1.2.2.1, hk_.1.2.2.2.1, hk_.1.2.2.2.2⟩)); replace HO329 := Aside0.mk (Kd.R_mono (ok' := fun k_ => some k_ ≠ (.slice Ao41 t304.length co41 : Value).ownBlock ∧ some k_ ≠ (.slice Ao47 t309.length co47 : Value).ownBlock ∧ some k_ ≠ (.slice Ao56 t313.length co56 : Value).ownBlock ∧ some k_ ≠ (.slice Ao67 t317.length co67 : Value).ownBlock ∧ some k_ ≠ (.slice Ao112 t323.length co112 : Value).ownBlock) (Kd.R_keptB (HO329.out) hkp (fun k_ hk_ hs_ => (hk_.2.2.1) hs_)) (fun k_ hk_ => ⟨hk_.1.1, hk_.1.2.1, hk_.1.2.2.1, hk_.1.2.2.2.1, hk_.1.2.2.2.2⟩)); replace HB := Aside0.mk (hb); replace HO_317000 := n2_; clear n2_; (try clear hb); (try clear hkp); (try clear hy0)))
 (try simp only [Act.put, List.setIfInBounds_toArray, List.set_cons_zero, List.set_cons_succ])
 go_cut [82] (fun v82 wc => ∃ (kq : Nat) (x82_108 : Bool), v82 = .bool x82_108 ∧ Aside0 (laws_FnExactReduceBig.j1 kq t307 x82_108 l0_0 l1_0 t304 t317 = some true) ∧ Aside0 (kq ≤ kj24) ∧ Aside0 (Kd.R (Kd.int .i64) 3 wc w.heap.size (fun k_ => some k_ ≠ ((.slice Ao47 t309.length co47) : Value).ownBlock ∧ some k_ ≠ ((.slice Ao56 t313.length co56) : Value).ownBlock ∧ some k_ ≠ ((.slice Ao67 t317.length co67) : Value).ownBlock) (.slice Ao41 t304.length co41) t304) ∧ Aside0 (Kd.R (Kd.int .i64) 3 wc w.heap.size (fun k_ => some k_ ≠ ((.slice Ao41 t304.length co41) : Value).ownBlock ∧ some k_ ≠ ((.slice Ao56 t313.length co56) : Value).ownBlock ∧ some k_ ≠ ((.slice Ao67 t317.length co67) : Value).ownBlock) (.slice Ao47 t309.length co47) t332) ∧ Aside0 (Kd.R (Kd.int .i64) 3 wc w.heap.size (fun k_ => some k_ ≠ ((.slice Ao41 t304.length co41) : Value).ownBlock ∧ some k_ ≠ ((.slice Ao47 t309.length co47) : Value).ownBlock ∧ some k_ ≠ ((.slice Ao67 t317.length co67) : Value).ownBlock) (.slice Ao56 t313.length co56) t334) ∧ Aside0 (Kd.R (Kd.int .i64) 3 wc w.heap.size (fun k_ => some k_ ≠ ((.slice Ao41 t304.length co41) : Value).ownBlock ∧ some k_ ≠ ((.slice Ao47 t309.length co47) : Value).ownBlock ∧ some k_ ≠ ((.slice Ao56 t313.length co56) : Value).ownBlock) (.slice Ao67 t317.length co67) t317) ∧ Aside0 (wc.heap[gb294]? = some (.cells #[(.slice A0_0 l0_0.length c0_0)] 24 (0, 0))) ∧ Aside0 (wc.heap[gb295]? = some (.cells #[(.slice A1_0 l1_0.length c1_0)] 24 (0, 0))) ∧ Aside0 (wc.heap[gb308]? = some (.cells #[(.slice Ao41 t304.length co41)] 27 (0, 0))) ∧ Aside0 (wc.heap[gb312]? = some (.cells #[(.slice Ao47 t309.length co47)] 27 (0, 0))) ∧ Aside0 (wc.heap[gb316]? = some (.cells #[(.slice Ao56 t313.length co56)] 27 (0, 0))) ∧ Aside0 (wc.heap[gb321]? = some (.cells #[(.slice Ao67 t317.length co67)] 27 (0, 0))) ∧ Aside0 (Below w.heap.size w wc))
 case first =>
   have H := HC109.out
   clear HC109
   by_cases c131 : t333 < 0
   · rw [if_pos c131] at H
     have c131b0 : decide (t333 < 0) = true := decide_eq_true c131
     clear c131
     (first | rw [c131b0] | (simp only [i64_w, i32_w]; rw [c131b0]) | skip)
     have H' := Aside0.mk H
     clear H
     go_wp2
     go_meet
     case rel => exact ⟨_, (true), (by first | rfl | (simp; done) | (simp [*]; done)), H', ⟨by have := HJ24.out; first | omega | exact Nat.le_refl _⟩, ⟨by (with_reducible repeat (first | apply Kd.R_alloc | apply Kd.R_drewN | apply Kd.R_drew)); exact Kd.R_mono HO_309000.out (fun _ hk => ⟨hk.1, ⟨hk.2.1, hk.2.2.1⟩⟩)⟩, ⟨by (with_reducible repeat (first | apply Kd.R_alloc | apply Kd.R_drewN | apply Kd.R_drew)); exact Kd.R_mono HO_313000.out (fun _ hk => ⟨hk.1, ⟨hk.2.1, hk.2.2.1⟩⟩)⟩, ⟨by (with_reducible repeat (first | apply Kd.R_alloc | apply Kd.R_drewN | apply Kd.R_drew)); exact Kd.R_mono HO_317000.out (fun _ hk => ⟨hk.1, ⟨hk.2.1, hk.2.2.1⟩⟩)⟩, ⟨by (with_reducible repeat (first | apply Kd.R_alloc | apply Kd.R_drewN | apply Kd.R_drew)); exact Kd.R_mono HO_322000.out (fun _ hk => ⟨hk.1, ⟨hk.2.1, hk.2.2.1⟩⟩)⟩, ⟨by (with_reducible repeat (first | refine blk_drewN ?_ _ | refine blk_drew ?_ | refine blk_alloc ?_ _)); exact BK294.out⟩, ⟨by (with_reducible repeat (first | refine blk_drewN ?_ _ | refine blk_drew ?_ | refine blk_alloc ?_ _)); exact BK295.out⟩, ⟨by (with_reducible repeat (first | refine blk_drewN ?_ _ | refine blk_drew ?_ | refine blk_alloc ?_ _)); exact BK308.out⟩, ⟨by (with_reducible repeat (first | refine blk_drewN ?_ _ | refine blk_drew ?_ | refine blk_alloc ?_ _)); exact BK312.out⟩, ⟨by (with_reducible repeat (first | refine blk_drewN ?_ _ | refine blk_drew ?_ | refine blk_alloc ?_ _)); exact BK316.out⟩, ⟨by (with_reducible repeat (first | refine blk_drewN ?_ _ | refine blk_drew ?_ | refine blk_alloc ?_ _)); exact BK321.out⟩, ⟨hq6 HB GE294 GE295 GE308 GE312 GE316 GE321⟩⟩
   rw [if_neg c131] at H
   have c131b0 : decide (t333 < 0) = false := decide_eq_false c131
   clear c131
   (first | rw [c131b0] | (simp only [i64_w, i32_w]; rw [c131b0]) | skip)
   replace H := Option.bind_eq_some_iff.mp H
   obtain ⟨t335, A1320, H⟩ := H
   replace H : (if t335 = true then (laws_FnExactReduceBig.j1 kj24 t307 (t320 != t307) l0_0 l1_0 t304 t317) else (laws_FnExactReduceBig.j1 kj24 t307 true l0_0 l1_0 t304 t317)) = some true := H
   have A132 := Aside0.mk A1320
   clear A1320
   by_cases c133 : t335 = true
   · subst c133
     have H1 : (laws_FnExactReduceBig.j1 kj24 t307 (t320 != t307) l0_0 l1_0 t304 t317) = some true := by rw [if_pos rfl] at H; exact H
     clear H
     have H := H1
     clear H1
     have H' := Aside0.mk H
     clear H
     have hnb134 := NB321_294.out
     have hnc134 := NB294_321.out
     have hnb135 := NB321_295.out
     have hnc135 := NB295_321.out
     have hnb136 := NB321_308.out
     have hnc136 := NB308_321.out
     have hnb137 := NB321_312.out
     have hnc137 := NB312_321.out
     have hnb138 := NB321_316.out
     have hnc138 := NB316_321.out
     have hcz139_0 : w130.cell? ⟨gb321, 0, none⟩ = some (.slice Ao67 t317.length co67) := (blk_cell BK321.out 0).trans rfl
     have hfz139_0 := blk_frozen BK321.out 0
     have hnb140 := NB308_294.out
     have hnc140 := NB294_308.out
     have hnb141 := NB308_295.out
     have hnc141 := NB295_308.out
     have hnb142 := NB308_312.out
     have hnc142 := NB312_308.out
     have hnb143 := NB308_316.out
     have hnc143 := NB316_308.out
     have hcz144_0 : w130.cell? ⟨gb308, 0, none⟩ = some (.slice Ao41 t304.length co41) := (blk_cell BK308.out 0).trans rfl
     have hfz144_0 := blk_frozen BK308.out 0
     go_wp2_with (first | (go_at_call 19; (with_reducible refine (laws_eqBig.calls kj24 _ _ t317 _ _ t304 true _ ?side1 ?side2 ?side3 ?side4 A132.out).mono ?_); (case side1 => repeat (first | exact (Kd.R_reads' HO_322000.out).2.2 | (with_reducible refine Kd.C_alloc ?_ _) | (with_reducible refine Kd.C_drewN ?_ _) | (with_reducible refine Kd.C_drew ?_))); (case side2 => exact (Kd.R_reads' HO_322000.out).2.1); (case side3 => repeat (first | exact (Kd.R_reads' HO_309000.out).2.2 | (with_reducible refine Kd.C_alloc ?_ _) | (with_reducible refine Kd.C_drewN ?_ _) | (with_reducible refine Kd.C_drew ?_))); (case side4 => exact (Kd.R_reads' HO_309000.out).2.1); rintro e w145 ⟨rfl, hb⟩; replace HO_309000 := cb HO_309000 hb; replace HO_313000 := cb HO_313000 hb; replace HO_317000 := cb HO_317000 hb; replace HO_322000 := cb HO_322000 hb; replace HO325 := cb HO325 hb; replace HO329 := cb HO329 hb; replace BK294 := cB BK294 hb; replace BK295 := cB BK295 hb; replace BK308 := cB BK308 hb; replace BK312 := cB BK312 hb; replace BK316 := cB BK316 hb; replace BK321 := cB BK321 hb; replace HB := cs (hq6 HB GE294 GE295 GE308 GE312 GE316 GE321) hb; (try clear hb); (try clear hb2); (try clear hk); (try clear hi)))
     go_meet
     case rel => exact ⟨_, ((t320 != t307)), (by first | rfl | (simp; done) | (simp [*]; done)), H', ⟨by have := HJ24.out; first | omega | exact Nat.le_refl _⟩, ⟨by (with_reducible repeat (first | apply Kd.R_alloc | apply Kd.R_drewN | apply Kd.R_drew)); exact Kd.R_mono HO_309000.out (fun _ hk => ⟨hk.1, ⟨hk.2.1, hk.2.2.1⟩⟩)⟩, ⟨by (with_reducible repeat (first | apply Kd.R_alloc | apply Kd.R_drewN | apply Kd.R_drew)); exact Kd.R_mono HO_313000.out (fun _ hk => ⟨hk.1, ⟨hk.2.1, hk.2.2.1⟩⟩)⟩, ⟨by (with_reducible repeat (first | apply Kd.R_alloc | apply Kd.R_drewN | apply Kd.R_drew)); exact Kd.R_mono HO_317000.out (fun _ hk => ⟨hk.1, ⟨hk.2.1, hk.2.2.1⟩⟩)⟩, ⟨by (with_reducible repeat (first | apply Kd.R_alloc | apply Kd.R_drewN | apply Kd.R_drew)); exact Kd.R_mono HO_322000.out (fun _ hk => ⟨hk.1, ⟨hk.2.1, hk.2.2.1⟩⟩)⟩, ⟨by (with_reducible repeat (first | refine blk_drewN ?_ _ | refine blk_drew ?_ | refine blk_alloc ?_ _)); exact BK294.out⟩, ⟨by (with_reducible repeat (first | refine blk_drewN ?_ _ | refine blk_drew ?_ | refine blk_alloc ?_ _)); exact BK295.out⟩, ⟨by (with_reducible repeat (first | refine blk_drewN ?_ _ | refine blk_drew ?_ | refine blk_alloc ?_ _)); exact BK308.out⟩, ⟨by (with_reducible repeat (first | refine blk_drewN ?_ _ | refine blk_drew ?_ | refine blk_alloc ?_ _)); exact BK312.out⟩, ⟨by (with_reducible repeat (first | refine blk_drewN ?_ _ | refine blk_drew ?_ | refine blk_alloc ?_ _)); exact BK316.out⟩, ⟨by (with_reducible repeat (first | refine blk_drewN ?_ _ | refine blk_drew ?_ | refine blk_alloc ?_ _)); exact BK321.out⟩, ⟨hq6 HB GE294 GE295 GE308 GE312 GE316 GE321⟩⟩
   replace c133 := Bool.eq_false_iff.mpr c133
   subst c133
   have H1 : (laws_FnExactReduceBig.j1 kj24 t307 true l0_0 l1_0 t304 t317) = some true := by rw [if_neg (show ¬ (false = true) by decide)] at H; exact H
   clear H
   have H := H1
   clear H1
   have H' := Aside0.mk H
   clear H
   have hnb146 := NB321_294.out
   have hnc146 := NB294_321.out
   have hnb147 := NB321_295.out
   have hnc147 := NB295_321.out
   have hnb148 := NB321_308.out
   have hnc148 := NB308_321.out
   have hnb149 := NB321_312.out
   have hnc149 := NB312_321.out
   have hnb150 := NB321_316.out
   have hnc150 := NB316_321.out
   have hcz151_0 : w130.cell? ⟨gb321, 0, none⟩ = some (.slice Ao67 t317.length co67) := (blk_cell BK321.out 0).trans rfl
   have hfz151_0 := blk_frozen BK321.out 0
   have hnb152 := NB308_294.out
   have hnc152 := NB294_308.out
   have hnb153 := NB308_295.out
   have hnc153 := NB295_308.out
   have hnb154 := NB308_312.out
   have hnc154 := NB312_308.out
   have hnb155 := NB308_316.out
   have hnc155 := NB316_308.out
   have hcz156_0 : w130.cell? ⟨gb308, 0, none⟩ = some (.slice Ao41 t304.length co41) := (blk_cell BK308.out 0).trans rfl
   have hfz156_0 := blk_frozen BK308.out 0
   go_wp2_with (first | (go_at_call 19; (with_reducible refine (laws_eqBig.calls kj24 _ _ t317 _ _ t304 false _ ?side1 ?side2 ?side3 ?side4 A132.out).mono ?_); (case side1 => repeat (first | exact (Kd.R_reads' HO_322000.out).2.2 | (with_reducible refine Kd.C_alloc ?_ _) | (with_reducible refine Kd.C_drewN ?_ _) | (with_reducible refine Kd.C_drew ?_))); (case side2 => exact (Kd.R_reads' HO_322000.out).2.1); (case side3 => repeat (first | exact (Kd.R_reads' HO_309000.out).2.2 | (with_reducible refine Kd.C_alloc ?_ _) | (with_reducible refine Kd.C_drewN ?_ _) | (with_reducible refine Kd.C_drew ?_))); (case side4 => exact (Kd.R_reads' HO_309000.out).2.1); rintro e w157 ⟨rfl, hb⟩; replace HO_309000 := cb HO_309000 hb; replace HO_313000 := cb HO_313000 hb; replace HO_317000 := cb HO_317000 hb; replace HO_322000 := cb HO_322000 hb; replace HO325 := cb HO325 hb; replace HO329 := cb HO329 hb; replace BK294 := cB BK294 hb; replace BK295 := cB BK295 hb; replace BK308 := cB BK308 hb; replace BK312 := cB BK312 hb; replace BK316 := cB BK316 hb; replace BK321 := cB BK321 hb; replace HB := cs (hq6 HB GE294 GE295 GE308 GE312 GE316 GE321) hb; (try clear hb); (try clear hb2); (try clear hk); (try clear hi)))
   go_meet
   case rel => exact ⟨_, (true), (by first | rfl | (simp; done) | (simp [*]; done)), H', ⟨by have := HJ24.out; first | omega | exact Nat.le_refl _⟩, ⟨by (with_reducible repeat (first | apply Kd.R_alloc | apply Kd.R_drewN | apply Kd.R_drew)); exact Kd.R_mono HO_309000.out (fun _ hk => ⟨hk.1, ⟨hk.2.1, hk.2.2.1⟩⟩)⟩, ⟨by (with_reducible repeat (first | apply Kd.R_alloc | apply Kd.R_drewN | apply Kd.R_drew)); exact Kd.R_mono HO_313000.out (fun _ hk => ⟨hk.1, ⟨hk.2.1, hk.2.2.1⟩⟩)⟩, ⟨by (with_reducible repeat (first | apply Kd.R_alloc | apply Kd.R_drewN | apply Kd.R_drew)); exact Kd.R_mono HO_317000.out (fun _ hk => ⟨hk.1, ⟨hk.2.1, hk.2.2.1⟩⟩)⟩, ⟨by (with_reducible repeat (first | apply Kd.R_alloc | apply Kd.R_drewN | apply Kd.R_drew)); exact Kd.R_mono HO_322000.out (fun _ hk => ⟨hk.1, ⟨hk.2.1, hk.2.2.1⟩⟩)⟩, ⟨by (with_reducible repeat (first | refine blk_drewN ?_ _ | refine blk_drew ?_ | refine blk_alloc ?_ _)); exact BK294.out⟩, ⟨by (with_reducible repeat (first | refine blk_drewN ?_ _ | refine blk_drew ?_ | refine blk_alloc ?_ _)); exact BK295.out⟩, ⟨by (with_reducible repeat (first | refine blk_drewN ?_ _ | refine blk_drew ?_ | refine blk_alloc ?_ _)); exact BK308.out⟩, ⟨by (with_reducible repeat (first | refine blk_drewN ?_ _ | refine blk_drew ?_ | refine blk_alloc ?_ _)); exact BK312.out⟩, ⟨by (with_reducible repeat (first | refine blk_drewN ?_ _ | refine blk_drew ?_ | refine blk_alloc ?_ _)); exact BK316.out⟩, ⟨by (with_reducible repeat (first | refine blk_drewN ?_ _ | refine blk_drew ?_ | refine blk_alloc ?_ _)); exact BK321.out⟩, ⟨hq6 HB GE294 GE295 GE308 GE312 GE316 GE321⟩⟩
 clear HC109
 try clear c1
 try clear c2
 try clear p2
 try clear c4
 try clear c5
 try clear c6
 try clear c7
 try clear c8
 try clear c9
 try clear c10
 try clear c11
 try clear c12
 try clear c13
 try clear c14
 try clear c15
 try clear c17
 try clear c19
 try clear c22
 try clear c42
 try clear c43
 try clear c48
 try clear c49
 try clear c50
 try clear c52
 try clear c57
 try clear c58
 try clear c59
 try clear c60
 try clear c68
 try clear c69
 try clear c70
 try clear c71
 try clear c72
 try clear c75
 try clear c76
 try clear c77
 try clear c78
 try clear c79
 try clear c80
 try clear c82
 try clear c83
 try clear c84
 try clear c85
 try clear c88
 try clear c89
 try clear c90
 try clear c91
 try clear c92
 try clear c94
 try clear c95
 try clear c96
 try clear c97
 try clear c100
 try clear c103
 try clear c106
 try clear c118
 try clear c119
 try clear c120
 try clear c121
 try clear c122
 try clear c125
 try clear c126
 try clear c127
 try clear c128
 try clear c131
 try clear c131b0
 try clear c133
 try clear c134
 try clear c135
 try clear c136
 try clear c137
 try clear c138
 try clear c140
 try clear c141
 try clear c142
 try clear c143
 try clear c146
 try clear c147
 try clear c148
 try clear c149
 try clear c150
 try clear c152
 try clear c153
 try clear c154
 try clear c155
 try clear hcz123_0
 try clear hcz129_0
 try clear hcz139_0
 try clear hcz144_0
 try clear hcz151_0
 try clear hcz156_0
 try clear hcz44_0
 try clear hcz51_0
 try clear hcz53_0
 try clear hcz61_0
 try clear hcz63_0
 try clear hcz64_0
 try clear hcz73_0
 try clear hcz81_0
 try clear hcz86_0
 try clear hcz93_0
 try clear hcz98_0
 try clear hfz123_0
 try clear hfz129_0
 try clear hfz139_0
 try clear hfz144_0
 try clear hfz151_0
 try clear hfz156_0
 try clear hfz44_0
 try clear hfz51_0
 try clear hfz53_0
 try clear hfz61_0
 try clear hfz63_0
 try clear hfz64_0
 try clear hfz73_0
 try clear hfz81_0
 try clear hfz86_0
 try clear hfz93_0
 try clear hfz98_0
 try clear p2
 obtain ⟨kq, x82_108, rfl, HA, HJ108, HO_309000, HO_313000, HO_317000, HO_322000, BK294, BK295, BK308, BK312, BK316, BK321, HB⟩ := hcut
 have hl313000_108 := (Kd.R_reads' HO_313000.out).1
 rw [hl313000_108] at HO_313000
 (try simp only [hl313000_108])
 (try simp only [hl313000_108] at BK294)
 (try simp only [hl313000_108] at BK295)
 (try simp only [hl313000_108] at BK308)
 (try simp only [hl313000_108] at BK312)
 (try simp only [hl313000_108] at BK316)
 (try simp only [hl313000_108] at BK321)
 (try simp only [hl313000_108] at HO_309000)
 (try simp only [hl313000_108] at HO_317000)
 (try simp only [hl313000_108] at HO_322000)
 have hl317000_108 := (Kd.R_reads' HO_317000.out).1
 rw [hl317000_108] at HO_317000
 (try simp only [hl317000_108])
 (try simp only [hl317000_108] at BK294)
 (try simp only [hl317000_108] at BK295)
 (try simp only [hl317000_108] at BK308)
 (try simp only [hl317000_108] at BK312)
 (try simp only [hl317000_108] at BK316)
 (try simp only [hl317000_108] at BK321)
 (try simp only [hl317000_108] at HO_309000)
 (try simp only [hl317000_108] at HO_313000)
 (try simp only [hl317000_108] at HO_322000)
 obtain _ | kj108 := kq
 · exact absurd HA.out (by simp [laws_FnExactReduceBig.j1])
 have H := HA.out
 clear HA
 simp only [laws_FnExactReduceBig.j1] at H
 by_cases c158 : x82_108 = true
 · subst c158
   have H1 : (some false) = some true := by rw [if_pos rfl] at H; exact H
   clear H
   have H := H1
   clear H1
   cases H
 replace c158 := Bool.eq_false_iff.mpr c158
 subst c158
 have H1 : ((laws_markBig.f kj108 t317 1).bind fun bt336 => ((laws_heldBig.f kj108 bt336.2 1).bind fun t338 => (if t338 < 0 then (some false) else (if t338 = bt336.1 then ((laws_toBig.f kj108 l0_0).bind fun t339 => ((laws_toBig.f kj108 l1_0).bind fun t342 => ((impl_ReduceBig.f kj108 t339 t342).bind fun bt345 => ((laws_eqBig.f kj108 bt345.1 t304).bind fun t350 => (if t350 = true then (laws_FnExactReduceBig.j2 kj108 bt336.1 (bt345.2 != t307) bt336.2) else (laws_FnExactReduceBig.j2 kj108 bt336.1 true bt336.2)))))) else (some false))))) = some true := by rw [if_neg (show ¬ (false = true) by decide)] at H; exact H
 clear H
 have H := H1
 clear H1
 replace H := Option.bind_eq_some_iff.mp H
 obtain ⟨⟨t336, t337⟩, A1590, H⟩ := H
 replace H : ((laws_heldBig.f kj108 t337 1).bind fun t338 => (if t338 < 0 then (some false) else (if t338 = t336 then ((laws_toBig.f kj108 l0_0).bind fun t339 => ((laws_toBig.f kj108 l1_0).bind fun t342 => ((impl_ReduceBig.f kj108 t339 t342).bind fun bt345 => ((laws_eqBig.f kj108 bt345.1 t304).bind fun t350 => (if t350 = true then (laws_FnExactReduceBig.j2 kj108 t336 (bt345.2 != t307) t337) else (laws_FnExactReduceBig.j2 kj108 t336 true t337)))))) else (some false)))) = some true := H
 have A159 := Aside0.mk A1590
 clear A1590
 replace H := Option.bind_eq_some_iff.mp H
 obtain ⟨t338, A1600, H⟩ := H
 replace H : (if t338 < 0 then (some false) else (if t338 = t336 then ((laws_toBig.f kj108 l0_0).bind fun t339 => ((laws_toBig.f kj108 l1_0).bind fun t342 => ((impl_ReduceBig.f kj108 t339 t342).bind fun bt345 => ((laws_eqBig.f kj108 bt345.1 t304).bind fun t350 => (if t350 = true then (laws_FnExactReduceBig.j2 kj108 t336 (bt345.2 != t307) t337) else (laws_FnExactReduceBig.j2 kj108 t336 true t337)))))) else (some false))) = some true := H
 have A160 := Aside0.mk A1600
 clear A1600
 by_cases c161 : t338 < 0
 · rw [if_pos c161] at H
   have c161b0 : decide (t338 < 0) = true := decide_eq_true c161
   clear c161
   cases H
 rw [if_neg c161] at H
 have c161b0 : decide (t338 < 0) = false := decide_eq_false c161
 clear c161
 by_cases c171 : t338 = t336
 rotate_left
 · rw [if_neg c171] at H
   have c171b0 : (t338 == t336) = false := beq_eq_false_iff_ne.mpr c171
   have c171b1 : (t338 != t336) = true := bne_iff_ne.mpr c171
   cases H
 rw [if_pos c171] at H
 have c171b0 : (t338 == t336) = true := beq_iff_eq.mpr c171
 have c171b1 : (t338 != t336) = false := bne_eq_false_iff_eq.mpr c171
 clear c171
 replace H := Option.bind_eq_some_iff.mp H
 obtain ⟨t339, A1720, H⟩ := H
 replace H : ((laws_toBig.f kj108 l1_0).bind fun t342 => ((impl_ReduceBig.f kj108 t339 t342).bind fun bt345 => ((laws_eqBig.f kj108 bt345.1 t304).bind fun t350 => (if t350 = true then (laws_FnExactReduceBig.j2 kj108 t336 (bt345.2 != t307) t337) else (laws_FnExactReduceBig.j2 kj108 t336 true t337))))) = some true := H
 have A172 := Aside0.mk A1720
 clear A1720
 replace H := Option.bind_eq_some_iff.mp H
 obtain ⟨t342, A1730, H⟩ := H
 replace H : ((impl_ReduceBig.f kj108 t339 t342).bind fun bt345 => ((laws_eqBig.f kj108 bt345.1 t304).bind fun t350 => (if t350 = true then (laws_FnExactReduceBig.j2 kj108 t336 (bt345.2 != t307) t337) else (laws_FnExactReduceBig.j2 kj108 t336 true t337)))) = some true := H
 have A173 := Aside0.mk A1730
 clear A1730
 replace H := Option.bind_eq_some_iff.mp H
 obtain ⟨⟨t345, t348⟩, A1740, H⟩ := H
 replace H : ((laws_eqBig.f kj108 t345 t304).bind fun t350 => (if t350 = true then (laws_FnExactReduceBig.j2 kj108 t336 (t348 != t307) t337) else (laws_FnExactReduceBig.j2 kj108 t336 true t337))) = some true := H
 have A174 := Aside0.mk A1740
 clear A1740
 have HC175 := Aside0.mk H
 clear H
 have hnb176 := NB321_294.out
 have hnc176 := NB294_321.out
 have hnb177 := NB321_295.out
 have hnc177 := NB295_321.out
 have hnb178 := NB321_308.out
 have hnc178 := NB308_321.out
 have hnb179 := NB321_312.out
 have hnc179 := NB312_321.out
 have hnb180 := NB321_316.out
 have hnc180 := NB316_321.out
 have hcz181_0 : wc.cell? ⟨gb321, 0, none⟩ = some (.slice Ao67 t317.length co67) := (blk_cell BK321.out 0).trans rfl
 have hfz181_0 := blk_frozen BK321.out 0
 try go_wp2_with (first | ((with_reducible refine gate_callee (f := 22) rfl ?_); refine goesL_ (some 85) rfl rfl Try.func22 (by kernel_rfl) rfl #[.agg #[.slice Ao67 t317.length co67], .int .i64 1] rfl (by (try simp only [List.map_toArray, List.map_cons, List.map_nil]); first | done | rfl | (simp only [List.length_drop, List.length_take]; rfl)) ?_; (with_reducible refine (laws_markBig.calls kj108 (fun k_ => some k_ = (.slice Ao67 t317.length co67 : Value).ownBlock) (.slice Ao67 t317.length co67) t317 1 t336 t337 w _ ?side1 ?side2 A159.out).mono ?_); (case side1 => repeat (first | (with_reducible first | exact HB.out | apply below_alloc | apply pw_below_drewN | apply below_drew1 | refine below_set ?_ GE294.out | refine below_set ?_ GE295.out | refine below_set ?_ GE308.out | refine below_set ?_ GE312.out | refine below_set ?_ GE316.out | refine below_set ?_ GE321.out) | exact HB.out)); (case side2 => exact Kd.R_tight rfl HO_322000.out); rintro e w182 ⟨rfl, hy0, hb, hkp⟩; refine ⟨_, rfl, ?_⟩; replace HO_309000 := Aside0.mk (Kd.R_mono (ok' := fun k_ => some k_ ≠ (.slice Ao47 t332.length co47 : Value).ownBlock ∧ some k_ ≠ (.slice Ao56 t334.length co56 : Value).ownBlock ∧ some k_ ≠ (.slice Ao67 t317.length co67 : Value).ownBlock) (Kd.R_keptB (HO_309000.out) hkp (fun k_ hk_ hs_ => (hk_.2.2) hs_)) (fun k_ hk_ => ⟨hk_.1.1, hk_.1.2.1, hk_.1.2.2⟩)); replace HO_313000 := Aside0.mk (Kd.R_mono (ok' := fun k_ => some k_ ≠ (.slice Ao41 t304.length co41 : Value).ownBlock ∧ some k_ ≠ (.slice Ao56 t334.length co56 : Value).ownBlock ∧ some k_ ≠ (.slice Ao67 t317.length co67 : Value).ownBlock) (Kd.R_keptB (HO_313000.out) hkp (fun k_ hk_ hs_ => (hk_.2.2) hs_)) (fun k_ hk_ => ⟨hk_.1.1, hk_.1.2.1, hk_.1.2.2⟩)); replace HO_317000 := Aside0.mk (Kd.R_mono (ok' := fun k_ => some k_ ≠ (.slice Ao41 t304.length co41 : Value).ownBlock ∧ some k_ ≠ (.slice Ao47 t332.length co47 : Value).ownBlock ∧ some k_ ≠ (.slice Ao67 t317.length co67 : Value).ownBlock) (Kd.R_keptB (HO_317000.out) hkp (fun k_ hk_ hs_ => (hk_.2.2) hs_)) (fun k_ hk_ => ⟨hk_.1.1, hk_.1.2.1, hk_.1.2.2⟩)); have n3_ := Aside0.mk (Kd.R_reok rfl hy0 (fun k_ e_ => HO_322000.out.1 k_ e_)); replace BK294 := Aside0.mk (blk_kept (bq BK294) hkp (fun hs_ => (fun e_ => (Kd.R_ne HO_322000.out BK294.out (by decide)) e_) hs_)); replace BK295 := Aside0.mk (blk_kept (bq BK295) hkp (fun hs_ => (fun e_ => (Kd.R_ne HO_322000.out BK295.out (by decide)) e_) hs_)); replace BK308 := Aside0.mk (blk_kept (bq BK308) hkp (fun hs_ => (fun e_ => (Kd.R_ne HO_322000.out BK308.out (by decide)) e_) hs_)); replace BK312 := Aside0.mk (blk_kept (bq BK312) hkp (fun hs_ => (fun e_ => (Kd.R_ne HO_322000.out BK312.out (by decide)) e_) hs_)); replace BK316 := Aside0.mk (blk_kept (bq BK316) hkp (fun hs_ => (fun e_ => (Kd.R_ne HO_322000.out BK316.out (by decide)) e_) hs_)); replace BK321 := Aside0.mk (blk_kept (bq BK321) hkp (fun hs_ => (fun e_ => (Kd.R_ne HO_322000.out BK321.out (by decide)) e_) hs_)); replace HB := Aside0.mk (hb); replace HO_322000 := n3_; clear n3_; (try clear hb); (try clear hkp); (try clear hy0); have hcz183_0 : w182.cell? ⟨gb321, 0, none⟩ = some (.slice Ao67 t317.length co67) := (blk_cell BK321.out 0).trans rfl; have hfz183_0 := blk_frozen BK321.out 0) | ((with_reducible refine gate_callee (f := 23) rfl ?_); refine goesL_ (some 88) rfl rfl Try.func23 (by kernel_rfl) rfl #[.agg #[.slice Ao67 t337.length co67], .int .i64 1] rfl (by (try simp only [List.map_toArray, List.map_cons, List.map_nil]); first | done | (rw [show t337.length = t317.length from (Kd.R_reads' HO_322000.out).1.symm] <;> rfl) | rfl | (simp only [List.length_drop, List.length_take]; rfl)) ?_; (with_reducible refine (laws_heldBig.calls kj108 _ _ t337 1 t338 _ ?side1 ?side2 A160.out).mono ?_); (case side1 => repeat (first | exact (Kd.R_reads' HO_322000.out).2.2 | (with_reducible refine Kd.C_alloc ?_ _) | (with_reducible refine Kd.C_drewN ?_ _) | (with_reducible refine Kd.C_drew ?_))); (case side2 => rw [show t337.length = t317.length from (Kd.R_reads' HO_322000.out).1.symm]; exact (Kd.R_reads' HO_322000.out).2.1); rintro e w184 ⟨rfl, hb⟩; refine ⟨_, rfl, ?_⟩; replace HO_309000 := cb HO_309000 hb; replace HO_313000 := cb HO_313000 hb; replace HO_317000 := cb HO_317000 hb; replace HO_322000 := cb HO_322000 hb; replace BK294 := cB BK294 hb; replace BK295 := cB BK295 hb; replace BK308 := cB BK308 hb; replace BK312 := cB BK312 hb; replace BK316 := cB BK316 hb; replace BK321 := cB BK321 hb; replace HB := cs (hq6 HB GE294 GE295 GE308 GE312 GE316 GE321) hb; (try clear hb); (try clear hb2); (try clear hk); (try clear hi)))
 replace HO_309000 := Aside0.mk (Kd.R_drew HO_309000.out)
 replace HO_313000 := Aside0.mk (Kd.R_drew HO_313000.out)
 replace HO_317000 := Aside0.mk (Kd.R_drew HO_317000.out)
 replace HO_322000 := Aside0.mk (Kd.R_drew HO_322000.out)
 replace BK294 := Aside0.mk (blk_drew BK294.out)
 replace BK295 := Aside0.mk (blk_drew BK295.out)
 replace BK308 := Aside0.mk (blk_drew BK308.out)
 replace BK312 := Aside0.mk (blk_drew BK312.out)
 replace BK316 := Aside0.mk (blk_drew BK316.out)
 replace BK321 := Aside0.mk (blk_drew BK321.out)
 replace HB := Aside0.mk (below_drew1 HB.out)
 refine start_ (n := 11) (S := fun w' => w'.cell? ⟨gb294, 0, none⟩ = some (.slice A0_0 l0_0.length c0_0) ∧ w'.cell? ⟨gb295, 0, none⟩ = some (.slice A1_0 l1_0.length c1_0)) (ds := []) #[false, false, false, false, false, false, false, false, false, false, false] (by kernel_rfl) rfl rfl ⟨(blk_cell BK294.out 0).trans rfl, (blk_cell BK295.out 0).trans rfl⟩ (fun hHeld => ?_); refine with_tabW laws_FnExactReduceBig.tab31 laws_FnExactReduceBig.bits31 (fun HT_ HW_ => ?_)
 generalize w184.drew = w185 at HO_309000 HO_313000 HO_317000 HO_322000 BK294 BK295 BK308 BK312 BK316 BK321 HB hHeld ⊢
 refine take_ (i := 0) (N := some 95) (v := ?_) (a' := ?_) #[true, false, false, false, false, false, false, false, false, false, false] rfl rfl (take_ofW HT_.out HW_.out (by kernel_rfl)) (fun _ _ _ h => h) (Or.inl ⟨by rfl, ?_⟩) hHeld ?_ ?_
 rotate_left
 · rintro w' ⟨s0, s1⟩
   go_simp
   with_reducible rfl
 rotate_left
 · simp only [Act.put, List.setIfInBounds_toArray, List.set_cons_zero, List.set_cons_succ, i64_w, i32_w]
   rfl
 refine take_ (i := 2) (N := some 97) (v := ?_) (a' := ?_) #[true, false, true, false, false, false, false, false, false, false, false] rfl rfl (take_ofW HT_.out HW_.out (by kernel_rfl)) (fun _ _ _ h => h) (Or.inl ⟨by rfl, ?_⟩) hHeld ?_ ?_
 rotate_left
 · rintro w' ⟨s0, s1⟩
   go_simp
   with_reducible rfl
 rotate_left
 · simp only [Act.put, List.setIfInBounds_toArray, List.set_cons_zero, List.set_cons_succ, i64_w, i32_w]
   rfl
 refine join_ (σ := Value × Value × Value × Nat) 2 #[true, true, true, true, true, true, true, true, true, false, false] (fun s_ => [(96, .agg #[s_.1]), (98, .agg #[s_.2.1]), (99, .tuple #[.agg #[s_.2.2.1], .bool t348]), (15, .pointer (some ⟨s_.2.2.2, 0, none⟩)), (94, .tuple #[.agg #[s_.2.2.1], .bool t348]), (100, .agg #[s_.2.2.1]), (101, .bool t348)]) (fun s_ w' => (w'.cell? ⟨gb294, 0, none⟩ = some (.slice A0_0 l0_0.length c0_0) ∧ w'.cell? ⟨gb295, 0, none⟩ = some (.slice A1_0 l1_0.length c1_0)) ∧ (Kd.R (Kd.int .i64) 3 w' w.heap.size (fun k_ => some k_ ≠ (s_.2.1 : Value).ownBlock ∧ some k_ ≠ (s_.2.2.1 : Value).ownBlock ∧ some k_ ≠ (.slice Ao41 t304.length co41 : Value).ownBlock ∧ some k_ ≠ (.slice Ao47 t332.length co47 : Value).ownBlock ∧ some k_ ≠ (.slice Ao56 t334.length co56 : Value).ownBlock ∧ some k_ ≠ (.slice Ao67 t317.length co67 : Value).ownBlock) s_.1 t339) ∧ (Kd.R (Kd.int .i64) 3 w' w.heap.size (fun k_ => some k_ ≠ (s_.1 : Value).ownBlock ∧ some k_ ≠ (s_.2.2.1 : Value).ownBlock ∧ some k_ ≠ (.slice Ao41 t304.length co41 : Value).ownBlock ∧ some k_ ≠ (.slice Ao47 t332.length co47 : Value).ownBlock ∧ some k_ ≠ (.slice Ao56 t334.length co56 : Value).ownBlock ∧ some k_ ≠ (.slice Ao67 t317.length co67 : Value).ownBlock) s_.2.1 t342) ∧ (Kd.R (Kd.int .i64) 3 w' w.heap.size (fun k_ => some k_ ≠ (s_.1 : Value).ownBlock ∧ some k_ ≠ (s_.2.1 : Value).ownBlock ∧ some k_ ≠ (.slice Ao41 t304.length co41 : Value).ownBlock ∧ some k_ ≠ (.slice Ao47 t332.length co47 : Value).ownBlock ∧ some k_ ≠ (.slice Ao56 t334.length co56 : Value).ownBlock ∧ some k_ ≠ (.slice Ao67 t317.length co67 : Value).ownBlock) s_.2.2.1 t345) ∧ (Kd.R (Kd.int .i64) 3 w' w.heap.size (fun k_ => some k_ ≠ (s_.1 : Value).ownBlock ∧ some k_ ≠ (s_.2.1 : Value).ownBlock ∧ some k_ ≠ (s_.2.2.1 : Value).ownBlock ∧ some k_ ≠ (.slice Ao47 t332.length co47 : Value).ownBlock ∧ some k_ ≠ (.slice Ao56 t334.length co56 : Value).ownBlock ∧ some k_ ≠ (.slice Ao67 t317.length co67 : Value).ownBlock) (.slice Ao41 t304.length co41) t304) ∧ (Kd.R (Kd.int .i64) 3 w' w.heap.size (fun k_ => some k_ ≠ (s_.1 : Value).ownBlock ∧ some k_ ≠ (s_.2.1 : Value).ownBlock ∧ some k_ ≠ (s_.2.2.1 : Value).ownBlock ∧ some k_ ≠ (.slice Ao41 t304.length co41 : Value).ownBlock ∧ some k_ ≠ (.slice Ao56 t334.length co56 : Value).ownBlock ∧ some k_ ≠ (.slice Ao67 t317.length co67 : Value).ownBlock) (.slice Ao47 t332.length co47) t332) ∧ (Kd.R (Kd.int .i64) 3 w' w.heap.size (fun k_ => some k_ ≠ (s_.1 : Value).ownBlock ∧ some k_ ≠ (s_.2.1 : Value).ownBlock ∧ some k_ ≠ (s_.2.2.1 : Value).ownBlock ∧ some k_ ≠ (.slice Ao41 t304.length co41 : Value).ownBlock ∧ some k_ ≠ (.slice Ao47 t332.length co47 : Value).ownBlock ∧ some k_ ≠ (.slice Ao67 t317.length co67 : Value).ownBlock) (.slice Ao56 t334.length co56) t334) ∧ (Kd.R (Kd.int .i64) 3 w' w.heap.size (fun k_ => some k_ ≠ (s_.1 : Value).ownBlock ∧ some k_ ≠ (s_.2.1 : Value).ownBlock ∧ some k_ ≠ (s_.2.2.1 : Value).ownBlock ∧ some k_ ≠ (.slice Ao41 t304.length co41 : Value).ownBlock ∧ some k_ ≠ (.slice Ao47 t332.length co47 : Value).ownBlock ∧ some k_ ≠ (.slice Ao56 t334.length co56 : Value).ownBlock) (.slice Ao67 t317.length co67) t337) ∧ (w'.heap[gb294]? = some (.cells #[.slice A0_0 l0_0.length c0_0] 24 (0, 0))) ∧ (w'.heap[gb295]? = some (.cells #[.slice A1_0 l1_0.length c1_0] 24 (0, 0))) ∧ (w'.heap[gb308]? = some (.cells #[.slice Ao41 t304.length co41] 27 (0, 0))) ∧ (w'.heap[gb312]? = some (.cells #[.slice Ao47 t332.length co47] 27 (0, 0))) ∧ (w'.heap[gb316]? = some (.cells #[.slice Ao56 t334.length co56] 27 (0, 0))) ∧ (w'.heap[gb321]? = some (.cells #[.slice Ao67 t317.length co67] 27 (0, 0))) ∧ (w'.heap[s_.2.2.2]? = some (.cells #[.slice none 0 0] 27 (0, 0))) ∧ (w.heap.size ≤ s_.2.2.2) ∧ (w.heap.size ≤ s_.2.2.2) ∧ (gb294 ≠ s_.2.2.2) ∧ (s_.2.2.2 ≠ gb294) ∧ (gb295 ≠ s_.2.2.2) ∧ (s_.2.2.2 ≠ gb295) ∧ (gb308 ≠ s_.2.2.2) ∧ (s_.2.2.2 ≠ gb308) ∧ (gb312 ≠ s_.2.2.2) ∧ (s_.2.2.2 ≠ gb312) ∧ (gb316 ≠ s_.2.2.2) ∧ (s_.2.2.2 ≠ gb316) ∧ (gb321 ≠ s_.2.2.2) ∧ (s_.2.2.2 ≠ gb321) ∧ (Below w.heap.size w w')) ?_ ?_
 rotate_left
 · intro hCont
   refine two_ (i := 1) (j := 8) (Ni := some 96) (Nj := some 15) #[true, true, true, false, false, false, false, false, false, false, false] #[true, false, true, false, false, false, false, false, true, false, false] rfl rfl rfl rfl (two_of HT_.out (by kernel_rfl)) (by decide) (by decide) (fun K hK => ?_) (fun K hK => ?_)
   · skip
     refine goes_ Try.func17 (by kernel_rfl) rfl #[.agg #[.slice A0_0 l0_0.length c0_0]] (by rfl) rfl rfl (by (try simp only [List.map_toArray, List.map_cons, List.map_nil]); first | done | rfl | (simp only [List.length_drop, List.length_take]; rfl)) ?_
     with_reducible refine (laws_toBig.calls kj108 _ _ l0_0 t339 _ ?side1 ?side2 A172.out).mono ?_
     (case side1 => repeat (first | exact (Kd.C_below HR0_0.out HB.out) | (with_reducible refine Kd.C_alloc ?_ _) | (with_reducible refine Kd.C_drewN ?_ _) | (with_reducible refine Kd.C_drew ?_)))
     (case side2 => exact HC0_0.out)
     rintro e w186 ⟨v340, rfl, ho0, hb⟩
     refine ⟨_, rfl, ?_⟩
     have n0_ := ce HO_309000 ho0 hb
     have n1_ := ce HO_313000 ho0 hb
     have n2_ := ce HO_317000 ho0 hb
     have n3_ := ce HO_322000 ho0 hb
     have HO341 := Aside0.mk (Kd.R_lower (Kd.R_new' (Kd.R_new' (Kd.R_new' (Kd.R_new' ho0 (ql HO_309000)) (ql HO_313000)) (ql HO_317000)) (ql HO_322000)) (below_size (hq6 HB GE294 GE295 GE308 GE312 GE316 GE321)))
     replace BK294 := cB BK294 hb
     replace BK295 := cB BK295 hb
     replace BK308 := cB BK308 hb
     replace BK312 := cB BK312 hb
     replace BK316 := cB BK316 hb
     replace BK321 := cB BK321 hb
     replace HB := cs (hq6 HB GE294 GE295 GE308 GE312 GE316 GE321) hb
     replace HO_309000 := n0_
     replace HO_313000 := n1_
     replace HO_317000 := n2_
     replace HO_322000 := n3_
     clear n0_ n1_ n2_ n3_
     (try clear hb)
     (try clear hb2)
     (try clear hk)
     (try clear hi)
     (try clear ho0)
     refine hK.out _ _ ⟨(blk_cell BK294.out 0).trans rfl, (blk_cell BK295.out 0).trans rfl⟩ (fun hHeld => ?_)
     clear hK K
     refine norm_ (a' := ?_) ?_ ?_
     rotate_left
     · show Act.put _ (some 96) _ = _
       simp only [Act.put, List.setIfInBounds_toArray, List.set_cons_zero, List.set_cons_succ, i64_w, i32_w]
       rfl
     refine two_ (i := 3) (j := 8) (Ni := some 98) (Nj := some 15) #[true, true, true, true, false, false, false, false, false, false, false] #[true, true, true, false, false, false, false, false, true, false, false] rfl rfl rfl rfl (two_of HT_.out (by kernel_rfl)) (by decide) (by decide) (fun K hK => ?_) (fun K hK => ?_)
     · skip
       refine goes_ Try.func17 (by kernel_rfl) rfl #[.agg #[.slice A1_0 l1_0.length c1_0]] (by rfl) rfl rfl (by (try simp only [List.map_toArray, List.map_cons, List.map_nil]); first | done | rfl | (simp only [List.length_drop, List.length_take]; rfl)) ?_
       with_reducible refine (laws_toBig.calls kj108 _ _ l1_0 t342 _ ?side1 ?side2 A173.out).mono ?_
       (case side1 => repeat (first | exact (Kd.C_below HR1_0.out HB.out) | (with_reducible refine Kd.C_alloc ?_ _) | (with_reducible refine Kd.C_drewN ?_ _) | (with_reducible refine Kd.C_drew ?_)))
       (case side2 => exact HC1_0.out)
       rintro e w187 ⟨v343, rfl, ho0, hb⟩
       refine ⟨_, rfl, ?_⟩
       have n0_ := ce HO_309000 ho0 hb
       have n1_ := ce HO_313000 ho0 hb
       have n2_ := ce HO_317000 ho0 hb
       have n3_ := ce HO_322000 ho0 hb
       have n4_ := ce HO341 ho0 hb
       have HO344 := Aside0.mk (Kd.R_lower (Kd.R_new' (Kd.R_new' (Kd.R_new' (Kd.R_new' (Kd.R_new' ho0 (ql HO_309000)) (ql HO_313000)) (ql HO_317000)) (ql HO_322000)) (ql HO341)) (below_size (hq6 HB GE294 GE295 GE308 GE312 GE316 GE321)))
       replace BK294 := cB BK294 hb
       replace BK295 := cB BK295 hb
       replace BK308 := cB BK308 hb
       replace BK312 := cB BK312 hb
       replace BK316 := cB BK316 hb
       replace BK321 := cB BK321 hb
       replace HB := cs (hq6 HB GE294 GE295 GE308 GE312 GE316 GE321) hb
       replace HO_309000 := n0_
       replace HO_313000 := n1_
       replace HO_317000 := n2_
       replace HO_322000 := n3_
       replace HO341 := n4_
       clear n0_ n1_ n2_ n3_ n4_
       (try clear hb)
       (try clear hb2)
       (try clear hk)
       (try clear hi)
       (try clear ho0)
       obtain ⟨Ao188, co188, eo188⟩ := Kd.R_slice HO341.out
       (first | subst eo188 | (injection eo188 with f1_ f2_ f3_; have f4_ := f1_.symm; have f5_ := f3_.symm; clear f1_ f2_ f3_; subst f4_; subst f5_))
       obtain ⟨Ao189, co189, eo189⟩ := Kd.R_slice HO344.out
       (first | subst eo189 | (injection eo189 with f1_ f2_ f3_; have f4_ := f1_.symm; have f5_ := f3_.symm; clear f1_ f2_ f3_; subst f4_; subst f5_))
       refine hK.out _ _ ⟨(blk_cell BK294.out 0).trans rfl, (blk_cell BK295.out 0).trans rfl⟩ (fun hHeld => ?_)
       clear hK K
       refine norm_ (a' := ?_) ?_ ?_
       rotate_left
       · show Act.put _ (some 98) _ = _
         simp only [Act.put, List.setIfInBounds_toArray, List.set_cons_zero, List.set_cons_succ, i64_w, i32_w]
         rfl
       refine two_ (i := 4) (j := 8) (Ni := some 99) (Nj := some 15) #[true, true, true, true, true, false, false, false, false, false, false] #[true, true, true, true, false, false, false, false, true, false, false] rfl rfl rfl rfl (two_of HT_.out (by kernel_rfl)) (by decide) (by decide) (fun K hK => ?_) (fun K hK => ?_)
       · skip
         refine goes_ Try.func43 (by kernel_rfl) rfl #[.agg #[.slice Ao188 t339.length co188], .agg #[.slice Ao189 t342.length co189]] (by rfl) rfl rfl (by (try simp only [List.map_toArray, List.map_cons, List.map_nil]); first | done | rfl | (simp only [List.length_drop, List.length_take]; rfl)) ?_
         with_reducible refine (impl_ReduceBig.calls kj108 (fun k_ => some k_ = (.slice Ao188 t339.length co188 : Value).ownBlock) _ _ t339 (fun k_ => some k_ = (.slice Ao189 t342.length co189 : Value).ownBlock) _ _ t342 t345 t348 _ ?side1 ?side2 A174.out).mono ?_
         (case side1 => exact Kd.R_V (Kd.R_tight rfl (Kd.R_types (Kd.R_types (Kd.R_types (Kd.R_types (Kd.R_types (Kd.R_types (HO341.out) BK294.out (by decide)) BK295.out (by decide)) BK308.out (by decide)) BK312.out (by decide)) BK316.out (by decide)) BK321.out (by decide))))
         (case side2 => exact Kd.R_V (Kd.R_tight rfl (Kd.R_types (Kd.R_types (Kd.R_types (Kd.R_types (Kd.R_types (Kd.R_types (HO344.out) BK294.out (by decide)) BK295.out (by decide)) BK308.out (by decide)) BK312.out (by decide)) BK316.out (by decide)) BK321.out (by decide))))
         rintro e w190 ⟨v346, rfl, ho0, hb⟩
         refine ⟨_, rfl, ?_⟩
         have n0_ := ce HO_309000 ho0 hb
         have n1_ := ce HO_313000 ho0 hb
         have n2_ := ce HO_317000 ho0 hb
         have n3_ := ce HO_322000 ho0 hb
         have n4_ := ce HO341 ho0 hb
         have n5_ := ce HO344 ho0 hb
         have HO347 := Aside0.mk (Kd.R_lower (Kd.R_new' (Kd.R_new' (Kd.R_new' (Kd.R_new' (Kd.R_new' (Kd.R_new' (Kd.R_mono (ok' := fun k_ => True) ho0 (fun _ hk_ => trivial)) (ql HO_309000)) (ql HO_313000)) (ql HO_317000)) (ql HO_322000)) (ql HO341)) (ql HO344)) (below_size (hq6 HB GE294 GE295 GE308 GE312 GE316 GE321)))
         replace BK294 := cB BK294 hb
         replace BK295 := cB BK295 hb
         replace BK308 := cB BK308 hb
         replace BK312 := cB BK312 hb
         replace BK316 := cB BK316 hb
         replace BK321 := cB BK321 hb
         replace HB := cs (hq6 HB GE294 GE295 GE308 GE312 GE316 GE321) hb
         replace HO_309000 := n0_
         replace HO_313000 := n1_
         replace HO_317000 := n2_
         replace HO_322000 := n3_
         replace HO341 := n4_
         replace HO344 := n5_
         clear n0_ n1_ n2_ n3_ n4_ n5_
         (try clear hb)
         (try clear hb2)
         (try clear hk)
         (try clear hi)
         (try clear ho0)
         refine hK.out _ _ ⟨(blk_cell BK294.out 0).trans rfl, (blk_cell BK295.out 0).trans rfl⟩ (fun hHeld => ?_)
         clear hK K
         refine norm_ (a' := ?_) ?_ ?_
         rotate_left
         · show Act.put _ (some 99) _ = _
           simp only [Act.put, List.setIfInBounds_toArray, List.set_cons_zero, List.set_cons_succ, i64_w, i32_w]
           rfl
         refine pure_ (i := 5) (N := some 94) (v := ?_) (a' := ?_) #[true, true, true, true, true, true, false, false, false, false, false] rfl rfl (any_of HT_.out (by kernel_rfl)) (fun _ _ _ h => h) (Or.inl ⟨by rfl, ?_⟩) ?_ ?_
         rotate_left
         · intro w'
           first | (go_simp; with_reducible rfl) | (go_simp; unfold Instr.field; go_simp; rfl)
         rotate_left
         · simp only [Act.put, List.setIfInBounds_toArray, List.set_cons_zero, List.set_cons_succ, i64_w, i32_w]
           rfl
         refine pure_ (i := 6) (N := some 100) (v := ?_) (a' := ?_) #[true, true, true, true, true, true, true, false, false, false, false] rfl rfl (any_of HT_.out (by kernel_rfl)) (fun _ _ _ h => h) (Or.inl ⟨by rfl, ?_⟩) ?_ ?_
         rotate_left
         · intro w'
           first | (go_simp; with_reducible rfl) | (go_simp; unfold Instr.field; go_simp; rfl)
         rotate_left
         · simp only [Act.put, List.setIfInBounds_toArray, List.set_cons_zero, List.set_cons_succ, i64_w, i32_w]
           rfl
         refine pure_ (i := 7) (N := some 101) (v := ?_) (a' := ?_) #[true, true, true, true, true, true, true, true, false, false, false] rfl rfl (any_of HT_.out (by kernel_rfl)) (fun _ _ _ h => h) (Or.inl ⟨by rfl, ?_⟩) ?_ ?_
         rotate_left
         · intro w'
           first | (go_simp; with_reducible rfl) | (go_simp; unfold Instr.field; go_simp; rfl)
         rotate_left
         · simp only [Act.put, List.setIfInBounds_toArray, List.set_cons_zero, List.set_cons_succ, i64_w, i32_w]
           rfl
         refine one_ (i := 8) (N := some 15) #[true, true, true, true, true, true, true, true, true, false, false] rfl rfl (one_of HT_.out (by kernel_rfl)) (by decide) (fun K hK => ?_)
         refine box_step ?hg (N := 15) ?hd (cs := #[.slice none 0 0]) (t := 27) ?hr ?_; (case hd => rfl); (case hg => rfl); (case hr => first | (go_simp; done) | (go_simp; rfl))
         intro gb349 hg w191 hbox hb
         replace HO_309000 := cb HO_309000 hb
         replace HO_313000 := cb HO_313000 hb
         replace HO_317000 := cb HO_317000 hb
         replace HO_322000 := cb HO_322000 hb
         replace HO341 := cb HO341 hb
         replace HO344 := cb HO344 hb
         replace HO347 := cb HO347 hb
         have n7_ := cB BK294 hb
         have n8_ := cB BK295 hb
         have n9_ := cB BK308 hb
         have n10_ := cB BK312 hb
         have n11_ := cB BK316 hb
         have n12_ := cB BK321 hb
         have n13_ := cs (hq6 HB GE294 GE295 GE308 GE312 GE316 GE321) hb
         have BK349 := Aside0.mk (hbox)
         have GW349 := cg hg (hq6 HB GE294 GE295 GE308 GE312 GE316 GE321)
         have GE349 := cg hg (hq6 HB GE294 GE295 GE308 GE312 GE316 GE321)
         have NB294_349 := cl hg BK294
         have NB349_294 := cr hg BK294
         have NB295_349 := cl hg BK295
         have NB349_295 := cr hg BK295
         have NB308_349 := cl hg BK308
         have NB349_308 := cr hg BK308
         have NB312_349 := cl hg BK312
         have NB349_312 := cr hg BK312
         have NB316_349 := cl hg BK316
         have NB349_316 := cr hg BK316
         have NB321_349 := cl hg BK321
         have NB349_321 := cr hg BK321
         replace BK294 := n7_
         replace BK295 := n8_
         replace BK308 := n9_
         replace BK312 := n10_
         replace BK316 := n11_
         replace BK321 := n12_
         replace HB := n13_
         clear n7_ n8_ n9_ n10_ n11_ n12_ n13_
         clear hb hbox hg
         refine hK.out _ _ ⟨(blk_cell BK294.out 0).trans rfl, (blk_cell BK295.out 0).trans rfl⟩ (fun hHeld => ?_)
         clear hK K
         refine norm_ (a' := ?_) ?_ ?_
         rotate_left
         · show Act.put _ (some 15) _ = _
           simp only [Act.put, List.setIfInBounds_toArray, List.set_cons_zero, List.set_cons_succ, i64_w, i32_w]
           rfl
         exact norm_ (by simp only [putAll, Act.put, List.setIfInBounds_toArray, List.set_cons_zero, List.set_cons_succ]) (hCont (.slice Ao188 t339.length co188, .slice Ao189 t342.length co189, v346, gb349) _ ⟨hHeld, (by (with_reducible repeat (first | apply Kd.R_alloc | apply Kd.R_drewN | apply Kd.R_drew)); exact Kd.R_mono HO341.out (fun _ hk => ⟨hk.1.2, ⟨hk.2, ⟨hk.1.1.1.1.1.2, ⟨hk.1.1.1.1.2, ⟨hk.1.1.1.2, hk.1.1.2⟩⟩⟩⟩⟩)), (by (with_reducible repeat (first | apply Kd.R_alloc | apply Kd.R_drewN | apply Kd.R_drew)); exact Kd.R_mono HO344.out (fun _ hk => ⟨hk.1.2, ⟨hk.2, ⟨hk.1.1.1.1.1.2, ⟨hk.1.1.1.1.2, ⟨hk.1.1.1.2, hk.1.1.2⟩⟩⟩⟩⟩)), (by (with_reducible repeat (first | apply Kd.R_alloc | apply Kd.R_drewN | apply Kd.R_drew)); exact Kd.R_mono HO347.out (fun _ hk => ⟨hk.1.2, ⟨hk.2, ⟨hk.1.1.1.1.1.2, ⟨hk.1.1.1.1.2, ⟨hk.1.1.1.2, hk.1.1.2⟩⟩⟩⟩⟩)), (by (with_reducible repeat (first | apply Kd.R_alloc | apply Kd.R_drewN | apply Kd.R_drew)); exact Kd.R_mono HO_309000.out (fun _ hk => ⟨hk.1.1.2, ⟨hk.1.2, ⟨hk.2, ⟨hk.1.1.1.1, ⟨hk.1.1.1.2.1, hk.1.1.1.2.2⟩⟩⟩⟩⟩)), (by (with_reducible repeat (first | apply Kd.R_alloc | apply Kd.R_drewN | apply Kd.R_drew)); exact Kd.R_mono HO_313000.out (fun _ hk => ⟨hk.1.1.2, ⟨hk.1.2, ⟨hk.2, ⟨hk.1.1.1.1, ⟨hk.1.1.1.2.1, hk.1.1.1.2.2⟩⟩⟩⟩⟩)), (by (with_reducible repeat (first | apply Kd.R_alloc | apply Kd.R_drewN | apply Kd.R_drew)); exact Kd.R_mono HO_317000.out (fun _ hk => ⟨hk.1.1.2, ⟨hk.1.2, ⟨hk.2, ⟨hk.1.1.1.1, ⟨hk.1.1.1.2.1, hk.1.1.1.2.2⟩⟩⟩⟩⟩)), (by (with_reducible repeat (first | apply Kd.R_alloc | apply Kd.R_drewN | apply Kd.R_drew)); exact Kd.R_mono HO_322000.out (fun _ hk => ⟨hk.1.1.2, ⟨hk.1.2, ⟨hk.2, ⟨hk.1.1.1.1, ⟨hk.1.1.1.2.1, hk.1.1.1.2.2⟩⟩⟩⟩⟩)), (bq BK294), (bq BK295), (bq BK308), (bq BK312), (bq BK316), (bq BK321), (bq BK349), GW349.out, GE349.out, NB294_349.out, NB349_294.out, NB295_349.out, NB349_295.out, NB308_349.out, NB349_308.out, NB312_349.out, NB349_312.out, NB316_349.out, NB349_316.out, NB321_349.out, NB349_321.out, (hq7 HB GE294 GE295 GE308 GE312 GE316 GE321 GE349)⟩)
       skip
       refine box_step ?hg (N := 15) ?hd (cs := #[.slice none 0 0]) (t := 27) ?hr ?_; (case hd => rfl); (case hg => rfl); (case hr => first | (go_simp; done) | (go_simp; rfl))
       intro gb349 hg w188 hbox hb
       replace HO_309000 := cb HO_309000 hb
       replace HO_313000 := cb HO_313000 hb
       replace HO_317000 := cb HO_317000 hb
       replace HO_322000 := cb HO_322000 hb
       replace HO341 := cb HO341 hb
       replace HO344 := cb HO344 hb
       have n6_ := cB BK294 hb
       have n7_ := cB BK295 hb
       have n8_ := cB BK308 hb
       have n9_ := cB BK312 hb
       have n10_ := cB BK316 hb
       have n11_ := cB BK321 hb
       have n12_ := cs (hq6 HB GE294 GE295 GE308 GE312 GE316 GE321) hb
       have BK349 := Aside0.mk (hbox)
       have GW349 := cg hg (hq6 HB GE294 GE295 GE308 GE312 GE316 GE321)
       have GE349 := cg hg (hq6 HB GE294 GE295 GE308 GE312 GE316 GE321)
       have NB294_349 := cl hg BK294
       have NB349_294 := cr hg BK294
       have NB295_349 := cl hg BK295
       have NB349_295 := cr hg BK295
       have NB308_349 := cl hg BK308
       have NB349_308 := cr hg BK308
       have NB312_349 := cl hg BK312
       have NB349_312 := cr hg BK312
       have NB316_349 := cl hg BK316
       have NB349_316 := cr hg BK316
       have NB321_349 := cl hg BK321
       have NB349_321 := cr hg BK321
       replace BK294 := n6_
       replace BK295 := n7_
       replace BK308 := n8_
       replace BK312 := n9_
       replace BK316 := n10_
       replace BK321 := n11_
       replace HB := n12_
       clear n6_ n7_ n8_ n9_ n10_ n11_ n12_
       clear hb hbox hg
       obtain ⟨Ao189, co189, eo189⟩ := Kd.R_slice HO341.out
       (first | subst eo189 | (injection eo189 with f1_ f2_ f3_; have f4_ := f1_.symm; have f5_ := f3_.symm; clear f1_ f2_ f3_; subst f4_; subst f5_))
       obtain ⟨Ao190, co190, eo190⟩ := Kd.R_slice HO344.out
       (first | subst eo190 | (injection eo190 with f1_ f2_ f3_; have f4_ := f1_.symm; have f5_ := f3_.symm; clear f1_ f2_ f3_; subst f4_; subst f5_))
       refine hK.out _ _ ⟨(blk_cell BK294.out 0).trans rfl, (blk_cell BK295.out 0).trans rfl⟩ (fun hHeld => ?_)
       clear hK K
       refine norm_ (a' := ?_) ?_ ?_
       rotate_left
       · show Act.put _ (some 15) _ = _
         simp only [Act.put, List.setIfInBounds_toArray, List.set_cons_zero, List.set_cons_succ, i64_w, i32_w]
         rfl
       refine one_ (i := 4) (N := some 99) #[true, true, true, true, true, false, false, false, true, false, false] rfl rfl (one_of HT_.out (by kernel_rfl)) (by decide) (fun K hK => ?_)
       refine goes_ Try.func43 (by kernel_rfl) rfl #[.agg #[.slice Ao189 t339.length co189], .agg #[.slice Ao190 t342.length co190]] (by rfl) rfl rfl (by (try simp only [List.map_toArray, List.map_cons, List.map_nil]); first | done | rfl | (simp only [List.length_drop, List.length_take]; rfl)) ?_
       with_reducible refine (impl_ReduceBig.calls kj108 (fun k_ => some k_ = (.slice Ao189 t339.length co189 : Value).ownBlock) _ _ t339 (fun k_ => some k_ = (.slice Ao190 t342.length co190 : Value).ownBlock) _ _ t342 t345 t348 _ ?side1 ?side2 A174.out).mono ?_
       (case side1 => exact Kd.R_V (Kd.R_tight rfl (Kd.R_types (Kd.R_types (Kd.R_types (Kd.R_types (Kd.R_types (Kd.R_types (Kd.R_types (HO341.out) BK294.out (by decide)) BK295.out (by decide)) BK308.out (by decide)) BK312.out (by decide)) BK316.out (by decide)) BK321.out (by decide)) BK349.out (by decide))))
       (case side2 => exact Kd.R_V (Kd.R_tight rfl (Kd.R_types (Kd.R_types (Kd.R_types (Kd.R_types (Kd.R_types (Kd.R_types (Kd.R_types (HO344.out) BK294.out (by decide)) BK295.out (by decide)) BK308.out (by decide)) BK312.out (by decide)) BK316.out (by decide)) BK321.out (by decide)) BK349.out (by decide))))
       rintro e w191 ⟨v346, rfl, ho0, hb⟩
       refine ⟨_, rfl, ?_⟩
       have n0_ := ce HO_309000 ho0 hb
       have n1_ := ce HO_313000 ho0 hb
       have n2_ := ce HO_317000 ho0 hb
       have n3_ := ce HO_322000 ho0 hb
       have n4_ := ce HO341 ho0 hb
       have n5_ := ce HO344 ho0 hb
       have HO347 := Aside0.mk (Kd.R_lower (Kd.R_new' (Kd.R_new' (Kd.R_new' (Kd.R_new' (Kd.R_new' (Kd.R_new' (Kd.R_mono (ok' := fun k_ => True) ho0 (fun _ hk_ => trivial)) (ql HO_309000)) (ql HO_313000)) (ql HO_317000)) (ql HO_322000)) (ql HO341)) (ql HO344)) (below_size (hq7 HB GE294 GE295 GE308 GE312 GE316 GE321 GE349)))
       replace BK294 := cB BK294 hb
       replace BK295 := cB BK295 hb
       replace BK308 := cB BK308 hb
       replace BK312 := cB BK312 hb
       replace BK316 := cB BK316 hb
       replace BK321 := cB BK321 hb
       replace BK349 := cB BK349 hb
       replace HB := cs (hq7 HB GE294 GE295 GE308 GE312 GE316 GE321 GE349) hb
       replace HO_309000 := n0_
       replace HO_313000 := n1_
       replace HO_317000 := n2_
       replace HO_322000 := n3_
       replace HO341 := n4_
       replace HO344 := n5_
       clear n0_ n1_ n2_ n3_ n4_ n5_
       (try clear hb)
       (try clear hb2)
       (try clear hk)
       (try clear hi)
       (try clear ho0)
       refine hK.out _ _ ⟨(blk_cell BK294.out 0).trans rfl, (blk_cell BK295.out 0).trans rfl⟩ (fun hHeld => ?_)
       clear hK K
       refine norm_ (a' := ?_) ?_ ?_
       rotate_left
       · show Act.put _ (some 99) _ = _
         simp only [Act.put, List.setIfInBounds_toArray, List.set_cons_zero, List.set_cons_succ, i64_w, i32_w]
         rfl
       refine pure_ (i := 5) (N := some 94) (v := ?_) (a' := ?_) #[true, true, true, true, true, true, false, false, true, false, false] rfl rfl (any_of HT_.out (by kernel_rfl)) (fun _ _ _ h => h) (Or.inl ⟨by rfl, ?_⟩) ?_ ?_
       rotate_left
       · intro w'
         first | (go_simp; with_reducible rfl) | (go_simp; unfold Instr.field; go_simp; rfl)
       rotate_left
       · simp only [Act.put, List.setIfInBounds_toArray, List.set_cons_zero, List.set_cons_succ, i64_w, i32_w]
         rfl
       refine pure_ (i := 6) (N := some 100) (v := ?_) (a' := ?_) #[true, true, true, true, true, true, true, false, true, false, false] rfl rfl (any_of HT_.out (by kernel_rfl)) (fun _ _ _ h => h) (Or.inl ⟨by rfl, ?_⟩) ?_ ?_
       rotate_left
       · intro w'
         first | (go_simp; with_reducible rfl) | (go_simp; unfold Instr.field; go_simp; rfl)
       rotate_left
       · simp only [Act.put, List.setIfInBounds_toArray, List.set_cons_zero, List.set_cons_succ, i64_w, i32_w]
         rfl
       refine pure_ (i := 7) (N := some 101) (v := ?_) (a' := ?_) #[true, true, true, true, true, true, true, true, true, false, false] rfl rfl (any_of HT_.out (by kernel_rfl)) (fun _ _ _ h => h) (Or.inl ⟨by rfl, ?_⟩) ?_ ?_
       rotate_left
       · intro w'
         first | (go_simp; with_reducible rfl) | (go_simp; unfold Instr.field; go_simp; rfl)
       rotate_left
       · simp only [Act.put, List.setIfInBounds_toArray, List.set_cons_zero, List.set_cons_succ, i64_w, i32_w]
         rfl
       exact norm_ (by simp only [putAll, Act.put, List.setIfInBounds_toArray, List.set_cons_zero, List.set_cons_succ]) (hCont (.slice Ao189 t339.length co189, .slice Ao190 t342.length co190, v346, gb349) _ ⟨hHeld, (by (with_reducible repeat (first | apply Kd.R_alloc | apply Kd.R_drewN | apply Kd.R_drew)); exact Kd.R_mono HO341.out (fun _ hk => ⟨hk.1.2, ⟨hk.2, ⟨hk.1.1.1.1.1.2, ⟨hk.1.1.1.1.2, ⟨hk.1.1.1.2, hk.1.1.2⟩⟩⟩⟩⟩)), (by (with_reducible repeat (first | apply Kd.R_alloc | apply Kd.R_drewN | apply Kd.R_drew)); exact Kd.R_mono HO344.out (fun _ hk => ⟨hk.1.2, ⟨hk.2, ⟨hk.1.1.1.1.1.2, ⟨hk.1.1.1.1.2, ⟨hk.1.1.1.2, hk.1.1.2⟩⟩⟩⟩⟩)), (by (with_reducible repeat (first | apply Kd.R_alloc | apply Kd.R_drewN | apply Kd.R_drew)); exact Kd.R_mono HO347.out (fun _ hk => ⟨hk.1.2, ⟨hk.2, ⟨hk.1.1.1.1.1.2, ⟨hk.1.1.1.1.2, ⟨hk.1.1.1.2, hk.1.1.2⟩⟩⟩⟩⟩)), (by (with_reducible repeat (first | apply Kd.R_alloc | apply Kd.R_drewN | apply Kd.R_drew)); exact Kd.R_mono HO_309000.out (fun _ hk => ⟨hk.1.1.2, ⟨hk.1.2, ⟨hk.2, ⟨hk.1.1.1.1, ⟨hk.1.1.1.2.1, hk.1.1.1.2.2⟩⟩⟩⟩⟩)), (by (with_reducible repeat (first | apply Kd.R_alloc | apply Kd.R_drewN | apply Kd.R_drew)); exact Kd.R_mono HO_313000.out (fun _ hk => ⟨hk.1.1.2, ⟨hk.1.2, ⟨hk.2, ⟨hk.1.1.1.1, ⟨hk.1.1.1.2.1, hk.1.1.1.2.2⟩⟩⟩⟩⟩)), (by (with_reducible repeat (first | apply Kd.R_alloc | apply Kd.R_drewN | apply Kd.R_drew)); exact Kd.R_mono HO_317000.out (fun _ hk => ⟨hk.1.1.2, ⟨hk.1.2, ⟨hk.2, ⟨hk.1.1.1.1, ⟨hk.1.1.1.2.1, hk.1.1.1.2.2⟩⟩⟩⟩⟩)), (by (with_reducible repeat (first | apply Kd.R_alloc | apply Kd.R_drewN | apply Kd.R_drew)); exact Kd.R_mono HO_322000.out (fun _ hk => ⟨hk.1.1.2, ⟨hk.1.2, ⟨hk.2, ⟨hk.1.1.1.1, ⟨hk.1.1.1.2.1, hk.1.1.1.2.2⟩⟩⟩⟩⟩)), (bq BK294), (bq BK295), (bq BK308), (bq BK312), (bq BK316), (bq BK321), (bq BK349), GW349.out, GE349.out, NB294_349.out, NB349_294.out, NB295_349.out, NB349_295.out, NB308_349.out, NB349_308.out, NB312_349.out, NB349_312.out, NB316_349.out, NB349_316.out, NB321_349.out, NB349_321.out, (hq7 HB GE294 GE295 GE308 GE312 GE316 GE321 GE349)⟩)
     skip
     refine box_step ?hg (N := 15) ?hd (cs := #[.slice none 0 0]) (t := 27) ?hr ?_; (case hd => rfl); (case hg => rfl); (case hr => first | (go_simp; done) | (go_simp; rfl))
     intro gb349 hg w187 hbox hb
     replace HO_309000 := cb HO_309000 hb
     replace HO_313000 := cb HO_313000 hb
     replace HO_317000 := cb HO_317000 hb
     replace HO_322000 := cb HO_322000 hb
     replace HO341 := cb HO341 hb
     have n5_ := cB BK294 hb
     have n6_ := cB BK295 hb
     have n7_ := cB BK308 hb
     have n8_ := cB BK312 hb
     have n9_ := cB BK316 hb
     have n10_ := cB BK321 hb
     have n11_ := cs (hq6 HB GE294 GE295 GE308 GE312 GE316 GE321) hb
     have BK349 := Aside0.mk (hbox)
     have GW349 := cg hg (hq6 HB GE294 GE295 GE308 GE312 GE316 GE321)
     have GE349 := cg hg (hq6 HB GE294 GE295 GE308 GE312 GE316 GE321)
     have NB294_349 := cl hg BK294
     have NB349_294 := cr hg BK294
     have NB295_349 := cl hg BK295
     have NB349_295 := cr hg BK295
     have NB308_349 := cl hg BK308
     have NB349_308 := cr hg BK308
     have NB312_349 := cl hg BK312
     have NB349_312 := cr hg BK312
     have NB316_349 := cl hg BK316
     have NB349_316 := cr hg BK316
     have NB321_349 := cl hg BK321
     have NB349_321 := cr hg BK321
     replace BK294 := n5_
     replace BK295 := n6_
     replace BK308 := n7_
     replace BK312 := n8_
     replace BK316 := n9_
     replace BK321 := n10_
     replace HB := n11_
     clear n5_ n6_ n7_ n8_ n9_ n10_ n11_
     clear hb hbox hg
     refine hK.out _ _ ⟨(blk_cell BK294.out 0).trans rfl, (blk_cell BK295.out 0).trans rfl⟩ (fun hHeld => ?_)
     clear hK K
     refine norm_ (a' := ?_) ?_ ?_
     rotate_left
     · show Act.put _ (some 15) _ = _
       simp only [Act.put, List.setIfInBounds_toArray, List.set_cons_zero, List.set_cons_succ, i64_w, i32_w]
       rfl
     refine one_ (i := 3) (N := some 98) #[true, true, true, true, false, false, false, false, true, false, false] rfl rfl (one_of HT_.out (by kernel_rfl)) (by decide) (fun K hK => ?_)
     refine goes_ Try.func17 (by kernel_rfl) rfl #[.agg #[.slice A1_0 l1_0.length c1_0]] (by rfl) rfl rfl (by (try simp only [List.map_toArray, List.map_cons, List.map_nil]); first | done | rfl | (simp only [List.length_drop, List.length_take]; rfl)) ?_
     with_reducible refine (laws_toBig.calls kj108 _ _ l1_0 t342 _ ?side1 ?side2 A173.out).mono ?_
     (case side1 => repeat (first | exact (Kd.C_below HR1_0.out HB.out) | (with_reducible refine Kd.C_alloc ?_ _) | (with_reducible refine Kd.C_drewN ?_ _) | (with_reducible refine Kd.C_drew ?_)))
     (case side2 => exact HC1_0.out)
     rintro e w188 ⟨v343, rfl, ho0, hb⟩
     refine ⟨_, rfl, ?_⟩
     have n0_ := ce HO_309000 ho0 hb
     have n1_ := ce HO_313000 ho0 hb
     have n2_ := ce HO_317000 ho0 hb
     have n3_ := ce HO_322000 ho0 hb
     have n4_ := ce HO341 ho0 hb
     have HO344 := Aside0.mk (Kd.R_lower (Kd.R_new' (Kd.R_new' (Kd.R_new' (Kd.R_new' (Kd.R_new' ho0 (ql HO_309000)) (ql HO_313000)) (ql HO_317000)) (ql HO_322000)) (ql HO341)) (below_size (hq7 HB GE294 GE295 GE308 GE312 GE316 GE321 GE349)))
     replace BK294 := cB BK294 hb
     replace BK295 := cB BK295 hb
     replace BK308 := cB BK308 hb
     replace BK312 := cB BK312 hb
     replace BK316 := cB BK316 hb
     replace BK321 := cB BK321 hb
     replace BK349 := cB BK349 hb
     replace HB := cs (hq7 HB GE294 GE295 GE308 GE312 GE316 GE321 GE349) hb
     replace HO_309000 := n0_
     replace HO_313000 := n1_
     replace HO_317000 := n2_
     replace HO_322000 := n3_
     replace HO341 := n4_
     clear n0_ n1_ n2_ n3_ n4_
     (try clear hb)
     (try clear hb2)
     (try clear hk)
     (try clear hi)
     (try clear ho0)
     obtain ⟨Ao189, co189, eo189⟩ := Kd.R_slice HO341.out
     (first | subst eo189 | (injection eo189 with f1_ f2_ f3_; have f4_ := f1_.symm; have f5_ := f3_.symm; clear f1_ f2_ f3_; subst f4_; subst f5_))
     obtain ⟨Ao190, co190, eo190⟩ := Kd.R_slice HO344.out
     (first | subst eo190 | (injection eo190 with f1_ f2_ f3_; have f4_ := f1_.symm; have f5_ := f3_.symm; clear f1_ f2_ f3_; subst f4_; subst f5_))
     refine hK.out _ _ ⟨(blk_cell BK294.out 0).trans rfl, (blk_cell BK295.out 0).trans rfl⟩ (fun hHeld => ?_)
     clear hK K
     refine norm_ (a' := ?_) ?_ ?_
     rotate_left
     · show Act.put _ (some 98) _ = _
       simp only [Act.put, List.setIfInBounds_toArray, List.set_cons_zero, List.set_cons_succ, i64_w, i32_w]
       rfl
     refine one_ (i := 4) (N := some 99) #[true, true, true, true, true, false, false, false, true, false, false] rfl rfl (one_of HT_.out (by kernel_rfl)) (by decide) (fun K hK => ?_)
     refine goes_ Try.func43 (by kernel_rfl) rfl #[.agg #[.slice Ao189 t339.length co189], .agg #[.slice Ao190 t342.length co190]] (by rfl) rfl rfl (by (try simp only [List.map_toArray, List.map_cons, List.map_nil]); first | done | rfl | (simp only [List.length_drop, List.length_take]; rfl)) ?_
     with_reducible refine (impl_ReduceBig.calls kj108 (fun k_ => some k_ = (.slice Ao189 t339.length co189 : Value).ownBlock) _ _ t339 (fun k_ => some k_ = (.slice Ao190 t342.length co190 : Value).ownBlock) _ _ t342 t345 t348 _ ?side1 ?side2 A174.out).mono ?_
     (case side1 => exact Kd.R_V (Kd.R_tight rfl (Kd.R_types (Kd.R_types (Kd.R_types (Kd.R_types (Kd.R_types (Kd.R_types (Kd.R_types (HO341.out) BK294.out (by decide)) BK295.out (by decide)) BK308.out (by decide)) BK312.out (by decide)) BK316.out (by decide)) BK321.out (by decide)) BK349.out (by decide))))
     (case side2 => exact Kd.R_V (Kd.R_tight rfl (Kd.R_types (Kd.R_types (Kd.R_types (Kd.R_types (Kd.R_types (Kd.R_types (Kd.R_types (HO344.out) BK294.out (by decide)) BK295.out (by decide)) BK308.out (by decide)) BK312.out (by decide)) BK316.out (by decide)) BK321.out (by decide)) BK349.out (by decide))))
     rintro e w191 ⟨v346, rfl, ho0, hb⟩
     refine ⟨_, rfl, ?_⟩
     have n0_ := ce HO_309000 ho0 hb
     have n1_ := ce HO_313000 ho0 hb
     have n2_ := ce HO_317000 ho0 hb
     have n3_ := ce HO_322000 ho0 hb
     have n4_ := ce HO341 ho0 hb
     have n5_ := ce HO344 ho0 hb
     have HO347 := Aside0.mk (Kd.R_lower (Kd.R_new' (Kd.R_new' (Kd.R_new' (Kd.R_new' (Kd.R_new' (Kd.R_new' (Kd.R_mono (ok' := fun k_ => True) ho0 (fun _ hk_ => trivial)) (ql HO_309000)) (ql HO_313000)) (ql HO_317000)) (ql HO_322000)) (ql HO341)) (ql HO344)) (below_size (hq7 HB GE294 GE295 GE308 GE312 GE316 GE321 GE349)))
     replace BK294 := cB BK294 hb
     replace BK295 := cB BK295 hb
     replace BK308 := cB BK308 hb
     replace BK312 := cB BK312 hb
     replace BK316 := cB BK316 hb
     replace BK321 := cB BK321 hb
     replace BK349 := cB BK349 hb
     replace HB := cs (hq7 HB GE294 GE295 GE308 GE312 GE316 GE321 GE349) hb
     replace HO_309000 := n0_
     replace HO_313000 := n1_
     replace HO_317000 := n2_
     replace HO_322000 := n3_
     replace HO341 := n4_
     replace HO344 := n5_
     clear n0_ n1_ n2_ n3_ n4_ n5_
     (try clear hb)
     (try clear hb2)
     (try clear hk)
     (try clear hi)
     (try clear ho0)
     refine hK.out _ _ ⟨(blk_cell BK294.out 0).trans rfl, (blk_cell BK295.out 0).trans rfl⟩ (fun hHeld => ?_)
     clear hK K
     refine norm_ (a' := ?_) ?_ ?_
     rotate_left
     · show Act.put _ (some 99) _ = _
       simp only [Act.put, List.setIfInBounds_toArray, List.set_cons_zero, List.set_cons_succ, i64_w, i32_w]
       rfl
     refine pure_ (i := 5) (N := some 94) (v := ?_) (a' := ?_) #[true, true, true, true, true, true, false, false, true, false, false] rfl rfl (any_of HT_.out (by kernel_rfl)) (fun _ _ _ h => h) (Or.inl ⟨by rfl, ?_⟩) ?_ ?_
     rotate_left
     · intro w'
       first | (go_simp; with_reducible rfl) | (go_simp; unfold Instr.field; go_simp; rfl)
     rotate_left
     · simp only [Act.put, List.setIfInBounds_toArray, List.set_cons_zero, List.set_cons_succ, i64_w, i32_w]
       rfl
     refine pure_ (i := 6) (N := some 100) (v := ?_) (a' := ?_) #[true, true, true, true, true, true, true, false, true, false, false] rfl rfl (any_of HT_.out (by kernel_rfl)) (fun _ _ _ h => h) (Or.inl ⟨by rfl, ?_⟩) ?_ ?_
     rotate_left
     · intro w'
       first | (go_simp; with_reducible rfl) | (go_simp; unfold Instr.field; go_simp; rfl)
     rotate_left
     · simp only [Act.put, List.setIfInBounds_toArray, List.set_cons_zero, List.set_cons_succ, i64_w, i32_w]
       rfl
     refine pure_ (i := 7) (N := some 101) (v := ?_) (a' := ?_) #[true, true, true, true, true, true, true, true, true, false, false] rfl rfl (any_of HT_.out (by kernel_rfl)) (fun _ _ _ h => h) (Or.inl ⟨by rfl, ?_⟩) ?_ ?_
     rotate_left
     · intro w'
       first | (go_simp; with_reducible rfl) | (go_simp; unfold Instr.field; go_simp; rfl)
     rotate_left
     · simp only [Act.put, List.setIfInBounds_toArray, List.set_cons_zero, List.set_cons_succ, i64_w, i32_w]
       rfl
     exact norm_ (by simp only [putAll, Act.put, List.setIfInBounds_toArray, List.set_cons_zero, List.set_cons_succ]) (hCont (.slice Ao189 t339.length co189, .slice Ao190 t342.length co190, v346, gb349) _ ⟨hHeld, (by (with_reducible repeat (first | apply Kd.R_alloc | apply Kd.R_drewN | apply Kd.R_drew)); exact Kd.R_mono HO341.out (fun _ hk => ⟨hk.1.2, ⟨hk.2, ⟨hk.1.1.1.1.1.2, ⟨hk.1.1.1.1.2, ⟨hk.1.1.1.2, hk.1.1.2⟩⟩⟩⟩⟩)), (by (with_reducible repeat (first | apply Kd.R_alloc | apply Kd.R_drewN | apply Kd.R_drew)); exact Kd.R_mono HO344.out (fun _ hk => ⟨hk.1.2, ⟨hk.2, ⟨hk.1.1.1.1.1.2, ⟨hk.1.1.1.1.2, ⟨hk.1.1.1.2, hk.1.1.2⟩⟩⟩⟩⟩)), (by (with_reducible repeat (first | apply Kd.R_alloc | apply Kd.R_drewN | apply Kd.R_drew)); exact Kd.R_mono HO347.out (fun _ hk => ⟨hk.1.2, ⟨hk.2, ⟨hk.1.1.1.1.1.2, ⟨hk.1.1.1.1.2, ⟨hk.1.1.1.2, hk.1.1.2⟩⟩⟩⟩⟩)), (by (with_reducible repeat (first | apply Kd.R_alloc | apply Kd.R_drewN | apply Kd.R_drew)); exact Kd.R_mono HO_309000.out (fun _ hk => ⟨hk.1.1.2, ⟨hk.1.2, ⟨hk.2, ⟨hk.1.1.1.1, ⟨hk.1.1.1.2.1, hk.1.1.1.2.2⟩⟩⟩⟩⟩)), (by (with_reducible repeat (first | apply Kd.R_alloc | apply Kd.R_drewN | apply Kd.R_drew)); exact Kd.R_mono HO_313000.out (fun _ hk => ⟨hk.1.1.2, ⟨hk.1.2, ⟨hk.2, ⟨hk.1.1.1.1, ⟨hk.1.1.1.2.1, hk.1.1.1.2.2⟩⟩⟩⟩⟩)), (by (with_reducible repeat (first | apply Kd.R_alloc | apply Kd.R_drewN | apply Kd.R_drew)); exact Kd.R_mono HO_317000.out (fun _ hk => ⟨hk.1.1.2, ⟨hk.1.2, ⟨hk.2, ⟨hk.1.1.1.1, ⟨hk.1.1.1.2.1, hk.1.1.1.2.2⟩⟩⟩⟩⟩)), (by (with_reducible repeat (first | apply Kd.R_alloc | apply Kd.R_drewN | apply Kd.R_drew)); exact Kd.R_mono HO_322000.out (fun _ hk => ⟨hk.1.1.2, ⟨hk.1.2, ⟨hk.2, ⟨hk.1.1.1.1, ⟨hk.1.1.1.2.1, hk.1.1.1.2.2⟩⟩⟩⟩⟩)), (bq BK294), (bq BK295), (bq BK308), (bq BK312), (bq BK316), (bq BK321), (bq BK349), GW349.out, GE349.out, NB294_349.out, NB349_294.out, NB295_349.out, NB349_295.out, NB308_349.out, NB349_308.out, NB312_349.out, NB349_312.out, NB316_349.out, NB349_316.out, NB321_349.out, NB349_321.out, (hq7 HB GE294 GE295 GE308 GE312 GE316 GE321 GE349)⟩)
   skip
   refine box_step ?hg (N := 15) ?hd (cs := #[.slice none 0 0]) (t := 27) ?hr ?_; (case hd => rfl); (case hg => rfl); (case hr => first | (go_simp; done) | (go_simp; rfl))
   intro gb349 hg w186 hbox hb
   replace HO_309000 := cb HO_309000 hb
   replace HO_313000 := cb HO_313000 hb
   replace HO_317000 := cb HO_317000 hb
   replace HO_322000 := cb HO_322000 hb
   have n4_ := cB BK294 hb
   have n5_ := cB BK295 hb
   have n6_ := cB BK308 hb
   have n7_ := cB BK312 hb
   have n8_ := cB BK316 hb
   have n9_ := cB BK321 hb
   have n10_ := cs (hq6 HB GE294 GE295 GE308 GE312 GE316 GE321) hb
   have BK349 := Aside0.mk (hbox)
   have GW349 := cg hg (hq6 HB GE294 GE295 GE308 GE312 GE316 GE321)
   have GE349 := cg hg (hq6 HB GE294 GE295 GE308 GE312 GE316 GE321)
   have NB294_349 := cl hg BK294
   have NB349_294 := cr hg BK294
   have NB295_349 := cl hg BK295
   have NB349_295 := cr hg BK295
   have NB308_349 := cl hg BK308
   have NB349_308 := cr hg BK308
   have NB312_349 := cl hg BK312
   have NB349_312 := cr hg BK312
   have NB316_349 := cl hg BK316
   have NB349_316 := cr hg BK316
   have NB321_349 := cl hg BK321
   have NB349_321 := cr hg BK321
   replace BK294 := n4_
   replace BK295 := n5_
   replace BK308 := n6_
   replace BK312 := n7_
   replace BK316 := n8_
   replace BK321 := n9_
   replace HB := n10_
   clear n4_ n5_ n6_ n7_ n8_ n9_ n10_
   clear hb hbox hg
   refine hK.out _ _ ⟨(blk_cell BK294.out 0).trans rfl, (blk_cell BK295.out 0).trans rfl⟩ (fun hHeld => ?_)
   clear hK K
   refine norm_ (a' := ?_) ?_ ?_
   rotate_left
   · show Act.put _ (some 15) _ = _
     simp only [Act.put, List.setIfInBounds_toArray, List.set_cons_zero, List.set_cons_succ, i64_w, i32_w]
     rfl
   refine one_ (i := 1) (N := some 96) #[true, true, true, false, false, false, false, false, true, false, false] rfl rfl (one_of HT_.out (by kernel_rfl)) (by decide) (fun K hK => ?_)
   refine goes_ Try.func17 (by kernel_rfl) rfl #[.agg #[.slice A0_0 l0_0.length c0_0]] (by rfl) rfl rfl (by (try simp only [List.map_toArray, List.map_cons, List.map_nil]); first | done | rfl | (simp only [List.length_drop, List.length_take]; rfl)) ?_
   with_reducible refine (laws_toBig.calls kj108 _ _ l0_0 t339 _ ?side1 ?side2 A172.out).mono ?_
   (case side1 => repeat (first | exact (Kd.C_below HR0_0.out HB.out) | (with_reducible refine Kd.C_alloc ?_ _) | (with_reducible refine Kd.C_drewN ?_ _) | (with_reducible refine Kd.C_drew ?_)))
   (case side2 => exact HC0_0.out)
   rintro e w187 ⟨v340, rfl, ho0, hb⟩
   refine ⟨_, rfl, ?_⟩
   have n0_ := ce HO_309000 ho0 hb
   have n1_ := ce HO_313000 ho0 hb
   have n2_ := ce HO_317000 ho0 hb
   have n3_ := ce HO_322000 ho0 hb
   have HO341 := Aside0.mk (Kd.R_lower (Kd.R_new' (Kd.R_new' (Kd.R_new' (Kd.R_new' ho0 (ql HO_309000)) (ql HO_313000)) (ql HO_317000)) (ql HO_322000)) (below_size (hq7 HB GE294 GE295 GE308 GE312 GE316 GE321 GE349)))
   replace BK294 := cB BK294 hb
   replace BK295 := cB BK295 hb
   replace BK308 := cB BK308 hb
   replace BK312 := cB BK312 hb
   replace BK316 := cB BK316 hb
   replace BK321 := cB BK321 hb
   replace BK349 := cB BK349 hb
   replace HB := cs (hq7 HB GE294 GE295 GE308 GE312 GE316 GE321 GE349) hb
   replace HO_309000 := n0_
   replace HO_313000 := n1_
   replace HO_317000 := n2_
   replace HO_322000 := n3_
   clear n0_ n1_ n2_ n3_
   (try clear hb)
   (try clear hb2)
   (try clear hk)
   (try clear hi)
   (try clear ho0)
   refine hK.out _ _ ⟨(blk_cell BK294.out 0).trans rfl, (blk_cell BK295.out 0).trans rfl⟩ (fun hHeld => ?_)
   clear hK K
   refine norm_ (a' := ?_) ?_ ?_
   rotate_left
   · show Act.put _ (some 96) _ = _
     simp only [Act.put, List.setIfInBounds_toArray, List.set_cons_zero, List.set_cons_succ, i64_w, i32_w]
     rfl
   refine one_ (i := 3) (N := some 98) #[true, true, true, true, false, false, false, false, true, false, false] rfl rfl (one_of HT_.out (by kernel_rfl)) (by decide) (fun K hK => ?_)
   refine goes_ Try.func17 (by kernel_rfl) rfl #[.agg #[.slice A1_0 l1_0.length c1_0]] (by rfl) rfl rfl (by (try simp only [List.map_toArray, List.map_cons, List.map_nil]); first | done | rfl | (simp only [List.length_drop, List.length_take]; rfl)) ?_
   with_reducible refine (laws_toBig.calls kj108 _ _ l1_0 t342 _ ?side1 ?side2 A173.out).mono ?_
   (case side1 => repeat (first | exact (Kd.C_below HR1_0.out HB.out) | (with_reducible refine Kd.C_alloc ?_ _) | (with_reducible refine Kd.C_drewN ?_ _) | (with_reducible refine Kd.C_drew ?_)))
   (case side2 => exact HC1_0.out)
   rintro e w188 ⟨v343, rfl, ho0, hb⟩
   refine ⟨_, rfl, ?_⟩
   have n0_ := ce HO_309000 ho0 hb
   have n1_ := ce HO_313000 ho0 hb
   have n2_ := ce HO_317000 ho0 hb
   have n3_ := ce HO_322000 ho0 hb
   have n4_ := ce HO341 ho0 hb
   have HO344 := Aside0.mk (Kd.R_lower (Kd.R_new' (Kd.R_new' (Kd.R_new' (Kd.R_new' (Kd.R_new' ho0 (ql HO_309000)) (ql HO_313000)) (ql HO_317000)) (ql HO_322000)) (ql HO341)) (below_size (hq7 HB GE294 GE295 GE308 GE312 GE316 GE321 GE349)))
   replace BK294 := cB BK294 hb
   replace BK295 := cB BK295 hb
   replace BK308 := cB BK308 hb
   replace BK312 := cB BK312 hb
   replace BK316 := cB BK316 hb
   replace BK321 := cB BK321 hb
   replace BK349 := cB BK349 hb
   replace HB := cs (hq7 HB GE294 GE295 GE308 GE312 GE316 GE321 GE349) hb
   replace HO_309000 := n0_
   replace HO_313000 := n1_
   replace HO_317000 := n2_
   replace HO_322000 := n3_
   replace HO341 := n4_
   clear n0_ n1_ n2_ n3_ n4_
   (try clear hb)
   (try clear hb2)
   (try clear hk)
   (try clear hi)
   (try clear ho0)
   obtain ⟨Ao189, co189, eo189⟩ := Kd.R_slice HO341.out
   (first | subst eo189 | (injection eo189 with f1_ f2_ f3_; have f4_ := f1_.symm; have f5_ := f3_.symm; clear f1_ f2_ f3_; subst f4_; subst f5_))
   obtain ⟨Ao190, co190, eo190⟩ := Kd.R_slice HO344.out
   (first | subst eo190 | (injection eo190 with f1_ f2_ f3_; have f4_ := f1_.symm; have f5_ := f3_.symm; clear f1_ f2_ f3_; subst f4_; subst f5_))
   refine hK.out _ _ ⟨(blk_cell BK294.out 0).trans rfl, (blk_cell BK295.out 0).trans rfl⟩ (fun hHeld => ?_)
   clear hK K
   refine norm_ (a' := ?_) ?_ ?_
   rotate_left
   · show Act.put _ (some 98) _ = _
     simp only [Act.put, List.setIfInBounds_toArray, List.set_cons_zero, List.set_cons_succ, i64_w, i32_w]
     rfl
   refine one_ (i := 4) (N := some 99) #[true, true, true, true, true, false, false, false, true, false, false] rfl rfl (one_of HT_.out (by kernel_rfl)) (by decide) (fun K hK => ?_)
   refine goes_ Try.func43 (by kernel_rfl) rfl #[.agg #[.slice Ao189 t339.length co189], .agg #[.slice Ao190 t342.length co190]] (by rfl) rfl rfl (by (try simp only [List.map_toArray, List.map_cons, List.map_nil]); first | done | rfl | (simp only [List.length_drop, List.length_take]; rfl)) ?_
   with_reducible refine (impl_ReduceBig.calls kj108 (fun k_ => some k_ = (.slice Ao189 t339.length co189 : Value).ownBlock) _ _ t339 (fun k_ => some k_ = (.slice Ao190 t342.length co190 : Value).ownBlock) _ _ t342 t345 t348 _ ?side1 ?side2 A174.out).mono ?_
   (case side1 => exact Kd.R_V (Kd.R_tight rfl (Kd.R_types (Kd.R_types (Kd.R_types (Kd.R_types (Kd.R_types (Kd.R_types (Kd.R_types (HO341.out) BK294.out (by decide)) BK295.out (by decide)) BK308.out (by decide)) BK312.out (by decide)) BK316.out (by decide)) BK321.out (by decide)) BK349.out (by decide))))
   (case side2 => exact Kd.R_V (Kd.R_tight rfl (Kd.R_types (Kd.R_types (Kd.R_types (Kd.R_types (Kd.R_types (Kd.R_types (Kd.R_types (HO344.out) BK294.out (by decide)) BK295.out (by decide)) BK308.out (by decide)) BK312.out (by decide)) BK316.out (by decide)) BK321.out (by decide)) BK349.out (by decide))))
   rintro e w191 ⟨v346, rfl, ho0, hb⟩
   refine ⟨_, rfl, ?_⟩
   have n0_ := ce HO_309000 ho0 hb
   have n1_ := ce HO_313000 ho0 hb
   have n2_ := ce HO_317000 ho0 hb
   have n3_ := ce HO_322000 ho0 hb
   have n4_ := ce HO341 ho0 hb
   have n5_ := ce HO344 ho0 hb
   have HO347 := Aside0.mk (Kd.R_lower (Kd.R_new' (Kd.R_new' (Kd.R_new' (Kd.R_new' (Kd.R_new' (Kd.R_new' (Kd.R_mono (ok' := fun k_ => True) ho0 (fun _ hk_ => trivial)) (ql HO_309000)) (ql HO_313000)) (ql HO_317000)) (ql HO_322000)) (ql HO341)) (ql HO344)) (below_size (hq7 HB GE294 GE295 GE308 GE312 GE316 GE321 GE349)))
   replace BK294 := cB BK294 hb
   replace BK295 := cB BK295 hb
   replace BK308 := cB BK308 hb
   replace BK312 := cB BK312 hb
   replace BK316 := cB BK316 hb
   replace BK321 := cB BK321 hb
   replace BK349 := cB BK349 hb
   replace HB := cs (hq7 HB GE294 GE295 GE308 GE312 GE316 GE321 GE349) hb
   replace HO_309000 := n0_
   replace HO_313000 := n1_
   replace HO_317000 := n2_
   replace HO_322000 := n3_
   replace HO341 := n4_
   replace HO344 := n5_
   clear n0_ n1_ n2_ n3_ n4_ n5_
   (try clear hb)
   (try clear hb2)
   (try clear hk)
   (try clear hi)
   (try clear ho0)
   refine hK.out _ _ ⟨(blk_cell BK294.out 0).trans rfl, (blk_cell BK295.out 0).trans rfl⟩ (fun hHeld => ?_)
   clear hK K
   refine norm_ (a' := ?_) ?_ ?_
   rotate_left
   · show Act.put _ (some 99) _ = _
     simp only [Act.put, List.setIfInBounds_toArray, List.set_cons_zero, List.set_cons_succ, i64_w, i32_w]
     rfl
   refine pure_ (i := 5) (N := some 94) (v := ?_) (a' := ?_) #[true, true, true, true, true, true, false, false, true, false, false] rfl rfl (any_of HT_.out (by kernel_rfl)) (fun _ _ _ h => h) (Or.inl ⟨by rfl, ?_⟩) ?_ ?_
   rotate_left
   · intro w'
     first | (go_simp; with_reducible rfl) | (go_simp; unfold Instr.field; go_simp; rfl)
   rotate_left
   · simp only [Act.put, List.setIfInBounds_toArray, List.set_cons_zero, List.set_cons_succ, i64_w, i32_w]
     rfl
   refine pure_ (i := 6) (N := some 100) (v := ?_) (a' := ?_) #[true, true, true, true, true, true, true, false, true, false, false] rfl rfl (any_of HT_.out (by kernel_rfl)) (fun _ _ _ h => h) (Or.inl ⟨by rfl, ?_⟩) ?_ ?_
   rotate_left
   · intro w'
     first | (go_simp; with_reducible rfl) | (go_simp; unfold Instr.field; go_simp; rfl)
   rotate_left
   · simp only [Act.put, List.setIfInBounds_toArray, List.set_cons_zero, List.set_cons_succ, i64_w, i32_w]
     rfl
   refine pure_ (i := 7) (N := some 101) (v := ?_) (a' := ?_) #[true, true, true, true, true, true, true, true, true, false, false] rfl rfl (any_of HT_.out (by kernel_rfl)) (fun _ _ _ h => h) (Or.inl ⟨by rfl, ?_⟩) ?_ ?_
   rotate_left
   · intro w'
     first | (go_simp; with_reducible rfl) | (go_simp; unfold Instr.field; go_simp; rfl)
   rotate_left
   · simp only [Act.put, List.setIfInBounds_toArray, List.set_cons_zero, List.set_cons_succ, i64_w, i32_w]
     rfl
   exact norm_ (by simp only [putAll, Act.put, List.setIfInBounds_toArray, List.set_cons_zero, List.set_cons_succ]) (hCont (.slice Ao189 t339.length co189, .slice Ao190 t342.length co190, v346, gb349) _ ⟨hHeld, (by (with_reducible repeat (first | apply Kd.R_alloc | apply Kd.R_drewN | apply Kd.R_drew)); exact Kd.R_mono HO341.out (fun _ hk => ⟨hk.1.2, ⟨hk.2, ⟨hk.1.1.1.1.1.2, ⟨hk.1.1.1.1.2, ⟨hk.1.1.1.2, hk.1.1.2⟩⟩⟩⟩⟩)), (by (with_reducible repeat (first | apply Kd.R_alloc | apply Kd.R_drewN | apply Kd.R_drew)); exact Kd.R_mono HO344.out (fun _ hk => ⟨hk.1.2, ⟨hk.2, ⟨hk.1.1.1.1.1.2, ⟨hk.1.1.1.1.2, ⟨hk.1.1.1.2, hk.1.1.2⟩⟩⟩⟩⟩)), (by (with_reducible repeat (first | apply Kd.R_alloc | apply Kd.R_drewN | apply Kd.R_drew)); exact Kd.R_mono HO347.out (fun _ hk => ⟨hk.1.2, ⟨hk.2, ⟨hk.1.1.1.1.1.2, ⟨hk.1.1.1.1.2, ⟨hk.1.1.1.2, hk.1.1.2⟩⟩⟩⟩⟩)), (by (with_reducible repeat (first | apply Kd.R_alloc | apply Kd.R_drewN | apply Kd.R_drew)); exact Kd.R_mono HO_309000.out (fun _ hk => ⟨hk.1.1.2, ⟨hk.1.2, ⟨hk.2, ⟨hk.1.1.1.1, ⟨hk.1.1.1.2.1, hk.1.1.1.2.2⟩⟩⟩⟩⟩)), (by (with_reducible repeat (first | apply Kd.R_alloc | apply Kd.R_drewN | apply Kd.R_drew)); exact Kd.R_mono HO_313000.out (fun _ hk => ⟨hk.1.1.2, ⟨hk.1.2, ⟨hk.2, ⟨hk.1.1.1.1, ⟨hk.1.1.1.2.1, hk.1.1.1.2.2⟩⟩⟩⟩⟩)), (by (with_reducible repeat (first | apply Kd.R_alloc | apply Kd.R_drewN | apply Kd.R_drew)); exact Kd.R_mono HO_317000.out (fun _ hk => ⟨hk.1.1.2, ⟨hk.1.2, ⟨hk.2, ⟨hk.1.1.1.1, ⟨hk.1.1.1.2.1, hk.1.1.1.2.2⟩⟩⟩⟩⟩)), (by (with_reducible repeat (first | apply Kd.R_alloc | apply Kd.R_drewN | apply Kd.R_drew)); exact Kd.R_mono HO_322000.out (fun _ hk => ⟨hk.1.1.2, ⟨hk.1.2, ⟨hk.2, ⟨hk.1.1.1.1, ⟨hk.1.1.1.2.1, hk.1.1.1.2.2⟩⟩⟩⟩⟩)), (bq BK294), (bq BK295), (bq BK308), (bq BK312), (bq BK316), (bq BK321), (bq BK349), GW349.out, GE349.out, NB294_349.out, NB349_294.out, NB295_349.out, NB349_295.out, NB308_349.out, NB349_308.out, NB312_349.out, NB349_312.out, NB316_349.out, NB349_316.out, NB321_349.out, NB349_321.out, (hq7 HB GE294 GE295 GE308 GE312 GE316 GE321 GE349)⟩)
 rintro ⟨v340, v343, v346, gb349⟩ w192 ⟨hS_, h0_, h1_, h2_, h3_, h4_, h5_, h6_, h7_, h8_, h9_, h10_, h11_, h12_, h13_, h14_, h15_, h16_, h17_, h18_, h19_, h20_, h21_, h22_, h23_, h24_, h25_, h26_, h27_, h28_⟩
 have n0_ : Aside0 (Kd.R (Kd.int .i64) 3 w192 w.heap.size (fun k_ => some k_ ≠ (v343 : Value).ownBlock ∧ some k_ ≠ (v346 : Value).ownBlock ∧ some k_ ≠ (.slice Ao41 t304.length co41 : Value).ownBlock ∧ some k_ ≠ (.slice Ao47 t332.length co47 : Value).ownBlock ∧ some k_ ≠ (.slice Ao56 t334.length co56 : Value).ownBlock ∧ some k_ ≠ (.slice Ao67 t317.length co67 : Value).ownBlock) v340 t339) := ⟨h0_⟩
 have n1_ : Aside0 (Kd.R (Kd.int .i64) 3 w192 w.heap.size (fun k_ => some k_ ≠ (v340 : Value).ownBlock ∧ some k_ ≠ (v346 : Value).ownBlock ∧ some k_ ≠ (.slice Ao41 t304.length co41 : Value).ownBlock ∧ some k_ ≠ (.slice Ao47 t332.length co47 : Value).ownBlock ∧ some k_ ≠ (.slice Ao56 t334.length co56 : Value).ownBlock ∧ some k_ ≠ (.slice Ao67 t317.length co67 : Value).ownBlock) v343 t342) := ⟨h1_⟩
 have n2_ : Aside0 (Kd.R (Kd.int .i64) 3 w192 w.heap.size (fun k_ => some k_ ≠ (v340 : Value).ownBlock ∧ some k_ ≠ (v343 : Value).ownBlock ∧ some k_ ≠ (.slice Ao41 t304.length co41 : Value).ownBlock ∧ some k_ ≠ (.slice Ao47 t332.length co47 : Value).ownBlock ∧ some k_ ≠ (.slice Ao56 t334.length co56 : Value).ownBlock ∧ some k_ ≠ (.slice Ao67 t317.length co67 : Value).ownBlock) v346 t345) := ⟨h2_⟩
 have n3_ : Aside0 (Kd.R (Kd.int .i64) 3 w192 w.heap.size (fun k_ => some k_ ≠ (v340 : Value).ownBlock ∧ some k_ ≠ (v343 : Value).ownBlock ∧ some k_ ≠ (v346 : Value).ownBlock ∧ some k_ ≠ (.slice Ao47 t332.length co47 : Value).ownBlock ∧ some k_ ≠ (.slice Ao56 t334.length co56 : Value).ownBlock ∧ some k_ ≠ (.slice Ao67 t317.length co67 : Value).ownBlock) (.slice Ao41 t304.length co41) t304) := ⟨h3_⟩
 have n4_ : Aside0 (Kd.R (Kd.int .i64) 3 w192 w.heap.size (fun k_ => some k_ ≠ (v340 : Value).ownBlock ∧ some k_ ≠ (v343 : Value).ownBlock ∧ some k_ ≠ (v346 : Value).ownBlock ∧ some k_ ≠ (.slice Ao41 t304.length co41 : Value).ownBlock ∧ some k_ ≠ (.slice Ao56 t334.length co56 : Value).ownBlock ∧ some k_ ≠ (.slice Ao67 t317.length co67 : Value).ownBlock) (.slice Ao47 t332.length co47) t332) := ⟨h4_⟩
 have n5_ : Aside0 (Kd.R (Kd.int .i64) 3 w192 w.heap.size (fun k_ => some k_ ≠ (v340 : Value).ownBlock ∧ some k_ ≠ (v343 : Value).ownBlock ∧ some k_ ≠ (v346 : Value).ownBlock ∧ some k_ ≠ (.slice Ao41 t304.length co41 : Value).ownBlock ∧ some k_ ≠ (.slice Ao47 t332.length co47 : Value).ownBlock ∧ some k_ ≠ (.slice Ao67 t317.length co67 : Value).ownBlock) (.slice Ao56 t334.length co56) t334) := ⟨h5_⟩
 have n6_ : Aside0 (Kd.R (Kd.int .i64) 3 w192 w.heap.size (fun k_ => some k_ ≠ (v340 : Value).ownBlock ∧ some k_ ≠ (v343 : Value).ownBlock ∧ some k_ ≠ (v346 : Value).ownBlock ∧ some k_ ≠ (.slice Ao41 t304.length co41 : Value).ownBlock ∧ some k_ ≠ (.slice Ao47 t332.length co47 : Value).ownBlock ∧ some k_ ≠ (.slice Ao56 t334.length co56 : Value).ownBlock) (.slice Ao67 t317.length co67) t337) := ⟨h6_⟩
 have n7_ : Aside0 (w192.heap[gb294]? = some (.cells #[.slice A0_0 l0_0.length c0_0] 24 (0, 0))) := ⟨h7_⟩
 have n8_ : Aside0 (w192.heap[gb295]? = some (.cells #[.slice A1_0 l1_0.length c1_0] 24 (0, 0))) := ⟨h8_⟩
 have n9_ : Aside0 (w192.heap[gb308]? = some (.cells #[.slice Ao41 t304.length co41] 27 (0, 0))) := ⟨h9_⟩
 have n10_ : Aside0 (w192.heap[gb312]? = some (.cells #[.slice Ao47 t332.length co47] 27 (0, 0))) := ⟨h10_⟩
 have n11_ : Aside0 (w192.heap[gb316]? = some (.cells #[.slice Ao56 t334.length co56] 27 (0, 0))) := ⟨h11_⟩
 have n12_ : Aside0 (w192.heap[gb321]? = some (.cells #[.slice Ao67 t317.length co67] 27 (0, 0))) := ⟨h12_⟩
 have n13_ : Aside0 (w192.heap[gb349]? = some (.cells #[.slice none 0 0] 27 (0, 0))) := ⟨h13_⟩
 have n14_ : Aside0 (w.heap.size ≤ gb349) := ⟨h14_⟩
 have n15_ : Aside0 (w.heap.size ≤ gb349) := ⟨h15_⟩
 have n16_ : Aside0 (gb294 ≠ gb349) := ⟨h16_⟩
 have n17_ : Aside0 (gb349 ≠ gb294) := ⟨h17_⟩
 have n18_ : Aside0 (gb295 ≠ gb349) := ⟨h18_⟩
 have n19_ : Aside0 (gb349 ≠ gb295) := ⟨h19_⟩
 have n20_ : Aside0 (gb308 ≠ gb349) := ⟨h20_⟩
 have n21_ : Aside0 (gb349 ≠ gb308) := ⟨h21_⟩
 have n22_ : Aside0 (gb312 ≠ gb349) := ⟨h22_⟩
 have n23_ : Aside0 (gb349 ≠ gb312) := ⟨h23_⟩
 have n24_ : Aside0 (gb316 ≠ gb349) := ⟨h24_⟩
 have n25_ : Aside0 (gb349 ≠ gb316) := ⟨h25_⟩
 have n26_ : Aside0 (gb321 ≠ gb349) := ⟨h26_⟩
 have n27_ : Aside0 (gb349 ≠ gb321) := ⟨h27_⟩
 have n28_ : Aside0 (Below w.heap.size w w192) := ⟨h28_⟩
 clear HO_309000
 clear HO_313000
 clear HO_317000
 clear HO_322000
 clear BK294
 clear BK295
 clear BK308
 clear BK312
 clear BK316
 clear BK321
 clear HB
 clear h0_ h1_ h2_ h3_ h4_ h5_ h6_ h7_ h8_ h9_ h10_ h11_ h12_ h13_ h14_ h15_ h16_ h17_ h18_ h19_ h20_ h21_ h22_ h23_ h24_ h25_ h26_ h27_ h28_
 have HO341 := n0_
 have HO344 := n1_
 have HO347 := n2_
 have HO_309000 := n3_
 have HO_313000 := n4_
 have HO_317000 := n5_
 have HO_322000 := n6_
 have BK294 := n7_
 have BK295 := n8_
 have BK308 := n9_
 have BK312 := n10_
 have BK316 := n11_
 have BK321 := n12_
 have BK349 := n13_
 have GW349 := n14_
 have GE349 := n15_
 have NB294_349 := n16_
 have NB349_294 := n17_
 have NB295_349 := n18_
 have NB349_295 := n19_
 have NB308_349 := n20_
 have NB349_308 := n21_
 have NB312_349 := n22_
 have NB349_312 := n23_
 have NB316_349 := n24_
 have NB349_316 := n25_
 have NB321_349 := n26_
 have NB349_321 := n27_
 have HB := n28_
 clear n0_ n1_ n2_ n3_ n4_ n5_ n6_ n7_ n8_ n9_ n10_ n11_ n12_ n13_ n14_ n15_ n16_ n17_ n18_ n19_ n20_ n21_ n22_ n23_ n24_ n25_ n26_ n27_ n28_
 have hHeld : w192.cell? ⟨gb294, 0, none⟩ = some (.slice A0_0 l0_0.length c0_0) ∧ w192.cell? ⟨gb295, 0, none⟩ = some (.slice A1_0 l1_0.length c1_0) := hS_
 obtain ⟨Ao193, co193, eo193⟩ := Kd.R_slice HO347.out
 (first | subst eo193 | (injection eo193 with f1_ f2_ f3_; have f4_ := f1_.symm; have f5_ := f3_.symm; clear f1_ f2_ f3_; subst f4_; subst f5_))
 refine norm_ (a' := ?_) ?_ ?_
 rotate_left
 · simp only [putAll, Act.put, List.setIfInBounds_toArray, List.set_cons_zero, List.set_cons_succ]
   rfl
 refine one_ (i := 9) (N := none) #[true, true, true, true, true, true, true, true, true, true, false] rfl rfl (one_of HT_.out (by kernel_rfl)) (by decide) (fun K hK => ?_)
 have hs194 : w192.cell? ⟨gb349, 0, none⟩ = some (.slice none 0 0) := (blk_cell BK349.out 0).trans rfl
 have hfs194 := blk_frozen BK349.out 0
 have hns194_0 := NB294_349.out
 have hns194_1 := NB295_349.out
 have hns194_2 := NB308_349.out
 have hns194_3 := NB312_349.out
 have hns194_4 := NB316_349.out
 have hns194_5 := NB321_349.out
 have hms194_0 := NB349_294.out
 have hms194_1 := NB349_295.out
 have hms194_2 := NB349_308.out
 have hms194_3 := NB349_312.out
 have hms194_4 := NB349_316.out
 have hms194_5 := NB349_321.out
 refine skip_ (w1 := ?_) (by rfl) rfl ?_ ?_
 rotate_left
 · go_simp
   rfl
 refine hK.out _ _ ⟨((cell_far (p := ⟨gb349, _, none⟩) NB294_349.out _).trans (hHeld.1)), ((cell_far (p := ⟨gb349, _, none⟩) NB295_349.out _).trans (hHeld.2))⟩ (fun hHeld => ?_)
 clear hK K
 refine pure_ (i := 10) (N := some 16) (v := ?_) (a' := ?_) #[true, true, true, true, true, true, true, true, true, true, true] rfl rfl (any_of HT_.out (by kernel_rfl)) (fun _ _ _ h => h) (Or.inl ⟨by rfl, ?_⟩) ?_ ?_
 rotate_left
 · intro w'
   first | (go_simp; with_reducible rfl) | (go_simp; unfold Instr.field; go_simp; rfl)
 rotate_left
 · simp only [Act.put, List.setIfInBounds_toArray, List.set_cons_zero, List.set_cons_succ, i64_w, i32_w]
   rfl
 refine done_ (done_of HT_.out (by kernel_rfl)) ?_
 go_upto_region 32 with (fail)
 go_cut [110] (fun v110 wc => ∃ (kq : Nat) (x110_174 : Bool), v110 = .bool x110_174 ∧ Aside0 (laws_FnExactReduceBig.j2 kq t336 x110_174 t337 = some true) ∧ Aside0 (kq ≤ kj108) ∧ Aside0 (Kd.R (Kd.int .i64) 3 wc w.heap.size (fun k_ => some k_ ≠ ((.slice Ao47 t332.length co47) : Value).ownBlock ∧ some k_ ≠ ((.slice Ao56 t334.length co56) : Value).ownBlock ∧ some k_ ≠ ((.slice Ao67 t317.length co67) : Value).ownBlock ∧ some k_ ≠ ((.slice Ao193 t345.length co193) : Value).ownBlock) (.slice Ao41 t304.length co41) t304) ∧ Aside0 (Kd.R (Kd.int .i64) 3 wc w.heap.size (fun k_ => some k_ ≠ ((.slice Ao41 t304.length co41) : Value).ownBlock ∧ some k_ ≠ ((.slice Ao56 t334.length co56) : Value).ownBlock ∧ some k_ ≠ ((.slice Ao67 t317.length co67) : Value).ownBlock ∧ some k_ ≠ ((.slice Ao193 t345.length co193) : Value).ownBlock) (.slice Ao47 t332.length co47) t332) ∧ Aside0 (Kd.R (Kd.int .i64) 3 wc w.heap.size (fun k_ => some k_ ≠ ((.slice Ao41 t304.length co41) : Value).ownBlock ∧ some k_ ≠ ((.slice Ao47 t332.length co47) : Value).ownBlock ∧ some k_ ≠ ((.slice Ao67 t317.length co67) : Value).ownBlock ∧ some k_ ≠ ((.slice Ao193 t345.length co193) : Value).ownBlock) (.slice Ao56 t334.length co56) t334) ∧ Aside0 (Kd.R (Kd.int .i64) 3 wc w.heap.size (fun k_ => some k_ ≠ ((.slice Ao41 t304.length co41) : Value).ownBlock ∧ some k_ ≠ ((.slice Ao47 t332.length co47) : Value).ownBlock ∧ some k_ ≠ ((.slice Ao56 t334.length co56) : Value).ownBlock ∧ some k_ ≠ ((.slice Ao193 t345.length co193) : Value).ownBlock) (.slice Ao67 t317.length co67) t337) ∧ Aside0 (Kd.R (Kd.int .i64) 3 wc w.heap.size (fun k_ => some k_ ≠ ((.slice Ao41 t304.length co41) : Value).ownBlock ∧ some k_ ≠ ((.slice Ao47 t332.length co47) : Value).ownBlock ∧ some k_ ≠ ((.slice Ao56 t334.length co56) : Value).ownBlock ∧ some k_ ≠ ((.slice Ao67 t317.length co67) : Value).ownBlock) (.slice Ao193 t345.length co193) t345) ∧ Aside0 (wc.heap[gb294]? = some (.cells #[(.slice A0_0 l0_0.length c0_0)] 24 (0, 0))) ∧ Aside0 (wc.heap[gb295]? = some (.cells #[(.slice A1_0 l1_0.length c1_0)] 24 (0, 0))) ∧ Aside0 (wc.heap[gb308]? = some (.cells #[(.slice Ao41 t304.length co41)] 27 (0, 0))) ∧ Aside0 (wc.heap[gb312]? = some (.cells #[(.slice Ao47 t332.length co47)] 27 (0, 0))) ∧ Aside0 (wc.heap[gb316]? = some (.cells #[(.slice Ao56 t334.length co56)] 27 (0, 0))) ∧ Aside0 (wc.heap[gb321]? = some (.cells #[(.slice Ao67 t317.length co67)] 27 (0, 0))) ∧ Aside0 (wc.heap[gb349]? = some (.cells #[(.slice Ao193 t345.length co193)] 27 (0, 0))) ∧ Aside0 (Below w.heap.size w wc))
 case first =>
   have H := HC175.out
   clear HC175
   replace H := Option.bind_eq_some_iff.mp H
   obtain ⟨t350, A1950, H⟩ := H
   replace H : (if t350 = true then (laws_FnExactReduceBig.j2 kj108 t336 (t348 != t307) t337) else (laws_FnExactReduceBig.j2 kj108 t336 true t337)) = some true := H
   have A195 := Aside0.mk A1950
   clear A1950
   by_cases c196 : t350 = true
   · subst c196
     have H1 : (laws_FnExactReduceBig.j2 kj108 t336 (t348 != t307) t337) = some true := by rw [if_pos rfl] at H; exact H
     clear H
     have H := H1
     clear H1
     have H' := Aside0.mk H
     clear H
     have hnb197 := NB349_294.out
     have hnc197 := NB294_349.out
     have hnb198 := NB349_295.out
     have hnc198 := NB295_349.out
     have hnb199 := NB349_308.out
     have hnc199 := NB308_349.out
     have hnb200 := NB349_312.out
     have hnc200 := NB312_349.out
     have hnb201 := NB349_316.out
     have hnc201 := NB316_349.out
     have hnb202 := NB349_321.out
     have hnc202 := NB321_349.out
     have hcz203_0 : w192.cell? ⟨gb349, 0, none⟩ = some (.slice none 0 0) := (blk_cell BK349.out 0).trans rfl
     have hfz203_0 := blk_frozen BK349.out 0
     have hnb204 := NB308_294.out
     have hnc204 := NB294_308.out
     have hnb205 := NB308_295.out
     have hnc205 := NB295_308.out
     have hnb206 := NB308_312.out
     have hnc206 := NB312_308.out
     have hnb207 := NB308_316.out
     have hnc207 := NB316_308.out
     have hnb208 := NB308_321.out
     have hnc208 := NB321_308.out
     have hcz209_0 : w192.cell? ⟨gb308, 0, none⟩ = some (.slice Ao41 t304.length co41) := (blk_cell BK308.out 0).trans rfl
     have hfz209_0 := blk_frozen BK308.out 0
     go_wp2_with (first | ((with_reducible refine gate_callee (f := 19) rfl ?_); refine goesL_ (some 104) rfl rfl Try.func19 (by kernel_rfl) rfl #[.agg #[.slice Ao193 t345.length co193], .agg #[.slice Ao41 t304.length co41]] rfl (by (try simp only [List.map_toArray, List.map_cons, List.map_nil]); first | done | rfl | (simp only [List.length_drop, List.length_take]; rfl)) ?_; (with_reducible refine (laws_eqBig.calls kj108 _ _ t345 _ _ t304 true _ ?side1 ?side2 ?side3 ?side4 A195.out).mono ?_); (case side1 => refine (Kd.R_reads' (e := 3) (base := w.heap.size) (ok := fun k_ => (some k_ ≠ (v340 : Value).ownBlock ∧ (some k_ ≠ (v343 : Value).ownBlock ∧ (some k_ ≠ (.slice Ao41 t304.length co41 : Value).ownBlock ∧ (some k_ ≠ (.slice Ao47 t332.length co47 : Value).ownBlock ∧ (some k_ ≠ (.slice Ao56 t334.length co56 : Value).ownBlock ∧ some k_ ≠ (.slice Ao67 t317.length co67 : Value).ownBlock)))))) (n := t345.length) (c := co193) ?_).2.2; exact (by (with_reducible repeat (first | apply Kd.R_alloc | apply Kd.R_drewN | apply Kd.R_drew)); exact (Kd.R_mono (Kd.R_far (p := ⟨gb349, 0, none⟩) (Kd.R_types HO347.out BK349.out (by decide)) (fun _ hk => hk.2) (.slice Ao193 t345.length co193)) (fun _ h_ => h_.1)))); (case side2 => exact (Kd.R_reads' HO347.out).2.1); (case side3 => refine (Kd.R_reads' (e := 3) (base := w.heap.size) (ok := fun k_ => (some k_ ≠ (v340 : Value).ownBlock ∧ (some k_ ≠ (v343 : Value).ownBlock ∧ (some k_ ≠ (.slice Ao193 t345.length co193 : Value).ownBlock ∧ (some k_ ≠ (.slice Ao47 t332.length co47 : Value).ownBlock ∧ (some k_ ≠ (.slice Ao56 t334.length co56 : Value).ownBlock ∧ some k_ ≠ (.slice Ao67 t317.length co67 : Value).ownBlock)))))) (n := t304.length) (c := co41) ?_).2.2; exact (by (with_reducible repeat (first | apply Kd.R_alloc | apply Kd.R_drewN | apply Kd.R_drew)); exact (Kd.R_mono (Kd.R_far (p := ⟨gb349, 0, none⟩) (Kd.R_types HO_309000.out BK349.out (by decide)) (fun _ hk => hk.2) (.slice Ao193 t345.length co193)) (fun _ h_ => h_.1)))); (case side4 => exact (Kd.R_reads' HO_309000.out).2.1); rintro e w210 ⟨rfl, hb⟩; refine ⟨_, rfl, ?_⟩; replace HO_309000 := Aside0.mk (Kd.R_below (by (with_reducible repeat (first | apply Kd.R_alloc | apply Kd.R_drewN | apply Kd.R_drew)); exact (Kd.R_mono (Kd.R_far (p := ⟨gb349, 0, none⟩) (Kd.R_types HO_309000.out BK349.out (by decide)) (fun _ hk => hk.2) (.slice Ao193 t345.length co193)) (fun _ h_ => h_.1))) hb); replace HO_313000 := Aside0.mk (Kd.R_below (by (with_reducible repeat (first | apply Kd.R_alloc | apply Kd.R_drewN | apply Kd.R_drew)); exact (Kd.R_mono (Kd.R_far (p := ⟨gb349, 0, none⟩) (Kd.R_types HO_313000.out BK349.out (by decide)) (fun _ hk => hk.2) (.slice Ao193 t345.length co193)) (fun _ h_ => h_.1))) hb); replace HO_317000 := Aside0.mk (Kd.R_below (by (with_reducible repeat (first | apply Kd.R_alloc | apply Kd.R_drewN | apply Kd.R_drew)); exact (Kd.R_mono (Kd.R_far (p := ⟨gb349, 0, none⟩) (Kd.R_types HO_317000.out BK349.out (by decide)) (fun _ hk => hk.2) (.slice Ao193 t345.length co193)) (fun _ h_ => h_.1))) hb); replace HO_322000 := Aside0.mk (Kd.R_below (by (with_reducible repeat (first | apply Kd.R_alloc | apply Kd.R_drewN | apply Kd.R_drew)); exact (Kd.R_mono (Kd.R_far (p := ⟨gb349, 0, none⟩) (Kd.R_types HO_322000.out BK349.out (by decide)) (fun _ hk => hk.2) (.slice Ao193 t345.length co193)) (fun _ h_ => h_.1))) hb); replace HO341 := Aside0.mk (Kd.R_below (by (with_reducible repeat (first | apply Kd.R_alloc | apply Kd.R_drewN | apply Kd.R_drew)); exact (Kd.R_mono (Kd.R_far (p := ⟨gb349, 0, none⟩) (Kd.R_types HO341.out BK349.out (by decide)) (fun _ hk => hk.2) (.slice Ao193 t345.length co193)) (fun _ h_ => h_.1))) hb); replace HO344 := Aside0.mk (Kd.R_below (by (with_reducible repeat (first | apply Kd.R_alloc | apply Kd.R_drewN | apply Kd.R_drew)); exact (Kd.R_mono (Kd.R_far (p := ⟨gb349, 0, none⟩) (Kd.R_types HO344.out BK349.out (by decide)) (fun _ hk => hk.2) (.slice Ao193 t345.length co193)) (fun _ h_ => h_.1))) hb); replace HO347 := Aside0.mk (Kd.R_below (by (with_reducible repeat (first | apply Kd.R_alloc | apply Kd.R_drewN | apply Kd.R_drew)); exact (Kd.R_mono (Kd.R_far (p := ⟨gb349, 0, none⟩) (Kd.R_types HO347.out BK349.out (by decide)) (fun _ hk => hk.2) (.slice Ao193 t345.length co193)) (fun _ h_ => h_.1))) hb); replace BK294 := Aside0.mk (blk_below (g := gb294) (o := .cells #[.slice A0_0 l0_0.length c0_0] 24 (0, 0)) (bf NB294_349 BK294) hb); replace BK295 := Aside0.mk (blk_below (g := gb295) (o := .cells #[.slice A1_0 l1_0.length c1_0] 24 (0, 0)) (bf NB295_349 BK295) hb); replace BK308 := Aside0.mk (blk_below (g := gb308) (o := .cells #[.slice Ao41 t304.length co41] 27 (0, 0)) (bf NB308_349 BK308) hb); replace BK312 := Aside0.mk (blk_below (g := gb312) (o := .cells #[.slice Ao47 t332.length co47] 27 (0, 0)) (bf NB312_349 BK312) hb); replace BK316 := Aside0.mk (blk_below (g := gb316) (o := .cells #[.slice Ao56 t334.length co56] 27 (0, 0)) (bf NB316_349 BK316) hb); replace BK321 := Aside0.mk (blk_below (g := gb321) (o := .cells #[.slice Ao67 t317.length co67] 27 (0, 0)) (bf NB321_349 BK321) hb); replace BK349 := Aside0.mk (blk_below (g := gb349) (o := .cells #[.slice Ao193 t345.length co193] 27 (0, 0)) (by (with_reducible repeat (first | refine blk_drewN ?_ _ | refine blk_drew ?_ | refine blk_alloc ?_ _)); refine blk_put (cs := #[.slice none 0 0]) ?_ 0 _ rfl; (with_reducible repeat (first | refine blk_drewN ?_ _ | refine blk_drew ?_ | refine blk_alloc ?_ _)); exact BK349.out) hb); replace HB := cs (hq7 HB GE294 GE295 GE308 GE312 GE316 GE321 GE349) hb; (try clear hb); (try clear hb2); (try clear hk); (try clear hi)))
     go_meet
     case rel => exact ⟨_, ((t348 != t307)), (by first | rfl | (simp; done) | (simp [*]; done)), H', ⟨by have := HJ24.out; have := HJ108.out; first | omega | exact Nat.le_refl _⟩, ⟨by (try simp only [hl313000_108]); (try simp only [hl317000_108]); (with_reducible repeat (first | apply Kd.R_alloc | apply Kd.R_drewN | apply Kd.R_drew)); exact Kd.R_mono HO_309000.out (fun _ hk => ⟨hk.2.2.2.1, ⟨hk.2.2.2.2.1, ⟨hk.2.2.2.2.2, hk.2.2.1⟩⟩⟩)⟩, ⟨by (try simp only [hl313000_108]); (try simp only [hl317000_108]); (with_reducible repeat (first | apply Kd.R_alloc | apply Kd.R_drewN | apply Kd.R_drew)); exact Kd.R_mono HO_313000.out (fun _ hk => ⟨hk.2.2.2.1, ⟨hk.2.2.2.2.1, ⟨hk.2.2.2.2.2, hk.2.2.1⟩⟩⟩)⟩, ⟨by (try simp only [hl313000_108]); (try simp only [hl317000_108]); (with_reducible repeat (first | apply Kd.R_alloc | apply Kd.R_drewN | apply Kd.R_drew)); exact Kd.R_mono HO_317000.out (fun _ hk => ⟨hk.2.2.2.1, ⟨hk.2.2.2.2.1, ⟨hk.2.2.2.2.2, hk.2.2.1⟩⟩⟩)⟩, ⟨by (try simp only [hl313000_108]); (try simp only [hl317000_108]); (with_reducible repeat (first | apply Kd.R_alloc | apply Kd.R_drewN | apply Kd.R_drew)); exact Kd.R_mono HO_322000.out (fun _ hk => ⟨hk.2.2.2.1, ⟨hk.2.2.2.2.1, ⟨hk.2.2.2.2.2, hk.2.2.1⟩⟩⟩)⟩, ⟨by (try simp only [hl313000_108]); (try simp only [hl317000_108]); (with_reducible repeat (first | apply Kd.R_alloc | apply Kd.R_drewN | apply Kd.R_drew)); exact Kd.R_mono HO347.out (fun _ hk => ⟨hk.2.2.1, ⟨hk.2.2.2.1, ⟨hk.2.2.2.2.1, hk.2.2.2.2.2⟩⟩⟩)⟩, ⟨by (try simp only [hl313000_108]); (try simp only [hl317000_108]); (with_reducible repeat (first | refine blk_drewN ?_ _ | refine blk_drew ?_ | refine blk_alloc ?_ _)); exact BK294.out⟩, ⟨by (try simp only [hl313000_108]); (try simp only [hl317000_108]); (with_reducible repeat (first | refine blk_drewN ?_ _ | refine blk_drew ?_ | refine blk_alloc ?_ _)); exact BK295.out⟩, ⟨by (try simp only [hl313000_108]); (try simp only [hl317000_108]); (with_reducible repeat (first | refine blk_drewN ?_ _ | refine blk_drew ?_ | refine blk_alloc ?_ _)); exact BK308.out⟩, ⟨by (try simp only [hl313000_108]); (try simp only [hl317000_108]); (with_reducible repeat (first | refine blk_drewN ?_ _ | refine blk_drew ?_ | refine blk_alloc ?_ _)); exact BK312.out⟩, ⟨by (try simp only [hl313000_108]); (try simp only [hl317000_108]); (with_reducible repeat (first | refine blk_drewN ?_ _ | refine blk_drew ?_ | refine blk_alloc ?_ _)); exact BK316.out⟩, ⟨by (try simp only [hl313000_108]); (try simp only [hl317000_108]); (with_reducible repeat (first | refine blk_drewN ?_ _ | refine blk_drew ?_ | refine blk_alloc ?_ _)); exact BK321.out⟩, ⟨by (try simp only [hl313000_108]); (try simp only [hl317000_108]); (with_reducible repeat (first | refine blk_drewN ?_ _ | refine blk_drew ?_ | refine blk_alloc ?_ _)); exact BK349.out⟩, ⟨hq7 HB GE294 GE295 GE308 GE312 GE316 GE321 GE349⟩⟩
   replace c196 := Bool.eq_false_iff.mpr c196
   subst c196
   have H1 : (laws_FnExactReduceBig.j2 kj108 t336 true t337) = some true := by rw [if_neg (show ¬ (false = true) by decide)] at H; exact H
   clear H
   have H := H1
   clear H1
   have H' := Aside0.mk H
   clear H
   have hnb211 := NB349_294.out
   have hnc211 := NB294_349.out
   have hnb212 := NB349_295.out
   have hnc212 := NB295_349.out
   have hnb213 := NB349_308.out
   have hnc213 := NB308_349.out
   have hnb214 := NB349_312.out
   have hnc214 := NB312_349.out
   have hnb215 := NB349_316.out
   have hnc215 := NB316_349.out
   have hnb216 := NB349_321.out
   have hnc216 := NB321_349.out
   have hcz217_0 : w192.cell? ⟨gb349, 0, none⟩ = some (.slice none 0 0) := (blk_cell BK349.out 0).trans rfl
   have hfz217_0 := blk_frozen BK349.out 0
   have hnb218 := NB308_294.out
   have hnc218 := NB294_308.out
   have hnb219 := NB308_295.out
   have hnc219 := NB295_308.out
   have hnb220 := NB308_312.out
   have hnc220 := NB312_308.out
   have hnb221 := NB308_316.out
   have hnc221 := NB316_308.out
   have hnb222 := NB308_321.out
   have hnc222 := NB321_308.out
   have hcz223_0 : w192.cell? ⟨gb308, 0, none⟩ = some (.slice Ao41 t304.length co41) := (blk_cell BK308.out 0).trans rfl
   have hfz223_0 := blk_frozen BK308.out 0
   go_wp2_with (first | ((with_reducible refine gate_callee (f := 19) rfl ?_); refine goesL_ (some 104) rfl rfl Try.func19 (by kernel_rfl) rfl #[.agg #[.slice Ao193 t345.length co193], .agg #[.slice Ao41 t304.length co41]] rfl (by (try simp only [List.map_toArray, List.map_cons, List.map_nil]); first | done | rfl | (simp only [List.length_drop, List.length_take]; rfl)) ?_; (with_reducible refine (laws_eqBig.calls kj108 _ _ t345 _ _ t304 false _ ?side1 ?side2 ?side3 ?side4 A195.out).mono ?_); (case side1 => refine (Kd.R_reads' (e := 3) (base := w.heap.size) (ok := fun k_ => (some k_ ≠ (v340 : Value).ownBlock ∧ (some k_ ≠ (v343 : Value).ownBlock ∧ (some k_ ≠ (.slice Ao41 t304.length co41 : Value).ownBlock ∧ (some k_ ≠ (.slice Ao47 t332.length co47 : Value).ownBlock ∧ (some k_ ≠ (.slice Ao56 t334.length co56 : Value).ownBlock ∧ some k_ ≠ (.slice Ao67 t317.length co67 : Value).ownBlock)))))) (n := t345.length) (c := co193) ?_).2.2; exact (by (with_reducible repeat (first | apply Kd.R_alloc | apply Kd.R_drewN | apply Kd.R_drew)); exact (Kd.R_mono (Kd.R_far (p := ⟨gb349, 0, none⟩) (Kd.R_types HO347.out BK349.out (by decide)) (fun _ hk => hk.2) (.slice Ao193 t345.length co193)) (fun _ h_ => h_.1)))); (case side2 => exact (Kd.R_reads' HO347.out).2.1); (case side3 => refine (Kd.R_reads' (e := 3) (base := w.heap.size) (ok := fun k_ => (some k_ ≠ (v340 : Value).ownBlock ∧ (some k_ ≠ (v343 : Value).ownBlock ∧ (some k_ ≠ (.slice Ao193 t345.length co193 : Value).ownBlock ∧ (some k_ ≠ (.slice Ao47 t332.length co47 : Value).ownBlock ∧ (some k_ ≠ (.slice Ao56 t334.length co56 : Value).ownBlock ∧ some k_ ≠ (.slice Ao67 t317.length co67 : Value).ownBlock)))))) (n := t304.length) (c := co41) ?_).2.2; exact (by (with_reducible repeat (first | apply Kd.R_alloc | apply Kd.R_drewN | apply Kd.R_drew)); exact (Kd.R_mono (Kd.R_far (p := ⟨gb349, 0, none⟩) (Kd.R_types HO_309000.out BK349.out (by decide)) (fun _ hk => hk.2) (.slice Ao193 t345.length co193)) (fun _ h_ => h_.1)))); (case side4 => exact (Kd.R_reads' HO_309000.out).2.1); rintro e w224 ⟨rfl, hb⟩; refine ⟨_, rfl, ?_⟩; replace HO_309000 := Aside0.mk (Kd.R_below (by (with_reducible repeat (first | apply Kd.R_alloc | apply Kd.R_drewN | apply Kd.R_drew)); exact (Kd.R_mono (Kd.R_far (p := ⟨gb349, 0, none⟩) (Kd.R_types HO_309000.out BK349.out (by decide)) (fun _ hk => hk.2) (.slice Ao193 t345.length co193)) (fun _ h_ => h_.1))) hb); replace HO_313000 := Aside0.mk (Kd.R_below (by (with_reducible repeat (first | apply Kd.R_alloc | apply Kd.R_drewN | apply Kd.R_drew)); exact (Kd.R_mono (Kd.R_far (p := ⟨gb349, 0, none⟩) (Kd.R_types HO_313000.out BK349.out (by decide)) (fun _ hk => hk.2) (.slice Ao193 t345.length co193)) (fun _ h_ => h_.1))) hb); replace HO_317000 := Aside0.mk (Kd.R_below (by (with_reducible repeat (first | apply Kd.R_alloc | apply Kd.R_drewN | apply Kd.R_drew)); exact (Kd.R_mono (Kd.R_far (p := ⟨gb349, 0, none⟩) (Kd.R_types HO_317000.out BK349.out (by decide)) (fun _ hk => hk.2) (.slice Ao193 t345.length co193)) (fun _ h_ => h_.1))) hb); replace HO_322000 := Aside0.mk (Kd.R_below (by (with_reducible repeat (first | apply Kd.R_alloc | apply Kd.R_drewN | apply Kd.R_drew)); exact (Kd.R_mono (Kd.R_far (p := ⟨gb349, 0, none⟩) (Kd.R_types HO_322000.out BK349.out (by decide)) (fun _ hk => hk.2) (.slice Ao193 t345.length co193)) (fun _ h_ => h_.1))) hb); replace HO341 := Aside0.mk (Kd.R_below (by (with_reducible repeat (first | apply Kd.R_alloc | apply Kd.R_drewN | apply Kd.R_drew)); exact (Kd.R_mono (Kd.R_far (p := ⟨gb349, 0, none⟩) (Kd.R_types HO341.out BK349.out (by decide)) (fun _ hk => hk.2) (.slice Ao193 t345.length co193)) (fun _ h_ => h_.1))) hb); replace HO344 := Aside0.mk (Kd.R_below (by (with_reducible repeat (first | apply Kd.R_alloc | apply Kd.R_drewN | apply Kd.R_drew)); exact (Kd.R_mono (Kd.R_far (p := ⟨gb349, 0, none⟩) (Kd.R_types HO344.out BK349.out (by decide)) (fun _ hk => hk.2) (.slice Ao193 t345.length co193)) (fun _ h_ => h_.1))) hb); replace HO347 := Aside0.mk (Kd.R_below (by (with_reducible repeat (first | apply Kd.R_alloc | apply Kd.R_drewN | apply Kd.R_drew)); exact (Kd.R_mono (Kd.R_far (p := ⟨gb349, 0, none⟩) (Kd.R_types HO347.out BK349.out (by decide)) (fun _ hk => hk.2) (.slice Ao193 t345.length co193)) (fun _ h_ => h_.1))) hb); replace BK294 := Aside0.mk (blk_below (g := gb294) (o := .cells #[.slice A0_0 l0_0.length c0_0] 24 (0, 0)) (bf NB294_349 BK294) hb); replace BK295 := Aside0.mk (blk_below (g := gb295) (o := .cells #[.slice A1_0 l1_0.length c1_0] 24 (0, 0)) (bf NB295_349 BK295) hb); replace BK308 := Aside0.mk (blk_below (g := gb308) (o := .cells #[.slice Ao41 t304.length co41] 27 (0, 0)) (bf NB308_349 BK308) hb); replace BK312 := Aside0.mk (blk_below (g := gb312) (o := .cells #[.slice Ao47 t332.length co47] 27 (0, 0)) (bf NB312_349 BK312) hb); replace BK316 := Aside0.mk (blk_below (g := gb316) (o := .cells #[.slice Ao56 t334.length co56] 27 (0, 0)) (bf NB316_349 BK316) hb); replace BK321 := Aside0.mk (blk_below (g := gb321) (o := .cells #[.slice Ao67 t317.length co67] 27 (0, 0)) (bf NB321_349 BK321) hb); replace BK349 := Aside0.mk (blk_below (g := gb349) (o := .cells #[.slice Ao193 t345.length co193] 27 (0, 0)) (by (with_reducible repeat (first | refine blk_drewN ?_ _ | refine blk_drew ?_ | refine blk_alloc ?_ _)); refine blk_put (cs := #[.slice none 0 0]) ?_ 0 _ rfl; (with_reducible repeat (first | refine blk_drewN ?_ _ | refine blk_drew ?_ | refine blk_alloc ?_ _)); exact BK349.out) hb); replace HB := cs (hq7 HB GE294 GE295 GE308 GE312 GE316 GE321 GE349) hb; (try clear hb); (try clear hb2); (try clear hk); (try clear hi)))
   go_meet
   case rel => exact ⟨_, (true), (by first | rfl | (simp; done) | (simp [*]; done)), H', ⟨by have := HJ24.out; have := HJ108.out; first | omega | exact Nat.le_refl _⟩, ⟨by (try simp only [hl313000_108]); (try simp only [hl317000_108]); (with_reducible repeat (first | apply Kd.R_alloc | apply Kd.R_drewN | apply Kd.R_drew)); exact Kd.R_mono HO_309000.out (fun _ hk => ⟨hk.2.2.2.1, ⟨hk.2.2.2.2.1, ⟨hk.2.2.2.2.2, hk.2.2.1⟩⟩⟩)⟩, ⟨by (try simp only [hl313000_108]); (try simp only [hl317000_108]); (with_reducible repeat (first | apply Kd.R_alloc | apply Kd.R_drewN | apply Kd.R_drew)); exact Kd.R_mono HO_313000.out (fun _ hk => ⟨hk.2.2.2.1, ⟨hk.2.2.2.2.1, ⟨hk.2.2.2.2.2, hk.2.2.1⟩⟩⟩)⟩, ⟨by (try simp only [hl313000_108]); (try simp only [hl317000_108]); (with_reducible repeat (first | apply Kd.R_alloc | apply Kd.R_drewN | apply Kd.R_drew)); exact Kd.R_mono HO_317000.out (fun _ hk => ⟨hk.2.2.2.1, ⟨hk.2.2.2.2.1, ⟨hk.2.2.2.2.2, hk.2.2.1⟩⟩⟩)⟩, ⟨by (try simp only [hl313000_108]); (try simp only [hl317000_108]); (with_reducible repeat (first | apply Kd.R_alloc | apply Kd.R_drewN | apply Kd.R_drew)); exact Kd.R_mono HO_322000.out (fun _ hk => ⟨hk.2.2.2.1, ⟨hk.2.2.2.2.1, ⟨hk.2.2.2.2.2, hk.2.2.1⟩⟩⟩)⟩, ⟨by (try simp only [hl313000_108]); (try simp only [hl317000_108]); (with_reducible repeat (first | apply Kd.R_alloc | apply Kd.R_drewN | apply Kd.R_drew)); exact Kd.R_mono HO347.out (fun _ hk => ⟨hk.2.2.1, ⟨hk.2.2.2.1, ⟨hk.2.2.2.2.1, hk.2.2.2.2.2⟩⟩⟩)⟩, ⟨by (try simp only [hl313000_108]); (try simp only [hl317000_108]); (with_reducible repeat (first | refine blk_drewN ?_ _ | refine blk_drew ?_ | refine blk_alloc ?_ _)); exact BK294.out⟩, ⟨by (try simp only [hl313000_108]); (try simp only [hl317000_108]); (with_reducible repeat (first | refine blk_drewN ?_ _ | refine blk_drew ?_ | refine blk_alloc ?_ _)); exact BK295.out⟩, ⟨by (try simp only [hl313000_108]); (try simp only [hl317000_108]); (with_reducible repeat (first | refine blk_drewN ?_ _ | refine blk_drew ?_ | refine blk_alloc ?_ _)); exact BK308.out⟩, ⟨by (try simp only [hl313000_108]); (try simp only [hl317000_108]); (with_reducible repeat (first | refine blk_drewN ?_ _ | refine blk_drew ?_ | refine blk_alloc ?_ _)); exact BK312.out⟩, ⟨by (try simp only [hl313000_108]); (try simp only [hl317000_108]); (with_reducible repeat (first | refine blk_drewN ?_ _ | refine blk_drew ?_ | refine blk_alloc ?_ _)); exact BK316.out⟩, ⟨by (try simp only [hl313000_108]); (try simp only [hl317000_108]); (with_reducible repeat (first | refine blk_drewN ?_ _ | refine blk_drew ?_ | refine blk_alloc ?_ _)); exact BK321.out⟩, ⟨by (try simp only [hl313000_108]); (try simp only [hl317000_108]); (with_reducible repeat (first | refine blk_drewN ?_ _ | refine blk_drew ?_ | refine blk_alloc ?_ _)); exact BK349.out⟩, ⟨hq7 HB GE294 GE295 GE308 GE312 GE316 GE321 GE349⟩⟩
 clear HC175
 try clear c1
 try clear c2
 try clear p2
 try clear c4
 try clear c17
 try clear c19
 try clear c20
 try clear c21
 try clear c22
 try clear c43
 try clear c196
 try clear c197
 try clear c198
 try clear c199
 try clear c200
 try clear c201
 try clear c202
 try clear c204
 try clear c205
 try clear c206
 try clear c207
 try clear c208
 try clear c211
 try clear c212
 try clear c213
 try clear c214
 try clear c215
 try clear c216
 try clear c218
 try clear c219
 try clear c220
 try clear c221
 try clear c222
 try clear hcz203_0
 try clear hcz209_0
 try clear hcz217_0
 try clear hcz223_0
 try clear hfz203_0
 try clear hfz209_0
 try clear hfz217_0
 try clear hfz223_0
 obtain ⟨kq, x110_174, rfl, HA, HJ174, HO_309000, HO_313000, HO_317000, HO_322000, HO_350000, BK294, BK295, BK308, BK312, BK316, BK321, BK349, HB⟩ := hcut
 have hl322000_174 := (Kd.R_reads' HO_322000.out).1
 rw [hl322000_174] at HO_322000
 (try simp only [hl322000_174])
 (try simp only [hl322000_174] at BK294)
 (try simp only [hl322000_174] at BK295)
 (try simp only [hl322000_174] at BK308)
 (try simp only [hl322000_174] at BK312)
 (try simp only [hl322000_174] at BK316)
 (try simp only [hl322000_174] at BK321)
 (try simp only [hl322000_174] at BK349)
 (try simp only [hl322000_174] at HO_309000)
 (try simp only [hl322000_174] at HO_313000)
 (try simp only [hl322000_174] at HO_317000)
 (try simp only [hl322000_174] at HO_350000)
 obtain _ | kj174 := kq
 · exact absurd HA.out (by simp [laws_FnExactReduceBig.j2])
 have H := HA.out
 clear HA
 simp only [laws_FnExactReduceBig.j2] at H
 by_cases c225 : x110_174 = true
 · subst c225
   have H1 : (some false) = some true := by rw [if_pos rfl] at H; exact H
   clear H
   have H := H1
   clear H1
   cases H
 replace c225 := Bool.eq_false_iff.mpr c225
 subst c225
 have H1 : ((laws_heldBig.f kj174 t337 1).bind fun t351 => (if t351 < 0 then (some false) else (if t351 = t336 then (some true) else (some false)))) = some true := by rw [if_neg (show ¬ (false = true) by decide)] at H; exact H
 clear H
 have H := H1
 clear H1
 replace H := Option.bind_eq_some_iff.mp H
 obtain ⟨t351, A2260, H⟩ := H
 replace H : (if t351 < 0 then (some false) else (if t351 = t336 then (some true) else (some false))) = some true := H
 have A226 := Aside0.mk A2260
 clear A2260
 by_cases c227 : t351 < 0
 · rw [if_pos c227] at H
   have c227b0 : decide (t351 < 0) = true := decide_eq_true c227
   clear c227
   cases H
 rw [if_neg c227] at H
 have c227b0 : decide (t351 < 0) = false := decide_eq_false c227
 clear c227
 by_cases c236 : t351 = t336
 rotate_left
 · rw [if_neg c236] at H
   have c236b0 : (t351 == t336) = false := beq_eq_false_iff_ne.mpr c236
   have c236b1 : (t351 != t336) = true := bne_iff_ne.mpr c236
   cases H
 rw [if_pos c236] at H
 have c236b0 : (t351 == t336) = true := beq_iff_eq.mpr c236
 have c236b1 : (t351 != t336) = false := bne_eq_false_iff_eq.mpr c236
 clear c236
 clear H
 have hnb237 := NB321_294.out
 have hnc237 := NB294_321.out
 have hnb238 := NB321_295.out
 have hnc238 := NB295_321.out
 have hnb239 := NB321_308.out
 have hnc239 := NB308_321.out
 have hnb240 := NB321_312.out
 have hnc240 := NB312_321.out
 have hnb241 := NB321_316.out
 have hnc241 := NB316_321.out
 have hnb242 := NB321_349.out
 have hnc242 := NB349_321.out
 have hcz243_0 : wc.cell? ⟨gb321, 0, none⟩ = some (.slice Ao67 t337.length co67) := (blk_cell BK321.out 0).trans rfl
 have hfz243_0 := blk_frozen BK321.out 0
 go_wp2_with (first | ((with_reducible refine gate_callee (f := 23) rfl ?_); refine goesL_ (some 113) rfl rfl Try.func23 (by kernel_rfl) rfl #[.agg #[.slice Ao67 t337.length co67], .int .i64 1] rfl (by (try simp only [List.map_toArray, List.map_cons, List.map_nil]); first | done | rfl | (simp only [List.length_drop, List.length_take]; rfl)) ?_; (with_reducible refine (laws_heldBig.calls kj174 _ _ t337 1 t351 _ ?side1 ?side2 A226.out).mono ?_); (case side1 => repeat (first | exact (Kd.R_reads' HO_322000.out).2.2 | (with_reducible refine Kd.C_alloc ?_ _) | (with_reducible refine Kd.C_drewN ?_ _) | (with_reducible refine Kd.C_drew ?_))); (case side2 => exact (Kd.R_reads' HO_322000.out).2.1); rintro e w244 ⟨rfl, hb⟩; refine ⟨_, rfl, ?_⟩; replace HO_309000 := cb HO_309000 hb; replace HO_313000 := cb HO_313000 hb; replace HO_317000 := cb HO_317000 hb; replace HO_322000 := cb HO_322000 hb; replace HO_350000 := cb HO_350000 hb; replace BK294 := cB BK294 hb; replace BK295 := cB BK295 hb; replace BK308 := cB BK308 hb; replace BK312 := cB BK312 hb; replace BK316 := cB BK316 hb; replace BK321 := cB BK321 hb; replace BK349 := cB BK349 hb; replace HB := cs (hq7 HB GE294 GE295 GE308 GE312 GE316 GE321 GE349) hb; (try clear hb); (try clear hb2); (try clear hk); (try clear hi)))
 go_ret
 exact ⟨by first | rfl | (simp [errW_none, errW_some] <;> rfl) | (simp [*, errW_none, errW_some] <;> rfl), hq7 HB GE294 GE295 GE308 GE312 GE316 GE321 GE349⟩
end Go.Proofs.Ytcehboknhdmmfaa.QFnExactReduceBig
