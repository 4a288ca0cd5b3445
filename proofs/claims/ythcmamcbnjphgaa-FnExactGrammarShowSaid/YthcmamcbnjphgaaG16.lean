import Derived.Test.YthcmamcbnjphgaaG15
import Derived.Deep.Slices
import Derived.ChangeArms
set_option linter.unusedVariables false
set_option linter.unusedSimpArgs false
namespace Go.Proofs.Ythcmamcbnjphgaa.PFnExactGrammarShow
open Go.RowKit Go.Proofs.YthcmamcbnjphgaaW.PrintWords Go.Proofs.YthcmamcbnjphgaaW.PrintLast Go.Proofs.YthcmamcbnjphgaaW.PrintMore
attribute [local go_sem] max2_int min2_int max_two min_two max_three min_three max_four min_four   -- for this text's walks alone
def laws_FnExactGrammarShow.j0 : Nat → Bool → ByteArray → List (S98) → List (S100) → List (S104) → List (S108) → ByteArray → List (S51) → List (S54) → List (S59) → List (S119) → Option (Bool)
 | 0, _, _, _, _, _, _, _, _, _, _, _ => none
 | k + 1, x34, x389000, x389001, x389002, x389003, x389004, x419000, x419001, x419002, x419003, x419004 => if x34 = true then (some false) else ((laws_toGrammar.f k x389000 x389001 x389002 x389003 x389004).bind fun bt421 => ((laws_eqGrammar.f k x419000 x419001 x419002 x419003 x419004 bt421.1 bt421.2.1 bt421.2.2.1 bt421.2.2.2.1 bt421.2.2.2.2).bind fun t434 => (if t434 = true then (some true) else (some false))))
def laws_FnExactGrammarShow.f (k : Nat) (a0_0 : ByteArray) (l0_1 : List (S98)) (l0_2 : List (S100)) (l0_3 : List (S104)) (l0_4 : List (S108)) : Option (Bool) := (laws_szGrammar.f k a0_0 l0_1 l0_2 l0_3 l0_4 1048576).bind fun t389 => (if t389 < 0 then (some true) else ((laws_toGrammar.f k a0_0 l0_1 l0_2 l0_3 l0_4).bind fun bt390 => ((spec_GrammarShow.f k bt390.1 bt390.2.1 bt390.2.2.1 bt390.2.2.2.1 bt390.2.2.2.2).bind fun bt403 => ((laws_toGrammar.f k a0_0 l0_1 l0_2 l0_3 l0_4).bind fun bt405 => ((impl_GrammarShow.f k bt405.1 bt405.2.1 bt405.2.2.1 bt405.2.2.2.1 bt405.2.2.2.2).bind fun bt419 => (if bt419.1.toList = bt403.1.toList then (laws_FnExactGrammarShow.j0 k (bt419.2 != bt403.2) a0_0 l0_1 l0_2 l0_3 l0_4 bt405.1 bt405.2.1 bt405.2.2.1 bt405.2.2.2.1 bt405.2.2.2.2) else (laws_FnExactGrammarShow.j0 k true a0_0 l0_1 l0_2 l0_3 l0_4 bt405.1 bt405.2.1 bt405.2.2.1 bt405.2.2.2.1 bt405.2.2.2.2)))))))
set_option maxHeartbeats 8000000 in
set_option maxRecDepth 100000 in
theorem laws_FnExactGrammarShow.calls (k : Nat) (a0_0 : ByteArray) (A0_1 : Option Addr) (c0_1 : Nat) (l0_1 : List (S98)) (A0_2 : Option Addr) (c0_2 : Nat) (l0_2 : List (S100)) (A0_3 : Option Addr) (c0_3 : Nat) (l0_3 : List (S104)) (A0_4 : Option Addr) (c0_4 : Nat) (l0_4 : List (S108)) (r : Bool) (w : World) (hr0_1 : Kd.C k98 w A0_1 l0_1.length l0_1) (hc0_1 : l0_1.length ≤ c0_1) (hr0_2 : Kd.C k100 w A0_2 l0_2.length l0_2) (hc0_2 : l0_2.length ≤ c0_2) (hr0_3 : Kd.C k104 w A0_3 l0_3.length l0_3) (hc0_3 : l0_3.length ≤ c0_3) (hr0_4 : Kd.C k108 w A0_4 l0_4.length l0_4) (hc0_4 : l0_4.length ≤ c0_4) (h : laws_FnExactGrammarShow.f k a0_0 l0_1 l0_2 l0_3 l0_4 = some r) :
  Calls Try.prog 3 #[.agg #[.string a0_0, .slice A0_1 l0_1.length c0_1, .slice A0_2 l0_2.length c0_2, .slice A0_3 l0_3.length c0_3, .slice A0_4 l0_4.length c0_4]] w fun e w' => e = .returned (.bool r) ∧ Below w.heap.size w w' := by
 have hu27 := Try.underlying27
 have hu36 := Try.underlying36
 have HR0_1 := Zz.mk hr0_1
 have HC0_1 := Zz.mk hc0_1
 clear hr0_1 hc0_1
 have HR0_2 := Zz.mk hr0_2
 have HC0_2 := Zz.mk hc0_2
 clear hr0_2 hc0_2
 have HR0_3 := Zz.mk hr0_3
 have HC0_3 := Zz.mk hc0_3
 clear hr0_3 hc0_3
 have HR0_4 := Zz.mk hr0_4
 have HC0_4 := Zz.mk hc0_4
 clear hr0_4 hc0_4
 have HB := Zz.mk (Below.refl w.heap.size w)
 have H : ((laws_szGrammar.f k a0_0 l0_1 l0_2 l0_3 l0_4 1048576).bind fun t389 => (if t389 < 0 then (some true) else ((laws_toGrammar.f k a0_0 l0_1 l0_2 l0_3 l0_4).bind fun bt390 => ((spec_GrammarShow.f k bt390.1 bt390.2.1 bt390.2.2.1 bt390.2.2.2.1 bt390.2.2.2.2).bind fun bt403 => ((laws_toGrammar.f k a0_0 l0_1 l0_2 l0_3 l0_4).bind fun bt405 => ((impl_GrammarShow.f k bt405.1 bt405.2.1 bt405.2.2.1 bt405.2.2.2.1 bt405.2.2.2.2).bind fun bt419 => (if bt419.1.toList = bt403.1.toList then (laws_FnExactGrammarShow.j0 k (bt419.2 != bt403.2) a0_0 l0_1 l0_2 l0_3 l0_4 bt405.1 bt405.2.1 bt405.2.2.1 bt405.2.2.2.1 bt405.2.2.2.2) else (laws_FnExactGrammarShow.j0 k true a0_0 l0_1 l0_2 l0_3 l0_4 bt405.1 bt405.2.1 bt405.2.2.1 bt405.2.2.2.1 bt405.2.2.2.2)))))))) = some r := h
 clear h
 replace H := Option.bind_eq_some_iff.mp H
 obtain ⟨t389, A20, H⟩ := H
 replace H : (if t389 < 0 then (some true) else ((laws_toGrammar.f k a0_0 l0_1 l0_2 l0_3 l0_4).bind fun bt390 => ((spec_GrammarShow.f k bt390.1 bt390.2.1 bt390.2.2.1 bt390.2.2.2.1 bt390.2.2.2.2).bind fun bt403 => ((laws_toGrammar.f k a0_0 l0_1 l0_2 l0_3 l0_4).bind fun bt405 => ((impl_GrammarShow.f k bt405.1 bt405.2.1 bt405.2.2.1 bt405.2.2.2.1 bt405.2.2.2.2).bind fun bt419 => (if bt419.1.toList = bt403.1.toList then (laws_FnExactGrammarShow.j0 k (bt419.2 != bt403.2) a0_0 l0_1 l0_2 l0_3 l0_4 bt405.1 bt405.2.1 bt405.2.2.1 bt405.2.2.2.1 bt405.2.2.2.2) else (laws_FnExactGrammarShow.j0 k true a0_0 l0_1 l0_2 l0_3 l0_4 bt405.1 bt405.2.1 bt405.2.2.1 bt405.2.2.2.1 bt405.2.2.2.2))))))) = some r := H
 have A2 := Zz.mk A20
 clear A20
 by_cases c3 : t389 < 0
 ·rw [if_pos c3] at H
  have c3b0 : decide (t389 < 0) = true := decide_eq_true c3
  clear c3
  obtain rfl := Option.some.inj H
  go_enter Try.func3, Try.ntmps3
  go_wp2_with (first | ((with_reducible refine gate_dst (N := 1) rfl ?_); refine box_event ?hg (N := 1) ?hd (cs := #[.string a0_0, .slice A0_1 l0_1.length c0_1, .slice A0_2 l0_2.length c0_2, .slice A0_3 l0_3.length c0_3, .slice A0_4 l0_4.length c0_4]) (t := 27) ?hr ?_; (case hd => rfl); (case hg => rfl); (case hr => first | (go_simp; done) | (go_simp; rfl)); intro gb388 hg w4 hbox hb; have n0_ := Zz.mk (below_step (by repeat (first | (with_reducible first | exact HB.out | apply zba | apply zbn | apply zb1) | exact HB.out)) hb); have n1_ := Zz.mk (hbox); have n2_ := Zz.mk ((by rw [hg]; exact (zsz (by repeat (first | (with_reducible first | exact HB.out | apply zba | apply zbn | apply zb1) | exact HB.out))) : w.heap.size ≤ gb388)); have n3_ := Zz.mk ((by rw [hg]; exact (zsz (by repeat (first | (with_reducible first | exact HB.out | apply zba | apply zbn | apply zb1) | exact HB.out))) : w.heap.size ≤ gb388)); clear HB; have HB := n0_; have BK388 := n1_; have GW388 := n2_; have GE388 := n3_; clear n0_ n1_ n2_ n3_; clear hb hbox hg; have hcz5_0 : w4.cell? ⟨gb388, 0, none⟩ = some (.string a0_0) := (zbc BK388.out 0).trans rfl; have hcz5_1 : w4.cell? ⟨gb388, 1, none⟩ = some (.slice A0_1 l0_1.length c0_1) := (zbc BK388.out 1).trans rfl; have hcz5_2 : w4.cell? ⟨gb388, 2, none⟩ = some (.slice A0_2 l0_2.length c0_2) := (zbc BK388.out 2).trans rfl; have hcz5_3 : w4.cell? ⟨gb388, 3, none⟩ = some (.slice A0_3 l0_3.length c0_3) := (zbc BK388.out 3).trans rfl; have hcz5_4 : w4.cell? ⟨gb388, 4, none⟩ = some (.slice A0_4 l0_4.length c0_4) := (zbc BK388.out 4).trans rfl; have hfz5_0 := zbf BK388.out 0; have hfz5_1 := zbf BK388.out 1; have hfz5_2 := zbf BK388.out 2; have hfz5_3 := zbf BK388.out 3; have hfz5_4 := zbf BK388.out 4) | ((with_reducible refine gate_callee (f := 5) rfl ?_); refine goesL_ (some 11) rfl rfl Try.func5 (by kernel_rfl) rfl #[.agg #[.string a0_0, .slice A0_1 l0_1.length c0_1, .slice A0_2 l0_2.length c0_2, .slice A0_3 l0_3.length c0_3, .slice A0_4 l0_4.length c0_4], .int .i64 1048576] rfl (by (try simp only [List.map_toArray, List.map_cons, List.map_nil]); first | done | rfl | (simp only [List.length_drop, List.length_take]; rfl)) ?_; (with_reducible refine (laws_szGrammar.calls k a0_0 _ _ l0_1 _ _ l0_2 _ _ l0_3 _ _ l0_4 1048576 t389 _ ?side1 ?side2 ?side3 ?side4 ?side5 ?side6 ?side7 ?side8 A2.out).mono ?_); (case side1 => repeat (first | exact (Kd.C_below HR0_1.out HB.out) | (with_reducible refine Kd.C_alloc ?_ _) | (with_reducible refine Kd.C_drewN ?_ _) | (with_reducible refine Kd.C_drew ?_))); (case side2 => exact HC0_1.out); (case side3 => repeat (first | exact (Kd.C_below HR0_2.out HB.out) | (with_reducible refine Kd.C_alloc ?_ _) | (with_reducible refine Kd.C_drewN ?_ _) | (with_reducible refine Kd.C_drew ?_))); (case side4 => exact HC0_2.out); (case side5 => repeat (first | exact (Kd.C_below HR0_3.out HB.out) | (with_reducible refine Kd.C_alloc ?_ _) | (with_reducible refine Kd.C_drewN ?_ _) | (with_reducible refine Kd.C_drew ?_))); (case side6 => exact HC0_3.out); (case side7 => repeat (first | exact (Kd.C_below HR0_4.out HB.out) | (with_reducible refine Kd.C_alloc ?_ _) | (with_reducible refine Kd.C_drewN ?_ _) | (with_reducible refine Kd.C_drew ?_))); (case side8 => exact HC0_4.out); rintro e w6 ⟨rfl, hb⟩; refine ⟨_, rfl, ?_⟩; have n0_ := Zz.mk (blk_below (g := gb388) (o := .cells #[.string a0_0, .slice A0_1 l0_1.length c0_1, .slice A0_2 l0_2.length c0_2, .slice A0_3 l0_3.length c0_3, .slice A0_4 l0_4.length c0_4] 27 (0, 0)) (by (with_reducible repeat (first | refine zdn ?_ _ | refine zdr ?_ | refine zda ?_ _)); exact BK388.out) hb); have n1_ := Zz.mk (below_step (by repeat (first | (with_reducible first | exact HB.out | apply zba | apply zbn | apply zb1 | refine zbs ?_ GE388.out) | exact HB.out)) hb); clear BK388; clear HB; have BK388 := n0_; have HB := n1_; clear n0_ n1_; (try clear hb); (try clear hb2); (try clear hk); (try clear hi)))
  go_ret
  exact ⟨by first | rfl | (simp [errW_none, errW_some] <;> rfl) | (simp [*, errW_none, errW_some] <;> rfl), by repeat (first | (with_reducible first | exact HB.out | apply zba | apply zbn | apply zb1 | refine zbs ?_ GE388.out) | exact HB.out)⟩
 ·rw [if_neg c3] at H
  have c3b0 : decide (t389 < 0) = false := decide_eq_false c3
  clear c3
  replace H := Option.bind_eq_some_iff.mp H
  obtain ⟨⟨t390, t391, t394, t397, t400⟩, A70, H⟩ := H
  replace H : ((spec_GrammarShow.f k t390 t391 t394 t397 t400).bind fun bt403 => ((laws_toGrammar.f k a0_0 l0_1 l0_2 l0_3 l0_4).bind fun bt405 => ((impl_GrammarShow.f k bt405.1 bt405.2.1 bt405.2.2.1 bt405.2.2.2.1 bt405.2.2.2.2).bind fun bt419 => (if bt419.1.toList = bt403.1.toList then (laws_FnExactGrammarShow.j0 k (bt419.2 != bt403.2) a0_0 l0_1 l0_2 l0_3 l0_4 bt405.1 bt405.2.1 bt405.2.2.1 bt405.2.2.2.1 bt405.2.2.2.2) else (laws_FnExactGrammarShow.j0 k true a0_0 l0_1 l0_2 l0_3 l0_4 bt405.1 bt405.2.1 bt405.2.2.1 bt405.2.2.2.1 bt405.2.2.2.2))))) = some r := H
  have A7 := Zz.mk A70
  clear A70
  replace H := Option.bind_eq_some_iff.mp H
  obtain ⟨⟨t403, t404⟩, A80, H⟩ := H
  replace H : ((laws_toGrammar.f k a0_0 l0_1 l0_2 l0_3 l0_4).bind fun bt405 => ((impl_GrammarShow.f k bt405.1 bt405.2.1 bt405.2.2.1 bt405.2.2.2.1 bt405.2.2.2.2).bind fun bt419 => (if bt419.1.toList = t403.toList then (laws_FnExactGrammarShow.j0 k (bt419.2 != t404) a0_0 l0_1 l0_2 l0_3 l0_4 bt405.1 bt405.2.1 bt405.2.2.1 bt405.2.2.2.1 bt405.2.2.2.2) else (laws_FnExactGrammarShow.j0 k true a0_0 l0_1 l0_2 l0_3 l0_4 bt405.1 bt405.2.1 bt405.2.2.1 bt405.2.2.2.1 bt405.2.2.2.2)))) = some r := H
  have A8 := Zz.mk A80
  clear A80
  replace H := Option.bind_eq_some_iff.mp H
  obtain ⟨⟨t405, t406, t409, t412, t415⟩, A90, H⟩ := H
  replace H : ((impl_GrammarShow.f k t405 t406 t409 t412 t415).bind fun bt419 => (if bt419.1.toList = t403.toList then (laws_FnExactGrammarShow.j0 k (bt419.2 != t404) a0_0 l0_1 l0_2 l0_3 l0_4 t405 t406 t409 t412 t415) else (laws_FnExactGrammarShow.j0 k true a0_0 l0_1 l0_2 l0_3 l0_4 t405 t406 t409 t412 t415))) = some r := H
  have A9 := Zz.mk A90
  clear A90
  replace H := Option.bind_eq_some_iff.mp H
  obtain ⟨⟨t419, t420⟩, A100, H⟩ := H
  replace H : (if t419.toList = t403.toList then (laws_FnExactGrammarShow.j0 k (t420 != t404) a0_0 l0_1 l0_2 l0_3 l0_4 t405 t406 t409 t412 t415) else (laws_FnExactGrammarShow.j0 k true a0_0 l0_1 l0_2 l0_3 l0_4 t405 t406 t409 t412 t415)) = some r := H
  have A10 := Zz.mk A100
  clear A100
  have HC11 := Zz.mk H
  clear H
  go_enter Try.func3, Try.ntmps3
  go_upto_region 8 with (first | ((with_reducible refine gate_dst (N := 1) rfl ?_); refine box_event ?hg (N := 1) ?hd (cs := #[.string a0_0, .slice A0_1 l0_1.length c0_1, .slice A0_2 l0_2.length c0_2, .slice A0_3 l0_3.length c0_3, .slice A0_4 l0_4.length c0_4]) (t := 27) ?hr ?_; (case hd => rfl); (case hg => rfl); (case hr => first | (go_simp; done) | (go_simp; rfl)); intro gb388 hg w12 hbox hb; have n0_ := Zz.mk (below_step (by repeat (first | (with_reducible first | exact HB.out | apply zba | apply zbn | apply zb1) | exact HB.out)) hb); have n1_ := Zz.mk (hbox); have n2_ := Zz.mk ((by rw [hg]; exact (zsz (by repeat (first | (with_reducible first | exact HB.out | apply zba | apply zbn | apply zb1) | exact HB.out))) : w.heap.size ≤ gb388)); have n3_ := Zz.mk ((by rw [hg]; exact (zsz (by repeat (first | (with_reducible first | exact HB.out | apply zba | apply zbn | apply zb1) | exact HB.out))) : w.heap.size ≤ gb388)); clear HB; have HB := n0_; have BK388 := n1_; have GW388 := n2_; have GE388 := n3_; clear n0_ n1_ n2_ n3_; clear hb hbox hg; have hcz13_0 : w12.cell? ⟨gb388, 0, none⟩ = some (.string a0_0) := (zbc BK388.out 0).trans rfl; have hcz13_1 : w12.cell? ⟨gb388, 1, none⟩ = some (.slice A0_1 l0_1.length c0_1) := (zbc BK388.out 1).trans rfl; have hcz13_2 : w12.cell? ⟨gb388, 2, none⟩ = some (.slice A0_2 l0_2.length c0_2) := (zbc BK388.out 2).trans rfl; have hcz13_3 : w12.cell? ⟨gb388, 3, none⟩ = some (.slice A0_3 l0_3.length c0_3) := (zbc BK388.out 3).trans rfl; have hcz13_4 : w12.cell? ⟨gb388, 4, none⟩ = some (.slice A0_4 l0_4.length c0_4) := (zbc BK388.out 4).trans rfl; have hfz13_0 := zbf BK388.out 0; have hfz13_1 := zbf BK388.out 1; have hfz13_2 := zbf BK388.out 2; have hfz13_3 := zbf BK388.out 3; have hfz13_4 := zbf BK388.out 4) | ((with_reducible refine gate_callee (f := 5) rfl ?_); refine goesL_ (some 11) rfl rfl Try.func5 (by kernel_rfl) rfl #[.agg #[.string a0_0, .slice A0_1 l0_1.length c0_1, .slice A0_2 l0_2.length c0_2, .slice A0_3 l0_3.length c0_3, .slice A0_4 l0_4.length c0_4], .int .i64 1048576] rfl (by (try simp only [List.map_toArray, List.map_cons, List.map_nil]); first | done | rfl | (simp only [List.length_drop, List.length_take]; rfl)) ?_; (with_reducible refine (laws_szGrammar.calls k a0_0 _ _ l0_1 _ _ l0_2 _ _ l0_3 _ _ l0_4 1048576 t389 _ ?side1 ?side2 ?side3 ?side4 ?side5 ?side6 ?side7 ?side8 A2.out).mono ?_); (case side1 => repeat (first | exact (Kd.C_below HR0_1.out HB.out) | (with_reducible refine Kd.C_alloc ?_ _) | (with_reducible refine Kd.C_drewN ?_ _) | (with_reducible refine Kd.C_drew ?_))); (case side2 => exact HC0_1.out); (case side3 => repeat (first | exact (Kd.C_below HR0_2.out HB.out) | (with_reducible refine Kd.C_alloc ?_ _) | (with_reducible refine Kd.C_drewN ?_ _) | (with_reducible refine Kd.C_drew ?_))); (case side4 => exact HC0_2.out); (case side5 => repeat (first | exact (Kd.C_below HR0_3.out HB.out) | (with_reducible refine Kd.C_alloc ?_ _) | (with_reducible refine Kd.C_drewN ?_ _) | (with_reducible refine Kd.C_drew ?_))); (case side6 => exact HC0_3.out); (case side7 => repeat (first | exact (Kd.C_below HR0_4.out HB.out) | (with_reducible refine Kd.C_alloc ?_ _) | (with_reducible refine Kd.C_drewN ?_ _) | (with_reducible refine Kd.C_drew ?_))); (case side8 => exact HC0_4.out); rintro e w14 ⟨rfl, hb⟩; refine ⟨_, rfl, ?_⟩; have n0_ := Zz.mk (blk_below (g := gb388) (o := .cells #[.string a0_0, .slice A0_1 l0_1.length c0_1, .slice A0_2 l0_2.length c0_2, .slice A0_3 l0_3.length c0_3, .slice A0_4 l0_4.length c0_4] 27 (0, 0)) (by (with_reducible repeat (first | refine zdn ?_ _ | refine zdr ?_ | refine zda ?_ _)); exact BK388.out) hb); have n1_ := Zz.mk (below_step (by repeat (first | (with_reducible first | exact HB.out | apply zba | apply zbn | apply zb1 | refine zbs ?_ GE388.out) | exact HB.out)) hb); clear BK388; clear HB; have BK388 := n0_; have HB := n1_; clear n0_ n1_; (try clear hb); (try clear hb2); (try clear hk); (try clear hi); have hcz15_0 : w14.cell? ⟨gb388, 0, none⟩ = some (.string a0_0) := (zbc BK388.out 0).trans rfl; have hcz15_1 : w14.cell? ⟨gb388, 1, none⟩ = some (.slice A0_1 l0_1.length c0_1) := (zbc BK388.out 1).trans rfl; have hcz15_2 : w14.cell? ⟨gb388, 2, none⟩ = some (.slice A0_2 l0_2.length c0_2) := (zbc BK388.out 2).trans rfl; have hcz15_3 : w14.cell? ⟨gb388, 3, none⟩ = some (.slice A0_3 l0_3.length c0_3) := (zbc BK388.out 3).trans rfl; have hcz15_4 : w14.cell? ⟨gb388, 4, none⟩ = some (.slice A0_4 l0_4.length c0_4) := (zbc BK388.out 4).trans rfl; have hfz15_0 := zbf BK388.out 0; have hfz15_1 := zbf BK388.out 1; have hfz15_2 := zbf BK388.out 2; have hfz15_3 := zbf BK388.out 3; have hfz15_4 := zbf BK388.out 4) | ((with_reducible refine gate_callee (f := 7) rfl ?_); refine goesL_ (some 16) rfl rfl Try.func7 (by kernel_rfl) rfl #[.agg #[.string a0_0, .slice A0_1 l0_1.length c0_1, .slice A0_2 l0_2.length c0_2, .slice A0_3 l0_3.length c0_3, .slice A0_4 l0_4.length c0_4]] rfl (by (try simp only [List.map_toArray, List.map_cons, List.map_nil]); first | done | rfl | (simp only [List.length_drop, List.length_take]; rfl)) ?_; (with_reducible refine (laws_toGrammar.calls k a0_0 _ _ l0_1 _ _ l0_2 _ _ l0_3 _ _ l0_4 t390 t391 t394 t397 t400 _ ?side1 ?side2 ?side3 ?side4 ?side5 ?side6 ?side7 ?side8 A7.out).mono ?_); (case side1 => repeat (first | exact (Kd.C_below HR0_1.out HB.out) | (with_reducible refine Kd.C_alloc ?_ _) | (with_reducible refine Kd.C_drewN ?_ _) | (with_reducible refine Kd.C_drew ?_))); (case side2 => exact HC0_1.out); (case side3 => repeat (first | exact (Kd.C_below HR0_2.out HB.out) | (with_reducible refine Kd.C_alloc ?_ _) | (with_reducible refine Kd.C_drewN ?_ _) | (with_reducible refine Kd.C_drew ?_))); (case side4 => exact HC0_2.out); (case side5 => repeat (first | exact (Kd.C_below HR0_3.out HB.out) | (with_reducible refine Kd.C_alloc ?_ _) | (with_reducible refine Kd.C_drewN ?_ _) | (with_reducible refine Kd.C_drew ?_))); (case side6 => exact HC0_3.out); (case side7 => repeat (first | exact (Kd.C_below HR0_4.out HB.out) | (with_reducible refine Kd.C_alloc ?_ _) | (with_reducible refine Kd.C_drewN ?_ _) | (with_reducible refine Kd.C_drew ?_))); (case side8 => exact HC0_4.out); rintro e w16 ⟨v392, v395, v398, v401, rfl, ho0, ho1, ho2, ho3, hb⟩; refine ⟨_, rfl, ?_⟩; have n0_ := Zz.mk (Kd.R_lower ho0 (zsz (by repeat (first | (with_reducible first | exact HB.out | apply zba | apply zbn | apply zb1 | refine zbs ?_ GE388.out) | exact HB.out)))); have n1_ := Zz.mk (Kd.S_lower ho1 (zsz (by repeat (first | (with_reducible first | exact HB.out | apply zba | apply zbn | apply zb1 | refine zbs ?_ GE388.out) | exact HB.out)))); have n2_ := Zz.mk (Kd.R_lower ho2 (zsz (by repeat (first | (with_reducible first | exact HB.out | apply zba | apply zbn | apply zb1 | refine zbs ?_ GE388.out) | exact HB.out)))); have n3_ := Zz.mk (Kd.R_lower ho3 (zsz (by repeat (first | (with_reducible first | exact HB.out | apply zba | apply zbn | apply zb1 | refine zbs ?_ GE388.out) | exact HB.out)))); have n4_ := Zz.mk (blk_below (g := gb388) (o := .cells #[.string a0_0, .slice A0_1 l0_1.length c0_1, .slice A0_2 l0_2.length c0_2, .slice A0_3 l0_3.length c0_3, .slice A0_4 l0_4.length c0_4] 27 (0, 0)) (by (with_reducible repeat (first | refine zdn ?_ _ | refine zdr ?_ | refine zda ?_ _)); exact BK388.out) hb); have n5_ := Zz.mk (below_step (by repeat (first | (with_reducible first | exact HB.out | apply zba | apply zbn | apply zb1 | refine zbs ?_ GE388.out) | exact HB.out)) hb); clear BK388; clear HB; have HO393 := n0_; have HO396 := n1_; have HO399 := n2_; have HO402 := n3_; have BK388 := n4_; have HB := n5_; clear n0_ n1_ n2_ n3_ n4_ n5_; (try clear hb); (try clear hb2); (try clear hk); (try clear hi); (try clear ho0); (try clear ho1); (try clear ho2); (try clear ho3); obtain ⟨Ao17, co17, eo17⟩ := Kd.R_slice HO393.out; subst eo17; obtain ⟨Ao18, co18, eo18⟩ := Kd.S_slice HO396.out; subst eo18; obtain ⟨Ao19, co19, eo19⟩ := Kd.R_slice HO399.out; subst eo19; obtain ⟨Ao20, co20, eo20⟩ := Kd.R_slice HO402.out; subst eo20) | ((with_reducible refine gate_callee (f := 6) rfl ?_); refine goesL_ (some 17) rfl rfl Try.func6 (by kernel_rfl) rfl #[.agg #[.string t390, .slice Ao17 t391.length co17, .slice Ao18 t394.length co18, .slice Ao19 t397.length co19, .slice Ao20 t400.length co20]] rfl (by (try simp only [List.map_toArray, List.map_cons, List.map_nil]); first | done | rfl | (simp only [List.length_drop, List.length_take]; rfl)) ?_; (with_reducible refine (spec_GrammarShow.calls k t390 _ _ t391 _ _ t394 _ _ t397 _ _ t400 t403 t404 _ ?side1 ?side2 ?side3 ?side4 ?side5 ?side6 ?side7 ?side8 A8.out).mono ?_); (case side1 => repeat (first | exact (Kd.R_reads' HO393.out).2.2 | (with_reducible refine Kd.C_alloc ?_ _) | (with_reducible refine Kd.C_drewN ?_ _) | (with_reducible refine Kd.C_drew ?_))); (case side2 => exact (Kd.R_reads' HO393.out).2.1); (case side3 => repeat (first | exact (Kd.S_reads' HO396.out).2.2 | (with_reducible refine Kd.C_alloc ?_ _) | (with_reducible refine Kd.C_drewN ?_ _) | (with_reducible refine Kd.C_drew ?_))); (case side4 => exact (Kd.S_reads' HO396.out).2.1); (case side5 => repeat (first | exact (Kd.R_reads' HO399.out).2.2 | (with_reducible refine Kd.C_alloc ?_ _) | (with_reducible refine Kd.C_drewN ?_ _) | (with_reducible refine Kd.C_drew ?_))); (case side6 => exact (Kd.R_reads' HO399.out).2.1); (case side7 => repeat (first | exact (Kd.R_reads' HO402.out).2.2 | (with_reducible refine Kd.C_alloc ?_ _) | (with_reducible refine Kd.C_drewN ?_ _) | (with_reducible refine Kd.C_drew ?_))); (case side8 => exact (Kd.R_reads' HO402.out).2.1); rintro e w21 ⟨rfl, hb⟩; refine ⟨_, rfl, ?_⟩; have n0_ := Zz.mk (Kd.R_below (by (with_reducible repeat (first | apply Kd.R_alloc | apply Kd.R_drewN | apply Kd.R_drew)); exact HO393.out) hb); have n1_ := Zz.mk (Kd.S_below (by (with_reducible repeat (first | apply Kd.S_alloc | apply Kd.S_drewN | apply Kd.S_drew)); exact HO396.out) hb); have n2_ := Zz.mk (Kd.R_below (by (with_reducible repeat (first | apply Kd.R_alloc | apply Kd.R_drewN | apply Kd.R_drew)); exact HO399.out) hb); have n3_ := Zz.mk (Kd.R_below (by (with_reducible repeat (first | apply Kd.R_alloc | apply Kd.R_drewN | apply Kd.R_drew)); exact HO402.out) hb); have n4_ := Zz.mk (blk_below (g := gb388) (o := .cells #[.string a0_0, .slice A0_1 l0_1.length c0_1, .slice A0_2 l0_2.length c0_2, .slice A0_3 l0_3.length c0_3, .slice A0_4 l0_4.length c0_4] 27 (0, 0)) (by (with_reducible repeat (first | refine zdn ?_ _ | refine zdr ?_ | refine zda ?_ _)); exact BK388.out) hb); have n5_ := Zz.mk (below_step (by repeat (first | (with_reducible first | exact HB.out | apply zba | apply zbn | apply zb1 | refine zbs ?_ GE388.out) | exact HB.out)) hb); clear HO393; clear HO396; clear HO399; clear HO402; clear BK388; clear HB; have HO393 := n0_; have HO396 := n1_; have HO399 := n2_; have HO402 := n3_; have BK388 := n4_; have HB := n5_; clear n0_ n1_ n2_ n3_ n4_ n5_; (try clear hb); (try clear hb2); (try clear hk); (try clear hi); have hcz22_0 : w21.cell? ⟨gb388, 0, none⟩ = some (.string a0_0) := (zbc BK388.out 0).trans rfl; have hcz22_1 : w21.cell? ⟨gb388, 1, none⟩ = some (.slice A0_1 l0_1.length c0_1) := (zbc BK388.out 1).trans rfl; have hcz22_2 : w21.cell? ⟨gb388, 2, none⟩ = some (.slice A0_2 l0_2.length c0_2) := (zbc BK388.out 2).trans rfl; have hcz22_3 : w21.cell? ⟨gb388, 3, none⟩ = some (.slice A0_3 l0_3.length c0_3) := (zbc BK388.out 3).trans rfl; have hcz22_4 : w21.cell? ⟨gb388, 4, none⟩ = some (.slice A0_4 l0_4.length c0_4) := (zbc BK388.out 4).trans rfl; have hfz22_0 := zbf BK388.out 0; have hfz22_1 := zbf BK388.out 1; have hfz22_2 := zbf BK388.out 2; have hfz22_3 := zbf BK388.out 3; have hfz22_4 := zbf BK388.out 4) | ((with_reducible refine gate_callee (f := 7) rfl ?_); refine goesL_ (some 21) rfl rfl Try.func7 (by kernel_rfl) rfl #[.agg #[.string a0_0, .slice A0_1 l0_1.length c0_1, .slice A0_2 l0_2.length c0_2, .slice A0_3 l0_3.length c0_3, .slice A0_4 l0_4.length c0_4]] rfl (by (try simp only [List.map_toArray, List.map_cons, List.map_nil]); first | done | rfl | (simp only [List.length_drop, List.length_take]; rfl)) ?_; (with_reducible refine (laws_toGrammar.calls k a0_0 _ _ l0_1 _ _ l0_2 _ _ l0_3 _ _ l0_4 t405 t406 t409 t412 t415 _ ?side1 ?side2 ?side3 ?side4 ?side5 ?side6 ?side7 ?side8 A9.out).mono ?_); (case side1 => repeat (first | exact (Kd.C_below HR0_1.out HB.out) | (with_reducible refine Kd.C_alloc ?_ _) | (with_reducible refine Kd.C_drewN ?_ _) | (with_reducible refine Kd.C_drew ?_))); (case side2 => exact HC0_1.out); (case side3 => repeat (first | exact (Kd.C_below HR0_2.out HB.out) | (with_reducible refine Kd.C_alloc ?_ _) | (with_reducible refine Kd.C_drewN ?_ _) | (with_reducible refine Kd.C_drew ?_))); (case side4 => exact HC0_2.out); (case side5 => repeat (first | exact (Kd.C_below HR0_3.out HB.out) | (with_reducible refine Kd.C_alloc ?_ _) | (with_reducible refine Kd.C_drewN ?_ _) | (with_reducible refine Kd.C_drew ?_))); (case side6 => exact HC0_3.out); (case side7 => repeat (first | exact (Kd.C_below HR0_4.out HB.out) | (with_reducible refine Kd.C_alloc ?_ _) | (with_reducible refine Kd.C_drewN ?_ _) | (with_reducible refine Kd.C_drew ?_))); (case side8 => exact HC0_4.out); rintro e w23 ⟨v407, v410, v413, v416, rfl, ho0, ho1, ho2, ho3, hb⟩; refine ⟨_, rfl, ?_⟩; have n0_ := Zz.mk (Kd.R_elder' (by (with_reducible repeat (first | apply Kd.R_alloc | apply Kd.R_drewN | apply Kd.R_drew)); exact HO393.out) (Kd.R_base ho0) hb); have n1_ := Zz.mk (Kd.S_elder' (by (with_reducible repeat (first | apply Kd.S_alloc | apply Kd.S_drewN | apply Kd.S_drew)); exact HO396.out) (Kd.S_base ho1) hb); have n2_ := Zz.mk (Kd.R_elder' (by (with_reducible repeat (first | apply Kd.R_alloc | apply Kd.R_drewN | apply Kd.R_drew)); exact HO399.out) (Kd.R_base ho2) hb); have n3_ := Zz.mk (Kd.R_elder' (by (with_reducible repeat (first | apply Kd.R_alloc | apply Kd.R_drewN | apply Kd.R_drew)); exact HO402.out) (Kd.R_base ho3) hb); have n4_ := Zz.mk (Kd.R_lower (Kd.R_new' ho0 (Kd.R_lt (by (with_reducible repeat (first | apply Kd.R_alloc | apply Kd.R_drewN | apply Kd.R_drew)); exact HO393.out))) (zsz (by repeat (first | (with_reducible first | exact HB.out | apply zba | apply zbn | apply zb1 | refine zbs ?_ GE388.out) | exact HB.out)))); have n5_ := Zz.mk (Kd.S_lower (Kd.S_new' ho1 (Kd.S_lt (by (with_reducible repeat (first | apply Kd.S_alloc | apply Kd.S_drewN | apply Kd.S_drew)); exact HO396.out))) (zsz (by repeat (first | (with_reducible first | exact HB.out | apply zba | apply zbn | apply zb1 | refine zbs ?_ GE388.out) | exact HB.out)))); have n6_ := Zz.mk (Kd.R_lower (Kd.R_new' ho2 (Kd.R_lt (by (with_reducible repeat (first | apply Kd.R_alloc | apply Kd.R_drewN | apply Kd.R_drew)); exact HO399.out))) (zsz (by repeat (first | (with_reducible first | exact HB.out | apply zba | apply zbn | apply zb1 | refine zbs ?_ GE388.out) | exact HB.out)))); have n7_ := Zz.mk (Kd.R_lower (Kd.R_new' ho3 (Kd.R_lt (by (with_reducible repeat (first | apply Kd.R_alloc | apply Kd.R_drewN | apply Kd.R_drew)); exact HO402.out))) (zsz (by repeat (first | (with_reducible first | exact HB.out | apply zba | apply zbn | apply zb1 | refine zbs ?_ GE388.out) | exact HB.out)))); have n8_ := Zz.mk (blk_below (g := gb388) (o := .cells #[.string a0_0, .slice A0_1 l0_1.length c0_1, .slice A0_2 l0_2.length c0_2, .slice A0_3 l0_3.length c0_3, .slice A0_4 l0_4.length c0_4] 27 (0, 0)) (by (with_reducible repeat (first | refine zdn ?_ _ | refine zdr ?_ | refine zda ?_ _)); exact BK388.out) hb); have n9_ := Zz.mk (below_step (by repeat (first | (with_reducible first | exact HB.out | apply zba | apply zbn | apply zb1 | refine zbs ?_ GE388.out) | exact HB.out)) hb); clear HO393; clear HO396; clear HO399; clear HO402; clear BK388; clear HB; have HO393 := n0_; have HO396 := n1_; have HO399 := n2_; have HO402 := n3_; have HO408 := n4_; have HO411 := n5_; have HO414 := n6_; have HO417 := n7_; have BK388 := n8_; have HB := n9_; clear n0_ n1_ n2_ n3_ n4_ n5_ n6_ n7_ n8_ n9_; (try clear hb); (try clear hb2); (try clear hk); (try clear hi); (try clear ho0); (try clear ho1); (try clear ho2); (try clear ho3)) | ((with_reducible refine gate_dst (N := 6) rfl ?_); refine box_event ?hg (N := 6) ?hd (cs := #[.string (⟨#[]⟩ : ByteArray), .slice none 0 0, .slice none 0 0, .slice none 0 0, .slice none 0 0]) (t := 36) ?hr ?_; (case hd => rfl); (case hg => rfl); (case hr => first | (go_simp; done) | (go_simp; rfl)); intro gb418 hg w24 hbox hb; have n0_ := Zz.mk (Kd.R_below (by (with_reducible repeat (first | apply Kd.R_alloc | apply Kd.R_drewN | apply Kd.R_drew)); exact HO393.out) hb); have n1_ := Zz.mk (Kd.S_below (by (with_reducible repeat (first | apply Kd.S_alloc | apply Kd.S_drewN | apply Kd.S_drew)); exact HO396.out) hb); have n2_ := Zz.mk (Kd.R_below (by (with_reducible repeat (first | apply Kd.R_alloc | apply Kd.R_drewN | apply Kd.R_drew)); exact HO399.out) hb); have n3_ := Zz.mk (Kd.R_below (by (with_reducible repeat (first | apply Kd.R_alloc | apply Kd.R_drewN | apply Kd.R_drew)); exact HO402.out) hb); have n4_ := Zz.mk (Kd.R_below (by (with_reducible repeat (first | apply Kd.R_alloc | apply Kd.R_drewN | apply Kd.R_drew)); exact HO408.out) hb); have n5_ := Zz.mk (Kd.S_below (by (with_reducible repeat (first | apply Kd.S_alloc | apply Kd.S_drewN | apply Kd.S_drew)); exact HO411.out) hb); have n6_ := Zz.mk (Kd.R_below (by (with_reducible repeat (first | apply Kd.R_alloc | apply Kd.R_drewN | apply Kd.R_drew)); exact HO414.out) hb); have n7_ := Zz.mk (Kd.R_below (by (with_reducible repeat (first | apply Kd.R_alloc | apply Kd.R_drewN | apply Kd.R_drew)); exact HO417.out) hb); have n8_ := Zz.mk (blk_below (g := gb388) (o := .cells #[.string a0_0, .slice A0_1 l0_1.length c0_1, .slice A0_2 l0_2.length c0_2, .slice A0_3 l0_3.length c0_3, .slice A0_4 l0_4.length c0_4] 27 (0, 0)) (by (with_reducible repeat (first | refine zdn ?_ _ | refine zdr ?_ | refine zda ?_ _)); exact BK388.out) hb); have n9_ := Zz.mk (below_step (by repeat (first | (with_reducible first | exact HB.out | apply zba | apply zbn | apply zb1 | refine zbs ?_ GE388.out) | exact HB.out)) hb); have n10_ := Zz.mk (hbox); have n11_ := Zz.mk ((by rw [hg]; exact (zsz (by repeat (first | (with_reducible first | exact HB.out | apply zba | apply zbn | apply zb1 | refine zbs ?_ GE388.out) | exact HB.out))) : w.heap.size ≤ gb418)); have n12_ := Zz.mk ((by rw [hg]; exact (zsz (by repeat (first | (with_reducible first | exact HB.out | apply zba | apply zbn | apply zb1 | refine zbs ?_ GE388.out) | exact HB.out))) : w.heap.size ≤ gb418)); have n13_ := Zz.mk ((by rw [hg]; exact Nat.ne_of_lt (blk_lt (g := gb388) (o := .cells #[.string a0_0, .slice A0_1 l0_1.length c0_1, .slice A0_2 l0_2.length c0_2, .slice A0_3 l0_3.length c0_3, .slice A0_4 l0_4.length c0_4] 27 (0, 0)) (by (with_reducible repeat (first | refine zdn ?_ _ | refine zdr ?_ | refine zda ?_ _)); exact BK388.out)) : gb388 ≠ gb418)); have n14_ := Zz.mk ((by rw [hg]; exact Nat.ne_of_gt (blk_lt (g := gb388) (o := .cells #[.string a0_0, .slice A0_1 l0_1.length c0_1, .slice A0_2 l0_2.length c0_2, .slice A0_3 l0_3.length c0_3, .slice A0_4 l0_4.length c0_4] 27 (0, 0)) (by (with_reducible repeat (first | refine zdn ?_ _ | refine zdr ?_ | refine zda ?_ _)); exact BK388.out)) : gb418 ≠ gb388)); clear HO393; clear HO396; clear HO399; clear HO402; clear HO408; clear HO411; clear HO414; clear HO417; clear BK388; clear HB; have HO393 := n0_; have HO396 := n1_; have HO399 := n2_; have HO402 := n3_; have HO408 := n4_; have HO411 := n5_; have HO414 := n6_; have HO417 := n7_; have BK388 := n8_; have HB := n9_; have BK418 := n10_; have GW418 := n11_; have GE418 := n12_; have NB388_418 := n13_; have NB418_388 := n14_; clear n0_ n1_ n2_ n3_ n4_ n5_ n6_ n7_ n8_ n9_ n10_ n11_ n12_ n13_ n14_; clear hb hbox hg; have hnb25 := NB418_388.out; have hnc25 := NB388_418.out; have hcz26_0 : w24.cell? ⟨gb418, 0, none⟩ = some (.string (⟨#[]⟩ : ByteArray)) := (zbc BK418.out 0).trans rfl; have hcz26_1 : w24.cell? ⟨gb418, 1, none⟩ = some (.slice none 0 0) := (zbc BK418.out 1).trans rfl; have hcz26_2 : w24.cell? ⟨gb418, 2, none⟩ = some (.slice none 0 0) := (zbc BK418.out 2).trans rfl; have hcz26_3 : w24.cell? ⟨gb418, 3, none⟩ = some (.slice none 0 0) := (zbc BK418.out 3).trans rfl; have hcz26_4 : w24.cell? ⟨gb418, 4, none⟩ = some (.slice none 0 0) := (zbc BK418.out 4).trans rfl; have hfz26_0 := zbf BK418.out 0; have hfz26_1 := zbf BK418.out 1; have hfz26_2 := zbf BK418.out 2; have hfz26_3 := zbf BK418.out 3; have hfz26_4 := zbf BK418.out 4; obtain ⟨Ao27, co27, eo27⟩ := Kd.R_slice HO408.out; subst eo27; obtain ⟨Ao28, co28, eo28⟩ := Kd.S_slice HO411.out; subst eo28; obtain ⟨Ao29, co29, eo29⟩ := Kd.R_slice HO414.out; subst eo29; obtain ⟨Ao30, co30, eo30⟩ := Kd.R_slice HO417.out; subst eo30) | ((with_reducible refine gate_callee (f := 8) rfl ?_); refine goesL_ (some 24) rfl rfl Try.func8 (by kernel_rfl) rfl #[.agg #[.string t405, .slice Ao27 t406.length co27, .slice Ao28 t409.length co28, .slice Ao29 t412.length co29, .slice Ao30 t415.length co30]] rfl (by (try simp only [List.map_toArray, List.map_cons, List.map_nil]); first | done | rfl | (simp only [List.length_drop, List.length_take]; rfl)) ?_; (with_reducible refine (impl_GrammarShow.calls k t405 _ _ t406 _ _ t409 _ _ t412 _ _ t415 t419 t420 _ ?side1 ?side2 ?side3 ?side4 ?side5 ?side6 ?side7 ?side8 A10.out).mono ?_); (case side1 => refine (Kd.R_reads' (e := 51) (base := w.heap.size) (ok := fun k_ => (True ∧ some k_ ≠ (.slice Ao17 t391.length co17 : Value).ownBlock)) (n := t406.length) (c := co27) ?_).2.2; exact (by (with_reducible repeat (first | apply Kd.R_alloc | apply Kd.R_drewN | apply Kd.R_drew)); exact (Kd.R_mono (Kd.R_far (p := ⟨gb418, 4, none⟩) (Kd.R_far (p := ⟨gb418, 3, none⟩) (Kd.R_far (p := ⟨gb418, 2, none⟩) (Kd.R_far (p := ⟨gb418, 1, none⟩) (Kd.R_far (p := ⟨gb418, 0, none⟩) (Kd.R_types HO408.out BK418.out (by decide)) (fun _ hk => hk.2) (.string t405)) (fun _ hk => hk.2) (.slice Ao27 t406.length co27)) (fun _ hk => hk.2) (.slice Ao28 t409.length co28)) (fun _ hk => hk.2) (.slice Ao29 t412.length co29)) (fun _ hk => hk.2) (.slice Ao30 t415.length co30)) (fun _ h_ => h_.1)))); (case side2 => exact (Kd.R_reads' HO408.out).2.1); (case side3 => refine (Kd.S_reads' (e := 54) (base := w.heap.size) (ok := fun k_ => (True ∧ some k_ ≠ (.slice Ao18 t394.length co18 : Value).ownBlock)) (n := t409.length) (c := co28) ?_).2.2; exact (by (with_reducible repeat (first | apply Kd.S_alloc | apply Kd.S_drewN | apply Kd.S_drew)); exact (Kd.S_mono (Kd.S_far (p := ⟨gb418, 4, none⟩) (Kd.S_far (p := ⟨gb418, 3, none⟩) (Kd.S_far (p := ⟨gb418, 2, none⟩) (Kd.S_far (p := ⟨gb418, 1, none⟩) (Kd.S_far (p := ⟨gb418, 0, none⟩) (Kd.S_types HO411.out BK418.out (by decide)) (fun _ hk => hk.2) (.string t405)) (fun _ hk => hk.2) (.slice Ao27 t406.length co27)) (fun _ hk => hk.2) (.slice Ao28 t409.length co28)) (fun _ hk => hk.2) (.slice Ao29 t412.length co29)) (fun _ hk => hk.2) (.slice Ao30 t415.length co30)) (fun _ h_ => h_.1)))); (case side4 => exact (Kd.S_reads' HO411.out).2.1); (case side5 => refine (Kd.R_reads' (e := 59) (base := w.heap.size) (ok := fun k_ => (True ∧ some k_ ≠ (.slice Ao19 t397.length co19 : Value).ownBlock)) (n := t412.length) (c := co29) ?_).2.2; exact (by (with_reducible repeat (first | apply Kd.R_alloc | apply Kd.R_drewN | apply Kd.R_drew)); exact (Kd.R_mono (Kd.R_far (p := ⟨gb418, 4, none⟩) (Kd.R_far (p := ⟨gb418, 3, none⟩) (Kd.R_far (p := ⟨gb418, 2, none⟩) (Kd.R_far (p := ⟨gb418, 1, none⟩) (Kd.R_far (p := ⟨gb418, 0, none⟩) (Kd.R_types HO414.out BK418.out (by decide)) (fun _ hk => hk.2) (.string t405)) (fun _ hk => hk.2) (.slice Ao27 t406.length co27)) (fun _ hk => hk.2) (.slice Ao28 t409.length co28)) (fun _ hk => hk.2) (.slice Ao29 t412.length co29)) (fun _ hk => hk.2) (.slice Ao30 t415.length co30)) (fun _ h_ => h_.1)))); (case side6 => exact (Kd.R_reads' HO414.out).2.1); (case side7 => refine (Kd.R_reads' (e := 119) (base := w.heap.size) (ok := fun k_ => (True ∧ some k_ ≠ (.slice Ao20 t400.length co20 : Value).ownBlock)) (n := t415.length) (c := co30) ?_).2.2; exact (by (with_reducible repeat (first | apply Kd.R_alloc | apply Kd.R_drewN | apply Kd.R_drew)); exact (Kd.R_mono (Kd.R_far (p := ⟨gb418, 4, none⟩) (Kd.R_far (p := ⟨gb418, 3, none⟩) (Kd.R_far (p := ⟨gb418, 2, none⟩) (Kd.R_far (p := ⟨gb418, 1, none⟩) (Kd.R_far (p := ⟨gb418, 0, none⟩) (Kd.R_types HO417.out BK418.out (by decide)) (fun _ hk => hk.2) (.string t405)) (fun _ hk => hk.2) (.slice Ao27 t406.length co27)) (fun _ hk => hk.2) (.slice Ao28 t409.length co28)) (fun _ hk => hk.2) (.slice Ao29 t412.length co29)) (fun _ hk => hk.2) (.slice Ao30 t415.length co30)) (fun _ h_ => h_.1)))); (case side8 => exact (Kd.R_reads' HO417.out).2.1); rintro e w31 ⟨rfl, hb⟩; refine ⟨_, rfl, ?_⟩; have n0_ := Zz.mk (Kd.R_below (by (with_reducible repeat (first | apply Kd.R_alloc | apply Kd.R_drewN | apply Kd.R_drew)); exact (Kd.R_mono (Kd.R_far (p := ⟨gb418, 4, none⟩) (Kd.R_far (p := ⟨gb418, 3, none⟩) (Kd.R_far (p := ⟨gb418, 2, none⟩) (Kd.R_far (p := ⟨gb418, 1, none⟩) (Kd.R_far (p := ⟨gb418, 0, none⟩) (Kd.R_types HO393.out BK418.out (by decide)) (fun _ hk => hk.2) (.string t405)) (fun _ hk => hk.2) (.slice Ao27 t406.length co27)) (fun _ hk => hk.2) (.slice Ao28 t409.length co28)) (fun _ hk => hk.2) (.slice Ao29 t412.length co29)) (fun _ hk => hk.2) (.slice Ao30 t415.length co30)) (fun _ h_ => h_.1))) hb); have n1_ := Zz.mk (Kd.S_below (by (with_reducible repeat (first | apply Kd.S_alloc | apply Kd.S_drewN | apply Kd.S_drew)); exact (Kd.S_mono (Kd.S_far (p := ⟨gb418, 4, none⟩) (Kd.S_far (p := ⟨gb418, 3, none⟩) (Kd.S_far (p := ⟨gb418, 2, none⟩) (Kd.S_far (p := ⟨gb418, 1, none⟩) (Kd.S_far (p := ⟨gb418, 0, none⟩) (Kd.S_types HO396.out BK418.out (by decide)) (fun _ hk => hk.2) (.string t405)) (fun _ hk => hk.2) (.slice Ao27 t406.length co27)) (fun _ hk => hk.2) (.slice Ao28 t409.length co28)) (fun _ hk => hk.2) (.slice Ao29 t412.length co29)) (fun _ hk => hk.2) (.slice Ao30 t415.length co30)) (fun _ h_ => h_.1))) hb); have n2_ := Zz.mk (Kd.R_below (by (with_reducible repeat (first | apply Kd.R_alloc | apply Kd.R_drewN | apply Kd.R_drew)); exact (Kd.R_mono (Kd.R_far (p := ⟨gb418, 4, none⟩) (Kd.R_far (p := ⟨gb418, 3, none⟩) (Kd.R_far (p := ⟨gb418, 2, none⟩) (Kd.R_far (p := ⟨gb418, 1, none⟩) (Kd.R_far (p := ⟨gb418, 0, none⟩) (Kd.R_types HO399.out BK418.out (by decide)) (fun _ hk => hk.2) (.string t405)) (fun _ hk => hk.2) (.slice Ao27 t406.length co27)) (fun _ hk => hk.2) (.slice Ao28 t409.length co28)) (fun _ hk => hk.2) (.slice Ao29 t412.length co29)) (fun _ hk => hk.2) (.slice Ao30 t415.length co30)) (fun _ h_ => h_.1))) hb); have n3_ := Zz.mk (Kd.R_below (by (with_reducible repeat (first | apply Kd.R_alloc | apply Kd.R_drewN | apply Kd.R_drew)); exact (Kd.R_mono (Kd.R_far (p := ⟨gb418, 4, none⟩) (Kd.R_far (p := ⟨gb418, 3, none⟩) (Kd.R_far (p := ⟨gb418, 2, none⟩) (Kd.R_far (p := ⟨gb418, 1, none⟩) (Kd.R_far (p := ⟨gb418, 0, none⟩) (Kd.R_types HO402.out BK418.out (by decide)) (fun _ hk => hk.2) (.string t405)) (fun _ hk => hk.2) (.slice Ao27 t406.length co27)) (fun _ hk => hk.2) (.slice Ao28 t409.length co28)) (fun _ hk => hk.2) (.slice Ao29 t412.length co29)) (fun _ hk => hk.2) (.slice Ao30 t415.length co30)) (fun _ h_ => h_.1))) hb); have n4_ := Zz.mk (Kd.R_below (by (with_reducible repeat (first | apply Kd.R_alloc | apply Kd.R_drewN | apply Kd.R_drew)); exact (Kd.R_mono (Kd.R_far (p := ⟨gb418, 4, none⟩) (Kd.R_far (p := ⟨gb418, 3, none⟩) (Kd.R_far (p := ⟨gb418, 2, none⟩) (Kd.R_far (p := ⟨gb418, 1, none⟩) (Kd.R_far (p := ⟨gb418, 0, none⟩) (Kd.R_types HO408.out BK418.out (by decide)) (fun _ hk => hk.2) (.string t405)) (fun _ hk => hk.2) (.slice Ao27 t406.length co27)) (fun _ hk => hk.2) (.slice Ao28 t409.length co28)) (fun _ hk => hk.2) (.slice Ao29 t412.length co29)) (fun _ hk => hk.2) (.slice Ao30 t415.length co30)) (fun _ h_ => h_.1))) hb); have n5_ := Zz.mk (Kd.S_below (by (with_reducible repeat (first | apply Kd.S_alloc | apply Kd.S_drewN | apply Kd.S_drew)); exact (Kd.S_mono (Kd.S_far (p := ⟨gb418, 4, none⟩) (Kd.S_far (p := ⟨gb418, 3, none⟩) (Kd.S_far (p := ⟨gb418, 2, none⟩) (Kd.S_far (p := ⟨gb418, 1, none⟩) (Kd.S_far (p := ⟨gb418, 0, none⟩) (Kd.S_types HO411.out BK418.out (by decide)) (fun _ hk => hk.2) (.string t405)) (fun _ hk => hk.2) (.slice Ao27 t406.length co27)) (fun _ hk => hk.2) (.slice Ao28 t409.length co28)) (fun _ hk => hk.2) (.slice Ao29 t412.length co29)) (fun _ hk => hk.2) (.slice Ao30 t415.length co30)) (fun _ h_ => h_.1))) hb); have n6_ := Zz.mk (Kd.R_below (by (with_reducible repeat (first | apply Kd.R_alloc | apply Kd.R_drewN | apply Kd.R_drew)); exact (Kd.R_mono (Kd.R_far (p := ⟨gb418, 4, none⟩) (Kd.R_far (p := ⟨gb418, 3, none⟩) (Kd.R_far (p := ⟨gb418, 2, none⟩) (Kd.R_far (p := ⟨gb418, 1, none⟩) (Kd.R_far (p := ⟨gb418, 0, none⟩) (Kd.R_types HO414.out BK418.out (by decide)) (fun _ hk => hk.2) (.string t405)) (fun _ hk => hk.2) (.slice Ao27 t406.length co27)) (fun _ hk => hk.2) (.slice Ao28 t409.length co28)) (fun _ hk => hk.2) (.slice Ao29 t412.length co29)) (fun _ hk => hk.2) (.slice Ao30 t415.length co30)) (fun _ h_ => h_.1))) hb); have n7_ := Zz.mk (Kd.R_below (by (with_reducible repeat (first | apply Kd.R_alloc | apply Kd.R_drewN | apply Kd.R_drew)); exact (Kd.R_mono (Kd.R_far (p := ⟨gb418, 4, none⟩) (Kd.R_far (p := ⟨gb418, 3, none⟩) (Kd.R_far (p := ⟨gb418, 2, none⟩) (Kd.R_far (p := ⟨gb418, 1, none⟩) (Kd.R_far (p := ⟨gb418, 0, none⟩) (Kd.R_types HO417.out BK418.out (by decide)) (fun _ hk => hk.2) (.string t405)) (fun _ hk => hk.2) (.slice Ao27 t406.length co27)) (fun _ hk => hk.2) (.slice Ao28 t409.length co28)) (fun _ hk => hk.2) (.slice Ao29 t412.length co29)) (fun _ hk => hk.2) (.slice Ao30 t415.length co30)) (fun _ h_ => h_.1))) hb); have n8_ := Zz.mk (blk_below (g := gb388) (o := .cells #[.string a0_0, .slice A0_1 l0_1.length c0_1, .slice A0_2 l0_2.length c0_2, .slice A0_3 l0_3.length c0_3, .slice A0_4 l0_4.length c0_4] 27 (0, 0)) (by (with_reducible repeat (first | refine zdn ?_ _ | refine zdr ?_ | refine zda ?_ _)); refine blk_far ?_ NB388_418.out _; (with_reducible repeat (first | refine zdn ?_ _ | refine zdr ?_ | refine zda ?_ _)); refine blk_far ?_ NB388_418.out _; (with_reducible repeat (first | refine zdn ?_ _ | refine zdr ?_ | refine zda ?_ _)); refine blk_far ?_ NB388_418.out _; (with_reducible repeat (first | refine zdn ?_ _ | refine zdr ?_ | refine zda ?_ _)); refine blk_far ?_ NB388_418.out _; (with_reducible repeat (first | refine zdn ?_ _ | refine zdr ?_ | refine zda ?_ _)); refine blk_far ?_ NB388_418.out _; (with_reducible repeat (first | refine zdn ?_ _ | refine zdr ?_ | refine zda ?_ _)); exact BK388.out) hb); have n9_ := Zz.mk (blk_below (g := gb418) (o := .cells #[.string t405, .slice Ao27 t406.length co27, .slice Ao28 t409.length co28, .slice Ao29 t412.length co29, .slice Ao30 t415.length co30] 36 (0, 0)) (by (with_reducible repeat (first | refine zdn ?_ _ | refine zdr ?_ | refine zda ?_ _)); refine blk_put (cs := #[.string t405, .slice Ao27 t406.length co27, .slice Ao28 t409.length co28, .slice Ao29 t412.length co29, .slice none 0 0]) ?_ 4 _ rfl; (with_reducible repeat (first | refine zdn ?_ _ | refine zdr ?_ | refine zda ?_ _)); refine blk_put (cs := #[.string t405, .slice Ao27 t406.length co27, .slice Ao28 t409.length co28, .slice none 0 0, .slice none 0 0]) ?_ 3 _ rfl; (with_reducible repeat (first | refine zdn ?_ _ | refine zdr ?_ | refine zda ?_ _)); refine blk_put (cs := #[.string t405, .slice Ao27 t406.length co27, .slice none 0 0, .slice none 0 0, .slice none 0 0]) ?_ 2 _ rfl; (with_reducible repeat (first | refine zdn ?_ _ | refine zdr ?_ | refine zda ?_ _)); refine blk_put (cs := #[.string t405, .slice none 0 0, .slice none 0 0, .slice none 0 0, .slice none 0 0]) ?_ 1 _ rfl; (with_reducible repeat (first | refine zdn ?_ _ | refine zdr ?_ | refine zda ?_ _)); refine blk_put (cs := #[.string (⟨#[]⟩ : ByteArray), .slice none 0 0, .slice none 0 0, .slice none 0 0, .slice none 0 0]) ?_ 0 _ rfl; (with_reducible repeat (first | refine zdn ?_ _ | refine zdr ?_ | refine zda ?_ _)); exact BK418.out) hb); have n10_ := Zz.mk (below_step (by repeat (first | (with_reducible first | exact HB.out | apply zba | apply zbn | apply zb1 | refine zbs ?_ GE388.out | refine zbs ?_ GE418.out) | exact HB.out)) hb); clear HO393; clear HO396; clear HO399; clear HO402; clear HO408; clear HO411; clear HO414; clear HO417; clear BK388; clear BK418; clear HB; have HO393 := n0_; have HO396 := n1_; have HO399 := n2_; have HO402 := n3_; have HO408 := n4_; have HO411 := n5_; have HO414 := n6_; have HO417 := n7_; have BK388 := n8_; have BK418 := n9_; have HB := n10_; clear n0_ n1_ n2_ n3_ n4_ n5_ n6_ n7_ n8_ n9_ n10_; (try clear hb); (try clear hb2); (try clear hk); (try clear hi)))
  (try simp only [Act.put, List.setIfInBounds_toArray, List.set_cons_zero, List.set_cons_succ])
  go_cut [34] (fun v34 wc => ∃ (kq : Nat) (x34_10 : Bool), v34 = .bool x34_10 ∧ Zz (laws_FnExactGrammarShow.j0 kq x34_10 a0_0 l0_1 l0_2 l0_3 l0_4 t405 t406 t409 t412 t415 = some r) ∧ Zz (kq ≤ k) ∧ Zz (Kd.R k51 51 wc w.heap.size (fun _ => True) (.slice Ao27 t406.length co27) t406) ∧ Zz (Kd.S k54 54 wc w.heap.size (fun _ => True) (.slice Ao28 t409.length co28) t409) ∧ Zz (Kd.R k59 59 wc w.heap.size (fun _ => True) (.slice Ao29 t412.length co29) t412) ∧ Zz (Kd.R k119 119 wc w.heap.size (fun _ => True) (.slice Ao30 t415.length co30) t415) ∧ Zz (wc.heap[gb388]? = some (.cells #[.string a0_0, (.slice A0_1 l0_1.length c0_1), (.slice A0_2 l0_2.length c0_2), (.slice A0_3 l0_3.length c0_3), (.slice A0_4 l0_4.length c0_4)] 27 (0, 0))) ∧ Zz (wc.heap[gb418]? = some (.cells #[.string t405, (.slice Ao27 t406.length co27), (.slice Ao28 t409.length co28), (.slice Ao29 t412.length co29), (.slice Ao30 t415.length co30)] 36 (0, 0))) ∧ Zz (Below w.heap.size w wc))
  case first =>
   have H := HC11.out
   clear HC11
   by_cases c32 : t419.toList = t403.toList
   ·rw [if_pos c32] at H
    have c32b0 : (t419.toList == t403.toList) = true := beq_iff_eq.mpr c32
    have c32b1 : (t419.toList != t403.toList) = false := bne_eq_false_iff_eq.mpr c32
    clear c32
    (first | rw [c32b0] | (simp only [i64_w, i32_w]; rw [c32b0]) | skip)
    have H' := Zz.mk H
    clear H
    go_wp2
    go_meet
    case rel => exact ⟨_, ((t420 != t404)), (by first | rfl | (simp; done) | (simp [*]; done)), H', ⟨by first | omega | exact Nat.le_refl _⟩, ⟨by (with_reducible repeat (first | apply Kd.R_alloc | apply Kd.R_drewN | apply Kd.R_drew)); exact Kd.R_mono HO408.out (fun _ hk => trivial)⟩, ⟨by (with_reducible repeat (first | apply Kd.S_alloc | apply Kd.S_drewN | apply Kd.S_drew)); exact Kd.S_mono HO411.out (fun _ hk => trivial)⟩, ⟨by (with_reducible repeat (first | apply Kd.R_alloc | apply Kd.R_drewN | apply Kd.R_drew)); exact Kd.R_mono HO414.out (fun _ hk => trivial)⟩, ⟨by (with_reducible repeat (first | apply Kd.R_alloc | apply Kd.R_drewN | apply Kd.R_drew)); exact Kd.R_mono HO417.out (fun _ hk => trivial)⟩, ⟨by (with_reducible repeat (first | refine zdn ?_ _ | refine zdr ?_ | refine zda ?_ _)); exact BK388.out⟩, ⟨by (with_reducible repeat (first | refine zdn ?_ _ | refine zdr ?_ | refine zda ?_ _)); exact BK418.out⟩, ⟨by repeat (first | (with_reducible first | exact HB.out | apply zba | apply zbn | apply zb1 | refine zbs ?_ GE388.out | refine zbs ?_ GE418.out) | exact HB.out)⟩⟩
   ·rw [if_neg c32] at H
    have c32b0 : (t419.toList == t403.toList) = false := beq_eq_false_iff_ne.mpr c32
    have c32b1 : (t419.toList != t403.toList) = true := bne_iff_ne.mpr c32
    (first | rw [c32b0] | (simp only [i64_w, i32_w]; rw [c32b0]) | skip)
    have H' := Zz.mk H
    clear H
    go_wp2
    go_meet
    case rel => exact ⟨_, (true), (by first | rfl | (simp; done) | (simp [*]; done)), H', ⟨by first | omega | exact Nat.le_refl _⟩, ⟨by (with_reducible repeat (first | apply Kd.R_alloc | apply Kd.R_drewN | apply Kd.R_drew)); exact Kd.R_mono HO408.out (fun _ hk => trivial)⟩, ⟨by (with_reducible repeat (first | apply Kd.S_alloc | apply Kd.S_drewN | apply Kd.S_drew)); exact Kd.S_mono HO411.out (fun _ hk => trivial)⟩, ⟨by (with_reducible repeat (first | apply Kd.R_alloc | apply Kd.R_drewN | apply Kd.R_drew)); exact Kd.R_mono HO414.out (fun _ hk => trivial)⟩, ⟨by (with_reducible repeat (first | apply Kd.R_alloc | apply Kd.R_drewN | apply Kd.R_drew)); exact Kd.R_mono HO417.out (fun _ hk => trivial)⟩, ⟨by (with_reducible repeat (first | refine zdn ?_ _ | refine zdr ?_ | refine zda ?_ _)); exact BK388.out⟩, ⟨by (with_reducible repeat (first | refine zdn ?_ _ | refine zdr ?_ | refine zda ?_ _)); exact BK418.out⟩, ⟨by repeat (first | (with_reducible first | exact HB.out | apply zba | apply zbn | apply zb1 | refine zbs ?_ GE388.out | refine zbs ?_ GE418.out) | exact HB.out)⟩⟩
  case rest =>
   clear HC11
   try clear c2
   try clear p2
   try clear c3
   try clear c3b0
   try clear c5
   try clear c6
   try clear c7
   try clear c8
   try clear c25
   try clear c32
   try clear c32b0
   try clear c32b1
   try clear hcz13_0
   try clear hcz13_1
   try clear hcz13_2
   try clear hcz13_3
   try clear hcz13_4
   try clear hcz15_0
   try clear hcz15_1
   try clear hcz15_2
   try clear hcz15_3
   try clear hcz15_4
   try clear hcz22_0
   try clear hcz22_1
   try clear hcz22_2
   try clear hcz22_3
   try clear hcz22_4
   try clear hcz26_0
   try clear hcz26_1
   try clear hcz26_2
   try clear hcz26_3
   try clear hcz26_4
   try clear hcz5_0
   try clear hcz5_1
   try clear hcz5_2
   try clear hcz5_3
   try clear hcz5_4
   try clear hfz13_0
   try clear hfz13_1
   try clear hfz13_2
   try clear hfz13_3
   try clear hfz13_4
   try clear hfz15_0
   try clear hfz15_1
   try clear hfz15_2
   try clear hfz15_3
   try clear hfz15_4
   try clear hfz22_0
   try clear hfz22_1
   try clear hfz22_2
   try clear hfz22_3
   try clear hfz22_4
   try clear hfz26_0
   try clear hfz26_1
   try clear hfz26_2
   try clear hfz26_3
   try clear hfz26_4
   try clear hfz5_0
   try clear hfz5_1
   try clear hfz5_2
   try clear hfz5_3
   try clear hfz5_4
   obtain ⟨kq, x34_10, rfl, HA, HJ10, HO_419001, HO_419002, HO_419003, HO_419004, BK388, BK418, HB⟩ := hcut
   cases kq with
   | zero => exact absurd HA.out (by simp [laws_FnExactGrammarShow.j0])
   | succ kj10 =>
    have H := HA.out
    clear HA
    simp only [laws_FnExactGrammarShow.j0] at H
    by_cases c33 : x34_10 = true
    ·subst c33
     have H1 : (some false) = some r := by rw [if_pos rfl] at H; exact H
     clear H
     have H := H1
     clear H1
     obtain rfl := Option.some.inj H
     go_wp2
     go_ret
     exact ⟨by first | rfl | (simp [errW_none, errW_some] <;> rfl) | (simp [*, errW_none, errW_some] <;> rfl), by repeat (first | (with_reducible first | exact HB.out | apply zba | apply zbn | apply zb1 | refine zbs ?_ GE388.out | refine zbs ?_ GE418.out) | exact HB.out)⟩
    ·replace c33 := Bool.eq_false_iff.mpr c33
     subst c33
     have H1 : ((laws_toGrammar.f kj10 a0_0 l0_1 l0_2 l0_3 l0_4).bind fun bt421 => ((laws_eqGrammar.f kj10 t405 t406 t409 t412 t415 bt421.1 bt421.2.1 bt421.2.2.1 bt421.2.2.2.1 bt421.2.2.2.2).bind fun t434 => (if t434 = true then (some true) else (some false)))) = some r := by rw [if_neg (show ¬ (false = true) by decide)] at H; exact H
     clear H
     have H := H1
     clear H1
     replace H := Option.bind_eq_some_iff.mp H
     obtain ⟨⟨t421, t422, t425, t428, t431⟩, A340, H⟩ := H
     replace H : ((laws_eqGrammar.f kj10 t405 t406 t409 t412 t415 t421 t422 t425 t428 t431).bind fun t434 => (if t434 = true then (some true) else (some false))) = some r := H
     have A34 := Zz.mk A340
     clear A340
     replace H := Option.bind_eq_some_iff.mp H
     obtain ⟨t434, A350, H⟩ := H
     replace H : (if t434 = true then (some true) else (some false)) = some r := H
     have A35 := Zz.mk A350
     clear A350
     by_cases c36 : t434 = true
     ·subst c36
      have H1 : (some true) = some r := by rw [if_pos rfl] at H; exact H
      clear H
      have H := H1
      clear H1
      obtain rfl := Option.some.inj H
      try go_wp2
      have n0_ := Zz.mk (Kd.R_drew HO_419001.out)
      have n1_ := Zz.mk (Kd.S_drew HO_419002.out)
      have n2_ := Zz.mk (Kd.R_drew HO_419003.out)
      have n3_ := Zz.mk (Kd.R_drew HO_419004.out)
      have n4_ := Zz.mk (zdr BK388.out)
      have n5_ := Zz.mk (zdr BK418.out)
      have n6_ := Zz.mk (zb1 HB.out)
      clear HO_419001
      clear HO_419002
      clear HO_419003
      clear HO_419004
      clear BK388
      clear BK418
      clear HB
      have HO_419001 := n0_
      have HO_419002 := n1_
      have HO_419003 := n2_
      have HO_419004 := n3_
      have BK388 := n4_
      have BK418 := n5_
      have HB := n6_
      clear n0_ n1_ n2_ n3_ n4_ n5_ n6_
      refine start_ (n := 5) (S := fun w' => w'.cell? ⟨gb418, 0, none⟩ = some (.string t405) ∧ w'.cell? ⟨gb418, 1, none⟩ = some (.slice Ao27 t406.length co27) ∧ w'.cell? ⟨gb418, 2, none⟩ = some (.slice Ao28 t409.length co28) ∧ w'.cell? ⟨gb418, 3, none⟩ = some (.slice Ao29 t412.length co29) ∧ w'.cell? ⟨gb418, 4, none⟩ = some (.slice Ao30 t415.length co30) ∧ w'.cell? ⟨gb388, 0, none⟩ = some (.string a0_0) ∧ w'.cell? ⟨gb388, 1, none⟩ = some (.slice A0_1 l0_1.length c0_1) ∧ w'.cell? ⟨gb388, 2, none⟩ = some (.slice A0_2 l0_2.length c0_2) ∧ w'.cell? ⟨gb388, 3, none⟩ = some (.slice A0_3 l0_3.length c0_3) ∧ w'.cell? ⟨gb388, 4, none⟩ = some (.slice A0_4 l0_4.length c0_4)) (ds := []) #[false, false, false, false, false] (by kernel_rfl) rfl rfl ⟨(zbc BK418.out 0).trans rfl, (zbc BK418.out 1).trans rfl, (zbc BK418.out 2).trans rfl, (zbc BK418.out 3).trans rfl, (zbc BK418.out 4).trans rfl, (zbc BK388.out 0).trans rfl, (zbc BK388.out 1).trans rfl, (zbc BK388.out 2).trans rfl, (zbc BK388.out 3).trans rfl, (zbc BK388.out 4).trans rfl⟩ (fun hHeld => ?_)
      generalize wc.drew = w37 at HO_419001 HO_419002 HO_419003 HO_419004 BK388 BK418 HB hHeld ⊢
      refine take_ (i := 0) (N := some 35) (v := ?_) (a' := ?_) #[true, false, false, false, false] rfl rfl (by kernel_rfl) (fun _ _ _ h => h) (Or.inl ⟨by rfl, ?_⟩) hHeld ?_ ?_
      rotate_left
      ·rintro w' ⟨s0, s1, s2, s3, s4, s5, s6, s7, s8, s9⟩
       go_simp
       with_reducible rfl
      rotate_left
      ·simp only [Act.put, List.setIfInBounds_toArray, List.set_cons_zero, List.set_cons_succ, i64_w, i32_w]
       rfl
      refine take_ (i := 1) (N := some 36) (v := ?_) (a' := ?_) #[true, true, false, false, false] rfl rfl (by kernel_rfl) (fun _ _ _ h => h) (Or.inl ⟨by rfl, ?_⟩) hHeld ?_ ?_
      rotate_left
      ·rintro w' ⟨s0, s1, s2, s3, s4, s5, s6, s7, s8, s9⟩
       go_simp
       with_reducible rfl
      rotate_left
      ·simp only [Act.put, List.setIfInBounds_toArray, List.set_cons_zero, List.set_cons_succ, i64_w, i32_w]
       rfl
      refine one_ (i := 2) (N := some 37) #[true, true, true, false, false] rfl rfl (by kernel_rfl) (by decide) (fun K hK => ?_)
      refine goes_ Try.func7 (by kernel_rfl) rfl #[.agg #[.string a0_0, .slice A0_1 l0_1.length c0_1, .slice A0_2 l0_2.length c0_2, .slice A0_3 l0_3.length c0_3, .slice A0_4 l0_4.length c0_4]] (by rfl) rfl rfl (by (try simp only [List.map_toArray, List.map_cons, List.map_nil]); first | done | rfl | (simp only [List.length_drop, List.length_take]; rfl)) ?_
      with_reducible refine (laws_toGrammar.calls kj10 a0_0 _ _ l0_1 _ _ l0_2 _ _ l0_3 _ _ l0_4 t421 t422 t425 t428 t431 _ ?side1 ?side2 ?side3 ?side4 ?side5 ?side6 ?side7 ?side8 A34.out).mono ?_
      (case side1 => repeat (first | exact (Kd.C_below HR0_1.out HB.out) | (with_reducible refine Kd.C_alloc ?_ _) | (with_reducible refine Kd.C_drewN ?_ _) | (with_reducible refine Kd.C_drew ?_)))
      (case side2 => exact HC0_1.out)
      (case side3 => repeat (first | exact (Kd.C_below HR0_2.out HB.out) | (with_reducible refine Kd.C_alloc ?_ _) | (with_reducible refine Kd.C_drewN ?_ _) | (with_reducible refine Kd.C_drew ?_)))
      (case side4 => exact HC0_2.out)
      (case side5 => repeat (first | exact (Kd.C_below HR0_3.out HB.out) | (with_reducible refine Kd.C_alloc ?_ _) | (with_reducible refine Kd.C_drewN ?_ _) | (with_reducible refine Kd.C_drew ?_)))
      (case side6 => exact HC0_3.out)
      (case side7 => repeat (first | exact (Kd.C_below HR0_4.out HB.out) | (with_reducible refine Kd.C_alloc ?_ _) | (with_reducible refine Kd.C_drewN ?_ _) | (with_reducible refine Kd.C_drew ?_)))
      (case side8 => exact HC0_4.out)
      rintro e w38 ⟨v423, v426, v429, v432, rfl, ho0, ho1, ho2, ho3, hb⟩
      refine ⟨_, rfl, ?_⟩
      have n0_ := Zz.mk (Kd.R_elder' (by (with_reducible repeat (first | apply Kd.R_alloc | apply Kd.R_drewN | apply Kd.R_drew)); exact HO_419001.out) (Kd.R_base ho0) hb)
      have n1_ := Zz.mk (Kd.S_elder' (by (with_reducible repeat (first | apply Kd.S_alloc | apply Kd.S_drewN | apply Kd.S_drew)); exact HO_419002.out) (Kd.S_base ho1) hb)
      have n2_ := Zz.mk (Kd.R_elder' (by (with_reducible repeat (first | apply Kd.R_alloc | apply Kd.R_drewN | apply Kd.R_drew)); exact HO_419003.out) (Kd.R_base ho2) hb)
      have n3_ := Zz.mk (Kd.R_elder' (by (with_reducible repeat (first | apply Kd.R_alloc | apply Kd.R_drewN | apply Kd.R_drew)); exact HO_419004.out) (Kd.R_base ho3) hb)
      have n4_ := Zz.mk (Kd.R_lower (Kd.R_new' ho0 (Kd.R_lt (by (with_reducible repeat (first | apply Kd.R_alloc | apply Kd.R_drewN | apply Kd.R_drew)); exact HO_419001.out))) (zsz (by repeat (first | (with_reducible first | exact HB.out | apply zba | apply zbn | apply zb1 | refine zbs ?_ GE388.out | refine zbs ?_ GE418.out) | exact HB.out))))
      have n5_ := Zz.mk (Kd.S_lower (Kd.S_new' ho1 (Kd.S_lt (by (with_reducible repeat (first | apply Kd.S_alloc | apply Kd.S_drewN | apply Kd.S_drew)); exact HO_419002.out))) (zsz (by repeat (first | (with_reducible first | exact HB.out | apply zba | apply zbn | apply zb1 | refine zbs ?_ GE388.out | refine zbs ?_ GE418.out) | exact HB.out))))
      have n6_ := Zz.mk (Kd.R_lower (Kd.R_new' ho2 (Kd.R_lt (by (with_reducible repeat (first | apply Kd.R_alloc | apply Kd.R_drewN | apply Kd.R_drew)); exact HO_419003.out))) (zsz (by repeat (first | (with_reducible first | exact HB.out | apply zba | apply zbn | apply zb1 | refine zbs ?_ GE388.out | refine zbs ?_ GE418.out) | exact HB.out))))
      have n7_ := Zz.mk (Kd.R_lower (Kd.R_new' ho3 (Kd.R_lt (by (with_reducible repeat (first | apply Kd.R_alloc | apply Kd.R_drewN | apply Kd.R_drew)); exact HO_419004.out))) (zsz (by repeat (first | (with_reducible first | exact HB.out | apply zba | apply zbn | apply zb1 | refine zbs ?_ GE388.out | refine zbs ?_ GE418.out) | exact HB.out))))
      have n8_ := Zz.mk (blk_below (g := gb388) (o := .cells #[.string a0_0, .slice A0_1 l0_1.length c0_1, .slice A0_2 l0_2.length c0_2, .slice A0_3 l0_3.length c0_3, .slice A0_4 l0_4.length c0_4] 27 (0, 0)) (by (with_reducible repeat (first | refine zdn ?_ _ | refine zdr ?_ | refine zda ?_ _)); exact BK388.out) hb)
      have n9_ := Zz.mk (blk_below (g := gb418) (o := .cells #[.string t405, .slice Ao27 t406.length co27, .slice Ao28 t409.length co28, .slice Ao29 t412.length co29, .slice Ao30 t415.length co30] 36 (0, 0)) (by (with_reducible repeat (first | refine zdn ?_ _ | refine zdr ?_ | refine zda ?_ _)); exact BK418.out) hb)
      have n10_ := Zz.mk (below_step (by repeat (first | (with_reducible first | exact HB.out | apply zba | apply zbn | apply zb1 | refine zbs ?_ GE388.out | refine zbs ?_ GE418.out) | exact HB.out)) hb)
      clear HO_419001
      clear HO_419002
      clear HO_419003
      clear HO_419004
      clear BK388
      clear BK418
      clear HB
      have HO_419001 := n0_
      have HO_419002 := n1_
      have HO_419003 := n2_
      have HO_419004 := n3_
      have HO424 := n4_
      have HO427 := n5_
      have HO430 := n6_
      have HO433 := n7_
      have BK388 := n8_
      have BK418 := n9_
      have HB := n10_
      clear n0_ n1_ n2_ n3_ n4_ n5_ n6_ n7_ n8_ n9_ n10_
      (try clear hb)
      (try clear hb2)
      (try clear hk)
      (try clear hi)
      (try clear ho0)
      (try clear ho1)
      (try clear ho2)
      (try clear ho3)
      obtain ⟨Ao39, co39, eo39⟩ := Kd.R_slice HO424.out
      (first | subst eo39 | (injection eo39 with f1_ f2_ f3_; have f4_ := f1_.symm; have f5_ := f3_.symm; clear f1_ f2_ f3_; subst f4_; subst f5_))
      obtain ⟨Ao40, co40, eo40⟩ := Kd.S_slice HO427.out
      (first | subst eo40 | (injection eo40 with f1_ f2_ f3_; have f4_ := f1_.symm; have f5_ := f3_.symm; clear f1_ f2_ f3_; subst f4_; subst f5_))
      obtain ⟨Ao41, co41, eo41⟩ := Kd.R_slice HO430.out
      (first | subst eo41 | (injection eo41 with f1_ f2_ f3_; have f4_ := f1_.symm; have f5_ := f3_.symm; clear f1_ f2_ f3_; subst f4_; subst f5_))
      obtain ⟨Ao42, co42, eo42⟩ := Kd.R_slice HO433.out
      (first | subst eo42 | (injection eo42 with f1_ f2_ f3_; have f4_ := f1_.symm; have f5_ := f3_.symm; clear f1_ f2_ f3_; subst f4_; subst f5_))
      refine hK.out _ _ ⟨(zbc BK418.out 0).trans rfl, (zbc BK418.out 1).trans rfl, (zbc BK418.out 2).trans rfl, (zbc BK418.out 3).trans rfl, (zbc BK418.out 4).trans rfl, (zbc BK388.out 0).trans rfl, (zbc BK388.out 1).trans rfl, (zbc BK388.out 2).trans rfl, (zbc BK388.out 3).trans rfl, (zbc BK388.out 4).trans rfl⟩ (fun hHeld => ?_)
      clear hK K
      refine norm_ (a' := ?_) ?_ ?_
      rotate_left
      ·show Act.put _ (some 37) _ = _
       simp only [Act.put, List.setIfInBounds_toArray, List.set_cons_zero, List.set_cons_succ, i64_w, i32_w]
       rfl
      refine one_ (i := 3) (N := some 38) #[true, true, true, true, false] rfl rfl (by kernel_rfl) (by decide) (fun K hK => ?_)
      refine goes_ Try.func9 (by kernel_rfl) rfl #[.agg #[.string t405, .slice Ao27 t406.length co27, .slice Ao28 t409.length co28, .slice Ao29 t412.length co29, .slice Ao30 t415.length co30], .agg #[.string t421, .slice Ao39 t422.length co39, .slice Ao40 t425.length co40, .slice Ao41 t428.length co41, .slice Ao42 t431.length co42]] (by rfl) rfl rfl (by (try simp only [List.map_toArray, List.map_cons, List.map_nil]); first | done | rfl | (simp only [List.length_drop, List.length_take]; rfl)) ?_
      with_reducible refine (laws_eqGrammar.calls kj10 t405 _ _ t406 _ _ t409 _ _ t412 _ _ t415 t421 _ _ t422 _ _ t425 _ _ t428 _ _ t431 true _ ?side1 ?side2 ?side3 ?side4 ?side5 ?side6 ?side7 ?side8 ?side9 ?side10 ?side11 ?side12 ?side13 ?side14 ?side15 ?side16 A35.out).mono ?_
      (case side1 => repeat (first | exact (Kd.R_reads' HO_419001.out).2.2 | (with_reducible refine Kd.C_alloc ?_ _) | (with_reducible refine Kd.C_drewN ?_ _) | (with_reducible refine Kd.C_drew ?_)))
      (case side2 => exact (Kd.R_reads' HO_419001.out).2.1)
      (case side3 => repeat (first | exact (Kd.S_reads' HO_419002.out).2.2 | (with_reducible refine Kd.C_alloc ?_ _) | (with_reducible refine Kd.C_drewN ?_ _) | (with_reducible refine Kd.C_drew ?_)))
      (case side4 => exact (Kd.S_reads' HO_419002.out).2.1)
      (case side5 => repeat (first | exact (Kd.R_reads' HO_419003.out).2.2 | (with_reducible refine Kd.C_alloc ?_ _) | (with_reducible refine Kd.C_drewN ?_ _) | (with_reducible refine Kd.C_drew ?_)))
      (case side6 => exact (Kd.R_reads' HO_419003.out).2.1)
      (case side7 => repeat (first | exact (Kd.R_reads' HO_419004.out).2.2 | (with_reducible refine Kd.C_alloc ?_ _) | (with_reducible refine Kd.C_drewN ?_ _) | (with_reducible refine Kd.C_drew ?_)))
      (case side8 => exact (Kd.R_reads' HO_419004.out).2.1)
      (case side9 => repeat (first | exact (Kd.R_reads' HO424.out).2.2 | (with_reducible refine Kd.C_alloc ?_ _) | (with_reducible refine Kd.C_drewN ?_ _) | (with_reducible refine Kd.C_drew ?_)))
      (case side10 => exact (Kd.R_reads' HO424.out).2.1)
      (case side11 => repeat (first | exact (Kd.S_reads' HO427.out).2.2 | (with_reducible refine Kd.C_alloc ?_ _) | (with_reducible refine Kd.C_drewN ?_ _) | (with_reducible refine Kd.C_drew ?_)))
      (case side12 => exact (Kd.S_reads' HO427.out).2.1)
      (case side13 => repeat (first | exact (Kd.R_reads' HO430.out).2.2 | (with_reducible refine Kd.C_alloc ?_ _) | (with_reducible refine Kd.C_drewN ?_ _) | (with_reducible refine Kd.C_drew ?_)))
      (case side14 => exact (Kd.R_reads' HO430.out).2.1)
      (case side15 => repeat (first | exact (Kd.R_reads' HO433.out).2.2 | (with_reducible refine Kd.C_alloc ?_ _) | (with_reducible refine Kd.C_drewN ?_ _) | (with_reducible refine Kd.C_drew ?_)))
      (case side16 => exact (Kd.R_reads' HO433.out).2.1)
      rintro e w43 ⟨rfl, hb⟩
      refine ⟨_, rfl, ?_⟩
      have n0_ := Zz.mk (Kd.R_below (by (with_reducible repeat (first | apply Kd.R_alloc | apply Kd.R_drewN | apply Kd.R_drew)); exact HO_419001.out) hb)
      have n1_ := Zz.mk (Kd.S_below (by (with_reducible repeat (first | apply Kd.S_alloc | apply Kd.S_drewN | apply Kd.S_drew)); exact HO_419002.out) hb)
      have n2_ := Zz.mk (Kd.R_below (by (with_reducible repeat (first | apply Kd.R_alloc | apply Kd.R_drewN | apply Kd.R_drew)); exact HO_419003.out) hb)
      have n3_ := Zz.mk (Kd.R_below (by (with_reducible repeat (first | apply Kd.R_alloc | apply Kd.R_drewN | apply Kd.R_drew)); exact HO_419004.out) hb)
      have n4_ := Zz.mk (Kd.R_below (by (with_reducible repeat (first | apply Kd.R_alloc | apply Kd.R_drewN | apply Kd.R_drew)); exact HO424.out) hb)
      have n5_ := Zz.mk (Kd.S_below (by (with_reducible repeat (first | apply Kd.S_alloc | apply Kd.S_drewN | apply Kd.S_drew)); exact HO427.out) hb)
      have n6_ := Zz.mk (Kd.R_below (by (with_reducible repeat (first | apply Kd.R_alloc | apply Kd.R_drewN | apply Kd.R_drew)); exact HO430.out) hb)
      have n7_ := Zz.mk (Kd.R_below (by (with_reducible repeat (first | apply Kd.R_alloc | apply Kd.R_drewN | apply Kd.R_drew)); exact HO433.out) hb)
      have n8_ := Zz.mk (blk_below (g := gb388) (o := .cells #[.string a0_0, .slice A0_1 l0_1.length c0_1, .slice A0_2 l0_2.length c0_2, .slice A0_3 l0_3.length c0_3, .slice A0_4 l0_4.length c0_4] 27 (0, 0)) (by (with_reducible repeat (first | refine zdn ?_ _ | refine zdr ?_ | refine zda ?_ _)); exact BK388.out) hb)
      have n9_ := Zz.mk (blk_below (g := gb418) (o := .cells #[.string t405, .slice Ao27 t406.length co27, .slice Ao28 t409.length co28, .slice Ao29 t412.length co29, .slice Ao30 t415.length co30] 36 (0, 0)) (by (with_reducible repeat (first | refine zdn ?_ _ | refine zdr ?_ | refine zda ?_ _)); exact BK418.out) hb)
      have n10_ := Zz.mk (below_step (by repeat (first | (with_reducible first | exact HB.out | apply zba | apply zbn | apply zb1 | refine zbs ?_ GE388.out | refine zbs ?_ GE418.out) | exact HB.out)) hb)
      clear HO_419001
      clear HO_419002
      clear HO_419003
      clear HO_419004
      clear HO424
      clear HO427
      clear HO430
      clear HO433
      clear BK388
      clear BK418
      clear HB
      have HO_419001 := n0_
      have HO_419002 := n1_
      have HO_419003 := n2_
      have HO_419004 := n3_
      have HO424 := n4_
      have HO427 := n5_
      have HO430 := n6_
      have HO433 := n7_
      have BK388 := n8_
      have BK418 := n9_
      have HB := n10_
      clear n0_ n1_ n2_ n3_ n4_ n5_ n6_ n7_ n8_ n9_ n10_
      (try clear hb)
      (try clear hb2)
      (try clear hk)
      (try clear hi)
      refine hK.out _ _ ⟨(zbc BK418.out 0).trans rfl, (zbc BK418.out 1).trans rfl, (zbc BK418.out 2).trans rfl, (zbc BK418.out 3).trans rfl, (zbc BK418.out 4).trans rfl, (zbc BK388.out 0).trans rfl, (zbc BK388.out 1).trans rfl, (zbc BK388.out 2).trans rfl, (zbc BK388.out 3).trans rfl, (zbc BK388.out 4).trans rfl⟩ (fun hHeld => ?_)
      clear hK K
      refine norm_ (a' := ?_) ?_ ?_
      rotate_left
      ·show Act.put _ (some 38) _ = _
       simp only [Act.put, List.setIfInBounds_toArray, List.set_cons_zero, List.set_cons_succ, i64_w, i32_w]
       rfl
      refine pure_ (i := 4) (N := some 39) (v := ?_) (a' := ?_) #[true, true, true, true, true] rfl rfl (by kernel_rfl) (fun _ _ _ h => h) (Or.inl ⟨by rfl, ?_⟩) ?_ ?_
      rotate_left
      ·intro w'
       go_simp
       with_reducible rfl
      rotate_left
      ·simp only [Act.put, List.setIfInBounds_toArray, List.set_cons_zero, List.set_cons_succ, i64_w, i32_w]
       rfl
      refine done_ (by kernel_rfl) ?_
      try go_wp2
      go_ret
      exact ⟨by first | rfl | (simp [errW_none, errW_some] <;> rfl) | (simp [*, errW_none, errW_some] <;> rfl), by repeat (first | (with_reducible first | exact HB.out | apply zba | apply zbn | apply zb1 | refine zbs ?_ GE388.out | refine zbs ?_ GE418.out) | exact HB.out)⟩
     ·replace c36 := Bool.eq_false_iff.mpr c36
      subst c36
      have H1 : (some false) = some r := by rw [if_neg (show ¬ (false = true) by decide)] at H; exact H
      clear H
      have H := H1
      clear H1
      obtain rfl := Option.some.inj H
      try go_wp2
      have n0_ := Zz.mk (Kd.R_drew HO_419001.out)
      have n1_ := Zz.mk (Kd.S_drew HO_419002.out)
      have n2_ := Zz.mk (Kd.R_drew HO_419003.out)
      have n3_ := Zz.mk (Kd.R_drew HO_419004.out)
      have n4_ := Zz.mk (zdr BK388.out)
      have n5_ := Zz.mk (zdr BK418.out)
      have n6_ := Zz.mk (zb1 HB.out)
      clear HO_419001
      clear HO_419002
      clear HO_419003
      clear HO_419004
      clear BK388
      clear BK418
      clear HB
      have HO_419001 := n0_
      have HO_419002 := n1_
      have HO_419003 := n2_
      have HO_419004 := n3_
      have BK388 := n4_
      have BK418 := n5_
      have HB := n6_
      clear n0_ n1_ n2_ n3_ n4_ n5_ n6_
      refine start_ (n := 5) (S := fun w' => w'.cell? ⟨gb418, 0, none⟩ = some (.string t405) ∧ w'.cell? ⟨gb418, 1, none⟩ = some (.slice Ao27 t406.length co27) ∧ w'.cell? ⟨gb418, 2, none⟩ = some (.slice Ao28 t409.length co28) ∧ w'.cell? ⟨gb418, 3, none⟩ = some (.slice Ao29 t412.length co29) ∧ w'.cell? ⟨gb418, 4, none⟩ = some (.slice Ao30 t415.length co30) ∧ w'.cell? ⟨gb388, 0, none⟩ = some (.string a0_0) ∧ w'.cell? ⟨gb388, 1, none⟩ = some (.slice A0_1 l0_1.length c0_1) ∧ w'.cell? ⟨gb388, 2, none⟩ = some (.slice A0_2 l0_2.length c0_2) ∧ w'.cell? ⟨gb388, 3, none⟩ = some (.slice A0_3 l0_3.length c0_3) ∧ w'.cell? ⟨gb388, 4, none⟩ = some (.slice A0_4 l0_4.length c0_4)) (ds := []) #[false, false, false, false, false] (by kernel_rfl) rfl rfl ⟨(zbc BK418.out 0).trans rfl, (zbc BK418.out 1).trans rfl, (zbc BK418.out 2).trans rfl, (zbc BK418.out 3).trans rfl, (zbc BK418.out 4).trans rfl, (zbc BK388.out 0).trans rfl, (zbc BK388.out 1).trans rfl, (zbc BK388.out 2).trans rfl, (zbc BK388.out 3).trans rfl, (zbc BK388.out 4).trans rfl⟩ (fun hHeld => ?_)
      generalize wc.drew = w44 at HO_419001 HO_419002 HO_419003 HO_419004 BK388 BK418 HB hHeld ⊢
      refine take_ (i := 0) (N := some 35) (v := ?_) (a' := ?_) #[true, false, false, false, false] rfl rfl (by kernel_rfl) (fun _ _ _ h => h) (Or.inl ⟨by rfl, ?_⟩) hHeld ?_ ?_
      rotate_left
      ·rintro w' ⟨s0, s1, s2, s3, s4, s5, s6, s7, s8, s9⟩
       go_simp
       with_reducible rfl
      rotate_left
      ·simp only [Act.put, List.setIfInBounds_toArray, List.set_cons_zero, List.set_cons_succ, i64_w, i32_w]
       rfl
      refine take_ (i := 1) (N := some 36) (v := ?_) (a' := ?_) #[true, true, false, false, false] rfl rfl (by kernel_rfl) (fun _ _ _ h => h) (Or.inl ⟨by rfl, ?_⟩) hHeld ?_ ?_
      rotate_left
      ·rintro w' ⟨s0, s1, s2, s3, s4, s5, s6, s7, s8, s9⟩
       go_simp
       with_reducible rfl
      rotate_left
      ·simp only [Act.put, List.setIfInBounds_toArray, List.set_cons_zero, List.set_cons_succ, i64_w, i32_w]
       rfl
      refine one_ (i := 2) (N := some 37) #[true, true, true, false, false] rfl rfl (by kernel_rfl) (by decide) (fun K hK => ?_)
      refine goes_ Try.func7 (by kernel_rfl) rfl #[.agg #[.string a0_0, .slice A0_1 l0_1.length c0_1, .slice A0_2 l0_2.length c0_2, .slice A0_3 l0_3.length c0_3, .slice A0_4 l0_4.length c0_4]] (by rfl) rfl rfl (by (try simp only [List.map_toArray, List.map_cons, List.map_nil]); first | done | rfl | (simp only [List.length_drop, List.length_take]; rfl)) ?_
      with_reducible refine (laws_toGrammar.calls kj10 a0_0 _ _ l0_1 _ _ l0_2 _ _ l0_3 _ _ l0_4 t421 t422 t425 t428 t431 _ ?side1 ?side2 ?side3 ?side4 ?side5 ?side6 ?side7 ?side8 A34.out).mono ?_
      (case side1 => repeat (first | exact (Kd.C_below HR0_1.out HB.out) | (with_reducible refine Kd.C_alloc ?_ _) | (with_reducible refine Kd.C_drewN ?_ _) | (with_reducible refine Kd.C_drew ?_)))
      (case side2 => exact HC0_1.out)
      (case side3 => repeat (first | exact (Kd.C_below HR0_2.out HB.out) | (with_reducible refine Kd.C_alloc ?_ _) | (with_reducible refine Kd.C_drewN ?_ _) | (with_reducible refine Kd.C_drew ?_)))
      (case side4 => exact HC0_2.out)
      (case side5 => repeat (first | exact (Kd.C_below HR0_3.out HB.out) | (with_reducible refine Kd.C_alloc ?_ _) | (with_reducible refine Kd.C_drewN ?_ _) | (with_reducible refine Kd.C_drew ?_)))
      (case side6 => exact HC0_3.out)
      (case side7 => repeat (first | exact (Kd.C_below HR0_4.out HB.out) | (with_reducible refine Kd.C_alloc ?_ _) | (with_reducible refine Kd.C_drewN ?_ _) | (with_reducible refine Kd.C_drew ?_)))
      (case side8 => exact HC0_4.out)
      rintro e w45 ⟨v423, v426, v429, v432, rfl, ho0, ho1, ho2, ho3, hb⟩
      refine ⟨_, rfl, ?_⟩
      have n0_ := Zz.mk (Kd.R_elder' (by (with_reducible repeat (first | apply Kd.R_alloc | apply Kd.R_drewN | apply Kd.R_drew)); exact HO_419001.out) (Kd.R_base ho0) hb)
      have n1_ := Zz.mk (Kd.S_elder' (by (with_reducible repeat (first | apply Kd.S_alloc | apply Kd.S_drewN | apply Kd.S_drew)); exact HO_419002.out) (Kd.S_base ho1) hb)
      have n2_ := Zz.mk (Kd.R_elder' (by (with_reducible repeat (first | apply Kd.R_alloc | apply Kd.R_drewN | apply Kd.R_drew)); exact HO_419003.out) (Kd.R_base ho2) hb)
      have n3_ := Zz.mk (Kd.R_elder' (by (with_reducible repeat (first | apply Kd.R_alloc | apply Kd.R_drewN | apply Kd.R_drew)); exact HO_419004.out) (Kd.R_base ho3) hb)
      have n4_ := Zz.mk (Kd.R_lower (Kd.R_new' ho0 (Kd.R_lt (by (with_reducible repeat (first | apply Kd.R_alloc | apply Kd.R_drewN | apply Kd.R_drew)); exact HO_419001.out))) (zsz (by repeat (first | (with_reducible first | exact HB.out | apply zba | apply zbn | apply zb1 | refine zbs ?_ GE388.out | refine zbs ?_ GE418.out) | exact HB.out))))
      have n5_ := Zz.mk (Kd.S_lower (Kd.S_new' ho1 (Kd.S_lt (by (with_reducible repeat (first | apply Kd.S_alloc | apply Kd.S_drewN | apply Kd.S_drew)); exact HO_419002.out))) (zsz (by repeat (first | (with_reducible first | exact HB.out | apply zba | apply zbn | apply zb1 | refine zbs ?_ GE388.out | refine zbs ?_ GE418.out) | exact HB.out))))
      have n6_ := Zz.mk (Kd.R_lower (Kd.R_new' ho2 (Kd.R_lt (by (with_reducible repeat (first | apply Kd.R_alloc | apply Kd.R_drewN | apply Kd.R_drew)); exact HO_419003.out))) (zsz (by repeat (first | (with_reducible first | exact HB.out | apply zba | apply zbn | apply zb1 | refine zbs ?_ GE388.out | refine zbs ?_ GE418.out) | exact HB.out))))
      have n7_ := Zz.mk (Kd.R_lower (Kd.R_new' ho3 (Kd.R_lt (by (with_reducible repeat (first | apply Kd.R_alloc | apply Kd.R_drewN | apply Kd.R_drew)); exact HO_419004.out))) (zsz (by repeat (first | (with_reducible first | exact HB.out | apply zba | apply zbn | apply zb1 | refine zbs ?_ GE388.out | refine zbs ?_ GE418.out) | exact HB.out))))
      have n8_ := Zz.mk (blk_below (g := gb388) (o := .cells #[.string a0_0, .slice A0_1 l0_1.length c0_1, .slice A0_2 l0_2.length c0_2, .slice A0_3 l0_3.length c0_3, .slice A0_4 l0_4.length c0_4] 27 (0, 0)) (by (with_reducible repeat (first | refine zdn ?_ _ | refine zdr ?_ | refine zda ?_ _)); exact BK388.out) hb)
      have n9_ := Zz.mk (blk_below (g := gb418) (o := .cells #[.string t405, .slice Ao27 t406.length co27, .slice Ao28 t409.length co28, .slice Ao29 t412.length co29, .slice Ao30 t415.length co30] 36 (0, 0)) (by (with_reducible repeat (first | refine zdn ?_ _ | refine zdr ?_ | refine zda ?_ _)); exact BK418.out) hb)
      have n10_ := Zz.mk (below_step (by repeat (first | (with_reducible first | exact HB.out | apply zba | apply zbn | apply zb1 | refine zbs ?_ GE388.out | refine zbs ?_ GE418.out) | exact HB.out)) hb)
      clear HO_419001
      clear HO_419002
      clear HO_419003
      clear HO_419004
      clear BK388
      clear BK418
      clear HB
      have HO_419001 := n0_
      have HO_419002 := n1_
      have HO_419003 := n2_
      have HO_419004 := n3_
      have HO424 := n4_
      have HO427 := n5_
      have HO430 := n6_
      have HO433 := n7_
      have BK388 := n8_
      have BK418 := n9_
      have HB := n10_
      clear n0_ n1_ n2_ n3_ n4_ n5_ n6_ n7_ n8_ n9_ n10_
      (try clear hb)
      (try clear hb2)
      (try clear hk)
      (try clear hi)
      (try clear ho0)
      (try clear ho1)
      (try clear ho2)
      (try clear ho3)
      obtain ⟨Ao46, co46, eo46⟩ := Kd.R_slice HO424.out
      (first | subst eo46 | (injection eo46 with f1_ f2_ f3_; have f4_ := f1_.symm; have f5_ := f3_.symm; clear f1_ f2_ f3_; subst f4_; subst f5_))
      obtain ⟨Ao47, co47, eo47⟩ := Kd.S_slice HO427.out
      (first | subst eo47 | (injection eo47 with f1_ f2_ f3_; have f4_ := f1_.symm; have f5_ := f3_.symm; clear f1_ f2_ f3_; subst f4_; subst f5_))
      obtain ⟨Ao48, co48, eo48⟩ := Kd.R_slice HO430.out
      (first | subst eo48 | (injection eo48 with f1_ f2_ f3_; have f4_ := f1_.symm; have f5_ := f3_.symm; clear f1_ f2_ f3_; subst f4_; subst f5_))
      obtain ⟨Ao49, co49, eo49⟩ := Kd.R_slice HO433.out
      (first | subst eo49 | (injection eo49 with f1_ f2_ f3_; have f4_ := f1_.symm; have f5_ := f3_.symm; clear f1_ f2_ f3_; subst f4_; subst f5_))
      refine hK.out _ _ ⟨(zbc BK418.out 0).trans rfl, (zbc BK418.out 1).trans rfl, (zbc BK418.out 2).trans rfl, (zbc BK418.out 3).trans rfl, (zbc BK418.out 4).trans rfl, (zbc BK388.out 0).trans rfl, (zbc BK388.out 1).trans rfl, (zbc BK388.out 2).trans rfl, (zbc BK388.out 3).trans rfl, (zbc BK388.out 4).trans rfl⟩ (fun hHeld => ?_)
      clear hK K
      refine norm_ (a' := ?_) ?_ ?_
      rotate_left
      ·show Act.put _ (some 37) _ = _
       simp only [Act.put, List.setIfInBounds_toArray, List.set_cons_zero, List.set_cons_succ, i64_w, i32_w]
       rfl
      refine one_ (i := 3) (N := some 38) #[true, true, true, true, false] rfl rfl (by kernel_rfl) (by decide) (fun K hK => ?_)
      refine goes_ Try.func9 (by kernel_rfl) rfl #[.agg #[.string t405, .slice Ao27 t406.length co27, .slice Ao28 t409.length co28, .slice Ao29 t412.length co29, .slice Ao30 t415.length co30], .agg #[.string t421, .slice Ao46 t422.length co46, .slice Ao47 t425.length co47, .slice Ao48 t428.length co48, .slice Ao49 t431.length co49]] (by rfl) rfl rfl (by (try simp only [List.map_toArray, List.map_cons, List.map_nil]); first | done | rfl | (simp only [List.length_drop, List.length_take]; rfl)) ?_
      with_reducible refine (laws_eqGrammar.calls kj10 t405 _ _ t406 _ _ t409 _ _ t412 _ _ t415 t421 _ _ t422 _ _ t425 _ _ t428 _ _ t431 false _ ?side1 ?side2 ?side3 ?side4 ?side5 ?side6 ?side7 ?side8 ?side9 ?side10 ?side11 ?side12 ?side13 ?side14 ?side15 ?side16 A35.out).mono ?_
      (case side1 => repeat (first | exact (Kd.R_reads' HO_419001.out).2.2 | (with_reducible refine Kd.C_alloc ?_ _) | (with_reducible refine Kd.C_drewN ?_ _) | (with_reducible refine Kd.C_drew ?_)))
      (case side2 => exact (Kd.R_reads' HO_419001.out).2.1)
      (case side3 => repeat (first | exact (Kd.S_reads' HO_419002.out).2.2 | (with_reducible refine Kd.C_alloc ?_ _) | (with_reducible refine Kd.C_drewN ?_ _) | (with_reducible refine Kd.C_drew ?_)))
      (case side4 => exact (Kd.S_reads' HO_419002.out).2.1)
      (case side5 => repeat (first | exact (Kd.R_reads' HO_419003.out).2.2 | (with_reducible refine Kd.C_alloc ?_ _) | (with_reducible refine Kd.C_drewN ?_ _) | (with_reducible refine Kd.C_drew ?_)))
      (case side6 => exact (Kd.R_reads' HO_419003.out).2.1)
      (case side7 => repeat (first | exact (Kd.R_reads' HO_419004.out).2.2 | (with_reducible refine Kd.C_alloc ?_ _) | (with_reducible refine Kd.C_drewN ?_ _) | (with_reducible refine Kd.C_drew ?_)))
      (case side8 => exact (Kd.R_reads' HO_419004.out).2.1)
      (case side9 => repeat (first | exact (Kd.R_reads' HO424.out).2.2 | (with_reducible refine Kd.C_alloc ?_ _) | (with_reducible refine Kd.C_drewN ?_ _) | (with_reducible refine Kd.C_drew ?_)))
      (case side10 => exact (Kd.R_reads' HO424.out).2.1)
      (case side11 => repeat (first | exact (Kd.S_reads' HO427.out).2.2 | (with_reducible refine Kd.C_alloc ?_ _) | (with_reducible refine Kd.C_drewN ?_ _) | (with_reducible refine Kd.C_drew ?_)))
      (case side12 => exact (Kd.S_reads' HO427.out).2.1)
      (case side13 => repeat (first | exact (Kd.R_reads' HO430.out).2.2 | (with_reducible refine Kd.C_alloc ?_ _) | (with_reducible refine Kd.C_drewN ?_ _) | (with_reducible refine Kd.C_drew ?_)))
      (case side14 => exact (Kd.R_reads' HO430.out).2.1)
      (case side15 => repeat (first | exact (Kd.R_reads' HO433.out).2.2 | (with_reducible refine Kd.C_alloc ?_ _) | (with_reducible refine Kd.C_drewN ?_ _) | (with_reducible refine Kd.C_drew ?_)))
      (case side16 => exact (Kd.R_reads' HO433.out).2.1)
      rintro e w50 ⟨rfl, hb⟩
      refine ⟨_, rfl, ?_⟩
      have n0_ := Zz.mk (Kd.R_below (by (with_reducible repeat (first | apply Kd.R_alloc | apply Kd.R_drewN | apply Kd.R_drew)); exact HO_419001.out) hb)
      have n1_ := Zz.mk (Kd.S_below (by (with_reducible repeat (first | apply Kd.S_alloc | apply Kd.S_drewN | apply Kd.S_drew)); exact HO_419002.out) hb)
      have n2_ := Zz.mk (Kd.R_below (by (with_reducible repeat (first | apply Kd.R_alloc | apply Kd.R_drewN | apply Kd.R_drew)); exact HO_419003.out) hb)
      have n3_ := Zz.mk (Kd.R_below (by (with_reducible repeat (first | apply Kd.R_alloc | apply Kd.R_drewN | apply Kd.R_drew)); exact HO_419004.out) hb)
      have n4_ := Zz.mk (Kd.R_below (by (with_reducible repeat (first | apply Kd.R_alloc | apply Kd.R_drewN | apply Kd.R_drew)); exact HO424.out) hb)
      have n5_ := Zz.mk (Kd.S_below (by (with_reducible repeat (first | apply Kd.S_alloc | apply Kd.S_drewN | apply Kd.S_drew)); exact HO427.out) hb)
      have n6_ := Zz.mk (Kd.R_below (by (with_reducible repeat (first | apply Kd.R_alloc | apply Kd.R_drewN | apply Kd.R_drew)); exact HO430.out) hb)
      have n7_ := Zz.mk (Kd.R_below (by (with_reducible repeat (first | apply Kd.R_alloc | apply Kd.R_drewN | apply Kd.R_drew)); exact HO433.out) hb)
      have n8_ := Zz.mk (blk_below (g := gb388) (o := .cells #[.string a0_0, .slice A0_1 l0_1.length c0_1, .slice A0_2 l0_2.length c0_2, .slice A0_3 l0_3.length c0_3, .slice A0_4 l0_4.length c0_4] 27 (0, 0)) (by (with_reducible repeat (first | refine zdn ?_ _ | refine zdr ?_ | refine zda ?_ _)); exact BK388.out) hb)
      have n9_ := Zz.mk (blk_below (g := gb418) (o := .cells #[.string t405, .slice Ao27 t406.length co27, .slice Ao28 t409.length co28, .slice Ao29 t412.length co29, .slice Ao30 t415.length co30] 36 (0, 0)) (by (with_reducible repeat (first | refine zdn ?_ _ | refine zdr ?_ | refine zda ?_ _)); exact BK418.out) hb)
      have n10_ := Zz.mk (below_step (by repeat (first | (with_reducible first | exact HB.out | apply zba | apply zbn | apply zb1 | refine zbs ?_ GE388.out | refine zbs ?_ GE418.out) | exact HB.out)) hb)
      clear HO_419001
      clear HO_419002
      clear HO_419003
      clear HO_419004
      clear HO424
      clear HO427
      clear HO430
      clear HO433
      clear BK388
      clear BK418
      clear HB
      have HO_419001 := n0_
      have HO_419002 := n1_
      have HO_419003 := n2_
      have HO_419004 := n3_
      have HO424 := n4_
      have HO427 := n5_
      have HO430 := n6_
      have HO433 := n7_
      have BK388 := n8_
      have BK418 := n9_
      have HB := n10_
      clear n0_ n1_ n2_ n3_ n4_ n5_ n6_ n7_ n8_ n9_ n10_
      (try clear hb)
      (try clear hb2)
      (try clear hk)
      (try clear hi)
      refine hK.out _ _ ⟨(zbc BK418.out 0).trans rfl, (zbc BK418.out 1).trans rfl, (zbc BK418.out 2).trans rfl, (zbc BK418.out 3).trans rfl, (zbc BK418.out 4).trans rfl, (zbc BK388.out 0).trans rfl, (zbc BK388.out 1).trans rfl, (zbc BK388.out 2).trans rfl, (zbc BK388.out 3).trans rfl, (zbc BK388.out 4).trans rfl⟩ (fun hHeld => ?_)
      clear hK K
      refine norm_ (a' := ?_) ?_ ?_
      rotate_left
      ·show Act.put _ (some 38) _ = _
       simp only [Act.put, List.setIfInBounds_toArray, List.set_cons_zero, List.set_cons_succ, i64_w, i32_w]
       rfl
      refine pure_ (i := 4) (N := some 39) (v := ?_) (a' := ?_) #[true, true, true, true, true] rfl rfl (by kernel_rfl) (fun _ _ _ h => h) (Or.inl ⟨by rfl, ?_⟩) ?_ ?_
      rotate_left
      ·intro w'
       go_simp
       with_reducible rfl
      rotate_left
      ·simp only [Act.put, List.setIfInBounds_toArray, List.set_cons_zero, List.set_cons_succ, i64_w, i32_w]
       rfl
      refine done_ (by kernel_rfl) ?_
      try go_wp2
      go_ret
      exact ⟨by first | rfl | (simp [errW_none, errW_some] <;> rfl) | (simp [*, errW_none, errW_some] <;> rfl), by repeat (first | (with_reducible first | exact HB.out | apply zba | apply zbn | apply zb1 | refine zbs ?_ GE388.out | refine zbs ?_ GE418.out) | exact HB.out)⟩
end Go.Proofs.Ythcmamcbnjphgaa.PFnExactGrammarShow
namespace Go.Proofs.Ythcmamcbnjphgaa.PFnExactGrammarShow
open Go.RowKit Go.Proofs.YthcmamcbnjphgaaW.PrintWords Go.Proofs.YthcmamcbnjphgaaW.PrintLast Go.Proofs.YthcmamcbnjphgaaW.PrintMore
section
variable (nm : ByteArray) (toks : List S51) (levs : List S54) (rules : List S59) (parts : List S119)
theorem spec_l1 (TOT : List UInt8) (hT : TOT.length ≤ 1099511627776) (hl : levs.length ≤ 1048576) (hr : rules.length ≤ 1048576) (hlev : ∀ l ∈ levs, 1 ≤ l.f0 ∧ l.f0 ≤ 3) (hf : ∀ r ∈ rules, ∀ a ∈ r.f1, ∀ q ∈ a.f0, Fine parts parts.length q) :
  ∀ (d i : Nat) (x4 : ByteArray), levs.length - i = d → Left TOT x4.data.toList ((levs.drop i).map levW ++ rules.map (ruleWs parts)) → Ev (fun k => spec_GrammarShow.l1 k x4 (i : Int) nm toks levs rules parts) (resOf TOT) := by
 intro d
 induction d with
 | zero =>
  intro i x4 hd hL
  rw [List.drop_of_length_le (by omega)] at hL
  refine Ev.step (f := fun k => spec_GrammarShow.l3 k x4 0 nm toks levs rules parts) (fun k => by rw [spec_GrammarShow.l1, if_neg (by omega)]) ?_
  exact spec_l3 nm toks levs rules parts TOT hT hr hf rules.length 0 x4 rfl hL
 | succ d ih =>
  intro i x4 hd hL
  have hi : i < levs.length := by omega
  have hel : rd_T54 levs (i : Int) = levs[i] := by simp [rd_T54, List.getD_eq_getElem?_getD, List.getElem?_eq_getElem hi]
  rw [List.drop_eq_getElem_cons hi, List.map_cons, List.cons_append] at hL
  have hlen := hL.len
  have hc := cost_line (l := levW levs[i]) (by simp [levW])
  have hx4 := size_toList x4
  have ha := hlev levs[i] (List.getElem_mem hi)
  have hw : rdOf ByteArray.empty [(⟨#[]⟩ : ByteArray), (⟨#[108, 101, 102, 116]⟩ : ByteArray), (⟨#[114, 105, 103, 104, 116]⟩ : ByteArray), (⟨#[110, 111, 110, 101]⟩ : ByteArray)] levs[i].f0 = assocB levs[i].f0 := by
   have : levs[i].f0 = 1 ∨ levs[i].f0 = 2 ∨ levs[i].f0 = 3 := by omega
   rcases this with h | h | h <;> rw [h] <;> rfl
  refine Ev.step (f := fun k => spec_GrammarShow.l2 k x4 (i : Int) (assocB (rd_T54 levs i).f0 :: ((rd_T54 levs i).f1.take 0).map quoB) ((0 : Nat) : Int) nm toks levs rules parts) (fun k => ?_) ?_
  ·rw [spec_GrammarShow.l1, if_pos (by omega), Option.bind_some, if_pos (by omega), hel, if_pos (by omega), if_pos (by show _ < (4 : Int); omega), hw]
   rfl
  ·refine spec_l2 nm toks levs rules parts i hi x4 (resOf TOT) (by rw [hel]; omega) (by omega) hl ?_ _ 0 rfl (by omega)
   rw [hel]
   refine ih (i + 1) _ (by omega) ?_
   have h := hL.next
   rw [show ((x4 ++ jn (levW levs[i])) ++ (⟨#[59, 10]⟩ : ByteArray)).data.toList = x4.data.toList ++ lineL (levW levs[i]) by rw [ba_append, ba_append, jn_toList, List.append_assoc]; rfl]
   exact h
theorem tok_line (t : S51) : lineL (tokW t) = (kindW t.f2).data.toList ++ (32 :: (t.f0.data.toList ++ (32 :: 126 :: (t.f1.data.toList ++ [126, 59, 10])))) := by
 simp only [lineL, tokW, jnL, jtL, List.map_cons, List.map_nil, List.flatten_cons, List.flatten_nil, ba_append]
 simp
theorem spec_l0 (TOT : List UInt8) (hT : TOT.length ≤ 1099511627776) (ht : toks.length ≤ 1048576) (hl : levs.length ≤ 1048576) (hr : rules.length ≤ 1048576) (hlev : ∀ l ∈ levs, 1 ≤ l.f0 ∧ l.f0 ≤ 3) (hf : ∀ r ∈ rules, ∀ a ∈ r.f1, ∀ q ∈ a.f0, Fine parts parts.length q) :
  ∀ (d i : Nat) (x4 : ByteArray), toks.length - i = d → Left TOT x4.data.toList ((toks.drop i).map tokW ++ (levs.map levW ++ rules.map (ruleWs parts))) → Ev (fun k => spec_GrammarShow.l0 k x4 (i : Int) nm toks levs rules parts) (resOf TOT) := by
 intro d
 induction d with
 | zero =>
  intro i x4 hd hL
  rw [List.drop_of_length_le (by omega)] at hL
  refine Ev.step (f := fun k => spec_GrammarShow.l1 k x4 0 nm toks levs rules parts) (fun k => by rw [spec_GrammarShow.l0, if_neg (by omega)]) ?_
  exact spec_l1 nm toks levs rules parts TOT hT hl hr hlev hf levs.length 0 x4 rfl hL
 | succ d ih =>
  intro i x4 hd hL
  have hi : i < toks.length := by omega
  have hel : rd_T51 toks (i : Int) = toks[i] := by simp [rd_T51, List.getD_eq_getElem?_getD, List.getElem?_eq_getElem hi]
  rw [List.drop_eq_getElem_cons hi, List.map_cons, List.cons_append] at hL
  have hlen := hL.len
  have h := hL.next
  rw [tok_line] at hlen h
  generalize toks[i] = t at hel hlen h
  obtain ⟨t0, t1, t2⟩ := t
  simp only at hlen h
  have hx4 := size_toList x4
  have h0 := size_toList t0
  have h1 := size_toList t1
  simp only [List.length_append, List.length_cons, List.length_nil] at hlen
  cases t2 with
  | true =>
   refine Ev.step (f := fun k => spec_GrammarShow.l0 k (((((x4 ++ (⟨#[115, 107, 105, 112, 32]⟩ : ByteArray)) ++ t0) ++ (⟨#[32, 126]⟩ : ByteArray)) ++ t1) ++ (⟨#[126, 59, 10]⟩ : ByteArray)) ((i + 1 : Nat) : Int) nm toks levs rules parts) (fun k => ?_) (ih (i + 1) _ (by omega) ?_)
   ·have a1 : (x4 ++ (⟨#[115, 107, 105, 112, 32]⟩ : ByteArray)).size = x4.size + 5 := by rw [ByteArray.size_append]; rfl
    have a2 : ((x4 ++ (⟨#[115, 107, 105, 112, 32]⟩ : ByteArray)) ++ t0).size = x4.size + 5 + t0.size := by rw [ByteArray.size_append, a1]
    have a3 : (((x4 ++ (⟨#[115, 107, 105, 112, 32]⟩ : ByteArray)) ++ t0) ++ (⟨#[32, 126]⟩ : ByteArray)).size = x4.size + 5 + t0.size + 2 := by rw [ByteArray.size_append, a2]; rfl
    have a4 : ((((x4 ++ (⟨#[115, 107, 105, 112, 32]⟩ : ByteArray)) ++ t0) ++ (⟨#[32, 126]⟩ : ByteArray)) ++ t1).size = x4.size + 5 + t0.size + 2 + t1.size := by rw [ByteArray.size_append, a3]
    rw [spec_GrammarShow.l0, if_pos (by omega), if_pos (by omega), hel]
    simp only
    rw [if_pos trivial, if_pos (by omega), if_pos (by omega), if_pos (by omega), if_pos (by omega), if_pos (by omega), wrap_in (by omega) (by omega)]
    rfl
   ·refine Eq.mp ?_ h
    congr 1
    simp only [ba_append]
    simp [kindW]
  | false =>
   refine Ev.step (f := fun k => spec_GrammarShow.l0 k (((((x4 ++ (⟨#[116, 111, 107, 101, 110, 32]⟩ : ByteArray)) ++ t0) ++ (⟨#[32, 126]⟩ : ByteArray)) ++ t1) ++ (⟨#[126, 59, 10]⟩ : ByteArray)) ((i + 1 : Nat) : Int) nm toks levs rules parts) (fun k => ?_) (ih (i + 1) _ (by omega) ?_)
   ·have a1 : (x4 ++ (⟨#[116, 111, 107, 101, 110, 32]⟩ : ByteArray)).size = x4.size + 6 := by rw [ByteArray.size_append]; rfl
    have a2 : ((x4 ++ (⟨#[116, 111, 107, 101, 110, 32]⟩ : ByteArray)) ++ t0).size = x4.size + 6 + t0.size := by rw [ByteArray.size_append, a1]
    have a3 : (((x4 ++ (⟨#[116, 111, 107, 101, 110, 32]⟩ : ByteArray)) ++ t0) ++ (⟨#[32, 126]⟩ : ByteArray)).size = x4.size + 6 + t0.size + 2 := by rw [ByteArray.size_append, a2]; rfl
    have a4 : ((((x4 ++ (⟨#[116, 111, 107, 101, 110, 32]⟩ : ByteArray)) ++ t0) ++ (⟨#[32, 126]⟩ : ByteArray)) ++ t1).size = x4.size + 6 + t0.size + 2 + t1.size := by rw [ByteArray.size_append, a3]
    rw [spec_GrammarShow.l0, if_pos (by omega), if_pos (by omega), hel]
    simp only
    rw [if_neg (by simp), if_pos (by omega), if_pos (by omega), if_pos (by omega), if_pos (by omega), if_pos (by omega), wrap_in (by omega) (by omega)]
    rfl
   ·refine Eq.mp ?_ h
    congr 1
    simp only [ba_append]
    simp [kindW]
theorem spec_show (hS : Short2 toks levs rules parts) : ∃ r, Ev (fun k => spec_GrammarShow.f k nm toks levs rules parts) r ∧ Ev (fun k => impl_GrammarShow.f k nm toks levs rules parts) r := by
 unfold spec_GrammarShow.f impl_GrammarShow.f spec_GrammarOK.f
 by_cases h : okB nm toks levs rules parts = true
 ·have hg := good_of nm toks levs rules parts hS h
  obtain ⟨hlev, hf, hT⟩ := hg
  refine ⟨resOf (linesL (showWs nm toks levs rules parts)), Ev.bind (Ev.now _) ?_, ?_⟩
  ·have hL : Left (linesL (showWs nm toks levs rules parts)) [] (headW nm :: (toks.map tokW ++ (levs.map levW ++ rules.map (ruleWs parts)))) := by unfold Left; rfl
   have hlen := hL.len
   have hn := size_toList nm
   have hh : lineL (headW nm) = [108, 97, 110, 103, 117, 97, 103, 101, 32] ++ nm.data.toList ++ [59, 10] := by simp [lineL, headW, jnL, jtL]
   have h := hL.next
   rw [hh] at hlen h
   simp only [List.length_append, List.length_cons, List.length_nil] at hlen
   refine Ev.congr (fun k => by rw [if_pos (by assumption), if_pos (by omega), if_pos (by rw [ByteArray.size_append]; show 9 + _ + 2 ≤ _; omega)]) ?_
   refine spec_l0 nm toks levs rules parts _ hT (by exact hS.1) (by exact hS.2.1.1) (by exact hS.2.2.1.1) hlev hf toks.length 0 _ rfl ?_
   refine Eq.mp ?_ h
   congr 1
  ·refine Ev.congr (fun k => ?_) (Ev.now _)
   rw [if_pos h, if_pos ⟨hlev, hf, hT⟩]
   unfold resOf
   split <;> rfl
 ·refine ⟨(⟨#[]⟩, 1), Ev.bind (Ev.now _) (Ev.congr (fun k => if_neg h) (Ev.now _)), Ev.congr (fun k => if_neg h) (Ev.now _)⟩
end
theorem law_true (nm : ByteArray) (toks : List S98) (levs : List S100) (rules : List S104) (parts : List S108) (h : Sane nm toks levs rules parts) : Ev (fun k => laws_FnExactGrammarShow.f k nm toks levs rules parts) true := by
 unfold laws_FnExactGrammarShow.f
 obtain ⟨t, ht, hp⟩ := sz_grammar nm toks levs rules parts h
 refine Ev.bind ht ?_
 by_cases hn : t < 0
 ·exact Ev.congr (fun k => if_pos hn) (Ev.now _)
 ·have hS := (hp (by omega)).2
  have hto := to_grammar nm toks levs rules parts hS
  obtain ⟨r, h1, h2⟩ := spec_show nm (toks.map t51) (levs.map t54) (rules.map t59) (parts.map t119) hS.to
  refine Ev.congr (fun k => if_neg hn) ?_
  refine Ev.bind hto (Ev.bind h1 (Ev.bind hto (Ev.bind h2 ?_)))
  refine Ev.congr (fun k => if_pos rfl) ?_
  refine Ev.step (f := fun k => (laws_toGrammar.f k nm toks levs rules parts).bind fun bt421 => ((laws_eqGrammar.f k nm (toks.map t51) (levs.map t54) (rules.map t59) (parts.map t119) bt421.1 bt421.2.1 bt421.2.2.1 bt421.2.2.2.1 bt421.2.2.2.2).bind fun t434 => (if t434 = true then (some true) else (some false)))) (fun k => ?_) ?_
  ·rw [laws_FnExactGrammarShow.j0, if_neg (by simp)]
  ·exact Ev.bind hto (ev_true (eq_grammar nm _ _ _ _ hS.to) (Ev.now _))
def Opens {α : Type} (P : Program) (d : Kd α) (t : TypeId) (Q : α → Prop) : Prop :=
 ∀ (H : Type) (enc : TypeId × Value → H) (W : World) (base : Nat) (spare : Nat → Bool) (held : Bool) (fuel : Nat) (cs : List Value) (x : DataW H × List MemPlace), DataW.trod enc P W base spare held fuel t cs = some x → ∃ a, d.K W a cs ∧ Q a
theorem Opens.string {P : Program} {t : TypeId} (ht : P.underlying t = some .string) : Opens P Kd.string t (fun s => s.size ≤ MX) := by
 intro H enc W base spare held fuel cs x h
 obtain ⟨s, rfl, _, hs⟩ := DataW.trod_string ht h
 exact ⟨s, rfl, Nat.le_trans hs (by decide)⟩
theorem Opens.int {P : Program} {t : TypeId} {k : IntKind} (ht : P.underlying t = some (.int k)) : Opens P (Kd.int k) t (fun _ => True) := by
 intro H enc W base spare held fuel cs x h
 obtain ⟨n, rfl, _⟩ := DataW.trod_int ht h
 exact ⟨n, rfl, trivial⟩
theorem Opens.bool {P : Program} {t : TypeId} (ht : P.underlying t = some .bool) : Opens P Kd.bool t (fun _ => True) := by
 intro H enc W base spare held fuel cs x h
 obtain ⟨n, rfl, _⟩ := DataW.trod_bool ht h
 exact ⟨n, rfl, trivial⟩
theorem Opens.pair {α β : Type} {P : Program} {t : TypeId} {a : Kd α} {b : Kd β} {Q1 : α → Prop} {Q2 : β → Prop} {f0 f1 : Field} (ht : P.underlying t = some (.struct #[f0, f1])) (hc : P.cellsOf t = a.sz + b.sz)
  (o0 : f0.offset = 0) (o1 : f1.offset = a.sz) (c0 : P.cellsOf f0.type = a.sz) (c1 : P.cellsOf f1.type = b.sz) (h0 : Opens P a f0.type Q1) (h1 : Opens P b f1.type Q2) : Opens P (Kd.pair a b) t (fun x => Q1 x.1 ∧ Q2 x.2) := by
 intro H enc W base spare held fuel cs x h
 obtain ⟨xs, n, _, _, hl, hx, hf⟩ := DataW.trod_struct ht h
 have g0 := hf 0 f0 rfl
 have g1 := hf 1 f1 rfl
 rw [List.getElem?_eq_getElem (show 0 < xs.length by rw [hx]; show 0 < 2; omega)] at g0
 rw [List.getElem?_eq_getElem (show 1 < xs.length by rw [hx]; show 1 < 2; omega)] at g1
 obtain ⟨y0, k0, q0⟩ := h0 H enc W base spare held n _ _ g0
 obtain ⟨y1, k1, q1⟩ := h1 H enc W base spare held n _ _ g1
 refine ⟨(y0, y1), ⟨_, _, ?_, k0, k1⟩, q0, q1⟩
 rw [o0, o1, c0, c1, List.drop_zero, List.take_of_length_le (l := cs.drop a.sz) (by rw [List.length_drop]; omega), List.take_append_drop]
theorem Opens.tri {α β γ : Type} {P : Program} {t : TypeId} {a : Kd α} {b : Kd β} {c : Kd γ} {Q1 : α → Prop} {Q2 : β → Prop} {Q3 : γ → Prop} {f0 f1 f2 : Field} (ht : P.underlying t = some (.struct #[f0, f1, f2])) (hc : P.cellsOf t = a.sz + b.sz + c.sz)
  (o0 : f0.offset = 0) (o1 : f1.offset = a.sz) (o2 : f2.offset = a.sz + b.sz) (c0 : P.cellsOf f0.type = a.sz) (c1 : P.cellsOf f1.type = b.sz) (c2 : P.cellsOf f2.type = c.sz) (h0 : Opens P a f0.type Q1) (h1 : Opens P b f1.type Q2) (h2 : Opens P c f2.type Q3) : Opens P (Kd.pair a (Kd.pair b c)) t (fun x => Q1 x.1 ∧ Q2 x.2.1 ∧ Q3 x.2.2) := by
 intro H enc W base spare held fuel cs x h
 obtain ⟨xs, n, _, _, hl, hx, hf⟩ := DataW.trod_struct ht h
 have g0 := hf 0 f0 rfl
 have g1 := hf 1 f1 rfl
 have g2 := hf 2 f2 rfl
 rw [List.getElem?_eq_getElem (show 0 < xs.length by rw [hx]; show 0 < 3; omega)] at g0
 rw [List.getElem?_eq_getElem (show 1 < xs.length by rw [hx]; show 1 < 3; omega)] at g1
 rw [List.getElem?_eq_getElem (show 2 < xs.length by rw [hx]; show 2 < 3; omega)] at g2
 obtain ⟨y0, k0, q0⟩ := h0 H enc W base spare held n _ _ g0
 obtain ⟨y1, k1, q1⟩ := h1 H enc W base spare held n _ _ g1
 obtain ⟨y2, k2, q2⟩ := h2 H enc W base spare held n _ _ g2
 refine ⟨(y0, y1, y2), ⟨_, _, ?_, k0, ⟨_, _, rfl, k1, k2⟩⟩, q0, q1, q2⟩
 rw [o0, o1, o2, c0, c1, c2, List.drop_zero, List.take_of_length_le (l := cs.drop (a.sz + b.sz)) (by rw [List.length_drop]; omega), ← List.drop_drop, List.take_append_drop, List.take_append_drop]
theorem Opens.iso {α β : Type} {P : Program} {t : TypeId} {d : Kd α} {Q : α → Prop} (f : β → α) (g : α → β) (hfg : ∀ x, f (g x) = x) (h : Opens P d t Q) : Opens P (Kd.iso d f) t (fun y => Q (f y)) := by
 intro H enc W base spare held fuel cs x hx
 obtain ⟨a, k, q⟩ := h H enc W base spare held fuel cs x hx
 exact ⟨g a, by show d.K W (f (g a)) cs; rw [hfg]; exact k, by show Q (f (g a)); rw [hfg]; exact q⟩
theorem list_of {α : Type} (R : Nat → α → Prop) : ∀ n, (∀ i, i < n → ∃ y, R i y) → ∃ ys : List α, ys.length = n ∧ ∀ j p, ys[j]? = some p → R j p
 | 0, _ => ⟨[], rfl, by simp⟩
 | n + 1, h => by
  obtain ⟨ys, hl, hr⟩ := list_of R n (fun i hi => h i (by omega))
  obtain ⟨y, hy⟩ := h n (by omega)
  refine ⟨ys ++ [y], by simp [hl], ?_⟩
  intro j p hj
  rcases Nat.lt_or_ge j ys.length with h1 | h1
  ·rw [List.getElem?_append_left h1] at hj
   exact hr j p hj
  ·rw [List.getElem?_append_right h1] at hj
   have : j - ys.length = 0 := by
    rcases Nat.eq_zero_or_pos (j - ys.length) with h2 | h2
    ·exact h2
    ·rw [List.getElem?_eq_none (by simp; omega)] at hj; cases hj
   rw [this] at hj
   have hp : y = p := by simpa using hj
   rw [← hp, show j = n by omega]
   exact hy
theorem Opens.slice {α : Type} {P : Program} {t e : TypeId} {d : Kd α} {Q : α → Prop} (e2 : Nat) (ht : P.underlying t = some (.slice e)) (hc : P.cellsOf e = d.sz) (hd : Opens P d e Q) : Opens P (Kd.slice e2 d) t (fun l => l.length ≤ MX ∧ ∀ x ∈ l, Q x) := by
 intro H enc W base spare held fuel cs x h
 rcases Deep.open_slice ht h with ⟨rfl, _⟩ | ⟨a, len, cap, m, n, D, Pl, rfl, hb, hl, hm, hmm, _, hx⟩
 ·exact ⟨[], ⟨none, 0, rfl, by simp, rfl, by simp, fun h => by simp at h⟩, by simp, by simp⟩
 ·have hlm : len ≤ m := by rw [hmm]; split <;> omega
  have hmx : cap ≤ 9223372036854775807 := Nat.le_trans hm (by decide)
  obtain ⟨ys, hys, hr⟩ := list_of (fun i y => Q y ∧ ∃ c, d.K W y c ∧ ∀ k u, c[k]? = some u → W.cell? (a.add (i * d.sz + k)) = some u) len (by
   intro i hi
   obtain ⟨c, h1, h2⟩ := hx i (by omega)
   obtain ⟨y, hy, hq⟩ := hd H enc W base spare held n c _ h2
   refine ⟨y, hq, c, hy, ?_⟩
   obtain ⟨_, hcl, hcc⟩ := World.cells?_some h1
   intro k u hk
   have hkl : k < P.cellsOf e := by
    rw [← hcl]
    rcases Nat.lt_or_ge k c.length with h3 | h3
    ·exact h3
    ·rw [List.getElem?_eq_none h3] at hk; cases hk
   have := hcc k hkl
   rw [hk, hc, Deep.add_add] at this
   exact this)
  refine ⟨ys, ⟨some a, cap, by rw [hys], by omega, rfl, by omega, fun _ => ⟨a, rfl, ?_⟩⟩, by show ys.length ≤ 9223372036854775807; omega, ?_⟩
  ·intro j p hj
   obtain ⟨_, c, hK, hcell⟩ := hr j p hj
   exact ⟨c, d.K_len hK, hK, hcell⟩
  ·intro y hy
   obtain ⟨j, hj, rfl⟩ := List.mem_iff_getElem.1 hy
   exact (hr j _ (List.getElem?_eq_getElem hj)).1
end Go.Proofs.Ythcmamcbnjphgaa.PFnExactGrammarShow
