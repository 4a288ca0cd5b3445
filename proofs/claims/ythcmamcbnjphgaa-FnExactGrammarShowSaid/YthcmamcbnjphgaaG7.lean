import Derived.Test.YthcmamcbnjphgaaG6
set_option linter.unusedVariables false
set_option linter.unusedSimpArgs false
namespace Go.Proofs.Ythcmamcbnjphgaa.PFnExactGrammarShow
open Go.RowKit Go.Proofs.YthcmamcbnjphgaaW.PrintWords Go.Proofs.YthcmamcbnjphgaaW.PrintLast Go.Proofs.YthcmamcbnjphgaaW.PrintMore
attribute [local go_sem] max2_int min2_int max_two min_two max_three min_three max_four min_four   -- for this text's walks alone
def laws_szGrammar.f (k : Nat) (a0_0 : ByteArray) (l0_1 : List (S98)) (l0_2 : List (S100)) (l0_3 : List (S104)) (l0_4 : List (S108)) (a1 : Int) : Option (Int) := if (wrap64 (a1 - (a0_0.size : Int))) < 0 then (some (-1)) else ((laws_szTokenS.f k l0_1 (wrap64 (a1 - (a0_0.size : Int)))).bind fun t124 => (if t124 < 0 then (some (-1)) else ((laws_szLevelS.f k l0_2 t124).bind fun t125 => (if t125 < 0 then (some (-1)) else ((laws_szGRuleS.f k l0_3 t125).bind fun t126 => (if t126 < 0 then (some (-1)) else ((laws_szPartS.f k l0_4 t126).bind fun t127 => (if t127 < 0 then (some (-1)) else (some t127)))))))))
set_option maxHeartbeats 8000000 in
set_option maxRecDepth 100000 in
theorem laws_szGrammar.calls (k : Nat) (a0_0 : ByteArray) (A0_1 : Option Addr) (c0_1 : Nat) (l0_1 : List (S98)) (A0_2 : Option Addr) (c0_2 : Nat) (l0_2 : List (S100)) (A0_3 : Option Addr) (c0_3 : Nat) (l0_3 : List (S104)) (A0_4 : Option Addr) (c0_4 : Nat) (l0_4 : List (S108)) (a1 : Int) (r : Int) (w : World) (hr0_1 : Kd.C k98 w A0_1 l0_1.length l0_1) (hc0_1 : l0_1.length ≤ c0_1) (hr0_2 : Kd.C k100 w A0_2 l0_2.length l0_2) (hc0_2 : l0_2.length ≤ c0_2) (hr0_3 : Kd.C k104 w A0_3 l0_3.length l0_3) (hc0_3 : l0_3.length ≤ c0_3) (hr0_4 : Kd.C k108 w A0_4 l0_4.length l0_4) (hc0_4 : l0_4.length ≤ c0_4) (h : laws_szGrammar.f k a0_0 l0_1 l0_2 l0_3 l0_4 a1 = some r) :
  Calls Try.prog 5 #[.agg #[.string a0_0, .slice A0_1 l0_1.length c0_1, .slice A0_2 l0_2.length c0_2, .slice A0_3 l0_3.length c0_3, .slice A0_4 l0_4.length c0_4], .int .i64 a1] w fun e w' => e = .returned (.int .i64 r) ∧ Below w.heap.size w w' := by
 have hu27 := Try.underlying27
 have HR0_1 := Zz.mk hr0_1
 have HC0_1 := Zz.mk hc0_1
 clear hr0_1 hc0_1
 have HR0_2 := Zz.mk hr0_2
 have HC0_2 := Zz.mk hc0_2
 clear hr0_2 hc0_2
 have HR0_3 := Zz.mk hr0_3
 have HC0_3 := Zz.mk hc0_3
 clear hr0_3 hc0_3
 have HR0_4 := Zz.mk hr0_4
 have HC0_4 := Zz.mk hc0_4
 clear hr0_4 hc0_4
 have HB := Zz.mk (Below.refl w.heap.size w)
 have H : (if (wrap64 (a1 - (a0_0.size : Int))) < 0 then (some (-1)) else ((laws_szTokenS.f k l0_1 (wrap64 (a1 - (a0_0.size : Int)))).bind fun t124 => (if t124 < 0 then (some (-1)) else ((laws_szLevelS.f k l0_2 t124).bind fun t125 => (if t125 < 0 then (some (-1)) else ((laws_szGRuleS.f k l0_3 t125).bind fun t126 => (if t126 < 0 then (some (-1)) else ((laws_szPartS.f k l0_4 t126).bind fun t127 => (if t127 < 0 then (some (-1)) else (some t127)))))))))) = some r := h
 clear h
 by_cases c3 : (wrap64 (a1 - (a0_0.size : Int))) < 0
 ·rw [if_pos c3] at H
  have c3b0 : decide ((wrap64 (a1 - (a0_0.size : Int))) < 0) = true := decide_eq_true c3
  clear c3
  obtain rfl := Option.some.inj H
  go_enter Try.func5, Try.ntmps5
  go_wp2_with (first | ((with_reducible refine gate_dst (N := 2) rfl ?_); refine box_event ?hg (N := 2) ?hd (cs := #[.string a0_0, .slice A0_1 l0_1.length c0_1, .slice A0_2 l0_2.length c0_2, .slice A0_3 l0_3.length c0_3, .slice A0_4 l0_4.length c0_4]) (t := 27) ?hr ?_; (case hd => rfl); (case hg => rfl); (case hr => first | (go_simp; done) | (go_simp; rfl)); intro gb123 hg w4 hbox hb; have n0_ := Zz.mk (below_step (by repeat (first | (with_reducible first | exact HB.out | apply zba | apply zbn | apply zb1) | exact HB.out)) hb); have n1_ := Zz.mk (hbox); have n2_ := Zz.mk ((by rw [hg]; exact (zsz (by repeat (first | (with_reducible first | exact HB.out | apply zba | apply zbn | apply zb1) | exact HB.out))) : w.heap.size ≤ gb123)); have n3_ := Zz.mk ((by rw [hg]; exact (zsz (by repeat (first | (with_reducible first | exact HB.out | apply zba | apply zbn | apply zb1) | exact HB.out))) : w.heap.size ≤ gb123)); clear HB; have HB := n0_; have BK123 := n1_; have GW123 := n2_; have GE123 := n3_; clear n0_ n1_ n2_ n3_; clear hb hbox hg; have hcz5_0 : w4.cell? ⟨gb123, 0, none⟩ = some (.string a0_0) := (zbc BK123.out 0).trans rfl; have hcz5_1 : w4.cell? ⟨gb123, 1, none⟩ = some (.slice A0_1 l0_1.length c0_1) := (zbc BK123.out 1).trans rfl; have hcz5_2 : w4.cell? ⟨gb123, 2, none⟩ = some (.slice A0_2 l0_2.length c0_2) := (zbc BK123.out 2).trans rfl; have hcz5_3 : w4.cell? ⟨gb123, 3, none⟩ = some (.slice A0_3 l0_3.length c0_3) := (zbc BK123.out 3).trans rfl; have hcz5_4 : w4.cell? ⟨gb123, 4, none⟩ = some (.slice A0_4 l0_4.length c0_4) := (zbc BK123.out 4).trans rfl; have hfz5_0 := zbf BK123.out 0; have hfz5_1 := zbf BK123.out 1; have hfz5_2 := zbf BK123.out 2; have hfz5_3 := zbf BK123.out 3; have hfz5_4 := zbf BK123.out 4))
  go_ret
  exact ⟨by first | rfl | (simp [errW_none, errW_some] <;> rfl) | (simp [*, errW_none, errW_some] <;> rfl), by repeat (first | (with_reducible first | exact HB.out | apply zba | apply zbn | apply zb1 | refine zbs ?_ GE123.out) | exact HB.out)⟩
 ·rw [if_neg c3] at H
  have c3b0 : decide ((wrap64 (a1 - (a0_0.size : Int))) < 0) = false := decide_eq_false c3
  clear c3
  replace H := Option.bind_eq_some_iff.mp H
  obtain ⟨t124, A60, H⟩ := H
  replace H : (if t124 < 0 then (some (-1)) else ((laws_szLevelS.f k l0_2 t124).bind fun t125 => (if t125 < 0 then (some (-1)) else ((laws_szGRuleS.f k l0_3 t125).bind fun t126 => (if t126 < 0 then (some (-1)) else ((laws_szPartS.f k l0_4 t126).bind fun t127 => (if t127 < 0 then (some (-1)) else (some t127)))))))) = some r := H
  have A6 := Zz.mk A60
  clear A60
  by_cases c7 : t124 < 0
  ·rw [if_pos c7] at H
   have c7b0 : decide (t124 < 0) = true := decide_eq_true c7
   clear c7
   obtain rfl := Option.some.inj H
   go_enter Try.func5, Try.ntmps5
   go_wp2_with (first | ((with_reducible refine gate_dst (N := 2) rfl ?_); refine box_event ?hg (N := 2) ?hd (cs := #[.string a0_0, .slice A0_1 l0_1.length c0_1, .slice A0_2 l0_2.length c0_2, .slice A0_3 l0_3.length c0_3, .slice A0_4 l0_4.length c0_4]) (t := 27) ?hr ?_; (case hd => rfl); (case hg => rfl); (case hr => first | (go_simp; done) | (go_simp; rfl)); intro gb123 hg w8 hbox hb; have n0_ := Zz.mk (below_step (by repeat (first | (with_reducible first | exact HB.out | apply zba | apply zbn | apply zb1) | exact HB.out)) hb); have n1_ := Zz.mk (hbox); have n2_ := Zz.mk ((by rw [hg]; exact (zsz (by repeat (first | (with_reducible first | exact HB.out | apply zba | apply zbn | apply zb1) | exact HB.out))) : w.heap.size ≤ gb123)); have n3_ := Zz.mk ((by rw [hg]; exact (zsz (by repeat (first | (with_reducible first | exact HB.out | apply zba | apply zbn | apply zb1) | exact HB.out))) : w.heap.size ≤ gb123)); clear HB; have HB := n0_; have BK123 := n1_; have GW123 := n2_; have GE123 := n3_; clear n0_ n1_ n2_ n3_; clear hb hbox hg; have hcz9_0 : w8.cell? ⟨gb123, 0, none⟩ = some (.string a0_0) := (zbc BK123.out 0).trans rfl; have hcz9_1 : w8.cell? ⟨gb123, 1, none⟩ = some (.slice A0_1 l0_1.length c0_1) := (zbc BK123.out 1).trans rfl; have hcz9_2 : w8.cell? ⟨gb123, 2, none⟩ = some (.slice A0_2 l0_2.length c0_2) := (zbc BK123.out 2).trans rfl; have hcz9_3 : w8.cell? ⟨gb123, 3, none⟩ = some (.slice A0_3 l0_3.length c0_3) := (zbc BK123.out 3).trans rfl; have hcz9_4 : w8.cell? ⟨gb123, 4, none⟩ = some (.slice A0_4 l0_4.length c0_4) := (zbc BK123.out 4).trans rfl; have hfz9_0 := zbf BK123.out 0; have hfz9_1 := zbf BK123.out 1; have hfz9_2 := zbf BK123.out 2; have hfz9_3 := zbf BK123.out 3; have hfz9_4 := zbf BK123.out 4) | ((with_reducible refine gate_callee (f := 14) rfl ?_); refine goesL_ (some 15) rfl rfl Try.func14 (by kernel_rfl) rfl #[.slice A0_1 l0_1.length c0_1, .int .i64 (wrap64 (a1 - (a0_0.size : Int)))] rfl (by (try simp only [List.map_toArray, List.map_cons, List.map_nil]); first | done | rfl | (simp only [List.length_drop, List.length_take]; rfl)) ?_; (with_reducible refine (laws_szTokenS.calls k _ _ l0_1 (wrap64 (a1 - (a0_0.size : Int))) t124 _ ?side1 ?side2 A6.out).mono ?_); (case side1 => repeat (first | exact (Kd.C_below HR0_1.out HB.out) | (with_reducible refine Kd.C_alloc ?_ _) | (with_reducible refine Kd.C_drewN ?_ _) | (with_reducible refine Kd.C_drew ?_))); (case side2 => exact HC0_1.out); rintro e w10 ⟨rfl, hb⟩; refine ⟨_, rfl, ?_⟩; have n0_ := Zz.mk (blk_below (g := gb123) (o := .cells #[.string a0_0, .slice A0_1 l0_1.length c0_1, .slice A0_2 l0_2.length c0_2, .slice A0_3 l0_3.length c0_3, .slice A0_4 l0_4.length c0_4] 27 (0, 0)) (by (with_reducible repeat (first | refine zdn ?_ _ | refine zdr ?_ | refine zda ?_ _)); exact BK123.out) hb); have n1_ := Zz.mk (below_step (by repeat (first | (with_reducible first | exact HB.out | apply zba | apply zbn | apply zb1 | refine zbs ?_ GE123.out) | exact HB.out)) hb); clear BK123; clear HB; have BK123 := n0_; have HB := n1_; clear n0_ n1_; (try clear hb); (try clear hb2); (try clear hk); (try clear hi)))
   go_ret
   exact ⟨by first | rfl | (simp [errW_none, errW_some] <;> rfl) | (simp [*, errW_none, errW_some] <;> rfl), by repeat (first | (with_reducible first | exact HB.out | apply zba | apply zbn | apply zb1 | refine zbs ?_ GE123.out) | exact HB.out)⟩
  ·rw [if_neg c7] at H
   have c7b0 : decide (t124 < 0) = false := decide_eq_false c7
   clear c7
   replace H := Option.bind_eq_some_iff.mp H
   obtain ⟨t125, A110, H⟩ := H
   replace H : (if t125 < 0 then (some (-1)) else ((laws_szGRuleS.f k l0_3 t125).bind fun t126 => (if t126 < 0 then (some (-1)) else ((laws_szPartS.f k l0_4 t126).bind fun t127 => (if t127 < 0 then (some (-1)) else (some t127)))))) = some r := H
   have A11 := Zz.mk A110
   clear A110
   by_cases c12 : t125 < 0
   ·rw [if_pos c12] at H
    have c12b0 : decide (t125 < 0) = true := decide_eq_true c12
    clear c12
    obtain rfl := Option.some.inj H
    go_enter Try.func5, Try.ntmps5
    go_wp2_with (first | ((with_reducible refine gate_dst (N := 2) rfl ?_); refine box_event ?hg (N := 2) ?hd (cs := #[.string a0_0, .slice A0_1 l0_1.length c0_1, .slice A0_2 l0_2.length c0_2, .slice A0_3 l0_3.length c0_3, .slice A0_4 l0_4.length c0_4]) (t := 27) ?hr ?_; (case hd => rfl); (case hg => rfl); (case hr => first | (go_simp; done) | (go_simp; rfl)); intro gb123 hg w13 hbox hb; have n0_ := Zz.mk (below_step (by repeat (first | (with_reducible first | exact HB.out | apply zba | apply zbn | apply zb1) | exact HB.out)) hb); have n1_ := Zz.mk (hbox); have n2_ := Zz.mk ((by rw [hg]; exact (zsz (by repeat (first | (with_reducible first | exact HB.out | apply zba | apply zbn | apply zb1) | exact HB.out))) : w.heap.size ≤ gb123)); have n3_ := Zz.mk ((by rw [hg]; exact (zsz (by repeat (first | (with_reducible first | exact HB.out | apply zba | apply zbn | apply zb1) | exact HB.out))) : w.heap.size ≤ gb123)); clear HB; have HB := n0_; have BK123 := n1_; have GW123 := n2_; have GE123 := n3_; clear n0_ n1_ n2_ n3_; clear hb hbox hg; have hcz14_0 : w13.cell? ⟨gb123, 0, none⟩ = some (.string a0_0) := (zbc BK123.out 0).trans rfl; have hcz14_1 : w13.cell? ⟨gb123, 1, none⟩ = some (.slice A0_1 l0_1.length c0_1) := (zbc BK123.out 1).trans rfl; have hcz14_2 : w13.cell? ⟨gb123, 2, none⟩ = some (.slice A0_2 l0_2.length c0_2) := (zbc BK123.out 2).trans rfl; have hcz14_3 : w13.cell? ⟨gb123, 3, none⟩ = some (.slice A0_3 l0_3.length c0_3) := (zbc BK123.out 3).trans rfl; have hcz14_4 : w13.cell? ⟨gb123, 4, none⟩ = some (.slice A0_4 l0_4.length c0_4) := (zbc BK123.out 4).trans rfl; have hfz14_0 := zbf BK123.out 0; have hfz14_1 := zbf BK123.out 1; have hfz14_2 := zbf BK123.out 2; have hfz14_3 := zbf BK123.out 3; have hfz14_4 := zbf BK123.out 4) | ((with_reducible refine gate_callee (f := 14) rfl ?_); refine goesL_ (some 15) rfl rfl Try.func14 (by kernel_rfl) rfl #[.slice A0_1 l0_1.length c0_1, .int .i64 (wrap64 (a1 - (a0_0.size : Int)))] rfl (by (try simp only [List.map_toArray, List.map_cons, List.map_nil]); first | done | rfl | (simp only [List.length_drop, List.length_take]; rfl)) ?_; (with_reducible refine (laws_szTokenS.calls k _ _ l0_1 (wrap64 (a1 - (a0_0.size : Int))) t124 _ ?side1 ?side2 A6.out).mono ?_); (case side1 => repeat (first | exact (Kd.C_below HR0_1.out HB.out) | (with_reducible refine Kd.C_alloc ?_ _) | (with_reducible refine Kd.C_drewN ?_ _) | (with_reducible refine Kd.C_drew ?_))); (case side2 => exact HC0_1.out); rintro e w15 ⟨rfl, hb⟩; refine ⟨_, rfl, ?_⟩; have n0_ := Zz.mk (blk_below (g := gb123) (o := .cells #[.string a0_0, .slice A0_1 l0_1.length c0_1, .slice A0_2 l0_2.length c0_2, .slice A0_3 l0_3.length c0_3, .slice A0_4 l0_4.length c0_4] 27 (0, 0)) (by (with_reducible repeat (first | refine zdn ?_ _ | refine zdr ?_ | refine zda ?_ _)); exact BK123.out) hb); have n1_ := Zz.mk (below_step (by repeat (first | (with_reducible first | exact HB.out | apply zba | apply zbn | apply zb1 | refine zbs ?_ GE123.out) | exact HB.out)) hb); clear BK123; clear HB; have BK123 := n0_; have HB := n1_; clear n0_ n1_; (try clear hb); (try clear hb2); (try clear hk); (try clear hi); have hcz16_0 : w15.cell? ⟨gb123, 0, none⟩ = some (.string a0_0) := (zbc BK123.out 0).trans rfl; have hcz16_1 : w15.cell? ⟨gb123, 1, none⟩ = some (.slice A0_1 l0_1.length c0_1) := (zbc BK123.out 1).trans rfl; have hcz16_2 : w15.cell? ⟨gb123, 2, none⟩ = some (.slice A0_2 l0_2.length c0_2) := (zbc BK123.out 2).trans rfl; have hcz16_3 : w15.cell? ⟨gb123, 3, none⟩ = some (.slice A0_3 l0_3.length c0_3) := (zbc BK123.out 3).trans rfl; have hcz16_4 : w15.cell? ⟨gb123, 4, none⟩ = some (.slice A0_4 l0_4.length c0_4) := (zbc BK123.out 4).trans rfl; have hfz16_0 := zbf BK123.out 0; have hfz16_1 := zbf BK123.out 1; have hfz16_2 := zbf BK123.out 2; have hfz16_3 := zbf BK123.out 3; have hfz16_4 := zbf BK123.out 4) | ((with_reducible refine gate_callee (f := 15) rfl ?_); refine goesL_ (some 21) rfl rfl Try.func15 (by kernel_rfl) rfl #[.slice A0_2 l0_2.length c0_2, .int .i64 t124] rfl (by (try simp only [List.map_toArray, List.map_cons, List.map_nil]); first | done | rfl | (simp only [List.length_drop, List.length_take]; rfl)) ?_; (with_reducible refine (laws_szLevelS.calls k _ _ l0_2 t124 t125 _ ?side1 ?side2 A11.out).mono ?_); (case side1 => repeat (first | exact (Kd.C_below HR0_2.out HB.out) | (with_reducible refine Kd.C_alloc ?_ _) | (with_reducible refine Kd.C_drewN ?_ _) | (with_reducible refine Kd.C_drew ?_))); (case side2 => exact HC0_2.out); rintro e w17 ⟨rfl, hb⟩; refine ⟨_, rfl, ?_⟩; have n0_ := Zz.mk (blk_below (g := gb123) (o := .cells #[.string a0_0, .slice A0_1 l0_1.length c0_1, .slice A0_2 l0_2.length c0_2, .slice A0_3 l0_3.length c0_3, .slice A0_4 l0_4.length c0_4] 27 (0, 0)) (by (with_reducible repeat (first | refine zdn ?_ _ | refine zdr ?_ | refine zda ?_ _)); exact BK123.out) hb); have n1_ := Zz.mk (below_step (by repeat (first | (with_reducible first | exact HB.out | apply zba | apply zbn | apply zb1 | refine zbs ?_ GE123.out) | exact HB.out)) hb); clear BK123; clear HB; have BK123 := n0_; have HB := n1_; clear n0_ n1_; (try clear hb); (try clear hb2); (try clear hk); (try clear hi)))
    go_ret
    exact ⟨by first | rfl | (simp [errW_none, errW_some] <;> rfl) | (simp [*, errW_none, errW_some] <;> rfl), by repeat (first | (with_reducible first | exact HB.out | apply zba | apply zbn | apply zb1 | refine zbs ?_ GE123.out) | exact HB.out)⟩
   ·rw [if_neg c12] at H
    have c12b0 : decide (t125 < 0) = false := decide_eq_false c12
    clear c12
    replace H := Option.bind_eq_some_iff.mp H
    obtain ⟨t126, A180, H⟩ := H
    replace H : (if t126 < 0 then (some (-1)) else ((laws_szPartS.f k l0_4 t126).bind fun t127 => (if t127 < 0 then (some (-1)) else (some t127)))) = some r := H
    have A18 := Zz.mk A180
    clear A180
    by_cases c19 : t126 < 0
    ·rw [if_pos c19] at H
     have c19b0 : decide (t126 < 0) = true := decide_eq_true c19
     clear c19
     obtain rfl := Option.some.inj H
     go_enter Try.func5, Try.ntmps5
     go_wp2_with (first | ((with_reducible refine gate_dst (N := 2) rfl ?_); refine box_event ?hg (N := 2) ?hd (cs := #[.string a0_0, .slice A0_1 l0_1.length c0_1, .slice A0_2 l0_2.length c0_2, .slice A0_3 l0_3.length c0_3, .slice A0_4 l0_4.length c0_4]) (t := 27) ?hr ?_; (case hd => rfl); (case hg => rfl); (case hr => first | (go_simp; done) | (go_simp; rfl)); intro gb123 hg w20 hbox hb; have n0_ := Zz.mk (below_step (by repeat (first | (with_reducible first | exact HB.out | apply zba | apply zbn | apply zb1) | exact HB.out)) hb); have n1_ := Zz.mk (hbox); have n2_ := Zz.mk ((by rw [hg]; exact (zsz (by repeat (first | (with_reducible first | exact HB.out | apply zba | apply zbn | apply zb1) | exact HB.out))) : w.heap.size ≤ gb123)); have n3_ := Zz.mk ((by rw [hg]; exact (zsz (by repeat (first | (with_reducible first | exact HB.out | apply zba | apply zbn | apply zb1) | exact HB.out))) : w.heap.size ≤ gb123)); clear HB; have HB := n0_; have BK123 := n1_; have GW123 := n2_; have GE123 := n3_; clear n0_ n1_ n2_ n3_; clear hb hbox hg; have hcz21_0 : w20.cell? ⟨gb123, 0, none⟩ = some (.string a0_0) := (zbc BK123.out 0).trans rfl; have hcz21_1 : w20.cell? ⟨gb123, 1, none⟩ = some (.slice A0_1 l0_1.length c0_1) := (zbc BK123.out 1).trans rfl; have hcz21_2 : w20.cell? ⟨gb123, 2, none⟩ = some (.slice A0_2 l0_2.length c0_2) := (zbc BK123.out 2).trans rfl; have hcz21_3 : w20.cell? ⟨gb123, 3, none⟩ = some (.slice A0_3 l0_3.length c0_3) := (zbc BK123.out 3).trans rfl; have hcz21_4 : w20.cell? ⟨gb123, 4, none⟩ = some (.slice A0_4 l0_4.length c0_4) := (zbc BK123.out 4).trans rfl; have hfz21_0 := zbf BK123.out 0; have hfz21_1 := zbf BK123.out 1; have hfz21_2 := zbf BK123.out 2; have hfz21_3 := zbf BK123.out 3; have hfz21_4 := zbf BK123.out 4) | ((with_reducible refine gate_callee (f := 14) rfl ?_); refine goesL_ (some 15) rfl rfl Try.func14 (by kernel_rfl) rfl #[.slice A0_1 l0_1.length c0_1, .int .i64 (wrap64 (a1 - (a0_0.size : Int)))] rfl (by (try simp only [List.map_toArray, List.map_cons, List.map_nil]); first | done | rfl | (simp only [List.length_drop, List.length_take]; rfl)) ?_; (with_reducible refine (laws_szTokenS.calls k _ _ l0_1 (wrap64 (a1 - (a0_0.size : Int))) t124 _ ?side1 ?side2 A6.out).mono ?_); (case side1 => repeat (first | exact (Kd.C_below HR0_1.out HB.out) | (with_reducible refine Kd.C_alloc ?_ _) | (with_reducible refine Kd.C_drewN ?_ _) | (with_reducible refine Kd.C_drew ?_))); (case side2 => exact HC0_1.out); rintro e w22 ⟨rfl, hb⟩; refine ⟨_, rfl, ?_⟩; have n0_ := Zz.mk (blk_below (g := gb123) (o := .cells #[.string a0_0, .slice A0_1 l0_1.length c0_1, .slice A0_2 l0_2.length c0_2, .slice A0_3 l0_3.length c0_3, .slice A0_4 l0_4.length c0_4] 27 (0, 0)) (by (with_reducible repeat (first | refine zdn ?_ _ | refine zdr ?_ | refine zda ?_ _)); exact BK123.out) hb); have n1_ := Zz.mk (below_step (by repeat (first | (with_reducible first | exact HB.out | apply zba | apply zbn | apply zb1 | refine zbs ?_ GE123.out) | exact HB.out)) hb); clear BK123; clear HB; have BK123 := n0_; have HB := n1_; clear n0_ n1_; (try clear hb); (try clear hb2); (try clear hk); (try clear hi); have hcz23_0 : w22.cell? ⟨gb123, 0, none⟩ = some (.string a0_0) := (zbc BK123.out 0).trans rfl; have hcz23_1 : w22.cell? ⟨gb123, 1, none⟩ = some (.slice A0_1 l0_1.length c0_1) := (zbc BK123.out 1).trans rfl; have hcz23_2 : w22.cell? ⟨gb123, 2, none⟩ = some (.slice A0_2 l0_2.length c0_2) := (zbc BK123.out 2).trans rfl; have hcz23_3 : w22.cell? ⟨gb123, 3, none⟩ = some (.slice A0_3 l0_3.length c0_3) := (zbc BK123.out 3).trans rfl; have hcz23_4 : w22.cell? ⟨gb123, 4, none⟩ = some (.slice A0_4 l0_4.length c0_4) := (zbc BK123.out 4).trans rfl; have hfz23_0 := zbf BK123.out 0; have hfz23_1 := zbf BK123.out 1; have hfz23_2 := zbf BK123.out 2; have hfz23_3 := zbf BK123.out 3; have hfz23_4 := zbf BK123.out 4) | ((with_reducible refine gate_callee (f := 15) rfl ?_); refine goesL_ (some 21) rfl rfl Try.func15 (by kernel_rfl) rfl #[.slice A0_2 l0_2.length c0_2, .int .i64 t124] rfl (by (try simp only [List.map_toArray, List.map_cons, List.map_nil]); first | done | rfl | (simp only [List.length_drop, List.length_take]; rfl)) ?_; (with_reducible refine (laws_szLevelS.calls k _ _ l0_2 t124 t125 _ ?side1 ?side2 A11.out).mono ?_); (case side1 => repeat (first | exact (Kd.C_below HR0_2.out HB.out) | (with_reducible refine Kd.C_alloc ?_ _) | (with_reducible refine Kd.C_drewN ?_ _) | (with_reducible refine Kd.C_drew ?_))); (case side2 => exact HC0_2.out); rintro e w24 ⟨rfl, hb⟩; refine ⟨_, rfl, ?_⟩; have n0_ := Zz.mk (blk_below (g := gb123) (o := .cells #[.string a0_0, .slice A0_1 l0_1.length c0_1, .slice A0_2 l0_2.length c0_2, .slice A0_3 l0_3.length c0_3, .slice A0_4 l0_4.length c0_4] 27 (0, 0)) (by (with_reducible repeat (first | refine zdn ?_ _ | refine zdr ?_ | refine zda ?_ _)); exact BK123.out) hb); have n1_ := Zz.mk (below_step (by repeat (first | (with_reducible first | exact HB.out | apply zba | apply zbn | apply zb1 | refine zbs ?_ GE123.out) | exact HB.out)) hb); clear BK123; clear HB; have BK123 := n0_; have HB := n1_; clear n0_ n1_; (try clear hb); (try clear hb2); (try clear hk); (try clear hi); have hcz25_0 : w24.cell? ⟨gb123, 0, none⟩ = some (.string a0_0) := (zbc BK123.out 0).trans rfl; have hcz25_1 : w24.cell? ⟨gb123, 1, none⟩ = some (.slice A0_1 l0_1.length c0_1) := (zbc BK123.out 1).trans rfl; have hcz25_2 : w24.cell? ⟨gb123, 2, none⟩ = some (.slice A0_2 l0_2.length c0_2) := (zbc BK123.out 2).trans rfl; have hcz25_3 : w24.cell? ⟨gb123, 3, none⟩ = some (.slice A0_3 l0_3.length c0_3) := (zbc BK123.out 3).trans rfl; have hcz25_4 : w24.cell? ⟨gb123, 4, none⟩ = some (.slice A0_4 l0_4.length c0_4) := (zbc BK123.out 4).trans rfl; have hfz25_0 := zbf BK123.out 0; have hfz25_1 := zbf BK123.out 1; have hfz25_2 := zbf BK123.out 2; have hfz25_3 := zbf BK123.out 3; have hfz25_4 := zbf BK123.out 4) | ((with_reducible refine gate_callee (f := 16) rfl ?_); refine goesL_ (some 27) rfl rfl Try.func16 (by kernel_rfl) rfl #[.slice A0_3 l0_3.length c0_3, .int .i64 t125] rfl (by (try simp only [List.map_toArray, List.map_cons, List.map_nil]); first | done | rfl | (simp only [List.length_drop, List.length_take]; rfl)) ?_; (with_reducible refine (laws_szGRuleS.calls k _ _ l0_3 t125 t126 _ ?side1 ?side2 A18.out).mono ?_); (case side1 => repeat (first | exact (Kd.C_below HR0_3.out HB.out) | (with_reducible refine Kd.C_alloc ?_ _) | (with_reducible refine Kd.C_drewN ?_ _) | (with_reducible refine Kd.C_drew ?_))); (case side2 => exact HC0_3.out); rintro e w26 ⟨rfl, hb⟩; refine ⟨_, rfl, ?_⟩; have n0_ := Zz.mk (blk_below (g := gb123) (o := .cells #[.string a0_0, .slice A0_1 l0_1.length c0_1, .slice A0_2 l0_2.length c0_2, .slice A0_3 l0_3.length c0_3, .slice A0_4 l0_4.length c0_4] 27 (0, 0)) (by (with_reducible repeat (first | refine zdn ?_ _ | refine zdr ?_ | refine zda ?_ _)); exact BK123.out) hb); have n1_ := Zz.mk (below_step (by repeat (first | (with_reducible first | exact HB.out | apply zba | apply zbn | apply zb1 | refine zbs ?_ GE123.out) | exact HB.out)) hb); clear BK123; clear HB; have BK123 := n0_; have HB := n1_; clear n0_ n1_; (try clear hb); (try clear hb2); (try clear hk); (try clear hi)))
     go_ret
     exact ⟨by first | rfl | (simp [errW_none, errW_some] <;> rfl) | (simp [*, errW_none, errW_some] <;> rfl), by repeat (first | (with_reducible first | exact HB.out | apply zba | apply zbn | apply zb1 | refine zbs ?_ GE123.out) | exact HB.out)⟩
    ·rw [if_neg c19] at H
     have c19b0 : decide (t126 < 0) = false := decide_eq_false c19
     clear c19
     replace H := Option.bind_eq_some_iff.mp H
     obtain ⟨t127, A270, H⟩ := H
     replace H : (if t127 < 0 then (some (-1)) else (some t127)) = some r := H
     have A27 := Zz.mk A270
     clear A270
     by_cases c28 : t127 < 0
     ·rw [if_pos c28] at H
      have c28b0 : decide (t127 < 0) = true := decide_eq_true c28
      clear c28
      obtain rfl := Option.some.inj H
      go_enter Try.func5, Try.ntmps5
      go_wp2_with (first | ((with_reducible refine gate_dst (N := 2) rfl ?_); refine box_event ?hg (N := 2) ?hd (cs := #[.string a0_0, .slice A0_1 l0_1.length c0_1, .slice A0_2 l0_2.length c0_2, .slice A0_3 l0_3.length c0_3, .slice A0_4 l0_4.length c0_4]) (t := 27) ?hr ?_; (case hd => rfl); (case hg => rfl); (case hr => first | (go_simp; done) | (go_simp; rfl)); intro gb123 hg w29 hbox hb; have n0_ := Zz.mk (below_step (by repeat (first | (with_reducible first | exact HB.out | apply zba | apply zbn | apply zb1) | exact HB.out)) hb); have n1_ := Zz.mk (hbox); have n2_ := Zz.mk ((by rw [hg]; exact (zsz (by repeat (first | (with_reducible first | exact HB.out | apply zba | apply zbn | apply zb1) | exact HB.out))) : w.heap.size ≤ gb123)); have n3_ := Zz.mk ((by rw [hg]; exact (zsz (by repeat (first | (with_reducible first | exact HB.out | apply zba | apply zbn | apply zb1) | exact HB.out))) : w.heap.size ≤ gb123)); clear HB; have HB := n0_; have BK123 := n1_; have GW123 := n2_; have GE123 := n3_; clear n0_ n1_ n2_ n3_; clear hb hbox hg; have hcz30_0 : w29.cell? ⟨gb123, 0, none⟩ = some (.string a0_0) := (zbc BK123.out 0).trans rfl; have hcz30_1 : w29.cell? ⟨gb123, 1, none⟩ = some (.slice A0_1 l0_1.length c0_1) := (zbc BK123.out 1).trans rfl; have hcz30_2 : w29.cell? ⟨gb123, 2, none⟩ = some (.slice A0_2 l0_2.length c0_2) := (zbc BK123.out 2).trans rfl; have hcz30_3 : w29.cell? ⟨gb123, 3, none⟩ = some (.slice A0_3 l0_3.length c0_3) := (zbc BK123.out 3).trans rfl; have hcz30_4 : w29.cell? ⟨gb123, 4, none⟩ = some (.slice A0_4 l0_4.length c0_4) := (zbc BK123.out 4).trans rfl; have hfz30_0 := zbf BK123.out 0; have hfz30_1 := zbf BK123.out 1; have hfz30_2 := zbf BK123.out 2; have hfz30_3 := zbf BK123.out 3; have hfz30_4 := zbf BK123.out 4) | ((with_reducible refine gate_callee (f := 14) rfl ?_); refine goesL_ (some 15) rfl rfl Try.func14 (by kernel_rfl) rfl #[.slice A0_1 l0_1.length c0_1, .int .i64 (wrap64 (a1 - (a0_0.size : Int)))] rfl (by (try simp only [List.map_toArray, List.map_cons, List.map_nil]); first | done | rfl | (simp only [List.length_drop, List.length_take]; rfl)) ?_; (with_reducible refine (laws_szTokenS.calls k _ _ l0_1 (wrap64 (a1 - (a0_0.size : Int))) t124 _ ?side1 ?side2 A6.out).mono ?_); (case side1 => repeat (first | exact (Kd.C_below HR0_1.out HB.out) | (with_reducible refine Kd.C_alloc ?_ _) | (with_reducible refine Kd.C_drewN ?_ _) | (with_reducible refine Kd.C_drew ?_))); (case side2 => exact HC0_1.out); rintro e w31 ⟨rfl, hb⟩; refine ⟨_, rfl, ?_⟩; have n0_ := Zz.mk (blk_below (g := gb123) (o := .cells #[.string a0_0, .slice A0_1 l0_1.length c0_1, .slice A0_2 l0_2.length c0_2, .slice A0_3 l0_3.length c0_3, .slice A0_4 l0_4.length c0_4] 27 (0, 0)) (by (with_reducible repeat (first | refine zdn ?_ _ | refine zdr ?_ | refine zda ?_ _)); exact BK123.out) hb); have n1_ := Zz.mk (below_step (by repeat (first | (with_reducible first | exact HB.out | apply zba | apply zbn | apply zb1 | refine zbs ?_ GE123.out) | exact HB.out)) hb); clear BK123; clear HB; have BK123 := n0_; have HB := n1_; clear n0_ n1_; (try clear hb); (try clear hb2); (try clear hk); (try clear hi); have hcz32_0 : w31.cell? ⟨gb123, 0, none⟩ = some (.string a0_0) := (zbc BK123.out 0).trans rfl; have hcz32_1 : w31.cell? ⟨gb123, 1, none⟩ = some (.slice A0_1 l0_1.length c0_1) := (zbc BK123.out 1).trans rfl; have hcz32_2 : w31.cell? ⟨gb123, 2, none⟩ = some (.slice A0_2 l0_2.length c0_2) := (zbc BK123.out 2).trans rfl; have hcz32_3 : w31.cell? ⟨gb123, 3, none⟩ = some (.slice A0_3 l0_3.length c0_3) := (zbc BK123.out 3).trans rfl; have hcz32_4 : w31.cell? ⟨gb123, 4, none⟩ = some (.slice A0_4 l0_4.length c0_4) := (zbc BK123.out 4).trans rfl; have hfz32_0 := zbf BK123.out 0; have hfz32_1 := zbf BK123.out 1; have hfz32_2 := zbf BK123.out 2; have hfz32_3 := zbf BK123.out 3; have hfz32_4 := zbf BK123.out 4) | ((with_reducible refine gate_callee (f := 15) rfl ?_); refine goesL_ (some 21) rfl rfl Try.func15 (by kernel_rfl) rfl #[.slice A0_2 l0_2.length c0_2, .int .i64 t124] rfl (by (try simp only [List.map_toArray, List.map_cons, List.map_nil]); first | done | rfl | (simp only [List.length_drop, List.length_take]; rfl)) ?_; (with_reducible refine (laws_szLevelS.calls k _ _ l0_2 t124 t125 _ ?side1 ?side2 A11.out).mono ?_); (case side1 => repeat (first | exact (Kd.C_below HR0_2.out HB.out) | (with_reducible refine Kd.C_alloc ?_ _) | (with_reducible refine Kd.C_drewN ?_ _) | (with_reducible refine Kd.C_drew ?_))); (case side2 => exact HC0_2.out); rintro e w33 ⟨rfl, hb⟩; refine ⟨_, rfl, ?_⟩; have n0_ := Zz.mk (blk_below (g := gb123) (o := .cells #[.string a0_0, .slice A0_1 l0_1.length c0_1, .slice A0_2 l0_2.length c0_2, .slice A0_3 l0_3.length c0_3, .slice A0_4 l0_4.length c0_4] 27 (0, 0)) (by (with_reducible repeat (first | refine zdn ?_ _ | refine zdr ?_ | refine zda ?_ _)); exact BK123.out) hb); have n1_ := Zz.mk (below_step (by repeat (first | (with_reducible first | exact HB.out | apply zba | apply zbn | apply zb1 | refine zbs ?_ GE123.out) | exact HB.out)) hb); clear BK123; clear HB; have BK123 := n0_; have HB := n1_; clear n0_ n1_; (try clear hb); (try clear hb2); (try clear hk); (try clear hi); have hcz34_0 : w33.cell? ⟨gb123, 0, none⟩ = some (.string a0_0) := (zbc BK123.out 0).trans rfl; have hcz34_1 : w33.cell? ⟨gb123, 1, none⟩ = some (.slice A0_1 l0_1.length c0_1) := (zbc BK123.out 1).trans rfl; have hcz34_2 : w33.cell? ⟨gb123, 2, none⟩ = some (.slice A0_2 l0_2.length c0_2) := (zbc BK123.out 2).trans rfl; have hcz34_3 : w33.cell? ⟨gb123, 3, none⟩ = some (.slice A0_3 l0_3.length c0_3) := (zbc BK123.out 3).trans rfl; have hcz34_4 : w33.cell? ⟨gb123, 4, none⟩ = some (.slice A0_4 l0_4.length c0_4) := (zbc BK123.out 4).trans rfl; have hfz34_0 := zbf BK123.out 0; have hfz34_1 := zbf BK123.out 1; have hfz34_2 := zbf BK123.out 2; have hfz34_3 := zbf BK123.out 3; have hfz34_4 := zbf BK123.out 4) | ((with_reducible refine gate_callee (f := 16) rfl ?_); refine goesL_ (some 27) rfl rfl Try.func16 (by kernel_rfl) rfl #[.slice A0_3 l0_3.length c0_3, .int .i64 t125] rfl (by (try simp only [List.map_toArray, List.map_cons, List.map_nil]); first | done | rfl | (simp only [List.length_drop, List.length_take]; rfl)) ?_; (with_reducible refine (laws_szGRuleS.calls k _ _ l0_3 t125 t126 _ ?side1 ?side2 A18.out).mono ?_); (case side1 => repeat (first | exact (Kd.C_below HR0_3.out HB.out) | (with_reducible refine Kd.C_alloc ?_ _) | (with_reducible refine Kd.C_drewN ?_ _) | (with_reducible refine Kd.C_drew ?_))); (case side2 => exact HC0_3.out); rintro e w35 ⟨rfl, hb⟩; refine ⟨_, rfl, ?_⟩; have n0_ := Zz.mk (blk_below (g := gb123) (o := .cells #[.string a0_0, .slice A0_1 l0_1.length c0_1, .slice A0_2 l0_2.length c0_2, .slice A0_3 l0_3.length c0_3, .slice A0_4 l0_4.length c0_4] 27 (0, 0)) (by (with_reducible repeat (first | refine zdn ?_ _ | refine zdr ?_ | refine zda ?_ _)); exact BK123.out) hb); have n1_ := Zz.mk (below_step (by repeat (first | (with_reducible first | exact HB.out | apply zba | apply zbn | apply zb1 | refine zbs ?_ GE123.out) | exact HB.out)) hb); clear BK123; clear HB; have BK123 := n0_; have HB := n1_; clear n0_ n1_; (try clear hb); (try clear hb2); (try clear hk); (try clear hi); have hcz36_0 : w35.cell? ⟨gb123, 0, none⟩ = some (.string a0_0) := (zbc BK123.out 0).trans rfl; have hcz36_1 : w35.cell? ⟨gb123, 1, none⟩ = some (.slice A0_1 l0_1.length c0_1) := (zbc BK123.out 1).trans rfl; have hcz36_2 : w35.cell? ⟨gb123, 2, none⟩ = some (.slice A0_2 l0_2.length c0_2) := (zbc BK123.out 2).trans rfl; have hcz36_3 : w35.cell? ⟨gb123, 3, none⟩ = some (.slice A0_3 l0_3.length c0_3) := (zbc BK123.out 3).trans rfl; have hcz36_4 : w35.cell? ⟨gb123, 4, none⟩ = some (.slice A0_4 l0_4.length c0_4) := (zbc BK123.out 4).trans rfl; have hfz36_0 := zbf BK123.out 0; have hfz36_1 := zbf BK123.out 1; have hfz36_2 := zbf BK123.out 2; have hfz36_3 := zbf BK123.out 3; have hfz36_4 := zbf BK123.out 4) | ((with_reducible refine gate_callee (f := 17) rfl ?_); refine goesL_ (some 33) rfl rfl Try.func17 (by kernel_rfl) rfl #[.slice A0_4 l0_4.length c0_4, .int .i64 t126] rfl (by (try simp only [List.map_toArray, List.map_cons, List.map_nil]); first | done | rfl | (simp only [List.length_drop, List.length_take]; rfl)) ?_; (with_reducible refine (laws_szPartS.calls k _ _ l0_4 t126 t127 _ ?side1 ?side2 A27.out).mono ?_); (case side1 => repeat (first | exact (Kd.C_below HR0_4.out HB.out) | (with_reducible refine Kd.C_alloc ?_ _) | (with_reducible refine Kd.C_drewN ?_ _) | (with_reducible refine Kd.C_drew ?_))); (case side2 => exact HC0_4.out); rintro e w37 ⟨rfl, hb⟩; refine ⟨_, rfl, ?_⟩; have n0_ := Zz.mk (blk_below (g := gb123) (o := .cells #[.string a0_0, .slice A0_1 l0_1.length c0_1, .slice A0_2 l0_2.length c0_2, .slice A0_3 l0_3.length c0_3, .slice A0_4 l0_4.length c0_4] 27 (0, 0)) (by (with_reducible repeat (first | refine zdn ?_ _ | refine zdr ?_ | refine zda ?_ _)); exact BK123.out) hb); have n1_ := Zz.mk (below_step (by repeat (first | (with_reducible first | exact HB.out | apply zba | apply zbn | apply zb1 | refine zbs ?_ GE123.out) | exact HB.out)) hb); clear BK123; clear HB; have BK123 := n0_; have HB := n1_; clear n0_ n1_; (try clear hb); (try clear hb2); (try clear hk); (try clear hi)))
      go_ret
      exact ⟨by first | rfl | (simp [errW_none, errW_some] <;> rfl) | (simp [*, errW_none, errW_some] <;> rfl), by repeat (first | (with_reducible first | exact HB.out | apply zba | apply zbn | apply zb1 | refine zbs ?_ GE123.out) | exact HB.out)⟩
     ·rw [if_neg c28] at H
      have c28b0 : decide (t127 < 0) = false := decide_eq_false c28
      clear c28
      obtain rfl := Option.some.inj H
      go_enter Try.func5, Try.ntmps5
      go_wp2_with (first | ((with_reducible refine gate_dst (N := 2) rfl ?_); refine box_event ?hg (N := 2) ?hd (cs := #[.string a0_0, .slice A0_1 l0_1.length c0_1, .slice A0_2 l0_2.length c0_2, .slice A0_3 l0_3.length c0_3, .slice A0_4 l0_4.length c0_4]) (t := 27) ?hr ?_; (case hd => rfl); (case hg => rfl); (case hr => first | (go_simp; done) | (go_simp; rfl)); intro gb123 hg w38 hbox hb; have n0_ := Zz.mk (below_step (by repeat (first | (with_reducible first | exact HB.out | apply zba | apply zbn | apply zb1) | exact HB.out)) hb); have n1_ := Zz.mk (hbox); have n2_ := Zz.mk ((by rw [hg]; exact (zsz (by repeat (first | (with_reducible first | exact HB.out | apply zba | apply zbn | apply zb1) | exact HB.out))) : w.heap.size ≤ gb123)); have n3_ := Zz.mk ((by rw [hg]; exact (zsz (by repeat (first | (with_reducible first | exact HB.out | apply zba | apply zbn | apply zb1) | exact HB.out))) : w.heap.size ≤ gb123)); clear HB; have HB := n0_; have BK123 := n1_; have GW123 := n2_; have GE123 := n3_; clear n0_ n1_ n2_ n3_; clear hb hbox hg; have hcz39_0 : w38.cell? ⟨gb123, 0, none⟩ = some (.string a0_0) := (zbc BK123.out 0).trans rfl; have hcz39_1 : w38.cell? ⟨gb123, 1, none⟩ = some (.slice A0_1 l0_1.length c0_1) := (zbc BK123.out 1).trans rfl; have hcz39_2 : w38.cell? ⟨gb123, 2, none⟩ = some (.slice A0_2 l0_2.length c0_2) := (zbc BK123.out 2).trans rfl; have hcz39_3 : w38.cell? ⟨gb123, 3, none⟩ = some (.slice A0_3 l0_3.length c0_3) := (zbc BK123.out 3).trans rfl; have hcz39_4 : w38.cell? ⟨gb123, 4, none⟩ = some (.slice A0_4 l0_4.length c0_4) := (zbc BK123.out 4).trans rfl; have hfz39_0 := zbf BK123.out 0; have hfz39_1 := zbf BK123.out 1; have hfz39_2 := zbf BK123.out 2; have hfz39_3 := zbf BK123.out 3; have hfz39_4 := zbf BK123.out 4) | ((with_reducible refine gate_callee (f := 14) rfl ?_); refine goesL_ (some 15) rfl rfl Try.func14 (by kernel_rfl) rfl #[.slice A0_1 l0_1.length c0_1, .int .i64 (wrap64 (a1 - (a0_0.size : Int)))] rfl (by (try simp only [List.map_toArray, List.map_cons, List.map_nil]); first | done | rfl | (simp only [List.length_drop, List.length_take]; rfl)) ?_; (with_reducible refine (laws_szTokenS.calls k _ _ l0_1 (wrap64 (a1 - (a0_0.size : Int))) t124 _ ?side1 ?side2 A6.out).mono ?_); (case side1 => repeat (first | exact (Kd.C_below HR0_1.out HB.out) | (with_reducible refine Kd.C_alloc ?_ _) | (with_reducible refine Kd.C_drewN ?_ _) | (with_reducible refine Kd.C_drew ?_))); (case side2 => exact HC0_1.out); rintro e w40 ⟨rfl, hb⟩; refine ⟨_, rfl, ?_⟩; have n0_ := Zz.mk (blk_below (g := gb123) (o := .cells #[.string a0_0, .slice A0_1 l0_1.length c0_1, .slice A0_2 l0_2.length c0_2, .slice A0_3 l0_3.length c0_3, .slice A0_4 l0_4.length c0_4] 27 (0, 0)) (by (with_reducible repeat (first | refine zdn ?_ _ | refine zdr ?_ | refine zda ?_ _)); exact BK123.out) hb); have n1_ := Zz.mk (below_step (by repeat (first | (with_reducible first | exact HB.out | apply zba | apply zbn | apply zb1 | refine zbs ?_ GE123.out) | exact HB.out)) hb); clear BK123; clear HB; have BK123 := n0_; have HB := n1_; clear n0_ n1_; (try clear hb); (try clear hb2); (try clear hk); (try clear hi); have hcz41_0 : w40.cell? ⟨gb123, 0, none⟩ = some (.string a0_0) := (zbc BK123.out 0).trans rfl; have hcz41_1 : w40.cell? ⟨gb123, 1, none⟩ = some (.slice A0_1 l0_1.length c0_1) := (zbc BK123.out 1).trans rfl; have hcz41_2 : w40.cell? ⟨gb123, 2, none⟩ = some (.slice A0_2 l0_2.length c0_2) := (zbc BK123.out 2).trans rfl; have hcz41_3 : w40.cell? ⟨gb123, 3, none⟩ = some (.slice A0_3 l0_3.length c0_3) := (zbc BK123.out 3).trans rfl; have hcz41_4 : w40.cell? ⟨gb123, 4, none⟩ = some (.slice A0_4 l0_4.length c0_4) := (zbc BK123.out 4).trans rfl; have hfz41_0 := zbf BK123.out 0; have hfz41_1 := zbf BK123.out 1; have hfz41_2 := zbf BK123.out 2; have hfz41_3 := zbf BK123.out 3; have hfz41_4 := zbf BK123.out 4) | ((with_reducible refine gate_callee (f := 15) rfl ?_); refine goesL_ (some 21) rfl rfl Try.func15 (by kernel_rfl) rfl #[.slice A0_2 l0_2.length c0_2, .int .i64 t124] rfl (by (try simp only [List.map_toArray, List.map_cons, List.map_nil]); first | done | rfl | (simp only [List.length_drop, List.length_take]; rfl)) ?_; (with_reducible refine (laws_szLevelS.calls k _ _ l0_2 t124 t125 _ ?side1 ?side2 A11.out).mono ?_); (case side1 => repeat (first | exact (Kd.C_below HR0_2.out HB.out) | (with_reducible refine Kd.C_alloc ?_ _) | (with_reducible refine Kd.C_drewN ?_ _) | (with_reducible refine Kd.C_drew ?_))); (case side2 => exact HC0_2.out); rintro e w42 ⟨rfl, hb⟩; refine ⟨_, rfl, ?_⟩; have n0_ := Zz.mk (blk_below (g := gb123) (o := .cells #[.string a0_0, .slice A0_1 l0_1.length c0_1, .slice A0_2 l0_2.length c0_2, .slice A0_3 l0_3.length c0_3, .slice A0_4 l0_4.length c0_4] 27 (0, 0)) (by (with_reducible repeat (first | refine zdn ?_ _ | refine zdr ?_ | refine zda ?_ _)); exact BK123.out) hb); have n1_ := Zz.mk (below_step (by repeat (first | (with_reducible first | exact HB.out | apply zba | apply zbn | apply zb1 | refine zbs ?_ GE123.out) | exact HB.out)) hb); clear BK123; clear HB; have BK123 := n0_; have HB := n1_; clear n0_ n1_; (try clear hb); (try clear hb2); (try clear hk); (try clear hi); have hcz43_0 : w42.cell? ⟨gb123, 0, none⟩ = some (.string a0_0) := (zbc BK123.out 0).trans rfl; have hcz43_1 : w42.cell? ⟨gb123, 1, none⟩ = some (.slice A0_1 l0_1.length c0_1) := (zbc BK123.out 1).trans rfl; have hcz43_2 : w42.cell? ⟨gb123, 2, none⟩ = some (.slice A0_2 l0_2.length c0_2) := (zbc BK123.out 2).trans rfl; have hcz43_3 : w42.cell? ⟨gb123, 3, none⟩ = some (.slice A0_3 l0_3.length c0_3) := (zbc BK123.out 3).trans rfl; have hcz43_4 : w42.cell? ⟨gb123, 4, none⟩ = some (.slice A0_4 l0_4.length c0_4) := (zbc BK123.out 4).trans rfl; have hfz43_0 := zbf BK123.out 0; have hfz43_1 := zbf BK123.out 1; have hfz43_2 := zbf BK123.out 2; have hfz43_3 := zbf BK123.out 3; have hfz43_4 := zbf BK123.out 4) | ((with_reducible refine gate_callee (f := 16) rfl ?_); refine goesL_ (some 27) rfl rfl Try.func16 (by kernel_rfl) rfl #[.slice A0_3 l0_3.length c0_3, .int .i64 t125] rfl (by (try simp only [List.map_toArray, List.map_cons, List.map_nil]); first | done | rfl | (simp only [List.length_drop, List.length_take]; rfl)) ?_; (with_reducible refine (laws_szGRuleS.calls k _ _ l0_3 t125 t126 _ ?side1 ?side2 A18.out).mono ?_); (case side1 => repeat (first | exact (Kd.C_below HR0_3.out HB.out) | (with_reducible refine Kd.C_alloc ?_ _) | (with_reducible refine Kd.C_drewN ?_ _) | (with_reducible refine Kd.C_drew ?_))); (case side2 => exact HC0_3.out); rintro e w44 ⟨rfl, hb⟩; refine ⟨_, rfl, ?_⟩; have n0_ := Zz.mk (blk_below (g := gb123) (o := .cells #[.string a0_0, .slice A0_1 l0_1.length c0_1, .slice A0_2 l0_2.length c0_2, .slice A0_3 l0_3.length c0_3, .slice A0_4 l0_4.length c0_4] 27 (0, 0)) (by (with_reducible repeat (first | refine zdn ?_ _ | refine zdr ?_ | refine zda ?_ _)); exact BK123.out) hb); have n1_ := Zz.mk (below_step (by repeat (first | (with_reducible first | exact HB.out | apply zba | apply zbn | apply zb1 | refine zbs ?_ GE123.out) | exact HB.out)) hb); clear BK123; clear HB; have BK123 := n0_; have HB := n1_; clear n0_ n1_; (try clear hb); (try clear hb2); (try clear hk); (try clear hi); have hcz45_0 : w44.cell? ⟨gb123, 0, none⟩ = some (.string a0_0) := (zbc BK123.out 0).trans rfl; have hcz45_1 : w44.cell? ⟨gb123, 1, none⟩ = some (.slice A0_1 l0_1.length c0_1) := (zbc BK123.out 1).trans rfl; have hcz45_2 : w44.cell? ⟨gb123, 2, none⟩ = some (.slice A0_2 l0_2.length c0_2) := (zbc BK123.out 2).trans rfl; have hcz45_3 : w44.cell? ⟨gb123, 3, none⟩ = some (.slice A0_3 l0_3.length c0_3) := (zbc BK123.out 3).trans rfl; have hcz45_4 : w44.cell? ⟨gb123, 4, none⟩ = some (.slice A0_4 l0_4.length c0_4) := (zbc BK123.out 4).trans rfl; have hfz45_0 := zbf BK123.out 0; have hfz45_1 := zbf BK123.out 1; have hfz45_2 := zbf BK123.out 2; have hfz45_3 := zbf BK123.out 3; have hfz45_4 := zbf BK123.out 4) | ((with_reducible refine gate_callee (f := 17) rfl ?_); refine goesL_ (some 33) rfl rfl Try.func17 (by kernel_rfl) rfl #[.slice A0_4 l0_4.length c0_4, .int .i64 t126] rfl (by (try simp only [List.map_toArray, List.map_cons, List.map_nil]); first | done | rfl | (simp only [List.length_drop, List.length_take]; rfl)) ?_; (with_reducible refine (laws_szPartS.calls k _ _ l0_4 t126 t127 _ ?side1 ?side2 A27.out).mono ?_); (case side1 => repeat (first | exact (Kd.C_below HR0_4.out HB.out) | (with_reducible refine Kd.C_alloc ?_ _) | (with_reducible refine Kd.C_drewN ?_ _) | (with_reducible refine Kd.C_drew ?_))); (case side2 => exact HC0_4.out); rintro e w46 ⟨rfl, hb⟩; refine ⟨_, rfl, ?_⟩; have n0_ := Zz.mk (blk_below (g := gb123) (o := .cells #[.string a0_0, .slice A0_1 l0_1.length c0_1, .slice A0_2 l0_2.length c0_2, .slice A0_3 l0_3.length c0_3, .slice A0_4 l0_4.length c0_4] 27 (0, 0)) (by (with_reducible repeat (first | refine zdn ?_ _ | refine zdr ?_ | refine zda ?_ _)); exact BK123.out) hb); have n1_ := Zz.mk (below_step (by repeat (first | (with_reducible first | exact HB.out | apply zba | apply zbn | apply zb1 | refine zbs ?_ GE123.out) | exact HB.out)) hb); clear BK123; clear HB; have BK123 := n0_; have HB := n1_; clear n0_ n1_; (try clear hb); (try clear hb2); (try clear hk); (try clear hi)))
      go_ret
      exact ⟨by first | rfl | (simp [errW_none, errW_some] <;> rfl) | (simp [*, errW_none, errW_some] <;> rfl), by repeat (first | (with_reducible first | exact HB.out | apply zba | apply zbn | apply zb1 | refine zbs ?_ GE123.out) | exact HB.out)⟩
end Go.Proofs.Ythcmamcbnjphgaa.PFnExactGrammarShow
namespace Go.Proofs.Ythcmamcbnjphgaa.PFnExactGrammarShow
open Go.RowKit Go.Proofs.YthcmamcbnjphgaaW.PrintWords Go.Proofs.YthcmamcbnjphgaaW.PrintLast Go.Proofs.YthcmamcbnjphgaaW.PrintMore
def Sz (g : Nat → Option Int) (a : Int) (P : Prop) : Prop := ∃ t, Ev g t ∧ (0 ≤ t → t ≤ a ∧ P)
theorem sz_loop {α : Type} (L : Nat → List α → Int → Int → Option Int) (rdx : List α → Int → α) (el : Nat → α → Int → Option Int) (P Q : α → Prop)
  (hstep : ∀ k x0 x1 i, L (k + 1) x0 x1 i = if i < (x0.length : Int) then (if 0 ≤ i then ((el k (rdx x0 i) x1).bind fun t => (if t < 0 then (some (-1)) else (L k x0 t (wrap64 (i + 1))))) else (none)) else (some x1))
  (hrd : ∀ (x0 : List α) (i : Nat) (h : i < x0.length), rdx x0 (i : Int) = x0[i])
  (hel : ∀ x a, Q x → 0 ≤ a → a ≤ 1048576 → Sz (fun k => el k x a) a (P x)) (x0 : List α) (hQ : ∀ x ∈ x0, Q x) (hl : x0.length ≤ 9223372036854775807) :
  ∀ (d : Nat) (a : Int) (i : Nat), x0.length - i = d → 0 ≤ a → a ≤ 1048576 → Sz (fun k => L k x0 a (i : Int)) a (∀ x ∈ x0.drop i, P x) := by
 intro d
 induction d with
 | zero =>
  intro a i hd h0 h1
  refine ⟨a, Ev.step (f := fun _ => some a) (fun k => ?_) (Ev.now a), fun _ => ⟨Int.le_refl _, ?_⟩⟩
  ·rw [hstep, if_neg (by omega)]
  ·rw [List.drop_of_length_le (by omega)]; simp
 | succ d ih =>
  intro a i hd h0 h1
  have hi : i < x0.length := by omega
  obtain ⟨t, ht, hp⟩ := hel x0[i] a (hQ _ (List.getElem_mem hi)) h0 h1
  by_cases hn : t < 0
  ·refine ⟨-1, Ev.step (f := fun k => (el k (rdx x0 i) a).bind fun t => (if t < 0 then (some (-1)) else (L k x0 t (wrap64 ((i : Int) + 1))))) (fun k => by rw [hstep, if_pos (by omega), if_pos (by omega)]) ?_, fun h => by omega⟩
   refine Ev.bind (a := t) (by rw [hrd x0 i hi]; exact ht) ?_
   exact Ev.congr (fun k => if_pos hn) (Ev.now _)
  ·obtain ⟨h2, h3⟩ := hp (by omega)
   obtain ⟨t2, ht2, hp2⟩ := ih t (i + 1) (by omega) (by omega) (by omega)
   refine ⟨t2, Ev.step (f := fun k => (el k (rdx x0 i) a).bind fun t => (if t < 0 then (some (-1)) else (L k x0 t (wrap64 ((i : Int) + 1))))) (fun k => by rw [hstep, if_pos (by omega), if_pos (by omega)]) ?_, fun h => ?_⟩
   ·refine Ev.bind (a := t) (by rw [hrd x0 i hi]; exact ht) ?_
    refine Ev.congr (fun k => if_neg hn) ?_
    rw [wrap_in (by omega) (by omega)]
    exact ht2
   ·obtain ⟨h4, h5⟩ := hp2 h
    refine ⟨by omega, ?_⟩
    rw [List.drop_eq_getElem_cons hi]
    intro x hx
    rcases List.mem_cons.1 hx with rfl | hx
    ·exact h3
    ·exact h5 x hx
theorem sz_list {α : Type} (L : Nat → List α → Int → Int → Option Int) (P : α → Prop) (x0 : List α) (a : Int) (h0 : 0 ≤ a) (h1 : a ≤ 1048576) (hl : x0.length ≤ 9223372036854775807)
  (h : ∀ a : Int, 0 ≤ a → a ≤ 1048576 → Sz (fun k => L k x0 a 0) a (∀ x ∈ x0, P x)) :
  Sz (fun k => if (wrap64 (a - (x0.length : Int))) < 0 then (some (-1)) else (L k x0 (wrap64 (a - (x0.length : Int))) 0)) a (x0.length ≤ 1048576 ∧ ∀ x ∈ x0, P x) := by
 rw [wrap_in (by omega) (by omega)]
 by_cases hn : a - (x0.length : Int) < 0
 ·exact ⟨-1, Ev.congr (fun k => if_pos hn) (Ev.now _), fun h => by omega⟩
 ·obtain ⟨t, ht, hp⟩ := h (a - x0.length) (by omega) (by omega)
  refine ⟨t, Ev.congr (fun k => if_neg hn) ht, fun h => ?_⟩
  obtain ⟨h2, h3⟩ := hp h
  exact ⟨by omega, by omega, h3⟩
theorem sz_str {s : Nat} {a : Int} {f : Nat → Int → Option Int} {P : Prop} (h0 : 0 ≤ a) (h1 : a ≤ 1048576) (hs : s ≤ 9223372036854775807) (h : ∀ a : Int, 0 ≤ a → a ≤ 1048576 → Sz (fun k => f k a) a P) :
  Sz (fun k => if (wrap64 (a - (s : Int))) < 0 then (some (-1)) else f k (wrap64 (a - (s : Int)))) a P := by
 rw [wrap_in (by omega) (by omega)]
 by_cases hn : a - (s : Int) < 0
 ·exact ⟨-1, Ev.congr (fun k => if_pos hn) (Ev.now _), fun h => by omega⟩
 ·obtain ⟨t, ht, hp⟩ := h (a - s) (by omega) (by omega)
  refine ⟨t, Ev.congr (fun k => if_neg hn) ht, fun h => ?_⟩
  obtain ⟨h2, h3⟩ := hp h
  exact ⟨by omega, h3⟩
theorem sz_str2 {s : Nat} {a : Int} {f : Nat → Int → Option Int} {P : Prop} (h0 : 0 ≤ a) (h1 : a ≤ 1048576) (hs : s ≤ 9223372036854775807) (h : ∀ a : Int, 0 ≤ a → a ≤ 1048576 → Sz (fun k => f k a) a P) :
  Sz (fun k => if (wrap64 (a - (s : Int))) < 0 then (some (-1)) else f k (wrap64 (a - (s : Int)))) a (P ∧ s ≤ 1048576) := by
 rw [wrap_in (by omega) (by omega)]
 by_cases hn : a - (s : Int) < 0
 ·exact ⟨-1, Ev.congr (fun k => if_pos hn) (Ev.now _), fun h => by omega⟩
 ·obtain ⟨t, ht, hp⟩ := h (a - s) (by omega) (by omega)
  refine ⟨t, Ev.congr (fun k => if_neg hn) ht, fun h => ?_⟩
  obtain ⟨h2, h3⟩ := hp h
  exact ⟨by omega, h3, by omega⟩
theorem sz_done {a : Int} : Sz (fun _ => some a) a True := ⟨a, Ev.now a, fun _ => ⟨Int.le_refl _, trivial⟩⟩
theorem sz_then {g : Nat → Option Int} {f : Nat → Int → Option Int} {a : Int} {P P2 : Prop} (h1 : a ≤ 1048576) (h : Sz g a P) (k : ∀ t : Int, 0 ≤ t → t ≤ 1048576 → Sz (fun n => f n t) t P2) :
  Sz (fun n => (g n).bind fun t => if t < 0 then some (-1) else f n t) a (P ∧ P2) := by
 obtain ⟨t, ht, hp⟩ := h
 by_cases hn : t < 0
 ·exact ⟨-1, Ev.bind ht (Ev.congr (fun k => if_pos hn) (Ev.now _)), fun h => by omega⟩
 ·obtain ⟨h2, h3⟩ := hp (by omega)
  obtain ⟨t2, ht2, hp2⟩ := k t (by omega) (by omega)
  refine ⟨t2, Ev.bind ht (Ev.congr (fun k => if_neg hn) ht2), fun h => ?_⟩
  obtain ⟨h4, h5⟩ := hp2 h
  exact ⟨by omega, h3, h5⟩
theorem Sz.weaken {g : Nat → Option Int} {a : Int} {P P2 : Prop} (h : Sz g a P) (k : P → P2) : Sz g a P2 := by
 obtain ⟨t, ht, hp⟩ := h
 exact ⟨t, ht, fun h => ⟨(hp h).1, k (hp h).2⟩⟩
abbrev MX : Nat := 9223372036854775807
abbrev ML : Nat := 1048576
def Q98 (x : S98) : Prop := x.f0.size ≤ MX ∧ x.f1.size ≤ MX
def Q100 (x : S100) : Prop := x.f1.length ≤ MX ∧ ∀ s ∈ x.f1, s.size ≤ MX
def Q156 (x : S156) : Prop := x.f0.length ≤ MX ∧ x.f1.size ≤ MX
def Q104 (x : S104) : Prop := x.f0.size ≤ MX ∧ x.f1.length ≤ MX ∧ ∀ a ∈ x.f1, Q156 a
def Q108 (x : S108) : Prop := x.f1.size ≤ MX ∧ x.f2.length ≤ MX ∧ ∀ l ∈ x.f2, l.length ≤ MX
def P100 (x : S100) : Prop := x.f1.length ≤ ML
def P156 (x : S156) : Prop := x.f0.length ≤ ML
def P104 (x : S104) : Prop := x.f1.length ≤ ML ∧ ∀ a ∈ x.f1, P156 a
def P108 (x : S108) : Prop := (x.f2.length ≤ ML ∧ ∀ l ∈ x.f2, l.length ≤ ML) ∧ x.f1.size ≤ ML
theorem sz_then0 {g : Nat → Option Int} {a : Int} {P : Prop} (h1 : a ≤ 1048576) (h : Sz g a P) : Sz (fun n => (g n).bind fun t => if t < 0 then some (-1) else some t) a P :=
 (sz_then (f := fun _ t => some t) h1 h (fun t _ _ => sz_done)).weaken And.left
theorem sz_token (x : S98) (a : Int) (hQ : Q98 x) (h0 : 0 ≤ a) (h1 : a ≤ 1048576) : Sz (fun k => laws_szToken.f x.f0 x.f1 x.f2 a) a True := by
 unfold laws_szToken.f
 refine sz_str (f := fun _ b => if (wrap64 (b - (x.f1.size : Int))) < 0 then (some (-1)) else (some (wrap64 (b - (x.f1.size : Int))))) h0 h1 hQ.1 fun b h0 h1 => ?_
 exact sz_str (f := fun _ b => some b) h0 h1 hQ.2 fun b _ _ => sz_done
theorem sz_tokenS (l : List S98) (hl : l.length ≤ MX) (hQ : ∀ x ∈ l, Q98 x) (a : Int) (h0 : 0 ≤ a) (h1 : a ≤ 1048576) : Sz (fun k => laws_szTokenS.f k l a) a (l.length ≤ ML) := by
 unfold laws_szTokenS.f
 refine (sz_list laws_szTokenS.l0 (fun _ => True) l a h0 h1 hl fun b h0 h1 => ?_).weaken And.left
 have := sz_loop laws_szTokenS.l0 rd_T98 (fun k x a => laws_szToken.f x.f0 x.f1 x.f2 a) (fun _ => True) Q98 (fun k x0 x1 i => by rw [laws_szTokenS.l0]) (fun x0 i h => by simp [rd_T98, List.getD_eq_getElem?_getD, List.getElem?_eq_getElem h])
  (fun x a hQ h0 h1 => sz_token x a hQ h0 h1) l hQ hl l.length b 0 rfl h0 h1
 simpa using this
theorem sz_stringS (l : List ByteArray) (hl : l.length ≤ MX) (hQ : ∀ x ∈ l, x.size ≤ MX) (a : Int) (h0 : 0 ≤ a) (h1 : a ≤ 1048576) : Sz (fun k => laws_szStringS.f k l a) a (l.length ≤ ML) := by
 unfold laws_szStringS.f
 refine (sz_list laws_szStringS.l0 (fun _ => True) l a h0 h1 hl fun b h0 h1 => ?_).weaken And.left
 have := sz_loop laws_szStringS.l0 (rdOf ByteArray.empty) (fun k x a => some (wrap64 (a - (x.size : Int)))) (fun _ => True) (fun x => x.size ≤ MX) (fun k x0 x1 i => by rw [laws_szStringS.l0]; rfl) (fun x0 i h => by simp [rdOf, List.getD_eq_getElem?_getD, List.getElem?_eq_getElem h])
  (fun x a hQ h0 h1 => ⟨wrap64 (a - x.size), Ev.now _, fun h => by have hQ : x.size ≤ 9223372036854775807 := hQ; rw [wrap_in (by omega) (by omega)] at h ⊢; exact ⟨by omega, trivial⟩⟩) l hQ hl l.length b 0 rfl h0 h1
 simpa using this
theorem sz_level (x : S100) (a : Int) (hQ : Q100 x) (h0 : 0 ≤ a) (h1 : a ≤ 1048576) : Sz (fun k => laws_szLevel.f k x.f0 x.f1 a) a (P100 x) := by
 unfold laws_szLevel.f
 exact sz_then0 h1 (sz_stringS x.f1 hQ.1 hQ.2 a h0 h1)
theorem sz_levelS (l : List S100) (hl : l.length ≤ MX) (hQ : ∀ x ∈ l, Q100 x) (a : Int) (h0 : 0 ≤ a) (h1 : a ≤ 1048576) : Sz (fun k => laws_szLevelS.f k l a) a (l.length ≤ ML ∧ ∀ x ∈ l, P100 x) := by
 unfold laws_szLevelS.f
 refine sz_list laws_szLevelS.l0 P100 l a h0 h1 hl fun b h0 h1 => ?_
 have := sz_loop laws_szLevelS.l0 rd_T100 (fun k x a => laws_szLevel.f k x.f0 x.f1 a) P100 Q100 (fun k x0 x1 i => by rw [laws_szLevelS.l0]) (fun x0 i h => by simp [rd_T100, List.getD_eq_getElem?_getD, List.getElem?_eq_getElem h])
  sz_level l hQ hl l.length b 0 rfl h0 h1
 simpa using this
theorem sz_intS (l : List Int) (a : Int) (hl : l.length ≤ MX) (h0 : 0 ≤ a) (h1 : a ≤ 1048576) : Sz (fun k => laws_szIntS.f l a) a (l.length ≤ ML) := by
 unfold laws_szIntS.f
 replace hl : l.length ≤ 9223372036854775807 := hl
 rw [wrap_in (by omega) (by omega)]
 by_cases hn : a - (l.length : Int) < 0
 ·exact ⟨-1, Ev.congr (fun k => if_pos hn) (Ev.now _), fun h => by omega⟩
 ·exact ⟨a - l.length, Ev.congr (fun k => if_neg hn) (Ev.now _), fun h => ⟨by omega, by show l.length ≤ 1048576; omega⟩⟩
theorem sz_galt (x : S156) (a : Int) (hQ : Q156 x) (h0 : 0 ≤ a) (h1 : a ≤ 1048576) : Sz (fun k => laws_szGAlt.f x.f0 x.f1 a) a (P156 x) := by
 unfold laws_szGAlt.f
 exact (sz_then (f := fun _ b => if (wrap64 (b - (x.f1.size : Int))) < 0 then (some (-1)) else (some (wrap64 (b - (x.f1.size : Int))))) h1 (sz_intS x.f0 a hQ.1 h0 h1) fun t h0 h1 => sz_str (f := fun _ b => some b) h0 h1 hQ.2 fun b _ _ => sz_done).weaken And.left
theorem sz_galtS (l : List S156) (hl : l.length ≤ MX) (hQ : ∀ x ∈ l, Q156 x) (a : Int) (h0 : 0 ≤ a) (h1 : a ≤ 1048576) : Sz (fun k => laws_szGAltS.f k l a) a (l.length ≤ ML ∧ ∀ x ∈ l, P156 x) := by
 unfold laws_szGAltS.f
 refine sz_list laws_szGAltS.l0 P156 l a h0 h1 hl fun b h0 h1 => ?_
 have := sz_loop laws_szGAltS.l0 rd_T156 (fun k x a => laws_szGAlt.f x.f0 x.f1 a) P156 Q156 (fun k x0 x1 i => by rw [laws_szGAltS.l0]) (fun x0 i h => by simp [rd_T156, List.getD_eq_getElem?_getD, List.getElem?_eq_getElem h])
  sz_galt l hQ hl l.length b 0 rfl h0 h1
 simpa using this
theorem sz_grule (x : S104) (a : Int) (hQ : Q104 x) (h0 : 0 ≤ a) (h1 : a ≤ 1048576) : Sz (fun k => laws_szGRule.f k x.f0 x.f1 a) a (P104 x) := by
 unfold laws_szGRule.f
 refine sz_str (f := fun k b => (laws_szGAltS.f k x.f1 b).bind fun t114 => (if t114 < 0 then (some (-1)) else (some t114))) h0 h1 hQ.1 fun b h0 h1 => ?_
 exact sz_then0 h1 (sz_galtS x.f1 hQ.2.1 hQ.2.2 b h0 h1)
theorem sz_gruleS (l : List S104) (hl : l.length ≤ MX) (hQ : ∀ x ∈ l, Q104 x) (a : Int) (h0 : 0 ≤ a) (h1 : a ≤ 1048576) : Sz (fun k => laws_szGRuleS.f k l a) a (l.length ≤ ML ∧ ∀ x ∈ l, P104 x) := by
 unfold laws_szGRuleS.f
 refine sz_list laws_szGRuleS.l0 P104 l a h0 h1 hl fun b h0 h1 => ?_
 have := sz_loop laws_szGRuleS.l0 rd_T104 (fun k x a => laws_szGRule.f k x.f0 x.f1 a) P104 Q104 (fun k x0 x1 i => by rw [laws_szGRuleS.l0]) (fun x0 i h => by simp [rd_T104, List.getD_eq_getElem?_getD, List.getElem?_eq_getElem h])
  sz_grule l hQ hl l.length b 0 rfl h0 h1
 simpa using this
theorem sz_intSS (l : List (List Int)) (hl : l.length ≤ MX) (hQ : ∀ x ∈ l, x.length ≤ MX) (a : Int) (h0 : 0 ≤ a) (h1 : a ≤ 1048576) : Sz (fun k => laws_szIntSS.f k l a) a (l.length ≤ ML ∧ ∀ x ∈ l, x.length ≤ ML) := by
 unfold laws_szIntSS.f
 refine sz_list laws_szIntSS.l0 (fun x => x.length ≤ ML) l a h0 h1 hl fun b h0 h1 => ?_
 have := sz_loop laws_szIntSS.l0 rd_L6 (fun k x a => laws_szIntS.f x a) (fun x => x.length ≤ ML) (fun x => x.length ≤ MX) (fun k x0 x1 i => by rw [laws_szIntSS.l0]) (fun x0 i h => by simp [rd_L6, List.getD_eq_getElem?_getD, List.getElem?_eq_getElem h])
  sz_intS l hQ hl l.length b 0 rfl h0 h1
 simpa using this
theorem sz_part (x : S108) (a : Int) (hQ : Q108 x) (h0 : 0 ≤ a) (h1 : a ≤ 1048576) : Sz (fun k => laws_szPart.f k x.f0 x.f1 x.f2 a) a (P108 x) := by
 unfold laws_szPart.f
 refine sz_str2 (f := fun k b => (laws_szIntSS.f k x.f2 b).bind fun t114 => (if t114 < 0 then (some (-1)) else (some t114))) h0 h1 hQ.1 fun b h0 h1 => ?_
 exact sz_then0 h1 (sz_intSS x.f2 hQ.2.1 hQ.2.2 b h0 h1)
theorem sz_partS (l : List S108) (hl : l.length ≤ MX) (hQ : ∀ x ∈ l, Q108 x) (a : Int) (h0 : 0 ≤ a) (h1 : a ≤ 1048576) : Sz (fun k => laws_szPartS.f k l a) a (l.length ≤ ML ∧ ∀ x ∈ l, P108 x) := by
 unfold laws_szPartS.f
 refine sz_list laws_szPartS.l0 P108 l a h0 h1 hl fun b h0 h1 => ?_
 have := sz_loop laws_szPartS.l0 rd_T108 (fun k x a => laws_szPart.f k x.f0 x.f1 x.f2 a) P108 Q108 (fun k x0 x1 i => by rw [laws_szPartS.l0]) (fun x0 i h => by simp [rd_T108, List.getD_eq_getElem?_getD, List.getElem?_eq_getElem h])
  sz_part l hQ hl l.length b 0 rfl h0 h1
 simpa using this
def Short (toks : List S98) (levs : List S100) (rules : List S104) (parts : List S108) : Prop :=
 toks.length ≤ ML ∧ (levs.length ≤ ML ∧ ∀ x ∈ levs, P100 x) ∧ (rules.length ≤ ML ∧ ∀ x ∈ rules, P104 x) ∧ (parts.length ≤ ML ∧ ∀ x ∈ parts, P108 x)
def Sane (nm : ByteArray) (toks : List S98) (levs : List S100) (rules : List S104) (parts : List S108) : Prop :=
 nm.size ≤ MX ∧ (toks.length ≤ MX ∧ ∀ x ∈ toks, Q98 x) ∧ (levs.length ≤ MX ∧ ∀ x ∈ levs, Q100 x) ∧ (rules.length ≤ MX ∧ ∀ x ∈ rules, Q104 x) ∧ (parts.length ≤ MX ∧ ∀ x ∈ parts, Q108 x)
theorem sz_grammar (nm : ByteArray) (toks : List S98) (levs : List S100) (rules : List S104) (parts : List S108) (h : Sane nm toks levs rules parts) : Sz (fun k => laws_szGrammar.f k nm toks levs rules parts 1048576) 1048576 (Short toks levs rules parts) := by
 obtain ⟨hn, ht, hl, hr, hp⟩ := h
 unfold laws_szGrammar.f
 refine sz_str (f := fun k b => (laws_szTokenS.f k toks b).bind fun t124 => (if t124 < 0 then (some (-1)) else ((laws_szLevelS.f k levs t124).bind fun t125 => (if t125 < 0 then (some (-1)) else ((laws_szGRuleS.f k rules t125).bind fun t126 => (if t126 < 0 then (some (-1)) else ((laws_szPartS.f k parts t126).bind fun t127 => (if t127 < 0 then (some (-1)) else (some t127))))))))) (by omega) (by omega) hn fun a h0 h1 => ?_
 refine sz_then (f := fun k t124 => (laws_szLevelS.f k levs t124).bind fun t125 => (if t125 < 0 then (some (-1)) else ((laws_szGRuleS.f k rules t125).bind fun t126 => (if t126 < 0 then (some (-1)) else ((laws_szPartS.f k parts t126).bind fun t127 => (if t127 < 0 then (some (-1)) else (some t127))))))) h1 (sz_tokenS toks ht.1 ht.2 a h0 h1) fun a h0 h1 => ?_
 refine sz_then (f := fun k t125 => (laws_szGRuleS.f k rules t125).bind fun t126 => (if t126 < 0 then (some (-1)) else ((laws_szPartS.f k parts t126).bind fun t127 => (if t127 < 0 then (some (-1)) else (some t127))))) h1 (sz_levelS levs hl.1 hl.2 a h0 h1) fun a h0 h1 => ?_
 refine sz_then (f := fun k t126 => (laws_szPartS.f k parts t126).bind fun t127 => (if t127 < 0 then (some (-1)) else (some t127))) h1 (sz_gruleS rules hr.1 hr.2 a h0 h1) fun a h0 h1 => ?_
 exact sz_then0 h1 (sz_partS parts hp.1 hp.2 a h0 h1)
end Go.Proofs.Ythcmamcbnjphgaa.PFnExactGrammarShow
namespace Go.Proofs.Ythcmamcbnjphgaa.PFnExactGrammarShow
open Go.RowKit Go.Proofs.YthcmamcbnjphgaaW.PrintWords Go.Proofs.YthcmamcbnjphgaaW.PrintLast Go.Proofs.YthcmamcbnjphgaaW.PrintMore
attribute [local go_sem] max2_int min2_int max_two min_two max_three min_three max_four min_four   -- for this text's walks alone
def laws_toToken.f (a0_0 : ByteArray) (a0_1 : ByteArray) (a0_2 : Bool) : Option (ByteArray × ByteArray × Bool) := some (a0_0, a0_1, a0_2)
set_option maxHeartbeats 8000000 in
set_option maxRecDepth 100000 in
theorem laws_toToken.calls (a0_0 : ByteArray) (a0_1 : ByteArray) (a0_2 : Bool) (r1 : ByteArray) (r2 : ByteArray) (r3 : Bool) (w : World) (h : laws_toToken.f a0_0 a0_1 a0_2 = some (r1, r2, r3)) :
  Calls Try.prog 58 #[.agg #[.string a0_0, .string a0_1, .bool a0_2]] w fun e w' => e = .returned (.agg #[.string r1, .string r2, .bool r3]) ∧ Below w.heap.size w w' := by
 have hu98 := Try.underlying98
 have hu51 := Try.underlying51
 have HB := Zz.mk (Below.refl w.heap.size w)
 have H : (some (a0_0, a0_1, a0_2)) = some (r1, r2, r3) := h
 clear h
 simp only [Option.some.injEq, Prod.mk.injEq] at H
 obtain ⟨rfl, rfl, rfl⟩ := H
 go_enter Try.func58, Try.ntmps58
 go_wp2_with (first | ((with_reducible refine gate_dst (N := 1) rfl ?_); refine box_event ?hg (N := 1) ?hd (cs := #[.string a0_0, .string a0_1, .bool a0_2]) (t := 98) ?hr ?_; (case hd => rfl); (case hg => rfl); (case hr => first | (go_simp; done) | (go_simp; rfl)); intro gb198 hg w2 hbox hb; have n0_ := Zz.mk (below_step (by repeat (first | (with_reducible first | exact HB.out | apply zba | apply zbn | apply zb1) | exact HB.out)) hb); have n1_ := Zz.mk (hbox); have n2_ := Zz.mk ((by rw [hg]; exact (zsz (by repeat (first | (with_reducible first | exact HB.out | apply zba | apply zbn | apply zb1) | exact HB.out))) : w.heap.size ≤ gb198)); have n3_ := Zz.mk ((by rw [hg]; exact (zsz (by repeat (first | (with_reducible first | exact HB.out | apply zba | apply zbn | apply zb1) | exact HB.out))) : w.heap.size ≤ gb198)); clear HB; have HB := n0_; have BK198 := n1_; have GW198 := n2_; have GE198 := n3_; clear n0_ n1_ n2_ n3_; clear hb hbox hg) | ((with_reducible refine gate_dst (N := 2) rfl ?_); refine box_event ?hg (N := 2) ?hd (cs := #[.string (⟨#[]⟩ : ByteArray), .string (⟨#[]⟩ : ByteArray), .bool false]) (t := 51) ?hr ?_; (case hd => rfl); (case hg => rfl); (case hr => first | (go_simp; done) | (go_simp; rfl)); intro gb199 hg w3 hbox hb; have n0_ := Zz.mk (blk_below (g := gb198) (o := .cells #[.string a0_0, .string a0_1, .bool a0_2] 98 (0, 0)) (by (with_reducible repeat (first | refine zdn ?_ _ | refine zdr ?_ | refine zda ?_ _)); exact BK198.out) hb); have n1_ := Zz.mk (below_step (by repeat (first | (with_reducible first | exact HB.out | apply zba | apply zbn | apply zb1 | refine zbs ?_ GE198.out) | exact HB.out)) hb); have n2_ := Zz.mk (hbox); have n3_ := Zz.mk ((by rw [hg]; exact (zsz (by repeat (first | (with_reducible first | exact HB.out | apply zba | apply zbn | apply zb1 | refine zbs ?_ GE198.out) | exact HB.out))) : w.heap.size ≤ gb199)); have n4_ := Zz.mk ((by rw [hg]; exact (zsz (by repeat (first | (with_reducible first | exact HB.out | apply zba | apply zbn | apply zb1 | refine zbs ?_ GE198.out) | exact HB.out))) : w.heap.size ≤ gb199)); have n5_ := Zz.mk ((by rw [hg]; exact Nat.ne_of_lt (blk_lt (g := gb198) (o := .cells #[.string a0_0, .string a0_1, .bool a0_2] 98 (0, 0)) (by (with_reducible repeat (first | refine zdn ?_ _ | refine zdr ?_ | refine zda ?_ _)); exact BK198.out)) : gb198 ≠ gb199)); have n6_ := Zz.mk ((by rw [hg]; exact Nat.ne_of_gt (blk_lt (g := gb198) (o := .cells #[.string a0_0, .string a0_1, .bool a0_2] 98 (0, 0)) (by (with_reducible repeat (first | refine zdn ?_ _ | refine zdr ?_ | refine zda ?_ _)); exact BK198.out)) : gb199 ≠ gb198)); clear BK198; clear HB; have BK198 := n0_; have HB := n1_; have BK199 := n2_; have GW199 := n3_; have GE199 := n4_; have NB198_199 := n5_; have NB199_198 := n6_; clear n0_ n1_ n2_ n3_ n4_ n5_ n6_; clear hb hbox hg) | ((with_reducible refine gate_dst (N := 3) rfl ?_); refine box_event ?hg (N := 3) ?hd (cs := #[.string (⟨#[]⟩ : ByteArray), .string (⟨#[]⟩ : ByteArray), .bool false]) (t := 51) ?hr ?_; (case hd => rfl); (case hg => rfl); (case hr => first | (go_simp; done) | (go_simp; rfl)); intro gb200 hg w4 hbox hb; have n0_ := Zz.mk (blk_below (g := gb198) (o := .cells #[.string a0_0, .string a0_1, .bool a0_2] 98 (0, 0)) (by (with_reducible repeat (first | refine zdn ?_ _ | refine zdr ?_ | refine zda ?_ _)); exact BK198.out) hb); have n1_ := Zz.mk (blk_below (g := gb199) (o := .cells #[.string (⟨#[]⟩ : ByteArray), .string (⟨#[]⟩ : ByteArray), .bool false] 51 (0, 0)) (by (with_reducible repeat (first | refine zdn ?_ _ | refine zdr ?_ | refine zda ?_ _)); exact BK199.out) hb); have n2_ := Zz.mk (below_step (by repeat (first | (with_reducible first | exact HB.out | apply zba | apply zbn | apply zb1 | refine zbs ?_ GE198.out | refine zbs ?_ GE199.out) | exact HB.out)) hb); have n3_ := Zz.mk (hbox); have n4_ := Zz.mk ((by rw [hg]; exact (zsz (by repeat (first | (with_reducible first | exact HB.out | apply zba | apply zbn | apply zb1 | refine zbs ?_ GE198.out | refine zbs ?_ GE199.out) | exact HB.out))) : w.heap.size ≤ gb200)); have n5_ := Zz.mk ((by rw [hg]; exact (zsz (by repeat (first | (with_reducible first | exact HB.out | apply zba | apply zbn | apply zb1 | refine zbs ?_ GE198.out | refine zbs ?_ GE199.out) | exact HB.out))) : w.heap.size ≤ gb200)); have n6_ := Zz.mk ((by rw [hg]; exact Nat.ne_of_lt (blk_lt (g := gb198) (o := .cells #[.string a0_0, .string a0_1, .bool a0_2] 98 (0, 0)) (by (with_reducible repeat (first | refine zdn ?_ _ | refine zdr ?_ | refine zda ?_ _)); exact BK198.out)) : gb198 ≠ gb200)); have n7_ := Zz.mk ((by rw [hg]; exact Nat.ne_of_gt (blk_lt (g := gb198) (o := .cells #[.string a0_0, .string a0_1, .bool a0_2] 98 (0, 0)) (by (with_reducible repeat (first | refine zdn ?_ _ | refine zdr ?_ | refine zda ?_ _)); exact BK198.out)) : gb200 ≠ gb198)); have n8_ := Zz.mk ((by rw [hg]; exact Nat.ne_of_lt (blk_lt (g := gb199) (o := .cells #[.string (⟨#[]⟩ : ByteArray), .string (⟨#[]⟩ : ByteArray), .bool false] 51 (0, 0)) (by (with_reducible repeat (first | refine zdn ?_ _ | refine zdr ?_ | refine zda ?_ _)); exact BK199.out)) : gb199 ≠ gb200)); have n9_ := Zz.mk ((by rw [hg]; exact Nat.ne_of_gt (blk_lt (g := gb199) (o := .cells #[.string (⟨#[]⟩ : ByteArray), .string (⟨#[]⟩ : ByteArray), .bool false] 51 (0, 0)) (by (with_reducible repeat (first | refine zdn ?_ _ | refine zdr ?_ | refine zda ?_ _)); exact BK199.out)) : gb200 ≠ gb199)); clear BK198; clear BK199; clear HB; have BK198 := n0_; have BK199 := n1_; have HB := n2_; have BK200 := n3_; have GW200 := n4_; have GE200 := n5_; have NB198_200 := n6_; have NB200_198 := n7_; have NB199_200 := n8_; have NB200_199 := n9_; clear n0_ n1_ n2_ n3_ n4_ n5_ n6_ n7_ n8_ n9_; clear hb hbox hg; have hnb5 := NB198_199.out; have hnc5 := NB199_198.out; have hnb6 := NB198_200.out; have hnc6 := NB200_198.out; have hcz7_0 : w4.cell? ⟨gb198, 0, none⟩ = some (.string a0_0) := (zbc BK198.out 0).trans rfl; have hcz7_1 : w4.cell? ⟨gb198, 1, none⟩ = some (.string a0_1) := (zbc BK198.out 1).trans rfl; have hcz7_2 : w4.cell? ⟨gb198, 2, none⟩ = some (.bool a0_2) := (zbc BK198.out 2).trans rfl; have hfz7_0 := zbf BK198.out 0; have hfz7_1 := zbf BK198.out 1; have hfz7_2 := zbf BK198.out 2; have hnb8 := NB200_199.out; have hnc8 := NB199_200.out; have hcz9_0 : w4.cell? ⟨gb200, 0, none⟩ = some (.string (⟨#[]⟩ : ByteArray)) := (zbc BK200.out 0).trans rfl; have hcz9_1 : w4.cell? ⟨gb200, 1, none⟩ = some (.string (⟨#[]⟩ : ByteArray)) := (zbc BK200.out 1).trans rfl; have hcz9_2 : w4.cell? ⟨gb200, 2, none⟩ = some (.bool false) := (zbc BK200.out 2).trans rfl; have hfz9_0 := zbf BK200.out 0; have hfz9_1 := zbf BK200.out 1; have hfz9_2 := zbf BK200.out 2; have hcz10_0 : w4.cell? ⟨gb199, 0, none⟩ = some (.string (⟨#[]⟩ : ByteArray)) := (zbc BK199.out 0).trans rfl; have hcz10_1 : w4.cell? ⟨gb199, 1, none⟩ = some (.string (⟨#[]⟩ : ByteArray)) := (zbc BK199.out 1).trans rfl; have hcz10_2 : w4.cell? ⟨gb199, 2, none⟩ = some (.bool false) := (zbc BK199.out 2).trans rfl; have hfz10_0 := zbf BK199.out 0; have hfz10_1 := zbf BK199.out 1; have hfz10_2 := zbf BK199.out 2))
 refine bodyPost_ret (results_cell_row rfl _ _ gb199 51 #[.string a0_0, .string a0_1, .bool a0_2] (0, 0) _ rfl (by (with_reducible repeat (first | refine zdn ?_ _ | refine zdr ?_ | refine zda ?_ _)); refine blk_put (cs := #[.string a0_0, .string a0_1, .bool false]) ?_ 2 _ rfl; (with_reducible repeat (first | refine zdn ?_ _ | refine zdr ?_ | refine zda ?_ _)); refine blk_put (cs := #[.string a0_0, .string (⟨#[]⟩ : ByteArray), .bool false]) ?_ 1 _ rfl; (with_reducible repeat (first | refine zdn ?_ _ | refine zdr ?_ | refine zda ?_ _)); refine blk_put (cs := #[.string (⟨#[]⟩ : ByteArray), .string (⟨#[]⟩ : ByteArray), .bool false]) ?_ 0 _ rfl; (with_reducible repeat (first | refine zdn ?_ _ | refine zdr ?_ | refine zda ?_ _)); refine blk_far ?_ NB199_200.out _; (with_reducible repeat (first | refine zdn ?_ _ | refine zdr ?_ | refine zda ?_ _)); refine blk_far ?_ NB199_200.out _; (with_reducible repeat (first | refine zdn ?_ _ | refine zdr ?_ | refine zda ?_ _)); refine blk_far ?_ NB199_200.out _; (with_reducible repeat (first | refine zdn ?_ _ | refine zdr ?_ | refine zda ?_ _)); exact BK199.out) Try.underlying51 rfl (by kernel_rfl)) rfl ?_
 exact ⟨by first | rfl | (simp [errW_none, errW_some] <;> rfl) | (simp [*, errW_none, errW_some] <;> rfl), by repeat (first | (with_reducible first | exact HB.out | apply zba | apply zbn | apply zb1 | refine zbs ?_ GE198.out | refine zbs ?_ GE199.out | refine zbs ?_ GE200.out) | exact HB.out)⟩
def laws_toTokenS.l0 : Nat → List (S98) → List (S51) → Int → Option ((List (S51)))
 | 0, _, _, _ => none
 | k + 1, x0, x3, x4 => if x4 < (x0.length : Int) then (if 0 ≤ x4 then ((laws_toToken.f ((rd_T98 x0 x4).f0) ((rd_T98 x0 x4).f1) ((rd_T98 x0 x4).f2)).bind fun bt205 => (if x4 < (x3.length : Int) then (laws_toTokenS.l0 k x0 (x3.set (x4 : Int).toNat (⟨bt205.1, bt205.2.1, bt205.2.2⟩ : S51)) (wrap64 (x4 + 1))) else (none))) else (none)) else (some x3)
def laws_toTokenS.f (k : Nat) (l0 : List (S98)) : Option ((List (S51))) := if 0 ≤ (l0.length : Int) then (if ((l0.length : Int) : Int).toNat ≤ 7036874417766 then (laws_toTokenS.l0 k l0 (List.replicate ((l0.length : Int) : Int).toNat z51) 0) else (none)) else (none)
set_option maxHeartbeats 8000000 in
set_option maxRecDepth 100000 in
theorem laws_toTokenS.calls (k : Nat) (A0 : Option Addr) (c0 : Nat) (l0 : List (S98)) (r : List (S51)) (w : World) (hr0 : Kd.C k98 w A0 l0.length l0) (hc0 : l0.length ≤ c0) (h : laws_toTokenS.f k l0 = some r) :
  Calls Try.prog 21 #[.slice A0 l0.length c0] w fun e w' => ∃ v0_ : Value, e = .returned (v0_) ∧ Kd.R k51 51 w' w.heap.size (fun _ => True) v0_ r ∧ Below w.heap.size w w' := by
 have hu98 := Try.underlying98
 have hu51 := Try.underlying51
 have HR0 := Zz.mk hr0
 have HC0 := Zz.mk hc0
 clear hr0 hc0
 have HB := Zz.mk (Below.refl w.heap.size w)
 have H : (if 0 ≤ (l0.length : Int) then (if ((l0.length : Int) : Int).toNat ≤ 7036874417766 then (laws_toTokenS.l0 k l0 (List.replicate ((l0.length : Int) : Int).toNat z51) 0) else (none)) else (none)) = some r := h
 clear h
 by_cases c2 : 0 ≤ (l0.length : Int)
 ·rw [if_pos c2] at H
  have c2b0 := eq_true c2
  have c2b1 : decide (0 ≤ (l0.length : Int)) = true := decide_eq_true c2
  clear c2
  by_cases c3 : ((l0.length : Int) : Int).toNat ≤ 7036874417766
  ·rw [if_pos c3] at H
   have c3b0 := eq_true c3
   have c3b1 : decide (((l0.length : Int) : Int).toNat ≤ 7036874417766) = true := decide_eq_true c3
   clear c3
   obtain ⟨y201, hy201⟩ : ∃ y_ : List (S51), y_ = (List.replicate ((l0.length : Int) : Int).toNat z51) := ⟨_, rfl⟩
   replace H : (laws_toTokenS.l0 k l0 y201 0) = some r := by first | (rw [hy201]; with_reducible exact H) | (have H2_ := (Option.bind_some _ _).symm.trans H; rw [hy201]; with_reducible exact H2_) | (have H2_ := (Option.bind_some _ _).symm.trans H; with_reducible exact H2_) | with_reducible exact H | (rw [hy201]; exact H) | exact H
   have Ny201 := Zz.mk hy201
   clear hy201
   have H' := Zz.mk H
   clear H
   go_enter Try.func21, Try.ntmps21
   go_wp2_with (first | ((with_reducible refine gate_dst (N := 7) rfl ?_); refine Kd.R_make k51 _ 51 rfl (N := 7) rfl 31 _ _ rfl (l0.length : Int) rfl rfl Try.underlying31 (.agg #[(.string ⟨#[]⟩), (.string ⟨#[]⟩), (.bool false)]) 40 info51 rfl (by decide) (by omega) z51 (ok := fun _ => True) (okp := fun _ => True) (k51_mkM _ _ _ z51 ) (fun _ hk => hk) trivial (of_decide_eq_true (by first | (with_reducible assumption) | assumption)) (Nat.le_trans (Nat.mul_le_mul_right _ (of_decide_eq_true (by first | (with_reducible assumption) | assumption) : (l0.length : Int).toNat ≤ 7036874417766)) (by omega)) (Below.refl _ _) (Nat.le_refl _) ?_; intro v202 w4 ho5 hb hg_ hnew_; clear hg_ hnew_; (first | rw [← Ny201.out] at ho5 | (simp only [Int.reduceToNat] at ho5; rw [← Ny201.out] at ho5)); have n0_ := Zz.mk (Kd.R_lower ho5 (zsz (by repeat (first | (with_reducible first | exact HB.out | apply zba | apply zbn | apply zb1) | exact HB.out)))); have n1_ := Zz.mk (below_step (by repeat (first | (with_reducible first | exact HB.out | apply zba | apply zbn | apply zb1) | exact HB.out)) hb); clear HB; have HO203 := n0_; have HB := n1_; clear n0_ n1_; clear hb ho5))
   go_loopg [4] k (fun kq v4 w' => ∃ (x3_1 : List (S51)) (x4_1 : Int), v4 = .int .i64 x4_1 ∧ Zz (laws_toTokenS.l0 kq l0 x3_1 x4_1 = some r) ∧ Zz (kq ≤ k) ∧ Zz (Kd.R k51 51 w' w.heap.size (fun _ => True) v202 x3_1) ∧ Zz (Below w.heap.size w w'))
   case atStart => exact ⟨(y201), (0), (by first | rfl | (simp; done) | (simp [*]; done)), H', ⟨Nat.le_refl _⟩, ⟨by (with_reducible repeat (first | apply Kd.R_alloc | apply Kd.R_drewN | apply Kd.R_drew)); exact HO203.out⟩, ⟨by repeat (first | (with_reducible first | exact HB.out | apply zba | apply zbn | apply zb1) | exact HB.out)⟩⟩
   case round =>
    clear H'
    try clear c2
    try clear c2b0
    try clear c2b1
    try clear p2
    try clear c3
    try clear c3b0
    try clear c3b1
    obtain ⟨x3_1, x4_1, rfl, HA, HK1, HO_3, HB⟩ := hrel
    cases gk with
    | zero => exact absurd HA.out (by simp [laws_toTokenS.l0])
    | succ k1 =>
     have H := HA.out
     clear HA
     simp only [laws_toTokenS.l0] at H
     by_cases c6 : x4_1 < (l0.length : Int)
     ·rw [if_pos c6] at H
      have c6b0 : decide (x4_1 < (l0.length : Int)) = true := decide_eq_true c6
      clear c6
      by_cases c7 : 0 ≤ x4_1
      ·rw [if_pos c7] at H
       have c7b0 : decide (0 ≤ x4_1) = true := decide_eq_true c7
       clear c7
       replace H := Option.bind_eq_some_iff.mp H
       obtain ⟨⟨t205, t206, t207⟩, A80, H⟩ := H
       replace H : (if x4_1 < (x3_1.length : Int) then (laws_toTokenS.l0 k1 l0 (x3_1.set (x4_1 : Int).toNat (⟨t205, t206, t207⟩ : S51)) (wrap64 (x4_1 + 1))) else (none)) = some r := H
       have A8 := Zz.mk A80
       clear A80
       by_cases c9 : x4_1 < (x3_1.length : Int)
       ·rw [if_pos c9] at H
        have c9b0 : decide (x4_1 < (x3_1.length : Int)) = true := decide_eq_true c9
        clear c9
        obtain ⟨y208, hy208⟩ : ∃ y_ : List (S51), y_ = (x3_1.set (x4_1 : Int).toNat (⟨t205, t206, t207⟩ : S51)) := ⟨_, rfl⟩
        replace H : (laws_toTokenS.l0 k1 l0 y208 (wrap64 (x4_1 + 1))) = some r := by first | (rw [hy208]; with_reducible exact H) | (have H2_ := (Option.bind_some _ _).symm.trans H; rw [hy208]; with_reducible exact H2_) | (have H2_ := (Option.bind_some _ _).symm.trans H; with_reducible exact H2_) | with_reducible exact H | (rw [hy208]; exact H) | exact H
        have Ny208 := Zz.mk hy208
        clear hy208
        have H' := Zz.mk H
        clear H
        have p204 : 0 ≤ (x4_1 : Int) := of_decide_eq_true (by first | (with_reducible assumption) | assumption)
        have q204 : x4_1 < (l0.length : Int) := of_decide_eq_true (by first | (with_reducible assumption) | assumption)
        obtain ⟨ad204, e204, hx204_0, hx204_1, hx204_2⟩ := at_T98 HR0.out x4_1 p204 q204
        cases e204
        replace hx204_0 := (HB.out.cell (World.block_lt_of_cell? w _ hx204_0)).trans hx204_0
        replace hx204_1 := (HB.out.cell (World.block_lt_of_cell? w _ hx204_1)).trans hx204_1
        replace hx204_2 := (HB.out.cell (World.block_lt_of_cell? w _ hx204_2)).trans hx204_2
        replace p204 := eq_true p204
        replace q204 := eq_true q204
        go_wp2_with (first | ((with_reducible refine gate_callee (f := 58) rfl ?_); refine goesL_ (some 20) rfl rfl Try.func58 (by kernel_rfl) rfl #[.agg #[.string ((rd_T98 l0 x4_1).f0), .string ((rd_T98 l0 x4_1).f1), .bool ((rd_T98 l0 x4_1).f2)]] rfl (by (try simp only [List.map_toArray, List.map_cons, List.map_nil]); first | done | rfl | (simp only [List.length_drop, List.length_take]; rfl)) ?_; (with_reducible refine (laws_toToken.calls ((rd_T98 l0 x4_1).f0) ((rd_T98 l0 x4_1).f1) ((rd_T98 l0 x4_1).f2) t205 t206 t207 _ A8.out).mono ?_); rintro e w11 ⟨rfl, hb⟩; refine ⟨_, rfl, ?_⟩; have n0_ := Zz.mk (Kd.R_below (by (with_reducible repeat (first | apply Kd.R_alloc | apply Kd.R_drewN | apply Kd.R_drew)); exact HO_3.out) hb); have n1_ := Zz.mk (below_step (by repeat (first | (with_reducible first | exact HB.out | apply zba | apply zbn | apply zb1) | exact HB.out)) hb); clear HO_3; clear HB; have HO_3 := n0_; have HB := n1_; clear n0_ n1_; (try clear hb); (try clear hb2); (try clear hk); (try clear hi); have p10 : 0 ≤ (x4_1 : Int) := of_decide_eq_true (by first | (with_reducible assumption) | assumption); have q10 : (x4_1 : Int) < ((x3_1.length : Int) : Int) := of_decide_eq_true (by first | (with_reducible assumption) | assumption); obtain ⟨go10, co10, eo10, gb10, gl10, cl10, HG10⟩ := Kd.R_form HO_3.out (by omega); (first | cases eo10 | (injection eo10 with ea_ en_ ec_; (first | subst ea_ | (injection ea_ with ea_; subst ea_)); subst ec_; clear en_)); have GB10 := Zz.mk gb10; have GG10 := Zz.mk HG10; clear gb10 gl10 HG10; obtain ⟨ce10, hcl10, hM10, hcc10, hfr10⟩ := Kd.R_elem HO_3.out z51 (x4_1 : Int) p10 q10; obtain rfl := k51_openM hM10; have hx10_0 : w11.cell? ⟨go10, (x4_1 : Int).toNat * 3, none⟩ = some (.string ((rd_T51 x3_1 x4_1).f0)) := hcc10 0 _ rfl; have hx10_1 : w11.cell? ⟨go10, (x4_1 : Int).toNat * 3 + 1, none⟩ = some (.string ((rd_T51 x3_1 x4_1).f1)) := hcc10 1 _ rfl; have hx10_2 : w11.cell? ⟨go10, (x4_1 : Int).toNat * 3 + 2, none⟩ = some (.bool ((rd_T51 x3_1 x4_1).f2)) := hcc10 2 _ rfl; have hf10_0 : w11.frozen? ⟨go10, (x4_1 : Int).toNat * 3, none⟩ = false := hfr10 0; have hf10_1 : w11.frozen? ⟨go10, (x4_1 : Int).toNat * 3 + 1, none⟩ = false := hfr10 1; have hf10_2 : w11.frozen? ⟨go10, (x4_1 : Int).toNat * 3 + 2, none⟩ = false := hfr10 2; clear hcl10 hcc10 hfr10 hM10; replace p10 := eq_true p10; replace q10 := eq_true q10; have HX12 := Zz.mk (show Kd.R k51 51 w11 w.heap.size (fun _ => True) (.slice (some ⟨go10, 0, none⟩) x3_1.length co10) x3_1 from (by (with_reducible repeat (first | apply Kd.R_alloc | apply Kd.R_drewN | apply Kd.R_drew)); exact HO_3.out)); obtain ⟨ce12, hcl12, hM12, hcc12, hfr12⟩ := Kd.R_elem HX12.out z51 (x4_1 : Int) (of_decide_eq_true (by first | (with_reducible assumption) | assumption)) (by have h_ : (x4_1 : Int) < ((x3_1.length : Int) : Int) := of_decide_eq_true (by first | (with_reducible assumption) | assumption); first | exact h_ | (have e_ := (Kd.R_reads' HO_3.out).1; omega) | simpa using h_); obtain rfl := k51_openM hM12; have HP12 := Kd.R_seg HX12.out (x4_1 : Int) (of_decide_eq_true (by first | (with_reducible assumption) | assumption)) (by have h_ : (x4_1 : Int) < ((x3_1.length : Int) : Int) := of_decide_eq_true (by first | (with_reducible assumption) | assumption); first | exact h_ | (have e_ := (Kd.R_reads' HO_3.out).1; omega) | simpa using h_) (seg := [.string t205, .string t206, .bool t207]) (j := 0) hcl12 hcc12 (show 3 ≤ 3 from by decide) (x' := (⟨t205, t206, t207⟩ : S51)) (k51_mkM _ _ _ (⟨t205, t206, t207⟩ : S51) ) (fun _ hk => hk); have hx12_0 := hcc12 0 _ rfl; (try simp only [show (k51).sz = 3 from rfl, Nat.mul_one, Nat.add_zero] at hx12_0); have hf12_0 := hfr12 0; (try simp only [show (k51).sz = 3 from rfl, Nat.mul_one, Nat.add_zero] at hf12_0); have hx12_1 := hcc12 1 _ rfl; (try simp only [show (k51).sz = 3 from rfl, Nat.mul_one, Nat.add_zero] at hx12_1); have hf12_1 := hfr12 1; (try simp only [show (k51).sz = 3 from rfl, Nat.mul_one, Nat.add_zero] at hf12_1); have hx12_2 := hcc12 2 _ rfl; (try simp only [show (k51).sz = 3 from rfl, Nat.mul_one, Nat.add_zero] at hx12_2); have hf12_2 := hfr12 2; (try simp only [show (k51).sz = 3 from rfl, Nat.mul_one, Nat.add_zero] at hf12_2); clear hcl12 hcc12 hfr12 hM12) | ((with_reducible refine gate_store (t := 51) (p := 21) rfl ?_); refine store_event (t := 51) (p := 21) (v := ?vo_w13) (w1 := (((w11.setCell ⟨go10, (x4_1 : Int).toNat * 3, none⟩ (.string t205)).setCell ⟨go10, (x4_1 : Int).toNat * 3 + 1, none⟩ (.string t206)).setCell ⟨go10, (x4_1 : Int).toNat * 3 + 2, none⟩ (.bool t207))) ?hg ?ho ?hn ?hr ?_; (case ho => rfl); (case hg => rfl); (case hn => rfl); (case hr => first | (go_simp; done) | (go_simp; rfl)); intro w13 hw; have hg : w11.grownBy w13 (some go10) := (by rw [hw]; exact HP12.2); have hp_ : Kd.R k51 51 w13 w.heap.size (fun _ => True) (.slice (some ⟨go10, 0, none⟩) x3_1.length co10) y208 := (by rw [hw, Ny208.out]; exact HP12.1); clear HP12; have n0_ := Zz.mk (hp_); have n1_ := Zz.mk ((by rw [hw]; exact zbs (zbs (zbs (HB.out) GB10.out) GB10.out) GB10.out : Below w.heap.size w w13)); clear HO_3; clear HB; have HO_3 := n0_; have HB := n1_; clear n0_ n1_; clear hg hw hp_))
        go_roundg k1
        case measure => have := HK1.out; omega
        case rel => exact ⟨(y208), (wrap64 (x4_1 + 1)), (by first | rfl | (simp; done) | (simp [*]; done)), H', ⟨by have := HK1.out; omega⟩, ⟨by (with_reducible repeat (first | apply Kd.R_alloc | apply Kd.R_drewN | apply Kd.R_drew)); exact HO_3.out⟩, ⟨by repeat (first | (with_reducible first | exact HB.out | apply zba | apply zbn | apply zb1) | exact HB.out)⟩⟩
       ·rw [if_neg c9] at H
        exact absurd H (by simp)
      ·rw [if_neg c7] at H
       exact absurd H (by simp)
     ·rw [if_neg c6] at H
      have c6b0 : decide (x4_1 < (l0.length : Int)) = false := decide_eq_false c6
      clear c6
      obtain rfl := Option.some.inj H
      go_wp2
      go_ret
      exact ⟨_, by first | rfl | (simp [errW_none, errW_some] <;> rfl) | (simp [*, errW_none, errW_some] <;> rfl), by (with_reducible repeat (first | apply Kd.R_alloc | apply Kd.R_drewN | apply Kd.R_drew)); exact HO_3.out, by repeat (first | (with_reducible first | exact HB.out | apply zba | apply zbn | apply zb1) | exact HB.out)⟩
  ·rw [if_neg c3] at H
   exact absurd H (by simp)
 ·rw [if_neg c2] at H
  exact absurd H (by simp)
def laws_toStringS.l0 : Nat → List ByteArray → List ByteArray → Int → Option (List ByteArray)
 | 0, _, _, _ => none
 | k + 1, x0, x3, x4 => if x4 < (x0.length : Int) then (if 0 ≤ x4 then (if x4 < (x3.length : Int) then (laws_toStringS.l0 k x0 (x3.set (x4 : Int).toNat (rdOf ByteArray.empty x0 x4)) (wrap64 (x4 + 1))) else (none)) else (none)) else (some x3)
def laws_toStringS.f (k : Nat) (l0 : List ByteArray) : Option (List ByteArray) := if 0 ≤ (l0.length : Int) then (if ((l0.length : Int) : Int).toNat ≤ 17592186044416 then (laws_toStringS.l0 k l0 (List.replicate ((l0.length : Int) : Int).toNat (⟨#[]⟩ : ByteArray)) 0) else (none)) else (none)
set_option maxHeartbeats 8000000 in
set_option maxRecDepth 100000 in
theorem laws_toStringS.calls (k : Nat) (A0 : Option Addr) (c0 : Nat) (l0 : List ByteArray) (r : List ByteArray) (w : World) (hr0 : Kd.C Kd.string w A0 l0.length l0) (hc0 : l0.length ≤ c0) (h : laws_toStringS.f k l0 = some r) :
  Calls Try.prog 89 #[.slice A0 l0.length c0] w fun e w' => ∃ v0_ : Value, e = .returned (v0_) ∧ Kd.R Kd.string 9 w' w.heap.size (fun _ => True) v0_ r ∧ Below w.heap.size w w' := by
 have HR0 := Zz.mk hr0
 have HC0 := Zz.mk hc0
 clear hr0 hc0
 have HB := Zz.mk (Below.refl w.heap.size w)
 have H : (if 0 ≤ (l0.length : Int) then (if ((l0.length : Int) : Int).toNat ≤ 17592186044416 then (laws_toStringS.l0 k l0 (List.replicate ((l0.length : Int) : Int).toNat (⟨#[]⟩ : ByteArray)) 0) else (none)) else (none)) = some r := h
 clear h
 by_cases c2 : 0 ≤ (l0.length : Int)
 ·rw [if_pos c2] at H
  have c2b0 := eq_true c2
  have c2b1 : decide (0 ≤ (l0.length : Int)) = true := decide_eq_true c2
  clear c2
  by_cases c3 : ((l0.length : Int) : Int).toNat ≤ 17592186044416
  ·rw [if_pos c3] at H
   have c3b0 := eq_true c3
   have c3b1 : decide (((l0.length : Int) : Int).toNat ≤ 17592186044416) = true := decide_eq_true c3
   clear c3
   obtain ⟨y209, hy209⟩ : ∃ y_ : List ByteArray, y_ = (List.replicate ((l0.length : Int) : Int).toNat (⟨#[]⟩ : ByteArray)) := ⟨_, rfl⟩
   replace H : (laws_toStringS.l0 k l0 y209 0) = some r := by first | (rw [hy209]; with_reducible exact H) | (have H2_ := (Option.bind_some _ _).symm.trans H; rw [hy209]; with_reducible exact H2_) | (have H2_ := (Option.bind_some _ _).symm.trans H; with_reducible exact H2_) | with_reducible exact H | (rw [hy209]; exact H) | exact H
   have Ny209 := Zz.mk hy209
   clear hy209
   have H' := Zz.mk H
   clear H
   go_enter Try.func89, Try.ntmps89
   go_wp2_with (first | ((with_reducible refine gate_dst (N := 7) rfl ?_); refine Kd.R_make Kd.string _ 9 rfl (N := 7) rfl 52 _ _ rfl (l0.length : Int) rfl rfl Try.underlying52 (.string ⟨#[]⟩) 16 info9 rfl (by decide) (by omega) (⟨#[]⟩ : ByteArray) (ok := fun _ => True) (okp := fun _ => True) rfl (fun _ hk => hk) trivial (of_decide_eq_true (by first | (with_reducible assumption) | assumption)) (Nat.le_trans (Nat.mul_le_mul_right _ (of_decide_eq_true (by first | (with_reducible assumption) | assumption) : (l0.length : Int).toNat ≤ 17592186044416)) (by omega)) (Below.refl _ _) (Nat.le_refl _) ?_; intro v210 w4 ho5 hb hg_ hnew_; clear hg_ hnew_; (first | rw [← Ny209.out] at ho5 | (simp only [Int.reduceToNat] at ho5; rw [← Ny209.out] at ho5)); have n0_ := Zz.mk (Kd.R_lower ho5 (zsz (by repeat (first | (with_reducible first | exact HB.out | apply zba | apply zbn | apply zb1) | exact HB.out)))); have n1_ := Zz.mk (below_step (by repeat (first | (with_reducible first | exact HB.out | apply zba | apply zbn | apply zb1) | exact HB.out)) hb); clear HB; have HO211 := n0_; have HB := n1_; clear n0_ n1_; clear hb ho5))
   go_loopg [4] k (fun kq v4 w' => ∃ (x3_1 : List ByteArray) (x4_1 : Int), v4 = .int .i64 x4_1 ∧ Zz (laws_toStringS.l0 kq l0 x3_1 x4_1 = some r) ∧ Zz (kq ≤ k) ∧ Zz (Kd.R Kd.string 9 w' w.heap.size (fun _ => True) v210 x3_1) ∧ Zz (Below w.heap.size w w'))
   case atStart => exact ⟨(y209), (0), (by first | rfl | (simp; done) | (simp [*]; done)), H', ⟨Nat.le_refl _⟩, ⟨by (with_reducible repeat (first | apply Kd.R_alloc | apply Kd.R_drewN | apply Kd.R_drew)); exact HO211.out⟩, ⟨by repeat (first | (with_reducible first | exact HB.out | apply zba | apply zbn | apply zb1) | exact HB.out)⟩⟩
   case round =>
    clear H'
    try clear c2
    try clear c2b0
    try clear c2b1
    try clear p2
    try clear c3
    try clear c3b0
    try clear c3b1
    obtain ⟨x3_1, x4_1, rfl, HA, HK1, HO_3, HB⟩ := hrel
    cases gk with
    | zero => exact absurd HA.out (by simp [laws_toStringS.l0])
    | succ k1 =>
     have H := HA.out
     clear HA
     simp only [laws_toStringS.l0] at H
     by_cases c6 : x4_1 < (l0.length : Int)
     ·rw [if_pos c6] at H
      have c6b0 : decide (x4_1 < (l0.length : Int)) = true := decide_eq_true c6
      clear c6
      by_cases c7 : 0 ≤ x4_1
      ·rw [if_pos c7] at H
       have c7b0 : decide (0 ≤ x4_1) = true := decide_eq_true c7
       clear c7
       by_cases c8 : x4_1 < (x3_1.length : Int)
       ·rw [if_pos c8] at H
        have c8b0 : decide (x4_1 < (x3_1.length : Int)) = true := decide_eq_true c8
        clear c8
        obtain ⟨y213, hy213⟩ : ∃ y_ : List ByteArray, y_ = (x3_1.set (x4_1 : Int).toNat (rdOf ByteArray.empty l0 x4_1)) := ⟨_, rfl⟩
        replace H : (laws_toStringS.l0 k1 l0 y213 (wrap64 (x4_1 + 1))) = some r := by first | (rw [hy213]; with_reducible exact H) | (have H2_ := (Option.bind_some _ _).symm.trans H; rw [hy213]; with_reducible exact H2_) | (have H2_ := (Option.bind_some _ _).symm.trans H; with_reducible exact H2_) | with_reducible exact H | (rw [hy213]; exact H) | exact H
        have Ny213 := Zz.mk hy213
        clear hy213
        have H' := Zz.mk H
        clear H
        have p212 : 0 ≤ (x4_1 : Int) := of_decide_eq_true (by first | (with_reducible assumption) | assumption)
        have q212 : x4_1 < (l0.length : Int) := of_decide_eq_true (by first | (with_reducible assumption) | assumption)
        obtain ⟨ad212, e212, hx212_0⟩ := Kd.at_string HR0.out x4_1 p212 q212
        cases e212
        replace hx212_0 := (HB.out.cell (World.block_lt_of_cell? w _ hx212_0)).trans hx212_0
        replace p212 := eq_true p212
        replace q212 := eq_true q212
        have p9 : 0 ≤ (x4_1 : Int) := of_decide_eq_true (by first | (with_reducible assumption) | assumption)
        have q9 : (x4_1 : Int) < ((x3_1.length : Int) : Int) := of_decide_eq_true (by first | (with_reducible assumption) | assumption)
        obtain ⟨go9, co9, eo9, gb9, gl9, cl9, HG9⟩ := Kd.R_form HO_3.out (by omega)
        (first | cases eo9 | (injection eo9 with ea_ en_ ec_; (first | subst ea_ | (injection ea_ with ea_; subst ea_)); subst ec_; clear en_))
        have GB9 := Zz.mk gb9
        have GG9 := Zz.mk HG9
        clear gb9 gl9 HG9
        obtain ⟨hx9_0, hf9_0⟩ := Kd.R_celln (⟨#[]⟩ : ByteArray) HO_3.out (x4_1 : Int) p9 q9
        replace p9 := eq_true p9
        replace q9 := eq_true q9
        have HP10 := Kd.R_putg HO_3.out (x4_1 : Int) (rdOf ByteArray.empty l0 x4_1)
        go_wp2_with (first | ((with_reducible refine gate_store (t := 9) (p := 20) rfl ?_); refine store_event (t := 9) (p := 20) (v := ?vo_w11) (w1 := (wr.setCell ⟨go9, (x4_1 : Int).toNat, none⟩ (.string (rdOf ByteArray.empty l0 x4_1)))) ?hg ?ho ?hn ?hr ?_; (case ho => rfl); (case hg => rfl); (case hn => rfl); (case hr => first | (go_simp; done) | (go_simp; rfl)); intro w11 hw; have hg : wr.grownBy w11 (some go9) := (by rw [hw]; exact HP10.2); have hp_ : Kd.R Kd.string 9 w11 w.heap.size (fun _ => True) (.slice (some ⟨go9, 0, none⟩) x3_1.length co9) y213 := (by rw [hw, Ny213.out]; exact HP10.1); clear HP10; have n0_ := Zz.mk (hp_); have n1_ := Zz.mk ((by rw [hw]; exact zbs (HB.out) GB9.out : Below w.heap.size w w11)); clear HO_3; clear HB; have HO_3 := n0_; have HB := n1_; clear n0_ n1_; clear hg hw hp_))
        go_roundg k1
        case measure => have := HK1.out; omega
        case rel => exact ⟨(y213), (wrap64 (x4_1 + 1)), (by first | rfl | (simp; done) | (simp [*]; done)), H', ⟨by have := HK1.out; omega⟩, ⟨by (with_reducible repeat (first | apply Kd.R_alloc | apply Kd.R_drewN | apply Kd.R_drew)); exact HO_3.out⟩, ⟨by repeat (first | (with_reducible first | exact HB.out | apply zba | apply zbn | apply zb1) | exact HB.out)⟩⟩
       ·rw [if_neg c8] at H
        exact absurd H (by simp)
      ·rw [if_neg c7] at H
       exact absurd H (by simp)
     ·rw [if_neg c6] at H
      have c6b0 : decide (x4_1 < (l0.length : Int)) = false := decide_eq_false c6
      clear c6
      obtain rfl := Option.some.inj H
      go_wp2
      go_ret
      exact ⟨_, by first | rfl | (simp [errW_none, errW_some] <;> rfl) | (simp [*, errW_none, errW_some] <;> rfl), by (with_reducible repeat (first | apply Kd.R_alloc | apply Kd.R_drewN | apply Kd.R_drew)); exact HO_3.out, by repeat (first | (with_reducible first | exact HB.out | apply zba | apply zbn | apply zb1) | exact HB.out)⟩
  ·rw [if_neg c3] at H
   exact absurd H (by simp)
 ·rw [if_neg c2] at H
  exact absurd H (by simp)
end Go.Proofs.Ythcmamcbnjphgaa.PFnExactGrammarShow
