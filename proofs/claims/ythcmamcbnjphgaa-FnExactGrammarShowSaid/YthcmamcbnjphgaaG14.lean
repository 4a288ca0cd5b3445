import Derived.Test.YthcmamcbnjphgaaG13
set_option linter.unusedVariables false
set_option linter.unusedSimpArgs false
namespace Go.Proofs.Ythcmamcbnjphgaa.PFnExactGrammarShow
open Go.RowKit Go.Proofs.YthcmamcbnjphgaaW.PrintWords Go.Proofs.YthcmamcbnjphgaaW.PrintLast Go.Proofs.YthcmamcbnjphgaaW.PrintMore
attribute [local go_sem] max2_int min2_int max_two min_two max_three min_three max_four min_four   -- for this text's walks alone
mutual
def spec_GrammarShow.l0 : Nat → ByteArray → Int → ByteArray → List (S51) → List (S54) → List (S59) → List (S119) → Option (ByteArray × Int)
 | 0, _, _, _, _, _, _, _ => none
 | k + 1, x4, x5, x178000, x178001, x178002, x178003, x178004 => if x5 < (x178001.length : Int) then (if 0 ≤ x5 then (if (rd_T51 x178001 x5).f2 = true then (if x4.size + 5 ≤ 9223372036854775807 then (if (x4 ++ (⟨#[115, 107, 105, 112, 32]⟩ : ByteArray)).size + ((rd_T51 x178001 x5).f0).size ≤ 9223372036854775807 then (if ((x4 ++ (⟨#[115, 107, 105, 112, 32]⟩ : ByteArray)) ++ ((rd_T51 x178001 x5).f0)).size + 2 ≤ 9223372036854775807 then (if (((x4 ++ (⟨#[115, 107, 105, 112, 32]⟩ : ByteArray)) ++ ((rd_T51 x178001 x5).f0)) ++ (⟨#[32, 126]⟩ : ByteArray)).size + ((rd_T51 x178001 x5).f1).size ≤ 9223372036854775807 then (if ((((x4 ++ (⟨#[115, 107, 105, 112, 32]⟩ : ByteArray)) ++ ((rd_T51 x178001 x5).f0)) ++ (⟨#[32, 126]⟩ : ByteArray)) ++ ((rd_T51 x178001 x5).f1)).size + 3 ≤ 9223372036854775807 then (spec_GrammarShow.l0 k (((((x4 ++ (⟨#[115, 107, 105, 112, 32]⟩ : ByteArray)) ++ ((rd_T51 x178001 x5).f0)) ++ (⟨#[32, 126]⟩ : ByteArray)) ++ ((rd_T51 x178001 x5).f1)) ++ (⟨#[126, 59, 10]⟩ : ByteArray)) (wrap64 (x5 + 1)) x178000 x178001 x178002 x178003 x178004) else (none)) else (none)) else (none)) else (none)) else (none)) else (if x4.size + 6 ≤ 9223372036854775807 then (if (x4 ++ (⟨#[116, 111, 107, 101, 110, 32]⟩ : ByteArray)).size + ((rd_T51 x178001 x5).f0).size ≤ 9223372036854775807 then (if ((x4 ++ (⟨#[116, 111, 107, 101, 110, 32]⟩ : ByteArray)) ++ ((rd_T51 x178001 x5).f0)).size + 2 ≤ 9223372036854775807 then (if (((x4 ++ (⟨#[116, 111, 107, 101, 110, 32]⟩ : ByteArray)) ++ ((rd_T51 x178001 x5).f0)) ++ (⟨#[32, 126]⟩ : ByteArray)).size + ((rd_T51 x178001 x5).f1).size ≤ 9223372036854775807 then (if ((((x4 ++ (⟨#[116, 111, 107, 101, 110, 32]⟩ : ByteArray)) ++ ((rd_T51 x178001 x5).f0)) ++ (⟨#[32, 126]⟩ : ByteArray)) ++ ((rd_T51 x178001 x5).f1)).size + 3 ≤ 9223372036854775807 then (spec_GrammarShow.l0 k (((((x4 ++ (⟨#[116, 111, 107, 101, 110, 32]⟩ : ByteArray)) ++ ((rd_T51 x178001 x5).f0)) ++ (⟨#[32, 126]⟩ : ByteArray)) ++ ((rd_T51 x178001 x5).f1)) ++ (⟨#[126, 59, 10]⟩ : ByteArray)) (wrap64 (x5 + 1)) x178000 x178001 x178002 x178003 x178004) else (none)) else (none)) else (none)) else (none)) else (none))) else (none)) else (spec_GrammarShow.l1 k x4 0 x178000 x178001 x178002 x178003 x178004)
def spec_GrammarShow.l1 : Nat → ByteArray → Int → ByteArray → List (S51) → List (S54) → List (S59) → List (S119) → Option (ByteArray × Int)
 | 0, _, _, _, _, _, _, _ => none
 | k + 1, x4, x8, x178000, x178001, x178002, x178003, x178004 => if x8 < (x178002.length : Int) then ((some (([(⟨#[]⟩ : ByteArray), (⟨#[108, 101, 102, 116]⟩ : ByteArray), (⟨#[114, 105, 103, 104, 116]⟩ : ByteArray), (⟨#[110, 111, 110, 101]⟩ : ByteArray)] : List ByteArray) : List ByteArray)).bind fun y181 => (if 0 ≤ x8 then (if 0 ≤ ((rd_T54 x178002 x8).f0) then (if ((rd_T54 x178002 x8).f0) < (y181.length : Int) then (spec_GrammarShow.l2 k x4 x8 (([rdOf ByteArray.empty y181 ((rd_T54 x178002 x8).f0)] : List ByteArray)) 0 x178000 x178001 x178002 x178003 x178004) else (none)) else (none)) else (none))) else (spec_GrammarShow.l3 k x4 0 x178000 x178001 x178002 x178003 x178004)
def spec_GrammarShow.l2 : Nat → ByteArray → Int → List ByteArray → Int → ByteArray → List (S51) → List (S54) → List (S59) → List (S119) → Option (ByteArray × Int)
 | 0, _, _, _, _, _, _, _, _, _ => none
 | k + 1, x4, x8, x9, x10, x178000, x178001, x178002, x178003, x178004 => if 0 ≤ x8 then (if x8 < (x178002.length : Int) then (if x10 < (((rd_T54 x178002 x8).f1).length : Int) then (if 0 ≤ x10 then (if 1 + (rdOf ByteArray.empty ((rd_T54 x178002 x8).f1) x10).size ≤ 9223372036854775807 then (if ((⟨#[39]⟩ : ByteArray) ++ (rdOf ByteArray.empty ((rd_T54 x178002 x8).f1) x10)).size + 1 ≤ 9223372036854775807 then (if x9.length < 8796093022208 then (spec_GrammarShow.l2 k x4 x8 (x9 ++ [((⟨#[39]⟩ : ByteArray) ++ (rdOf ByteArray.empty ((rd_T54 x178002 x8).f1) x10)) ++ (⟨#[39]⟩ : ByteArray)]) (wrap64 (x10 + 1)) x178000 x178001 x178002 x178003 x178004) else (none)) else (none)) else (none)) else (none)) else ((spec_l03Words.f k x9).bind fun t195 => (if x4.size + t195.size ≤ 9223372036854775807 then (if (x4 ++ t195).size + 2 ≤ 9223372036854775807 then (spec_GrammarShow.l1 k ((x4 ++ t195) ++ (⟨#[59, 10]⟩ : ByteArray)) (wrap64 (x8 + 1)) x178000 x178001 x178002 x178003 x178004) else (none)) else (none)))) else (none)) else (none)
def spec_GrammarShow.l3 : Nat → ByteArray → Int → ByteArray → List (S51) → List (S54) → List (S59) → List (S119) → Option (ByteArray × Int)
 | 0, _, _, _, _, _, _, _ => none
 | k + 1, x4, x11, x178000, x178001, x178002, x178003, x178004 => if x11 < (x178003.length : Int) then (if 0 ≤ x11 then ((spec_l03SayRule.f k x178000 x178001 x178002 x178003 x178004 ((rd_T59 x178003 x11).f0) ((rd_T59 x178003 x11).f1)).bind fun t197 => (if x4.size + t197.size ≤ 9223372036854775807 then (spec_GrammarShow.l3 k (x4 ++ t197) (wrap64 (x11 + 1)) x178000 x178001 x178002 x178003 x178004) else (none))) else (none)) else (if (x4.size : Int) > 6000 then (some ((⟨#[]⟩ : ByteArray), 3)) else (some (x4, 0)))
end
def spec_GrammarShow.f (k : Nat) (a0_0 : ByteArray) (l0_1 : List (S51)) (l0_2 : List (S54)) (l0_3 : List (S59)) (l0_4 : List (S119)) : Option (ByteArray × Int) := (spec_GrammarOK.f k a0_0 l0_1 l0_2 l0_3 l0_4).bind fun t178 => (if t178 = true then (if 9 + a0_0.size ≤ 9223372036854775807 then (if ((⟨#[108, 97, 110, 103, 117, 97, 103, 101, 32]⟩ : ByteArray) ++ a0_0).size + 2 ≤ 9223372036854775807 then (spec_GrammarShow.l0 k (((⟨#[108, 97, 110, 103, 117, 97, 103, 101, 32]⟩ : ByteArray) ++ a0_0) ++ (⟨#[59, 10]⟩ : ByteArray)) 0 a0_0 l0_1 l0_2 l0_3 l0_4) else (none)) else (none)) else (some ((⟨#[]⟩ : ByteArray), 1)))
def spec_GrammarShow.T24 : Bool × List (List Nat × List Nat) := (true, [([], []), ([], []), ([], []), ([2], [2]), ([], []), ([3, 4], [3, 4]), ([5], [5]), ([1, 6], [1, 6]), ([0, 7], [0, 7]), ([8, 7, 0, 1, 2, 3, 4, 5, 6, 7, 8], [0, 8])])
def spec_GrammarShow.B24 : List Nat := [0, 0, 0, 4, 0, 28, 60, 126, 255, 511]
theorem spec_GrammarShow.tab24 : rtab .any (opsOf Try.f6 24) = spec_GrammarShow.T24 := by kernel_rfl
theorem spec_GrammarShow.bits24 : waitsOk spec_GrammarShow.T24.2 spec_GrammarShow.B24 = true := by kernel_rfl
set_option maxHeartbeats 8000000 in
set_option maxRecDepth 100000 in
theorem spec_GrammarShow.calls (k : Nat) (a0_0 : ByteArray) (A0_1 : Option Addr) (c0_1 : Nat) (l0_1 : List (S51)) (A0_2 : Option Addr) (c0_2 : Nat) (l0_2 : List (S54)) (A0_3 : Option Addr) (c0_3 : Nat) (l0_3 : List (S59)) (A0_4 : Option Addr) (c0_4 : Nat) (l0_4 : List (S119)) (r1 : ByteArray) (r2 : Int) (w : World) (hr0_1 : Kd.C k51 w A0_1 l0_1.length l0_1) (hc0_1 : l0_1.length ≤ c0_1) (hr0_2 : Kd.C k54 w A0_2 l0_2.length l0_2) (hc0_2 : l0_2.length ≤ c0_2) (hr0_3 : Kd.C k59 w A0_3 l0_3.length l0_3) (hc0_3 : l0_3.length ≤ c0_3) (hr0_4 : Kd.C k119 w A0_4 l0_4.length l0_4) (hc0_4 : l0_4.length ≤ c0_4) (h : spec_GrammarShow.f k a0_0 l0_1 l0_2 l0_3 l0_4 = some (r1, r2)) :
  Calls Try.prog 6 #[.agg #[.string a0_0, .slice A0_1 l0_1.length c0_1, .slice A0_2 l0_2.length c0_2, .slice A0_3 l0_3.length c0_3, .slice A0_4 l0_4.length c0_4]] w fun e w' => e = .returned (.tuple #[.string r1, .int .i64 r2]) ∧ Below w.heap.size w w' := by
 have hu36 := Try.underlying36
 have hu51 := Try.underlying51
 have hu59 := Try.underlying59
 have HR0_1 := Zz.mk hr0_1
 have HC0_1 := Zz.mk hc0_1
 clear hr0_1 hc0_1
 have HR0_2 := Zz.mk hr0_2
 have HC0_2 := Zz.mk hc0_2
 clear hr0_2 hc0_2
 have HR0_3 := Zz.mk hr0_3
 have HC0_3 := Zz.mk hc0_3
 clear hr0_3 hc0_3
 have HR0_4 := Zz.mk hr0_4
 have HC0_4 := Zz.mk hc0_4
 clear hr0_4 hc0_4
 have HB := Zz.mk (Below.refl w.heap.size w)
 have H : ((spec_GrammarOK.f k a0_0 l0_1 l0_2 l0_3 l0_4).bind fun t178 => (if t178 = true then (if 9 + a0_0.size ≤ 9223372036854775807 then (if ((⟨#[108, 97, 110, 103, 117, 97, 103, 101, 32]⟩ : ByteArray) ++ a0_0).size + 2 ≤ 9223372036854775807 then (spec_GrammarShow.l0 k (((⟨#[108, 97, 110, 103, 117, 97, 103, 101, 32]⟩ : ByteArray) ++ a0_0) ++ (⟨#[59, 10]⟩ : ByteArray)) 0 a0_0 l0_1 l0_2 l0_3 l0_4) else (none)) else (none)) else (some ((⟨#[]⟩ : ByteArray), 1)))) = some (r1, r2) := h
 clear h
 replace H := Option.bind_eq_some_iff.mp H
 obtain ⟨t178, A20, H⟩ := H
 replace H : (if t178 = true then (if 9 + a0_0.size ≤ 9223372036854775807 then (if ((⟨#[108, 97, 110, 103, 117, 97, 103, 101, 32]⟩ : ByteArray) ++ a0_0).size + 2 ≤ 9223372036854775807 then (spec_GrammarShow.l0 k (((⟨#[108, 97, 110, 103, 117, 97, 103, 101, 32]⟩ : ByteArray) ++ a0_0) ++ (⟨#[59, 10]⟩ : ByteArray)) 0 a0_0 l0_1 l0_2 l0_3 l0_4) else (none)) else (none)) else (some ((⟨#[]⟩ : ByteArray), 1))) = some (r1, r2) := H
 have A2 := Zz.mk A20
 clear A20
 by_cases c3 : t178 = true
 ·subst c3
  have H1 : (if 9 + a0_0.size ≤ 9223372036854775807 then (if ((⟨#[108, 97, 110, 103, 117, 97, 103, 101, 32]⟩ : ByteArray) ++ a0_0).size + 2 ≤ 9223372036854775807 then (spec_GrammarShow.l0 k (((⟨#[108, 97, 110, 103, 117, 97, 103, 101, 32]⟩ : ByteArray) ++ a0_0) ++ (⟨#[59, 10]⟩ : ByteArray)) 0 a0_0 l0_1 l0_2 l0_3 l0_4) else (none)) else (none)) = some (r1, r2) := by rw [if_pos rfl] at H; exact H
  clear H
  have H := H1
  clear H1
  by_cases c4 : 9 + a0_0.size ≤ 9223372036854775807
  ·rw [if_pos c4] at H
   have c4b0 := eq_true c4
   have c4b1 : decide (9 + a0_0.size ≤ 9223372036854775807) = true := decide_eq_true c4
   try have c4b2 : (9223372036854775807 < 9 + a0_0.size) = False := eq_false (Nat.not_lt.2 c4)
   by_cases c5 : ((⟨#[108, 97, 110, 103, 117, 97, 103, 101, 32]⟩ : ByteArray) ++ a0_0).size + 2 ≤ 9223372036854775807
   ·rw [if_pos c5] at H
    have c5b0 := eq_true c5
    have c5b9 : (9223372036854775807 < 9 + a0_0.size + 2) = False := eq_false (Nat.not_lt.2 (by have h := c5; simp only [ByteArray.size_append] at h; exact h))
    have c5b1 : decide (((⟨#[108, 97, 110, 103, 117, 97, 103, 101, 32]⟩ : ByteArray) ++ a0_0).size + 2 ≤ 9223372036854775807) = true := decide_eq_true c5
    try have c5b2 : (9223372036854775807 < ((⟨#[108, 97, 110, 103, 117, 97, 103, 101, 32]⟩ : ByteArray) ++ a0_0).size + 2) = False := eq_false (Nat.not_lt.2 c5)
    have H' := Zz.mk H
    clear H
    go_enter Try.func6, Try.ntmps6
    go_wp2_with (first | ((with_reducible refine gate_dst (N := 1) rfl ?_); refine box_event ?hg (N := 1) ?hd (cs := #[.string a0_0, .slice A0_1 l0_1.length c0_1, .slice A0_2 l0_2.length c0_2, .slice A0_3 l0_3.length c0_3, .slice A0_4 l0_4.length c0_4]) (t := 36) ?hr ?_; (case hd => rfl); (case hg => rfl); (case hr => first | (go_simp; done) | (go_simp; rfl)); intro gb177 hg w6 hbox hb; have n0_ := Zz.mk (below_step (by repeat (first | (with_reducible first | exact HB.out | apply zba | apply zbn | apply zb1) | exact HB.out)) hb); have n1_ := Zz.mk (hbox); have n2_ := Zz.mk ((by rw [hg]; exact (zsz (by repeat (first | (with_reducible first | exact HB.out | apply zba | apply zbn | apply zb1) | exact HB.out))) : w.heap.size ≤ gb177)); have n3_ := Zz.mk ((by rw [hg]; exact (zsz (by repeat (first | (with_reducible first | exact HB.out | apply zba | apply zbn | apply zb1) | exact HB.out))) : w.heap.size ≤ gb177)); clear HB; have HB := n0_; have BK177 := n1_; have GW177 := n2_; have GE177 := n3_; clear n0_ n1_ n2_ n3_; clear hb hbox hg; have hcz7_0 : w6.cell? ⟨gb177, 0, none⟩ = some (.string a0_0) := (zbc BK177.out 0).trans rfl; have hcz7_1 : w6.cell? ⟨gb177, 1, none⟩ = some (.slice A0_1 l0_1.length c0_1) := (zbc BK177.out 1).trans rfl; have hcz7_2 : w6.cell? ⟨gb177, 2, none⟩ = some (.slice A0_2 l0_2.length c0_2) := (zbc BK177.out 2).trans rfl; have hcz7_3 : w6.cell? ⟨gb177, 3, none⟩ = some (.slice A0_3 l0_3.length c0_3) := (zbc BK177.out 3).trans rfl; have hcz7_4 : w6.cell? ⟨gb177, 4, none⟩ = some (.slice A0_4 l0_4.length c0_4) := (zbc BK177.out 4).trans rfl; have hfz7_0 := zbf BK177.out 0; have hfz7_1 := zbf BK177.out 1; have hfz7_2 := zbf BK177.out 2; have hfz7_3 := zbf BK177.out 3; have hfz7_4 := zbf BK177.out 4) | ((with_reducible refine gate_callee (f := 18) rfl ?_); refine goesL_ (some 13) rfl rfl Try.func18 (by kernel_rfl) rfl #[.agg #[.string a0_0, .slice A0_1 l0_1.length c0_1, .slice A0_2 l0_2.length c0_2, .slice A0_3 l0_3.length c0_3, .slice A0_4 l0_4.length c0_4]] rfl (by (try simp only [List.map_toArray, List.map_cons, List.map_nil]); first | done | rfl | (simp only [List.length_drop, List.length_take]; rfl)) ?_; (with_reducible refine (spec_GrammarOK.calls k a0_0 _ _ l0_1 _ _ l0_2 _ _ l0_3 _ _ l0_4 true _ ?side1 ?side2 ?side3 ?side4 ?side5 ?side6 ?side7 ?side8 A2.out).mono ?_); (case side1 => repeat (first | exact (Kd.C_below HR0_1.out HB.out) | (with_reducible refine Kd.C_alloc ?_ _) | (with_reducible refine Kd.C_drewN ?_ _) | (with_reducible refine Kd.C_drew ?_))); (case side2 => exact HC0_1.out); (case side3 => repeat (first | exact (Kd.C_below HR0_2.out HB.out) | (with_reducible refine Kd.C_alloc ?_ _) | (with_reducible refine Kd.C_drewN ?_ _) | (with_reducible refine Kd.C_drew ?_))); (case side4 => exact HC0_2.out); (case side5 => repeat (first | exact (Kd.C_below HR0_3.out HB.out) | (with_reducible refine Kd.C_alloc ?_ _) | (with_reducible refine Kd.C_drewN ?_ _) | (with_reducible refine Kd.C_drew ?_))); (case side6 => exact HC0_3.out); (case side7 => repeat (first | exact (Kd.C_below HR0_4.out HB.out) | (with_reducible refine Kd.C_alloc ?_ _) | (with_reducible refine Kd.C_drewN ?_ _) | (with_reducible refine Kd.C_drew ?_))); (case side8 => exact HC0_4.out); rintro e w8 ⟨rfl, hb⟩; refine ⟨_, rfl, ?_⟩; have n0_ := Zz.mk (blk_below (g := gb177) (o := .cells #[.string a0_0, .slice A0_1 l0_1.length c0_1, .slice A0_2 l0_2.length c0_2, .slice A0_3 l0_3.length c0_3, .slice A0_4 l0_4.length c0_4] 36 (0, 0)) (by (with_reducible repeat (first | refine zdn ?_ _ | refine zdr ?_ | refine zda ?_ _)); exact BK177.out) hb); have n1_ := Zz.mk (below_step (by repeat (first | (with_reducible first | exact HB.out | apply zba | apply zbn | apply zb1 | refine zbs ?_ GE177.out) | exact HB.out)) hb); clear BK177; clear HB; have BK177 := n0_; have HB := n1_; clear n0_ n1_; (try clear hb); (try clear hb2); (try clear hk); (try clear hi); have hcz9_0 : w8.cell? ⟨gb177, 0, none⟩ = some (.string a0_0) := (zbc BK177.out 0).trans rfl; have hcz9_1 : w8.cell? ⟨gb177, 1, none⟩ = some (.slice A0_1 l0_1.length c0_1) := (zbc BK177.out 1).trans rfl; have hcz9_2 : w8.cell? ⟨gb177, 2, none⟩ = some (.slice A0_2 l0_2.length c0_2) := (zbc BK177.out 2).trans rfl; have hcz9_3 : w8.cell? ⟨gb177, 3, none⟩ = some (.slice A0_3 l0_3.length c0_3) := (zbc BK177.out 3).trans rfl; have hcz9_4 : w8.cell? ⟨gb177, 4, none⟩ = some (.slice A0_4 l0_4.length c0_4) := (zbc BK177.out 4).trans rfl; have hfz9_0 := zbf BK177.out 0; have hfz9_1 := zbf BK177.out 1; have hfz9_2 := zbf BK177.out 2; have hfz9_3 := zbf BK177.out 3; have hfz9_4 := zbf BK177.out 4))
    go_loopg [4, 5] k (fun kq v4 v5 w' => ∃ (x4_1 : ByteArray) (x5_1 : Int), v4 = .string x4_1 ∧ v5 = .int .i64 x5_1 ∧ Zz (spec_GrammarShow.l0 kq x4_1 x5_1 a0_0 l0_1 l0_2 l0_3 l0_4 = some (r1, r2)) ∧ Zz (kq ≤ k) ∧ Zz (w'.heap[gb177]? = some (.cells #[.string a0_0, (.slice A0_1 l0_1.length c0_1), (.slice A0_2 l0_2.length c0_2), (.slice A0_3 l0_3.length c0_3), (.slice A0_4 l0_4.length c0_4)] 36 (0, 0))) ∧ Zz (Below w.heap.size w w'))
    case atStart => exact ⟨(((⟨#[108, 97, 110, 103, 117, 97, 103, 101, 32]⟩ : ByteArray) ++ a0_0) ++ (⟨#[59, 10]⟩ : ByteArray)), (0), (by first | rfl | (simp; done) | (simp [*]; done)), (by first | rfl | (simp; done) | (simp [*]; done)), H', ⟨Nat.le_refl _⟩, ⟨by (with_reducible repeat (first | refine zdn ?_ _ | refine zdr ?_ | refine zda ?_ _)); exact BK177.out⟩, ⟨by repeat (first | (with_reducible first | exact HB.out | apply zba | apply zbn | apply zb1 | refine zbs ?_ GE177.out) | exact HB.out)⟩⟩
    case round =>
     clear H'
     try clear c1
     try clear p2
     try clear c3
     try clear c4
     try clear c4b0
     try clear c4b1
     try clear c4b2
     try clear c5
     try clear c5b0
     try clear c5b1
     try clear c5b2
     try clear c6
     try clear hcz7_0
     try clear hcz7_1
     try clear hcz7_2
     try clear hcz7_3
     try clear hcz7_4
     try clear hcz9_0
     try clear hcz9_1
     try clear hcz9_2
     try clear hcz9_3
     try clear hcz9_4
     try clear hfz7_0
     try clear hfz7_1
     try clear hfz7_2
     try clear hfz7_3
     try clear hfz7_4
     try clear hfz9_0
     try clear hfz9_1
     try clear hfz9_2
     try clear hfz9_3
     try clear hfz9_4
     obtain ⟨x4_1, x5_1, rfl, rfl, HA, HK1, BK177, HB⟩ := hrel
     cases gk with
     | zero => exact absurd HA.out (by simp [spec_GrammarShow.l0])
     | succ k1 =>
      have H := HA.out
      clear HA
      simp only [spec_GrammarShow.l0] at H
      by_cases c10 : x5_1 < (l0_1.length : Int)
      ·rw [if_pos c10] at H
       have c10b0 : decide (x5_1 < (l0_1.length : Int)) = true := decide_eq_true c10
       clear c10
       by_cases c11 : 0 ≤ x5_1
       ·rw [if_pos c11] at H
        have c11b0 : decide (0 ≤ x5_1) = true := decide_eq_true c11
        clear c11
        obtain ⟨bq12, hbq12⟩ : ∃ b_ : Bool, b_ = ((rd_T51 l0_1 x5_1).f2) := ⟨_, rfl⟩
        replace H : (if bq12 = true then (if x4_1.size + 5 ≤ 9223372036854775807 then (if (x4_1 ++ (⟨#[115, 107, 105, 112, 32]⟩ : ByteArray)).size + ((rd_T51 l0_1 x5_1).f0).size ≤ 9223372036854775807 then (if ((x4_1 ++ (⟨#[115, 107, 105, 112, 32]⟩ : ByteArray)) ++ ((rd_T51 l0_1 x5_1).f0)).size + 2 ≤ 9223372036854775807 then (if (((x4_1 ++ (⟨#[115, 107, 105, 112, 32]⟩ : ByteArray)) ++ ((rd_T51 l0_1 x5_1).f0)) ++ (⟨#[32, 126]⟩ : ByteArray)).size + ((rd_T51 l0_1 x5_1).f1).size ≤ 9223372036854775807 then (if ((((x4_1 ++ (⟨#[115, 107, 105, 112, 32]⟩ : ByteArray)) ++ ((rd_T51 l0_1 x5_1).f0)) ++ (⟨#[32, 126]⟩ : ByteArray)) ++ ((rd_T51 l0_1 x5_1).f1)).size + 3 ≤ 9223372036854775807 then (spec_GrammarShow.l0 k1 (((((x4_1 ++ (⟨#[115, 107, 105, 112, 32]⟩ : ByteArray)) ++ ((rd_T51 l0_1 x5_1).f0)) ++ (⟨#[32, 126]⟩ : ByteArray)) ++ ((rd_T51 l0_1 x5_1).f1)) ++ (⟨#[126, 59, 10]⟩ : ByteArray)) (wrap64 (x5_1 + 1)) a0_0 l0_1 l0_2 l0_3 l0_4) else (none)) else (none)) else (none)) else (none)) else (none)) else (if x4_1.size + 6 ≤ 9223372036854775807 then (if (x4_1 ++ (⟨#[116, 111, 107, 101, 110, 32]⟩ : ByteArray)).size + ((rd_T51 l0_1 x5_1).f0).size ≤ 9223372036854775807 then (if ((x4_1 ++ (⟨#[116, 111, 107, 101, 110, 32]⟩ : ByteArray)) ++ ((rd_T51 l0_1 x5_1).f0)).size + 2 ≤ 9223372036854775807 then (if (((x4_1 ++ (⟨#[116, 111, 107, 101, 110, 32]⟩ : ByteArray)) ++ ((rd_T51 l0_1 x5_1).f0)) ++ (⟨#[32, 126]⟩ : ByteArray)).size + ((rd_T51 l0_1 x5_1).f1).size ≤ 9223372036854775807 then (if ((((x4_1 ++ (⟨#[116, 111, 107, 101, 110, 32]⟩ : ByteArray)) ++ ((rd_T51 l0_1 x5_1).f0)) ++ (⟨#[32, 126]⟩ : ByteArray)) ++ ((rd_T51 l0_1 x5_1).f1)).size + 3 ≤ 9223372036854775807 then (spec_GrammarShow.l0 k1 (((((x4_1 ++ (⟨#[116, 111, 107, 101, 110, 32]⟩ : ByteArray)) ++ ((rd_T51 l0_1 x5_1).f0)) ++ (⟨#[32, 126]⟩ : ByteArray)) ++ ((rd_T51 l0_1 x5_1).f1)) ++ (⟨#[126, 59, 10]⟩ : ByteArray)) (wrap64 (x5_1 + 1)) a0_0 l0_1 l0_2 l0_3 l0_4) else (none)) else (none)) else (none)) else (none)) else (none))) = some (r1, r2) := by rw [← hbq12] at H; exact H
        have Nbq12 := Zz.mk hbq12
        clear hbq12
        by_cases c13 : bq12 = true
        ·subst c13
         have H1 : (if x4_1.size + 5 ≤ 9223372036854775807 then (if (x4_1 ++ (⟨#[115, 107, 105, 112, 32]⟩ : ByteArray)).size + ((rd_T51 l0_1 x5_1).f0).size ≤ 9223372036854775807 then (if ((x4_1 ++ (⟨#[115, 107, 105, 112, 32]⟩ : ByteArray)) ++ ((rd_T51 l0_1 x5_1).f0)).size + 2 ≤ 9223372036854775807 then (if (((x4_1 ++ (⟨#[115, 107, 105, 112, 32]⟩ : ByteArray)) ++ ((rd_T51 l0_1 x5_1).f0)) ++ (⟨#[32, 126]⟩ : ByteArray)).size + ((rd_T51 l0_1 x5_1).f1).size ≤ 9223372036854775807 then (if ((((x4_1 ++ (⟨#[115, 107, 105, 112, 32]⟩ : ByteArray)) ++ ((rd_T51 l0_1 x5_1).f0)) ++ (⟨#[32, 126]⟩ : ByteArray)) ++ ((rd_T51 l0_1 x5_1).f1)).size + 3 ≤ 9223372036854775807 then (spec_GrammarShow.l0 k1 (((((x4_1 ++ (⟨#[115, 107, 105, 112, 32]⟩ : ByteArray)) ++ ((rd_T51 l0_1 x5_1).f0)) ++ (⟨#[32, 126]⟩ : ByteArray)) ++ ((rd_T51 l0_1 x5_1).f1)) ++ (⟨#[126, 59, 10]⟩ : ByteArray)) (wrap64 (x5_1 + 1)) a0_0 l0_1 l0_2 l0_3 l0_4) else (none)) else (none)) else (none)) else (none)) else (none)) = some (r1, r2) := by rw [if_pos rfl] at H; exact H
         clear H
         have H := H1
         clear H1
         by_cases c14 : x4_1.size + 5 ≤ 9223372036854775807
         ·rw [if_pos c14] at H
          have c14b0 := eq_true c14
          have c14b1 : decide (x4_1.size + 5 ≤ 9223372036854775807) = true := decide_eq_true c14
          try have c14b2 : (9223372036854775807 < x4_1.size + 5) = False := eq_false (Nat.not_lt.2 c14)
          by_cases c15 : (x4_1 ++ (⟨#[115, 107, 105, 112, 32]⟩ : ByteArray)).size + ((rd_T51 l0_1 x5_1).f0).size ≤ 9223372036854775807
          ·rw [if_pos c15] at H
           have c15b0 := eq_true c15
           have c15b9 : (9223372036854775807 < x4_1.size + 5 + ((rd_T51 l0_1 x5_1).f0).size) = False := eq_false (Nat.not_lt.2 (by have h := c15; simp only [ByteArray.size_append] at h; exact h))
           have c15b1 : decide ((x4_1 ++ (⟨#[115, 107, 105, 112, 32]⟩ : ByteArray)).size + ((rd_T51 l0_1 x5_1).f0).size ≤ 9223372036854775807) = true := decide_eq_true c15
           try have c15b2 : (9223372036854775807 < (x4_1 ++ (⟨#[115, 107, 105, 112, 32]⟩ : ByteArray)).size + ((rd_T51 l0_1 x5_1).f0).size) = False := eq_false (Nat.not_lt.2 c15)
           by_cases c16 : ((x4_1 ++ (⟨#[115, 107, 105, 112, 32]⟩ : ByteArray)) ++ ((rd_T51 l0_1 x5_1).f0)).size + 2 ≤ 9223372036854775807
           ·rw [if_pos c16] at H
            have c16b0 := eq_true c16
            have c16b9 : (9223372036854775807 < x4_1.size + 5 + ((rd_T51 l0_1 x5_1).f0).size + 2) = False := eq_false (Nat.not_lt.2 (by have h := c16; simp only [ByteArray.size_append] at h; exact h))
            have c16b1 : decide (((x4_1 ++ (⟨#[115, 107, 105, 112, 32]⟩ : ByteArray)) ++ ((rd_T51 l0_1 x5_1).f0)).size + 2 ≤ 9223372036854775807) = true := decide_eq_true c16
            try have c16b2 : (9223372036854775807 < ((x4_1 ++ (⟨#[115, 107, 105, 112, 32]⟩ : ByteArray)) ++ ((rd_T51 l0_1 x5_1).f0)).size + 2) = False := eq_false (Nat.not_lt.2 c16)
            by_cases c17 : (((x4_1 ++ (⟨#[115, 107, 105, 112, 32]⟩ : ByteArray)) ++ ((rd_T51 l0_1 x5_1).f0)) ++ (⟨#[32, 126]⟩ : ByteArray)).size + ((rd_T51 l0_1 x5_1).f1).size ≤ 9223372036854775807
            ·rw [if_pos c17] at H
             have c17b0 := eq_true c17
             have c17b9 : (9223372036854775807 < x4_1.size + 5 + ((rd_T51 l0_1 x5_1).f0).size + 2 + ((rd_T51 l0_1 x5_1).f1).size) = False := eq_false (Nat.not_lt.2 (by have h := c17; simp only [ByteArray.size_append] at h; exact h))
             have c17b1 : decide ((((x4_1 ++ (⟨#[115, 107, 105, 112, 32]⟩ : ByteArray)) ++ ((rd_T51 l0_1 x5_1).f0)) ++ (⟨#[32, 126]⟩ : ByteArray)).size + ((rd_T51 l0_1 x5_1).f1).size ≤ 9223372036854775807) = true := decide_eq_true c17
             try have c17b2 : (9223372036854775807 < (((x4_1 ++ (⟨#[115, 107, 105, 112, 32]⟩ : ByteArray)) ++ ((rd_T51 l0_1 x5_1).f0)) ++ (⟨#[32, 126]⟩ : ByteArray)).size + ((rd_T51 l0_1 x5_1).f1).size) = False := eq_false (Nat.not_lt.2 c17)
             by_cases c18 : ((((x4_1 ++ (⟨#[115, 107, 105, 112, 32]⟩ : ByteArray)) ++ ((rd_T51 l0_1 x5_1).f0)) ++ (⟨#[32, 126]⟩ : ByteArray)) ++ ((rd_T51 l0_1 x5_1).f1)).size + 3 ≤ 9223372036854775807
             ·rw [if_pos c18] at H
              have c18b0 := eq_true c18
              have c18b9 : (9223372036854775807 < x4_1.size + 5 + ((rd_T51 l0_1 x5_1).f0).size + 2 + ((rd_T51 l0_1 x5_1).f1).size + 3) = False := eq_false (Nat.not_lt.2 (by have h := c18; simp only [ByteArray.size_append] at h; exact h))
              have c18b1 : decide (((((x4_1 ++ (⟨#[115, 107, 105, 112, 32]⟩ : ByteArray)) ++ ((rd_T51 l0_1 x5_1).f0)) ++ (⟨#[32, 126]⟩ : ByteArray)) ++ ((rd_T51 l0_1 x5_1).f1)).size + 3 ≤ 9223372036854775807) = true := decide_eq_true c18
              try have c18b2 : (9223372036854775807 < ((((x4_1 ++ (⟨#[115, 107, 105, 112, 32]⟩ : ByteArray)) ++ ((rd_T51 l0_1 x5_1).f0)) ++ (⟨#[32, 126]⟩ : ByteArray)) ++ ((rd_T51 l0_1 x5_1).f1)).size + 3) = False := eq_false (Nat.not_lt.2 c18)
              have H' := Zz.mk H
              clear H
              have hcz19_0 : wr.cell? ⟨gb177, 0, none⟩ = some (.string a0_0) := (zbc BK177.out 0).trans rfl
              have hcz19_1 : wr.cell? ⟨gb177, 1, none⟩ = some (.slice A0_1 l0_1.length c0_1) := (zbc BK177.out 1).trans rfl
              have hcz19_2 : wr.cell? ⟨gb177, 2, none⟩ = some (.slice A0_2 l0_2.length c0_2) := (zbc BK177.out 2).trans rfl
              have hcz19_3 : wr.cell? ⟨gb177, 3, none⟩ = some (.slice A0_3 l0_3.length c0_3) := (zbc BK177.out 3).trans rfl
              have hcz19_4 : wr.cell? ⟨gb177, 4, none⟩ = some (.slice A0_4 l0_4.length c0_4) := (zbc BK177.out 4).trans rfl
              have hfz19_0 := zbf BK177.out 0
              have hfz19_1 := zbf BK177.out 1
              have hfz19_2 := zbf BK177.out 2
              have hfz19_3 := zbf BK177.out 3
              have hfz19_4 := zbf BK177.out 4
              have p179 : 0 ≤ (x5_1 : Int) := of_decide_eq_true (by first | (with_reducible assumption) | assumption)
              have q179 : x5_1 < (l0_1.length : Int) := of_decide_eq_true (by first | (with_reducible assumption) | assumption)
              obtain ⟨ad179, e179, hx179_0, hx179_1, hx179_2⟩ := at_T51 HR0_1.out x5_1 p179 q179
              (try rw [← Nbq12.out] at hx179_2)
              cases e179
              replace hx179_0 := (HB.out.cell (World.block_lt_of_cell? w _ hx179_0)).trans hx179_0
              replace hx179_1 := (HB.out.cell (World.block_lt_of_cell? w _ hx179_1)).trans hx179_1
              replace hx179_2 := (HB.out.cell (World.block_lt_of_cell? w _ hx179_2)).trans hx179_2
              replace p179 := eq_true p179
              replace q179 := eq_true q179
              go_wp2_with (first | ((with_reducible refine gate_dst (N := 6) rfl ?_); refine box_event ?hg (N := 6) ?hd (cs := #[.string (⟨#[]⟩ : ByteArray), .string (⟨#[]⟩ : ByteArray), .bool false]) (t := 51) ?hr ?_; (case hd => rfl); (case hg => rfl); (case hr => first | (go_simp; done) | (go_simp; rfl)); intro gb180 hg w20 hbox hb; have n0_ := Zz.mk (blk_below (g := gb177) (o := .cells #[.string a0_0, .slice (some ad179) l0_1.length c0_1, .slice A0_2 l0_2.length c0_2, .slice A0_3 l0_3.length c0_3, .slice A0_4 l0_4.length c0_4] 36 (0, 0)) (by (with_reducible repeat (first | refine zdn ?_ _ | refine zdr ?_ | refine zda ?_ _)); exact BK177.out) hb); have n1_ := Zz.mk (below_step (by repeat (first | (with_reducible first | exact HB.out | apply zba | apply zbn | apply zb1 | refine zbs ?_ GE177.out) | exact HB.out)) hb); have n2_ := Zz.mk (hbox); have n3_ := Zz.mk ((by rw [hg]; exact (zsz (by repeat (first | (with_reducible first | exact HB.out | apply zba | apply zbn | apply zb1 | refine zbs ?_ GE177.out) | exact HB.out))) : w.heap.size ≤ gb180)); have n4_ := Zz.mk ((by rw [hg]; exact (zsz (by repeat (first | (with_reducible first | exact HB.out | apply zba | apply zbn | apply zb1 | refine zbs ?_ GE177.out) | exact HB.out))) : w.heap.size ≤ gb180)); have n5_ := Zz.mk ((by rw [hg]; exact Nat.ne_of_lt (blk_lt (g := gb177) (o := .cells #[.string a0_0, .slice (some ad179) l0_1.length c0_1, .slice A0_2 l0_2.length c0_2, .slice A0_3 l0_3.length c0_3, .slice A0_4 l0_4.length c0_4] 36 (0, 0)) (by (with_reducible repeat (first | refine zdn ?_ _ | refine zdr ?_ | refine zda ?_ _)); exact BK177.out)) : gb177 ≠ gb180)); have n6_ := Zz.mk ((by rw [hg]; exact Nat.ne_of_gt (blk_lt (g := gb177) (o := .cells #[.string a0_0, .slice (some ad179) l0_1.length c0_1, .slice A0_2 l0_2.length c0_2, .slice A0_3 l0_3.length c0_3, .slice A0_4 l0_4.length c0_4] 36 (0, 0)) (by (with_reducible repeat (first | refine zdn ?_ _ | refine zdr ?_ | refine zda ?_ _)); exact BK177.out)) : gb180 ≠ gb177)); clear BK177; clear HB; have BK177 := n0_; have HB := n1_; have BK180 := n2_; have GW180 := n3_; have GE180 := n4_; have NB177_180 := n5_; have NB180_177 := n6_; clear n0_ n1_ n2_ n3_ n4_ n5_ n6_; clear hb hbox hg; have hnb21 := NB180_177.out; have hnc21 := NB177_180.out; have hcz22_0 : w20.cell? ⟨gb180, 0, none⟩ = some (.string (⟨#[]⟩ : ByteArray)) := (zbc BK180.out 0).trans rfl; have hcz22_1 : w20.cell? ⟨gb180, 1, none⟩ = some (.string (⟨#[]⟩ : ByteArray)) := (zbc BK180.out 1).trans rfl; have hcz22_2 : w20.cell? ⟨gb180, 2, none⟩ = some (.bool false) := (zbc BK180.out 2).trans rfl; have hfz22_0 := zbf BK180.out 0; have hfz22_1 := zbf BK180.out 1; have hfz22_2 := zbf BK180.out 2))
              go_roundg k1
              case measure => have := HK1.out; omega
              case rel => exact ⟨(((((x4_1 ++ (⟨#[115, 107, 105, 112, 32]⟩ : ByteArray)) ++ ((rd_T51 l0_1 x5_1).f0)) ++ (⟨#[32, 126]⟩ : ByteArray)) ++ ((rd_T51 l0_1 x5_1).f1)) ++ (⟨#[126, 59, 10]⟩ : ByteArray)), (wrap64 (x5_1 + 1)), (by first | rfl | (simp; done) | (simp [*]; done)), (by first | rfl | (simp; done) | (simp [*]; done)), H', ⟨by have := HK1.out; omega⟩, ⟨by (with_reducible repeat (first | refine zdn ?_ _ | refine zdr ?_ | refine zda ?_ _)); refine blk_far ?_ NB177_180.out _; (with_reducible repeat (first | refine zdn ?_ _ | refine zdr ?_ | refine zda ?_ _)); refine blk_far ?_ NB177_180.out _; (with_reducible repeat (first | refine zdn ?_ _ | refine zdr ?_ | refine zda ?_ _)); refine blk_far ?_ NB177_180.out _; (with_reducible repeat (first | refine zdn ?_ _ | refine zdr ?_ | refine zda ?_ _)); exact BK177.out⟩, ⟨by repeat (first | (with_reducible first | exact HB.out | apply zba | apply zbn | apply zb1 | refine zbs ?_ GE177.out | refine zbs ?_ GE180.out) | exact HB.out)⟩⟩
             ·rw [if_neg c18] at H
              exact absurd H (by simp)
            ·rw [if_neg c17] at H
             exact absurd H (by simp)
           ·rw [if_neg c16] at H
            exact absurd H (by simp)
          ·rw [if_neg c15] at H
           exact absurd H (by simp)
         ·rw [if_neg c14] at H
          exact absurd H (by simp)
        ·replace c13 := Bool.eq_false_iff.mpr c13
         subst c13
         have H1 : (if x4_1.size + 6 ≤ 9223372036854775807 then (if (x4_1 ++ (⟨#[116, 111, 107, 101, 110, 32]⟩ : ByteArray)).size + ((rd_T51 l0_1 x5_1).f0).size ≤ 9223372036854775807 then (if ((x4_1 ++ (⟨#[116, 111, 107, 101, 110, 32]⟩ : ByteArray)) ++ ((rd_T51 l0_1 x5_1).f0)).size + 2 ≤ 9223372036854775807 then (if (((x4_1 ++ (⟨#[116, 111, 107, 101, 110, 32]⟩ : ByteArray)) ++ ((rd_T51 l0_1 x5_1).f0)) ++ (⟨#[32, 126]⟩ : ByteArray)).size + ((rd_T51 l0_1 x5_1).f1).size ≤ 9223372036854775807 then (if ((((x4_1 ++ (⟨#[116, 111, 107, 101, 110, 32]⟩ : ByteArray)) ++ ((rd_T51 l0_1 x5_1).f0)) ++ (⟨#[32, 126]⟩ : ByteArray)) ++ ((rd_T51 l0_1 x5_1).f1)).size + 3 ≤ 9223372036854775807 then (spec_GrammarShow.l0 k1 (((((x4_1 ++ (⟨#[116, 111, 107, 101, 110, 32]⟩ : ByteArray)) ++ ((rd_T51 l0_1 x5_1).f0)) ++ (⟨#[32, 126]⟩ : ByteArray)) ++ ((rd_T51 l0_1 x5_1).f1)) ++ (⟨#[126, 59, 10]⟩ : ByteArray)) (wrap64 (x5_1 + 1)) a0_0 l0_1 l0_2 l0_3 l0_4) else (none)) else (none)) else (none)) else (none)) else (none)) = some (r1, r2) := by rw [if_neg (show ¬ (false = true) by decide)] at H; exact H
         clear H
         have H := H1
         clear H1
         by_cases c23 : x4_1.size + 6 ≤ 9223372036854775807
         ·rw [if_pos c23] at H
          have c23b0 := eq_true c23
          have c23b1 : decide (x4_1.size + 6 ≤ 9223372036854775807) = true := decide_eq_true c23
          try have c23b2 : (9223372036854775807 < x4_1.size + 6) = False := eq_false (Nat.not_lt.2 c23)
          by_cases c24 : (x4_1 ++ (⟨#[116, 111, 107, 101, 110, 32]⟩ : ByteArray)).size + ((rd_T51 l0_1 x5_1).f0).size ≤ 9223372036854775807
          ·rw [if_pos c24] at H
           have c24b0 := eq_true c24
           have c24b9 : (9223372036854775807 < x4_1.size + 6 + ((rd_T51 l0_1 x5_1).f0).size) = False := eq_false (Nat.not_lt.2 (by have h := c24; simp only [ByteArray.size_append] at h; exact h))
           have c24b1 : decide ((x4_1 ++ (⟨#[116, 111, 107, 101, 110, 32]⟩ : ByteArray)).size + ((rd_T51 l0_1 x5_1).f0).size ≤ 9223372036854775807) = true := decide_eq_true c24
           try have c24b2 : (9223372036854775807 < (x4_1 ++ (⟨#[116, 111, 107, 101, 110, 32]⟩ : ByteArray)).size + ((rd_T51 l0_1 x5_1).f0).size) = False := eq_false (Nat.not_lt.2 c24)
           by_cases c25 : ((x4_1 ++ (⟨#[116, 111, 107, 101, 110, 32]⟩ : ByteArray)) ++ ((rd_T51 l0_1 x5_1).f0)).size + 2 ≤ 9223372036854775807
           ·rw [if_pos c25] at H
            have c25b0 := eq_true c25
            have c25b9 : (9223372036854775807 < x4_1.size + 6 + ((rd_T51 l0_1 x5_1).f0).size + 2) = False := eq_false (Nat.not_lt.2 (by have h := c25; simp only [ByteArray.size_append] at h; exact h))
            have c25b1 : decide (((x4_1 ++ (⟨#[116, 111, 107, 101, 110, 32]⟩ : ByteArray)) ++ ((rd_T51 l0_1 x5_1).f0)).size + 2 ≤ 9223372036854775807) = true := decide_eq_true c25
            try have c25b2 : (9223372036854775807 < ((x4_1 ++ (⟨#[116, 111, 107, 101, 110, 32]⟩ : ByteArray)) ++ ((rd_T51 l0_1 x5_1).f0)).size + 2) = False := eq_false (Nat.not_lt.2 c25)
            by_cases c26 : (((x4_1 ++ (⟨#[116, 111, 107, 101, 110, 32]⟩ : ByteArray)) ++ ((rd_T51 l0_1 x5_1).f0)) ++ (⟨#[32, 126]⟩ : ByteArray)).size + ((rd_T51 l0_1 x5_1).f1).size ≤ 9223372036854775807
            ·rw [if_pos c26] at H
             have c26b0 := eq_true c26
             have c26b9 : (9223372036854775807 < x4_1.size + 6 + ((rd_T51 l0_1 x5_1).f0).size + 2 + ((rd_T51 l0_1 x5_1).f1).size) = False := eq_false (Nat.not_lt.2 (by have h := c26; simp only [ByteArray.size_append] at h; exact h))
             have c26b1 : decide ((((x4_1 ++ (⟨#[116, 111, 107, 101, 110, 32]⟩ : ByteArray)) ++ ((rd_T51 l0_1 x5_1).f0)) ++ (⟨#[32, 126]⟩ : ByteArray)).size + ((rd_T51 l0_1 x5_1).f1).size ≤ 9223372036854775807) = true := decide_eq_true c26
             try have c26b2 : (9223372036854775807 < (((x4_1 ++ (⟨#[116, 111, 107, 101, 110, 32]⟩ : ByteArray)) ++ ((rd_T51 l0_1 x5_1).f0)) ++ (⟨#[32, 126]⟩ : ByteArray)).size + ((rd_T51 l0_1 x5_1).f1).size) = False := eq_false (Nat.not_lt.2 c26)
             by_cases c27 : ((((x4_1 ++ (⟨#[116, 111, 107, 101, 110, 32]⟩ : ByteArray)) ++ ((rd_T51 l0_1 x5_1).f0)) ++ (⟨#[32, 126]⟩ : ByteArray)) ++ ((rd_T51 l0_1 x5_1).f1)).size + 3 ≤ 9223372036854775807
             ·rw [if_pos c27] at H
              have c27b0 := eq_true c27
              have c27b9 : (9223372036854775807 < x4_1.size + 6 + ((rd_T51 l0_1 x5_1).f0).size + 2 + ((rd_T51 l0_1 x5_1).f1).size + 3) = False := eq_false (Nat.not_lt.2 (by have h := c27; simp only [ByteArray.size_append] at h; exact h))
              have c27b1 : decide (((((x4_1 ++ (⟨#[116, 111, 107, 101, 110, 32]⟩ : ByteArray)) ++ ((rd_T51 l0_1 x5_1).f0)) ++ (⟨#[32, 126]⟩ : ByteArray)) ++ ((rd_T51 l0_1 x5_1).f1)).size + 3 ≤ 9223372036854775807) = true := decide_eq_true c27
              try have c27b2 : (9223372036854775807 < ((((x4_1 ++ (⟨#[116, 111, 107, 101, 110, 32]⟩ : ByteArray)) ++ ((rd_T51 l0_1 x5_1).f0)) ++ (⟨#[32, 126]⟩ : ByteArray)) ++ ((rd_T51 l0_1 x5_1).f1)).size + 3) = False := eq_false (Nat.not_lt.2 c27)
              have H' := Zz.mk H
              clear H
              have hcz28_0 : wr.cell? ⟨gb177, 0, none⟩ = some (.string a0_0) := (zbc BK177.out 0).trans rfl
              have hcz28_1 : wr.cell? ⟨gb177, 1, none⟩ = some (.slice A0_1 l0_1.length c0_1) := (zbc BK177.out 1).trans rfl
              have hcz28_2 : wr.cell? ⟨gb177, 2, none⟩ = some (.slice A0_2 l0_2.length c0_2) := (zbc BK177.out 2).trans rfl
              have hcz28_3 : wr.cell? ⟨gb177, 3, none⟩ = some (.slice A0_3 l0_3.length c0_3) := (zbc BK177.out 3).trans rfl
              have hcz28_4 : wr.cell? ⟨gb177, 4, none⟩ = some (.slice A0_4 l0_4.length c0_4) := (zbc BK177.out 4).trans rfl
              have hfz28_0 := zbf BK177.out 0
              have hfz28_1 := zbf BK177.out 1
              have hfz28_2 := zbf BK177.out 2
              have hfz28_3 := zbf BK177.out 3
              have hfz28_4 := zbf BK177.out 4
              have p179 : 0 ≤ (x5_1 : Int) := of_decide_eq_true (by first | (with_reducible assumption) | assumption)
              have q179 : x5_1 < (l0_1.length : Int) := of_decide_eq_true (by first | (with_reducible assumption) | assumption)
              obtain ⟨ad179, e179, hx179_0, hx179_1, hx179_2⟩ := at_T51 HR0_1.out x5_1 p179 q179
              (try rw [← Nbq12.out] at hx179_2)
              cases e179
              replace hx179_0 := (HB.out.cell (World.block_lt_of_cell? w _ hx179_0)).trans hx179_0
              replace hx179_1 := (HB.out.cell (World.block_lt_of_cell? w _ hx179_1)).trans hx179_1
              replace hx179_2 := (HB.out.cell (World.block_lt_of_cell? w _ hx179_2)).trans hx179_2
              replace p179 := eq_true p179
              replace q179 := eq_true q179
              go_wp2_with (first | ((with_reducible refine gate_dst (N := 6) rfl ?_); refine box_event ?hg (N := 6) ?hd (cs := #[.string (⟨#[]⟩ : ByteArray), .string (⟨#[]⟩ : ByteArray), .bool false]) (t := 51) ?hr ?_; (case hd => rfl); (case hg => rfl); (case hr => first | (go_simp; done) | (go_simp; rfl)); intro gb180 hg w29 hbox hb; have n0_ := Zz.mk (blk_below (g := gb177) (o := .cells #[.string a0_0, .slice (some ad179) l0_1.length c0_1, .slice A0_2 l0_2.length c0_2, .slice A0_3 l0_3.length c0_3, .slice A0_4 l0_4.length c0_4] 36 (0, 0)) (by (with_reducible repeat (first | refine zdn ?_ _ | refine zdr ?_ | refine zda ?_ _)); exact BK177.out) hb); have n1_ := Zz.mk (below_step (by repeat (first | (with_reducible first | exact HB.out | apply zba | apply zbn | apply zb1 | refine zbs ?_ GE177.out) | exact HB.out)) hb); have n2_ := Zz.mk (hbox); have n3_ := Zz.mk ((by rw [hg]; exact (zsz (by repeat (first | (with_reducible first | exact HB.out | apply zba | apply zbn | apply zb1 | refine zbs ?_ GE177.out) | exact HB.out))) : w.heap.size ≤ gb180)); have n4_ := Zz.mk ((by rw [hg]; exact (zsz (by repeat (first | (with_reducible first | exact HB.out | apply zba | apply zbn | apply zb1 | refine zbs ?_ GE177.out) | exact HB.out))) : w.heap.size ≤ gb180)); have n5_ := Zz.mk ((by rw [hg]; exact Nat.ne_of_lt (blk_lt (g := gb177) (o := .cells #[.string a0_0, .slice (some ad179) l0_1.length c0_1, .slice A0_2 l0_2.length c0_2, .slice A0_3 l0_3.length c0_3, .slice A0_4 l0_4.length c0_4] 36 (0, 0)) (by (with_reducible repeat (first | refine zdn ?_ _ | refine zdr ?_ | refine zda ?_ _)); exact BK177.out)) : gb177 ≠ gb180)); have n6_ := Zz.mk ((by rw [hg]; exact Nat.ne_of_gt (blk_lt (g := gb177) (o := .cells #[.string a0_0, .slice (some ad179) l0_1.length c0_1, .slice A0_2 l0_2.length c0_2, .slice A0_3 l0_3.length c0_3, .slice A0_4 l0_4.length c0_4] 36 (0, 0)) (by (with_reducible repeat (first | refine zdn ?_ _ | refine zdr ?_ | refine zda ?_ _)); exact BK177.out)) : gb180 ≠ gb177)); clear BK177; clear HB; have BK177 := n0_; have HB := n1_; have BK180 := n2_; have GW180 := n3_; have GE180 := n4_; have NB177_180 := n5_; have NB180_177 := n6_; clear n0_ n1_ n2_ n3_ n4_ n5_ n6_; clear hb hbox hg; have hnb30 := NB180_177.out; have hnc30 := NB177_180.out; have hcz31_0 : w29.cell? ⟨gb180, 0, none⟩ = some (.string (⟨#[]⟩ : ByteArray)) := (zbc BK180.out 0).trans rfl; have hcz31_1 : w29.cell? ⟨gb180, 1, none⟩ = some (.string (⟨#[]⟩ : ByteArray)) := (zbc BK180.out 1).trans rfl; have hcz31_2 : w29.cell? ⟨gb180, 2, none⟩ = some (.bool false) := (zbc BK180.out 2).trans rfl; have hfz31_0 := zbf BK180.out 0; have hfz31_1 := zbf BK180.out 1; have hfz31_2 := zbf BK180.out 2))
              go_roundg k1
              case measure => have := HK1.out; omega
              case rel => exact ⟨(((((x4_1 ++ (⟨#[116, 111, 107, 101, 110, 32]⟩ : ByteArray)) ++ ((rd_T51 l0_1 x5_1).f0)) ++ (⟨#[32, 126]⟩ : ByteArray)) ++ ((rd_T51 l0_1 x5_1).f1)) ++ (⟨#[126, 59, 10]⟩ : ByteArray)), (wrap64 (x5_1 + 1)), (by first | rfl | (simp; done) | (simp [*]; done)), (by first | rfl | (simp; done) | (simp [*]; done)), H', ⟨by have := HK1.out; omega⟩, ⟨by (with_reducible repeat (first | refine zdn ?_ _ | refine zdr ?_ | refine zda ?_ _)); refine blk_far ?_ NB177_180.out _; (with_reducible repeat (first | refine zdn ?_ _ | refine zdr ?_ | refine zda ?_ _)); refine blk_far ?_ NB177_180.out _; (with_reducible repeat (first | refine zdn ?_ _ | refine zdr ?_ | refine zda ?_ _)); refine blk_far ?_ NB177_180.out _; (with_reducible repeat (first | refine zdn ?_ _ | refine zdr ?_ | refine zda ?_ _)); exact BK177.out⟩, ⟨by repeat (first | (with_reducible first | exact HB.out | apply zba | apply zbn | apply zb1 | refine zbs ?_ GE177.out | refine zbs ?_ GE180.out) | exact HB.out)⟩⟩
             ·rw [if_neg c27] at H
              exact absurd H (by simp)
            ·rw [if_neg c26] at H
             exact absurd H (by simp)
           ·rw [if_neg c25] at H
            exact absurd H (by simp)
          ·rw [if_neg c24] at H
           exact absurd H (by simp)
         ·rw [if_neg c23] at H
          exact absurd H (by simp)
       ·rw [if_neg c11] at H
        exact absurd H (by simp)
      ·rw [if_neg c10] at H
       have c10b0 : decide (x5_1 < (l0_1.length : Int)) = false := decide_eq_false c10
       clear c10
       have H' := Zz.mk H
       clear H
       have hcz32_0 : wr.cell? ⟨gb177, 0, none⟩ = some (.string a0_0) := (zbc BK177.out 0).trans rfl
       have hcz32_1 : wr.cell? ⟨gb177, 1, none⟩ = some (.slice A0_1 l0_1.length c0_1) := (zbc BK177.out 1).trans rfl
       have hcz32_2 : wr.cell? ⟨gb177, 2, none⟩ = some (.slice A0_2 l0_2.length c0_2) := (zbc BK177.out 2).trans rfl
       have hcz32_3 : wr.cell? ⟨gb177, 3, none⟩ = some (.slice A0_3 l0_3.length c0_3) := (zbc BK177.out 3).trans rfl
       have hcz32_4 : wr.cell? ⟨gb177, 4, none⟩ = some (.slice A0_4 l0_4.length c0_4) := (zbc BK177.out 4).trans rfl
       have hfz32_0 := zbf BK177.out 0
       have hfz32_1 := zbf BK177.out 1
       have hfz32_2 := zbf BK177.out 2
       have hfz32_3 := zbf BK177.out 3
       have hfz32_4 := zbf BK177.out 4
       go_wp2
       go_loopg [4, 8] k1 (fun kq v4 v8 w' => ∃ (x4_2 : ByteArray) (x8_2 : Int), v4 = .string x4_2 ∧ v8 = .int .i64 x8_2 ∧ Zz (spec_GrammarShow.l1 kq x4_2 x8_2 a0_0 l0_1 l0_2 l0_3 l0_4 = some (r1, r2)) ∧ Zz (kq ≤ k1) ∧ Zz (w'.heap[gb177]? = some (.cells #[.string a0_0, (.slice A0_1 l0_1.length c0_1), (.slice A0_2 l0_2.length c0_2), (.slice A0_3 l0_3.length c0_3), (.slice A0_4 l0_4.length c0_4)] 36 (0, 0))) ∧ Zz (Below w.heap.size w w'))
       case atStart => exact ⟨(x4_1), (0), (by first | rfl | (simp; done) | (simp [*]; done)), (by first | rfl | (simp; done) | (simp [*]; done)), H', ⟨Nat.le_refl _⟩, ⟨by (with_reducible repeat (first | refine zdn ?_ _ | refine zdr ?_ | refine zda ?_ _)); exact BK177.out⟩, ⟨by repeat (first | (with_reducible first | exact HB.out | apply zba | apply zbn | apply zb1 | refine zbs ?_ GE177.out) | exact HB.out)⟩⟩
       case round =>
        clear H'
        try clear c1
        try clear p1
        try clear q1
        try clear hx1
        try clear c2
        try clear p2
        try clear c3
        try clear c4
        try clear c4b0
        try clear c4b1
        try clear c4b2
        try clear c5
        try clear c5b0
        try clear c5b1
        try clear c5b2
        try clear c6
        try clear p6
        try clear c10
        try clear c10b0
        try clear c11
        try clear c11b0
        try clear q12
        try clear c13
        try clear c14
        try clear c14b0
        try clear c14b1
        try clear c14b2
        try clear c15
        try clear c15b0
        try clear c15b1
        try clear c15b2
        try clear c16
        try clear c16b0
        try clear c16b1
        try clear c16b2
        try clear c17
        try clear c17b0
        try clear c17b1
        try clear c17b2
        try clear p17
        try clear q17
        try clear hx17
        try clear c18
        try clear c18b0
        try clear c18b1
        try clear c18b2
        try clear c21
        try clear c23
        try clear c23b0
        try clear c23b1
        try clear c23b2
        try clear c24
        try clear c24b0
        try clear c24b1
        try clear c24b2
        try clear c25
        try clear c25b0
        try clear c25b1
        try clear c25b2
        try clear c26
        try clear c26b0
        try clear c26b1
        try clear c26b2
        try clear c27
        try clear c27b0
        try clear c27b1
        try clear c27b2
        try clear c30
        try clear hcz19_0
        try clear hcz19_1
        try clear hcz19_2
        try clear hcz19_3
        try clear hcz19_4
        try clear hcz22_0
        try clear hcz22_1
        try clear hcz22_2
        try clear hcz28_0
        try clear hcz28_1
        try clear hcz28_2
        try clear hcz28_3
        try clear hcz28_4
        try clear hcz31_0
        try clear hcz31_1
        try clear hcz31_2
        try clear hcz32_0
        try clear hcz32_1
        try clear hcz32_2
        try clear hcz32_3
        try clear hcz32_4
        try clear hcz7_0
        try clear hcz7_1
        try clear hcz7_2
        try clear hcz7_3
        try clear hcz7_4
        try clear hcz9_0
        try clear hcz9_1
        try clear hcz9_2
        try clear hcz9_3
        try clear hcz9_4
        try clear hfz19_0
        try clear hfz19_1
        try clear hfz19_2
        try clear hfz19_3
        try clear hfz19_4
        try clear hfz22_0
        try clear hfz22_1
        try clear hfz22_2
        try clear hfz28_0
        try clear hfz28_1
        try clear hfz28_2
        try clear hfz28_3
        try clear hfz28_4
        try clear hfz31_0
        try clear hfz31_1
        try clear hfz31_2
        try clear hfz32_0
        try clear hfz32_1
        try clear hfz32_2
        try clear hfz32_3
        try clear hfz32_4
        try clear hfz7_0
        try clear hfz7_1
        try clear hfz7_2
        try clear hfz7_3
        try clear hfz7_4
        try clear hfz9_0
        try clear hfz9_1
        try clear hfz9_2
        try clear hfz9_3
        try clear hfz9_4
        try clear hx179_0
        try clear hx179_1
        try clear hx179_2
        try clear p179
        try clear p2
        try clear q179
        obtain ⟨x4_2, x8_2, rfl, rfl, HA, HK2, BK177, HB⟩ := hrel
        cases gk with
        | zero => exact absurd HA.out (by simp [spec_GrammarShow.l1])
        | succ k2 =>
         have H := HA.out
         clear HA
         simp only [spec_GrammarShow.l1] at H
         by_cases c33 : x8_2 < (l0_2.length : Int)
         ·rw [if_pos c33] at H
          have c33b0 : decide (x8_2 < (l0_2.length : Int)) = true := decide_eq_true c33
          clear c33
          obtain ⟨y181, hy181⟩ : ∃ y_ : List ByteArray, y_ = (([(⟨#[]⟩ : ByteArray), (⟨#[108, 101, 102, 116]⟩ : ByteArray), (⟨#[114, 105, 103, 104, 116]⟩ : ByteArray), (⟨#[110, 111, 110, 101]⟩ : ByteArray)] : List ByteArray)) := ⟨_, rfl⟩
          replace H : (if 0 ≤ x8_2 then (if 0 ≤ ((rd_T54 l0_2 x8_2).f0) then (if ((rd_T54 l0_2 x8_2).f0) < (y181.length : Int) then (spec_GrammarShow.l2 k2 x4_2 x8_2 (([rdOf ByteArray.empty y181 ((rd_T54 l0_2 x8_2).f0)] : List ByteArray)) 0 a0_0 l0_1 l0_2 l0_3 l0_4) else (none)) else (none)) else (none)) = some (r1, r2) := by first | (rw [hy181]; with_reducible exact H) | (have H2_ := (Option.bind_some _ _).symm.trans H; rw [hy181]; with_reducible exact H2_) | (have H2_ := (Option.bind_some _ _).symm.trans H; with_reducible exact H2_) | with_reducible exact H | (rw [hy181]; exact H) | exact H
          have Ny181 := Zz.mk hy181
          clear hy181
          by_cases c34 : 0 ≤ x8_2
          ·rw [if_pos c34] at H
           have c34b0 : decide (0 ≤ x8_2) = true := decide_eq_true c34
           clear c34
           by_cases c35 : 0 ≤ ((rd_T54 l0_2 x8_2).f0)
           ·rw [if_pos c35] at H
            have c35b0 : decide (0 ≤ ((rd_T54 l0_2 x8_2).f0)) = true := decide_eq_true c35
            clear c35
            by_cases c36 : ((rd_T54 l0_2 x8_2).f0) < (y181.length : Int)
            ·rw [if_pos c36] at H
             have c36b0 : decide (((rd_T54 l0_2 x8_2).f0) < (y181.length : Int)) = true := decide_eq_true c36
             clear c36
             obtain ⟨y186, hy186⟩ : ∃ y_ : List ByteArray, y_ = (([rdOf ByteArray.empty y181 ((rd_T54 l0_2 x8_2).f0)] : List ByteArray)) := ⟨_, rfl⟩
             replace H : (spec_GrammarShow.l2 k2 x4_2 x8_2 y186 0 a0_0 l0_1 l0_2 l0_3 l0_4) = some (r1, r2) := by first | (rw [hy186]; with_reducible exact H) | (have H2_ := (Option.bind_some _ _).symm.trans H; rw [hy186]; with_reducible exact H2_) | (have H2_ := (Option.bind_some _ _).symm.trans H; with_reducible exact H2_) | with_reducible exact H | (rw [hy186]; exact H) | exact H
             have Ny186 := Zz.mk hy186
             clear hy186
             have H' := Zz.mk H
             clear H
             have hcz37_0 : wr.cell? ⟨gb177, 0, none⟩ = some (.string a0_0) := (zbc BK177.out 0).trans rfl
             have hcz37_1 : wr.cell? ⟨gb177, 1, none⟩ = some (.slice A0_1 l0_1.length c0_1) := (zbc BK177.out 1).trans rfl
             have hcz37_2 : wr.cell? ⟨gb177, 2, none⟩ = some (.slice A0_2 l0_2.length c0_2) := (zbc BK177.out 2).trans rfl
             have hcz37_3 : wr.cell? ⟨gb177, 3, none⟩ = some (.slice A0_3 l0_3.length c0_3) := (zbc BK177.out 3).trans rfl
             have hcz37_4 : wr.cell? ⟨gb177, 4, none⟩ = some (.slice A0_4 l0_4.length c0_4) := (zbc BK177.out 4).trans rfl
             have hfz37_0 := zbf BK177.out 0
             have hfz37_1 := zbf BK177.out 1
             have hfz37_2 := zbf BK177.out 2
             have hfz37_3 := zbf BK177.out 3
             have hfz37_4 := zbf BK177.out 4
             go_wp2_with (first | ((with_reducible refine gate_dst (N := 51) rfl ?_); refine Kd.R_lit Kd.string _ 9 ?hg (N := 51) ?hd (xs := ([(⟨#[]⟩ : ByteArray), (⟨#[108, 101, 102, 116]⟩ : ByteArray), (⟨#[114, 105, 103, 104, 116]⟩ : ByteArray), (⟨#[110, 111, 110, 101]⟩ : ByteArray)] : List ByteArray)) (inner := [.string (⟨#[]⟩ : ByteArray), .string (⟨#[108, 101, 102, 116]⟩ : ByteArray), .string (⟨#[114, 105, 103, 104, 116]⟩ : ByteArray), .string (⟨#[110, 111, 110, 101]⟩ : ByteArray)]) (ok := fun _ => True) (okp := fun _ => True) ?hr ?hp (fun _ hk => hk) trivial (Below.refl _ _) (Nat.le_refl _) (by simp) ?_; (case hd => rfl); (case hg => rfl); (case hr => first | (go_simp; done) | (go_simp; rfl)); (case hp => exact (Reps.one (show Kd.M Kd.string _ _ _ (⟨#[]⟩ : ByteArray) [.string (⟨#[]⟩ : ByteArray)] from rfl) (Reps.one (show Kd.M Kd.string _ _ _ (⟨#[108, 101, 102, 116]⟩ : ByteArray) [.string (⟨#[108, 101, 102, 116]⟩ : ByteArray)] from rfl) (Reps.one (show Kd.M Kd.string _ _ _ (⟨#[114, 105, 103, 104, 116]⟩ : ByteArray) [.string (⟨#[114, 105, 103, 104, 116]⟩ : ByteArray)] from rfl) (Reps.one (show Kd.M Kd.string _ _ _ (⟨#[110, 111, 110, 101]⟩ : ByteArray) [.string (⟨#[110, 111, 110, 101]⟩ : ByteArray)] from rfl) (Reps.none _ _)))))); intro v182 w38 ho39 hb hg_ hnew_; clear hg_ hnew_; (first | rw [← Ny181.out] at ho39 | (simp only [Int.reduceToNat] at ho39; rw [← Ny181.out] at ho39)); have n0_ := Zz.mk (Kd.R_lower ho39 (zsz (by repeat (first | (with_reducible first | exact HB.out | apply zba | apply zbn | apply zb1 | refine zbs ?_ GE177.out) | exact HB.out)))); have n1_ := Zz.mk (blk_below (g := gb177) (o := .cells #[.string a0_0, .slice A0_1 l0_1.length c0_1, .slice A0_2 l0_2.length c0_2, .slice A0_3 l0_3.length c0_3, .slice A0_4 l0_4.length c0_4] 36 (0, 0)) (by (with_reducible repeat (first | refine zdn ?_ _ | refine zdr ?_ | refine zda ?_ _)); exact BK177.out) hb); have n2_ := Zz.mk (below_step (by repeat (first | (with_reducible first | exact HB.out | apply zba | apply zbn | apply zb1 | refine zbs ?_ GE177.out) | exact HB.out)) hb); clear BK177; clear HB; have HO183 := n0_; have BK177 := n1_; have HB := n2_; clear n0_ n1_ n2_; clear hb ho39; have hcz40_0 : w38.cell? ⟨gb177, 0, none⟩ = some (.string a0_0) := (zbc BK177.out 0).trans rfl; have hcz40_1 : w38.cell? ⟨gb177, 1, none⟩ = some (.slice A0_1 l0_1.length c0_1) := (zbc BK177.out 1).trans rfl; have hcz40_2 : w38.cell? ⟨gb177, 2, none⟩ = some (.slice A0_2 l0_2.length c0_2) := (zbc BK177.out 2).trans rfl; have hcz40_3 : w38.cell? ⟨gb177, 3, none⟩ = some (.slice A0_3 l0_3.length c0_3) := (zbc BK177.out 3).trans rfl; have hcz40_4 : w38.cell? ⟨gb177, 4, none⟩ = some (.slice A0_4 l0_4.length c0_4) := (zbc BK177.out 4).trans rfl; have hfz40_0 := zbf BK177.out 0; have hfz40_1 := zbf BK177.out 1; have hfz40_2 := zbf BK177.out 2; have hfz40_3 := zbf BK177.out 3; have hfz40_4 := zbf BK177.out 4; have p184 : 0 ≤ (x8_2 : Int) := of_decide_eq_true (by first | (with_reducible assumption) | assumption); have q184 : x8_2 < (l0_2.length : Int) := of_decide_eq_true (by first | (with_reducible assumption) | assumption); obtain ⟨ad184, A184_1, c184_1, e184, hx184_0, hx184_1, hl184_1, hi184_1⟩ := at_T54 HR0_2.out x8_2 p184 q184; cases e184; replace hx184_0 := (HB.out.cell (World.block_lt_of_cell? w _ hx184_0)).trans hx184_0; replace hx184_1 := (HB.out.cell (World.block_lt_of_cell? w _ hx184_1)).trans hx184_1; have HR184_1 := Zz.mk hi184_1; have HC184_1 := Zz.mk hl184_1; clear hi184_1 hl184_1; replace p184 := eq_true p184; replace q184 := eq_true q184; obtain ⟨Ao41, co41, eo41⟩ := Kd.R_slice HO183.out; subst eo41; have p185 : 0 ≤ (((rd_T54 l0_2 x8_2).f0) : Int) := of_decide_eq_true (by first | (with_reducible assumption) | assumption); have q185 : ((rd_T54 l0_2 x8_2).f0) < (y181.length : Int) := of_decide_eq_true (by first | (with_reducible assumption) | assumption); obtain ⟨ad185, e185, hx185_0⟩ := Kd.at_string (Kd.R_reads' HO183.out).2.2 ((rd_T54 l0_2 x8_2).f0) p185 q185; cases e185; replace p185 := eq_true p185; replace q185 := eq_true q185) | ((with_reducible refine gate_dst (N := 60) rfl ?_); refine Kd.R_lit Kd.string _ 9 ?hg (N := 60) ?hd (xs := ([rdOf ByteArray.empty y181 ((rd_T54 l0_2 x8_2).f0)] : List ByteArray)) (inner := [.string (rdOf ByteArray.empty y181 ((rd_T54 l0_2 x8_2).f0))]) (ok := fun _ => True) (okp := fun _ => True) ?hr ?hp (fun _ hk => hk) trivial (Below.refl _ _) (Nat.le_refl _) (by simp) ?_; (case hd => rfl); (case hg => rfl); (case hr => first | (go_simp; done) | (go_simp; rfl)); (case hp => exact (Reps.one (show Kd.M Kd.string _ _ _ (rdOf ByteArray.empty y181 ((rd_T54 l0_2 x8_2).f0)) [.string (rdOf ByteArray.empty y181 ((rd_T54 l0_2 x8_2).f0))] from rfl) (Reps.none _ _))); intro v187 w42 ho43 hb hg_ hnew_; clear hg_ hnew_; (first | rw [← Ny186.out] at ho43 | (simp only [Int.reduceToNat] at ho43; rw [← Ny186.out] at ho43)); have n0_ := Zz.mk (Kd.R_elder' (by (with_reducible repeat (first | apply Kd.R_alloc | apply Kd.R_drewN | apply Kd.R_drew)); exact HO183.out) (Kd.R_base ho43) hb); have n1_ := Zz.mk (Kd.R_lower (Kd.R_new' ho43 (Kd.R_lt (by (with_reducible repeat (first | apply Kd.R_alloc | apply Kd.R_drewN | apply Kd.R_drew)); exact HO183.out))) (zsz (by repeat (first | (with_reducible first | exact HB.out | apply zba | apply zbn | apply zb1 | refine zbs ?_ GE177.out) | exact HB.out)))); have n2_ := Zz.mk (blk_below (g := gb177) (o := .cells #[.string a0_0, .slice A0_1 l0_1.length c0_1, .slice (some ad184) l0_2.length c0_2, .slice A0_3 l0_3.length c0_3, .slice A0_4 l0_4.length c0_4] 36 (0, 0)) (by (with_reducible repeat (first | refine zdn ?_ _ | refine zdr ?_ | refine zda ?_ _)); exact BK177.out) hb); have n3_ := Zz.mk (below_step (by repeat (first | (with_reducible first | exact HB.out | apply zba | apply zbn | apply zb1 | refine zbs ?_ GE177.out) | exact HB.out)) hb); clear HO183; clear BK177; clear HB; have HO183 := n0_; have HO188 := n1_; have BK177 := n2_; have HB := n3_; clear n0_ n1_ n2_ n3_; clear hb ho43))
             go_loopg [9, 10] k2 (fun kq v9 v10 w' => ∃ (x9_3 : List ByteArray) (x10_3 : Int), v10 = .int .i64 x10_3 ∧ Zz (spec_GrammarShow.l2 kq x4_2 x8_2 x9_3 x10_3 a0_0 l0_1 l0_2 l0_3 l0_4 = some (r1, r2)) ∧ Zz (kq ≤ k2) ∧ Zz (Kd.R Kd.string 9 w' w.heap.size (fun _ => True) v9 x9_3) ∧ Zz (w'.heap[gb177]? = some (.cells #[.string a0_0, (.slice A0_1 l0_1.length c0_1), (.slice (some ad184) l0_2.length c0_2), (.slice A0_3 l0_3.length c0_3), (.slice A0_4 l0_4.length c0_4)] 36 (0, 0))) ∧ Zz (Below w.heap.size w w'))
             case atStart => exact ⟨(y186), (0), (by first | rfl | (simp; done) | (simp [*]; done)), H', ⟨Nat.le_refl _⟩, ⟨by (with_reducible repeat (first | apply Kd.R_alloc | apply Kd.R_drewN | apply Kd.R_drew)); exact Kd.R_mono HO188.out (fun _ hk => trivial)⟩, ⟨by (with_reducible repeat (first | refine zdn ?_ _ | refine zdr ?_ | refine zda ?_ _)); exact BK177.out⟩, ⟨by repeat (first | (with_reducible first | exact HB.out | apply zba | apply zbn | apply zb1 | refine zbs ?_ GE177.out) | exact HB.out)⟩⟩
             case round =>
              clear H'
              try clear c1
              try clear p1
              try clear q1
              try clear hx1
              try clear c2
              try clear p2
              try clear c3
              try clear c4
              try clear c4b0
              try clear c4b1
              try clear c4b2
              try clear c5
              try clear c5b0
              try clear c5b1
              try clear c5b2
              try clear c6
              try clear p6
              try clear c10
              try clear c10b0
              try clear c11
              try clear c11b0
              try clear q12
              try clear c13
              try clear c14
              try clear c14b0
              try clear c14b1
              try clear c14b2
              try clear c15
              try clear c15b0
              try clear c15b1
              try clear c15b2
              try clear c16
              try clear c16b0
              try clear c16b1
              try clear c16b2
              try clear c17
              try clear c17b0
              try clear c17b1
              try clear c17b2
              try clear p17
              try clear q17
              try clear hx17
              try clear c18
              try clear c18b0
              try clear c18b1
              try clear c18b2
              try clear p18
              try clear q18
              try clear hx18
              try clear c21
              try clear c23
              try clear c23b0
              try clear c23b1
              try clear c23b2
              try clear c24
              try clear c24b0
              try clear c24b1
              try clear c24b2
              try clear c25
              try clear c25b0
              try clear c25b1
              try clear c25b2
              try clear c26
              try clear c26b0
              try clear c26b1
              try clear c26b2
              try clear c27
              try clear c27b0
              try clear c27b1
              try clear c27b2
              try clear c30
              try clear c33
              try clear c33b0
              try clear c34
              try clear c34b0
              try clear c35
              try clear c35b0
              try clear c36
              try clear c36b0
              try clear hcz19_0
              try clear hcz19_1
              try clear hcz19_2
              try clear hcz19_3
              try clear hcz19_4
              try clear hcz22_0
              try clear hcz22_1
              try clear hcz22_2
              try clear hcz28_0
              try clear hcz28_1
              try clear hcz28_2
              try clear hcz28_3
              try clear hcz28_4
              try clear hcz31_0
              try clear hcz31_1
              try clear hcz31_2
              try clear hcz32_0
              try clear hcz32_1
              try clear hcz32_2
              try clear hcz32_3
              try clear hcz32_4
              try clear hcz37_0
              try clear hcz37_1
              try clear hcz37_2
              try clear hcz37_3
              try clear hcz37_4
              try clear hcz40_0
              try clear hcz40_1
              try clear hcz40_2
              try clear hcz40_3
              try clear hcz40_4
              try clear hcz7_0
              try clear hcz7_1
              try clear hcz7_2
              try clear hcz7_3
              try clear hcz7_4
              try clear hcz9_0
              try clear hcz9_1
              try clear hcz9_2
              try clear hcz9_3
              try clear hcz9_4
              try clear hfz19_0
              try clear hfz19_1
              try clear hfz19_2
              try clear hfz19_3
              try clear hfz19_4
              try clear hfz22_0
              try clear hfz22_1
              try clear hfz22_2
              try clear hfz28_0
              try clear hfz28_1
              try clear hfz28_2
              try clear hfz28_3
              try clear hfz28_4
              try clear hfz31_0
              try clear hfz31_1
              try clear hfz31_2
              try clear hfz32_0
              try clear hfz32_1
              try clear hfz32_2
              try clear hfz32_3
              try clear hfz32_4
              try clear hfz37_0
              try clear hfz37_1
              try clear hfz37_2
              try clear hfz37_3
              try clear hfz37_4
              try clear hfz40_0
              try clear hfz40_1
              try clear hfz40_2
              try clear hfz40_3
              try clear hfz40_4
              try clear hfz7_0
              try clear hfz7_1
              try clear hfz7_2
              try clear hfz7_3
              try clear hfz7_4
              try clear hfz9_0
              try clear hfz9_1
              try clear hfz9_2
              try clear hfz9_3
              try clear hfz9_4
              try clear hx179_0
              try clear hx179_1
              try clear hx179_2
              try clear hx184_0
              try clear hx184_1
              try clear hx185_0
              try clear p1
              try clear p17
              try clear p179
              try clear p184
              try clear p185
              try clear p2
              try clear p6
              try clear q1
              try clear q12
              try clear q17
              try clear q179
              try clear q184
              try clear q185
              obtain ⟨x9_3, x10_3, rfl, HA, HK3, HO_9, BK177, HB⟩ := hrel
              cases gk with
              | zero => exact absurd HA.out (by simp [spec_GrammarShow.l2])
              | succ k3 =>
               have H := HA.out
               clear HA
               simp only [spec_GrammarShow.l2] at H
               by_cases c44 : 0 ≤ x8_2
               ·rw [if_pos c44] at H
                have c44b0 : decide (0 ≤ x8_2) = true := decide_eq_true c44
                clear c44
                by_cases c45 : x8_2 < (l0_2.length : Int)
                ·rw [if_pos c45] at H
                 have c45b0 : decide (x8_2 < (l0_2.length : Int)) = true := decide_eq_true c45
                 clear c45
                 by_cases c46 : x10_3 < (((rd_T54 l0_2 x8_2).f1).length : Int)
                 ·rw [if_pos c46] at H
                  have c46b0 : decide (x10_3 < (((rd_T54 l0_2 x8_2).f1).length : Int)) = true := decide_eq_true c46
                  clear c46
                  by_cases c47 : 0 ≤ x10_3
                  ·rw [if_pos c47] at H
                   have c47b0 : decide (0 ≤ x10_3) = true := decide_eq_true c47
                   clear c47
                   by_cases c48 : 1 + (rdOf ByteArray.empty ((rd_T54 l0_2 x8_2).f1) x10_3).size ≤ 9223372036854775807
                   ·rw [if_pos c48] at H
                    have c48b0 := eq_true c48
                    have c48b1 : decide (1 + (rdOf ByteArray.empty ((rd_T54 l0_2 x8_2).f1) x10_3).size ≤ 9223372036854775807) = true := decide_eq_true c48
                    try have c48b2 : (9223372036854775807 < 1 + (rdOf ByteArray.empty ((rd_T54 l0_2 x8_2).f1) x10_3).size) = False := eq_false (Nat.not_lt.2 c48)
                    by_cases c49 : ((⟨#[39]⟩ : ByteArray) ++ (rdOf ByteArray.empty ((rd_T54 l0_2 x8_2).f1) x10_3)).size + 1 ≤ 9223372036854775807
                    ·rw [if_pos c49] at H
                     have c49b0 := eq_true c49
                     have c49b9 : (9223372036854775807 < 1 + (rdOf ByteArray.empty ((rd_T54 l0_2 x8_2).f1) x10_3).size + 1) = False := eq_false (Nat.not_lt.2 (by have h := c49; simp only [ByteArray.size_append] at h; exact h))
                     have c49b1 : decide (((⟨#[39]⟩ : ByteArray) ++ (rdOf ByteArray.empty ((rd_T54 l0_2 x8_2).f1) x10_3)).size + 1 ≤ 9223372036854775807) = true := decide_eq_true c49
                     try have c49b2 : (9223372036854775807 < ((⟨#[39]⟩ : ByteArray) ++ (rdOf ByteArray.empty ((rd_T54 l0_2 x8_2).f1) x10_3)).size + 1) = False := eq_false (Nat.not_lt.2 c49)
                     by_cases c50 : x9_3.length < 8796093022208
                     ·rw [if_pos c50] at H
                      have LMc50 := Zz.mk c50
                      clear c50
                      obtain ⟨y192, hy192⟩ : ∃ y_ : List ByteArray, y_ = (x9_3 ++ [((⟨#[39]⟩ : ByteArray) ++ (rdOf ByteArray.empty ((rd_T54 l0_2 x8_2).f1) x10_3)) ++ (⟨#[39]⟩ : ByteArray)]) := ⟨_, rfl⟩
                      replace H : (spec_GrammarShow.l2 k3 x4_2 x8_2 y192 (wrap64 (x10_3 + 1)) a0_0 l0_1 l0_2 l0_3 l0_4) = some (r1, r2) := by first | (rw [hy192]; with_reducible exact H) | (have H2_ := (Option.bind_some _ _).symm.trans H; rw [hy192]; with_reducible exact H2_) | (have H2_ := (Option.bind_some _ _).symm.trans H; with_reducible exact H2_) | with_reducible exact H | (rw [hy192]; exact H) | exact H
                      have Ny192 := Zz.mk hy192
                      clear hy192
                      have H' := Zz.mk H
                      clear H
                      have hcz51_0 : wr.cell? ⟨gb177, 0, none⟩ = some (.string a0_0) := (zbc BK177.out 0).trans rfl
                      have hcz51_1 : wr.cell? ⟨gb177, 1, none⟩ = some (.slice A0_1 l0_1.length c0_1) := (zbc BK177.out 1).trans rfl
                      have hcz51_2 : wr.cell? ⟨gb177, 2, none⟩ = some (.slice (some ad184) l0_2.length c0_2) := (zbc BK177.out 2).trans rfl
                      have hcz51_3 : wr.cell? ⟨gb177, 3, none⟩ = some (.slice A0_3 l0_3.length c0_3) := (zbc BK177.out 3).trans rfl
                      have hcz51_4 : wr.cell? ⟨gb177, 4, none⟩ = some (.slice A0_4 l0_4.length c0_4) := (zbc BK177.out 4).trans rfl
                      have hfz51_0 := zbf BK177.out 0
                      have hfz51_1 := zbf BK177.out 1
                      have hfz51_2 := zbf BK177.out 2
                      have hfz51_3 := zbf BK177.out 3
                      have hfz51_4 := zbf BK177.out 4
                      have p189 : 0 ≤ (x8_2 : Int) := of_decide_eq_true (by first | (with_reducible assumption) | assumption)
                      have q189 : x8_2 < (l0_2.length : Int) := of_decide_eq_true (by first | (with_reducible assumption) | assumption)
                      obtain ⟨ad189, A189_1, c189_1, e189, hx189_0, hx189_1, hl189_1, hi189_1⟩ := at_T54 HR0_2.out x8_2 p189 q189
                      obtain rfl : ad184 = ad189 := (by injection e189)
                      replace hx189_0 := (HB.out.cell (World.block_lt_of_cell? w _ hx189_0)).trans hx189_0
                      replace hx189_1 := (HB.out.cell (World.block_lt_of_cell? w _ hx189_1)).trans hx189_1
                      have HR189_1 := Zz.mk hi189_1
                      have HC189_1 := Zz.mk hl189_1
                      clear hi189_1 hl189_1
                      replace p189 := eq_true p189
                      replace q189 := eq_true q189
                      have p190 : 0 ≤ (x8_2 : Int) := of_decide_eq_true (by first | (with_reducible assumption) | assumption)
                      have q190 : x8_2 < (l0_2.length : Int) := of_decide_eq_true (by first | (with_reducible assumption) | assumption)
                      obtain ⟨ad190, A190_1, c190_1, e190, hx190_0, hx190_1, hl190_1, hi190_1⟩ := at_T54 HR0_2.out x8_2 p190 q190
                      obtain rfl : ad184 = ad190 := (by injection e190)
                      replace hx190_0 := (HB.out.cell (World.block_lt_of_cell? w _ hx190_0)).trans hx190_0
                      replace hx190_1 := (HB.out.cell (World.block_lt_of_cell? w _ hx190_1)).trans hx190_1
                      have HR190_1 := Zz.mk hi190_1
                      have HC190_1 := Zz.mk hl190_1
                      clear hi190_1 hl190_1
                      replace p190 := eq_true p190
                      replace q190 := eq_true q190
                      have ea_ := Option.some.inj (hx189_1.symm.trans hx190_1)
                      injection ea_ with ea_ en_ ec_
                      subst ea_
                      subst ec_
                      clear en_
                      have p191 : 0 ≤ (x10_3 : Int) := of_decide_eq_true (by first | (with_reducible assumption) | assumption)
                      have q191 : x10_3 < (((rd_T54 l0_2 x8_2).f1).length : Int) := of_decide_eq_true (by first | (with_reducible assumption) | assumption)
                      obtain ⟨ad191, e191, hx191_0⟩ := Kd.at_string HR190_1.out x10_3 p191 q191
                      cases e191
                      replace hx191_0 := (HB.out.cell (World.block_lt_of_cell? w _ hx191_0)).trans hx191_0
                      replace p191 := eq_true p191
                      replace q191 := eq_true q191
                      go_wp2_with (first | ((with_reducible refine gate_builtin (b := .append) (xs := #[.tmp 72, .tmp 84]) rfl ?_); at_builtin; refine Kd.R_append Kd.string (w0 := w) w.heap.size rfl (.tmp 72) (.tmp 84) 52 9 (.string ⟨#[]⟩) 16 rfl Try.underlying52 info9 rfl (by decide) (by omega) u9 x9_3 (((⟨#[39]⟩ : ByteArray) ++ (rdOf ByteArray.empty ((rd_T54 l0_2 x8_2).f1) x10_3)) ++ (⟨#[39]⟩ : ByteArray)) [.string (((⟨#[39]⟩ : ByteArray) ++ (rdOf ByteArray.empty ((rd_T54 l0_2 x8_2).f1) x10_3)) ++ (⟨#[39]⟩ : ByteArray))] (fun _ => True) (fun _ => False) rfl rfl ?aP (fun _ hk => hk.elim) ?aF ?aO ?aB ?aS ?aL ?_; (case aP => exact rfl); (case aB => exact (by repeat (first | (with_reducible first | exact HB.out | apply zba | apply zbn | apply zb1 | refine zbs ?_ GE177.out) | exact HB.out))); (case aF => exact (fun _ _ => trivial)); (case aO => exact (by (with_reducible repeat (first | apply Kd.R_alloc | apply Kd.R_drewN | apply Kd.R_drew)); exact HO_9.out)); (case aS => exact (zsz (by repeat (first | (with_reducible first | exact HB.out | apply zba | apply zbn | apply zb1 | refine zbs ?_ GE177.out) | exact HB.out)))); (case aL => have := LMc50.out; omega); intro v193 w52 ho hb hg hat; rw [← Ny192.out] at ho; have n0_ := Zz.mk (blk_grown (g := gb177) (o := .cells #[.string a0_0, .slice A0_1 l0_1.length c0_1, .slice (some ad184) l0_2.length c0_2, .slice A0_3 l0_3.length c0_3, .slice A0_4 l0_4.length c0_4] 36 (0, 0)) (by (with_reducible repeat (first | refine zdn ?_ _ | refine zdr ?_ | refine zda ?_ _)); exact BK177.out) hg (Kd.R_ne HO_9.out BK177.out (by decide))); have n1_ := Zz.mk (hb); have n2_ := Zz.mk (ho); clear BK177; clear HB; clear HO_9; have BK177 := n0_; have HB := n1_; have HO194 := n2_; clear n0_ n1_ n2_; clear ho hb hg hat))
                      go_roundg k3
                      case measure => have := HK1.out; have := HK2.out; have := HK3.out; omega
                      case rel => exact ⟨(y192), (wrap64 (x10_3 + 1)), (by first | rfl | (simp; done) | (simp [*]; done)), H', ⟨by have := HK1.out; have := HK2.out; have := HK3.out; omega⟩, ⟨by (with_reducible repeat (first | apply Kd.R_alloc | apply Kd.R_drewN | apply Kd.R_drew)); exact HO194.out⟩, ⟨by (with_reducible repeat (first | refine zdn ?_ _ | refine zdr ?_ | refine zda ?_ _)); exact BK177.out⟩, ⟨by repeat (first | (with_reducible first | exact HB.out | apply zba | apply zbn | apply zb1 | refine zbs ?_ GE177.out) | exact HB.out)⟩⟩
                     ·rw [if_neg c50] at H
                      exact absurd H (by simp)
                    ·rw [if_neg c49] at H
                     exact absurd H (by simp)
                   ·rw [if_neg c48] at H
                    exact absurd H (by simp)
                  ·rw [if_neg c47] at H
                   exact absurd H (by simp)
                 ·rw [if_neg c46] at H
                  have c46b0 : decide (x10_3 < (((rd_T54 l0_2 x8_2).f1).length : Int)) = false := decide_eq_false c46
                  clear c46
                  replace H := Option.bind_eq_some_iff.mp H
                  obtain ⟨t195, A530, H⟩ := H
                  replace H : (if x4_2.size + t195.size ≤ 9223372036854775807 then (if (x4_2 ++ t195).size + 2 ≤ 9223372036854775807 then (spec_GrammarShow.l1 k3 ((x4_2 ++ t195) ++ (⟨#[59, 10]⟩ : ByteArray)) (wrap64 (x8_2 + 1)) a0_0 l0_1 l0_2 l0_3 l0_4) else (none)) else (none)) = some (r1, r2) := H
                  have A53 := Zz.mk A530
                  clear A530
                  by_cases c54 : x4_2.size + t195.size ≤ 9223372036854775807
                  ·rw [if_pos c54] at H
                   have c54b0 := eq_true c54
                   have c54b1 : decide (x4_2.size + t195.size ≤ 9223372036854775807) = true := decide_eq_true c54
                   try have c54b2 : (9223372036854775807 < x4_2.size + t195.size) = False := eq_false (Nat.not_lt.2 c54)
                   by_cases c55 : (x4_2 ++ t195).size + 2 ≤ 9223372036854775807
                   ·rw [if_pos c55] at H
                    have c55b0 := eq_true c55
                    have c55b9 : (9223372036854775807 < x4_2.size + t195.size + 2) = False := eq_false (Nat.not_lt.2 (by have h := c55; simp only [ByteArray.size_append] at h; exact h))
                    have c55b1 : decide ((x4_2 ++ t195).size + 2 ≤ 9223372036854775807) = true := decide_eq_true c55
                    try have c55b2 : (9223372036854775807 < (x4_2 ++ t195).size + 2) = False := eq_false (Nat.not_lt.2 c55)
                    have H' := Zz.mk H
                    clear H
                    have hcz56_0 : wr.cell? ⟨gb177, 0, none⟩ = some (.string a0_0) := (zbc BK177.out 0).trans rfl
                    have hcz56_1 : wr.cell? ⟨gb177, 1, none⟩ = some (.slice A0_1 l0_1.length c0_1) := (zbc BK177.out 1).trans rfl
                    have hcz56_2 : wr.cell? ⟨gb177, 2, none⟩ = some (.slice (some ad184) l0_2.length c0_2) := (zbc BK177.out 2).trans rfl
                    have hcz56_3 : wr.cell? ⟨gb177, 3, none⟩ = some (.slice A0_3 l0_3.length c0_3) := (zbc BK177.out 3).trans rfl
                    have hcz56_4 : wr.cell? ⟨gb177, 4, none⟩ = some (.slice A0_4 l0_4.length c0_4) := (zbc BK177.out 4).trans rfl
                    have hfz56_0 := zbf BK177.out 0
                    have hfz56_1 := zbf BK177.out 1
                    have hfz56_2 := zbf BK177.out 2
                    have hfz56_3 := zbf BK177.out 3
                    have hfz56_4 := zbf BK177.out 4
                    have p189 : 0 ≤ (x8_2 : Int) := of_decide_eq_true (by first | (with_reducible assumption) | assumption)
                    have q189 : x8_2 < (l0_2.length : Int) := of_decide_eq_true (by first | (with_reducible assumption) | assumption)
                    obtain ⟨ad189, A189_1, c189_1, e189, hx189_0, hx189_1, hl189_1, hi189_1⟩ := at_T54 HR0_2.out x8_2 p189 q189
                    obtain rfl : ad184 = ad189 := (by injection e189)
                    replace hx189_0 := (HB.out.cell (World.block_lt_of_cell? w _ hx189_0)).trans hx189_0
                    replace hx189_1 := (HB.out.cell (World.block_lt_of_cell? w _ hx189_1)).trans hx189_1
                    have HR189_1 := Zz.mk hi189_1
                    have HC189_1 := Zz.mk hl189_1
                    clear hi189_1 hl189_1
                    replace p189 := eq_true p189
                    replace q189 := eq_true q189
                    obtain ⟨Ao57, co57, eo57⟩ := Kd.R_slice HO_9.out
                    subst eo57
                    go_wp2_with (first | ((with_reducible refine gate_callee (f := 19) rfl ?_); refine goesL_ (some 88) rfl rfl Try.func19 (by kernel_rfl) rfl #[.slice Ao57 x9_3.length co57] rfl (by (try simp only [List.map_toArray, List.map_cons, List.map_nil]); first | done | rfl | (simp only [List.length_drop, List.length_take]; rfl)) ?_; (with_reducible refine (spec_l03Words.calls k3 _ _ x9_3 t195 _ ?side1 ?side2 A53.out).mono ?_); (case side1 => repeat (first | exact (Kd.R_reads' HO_9.out).2.2 | (with_reducible refine Kd.C_alloc ?_ _) | (with_reducible refine Kd.C_drewN ?_ _) | (with_reducible refine Kd.C_drew ?_))); (case side2 => exact (Kd.R_reads' HO_9.out).2.1); rintro e w' ⟨rfl, ⟨nd, rfl⟩⟩; refine ⟨_, rfl, ?_⟩))
                    go_roundg k3
                    case measure => have := HK1.out; have := HK2.out; have := HK3.out; omega
                    case rel => exact ⟨((x4_2 ++ t195) ++ (⟨#[59, 10]⟩ : ByteArray)), (wrap64 (x8_2 + 1)), (by first | rfl | (simp; done) | (simp [*]; done)), (by first | rfl | (simp; done) | (simp [*]; done)), H', ⟨by have := HK1.out; have := HK2.out; have := HK3.out; omega⟩, ⟨by (with_reducible repeat (first | refine zdn ?_ _ | refine zdr ?_ | refine zda ?_ _)); exact BK177.out⟩, ⟨by repeat (first | (with_reducible first | exact HB.out | apply zba | apply zbn | apply zb1 | refine zbs ?_ GE177.out) | exact HB.out)⟩⟩
                   ·rw [if_neg c55] at H
                    exact absurd H (by simp)
                  ·rw [if_neg c54] at H
                   exact absurd H (by simp)
                ·rw [if_neg c45] at H
                 exact absurd H (by simp)
               ·rw [if_neg c44] at H
                exact absurd H (by simp)
            ·rw [if_neg c36] at H
             exact absurd H (by simp)
           ·rw [if_neg c35] at H
            exact absurd H (by simp)
          ·rw [if_neg c34] at H
           exact absurd H (by simp)
         ·rw [if_neg c33] at H
          have c33b0 : decide (x8_2 < (l0_2.length : Int)) = false := decide_eq_false c33
          clear c33
          have H' := Zz.mk H
          clear H
          have hcz58_0 : wr.cell? ⟨gb177, 0, none⟩ = some (.string a0_0) := (zbc BK177.out 0).trans rfl
          have hcz58_1 : wr.cell? ⟨gb177, 1, none⟩ = some (.slice A0_1 l0_1.length c0_1) := (zbc BK177.out 1).trans rfl
          have hcz58_2 : wr.cell? ⟨gb177, 2, none⟩ = some (.slice A0_2 l0_2.length c0_2) := (zbc BK177.out 2).trans rfl
          have hcz58_3 : wr.cell? ⟨gb177, 3, none⟩ = some (.slice A0_3 l0_3.length c0_3) := (zbc BK177.out 3).trans rfl
          have hcz58_4 : wr.cell? ⟨gb177, 4, none⟩ = some (.slice A0_4 l0_4.length c0_4) := (zbc BK177.out 4).trans rfl
          have hfz58_0 := zbf BK177.out 0
          have hfz58_1 := zbf BK177.out 1
          have hfz58_2 := zbf BK177.out 2
          have hfz58_3 := zbf BK177.out 3
          have hfz58_4 := zbf BK177.out 4
          go_wp2
          go_loopg [4, 11] k2 (fun kq v4 v11 w' => ∃ (x4_3 : ByteArray) (x11_3 : Int), v4 = .string x4_3 ∧ v11 = .int .i64 x11_3 ∧ Zz (spec_GrammarShow.l3 kq x4_3 x11_3 a0_0 l0_1 l0_2 l0_3 l0_4 = some (r1, r2)) ∧ Zz (kq ≤ k2) ∧ Zz (w'.heap[gb177]? = some (.cells #[.string a0_0, (.slice A0_1 l0_1.length c0_1), (.slice A0_2 l0_2.length c0_2), (.slice A0_3 l0_3.length c0_3), (.slice A0_4 l0_4.length c0_4)] 36 (0, 0))) ∧ Zz (Below w.heap.size w w'))
          case atStart => exact ⟨(x4_2), (0), (by first | rfl | (simp; done) | (simp [*]; done)), (by first | rfl | (simp; done) | (simp [*]; done)), H', ⟨Nat.le_refl _⟩, ⟨by (with_reducible repeat (first | refine zdn ?_ _ | refine zdr ?_ | refine zda ?_ _)); exact BK177.out⟩, ⟨by repeat (first | (with_reducible first | exact HB.out | apply zba | apply zbn | apply zb1 | refine zbs ?_ GE177.out) | exact HB.out)⟩⟩
          case round =>
           clear H'
           try clear c1
           try clear p1
           try clear q1
           try clear hx1
           try clear c2
           try clear p2
           try clear c3
           try clear c4
           try clear c4b0
           try clear c4b1
           try clear c4b2
           try clear c5
           try clear c5b0
           try clear c5b1
           try clear c5b2
           try clear c6
           try clear p6
           try clear c10
           try clear c10b0
           try clear c11
           try clear c11b0
           try clear q12
           try clear c13
           try clear c14
           try clear c14b0
           try clear c14b1
           try clear c14b2
           try clear c15
           try clear c15b0
           try clear c15b1
           try clear c15b2
           try clear c16
           try clear c16b0
           try clear c16b1
           try clear c16b2
           try clear c17
           try clear c17b0
           try clear c17b1
           try clear c17b2
           try clear p17
           try clear q17
           try clear hx17
           try clear c18
           try clear c18b0
           try clear c18b1
           try clear c18b2
           try clear p18
           try clear q18
           try clear hx18
           try clear c19
           try clear p19
           try clear q19
           try clear hx19
           try clear c21
           try clear c23
           try clear c23b0
           try clear c23b1
           try clear c23b2
           try clear c24
           try clear c24b0
           try clear c24b1
           try clear c24b2
           try clear c25
           try clear c25b0
           try clear c25b1
           try clear c25b2
           try clear c26
           try clear c26b0
           try clear c26b1
           try clear c26b2
           try clear c27
           try clear c27b0
           try clear c27b1
           try clear c27b2
           try clear c30
           try clear c33
           try clear c33b0
           try clear c34
           try clear c34b0
           try clear c35
           try clear c35b0
           try clear c36
           try clear c36b0
           try clear c44
           try clear c44b0
           try clear c45
           try clear c45b0
           try clear c46
           try clear c46b0
           try clear c47
           try clear c47b0
           try clear c48
           try clear c48b0
           try clear c48b1
           try clear c48b2
           try clear c49
           try clear c49b0
           try clear c49b1
           try clear c49b2
           try clear c50
           try clear c54
           try clear c54b0
           try clear c54b1
           try clear c54b2
           try clear c55
           try clear c55b0
           try clear c55b1
           try clear c55b2
           try clear hcz19_0
           try clear hcz19_1
           try clear hcz19_2
           try clear hcz19_3
           try clear hcz19_4
           try clear hcz22_0
           try clear hcz22_1
           try clear hcz22_2
           try clear hcz28_0
           try clear hcz28_1
           try clear hcz28_2
           try clear hcz28_3
           try clear hcz28_4
           try clear hcz31_0
           try clear hcz31_1
           try clear hcz31_2
           try clear hcz32_0
           try clear hcz32_1
           try clear hcz32_2
           try clear hcz32_3
           try clear hcz32_4
           try clear hcz37_0
           try clear hcz37_1
           try clear hcz37_2
           try clear hcz37_3
           try clear hcz37_4
           try clear hcz40_0
           try clear hcz40_1
           try clear hcz40_2
           try clear hcz40_3
           try clear hcz40_4
           try clear hcz51_0
           try clear hcz51_1
           try clear hcz51_2
           try clear hcz51_3
           try clear hcz51_4
           try clear hcz56_0
           try clear hcz56_1
           try clear hcz56_2
           try clear hcz56_3
           try clear hcz56_4
           try clear hcz58_0
           try clear hcz58_1
           try clear hcz58_2
           try clear hcz58_3
           try clear hcz58_4
           try clear hcz7_0
           try clear hcz7_1
           try clear hcz7_2
           try clear hcz7_3
           try clear hcz7_4
           try clear hcz9_0
           try clear hcz9_1
           try clear hcz9_2
           try clear hcz9_3
           try clear hcz9_4
           try clear hfz19_0
           try clear hfz19_1
           try clear hfz19_2
           try clear hfz19_3
           try clear hfz19_4
           try clear hfz22_0
           try clear hfz22_1
           try clear hfz22_2
           try clear hfz28_0
           try clear hfz28_1
           try clear hfz28_2
           try clear hfz28_3
           try clear hfz28_4
           try clear hfz31_0
           try clear hfz31_1
           try clear hfz31_2
           try clear hfz32_0
           try clear hfz32_1
           try clear hfz32_2
           try clear hfz32_3
           try clear hfz32_4
           try clear hfz37_0
           try clear hfz37_1
           try clear hfz37_2
           try clear hfz37_3
           try clear hfz37_4
           try clear hfz40_0
           try clear hfz40_1
           try clear hfz40_2
           try clear hfz40_3
           try clear hfz40_4
           try clear hfz51_0
           try clear hfz51_1
           try clear hfz51_2
           try clear hfz51_3
           try clear hfz51_4
           try clear hfz56_0
           try clear hfz56_1
           try clear hfz56_2
           try clear hfz56_3
           try clear hfz56_4
           try clear hfz58_0
           try clear hfz58_1
           try clear hfz58_2
           try clear hfz58_3
           try clear hfz58_4
           try clear hfz7_0
           try clear hfz7_1
           try clear hfz7_2
           try clear hfz7_3
           try clear hfz7_4
           try clear hfz9_0
           try clear hfz9_1
           try clear hfz9_2
           try clear hfz9_3
           try clear hfz9_4
           try clear hx179_0
           try clear hx179_1
           try clear hx179_2
           try clear hx184_0
           try clear hx184_1
           try clear hx185_0
           try clear hx189_0
           try clear hx189_1
           try clear hx190_0
           try clear hx190_1
           try clear hx191_0
           try clear p1
           try clear p17
           try clear p179
           try clear p18
           try clear p184
           try clear p185
           try clear p189
           try clear p190
           try clear p191
           try clear p2
           try clear p6
           try clear q1
           try clear q12
           try clear q17
           try clear q179
           try clear q18
           try clear q184
           try clear q185
           try clear q189
           try clear q190
           try clear q191
           obtain ⟨x4_3, x11_3, rfl, rfl, HA, HK3, BK177, HB⟩ := hrel
           cases gk with
           | zero => exact absurd HA.out (by simp [spec_GrammarShow.l3])
           | succ k3 =>
            have H := HA.out
            clear HA
            simp only [spec_GrammarShow.l3] at H
            by_cases c59 : x11_3 < (l0_3.length : Int)
            ·rw [if_pos c59] at H
             have c59b0 : decide (x11_3 < (l0_3.length : Int)) = true := decide_eq_true c59
             clear c59
             by_cases c60 : 0 ≤ x11_3
             ·rw [if_pos c60] at H
              have c60b0 : decide (0 ≤ x11_3) = true := decide_eq_true c60
              clear c60
              replace H := Option.bind_eq_some_iff.mp H
              obtain ⟨t197, A610, H⟩ := H
              replace H : (if x4_3.size + t197.size ≤ 9223372036854775807 then (spec_GrammarShow.l3 k3 (x4_3 ++ t197) (wrap64 (x11_3 + 1)) a0_0 l0_1 l0_2 l0_3 l0_4) else (none)) = some (r1, r2) := H
              have A61 := Zz.mk A610
              clear A610
              by_cases c62 : x4_3.size + t197.size ≤ 9223372036854775807
              ·rw [if_pos c62] at H
               have c62b0 := eq_true c62
               have c62b1 : decide (x4_3.size + t197.size ≤ 9223372036854775807) = true := decide_eq_true c62
               try have c62b2 : (9223372036854775807 < x4_3.size + t197.size) = False := eq_false (Nat.not_lt.2 c62)
               have H' := Zz.mk H
               clear H
               have hcz63_0 : wr.cell? ⟨gb177, 0, none⟩ = some (.string a0_0) := (zbc BK177.out 0).trans rfl
               have hcz63_1 : wr.cell? ⟨gb177, 1, none⟩ = some (.slice A0_1 l0_1.length c0_1) := (zbc BK177.out 1).trans rfl
               have hcz63_2 : wr.cell? ⟨gb177, 2, none⟩ = some (.slice A0_2 l0_2.length c0_2) := (zbc BK177.out 2).trans rfl
               have hcz63_3 : wr.cell? ⟨gb177, 3, none⟩ = some (.slice A0_3 l0_3.length c0_3) := (zbc BK177.out 3).trans rfl
               have hcz63_4 : wr.cell? ⟨gb177, 4, none⟩ = some (.slice A0_4 l0_4.length c0_4) := (zbc BK177.out 4).trans rfl
               have hfz63_0 := zbf BK177.out 0
               have hfz63_1 := zbf BK177.out 1
               have hfz63_2 := zbf BK177.out 2
               have hfz63_3 := zbf BK177.out 3
               have hfz63_4 := zbf BK177.out 4
               try go_wp2
               have n0_ := Zz.mk (zdr BK177.out)
               have n1_ := Zz.mk (zb1 HB.out)
               clear BK177
               clear HB
               have BK177 := n0_
               have HB := n1_
               clear n0_ n1_
               have p196 : 0 ≤ (x11_3 : Int) := of_decide_eq_true (by first | (with_reducible assumption) | assumption)
               have q196 : x11_3 < (l0_3.length : Int) := of_decide_eq_true (by first | (with_reducible assumption) | assumption)
               obtain ⟨ad196, A196_1, c196_1, e196, hx196_0, hx196_1, hl196_1, hi196_1⟩ := at_T59 HR0_3.out x11_3 p196 q196
               have hw196_1 := hx196_1
               have hw196_0 := hx196_0
               cases e196
               replace hx196_0 := (HB.out.cell (World.block_lt_of_cell? w _ hx196_0)).trans hx196_0
               replace hx196_1 := (HB.out.cell (World.block_lt_of_cell? w _ hx196_1)).trans hx196_1
               have HR196_1 := Zz.mk hi196_1
               have HC196_1 := Zz.mk hl196_1
               clear hi196_1 hl196_1
               replace p196 := eq_true p196
               replace q196 := eq_true q196
               refine start_ (n := 10) (S := fun w' => w'.cell? ⟨gb177, 0, none⟩ = some (.string a0_0) ∧ w'.cell? ⟨gb177, 1, none⟩ = some (.slice A0_1 l0_1.length c0_1) ∧ w'.cell? ⟨gb177, 2, none⟩ = some (.slice A0_2 l0_2.length c0_2) ∧ w'.cell? ⟨gb177, 3, none⟩ = some (.slice (some ad196) l0_3.length c0_3) ∧ w'.cell? ⟨gb177, 4, none⟩ = some (.slice A0_4 l0_4.length c0_4) ∧ w'.cell? (ad196.add ((x11_3).toNat * 2)) = some (.string ((rd_T59 l0_3 x11_3).f0)) ∧ w'.cell? ⟨(ad196.add ((x11_3).toNat * 2)).block, (ad196.add ((x11_3).toNat * 2)).off + 1, none⟩ = some (.slice A196_1 ((rd_T59 l0_3 x11_3).f1).length c196_1)) (ds := []) #[false, false, false, false, false, false, false, false, false, false] (by kernel_rfl) rfl rfl ⟨(zbc BK177.out 0).trans rfl, (zbc BK177.out 1).trans rfl, (zbc BK177.out 2).trans rfl, (zbc BK177.out 3).trans rfl, (zbc BK177.out 4).trans rfl, ((HB.out.cell (World.block_lt_of_cell? w _ hw196_0)).trans hw196_0), ((HB.out.cell (World.block_lt_of_cell? w _ hw196_1)).trans hw196_1)⟩ (fun hHeld => ?_); refine with_tabW spec_GrammarShow.tab24 spec_GrammarShow.bits24 (fun HT_ HW_ => ?_)
               generalize wr.drew = w64 at BK177 HB HR196_1 hx196_0 hx196_1 hHeld ⊢
               refine pure_ (i := 0) (N := some 98) (v := ?_) (a' := ?_) #[true, false, false, false, false, false, false, false, false, false] rfl rfl (any_of HT_.out (by kernel_rfl)) (fun _ _ _ h => h) (Or.inl ⟨by rfl, ?_⟩) ?_ ?_
               rotate_left
               ·intro w'
                go_simp
                with_reducible rfl
               rotate_left
               ·simp only [Act.put, List.setIfInBounds_toArray, List.set_cons_zero, List.set_cons_succ, i64_w, i32_w]
                rfl
               refine pure_ (i := 2) (N := some 100) (v := ?_) (a' := ?_) #[true, false, true, false, false, false, false, false, false, false] rfl rfl (any_of HT_.out (by kernel_rfl)) (fun _ _ _ h => h) (Or.inl ⟨by rfl, ?_⟩) ?_ ?_
               rotate_left
               ·intro w'
                go_simp
                with_reducible rfl
               rotate_left
               ·simp only [Act.put, List.setIfInBounds_toArray, List.set_cons_zero, List.set_cons_succ, i64_w, i32_w]
                rfl
               refine pure_ (i := 4) (N := some 102) (v := ?_) (a' := ?_) #[true, false, true, false, true, false, false, false, false, false] rfl rfl (any_of HT_.out (by kernel_rfl)) (fun _ _ _ h => h) (Or.inl ⟨by rfl, ?_⟩) ?_ ?_
               rotate_left
               ·intro w'
                go_simp
                with_reducible rfl
               rotate_left
               ·simp only [Act.put, List.setIfInBounds_toArray, List.set_cons_zero, List.set_cons_succ, i64_w, i32_w]
                rfl
               refine take_ (i := 1) (N := some 99) (v := ?_) (a' := ?_) #[true, true, true, false, true, false, false, false, false, false] rfl rfl (take_ofW HT_.out HW_.out (by kernel_rfl)) (fun _ _ _ h => h) (Or.inl ⟨by rfl, ?_⟩) hHeld ?_ ?_
               rotate_left
               ·rintro w' ⟨s0, s1, s2, s3, s4, s5, s6⟩
                go_simp
                with_reducible rfl
               rotate_left
               ·simp only [Act.put, List.setIfInBounds_toArray, List.set_cons_zero, List.set_cons_succ, i64_w, i32_w]
                rfl
               refine take_ (i := 3) (N := some 101) (v := ?_) (a' := ?_) #[true, true, true, true, true, false, false, false, false, false] rfl rfl (take_ofW HT_.out HW_.out (by kernel_rfl)) (fun _ _ _ h => h) (Or.inl ⟨by rfl, ?_⟩) hHeld ?_ ?_
               rotate_left
               ·rintro w' ⟨s0, s1, s2, s3, s4, s5, s6⟩
                go_simp
                with_reducible rfl
               rotate_left
               ·simp only [Act.put, List.setIfInBounds_toArray, List.set_cons_zero, List.set_cons_succ, i64_w, i32_w]
                rfl
               refine pure_ (i := 5) (N := some 103) (v := ?_) (a' := ?_) #[true, true, true, true, true, true, false, false, false, false] rfl rfl (any_of HT_.out (by kernel_rfl)) (fun _ _ _ h => h) (Or.inl ⟨by rfl, ?_⟩) ?_ ?_
               rotate_left
               ·intro w'
                go_simp
                with_reducible rfl
               rotate_left
               ·simp only [Act.put, List.setIfInBounds_toArray, List.set_cons_zero, List.set_cons_succ, i64_w, i32_w]
                rfl
               refine take_ (i := 6) (N := some 104) (v := ?_) (a' := ?_) #[true, true, true, true, true, true, true, false, false, false] rfl rfl (take_ofW HT_.out HW_.out (by kernel_rfl)) (fun _ _ _ h => h) (Or.inl ⟨by rfl, ?_⟩) hHeld ?_ ?_
               rotate_left
               ·rintro w' ⟨s0, s1, s2, s3, s4, s5, s6⟩
                go_simp
                with_reducible rfl
               rotate_left
               ·simp only [Act.put, List.setIfInBounds_toArray, List.set_cons_zero, List.set_cons_succ, i64_w, i32_w]
                rfl
               refine one_ (i := 7) (N := some 105) #[true, true, true, true, true, true, true, true, false, false] rfl rfl (one_of HT_.out (by kernel_rfl)) (by decide) (fun K hK => ?_)
               refine goes_ Try.func20 (by kernel_rfl) rfl #[.agg #[.string a0_0, .slice A0_1 l0_1.length c0_1, .slice A0_2 l0_2.length c0_2, .slice (some ad196) l0_3.length c0_3, .slice A0_4 l0_4.length c0_4], .agg #[.string ((rd_T59 l0_3 x11_3).f0), .slice A196_1 ((rd_T59 l0_3 x11_3).f1).length c196_1]] (by rfl) rfl rfl (by (try simp only [List.map_toArray, List.map_cons, List.map_nil]); first | done | rfl | (simp only [List.length_drop, List.length_take]; rfl)) ?_
               with_reducible refine (spec_l03SayRule.calls k3 a0_0 _ _ l0_1 _ _ l0_2 _ _ l0_3 _ _ l0_4 ((rd_T59 l0_3 x11_3).f0) _ _ ((rd_T59 l0_3 x11_3).f1) t197 _ ?side1 ?side2 ?side3 ?side4 ?side5 ?side6 ?side7 ?side8 ?side9 ?side10 A61.out).mono ?_
               (case side1 => repeat (first | exact (Kd.C_below HR0_1.out HB.out) | (with_reducible refine Kd.C_alloc ?_ _) | (with_reducible refine Kd.C_drewN ?_ _) | (with_reducible refine Kd.C_drew ?_)))
               (case side2 => exact HC0_1.out)
               (case side3 => repeat (first | exact (Kd.C_below HR0_2.out HB.out) | (with_reducible refine Kd.C_alloc ?_ _) | (with_reducible refine Kd.C_drewN ?_ _) | (with_reducible refine Kd.C_drew ?_)))
               (case side4 => exact HC0_2.out)
               (case side5 => repeat (first | exact (Kd.C_below HR0_3.out HB.out) | (with_reducible refine Kd.C_alloc ?_ _) | (with_reducible refine Kd.C_drewN ?_ _) | (with_reducible refine Kd.C_drew ?_)))
               (case side6 => exact HC0_3.out)
               (case side7 => repeat (first | exact (Kd.C_below HR0_4.out HB.out) | (with_reducible refine Kd.C_alloc ?_ _) | (with_reducible refine Kd.C_drewN ?_ _) | (with_reducible refine Kd.C_drew ?_)))
               (case side8 => exact HC0_4.out)
               (case side9 => repeat (first | exact (Kd.C_below HR196_1.out HB.out) | (with_reducible refine Kd.C_alloc ?_ _) | (with_reducible refine Kd.C_drewN ?_ _) | (with_reducible refine Kd.C_drew ?_)))
               (case side10 => exact HC196_1.out)
               rintro e w65 ⟨rfl, hb⟩
               refine ⟨_, rfl, ?_⟩
               have n0_ := Zz.mk (blk_below (g := gb177) (o := .cells #[.string a0_0, .slice A0_1 l0_1.length c0_1, .slice A0_2 l0_2.length c0_2, .slice (some ad196) l0_3.length c0_3, .slice A0_4 l0_4.length c0_4] 36 (0, 0)) (by (with_reducible repeat (first | refine zdn ?_ _ | refine zdr ?_ | refine zda ?_ _)); exact BK177.out) hb)
               have n1_ := Zz.mk (below_step (by repeat (first | (with_reducible first | exact HB.out | apply zba | apply zbn | apply zb1 | refine zbs ?_ GE177.out) | exact HB.out)) hb)
               clear BK177
               clear HB
               have BK177 := n0_
               have HB := n1_
               clear n0_ n1_
               (try clear hb)
               (try clear hb2)
               (try clear hk)
               (try clear hi)
               refine hK.out _ _ ⟨(zbc BK177.out 0).trans rfl, (zbc BK177.out 1).trans rfl, (zbc BK177.out 2).trans rfl, (zbc BK177.out 3).trans rfl, (zbc BK177.out 4).trans rfl, ((HB.out.cell (World.block_lt_of_cell? w _ hw196_0)).trans hw196_0), ((HB.out.cell (World.block_lt_of_cell? w _ hw196_1)).trans hw196_1)⟩ (fun hHeld => ?_)
               clear hK K
               refine norm_ (a' := ?_) ?_ ?_
               rotate_left
               ·show Act.put _ (some 105) _ = _
                simp only [Act.put, List.setIfInBounds_toArray, List.set_cons_zero, List.set_cons_succ, i64_w, i32_w]
                rfl
               refine pure_ (i := 8) (N := some 106) (v := ?_) (a' := ?_) #[true, true, true, true, true, true, true, true, true, false] rfl rfl (any_of HT_.out (by kernel_rfl)) (fun _ _ _ h => h) (Or.inl ⟨by rfl, ?_⟩) ?_ ?_
               rotate_left
               ·intro w'
                go_simp
                with_reducible rfl
               rotate_left
               ·simp only [Act.put, List.setIfInBounds_toArray, List.set_cons_zero, List.set_cons_succ, i64_w, i32_w]
                rfl
               refine pure_ (i := 9) (N := some 4) (v := ?_) (a' := ?_) #[true, true, true, true, true, true, true, true, true, true] rfl rfl (any_of HT_.out (by kernel_rfl)) (fun _ _ _ h => h) (Or.inl ⟨by rfl, ?_⟩) ?_ ?_
               rotate_left
               ·intro w'
                go_simp
                with_reducible rfl
               rotate_left
               ·simp only [Act.put, List.setIfInBounds_toArray, List.set_cons_zero, List.set_cons_succ, i64_w, i32_w]
                rfl
               refine done_ (done_of HT_.out (by kernel_rfl)) ?_
               try go_wp2
               go_roundg k3
               case measure => have := HK1.out; have := HK2.out; have := HK3.out; omega
               case rel => exact ⟨(x4_3 ++ t197), (wrap64 (x11_3 + 1)), (by first | rfl | (simp; done) | (simp [*]; done)), (by first | rfl | (simp; done) | (simp [*]; done)), H', ⟨by have := HK1.out; have := HK2.out; have := HK3.out; omega⟩, ⟨by (with_reducible repeat (first | refine zdn ?_ _ | refine zdr ?_ | refine zda ?_ _)); exact BK177.out⟩, ⟨by repeat (first | (with_reducible first | exact HB.out | apply zba | apply zbn | apply zb1 | refine zbs ?_ GE177.out) | exact HB.out)⟩⟩
              ·rw [if_neg c62] at H
               exact absurd H (by simp)
             ·rw [if_neg c60] at H
              exact absurd H (by simp)
            ·rw [if_neg c59] at H
             have c59b0 : decide (x11_3 < (l0_3.length : Int)) = false := decide_eq_false c59
             clear c59
             by_cases c66 : (x4_3.size : Int) > 6000
             ·rw [if_pos c66] at H
              have c66b0 : decide (6000 < (x4_3.size : Int)) = true := decide_eq_true c66
              have c66b1 : decide (6000 < x4_3.size) = true := decide_eq_true (by omega)
              clear c66
              simp only [Option.some.injEq, Prod.mk.injEq] at H
              obtain ⟨rfl, rfl⟩ := H
              have hcz67_0 : wr.cell? ⟨gb177, 0, none⟩ = some (.string a0_0) := (zbc BK177.out 0).trans rfl
              have hcz67_1 : wr.cell? ⟨gb177, 1, none⟩ = some (.slice A0_1 l0_1.length c0_1) := (zbc BK177.out 1).trans rfl
              have hcz67_2 : wr.cell? ⟨gb177, 2, none⟩ = some (.slice A0_2 l0_2.length c0_2) := (zbc BK177.out 2).trans rfl
              have hcz67_3 : wr.cell? ⟨gb177, 3, none⟩ = some (.slice A0_3 l0_3.length c0_3) := (zbc BK177.out 3).trans rfl
              have hcz67_4 : wr.cell? ⟨gb177, 4, none⟩ = some (.slice A0_4 l0_4.length c0_4) := (zbc BK177.out 4).trans rfl
              have hfz67_0 := zbf BK177.out 0
              have hfz67_1 := zbf BK177.out 1
              have hfz67_2 := zbf BK177.out 2
              have hfz67_3 := zbf BK177.out 3
              have hfz67_4 := zbf BK177.out 4
              go_wp2
              go_ret2
              exact ⟨by first | rfl | (simp [errW_none, errW_some] <;> rfl) | (simp [*, errW_none, errW_some] <;> rfl), by repeat (first | (with_reducible first | exact HB.out | apply zba | apply zbn | apply zb1 | refine zbs ?_ GE177.out) | exact HB.out)⟩
             ·rw [if_neg c66] at H
              have c66b0 : decide (6000 < (x4_3.size : Int)) = false := decide_eq_false c66
              have c66b1 : decide (6000 < x4_3.size) = false := decide_eq_false (by omega)
              clear c66
              simp only [Option.some.injEq, Prod.mk.injEq] at H
              obtain ⟨rfl, rfl⟩ := H
              have hcz68_0 : wr.cell? ⟨gb177, 0, none⟩ = some (.string a0_0) := (zbc BK177.out 0).trans rfl
              have hcz68_1 : wr.cell? ⟨gb177, 1, none⟩ = some (.slice A0_1 l0_1.length c0_1) := (zbc BK177.out 1).trans rfl
              have hcz68_2 : wr.cell? ⟨gb177, 2, none⟩ = some (.slice A0_2 l0_2.length c0_2) := (zbc BK177.out 2).trans rfl
              have hcz68_3 : wr.cell? ⟨gb177, 3, none⟩ = some (.slice A0_3 l0_3.length c0_3) := (zbc BK177.out 3).trans rfl
              have hcz68_4 : wr.cell? ⟨gb177, 4, none⟩ = some (.slice A0_4 l0_4.length c0_4) := (zbc BK177.out 4).trans rfl
              have hfz68_0 := zbf BK177.out 0
              have hfz68_1 := zbf BK177.out 1
              have hfz68_2 := zbf BK177.out 2
              have hfz68_3 := zbf BK177.out 3
              have hfz68_4 := zbf BK177.out 4
              go_wp2
              go_ret2
              exact ⟨by first | rfl | (simp [errW_none, errW_some] <;> rfl) | (simp [*, errW_none, errW_some] <;> rfl), by repeat (first | (with_reducible first | exact HB.out | apply zba | apply zbn | apply zb1 | refine zbs ?_ GE177.out) | exact HB.out)⟩
   ·rw [if_neg c5] at H
    exact absurd H (by simp)
  ·rw [if_neg c4] at H
   exact absurd H (by simp)
 ·replace c3 := Bool.eq_false_iff.mpr c3
  subst c3
  have H1 : (some ((⟨#[]⟩ : ByteArray), 1)) = some (r1, r2) := by rw [if_neg (show ¬ (false = true) by decide)] at H; exact H
  clear H
  have H := H1
  clear H1
  simp only [Option.some.injEq, Prod.mk.injEq] at H
  obtain ⟨rfl, rfl⟩ := H
  go_enter Try.func6, Try.ntmps6
  go_wp2_with (first | ((with_reducible refine gate_dst (N := 1) rfl ?_); refine box_event ?hg (N := 1) ?hd (cs := #[.string a0_0, .slice A0_1 l0_1.length c0_1, .slice A0_2 l0_2.length c0_2, .slice A0_3 l0_3.length c0_3, .slice A0_4 l0_4.length c0_4]) (t := 36) ?hr ?_; (case hd => rfl); (case hg => rfl); (case hr => first | (go_simp; done) | (go_simp; rfl)); intro gb177 hg w69 hbox hb; have n0_ := Zz.mk (below_step (by repeat (first | (with_reducible first | exact HB.out | apply zba | apply zbn | apply zb1) | exact HB.out)) hb); have n1_ := Zz.mk (hbox); have n2_ := Zz.mk ((by rw [hg]; exact (zsz (by repeat (first | (with_reducible first | exact HB.out | apply zba | apply zbn | apply zb1) | exact HB.out))) : w.heap.size ≤ gb177)); have n3_ := Zz.mk ((by rw [hg]; exact (zsz (by repeat (first | (with_reducible first | exact HB.out | apply zba | apply zbn | apply zb1) | exact HB.out))) : w.heap.size ≤ gb177)); clear HB; have HB := n0_; have BK177 := n1_; have GW177 := n2_; have GE177 := n3_; clear n0_ n1_ n2_ n3_; clear hb hbox hg; have hcz70_0 : w69.cell? ⟨gb177, 0, none⟩ = some (.string a0_0) := (zbc BK177.out 0).trans rfl; have hcz70_1 : w69.cell? ⟨gb177, 1, none⟩ = some (.slice A0_1 l0_1.length c0_1) := (zbc BK177.out 1).trans rfl; have hcz70_2 : w69.cell? ⟨gb177, 2, none⟩ = some (.slice A0_2 l0_2.length c0_2) := (zbc BK177.out 2).trans rfl; have hcz70_3 : w69.cell? ⟨gb177, 3, none⟩ = some (.slice A0_3 l0_3.length c0_3) := (zbc BK177.out 3).trans rfl; have hcz70_4 : w69.cell? ⟨gb177, 4, none⟩ = some (.slice A0_4 l0_4.length c0_4) := (zbc BK177.out 4).trans rfl; have hfz70_0 := zbf BK177.out 0; have hfz70_1 := zbf BK177.out 1; have hfz70_2 := zbf BK177.out 2; have hfz70_3 := zbf BK177.out 3; have hfz70_4 := zbf BK177.out 4) | ((with_reducible refine gate_callee (f := 18) rfl ?_); refine goesL_ (some 13) rfl rfl Try.func18 (by kernel_rfl) rfl #[.agg #[.string a0_0, .slice A0_1 l0_1.length c0_1, .slice A0_2 l0_2.length c0_2, .slice A0_3 l0_3.length c0_3, .slice A0_4 l0_4.length c0_4]] rfl (by (try simp only [List.map_toArray, List.map_cons, List.map_nil]); first | done | rfl | (simp only [List.length_drop, List.length_take]; rfl)) ?_; (with_reducible refine (spec_GrammarOK.calls k a0_0 _ _ l0_1 _ _ l0_2 _ _ l0_3 _ _ l0_4 false _ ?side1 ?side2 ?side3 ?side4 ?side5 ?side6 ?side7 ?side8 A2.out).mono ?_); (case side1 => repeat (first | exact (Kd.C_below HR0_1.out HB.out) | (with_reducible refine Kd.C_alloc ?_ _) | (with_reducible refine Kd.C_drewN ?_ _) | (with_reducible refine Kd.C_drew ?_))); (case side2 => exact HC0_1.out); (case side3 => repeat (first | exact (Kd.C_below HR0_2.out HB.out) | (with_reducible refine Kd.C_alloc ?_ _) | (with_reducible refine Kd.C_drewN ?_ _) | (with_reducible refine Kd.C_drew ?_))); (case side4 => exact HC0_2.out); (case side5 => repeat (first | exact (Kd.C_below HR0_3.out HB.out) | (with_reducible refine Kd.C_alloc ?_ _) | (with_reducible refine Kd.C_drewN ?_ _) | (with_reducible refine Kd.C_drew ?_))); (case side6 => exact HC0_3.out); (case side7 => repeat (first | exact (Kd.C_below HR0_4.out HB.out) | (with_reducible refine Kd.C_alloc ?_ _) | (with_reducible refine Kd.C_drewN ?_ _) | (with_reducible refine Kd.C_drew ?_))); (case side8 => exact HC0_4.out); rintro e w71 ⟨rfl, hb⟩; refine ⟨_, rfl, ?_⟩; have n0_ := Zz.mk (blk_below (g := gb177) (o := .cells #[.string a0_0, .slice A0_1 l0_1.length c0_1, .slice A0_2 l0_2.length c0_2, .slice A0_3 l0_3.length c0_3, .slice A0_4 l0_4.length c0_4] 36 (0, 0)) (by (with_reducible repeat (first | refine zdn ?_ _ | refine zdr ?_ | refine zda ?_ _)); exact BK177.out) hb); have n1_ := Zz.mk (below_step (by repeat (first | (with_reducible first | exact HB.out | apply zba | apply zbn | apply zb1 | refine zbs ?_ GE177.out) | exact HB.out)) hb); clear BK177; clear HB; have BK177 := n0_; have HB := n1_; clear n0_ n1_; (try clear hb); (try clear hb2); (try clear hk); (try clear hi)))
  go_ret2
  exact ⟨by first | rfl | (simp [errW_none, errW_some] <;> rfl) | (simp [*, errW_none, errW_some] <;> rfl), by repeat (first | (with_reducible first | exact HB.out | apply zba | apply zbn | apply zb1 | refine zbs ?_ GE177.out) | exact HB.out)⟩
end Go.Proofs.Ythcmamcbnjphgaa.PFnExactGrammarShow
