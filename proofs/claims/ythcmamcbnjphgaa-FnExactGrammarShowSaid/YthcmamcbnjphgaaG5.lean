import Derived.Test.YthcmamcbnjphgaaG4
import Derived.Lib.Join
import Derived.Deep.RegionLaw
import Derived.Maps.OwnOps
import Derived.Lib.FrozenHead
import Derived.Lib.Builder
import Derived.Lib.OthersKept
set_option linter.unusedVariables false
set_option linter.unusedSimpArgs false
namespace Go.Proofs.Ythcmamcbnjphgaa.PFnExactGrammarShow
open Go.RowKit Go.Proofs.YthcmamcbnjphgaaW.PrintWords Go.Proofs.YthcmamcbnjphgaaW.PrintLast Go.Proofs.YthcmamcbnjphgaaW.PrintMore
theorem alts_one (parts : List S119) (x : List Int) (n : Int) : altsF parts (parts.length + 1) parts.length [x] n = itemsG (altsF parts parts.length) parts parts.length x n := by
 show altsG (altsF parts parts.length) parts parts.length [x] n = _
 simp only [altsG]
 cases itemsG (altsF parts parts.length) parts parts.length x n <;> rfl
set_option maxHeartbeats 2000000 in
set_option maxRecDepth 100000 in
theorem implOK_walk (nm : ByteArray) (A1 : Option Addr) (c1 : Nat) (toks : List S51) (A2 : Option Addr) (c2 : Nat) (levs : List S54) (A3 : Option Addr) (c3 : Nat) (rules : List S59) (A4 : Option Addr) (c4 : Nat) (parts : List S119) (w : World)
  (H1 : Kd.C k51 w A1 toks.length toks) (L1 : toks.length ≤ c1) (H2 : Kd.C k54 w A2 levs.length levs) (L2 : levs.length ≤ c2) (H3 : Kd.C k59 w A3 rules.length rules) (L3 : rules.length ≤ c3) (H4 : Kd.C k119 w A4 parts.length parts) (L4 : parts.length ≤ c4) :
  Calls Try.prog 25 #[.agg #[.string nm, .slice A1 toks.length c1, .slice A2 levs.length c2, .slice A3 rules.length c3, .slice A4 parts.length c4]] w (BPost w (okB nm toks levs rules parts)) := by
 generalize hR : okB nm toks levs rules parts = R
 replace hR : Zz (R = (smallB toks levs rules parts && (plainB nm && (toks.all tokB && (levs.all levB && endB parts (ruleL parts rules 0)))))) := ⟨hR.symm⟩
 have HI := Zz.mk (GInv.start w nm (.slice A1 toks.length c1) (.slice A2 levs.length c2) (.slice A3 rules.length c3) (.slice A4 parts.length c4))
 replace H1 := Zz.mk H1
 replace H2 := Zz.mk H2
 replace H3 := Zz.mk H3
 replace H4 := Zz.mk H4
 go_enter Try.func25, Try.ntmps25
 cases hp : plainB nm with
 | false =>
  have hRn : Zz (R = false) := ⟨by rw [hR.out, hp]; simp⟩
  go_wp2_with (go_at_call 62; refine (plain_any _ _).mono ?_; rintro e w4 ⟨rfl, hd⟩; obtain ⟨⟨nd, rfl⟩⟩ := hd)
  go_ret
  exact BPost.of (zbn HI.out.hB _) hRn.out
 | true =>
   by_cases s1 : 20 < toks.length
   ·have d1 : decide ((20 : Int) < (toks.length : Int)) = true := decide_eq_true (by omega)
    have d1' : decide (20 < toks.length) = true := decide_eq_true s1
    have hRn : Zz (R = false) := ⟨by rw [hR.out, smallB, decide_eq_false (by omega)]; rfl⟩
    clear s1
    go_wp2_with (go_at_call 62; refine (plain_any _ _).mono ?_; rintro e w4 ⟨rfl, hd⟩; obtain ⟨⟨nd, rfl⟩⟩ := hd)
    go_ret
    exact BPost.of (zbn HI.out.hB _) hRn.out
   have d1 : decide ((20 : Int) < (toks.length : Int)) = false := decide_eq_false (by omega)
   have d1' : decide (20 < toks.length) = false := decide_eq_false s1
   by_cases s2 : 8 < levs.length
   ·have d2 : decide ((8 : Int) < (levs.length : Int)) = true := decide_eq_true (by omega)
    have d2' : decide (8 < levs.length) = true := decide_eq_true s2
    have hRn : Zz (R = false) := ⟨by rw [hR.out, smallB, decide_eq_false (by omega)]; rfl⟩
    clear s2
    go_wp2_with (go_at_call 62; refine (plain_any _ _).mono ?_; rintro e w4 ⟨rfl, hd⟩; obtain ⟨⟨nd, rfl⟩⟩ := hd)
    go_ret
    exact BPost.of (zbn HI.out.hB _) hRn.out
   have d2 : decide ((8 : Int) < (levs.length : Int)) = false := decide_eq_false (by omega)
   have d2' : decide (8 < levs.length) = false := decide_eq_false s2
   by_cases s3 : 30 < rules.length
   ·have d3 : decide ((30 : Int) < (rules.length : Int)) = true := decide_eq_true (by omega)
    have d3' : decide (30 < rules.length) = true := decide_eq_true s3
    have hRn : Zz (R = false) := ⟨by rw [hR.out, smallB, decide_eq_false (by omega)]; rfl⟩
    clear s3
    go_wp2_with (go_at_call 62; refine (plain_any _ _).mono ?_; rintro e w4 ⟨rfl, hd⟩; obtain ⟨⟨nd, rfl⟩⟩ := hd)
    go_ret
    exact BPost.of (zbn HI.out.hB _) hRn.out
   have d3 : decide ((30 : Int) < (rules.length : Int)) = false := decide_eq_false (by omega)
   have d3' : decide (30 < rules.length) = false := decide_eq_false s3
   by_cases s4 : 200 < parts.length
   ·have d4 : decide ((200 : Int) < (parts.length : Int)) = true := decide_eq_true (by omega)
    have d4' : decide (200 < parts.length) = true := decide_eq_true s4
    have hRn : Zz (R = false) := ⟨by rw [hR.out, smallB, decide_eq_false (by omega)]; rfl⟩
    clear s4
    go_wp2_with (go_at_call 62; refine (plain_any _ _).mono ?_; rintro e w4 ⟨rfl, hd⟩; obtain ⟨⟨nd, rfl⟩⟩ := hd)
    go_ret
    exact BPost.of (zbn HI.out.hB _) hRn.out
   have d4 : decide ((200 : Int) < (parts.length : Int)) = false := decide_eq_false (by omega)
   have d4' : decide (200 < parts.length) = false := decide_eq_false s4
   have hR2 : Zz (R = (toks.all tokB && (levs.all levB && endB parts (ruleL parts rules 0)))) := ⟨by rw [hR.out, hp, smallB, decide_eq_true (by omega)]; rfl⟩
   clear hR
   go_wp2_with (go_at_call 62; refine (plain_any _ _).mono ?_; rintro e w4 ⟨rfl, hd⟩; obtain ⟨⟨nd, rfl⟩⟩ := hd)
   clear hp d1 d1' d2 d2' d3 d3' d4 d4'
   have HI3 := Zz.mk (HI.out.below (zbn (Below.refl _ _) nd))
   clear HI
   go_loopg [45] toks.length (fun gk v45 wr => ∃ i : Nat, v45 = .int .i64 i ∧ gk = toks.length - i ∧ i ≤ toks.length ∧ Zz (GInv w nm (.slice A1 toks.length c1) (.slice A2 levs.length c2) (.slice A3 rules.length c3) (.slice A4 parts.length c4) wr) ∧ Zz (R = ((toks.drop i).all tokB && (levs.all levB && endB parts (ruleL parts rules 0)))))
   case atStart => exact ⟨0, rfl, by omega, by omega, HI3, hR2⟩
   case round =>
    clear HI3 hR2
    obtain ⟨i, rfl, hgk, hi, HI, hR⟩ := hrel
    have hl := H1.out.2.1
    by_cases hlt : i < toks.length
    ·have b1 : decide (i < toks.length) = true := decide_eq_true hlt
     obtain ⟨ad, hA, hx0, hx1, hx2⟩ := at_T51 H1.out i (by omega) (by omega)
     cases hA
     replace hx0 : wr.cell? (ad.add (i * 3)) = some (.string (rd_T51 toks i).f0) := (HI.out.hB.cell (World.block_lt_of_cell? _ _ hx0)).trans hx0
     replace hx1 : wr.cell? ⟨(ad.add (i * 3)).block, (ad.add (i * 3)).off + 1, none⟩ = some (.string (rd_T51 toks i).f1) := (HI.out.hB.cell (World.block_lt_of_cell? _ _ hx1)).trans hx1
     replace hx2 : wr.cell? ⟨(ad.add (i * 3)).block, (ad.add (i * 3)).off + 2, none⟩ = some (.bool (rd_T51 toks i).f2) := (HI.out.hB.cell (World.block_lt_of_cell? _ _ hx2)).trans hx2
     have hR3 : R = (tokB (rd_T51 toks i) && ((toks.drop (i + 1)).all tokB && (levs.all levB && endB parts (ruleL parts rules 0)))) := by rw [hR.out, all_drop tokB toks z51 i hlt, Bool.and_assoc]; rfl
     generalize rd_T51 toks i = tk at hx0 hx1 hx2 hR3
     replace hR3 := Zz.mk hR3
     clear hR
     have hw := Zz.mk (fun n => HI.out.below (zbn (below_self_alloc wr (.cells #[.string tk.f0, .string tk.f1, .bool tk.f2] 51)) n))
     cases hp : plainB tk.f0 with
     | false =>
      go_wp2_with (go_at_call 62; refine (plain_any _ _).mono ?_; rintro e w4 ⟨rfl, hd⟩; obtain ⟨⟨nd, rfl⟩⟩ := hd)
      go_ret
      exact BPost.of (hw.out _).hB (by rw [hR3.out, tokB, hp]; rfl)
     | true =>
      cases hq : patB tk.f1 with
      | false =>
       go_wp2_with (first | (go_at_call 62; refine (plain_any _ _).mono ?_; rintro e w4 ⟨rfl, hd⟩; obtain ⟨⟨nd, rfl⟩⟩ := hd) | (go_at_call 63; refine (pat_any _ _).mono ?_; rintro e w4 ⟨rfl, hd⟩; obtain ⟨⟨nd2, rfl⟩⟩ := hd))
       go_ret
       exact BPost.of (hw.out _).hB (by rw [hR3.out, tokB, hp, hq]; rfl)
      | true =>
       go_wp2_with (first | (go_at_call 62; refine (plain_any _ _).mono ?_; rintro e w4 ⟨rfl, hd⟩; obtain ⟨⟨nd, rfl⟩⟩ := hd) | (go_at_call 63; refine (pat_any _ _).mono ?_; rintro e w4 ⟨rfl, hd⟩; obtain ⟨⟨nd2, rfl⟩⟩ := hd))
       go_roundg (toks.length - (i + 1))
       case measure => omega
       case rel => exact ⟨i + 1, by go_num, rfl, by omega, ⟨hw.out _⟩, ⟨by rw [hR3.out, tokB, hp, hq]; rfl⟩⟩
    ·have b1 : decide (i < toks.length) = false := decide_eq_false hlt
     have hR3 : Zz (R = (levs.all levB && endB parts (ruleL parts rules 0))) := ⟨by rw [hR.out, List.drop_of_length_le (by omega)]; rfl⟩
     clear hR hl
     have g2 := (zbc HI.out.hg 2).trans (rfl : _ = some (Value.slice A2 levs.length c2))
     go_wp2
     clear g2
     go_loopg [63] levs.length (fun gk v63 wr => ∃ i : Nat, v63 = .int .i64 i ∧ gk = levs.length - i ∧ i ≤ levs.length ∧ Zz (GInv w nm (.slice A1 toks.length c1) (.slice A2 levs.length c2) (.slice A3 rules.length c3) (.slice A4 parts.length c4) wr) ∧ Zz (R = ((levs.drop i).all levB && endB parts (ruleL parts rules 0))))
     case atStart => exact ⟨0, rfl, by omega, by omega, HI, hR3⟩
     case round =>
      clear HI hR3 hlt b1
      obtain ⟨i, rfl, hgk, hi, HI, hR⟩ := hrel
      have hl := H2.out.2.1
      by_cases hlt : i < levs.length
      ·have b1 : decide (i < levs.length) = true := decide_eq_true hlt
       obtain ⟨ad, A5, c5, hA, hx0, hx1, hl5, HR5⟩ := at_T54 H2.out i (by omega) (by omega)
       cases hA
       replace hx0 : wr.cell? (ad.add (i * 2)) = some (.int .i64 (rd_T54 levs i).f0) := (HI.out.hB.cell (World.block_lt_of_cell? _ _ hx0)).trans hx0
       replace hx1 : wr.cell? ⟨(ad.add (i * 2)).block, (ad.add (i * 2)).off + 1, none⟩ = some (.slice A5 (rd_T54 levs i).f1.length c5) := (HI.out.hB.cell (World.block_lt_of_cell? _ _ hx1)).trans hx1
       have hR4 : R = (levB (rd_T54 levs i) && ((levs.drop (i + 1)).all levB && endB parts (ruleL parts rules 0))) := by rw [hR.out, all_drop levB levs z54 i hlt, Bool.and_assoc]; rfl
       generalize rd_T54 levs i = lv at hx0 hx1 hR4 hl5 HR5
       replace hR4 := Zz.mk hR4
       replace HR5 := Zz.mk HR5
       replace hl5 := Zz.mk hl5
       clear hR
       have HI4 := Zz.mk (HI.out.below (below_self_alloc wr (.cells #[.int .i64 lv.f0, .slice A5 lv.f1.length c5] 54)))
       have hlv := hl
       clear HI hl
       by_cases a1 : lv.f0 < 1
       ·have q1 : decide (lv.f0 < 1) = true := decide_eq_true a1
        have hRn : Zz (R = false) := ⟨by rw [hR4.out, levB, decide_eq_false (by omega)]; rfl⟩
        clear a1
        go_wp2
        go_ret
        exact BPost.of HI4.out.hB hRn.out
       have q1 : decide (lv.f0 < 1) = false := decide_eq_false a1
       by_cases a2 : 3 < lv.f0
       ·have q2 : decide (3 < lv.f0) = true := decide_eq_true a2
        have hRn : Zz (R = false) := ⟨by rw [hR4.out, levB, decide_eq_false (by omega)]; rfl⟩
        clear a1 a2
        go_wp2
        go_ret
        exact BPost.of HI4.out.hB hRn.out
       have q2 : decide (3 < lv.f0) = false := decide_eq_false a2
       by_cases hz : lv.f1.length = 0
       ·have z1 : decide ((lv.f1.length : Int) < 1) = true := decide_eq_true (by omega)
        have hRn : Zz (R = false) := ⟨by rw [hR4.out, levB, decide_eq_false (show ¬ lv.f1.length ≠ 0 by omega)]; simp⟩
        replace hz := Zz.mk hz
        clear a1 a2
        go_wp2
        go_ret
        exact BPost.of HI4.out.hB hRn.out
       have z1 : decide ((lv.f1.length : Int) < 1) = false := decide_eq_false (by omega)
       have hR5 : Zz (R = (lv.f1.all litB && ((levs.drop (i + 1)).all levB && endB parts (ruleL parts rules 0)))) := ⟨by rw [hR4.out, levB, decide_eq_true (show 1 ≤ lv.f0 ∧ lv.f0 ≤ 3 by omega), decide_eq_true (show lv.f1.length ≠ 0 by omega)]; simp [Bool.and_assoc]⟩
       replace hz := Zz.mk hz
       clear hR4 a1 a2
       go_wp2
       clear q1 q2 z1 hx0 hx1
       go_loopg [84] lv.f1.length (fun gk v84 wr => ∃ k : Nat, v84 = .int .i64 k ∧ gk = lv.f1.length - k ∧ k ≤ lv.f1.length ∧ Zz (GInv w nm (.slice A1 toks.length c1) (.slice (some ad) levs.length c2) (.slice A3 rules.length c3) (.slice A4 parts.length c4) wr) ∧ Zz (R = ((lv.f1.drop k).all litB && ((levs.drop (i + 1)).all levB && endB parts (ruleL parts rules 0)))))
       case atStart => exact ⟨0, rfl, by omega, by omega, HI4, hR5⟩
       case round =>
        clear HI4 hR5
        obtain ⟨k, rfl, hgk2, hk, HI, hR⟩ := hrel
        have hl := HR5.out.2.1
        by_cases hkl : k < lv.f1.length
        ·have b2 : decide (k < lv.f1.length) = true := decide_eq_true hkl
         obtain ⟨ad5, hA5, hc⟩ := str_at HR5.out k hkl
         cases hA5
         replace hc := (HI.out.hB.cell (World.block_lt_of_cell? _ _ hc)).trans hc
         have hR6 : R = (litB (lv.f1.getD k ByteArray.empty) && ((lv.f1.drop (k + 1)).all litB && ((levs.drop (i + 1)).all levB && endB parts (ruleL parts rules 0)))) := by rw [hR.out, all_drop litB lv.f1 ByteArray.empty k hkl, Bool.and_assoc]
         generalize lv.f1.getD k ByteArray.empty = sl at hc hR6
         replace hR6 := Zz.mk hR6
         clear hR
         cases hq : litB sl with
         | false =>
          go_wp2_with (go_at_call 64; refine (lit_any _ _).mono ?_; rintro e w4 ⟨rfl, hd⟩; obtain ⟨⟨nd, rfl⟩⟩ := hd)
          go_ret
          exact BPost.of (zbn HI.out.hB _) (by rw [hR6.out, hq]; rfl)
         | true =>
          go_wp2_with (go_at_call 64; refine (lit_any _ _).mono ?_; rintro e w4 ⟨rfl, hd⟩; obtain ⟨⟨nd, rfl⟩⟩ := hd)
          go_roundg (lv.f1.length - (k + 1))
          case measure => omega
          case rel => exact ⟨k + 1, by go_num, rfl, by omega, ⟨HI.out.below (zbn (Below.refl _ _) _)⟩, ⟨by rw [hR6.out, hq]; rfl⟩⟩
        ·have b2 : decide (k < lv.f1.length) = false := decide_eq_false hkl
         have hR6 : Zz (R = ((levs.drop (i + 1)).all levB && endB parts (ruleL parts rules 0))) := ⟨by rw [hR.out, List.drop_of_length_le (by omega)]; rfl⟩
         clear hR
         go_wp2
         go_roundg (levs.length - (i + 1))
         case measure => omega
         case rel => exact ⟨i + 1, by go_num, rfl, by omega, HI, hR6⟩
      ·have b1 : decide (i < levs.length) = false := decide_eq_false hlt
       have hR3 : Zz (R = endB parts (ruleL parts rules 0)) := ⟨by rw [hR.out, List.drop_of_length_le (by omega)]; rfl⟩
       clear hR hl
       go_upto_region 22 with (fail)
       have HI2 := Zz.mk (HI.out.below (below_self_alloc wr (.cells #[.int .i64 0] 3)))
       have HN := Zz.mk (show (wr.alloc (.cells #[.int .i64 0] 3)).heap[wr.heap.size]? = some (.cells #[.int .i64 0] 3 (0, 0)) from heap_alloc_new wr _)
       have hnb : w.heap.size < wr.heap.size := blk_lt HI.out.hg
       clear HI
       generalize wr.heap.size = nb at HN hnb ⊢
       generalize wr.alloc (.cells #[.int .i64 0] 3) = wz at HI2 HN ⊢
       have g3 := (zbc HI2.out.hg 3).trans (rfl : _ = some (Value.slice A3 rules.length c3))
       go_wp2
       clear g3
       go_loopg [96] rules.length (fun gk v96 wr => ∃ (i : Nat) (n : Int), v96 = .int .i64 i ∧ gk = rules.length - i ∧ i ≤ rules.length ∧ Zz (GInv w nm (.slice A1 toks.length c1) (.slice A2 levs.length c2) (.slice A3 rules.length c3) (.slice A4 parts.length c4) wr) ∧ Zz (wr.heap[nb]? = some (.cells #[.int .i64 n] 3 (0, 0))) ∧ Zz (R = endB parts (ruleL parts (rules.drop i) n)))
       case atStart => exact ⟨0, 0, rfl, by omega, by omega, HI2, HN, hR3⟩
       case round =>
        clear HI2 HN hR3 hlt b1
        obtain ⟨i, n, rfl, hgk, hi, HI, HN, hR⟩ := hrel
        have hl := H3.out.2.1
        by_cases hlt : i < rules.length
        ·have b1 : decide (i < rules.length) = true := decide_eq_true hlt
         obtain ⟨ad, A5, c5, hA, hx0, hx1, hl5, HR5⟩ := at_T59 H3.out i (by omega) (by omega)
         cases hA
         replace hx0 : wr.cell? (ad.add (i * 2)) = some (.string (rd_T59 rules i).f0) := (HI.out.hB.cell (World.block_lt_of_cell? _ _ hx0)).trans hx0
         replace hx1 : wr.cell? ⟨(ad.add (i * 2)).block, (ad.add (i * 2)).off + 1, none⟩ = some (.slice A5 (rd_T59 rules i).f1.length c5) := (HI.out.hB.cell (World.block_lt_of_cell? _ _ hx1)).trans hx1
         have hR4 : R = endB parts (if plainB (rd_T59 rules i).f0 = true then (if (rd_T59 rules i).f1.length = 0 then none else (altL parts (rd_T59 rules i).f1 n).bind (ruleL parts (rules.drop (i + 1)))) else none) := by
          rw [hR.out, List.drop_eq_getElem_cons hlt]
          simp only [ruleL, rd_T59, List.getD_eq_getElem?_getD, List.getElem?_eq_getElem hlt, Int.toNat_natCast, Option.getD_some]
         generalize rd_T59 rules i = ru at hx0 hx1 hR4 hl5 HR5
         replace hR4 := Zz.mk hR4
         replace HR5 := Zz.mk HR5
         replace hl5 := Zz.mk hl5
         clear hR
         have hw := Zz.mk (fun n => HI.out.below (zbn (below_self_alloc wr (.cells #[.string ru.f0, .slice A5 ru.f1.length c5] 59)) n))
         have hnw := Zz.mk (fun n => blk_below HN.out (zbn (below_self_alloc wr (.cells #[.string ru.f0, .slice A5 ru.f1.length c5] 59)) n))
         have hlr := hl
         cases hp : plainB ru.f0 with
         | false =>
          have hRn : Zz (R = false) := ⟨by rw [hR4.out]; simp [hp, endB]⟩
          go_wp2_with (go_at_call 62; refine (plain_any _ _).mono ?_; rintro e w4 ⟨rfl, hd⟩; obtain ⟨⟨nd, rfl⟩⟩ := hd)
          go_ret
          exact BPost.of (hw.out _).hB hRn.out
         | true =>
          by_cases hz : ru.f1.length = 0
          ·have z1 : decide ((ru.f1.length : Int) < 1) = true := decide_eq_true (by omega)
           have hRn : Zz (R = false) := ⟨by rw [hR4.out]; simp [hp, hz, endB]⟩
           replace hz := Zz.mk hz
           go_wp2_with (go_at_call 62; refine (plain_any _ _).mono ?_; rintro e w4 ⟨rfl, hd⟩; obtain ⟨⟨nd, rfl⟩⟩ := hd)
           go_ret
           exact BPost.of (hw.out _).hB hRn.out
          ·have z1 : decide ((ru.f1.length : Int) < 1) = false := decide_eq_false (by omega)
           have hR5 : Zz (R = endB parts ((altL parts ru.f1 n).bind (ruleL parts (rules.drop (i + 1))))) := ⟨by rw [hR4.out]; simp [hp, hz]⟩
           replace hz := Zz.mk hz
           clear hR4
           go_wp2_with (go_at_call 62; refine (plain_any _ _).mono ?_; rintro e w4 ⟨rfl, hd⟩; obtain ⟨⟨nd, rfl⟩⟩ := hd)
           have HI5 := Zz.mk (hw.out nd)
           have HN5 := Zz.mk (hnw.out nd)
           clear hx0 hx1 hw hnw HI HN hp z1
           go_loopg [113] ru.f1.length (fun gk v113 wr => ∃ (k : Nat) (n : Int), v113 = .int .i64 k ∧ gk = ru.f1.length - k ∧ k ≤ ru.f1.length ∧ Zz (GInv w nm (.slice A1 toks.length c1) (.slice A2 levs.length c2) (.slice (some ad) rules.length c3) (.slice A4 parts.length c4) wr) ∧ Zz (wr.heap[nb]? = some (.cells #[.int .i64 n] 3 (0, 0))) ∧ Zz (R = endB parts ((altL parts (ru.f1.drop k) n).bind (ruleL parts (rules.drop (i + 1))))))
           case atStart => exact ⟨0, n, rfl, by omega, by omega, HI5, HN5, hR5⟩
           case round =>
            clear HI5 HN5 hR5
            obtain ⟨k, n, rfl, hgk2, hk, HI, HN, hR⟩ := hrel
            have hl := HR5.out.2.1
            by_cases hkl : k < ru.f1.length
            ·have b2 : decide (k < ru.f1.length) = true := decide_eq_true hkl
             obtain ⟨ad6, A7, c7, hA6, hx2, hx3, hl7, HR7⟩ := at_T75 HR5.out k (by omega) (by omega)
             cases hA6
             replace hx2 : wr.cell? (ad6.add (k * 2)) = some (.slice A7 (rd_T75 ru.f1 k).f0.length c7) := (HI.out.hB.cell (World.block_lt_of_cell? _ _ hx2)).trans hx2
             replace hx3 : wr.cell? ⟨(ad6.add (k * 2)).block, (ad6.add (k * 2)).off + 1, none⟩ = some (.string (rd_T75 ru.f1 k).f1) := (HI.out.hB.cell (World.block_lt_of_cell? _ _ hx3)).trans hx3
             have hR6 : R = endB parts ((if labB (rd_T75 ru.f1 k) = true then (itemsG (altsF parts parts.length) parts parts.length (rd_T75 ru.f1 k).f0 n).bind (altL parts (ru.f1.drop (k + 1))) else none).bind (ruleL parts (rules.drop (i + 1)))) := by
              rw [hR.out, List.drop_eq_getElem_cons hkl]
              simp only [altL, rd_T75, List.getD_eq_getElem?_getD, List.getElem?_eq_getElem hkl, Int.toNat_natCast, Option.getD_some]
             generalize rd_T75 ru.f1 k = al at hx2 hx3 hR6 hl7 HR7
             replace hR6 := Zz.mk hR6
             replace HR7 := Zz.mk HR7
             replace hl7 := Zz.mk hl7
             clear hR
             go_upto_region 30 with (fail)
             have HI6 := Zz.mk (HI.out.below (below_self_alloc wr (.cells #[.slice A7 al.f0.length c7, .string al.f1] 75)))
             have HN6 := Zz.mk (blk_below HN.out (below_self_alloc wr (.cells #[.slice A7 al.f0.length c7, .string al.f1] 75)))
             have HX6 := Zz.mk (show (wr.alloc (.cells #[.slice A7 al.f0.length c7, .string al.f1] 75)).heap[wr.heap.size]? = some (.cells #[.slice A7 al.f0.length c7, .string al.f1] 75 (0, 0)) from heap_alloc_new wr _)
             clear HI HN hx2 hx3
             generalize wr.heap.size = xb at HX6 ⊢
             generalize wr.alloc (.cells #[.slice A7 al.f0.length c7, .string al.f1] 75) = wz at HI6 HN6 HX6 ⊢
             have x0 := (zbc HX6.out 0).trans (rfl : _ = some (Value.slice A7 al.f0.length c7))
             have x1 := (zbc HX6.out 1).trans (rfl : _ = some (Value.string al.f1))
             have hTT : ∃ T, T = itemsG (altsF parts parts.length) parts parts.length al.f0 n := ⟨_, rfl⟩
             obtain ⟨T, hT⟩ := hTT
             have CC : ∀ W : World, Below wz.heap.size wz W → W.heap[wz.heap.size]? = some (.cells #[.slice A7 al.f0.length c7] 73 (0, 0)) → Calls Try.prog 65 #[.agg #[.string nm, .slice A1 toks.length c1, .slice A2 levs.length c2, .slice (some ad) rules.length c3, .slice A4 parts.length c4], .slice (some ⟨wz.heap.size, 0, none⟩) 1 1, .pointer (some ⟨nb, 0, none⟩), .int .i64 parts.length] W (fun e w2 => ∃ m3, e = .returned (.bool T.isSome) ∧ Zz (GInv w nm (.slice A1 toks.length c1) (.slice A2 levs.length c2) (.slice (some ad) rules.length c3) (.slice A4 parts.length c4) w2) ∧ Zz (w2.heap[nb]? = some (.cells #[.int .i64 m3] 3 (0, 0))) ∧ Zz (∀ r, T = some r → r = m3)) := by
              intro W hW hlit
              have HIW := HI6.out.below hW
              have hne : wz.heap.size ≠ nb := by have := blk_lt HN6.out; omega
              have := inOrder_walk (parts.length + 1) nm (.slice A1 toks.length c1) (.slice A2 levs.length c2) (.slice (some ad) rules.length c3) A4 c4 parts (some ⟨wz.heap.size, 0, none⟩) 1 [al.f0] nb n parts.length w W H4.out L4 ⟨by simp, fun j hj => ?_⟩ (by simp) HIW.hB (by omega) (blk_below HN6.out hW) (by omega) (Int.le_refl _) (by omega)
              ·refine this.mono ?_
               rintro e w2 ⟨⟨m3, rfl, hn3, hr3⟩, hB3, hK3⟩
               rw [alts_one, ← hT] at hr3
               exact ⟨m3, by rw [alts_one, ← hT], ⟨⟨(hK3.2 _ (blk_lt HIW.hg) (by omega) (by simp)).trans HIW.hg, hB3⟩⟩, ⟨hn3⟩, ⟨hr3⟩⟩
              ·obtain rfl : j = 0 := by simpa using hj
               refine ⟨⟨wz.heap.size, 0, none⟩, A7, c7, rfl, fun wr hB hK => ?_, hl7.out, HR7.out⟩
               exact (zbc ((hK.2 _ (blk_lt hlit) hne (by simp)).trans hlit) 0).trans rfl
             replace CC := Zz.mk CC
             have g0 := (zbc HI6.out.hg 0).trans (rfl : _ = some (Value.string nm))
             have g1 := (zbc HI6.out.hg 1).trans (rfl : _ = some (Value.slice A1 toks.length c1))
             have g2 := (zbc HI6.out.hg 2).trans (rfl : _ = some (Value.slice A2 levs.length c2))
             have g3 := (zbc HI6.out.hg 3).trans (rfl : _ = some (Value.slice (some ad) rules.length c3))
             have g4 := (zbc HI6.out.hg 4).trans (rfl : _ = some (Value.slice A4 parts.length c4))
             have y4 := fun o => (World.cell?_alloc_lt wz o _ (World.block_lt_of_cell? _ _ g4)).trans g4
             have y5 := fun n o => (World.cell?_alloc_lt (wz.drewN n) o _ (World.block_lt_of_cell? _ _ g4)).trans g4
             by_cases hs : al.f1.size = 0
             ·have z1 := toList_nil hs
              have hR7 : Zz (R = endB parts ((T.bind (altL parts (ru.f1.drop (k + 1)))).bind (ruleL parts (rules.drop (i + 1))))) := ⟨by rw [hR6.out, hT, if_pos (by simp [labB, hs])]⟩
              replace hs := Zz.mk hs
              clear hT hR6
              cases T with
              | none =>
               have hRn : Zz (R = false) := ⟨by rw [hR7.out]; rfl⟩
               go_wp2_with (go_at_call 65; refine (CC.out _ (by first | exact zbn (below_self_alloc wz _) _ | exact below_self_alloc wz _ | exact zba (zbn (Below.refl _ _) _) _) (by first | exact heap_alloc_new wz _ | exact heap_alloc_new (wz.drewN _) _ | exact (show (wz.alloc (.cells #[.slice A7 al.f0.length c7] 73)).heap[wz.heap.size]? = _ from heap_alloc_new wz _))).mono ?_; rintro e w2 ⟨m3, rfl, HI8, HN8, hr8⟩)
               go_ret
               exact BPost.of HI8.out.hB hRn.out
              | some m =>
               go_wp2_with (go_at_call 65; refine (CC.out _ (by first | exact zbn (below_self_alloc wz _) _ | exact below_self_alloc wz _ | exact zba (zbn (Below.refl _ _) _) _) (by first | exact heap_alloc_new wz _ | exact heap_alloc_new (wz.drewN _) _ | exact (show (wz.alloc (.cells #[.slice A7 al.f0.length c7] 73)).heap[wz.heap.size]? = _ from heap_alloc_new wz _))).mono ?_; rintro e w2 ⟨m3, rfl, HI8, HN8, hr8⟩)
               go_roundg (ru.f1.length - (k + 1))
               case measure => omega
               case rel => exact ⟨k + 1, m, by go_num, rfl, by omega, HI8, ⟨by rw [hr8.out m rfl]; exact HN8.out⟩, ⟨by rw [hR7.out]; rfl⟩⟩
             ·have z1 := (toList_cons hs).1
              have z2 := (toList_cons hs).2
              cases hp : plainB al.f1 with
              | false =>
               have hRn : Zz (R = false) := ⟨by rw [hR6.out, if_neg (by simp [labB, hs, hp])]; rfl⟩
               replace hs := Zz.mk hs
               clear hT hR6
               go_wp2_with (go_at_call 62; refine (plain_any _ _).mono ?_; rintro e w4 ⟨rfl, hd⟩; obtain ⟨⟨nd, rfl⟩⟩ := hd)
               go_ret
               exact BPost.of (zbn HI6.out.hB _) hRn.out
              | true =>
               have hR7 : Zz (R = endB parts ((T.bind (altL parts (ru.f1.drop (k + 1)))).bind (ruleL parts (rules.drop (i + 1))))) := ⟨by rw [hR6.out, hT, if_pos (by simp [labB, hs, hp])]⟩
               replace hs := Zz.mk hs
               clear hT hR6
               cases T with
               | none =>
                have hRn : Zz (R = false) := ⟨by rw [hR7.out]; rfl⟩
                go_wp2_with (first | (go_at_call 62; refine (plain_any _ _).mono ?_; rintro e w4 ⟨rfl, hd⟩; obtain ⟨⟨nd, rfl⟩⟩ := hd) | (go_at_call 65; refine (CC.out _ (by first | exact zbn (below_self_alloc wz _) _ | exact below_self_alloc wz _ | exact zba (zbn (Below.refl _ _) _) _) (by first | exact heap_alloc_new wz _ | exact heap_alloc_new (wz.drewN _) _ | exact (show (wz.alloc (.cells #[.slice A7 al.f0.length c7] 73)).heap[wz.heap.size]? = _ from heap_alloc_new wz _))).mono ?_; rintro e w2 ⟨m3, rfl, HI8, HN8, hr8⟩))
                go_ret
                exact BPost.of HI8.out.hB hRn.out
               | some m =>
                go_wp2_with (first | (go_at_call 62; refine (plain_any _ _).mono ?_; rintro e w4 ⟨rfl, hd⟩; obtain ⟨⟨nd, rfl⟩⟩ := hd) | (go_at_call 65; refine (CC.out _ (by first | exact zbn (below_self_alloc wz _) _ | exact below_self_alloc wz _ | exact zba (zbn (Below.refl _ _) _) _) (by first | exact heap_alloc_new wz _ | exact heap_alloc_new (wz.drewN _) _ | exact (show (wz.alloc (.cells #[.slice A7 al.f0.length c7] 73)).heap[wz.heap.size]? = _ from heap_alloc_new wz _))).mono ?_; rintro e w2 ⟨m3, rfl, HI8, HN8, hr8⟩))
                go_roundg (ru.f1.length - (k + 1))
                case measure => omega
                case rel => exact ⟨k + 1, m, by go_num, rfl, by omega, HI8, ⟨by rw [hr8.out m rfl]; exact HN8.out⟩, ⟨by rw [hR7.out]; rfl⟩⟩
            ·have b2 : decide (k < ru.f1.length) = false := decide_eq_false hkl
             have hR6 : Zz (R = endB parts (ruleL parts (rules.drop (i + 1)) n)) := ⟨by rw [hR.out, List.drop_of_length_le (by omega)]; rfl⟩
             clear hR
             go_wp2
             go_roundg (rules.length - (i + 1))
             case measure => omega
             case rel => exact ⟨i + 1, n, by go_num, rfl, by omega, HI, HN, hR6⟩
        ·have b1 : decide (i < rules.length) = false := decide_eq_false hlt
         have hR3 : Zz (R = (n == (parts.length : Int))) := ⟨by rw [hR.out, List.drop_of_length_le (by omega)]; simp only [ruleL, endB]; by_cases h : n = (parts.length : Int) <;> simp [h]⟩
         clear hR hl
         have n0 := (zbc HN.out 0).trans (rfl : _ = some (Value.int .i64 n))
         have g4 := (zbc HI.out.hg 4).trans (rfl : _ = some (Value.slice A4 parts.length c4))
         go_wp2
         go_ret
         exact BPost.of HI.out.hB hR3.out
end Go.Proofs.Ythcmamcbnjphgaa.PFnExactGrammarShow
namespace Go.Proofs.Ythcmamcbnjphgaa.PFnExactGrammarShow
open Go.RowKit Go.Proofs.YthcmamcbnjphgaaW.PrintWords Go.Proofs.YthcmamcbnjphgaaW.PrintLast Go.Proofs.YthcmamcbnjphgaaW.PrintMore
attribute [local go_sem] max2_int min2_int max_two min_two max_three min_three max_four min_four   -- for this text's walks alone
def spec_l03Words.l0 : Nat → List ByteArray → ByteArray → Int → Option (ByteArray)
 | 0, _, _, _ => none
 | k + 1, x0, x3, x4 => if x4 < (x0.length : Int) then (if x4 > 0 then (if x3.size + 1 ≤ 9223372036854775807 then (if 0 ≤ x4 then (if (x3 ++ (⟨#[32]⟩ : ByteArray)).size + (rdOf ByteArray.empty x0 x4).size ≤ 9223372036854775807 then (spec_l03Words.l0 k x0 ((x3 ++ (⟨#[32]⟩ : ByteArray)) ++ (rdOf ByteArray.empty x0 x4)) (wrap64 (x4 + 1))) else (none)) else (none)) else (none)) else (if 0 ≤ x4 then (if x3.size + (rdOf ByteArray.empty x0 x4).size ≤ 9223372036854775807 then (spec_l03Words.l0 k x0 (x3 ++ (rdOf ByteArray.empty x0 x4)) (wrap64 (x4 + 1))) else (none)) else (none))) else (some x3)
def spec_l03Words.f (k : Nat) (l0 : List ByteArray) : Option (ByteArray) := spec_l03Words.l0 k l0 (⟨#[]⟩ : ByteArray) 0
set_option maxHeartbeats 8000000 in
set_option maxRecDepth 100000 in
theorem spec_l03Words.calls (k : Nat) (A0 : Option Addr) (c0 : Nat) (l0 : List ByteArray) (r : ByteArray) (w : World) (hr0 : Kd.C Kd.string w A0 l0.length l0) (hc0 : l0.length ≤ c0) (h : spec_l03Words.f k l0 = some r) :
  Calls Try.prog 19 #[.slice A0 l0.length c0] w fun e w' => e = .returned (.string r) ∧ Drawn0 w w' := by
 have HR0 := Zz.mk hr0
 have HC0 := Zz.mk hc0
 clear hr0 hc0
 have H : (spec_l03Words.l0 k l0 (⟨#[]⟩ : ByteArray) 0) = some r := h
 clear h
 have H' := Zz.mk H
 clear H
 go_enter Try.func19, Try.ntmps19
 go_wp2
 go_loopg [3, 4] k (fun kq v3 v4 w' => ∃ (x3_1 : ByteArray) (x4_1 : Int), v3 = .string x3_1 ∧ v4 = .int .i64 x4_1 ∧ Zz (spec_l03Words.l0 kq l0 x3_1 x4_1 = some r) ∧ Zz (kq ≤ k) ∧ Drawn0 w w')
 case atStart => exact ⟨((⟨#[]⟩ : ByteArray)), (0), (by first | rfl | (simp; done) | (simp [*]; done)), (by first | rfl | (simp; done) | (simp [*]; done)), H', ⟨Nat.le_refl _⟩, by repeat (first | exact Drawn0.refl _ | apply Drawn0.step)⟩
 case round =>
  clear H'
  try clear c1
  obtain ⟨x3_1, x4_1, rfl, rfl, HA, HK1, ⟨m1, rfl⟩⟩ := hrel
  cases gk with
  | zero => exact absurd HA.out (by simp [spec_l03Words.l0])
  | succ k1 =>
   have H := HA.out
   clear HA
   simp only [spec_l03Words.l0] at H
   by_cases c2 : x4_1 < (l0.length : Int)
   ·rw [if_pos c2] at H
    have c2b0 : decide (x4_1 < (l0.length : Int)) = true := decide_eq_true c2
    clear c2
    by_cases c3 : x4_1 > 0
    ·rw [if_pos c3] at H
     have c3b0 : decide (0 < x4_1) = true := decide_eq_true c3
     clear c3
     by_cases c4 : x3_1.size + 1 ≤ 9223372036854775807
     ·rw [if_pos c4] at H
      have c4b0 := eq_true c4
      have c4b1 : decide (x3_1.size + 1 ≤ 9223372036854775807) = true := decide_eq_true c4
      try have c4b2 : (9223372036854775807 < x3_1.size + 1) = False := eq_false (Nat.not_lt.2 c4)
      by_cases c5 : 0 ≤ x4_1
      ·rw [if_pos c5] at H
       have c5b0 : decide (0 ≤ x4_1) = true := decide_eq_true c5
       clear c5
       by_cases c6 : (x3_1 ++ (⟨#[32]⟩ : ByteArray)).size + (rdOf ByteArray.empty l0 x4_1).size ≤ 9223372036854775807
       ·rw [if_pos c6] at H
        have c6b0 := eq_true c6
        have c6b1 : decide ((x3_1 ++ (⟨#[32]⟩ : ByteArray)).size + (rdOf ByteArray.empty l0 x4_1).size ≤ 9223372036854775807) = true := decide_eq_true c6
        try have c6b2 : (9223372036854775807 < (x3_1 ++ (⟨#[32]⟩ : ByteArray)).size + (rdOf ByteArray.empty l0 x4_1).size) = False := eq_false (Nat.not_lt.2 c6)
        have H' := Zz.mk H
        clear H
        have p159 : 0 ≤ (x4_1 : Int) := of_decide_eq_true (by first | (with_reducible assumption) | assumption)
        have q159 : x4_1 < (l0.length : Int) := of_decide_eq_true (by first | (with_reducible assumption) | assumption)
        obtain ⟨ad159, e159, hx159_0⟩ := Kd.at_string HR0.out x4_1 p159 q159
        cases e159
        replace p159 := eq_true p159
        replace q159 := eq_true q159
        go_wp2
        go_roundg k1
        case measure => have := HK1.out; omega
        case rel => exact ⟨((x3_1 ++ (⟨#[32]⟩ : ByteArray)) ++ (rdOf ByteArray.empty l0 x4_1)), (wrap64 (x4_1 + 1)), (by first | rfl | (simp; done) | (simp [*]; done)), (by first | rfl | (simp; done) | (simp [*]; done)), H', ⟨by have := HK1.out; omega⟩, by repeat (first | exact Drawn0.refl _ | apply Drawn0.step)⟩
       ·rw [if_neg c6] at H
        exact absurd H (by simp)
      ·rw [if_neg c5] at H
       exact absurd H (by simp)
     ·rw [if_neg c4] at H
      exact absurd H (by simp)
    ·rw [if_neg c3] at H
     have c3b0 : decide (0 < x4_1) = false := decide_eq_false c3
     clear c3
     by_cases c7 : 0 ≤ x4_1
     ·rw [if_pos c7] at H
      have c7b0 : decide (0 ≤ x4_1) = true := decide_eq_true c7
      clear c7
      by_cases c8 : x3_1.size + (rdOf ByteArray.empty l0 x4_1).size ≤ 9223372036854775807
      ·rw [if_pos c8] at H
       have c8b0 := eq_true c8
       have c8b1 : decide (x3_1.size + (rdOf ByteArray.empty l0 x4_1).size ≤ 9223372036854775807) = true := decide_eq_true c8
       try have c8b2 : (9223372036854775807 < x3_1.size + (rdOf ByteArray.empty l0 x4_1).size) = False := eq_false (Nat.not_lt.2 c8)
       have H' := Zz.mk H
       clear H
       have p160 : 0 ≤ (x4_1 : Int) := of_decide_eq_true (by first | (with_reducible assumption) | assumption)
       have q160 : x4_1 < (l0.length : Int) := of_decide_eq_true (by first | (with_reducible assumption) | assumption)
       obtain ⟨ad160, e160, hx160_0⟩ := Kd.at_string HR0.out x4_1 p160 q160
       cases e160
       replace p160 := eq_true p160
       replace q160 := eq_true q160
       go_wp2
       go_roundg k1
       case measure => have := HK1.out; omega
       case rel => exact ⟨(x3_1 ++ (rdOf ByteArray.empty l0 x4_1)), (wrap64 (x4_1 + 1)), (by first | rfl | (simp; done) | (simp [*]; done)), (by first | rfl | (simp; done) | (simp [*]; done)), H', ⟨by have := HK1.out; omega⟩, by repeat (first | exact Drawn0.refl _ | apply Drawn0.step)⟩
      ·rw [if_neg c8] at H
       exact absurd H (by simp)
     ·rw [if_neg c7] at H
      exact absurd H (by simp)
   ·rw [if_neg c2] at H
    have c2b0 : decide (x4_1 < (l0.length : Int)) = false := decide_eq_false c2
    clear c2
    obtain rfl := Option.some.inj H
    go_wp2
    go_ret
    exact ⟨by first | rfl | (simp; done) | (simp [*]; done), by repeat (first | exact Drawn0.refl _ | apply Drawn0.step)⟩
end Go.Proofs.Ythcmamcbnjphgaa.PFnExactGrammarShow
namespace Go.Proofs.Ythcmamcbnjphgaa.PFnExactGrammarShow
open Go.RowKit Go.Proofs.YthcmamcbnjphgaaW.PrintWords Go.Proofs.YthcmamcbnjphgaaW.PrintLast Go.Proofs.YthcmamcbnjphgaaW.PrintMore
def jtL (l : List ByteArray) : List UInt8 := (l.map fun s => 32 :: s.data.toList).flatten
def jnL : List ByteArray → List UInt8
 | [] => []
 | x :: r => x.data.toList ++ jtL r
def jn (l : List ByteArray) : ByteArray := ⟨(jnL l).toArray⟩
def cost (l : List ByteArray) : Nat := (l.map fun s => s.size + 1).sum
theorem cost_append (a b : List ByteArray) : cost (a ++ b) = cost a + cost b := by simp [cost]
theorem cost_cons (a : ByteArray) (b : List ByteArray) : cost (a :: b) = a.size + 1 + cost b := by simp [cost]
theorem jtL_length (l : List ByteArray) : (jtL l).length = cost l := by
 induction l with
 | nil => rfl
 | cons a l ih => simp only [jtL, List.map_cons, List.flatten_cons, List.length_append, List.length_cons, data_length] at ih ⊢; rw [ih, cost_cons]
theorem jnL_length (l : List ByteArray) : (jnL l).length ≤ cost l := by
 cases l with
 | nil => simp [jnL]
 | cons a l => rw [jnL, List.length_append, jtL_length, data_length, cost_cons]; omega
theorem jn_size (l : List ByteArray) : (jn l).size ≤ cost l := by
 have : (jn l).size = (jnL l).length := by simp [jn, ByteArray.size]
 rw [this]; exact jnL_length l
theorem length_cost (l : List ByteArray) : l.length ≤ cost l := by
 induction l with
 | nil => simp
 | cons a l ih => rw [cost_cons, List.length_cons]; omega
theorem join_jnL (l : List ByteArray) : Lib.join (l.map (·.data.toList)) [32] = jnL l := by
 cases l with
 | nil => rfl
 | cons x r =>
  rw [List.map_cons, Lib.join_cons, jnL, Lib.joinTail, jtL]
  simp [List.map_map, Function.comp_def]
theorem ba_ext {a b : ByteArray} (h : a.data.toList = b.data.toList) : a = b := by
 cases a; cases b; congr 1; exact Array.toList_inj.mp h
theorem ba_append (a b : ByteArray) : (a ++ b).data.toList = a.data.toList ++ b.data.toList := by simp
theorem words_l (l : List ByteArray) : ∀ (d i k : Nat) (acc : ByteArray), l.length - i = d → d < k → 0 < i → acc.size + cost (l.drop i) ≤ 9223372036854775806 → l.length ≤ 9223372036854775806 →
  spec_l03Words.l0 k l acc (i : Int) = some ⟨(acc.data.toList ++ jtL (l.drop i)).toArray⟩ := by
 intro d
 induction d with
 | zero =>
  intro i k acc hd hk h0 hs hl
  obtain ⟨k, rfl⟩ : ∃ m, k = m + 1 := ⟨k - 1, by omega⟩
  simp only [spec_l03Words.l0]
  rw [if_neg (by omega), List.drop_of_length_le (by omega)]
  congr 1
  apply ba_ext; simp [jtL]
 | succ d ih =>
  intro i k acc hd hk h0 hs hl
  obtain ⟨k, rfl⟩ : ∃ m, k = m + 1 := ⟨k - 1, by omega⟩
  have hi : i < l.length := by omega
  have e : rdOf ByteArray.empty l (i : Int) = l[i] := by simp [rdOf, List.getD_eq_getElem?_getD, List.getElem?_eq_getElem hi]
  rw [List.drop_eq_getElem_cons hi, cost_cons] at hs
  simp only [spec_l03Words.l0]
  rw [if_pos (by omega), if_pos (by omega), if_pos (by omega), if_pos (by omega), e, if_pos (by rw [ByteArray.size_append]; show _ + 1 + _ ≤ _; omega), wrap_in (by omega) (by omega)]
  have := ih (i + 1) k ((acc ++ (⟨#[32]⟩ : ByteArray)) ++ l[i]) (by omega) (by omega) (by omega) (by rw [ByteArray.size_append, ByteArray.size_append]; show _ + 1 + _ + _ ≤ _; omega) hl
  rw [show ((i : Int) + 1) = ((i + 1 : Nat) : Int) by omega, this, List.drop_eq_getElem_cons hi]
  congr 1
  apply ba_ext
  simp only [ba_append, jtL, List.map_cons, List.flatten_cons]
  simp
theorem words_eval (l : List ByteArray) (hs : cost l ≤ 9223372036854775806) (k : Nat) (hk : l.length < k) : spec_l03Words.f k l = some (jn l) := by
 unfold spec_l03Words.f
 have hl := length_cost l
 cases l with
 | nil =>
  obtain ⟨k, rfl⟩ : ∃ m, k = m + 1 := ⟨k - 1, by omega⟩
  simp [spec_l03Words.l0, jn, jnL]
 | cons x r =>
  rw [List.length_cons] at hk hl
  rw [cost_cons] at hs
  obtain ⟨k, rfl⟩ : ∃ m, k = m + 1 := ⟨k - 1, by omega⟩
  have e : rdOf ByteArray.empty (x :: r) 0 = x := rfl
  simp only [spec_l03Words.l0]
  rw [if_pos (by simp), if_neg (by omega), if_pos (by omega), e, if_pos (by show 0 + x.size ≤ _; omega), wrap_in (by omega) (by omega)]
  have := words_l (x :: r) r.length 1 k ((⟨#[]⟩ : ByteArray) ++ x) (by simp) (by omega) (by omega) (by rw [ByteArray.size_append]; show 0 + x.size + _ ≤ _; simp; have : cost r ≤ cost r := Nat.le_refl _; omega) (by simp; have := length_cost r; omega)
  rw [show ((0 : Int) + 1) = ((1 : Nat) : Int) by omega, this]
  congr 1
def altsW (say : Int → ByteArray) : Nat → List (List Int) → List ByteArray
 | _, [] => []
 | i, a :: r => (if i > 0 then [(⟨#[124]⟩ : ByteArray)] else []) ++ (a.map say ++ altsW say (i + 1) r)
def openB (k : Int) : ByteArray := if k = 3 then ⟨#[40]⟩ else if k = 4 then ⟨#[91]⟩ else ⟨#[123]⟩
def closeB (k : Int) : ByteArray := if k = 3 then ⟨#[41]⟩ else if k = 4 then ⟨#[93]⟩ else ⟨#[125]⟩
def sayB (parts : List S119) : Nat → Int → ByteArray
 | 0, _ => ⟨#[]⟩
 | F + 1, p => if (rd_T119 parts p).f0 = 1 then (rd_T119 parts p).f1 else if (rd_T119 parts p).f0 = 2 then (⟨#[39]⟩ : ByteArray) ++ (rd_T119 parts p).f1 ++ (⟨#[39]⟩ : ByteArray)
   else openB (rd_T119 parts p).f0 ++ jn (altsW (sayB parts F) 0 (rd_T119 parts p).f2) ++ closeB (rd_T119 parts p).f0
def Fine (parts : List S119) : Nat → Int → Prop
 | 0, _ => False
 | F + 1, p => 0 ≤ p ∧ p < parts.length ∧ ((rd_T119 parts p).f0 = 1 ∨ (rd_T119 parts p).f0 = 2 ∨
   (((rd_T119 parts p).f0 = 3 ∨ (rd_T119 parts p).f0 = 4 ∨ (rd_T119 parts p).f0 = 5) ∧ (∀ a ∈ (rd_T119 parts p).f2, ∀ q ∈ a, Fine parts F q) ∧ cost (altsW (sayB parts F) 0 (rd_T119 parts p).f2) ≤ 1099511627776)) ∧ (rd_T119 parts p).f1.size ≤ 1099511627776
theorem words_any (v : Value) (l : List ByteArray) (base : Nat) (w : World) (HO : w.ownsRow base 9 1 v l.length (encs Value.string l)) (hs : cost l ≤ 1099511627776) :
  Calls Try.prog 19 #[v] w fun e w' => e = .returned (.string (jn l)) ∧ Drawn0 w w' := by
 obtain ⟨A, c, rfl, hc, hr⟩ := own_reads_of_le (d := ByteArray.empty) HO
 have hC : Kd.C Kd.string w A l.length l := Kd.C_of_reads (d := ByteArray.empty) (h1 := fun _ => rfl) hr
 exact spec_l03Words.calls (l.length + 1) A c l _ w hC hc (words_eval l (by omega) _ (by omega))
abbrev Strs (w : World) (base : Nat) (v : Value) (l : List ByteArray) : Prop := w.ownsRow base 9 1 v l.length (encs Value.string l)
theorem strs_snoc {W : World} {base : Nat} {v : Value} {l : List ByteArray} {y : ByteArray} (h : W.ownsRow base 9 1 v (l.length + 1) (encs Value.string l ++ [.string y])) : Strs W base v (l ++ [y]) := by
 unfold Strs
 rw [List.length_append, encs_append]
 exact h
def SayDo (parts : List S119) (F : Nat) : Prop :=
 ∀ (p : Int) (nm : ByteArray) (v1 v2 v3 : Value) (A4 : Option Addr) (c4 : Nat) (w : World), Fine parts F p → Kd.C k119 w A4 parts.length parts → parts.length ≤ c4 →
  Calls Try.prog 88 #[.agg #[.string nm, v1, v2, v3, .slice A4 parts.length c4], .int .i64 p] w fun e w' => e = .returned (.string (sayB parts F p)) ∧ Below w.heap.size w w'
theorem GInv.grown {w : World} {nm : ByteArray} {v1 v2 v3 v4 : Value} {W w1 : World} {v : Value} {base : Nat} {n : Nat} {xs : List Value} (h : GInv w nm v1 v2 v3 v4 W) (HO : W.ownsRow base 9 1 v n xs) (hB : Below w.heap.size w w1) (hg : W.grownBy w1 v.ownBlock) : GInv w nm v1 v2 v3 v4 w1 :=
 ⟨blk_grown h.hg hg (own_ne HO h.hg (by decide)), hB⟩
set_option maxHeartbeats 2000000 in
set_option maxRecDepth 100000 in
theorem sayItems_walk (parts : List S119) (F : Nat) (SD : SayDo parts F) (nm : ByteArray) (v1 v2 v3 : Value) (A4 : Option Addr) (c4 : Nat) (A : Option Addr) (c : Nat) (l : List Int) (w : World)
  (H4 : Kd.C k119 w A4 parts.length parts) (L4 : parts.length ≤ c4) (HA : Kd.C (Kd.int .i64) w A l.length l) (LA : l.length ≤ c) (hf : ∀ q ∈ l, Fine parts F q) (hc : cost (l.map (sayB parts F)) ≤ 1099511627776) :
  Calls Try.prog 57 #[.agg #[.string nm, v1, v2, v3, .slice A4 parts.length c4], .slice A l.length c] w fun e w' => ∃ v, e = .returned v ∧ Strs w' w.heap.size v (l.map (sayB parts F)) ∧ Below w.heap.size w w' := by
 replace SD := Zz.mk SD
 replace H4 := Zz.mk H4
 replace HA := Zz.mk HA
 replace hf := Zz.mk hf
 have hlc : l.length ≤ 1099511627776 := by have := length_cost (l.map (sayB parts F)); rw [List.length_map] at this; omega
 replace hc := Zz.mk hc
 have HI := Zz.mk ((GInv.start w nm v1 v2 v3 (.slice A4 parts.length c4)).below (below_self_alloc _ (.cells #[] 9)))
 have HO := Zz.mk (show Strs ((w.alloc (.cells #[.string nm, v1, v2, v3, .slice A4 parts.length c4] 36)).alloc (.cells #[] 9)) w.heap.size (.slice (some ⟨(w.alloc (.cells #[.string nm, v1, v2, v3, .slice A4 parts.length c4] 36)).heap.size, 0, none⟩) 0 0) [] from own_lit_of (enc := Value.string) (w.alloc (.cells #[.string nm, v1, v2, v3, .slice A4 parts.length c4] 36)) w.heap.size 9 [] (by simp) (by simp))
 go_enter Try.func57, Try.ntmps57
 go_wp2
 go_loopg [5, 6] l.length (fun gk v5 v6 wr => ∃ (i : Nat), v6 = .int .i64 i ∧ gk = l.length - i ∧ i ≤ l.length ∧ Zz (GInv w nm v1 v2 v3 (.slice A4 parts.length c4) wr) ∧ Zz (Strs wr w.heap.size v5 ((l.take i).map (sayB parts F))))
 case atStart => exact ⟨0, rfl, by omega, by omega, HI, ⟨by simpa using HO.out⟩⟩
 case round =>
  clear HI HO
  obtain ⟨i, rfl, hgk, hi, HI, HO⟩ := hrel
  have hl := HA.out.2.1
  by_cases hlt : i < l.length
  ·have b1 : decide (i < l.length) = true := decide_eq_true hlt
   obtain ⟨ad2, c2, hA2, _, hK2, hc2⟩ := Kd.C_get HA.out 0 i (by omega) (by omega)
   cases hA2
   have hcp : wr.cell? (ad2.add i) = some (.int .i64 (rd l i)) := by
    have hq := hc2 0 (.int .i64 (rd l i)) (by rw [show c2 = [Value.int .i64 (rd l i)] from hK2]; rfl)
    have hq2 : w.cell? (ad2.add i) = some (.int .i64 (rd l i)) := by simpa [Kd.int, Kd.scalar] using hq
    exact (HI.out.hB.cell (World.block_lt_of_cell? _ _ hq2)).trans hq2
   clear hc2 hK2
   have hq : rd l (i : Int) = l[i] := by simp [rd, List.getD_eq_getElem?_getD, List.getElem?_eq_getElem hlt]
   have hfq := hf.out l[i] (List.getElem_mem hlt)
   have htk : (l.take (i + 1)).map (sayB parts F) = (l.take i).map (sayB parts F) ++ [sayB parts F l[i]] := by rw [List.take_succ_eq_append_getElem hlt, List.map_append]; rfl
   rw [← hq] at hfq htk
   clear hq
   generalize rd l (i : Int) = q at hcp hfq htk
   replace hfq := Zz.mk hfq
   replace htk := Zz.mk htk
   have g0 := (zbc HI.out.hg 0).trans (rfl : _ = some (Value.string nm))
   have g1 := (zbc HI.out.hg 1).trans (rfl : _ = some v1)
   have g2 := (zbc HI.out.hg 2).trans (rfl : _ = some v2)
   have g3 := (zbc HI.out.hg 3).trans (rfl : _ = some v3)
   have g4 := (zbc HI.out.hg 4).trans (rfl : _ = some (Value.slice A4 parts.length c4))
   have i0 : (0 : Int) ≤ (i : Int) := by omega
   have i1 : (i : Int) < (l.length : Int) := by omega
   go_wp2
   have HI2 := Zz.mk (HI.out.below (below_drew (Below.refl _ _)))
   have HO2 := Zz.mk (show Strs wr.drew w.heap.size u5 ((l.take i).map (sayB parts F)) from HO.out)
   have C := Zz.mk (SD.out q nm v1 v2 v3 A4 c4 wr.drew hfq.out (Kd.C_below H4.out HI2.out.hB) L4)
   have hlen : ((l.take i).map (sayB parts F)).length = i := by rw [List.length_map, List.length_take]; omega
   replace hlen := Zz.mk hlen
   go_region_law (first | (go_simp; go_at_call 88; refine C.out.mono ?_; rintro e w2 ⟨rfl, hbl⟩; have HI3 := Zz.mk (HI2.out.below hbl); have HO3 := Zz.mk (pw_own_below HO2.out hbl); clear hbl) | (refine step_append_cells (w0 := w) w.heap.size rfl (.tmp 14) (.tmp 21) 52 9 (.string ⟨#[]⟩) 1 16 rfl Try.underlying52 info9 rfl (by decide) (by decide) u5 ((l.take i).map (sayB parts F)).length (encs Value.string ((l.take i).map (sayB parts F))) [.string (sayB parts F q)] rfl rfl rfl ?h1 HO3.out HI3.out.hB HI3.out.hB.size ?hl ?_; (case h1 => intro u hu; simp at hu; subst hu; rfl); (case hl => rw [hlen.out]; omega); intro v1' w1 hown hB hg hat; have HI4 := Zz.mk (HI3.out.grown HO3.out hB hg); have HO4 := Zz.mk (strs_snoc hown); clear hown hB hg hat))
   all_goals go_wp2
   all_goals
    go_roundg (l.length - (i + 1))
    case measure => omega
    case rel => exact ⟨i + 1, by go_num, rfl, by omega, HI4, ⟨by rw [htk.out]; exact HO4.out⟩⟩
  ·have b1 : decide (i < l.length) = false := decide_eq_false hlt
   have HO2 := Zz.mk (show Strs wr w.heap.size u5 (l.map (sayB parts F)) from by have := HO.out; rwa [List.take_of_length_le (by omega)] at this)
   clear HO
   go_wp2
   go_ret
   exact ⟨_, rfl, HO2.out, HI.out.hB⟩
section
variable {P : Program} {ops : Array Oper} {o : Oper} {a : Act} {Q : Exit → Act → World → Prop} {K : Act → World → Prop}
theorem step_append_strs {w0 W : World} (base : Nat) (hw : Region.wanted o (yielded ops a.tmps) = true) (s x : Operand) (t e : TypeId) (bytes : Nat)
  (ho : o.op = .call { callee := .builtin .append, args := #[s, x], argTypes := #[t, t] })
  (ht : P.underlying t = some (.slice e)) (hinfo : (P.info? e).map (fun i => (i.zero, i.size, i.bytes)) = some (some (.string ⟨#[]⟩), 1, bytes)) (hb0 : 0 < bytes)
  (v : Value) (xs ys : List ByteArray) (A : Option Addr) (m c : Nat) (hs : a.eval s = v) (hx : a.eval x = .slice A m c)
  (HO : W.ownsRow base e 1 v xs.length (encs Value.string xs)) (HR : ReadsOf Value.string ByteArray.empty W A m ys) (HB : Below base w0 W) (hbase : base ≤ W.heap.size) (hl : (xs.length + m) * bytes ≤ 140737488355328)
  (h : ∀ v1 w1, w1.ownsRow base e 1 v1 (xs ++ ys).length (encs Value.string (xs ++ ys)) → Below base w0 w1 → W.grownBy w1 v.ownBlock → K (a.put o.dst v1) w1) :
  if Region.wanted o (yielded ops a.tmps) = true then Oper.wp P o a W K Q else K (a.put o.dst undef) W := by
 obtain ⟨i0, hi, hzz⟩ := Option.map_eq_some_iff.1 hinfo
 simp only [Prod.mk.injEq] at hzz
 obtain ⟨hz0, hz1, hz2⟩ := hzz
 have hm : ys.length = m := HR.1
 have hlen : xs.length + m ≤ 140737488355328 := Nat.le_trans (Nat.le_mul_of_pos_right _ hb0) hl
 have hrun : ∃ v1 w1, (Builtin.append_ #[t, t] o.type #[v, .slice A m c]).run P W = .ok v1 w1 ∧ w1.ownsRow base e 1 v1 (xs ++ ys).length (encs Value.string (xs ++ ys)) ∧ W.grownBy w1 v.ownBlock := by
  rcases A with _ | ad
  ·have h0 : m = 0 := by
    rcases Nat.eq_zero_or_pos m with h0 | h0
    ·exact h0
    ·obtain ⟨ad, h, _⟩ := HR.2.2 h0
     cases h
   subst h0
   obtain rfl : ys = [] := List.eq_nil_of_length_eq_zero hm
   refine ⟨v, W, ?_, by simpa using HO, World.grownBy.refl W _⟩
   rcases HO.2 with ⟨rfl, hn⟩ | ⟨g, cap, cur, rfl, _, _, hnc, _⟩
   ·simp [Builtin.append_, run_underlying ht, sizeOf, typeInfo, hi, Builtin.lenOf, Builtin.firstCells]
   ·simp [Builtin.append_, run_underlying ht, sizeOf, typeInfo, hi, Builtin.lenOf, Builtin.firstCells, hnc, storeCells]
  ·have hcells : ∀ j u, (encs Value.string ys)[j]? = some u → W.cell? (ad.add j) = some u := by
    intro j u hu
    have hj : j < ys.length := by
     rcases Nat.lt_or_ge j ys.length with h | h
     ·exact h
     ·simp [encs, List.getElem?_eq_none h] at hu
    obtain ⟨ad', h', hc⟩ := HR.2.2 (by omega)
    injection h' with h'
    subst h'
    rw [encs_get (d := ByteArray.empty) ys j hj] at hu
    rw [← hu]
    exact hc j (by omega)
   obtain ⟨v1, w1, hr, h2, h3, _, h5⟩ := run_append_own_at (P := P) W base t o.type e i0 (.string ⟨#[]⟩) 1 bytes ht hi hz0 hz1 hz2 rfl (by omega) v xs.length (encs Value.string xs) HO ad m c (encs Value.string ys) (by simp [encs, hm]) hcells
    (by intro u hu; simp only [encs, List.mem_map] at hu; obtain ⟨q, _, rfl⟩ := hu; rfl) (by simp only [maxLen]; omega) hl hbase
   exact ⟨v1, w1, hr, by simpa [encs, hm] using h2, h3⟩
 obtain ⟨v1, w1, hr, hown, hg⟩ := hrun
 rw [if_pos hw]
 unfold Oper.wp execOp
 simp only [ho, resolve, invoke, builtin, Sem.run_bind, Sem.run_pure, Result.andThen_ok, List.map_toArray, List.map_cons, List.map_nil, hs, hx, hr]
 exact h v1 w1 hown (HB.grown hg hbase (own_base HO)) hg
end
theorem below_drewN {B : Nat} {a w : World} (h : Below B a w) (n : Nat) : Below B a (w.drewN n) := h.trans ⟨rfl, rfl, rfl, Nat.le_refl _, fun _ _ => rfl⟩
def sayAltsDo (parts : List S119) (F : Nat) : Prop :=
 ∀ (nm : ByteArray) (v1 v2 v3 : Value) (A4 : Option Addr) (c4 : Nat) (A : Option Addr) (c : Nat) (alts : List (List Int)) (w : World),
  Kd.C k119 w A4 parts.length parts → parts.length ≤ c4 → Kd.C (Kd.slice 3 (Kd.int .i64)) w A alts.length alts → alts.length ≤ c → (∀ a ∈ alts, ∀ q ∈ a, Fine parts F q) → cost (altsW (sayB parts F) 0 alts) ≤ 1099511627776 →
  Calls Try.prog 111 #[.agg #[.string nm, v1, v2, v3, .slice A4 parts.length c4], .slice A alts.length c] w fun e w' => e = .returned (.string (jn (altsW (sayB parts F) 0 alts))) ∧ Below w.heap.size w w'
set_option maxHeartbeats 2000000 in
set_option maxRecDepth 100000 in
theorem sayAlts_walk (parts : List S119) (F : Nat) (SD : SayDo parts F) : sayAltsDo parts F := by
 intro nm v1 v2 v3 A4 c4 A c alts w H4 L4 HA LA hf hc
 replace SD := Zz.mk SD
 replace H4 := Zz.mk H4
 replace HA := Zz.mk HA
 replace hf := Zz.mk hf
 generalize hWS : altsW (sayB parts F) 0 alts = WS at hc ⊢
 replace hWS := Zz.mk hWS
 replace hc := Zz.mk hc
 have HI := Zz.mk ((GInv.start w nm v1 v2 v3 (.slice A4 parts.length c4)).below (below_self_alloc _ (.cells #[] 9)))
 have HO := Zz.mk (show Strs ((w.alloc (.cells #[.string nm, v1, v2, v3, .slice A4 parts.length c4] 36)).alloc (.cells #[] 9)) w.heap.size (.slice (some ⟨(w.alloc (.cells #[.string nm, v1, v2, v3, .slice A4 parts.length c4] 36)).heap.size, 0, none⟩) 0 0) [] from own_lit_of (enc := Value.string) (w.alloc (.cells #[.string nm, v1, v2, v3, .slice A4 parts.length c4] 36)) w.heap.size 9 [] (by simp) (by simp))
 go_enter Try.func111, Try.ntmps111
 go_wp2
 go_loopg [5, 6] alts.length (fun gk v5 v6 wr => ∃ (i : Nat) (acc : List ByteArray), v6 = .int .i64 i ∧ gk = alts.length - i ∧ i ≤ alts.length ∧ Zz (GInv w nm v1 v2 v3 (.slice A4 parts.length c4) wr) ∧ Zz (Strs wr w.heap.size v5 acc) ∧ Zz (acc ++ altsW (sayB parts F) i (alts.drop i) = WS))
 case atStart => exact ⟨0, [], rfl, by omega, by omega, HI, ⟨by simpa using HO.out⟩, ⟨by simpa using hWS.out⟩⟩
 case round =>
  clear HI HO hWS
  obtain ⟨i, acc, rfl, hgk, hi, HI, HO, hW⟩ := hrel
  have hl := HA.out.2.1
  by_cases hlt : i < alts.length
  ·have b1 : decide (i < alts.length) = true := decide_eq_true hlt
   have hW2 : acc ++ ((if i > 0 then [(⟨#[124]⟩ : ByteArray)] else []) ++ ((rd_L6 alts i).map (sayB parts F) ++ altsW (sayB parts F) (i + 1) (alts.drop (i + 1)))) = WS := by
    have := hW.out
    rw [List.drop_eq_getElem_cons hlt] at this
    simpa [altsW, rd_L6, List.getD_eq_getElem?_getD, List.getElem?_eq_getElem hlt] using this
   replace hW2 := Zz.mk hW2
   have hfa : Zz (∀ q ∈ rd_L6 alts i, Fine parts F q) := ⟨hf.out _ (by simp [rd_L6, List.getD_eq_getElem?_getD, List.getElem?_eq_getElem hlt])⟩
   clear hW
   have g0 := (zbc HI.out.hg 0).trans (rfl : _ = some (Value.string nm))
   have i0 : (0 : Int) ≤ (i : Int) := by omega
   have i1 : (i : Int) < (alts.length : Int) := by omega
   obtain ⟨ad6, A6, c6, hA6, hc6, hl6, HR6⟩ := at_L6 HA.out i (by omega) (by omega)
   cases hA6
   replace HR6 := Zz.mk HR6
   replace hl6 := Zz.mk hl6
   replace hc6 : w.cell? (ad6.add i) = some (.slice A6 (rd_L6 alts i).length c6) := hc6
   have hb6 := World.block_lt_of_cell? _ _ hc6
   have hcost : Zz (cost acc + 2 + cost ((rd_L6 alts i).map (sayB parts F)) ≤ 1099511627776 + (if 0 < i then 0 else 2)) := ⟨by
    have h2 := congrArg cost hW2.out
    have h4 := hc.out
    rw [cost_append, cost_append, cost_append] at h2
    by_cases h0 : 0 < i
    ·rw [if_pos h0, show cost [(⟨#[124]⟩ : ByteArray)] = 2 from rfl] at h2; rw [if_pos h0]; omega
    ·rw [if_neg h0]; omega⟩
   by_cases h0 : 0 < i
   ·have bp : decide ((0 : Int) < (i : Int)) = true := decide_eq_true (by omega)
    have hlacc : Zz ((acc.length + 1) * 16 ≤ 140737488355328) := ⟨by
     have h2 := congrArg List.length hW2.out
     have h3 := length_cost WS
     have h4 := hc.out
     rw [List.length_append, if_pos h0, List.length_append, List.length_singleton] at h2
     omega⟩
    go_upto_region 7 with ((with_reducible refine gate_builtin (b := .append) (xs := #[.tmp 16, .tmp 17]) rfl ?_); at_builtin; refine print_append_of (w0 := w) Value.string w.heap.size rfl (.tmp 16) (.tmp 17) 52 9 (.string ⟨#[]⟩) 16 rfl Try.underlying52 info9 rfl (by decide) u5 acc ⟨#[124]⟩ rfl rfl rfl HO.out HI.out.hB HI.out.hB.size hlacc.out ?_; intro v1' w1 hown hB hg hat; have HI2 := Zz.mk (HI.out.grown HO.out hB hg); have HO2 := Zz.mk (show Strs w1 w.heap.size v1' (acc ++ [⟨#[124]⟩]) from hown); clear hown hB hg hat HI HO)
    have hca := (HI2.out.hB.cell hb6).trans hc6
    have g0 := (zbc HI2.out.hg 0).trans (rfl : _ = some (Value.string nm))
    have g1 := (zbc HI2.out.hg 1).trans (rfl : _ = some v1)
    have g2 := (zbc HI2.out.hg 2).trans (rfl : _ = some v2)
    have g3 := (zbc HI2.out.hg 3).trans (rfl : _ = some v3)
    have g4 := (zbc HI2.out.hg 4).trans (rfl : _ = some (Value.slice A4 parts.length c4))
    replace HI2 := Zz.mk (HI2.out.below (below_drew (Below.refl _ _)))
    replace HO2 := Zz.mk (show Strs w1.drew w.heap.size v1' (acc ++ [⟨#[124]⟩]) from HO2.out)
    have C := Zz.mk (sayItems_walk parts F SD.out nm v1 v2 v3 A4 c4 A6 c6 (rd_L6 alts i) w1.drew (Kd.C_below H4.out HI2.out.hB) L4 (Kd.C_below HR6.out HI2.out.hB) hl6.out hfa.out (by have := hcost.out; split at this <;> omega))
    have hlap : Zz (((acc ++ [(⟨#[124]⟩ : ByteArray)]).length + (rd_L6 alts i).length) * 16 ≤ 140737488355328) := ⟨by
     have h2 := hcost.out
     have h3 := length_cost acc
     have h4 := length_cost ((rd_L6 alts i).map (sayB parts F))
     rw [List.length_map] at h4
     have h5 : (acc ++ [(⟨#[124]⟩ : ByteArray)]).length ≤ acc.length + 1 := by simp
     split at h2 <;> omega⟩
    go_region_law (first | (go_simp; go_at_call 57; refine C.out.mono ?_; rintro e w2 ⟨vv, rfl, hown, hbl⟩; have HI3 := Zz.mk (HI2.out.below hbl); have HO3 := Zz.mk (pw_own_below HO2.out hbl); clear hbl; obtain ⟨A7, c7, rfl, hc7, hr7⟩ := own_reads_of_le (d := ByteArray.empty) hown; have hr8 : ReadsOf Value.string ByteArray.empty w2 A7 (rd_L6 alts (i : Int)).length ((rd_L6 alts (i : Int)).map (sayB parts F)) := (by rwa [List.length_map] at hr7)) | (refine step_append_strs (w0 := w) w.heap.size rfl (.tmp 19) (.tmp 25) 52 9 16 rfl Try.underlying52 info9 (by decide) v1' (acc ++ [(⟨#[124]⟩ : ByteArray)]) ((rd_L6 alts i).map (sayB parts F)) A7 _ c7 rfl rfl HO3.out hr8 HI3.out.hB HI3.out.hB.size ?hl ?_; (case hl => exact hlap.out); intro v1' w1 hown hB hg; have HI4 := Zz.mk (HI3.out.grown HO3.out hB hg); have HO4 := Zz.mk (show Strs w1 w.heap.size v1' ((acc ++ [(⟨#[124]⟩ : ByteArray)]) ++ ((rd_L6 alts i).map (sayB parts F))) from hown); clear hown hB hg))
    all_goals go_wp2
    all_goals
     go_roundg (alts.length - (i + 1))
     case measure => omega
     case rel => exact ⟨i + 1, _, by go_num, rfl, by omega, HI4, HO4, ⟨by have := hW2.out; simpa [h0] using this⟩⟩
   ·have bp : decide ((0 : Int) < (i : Int)) = false := decide_eq_false (by omega)
    go_upto_region 7 with (fail)
    have HI2 := HI
    have HO2 := HO
    clear HI HO
    have hca := (HI2.out.hB.cell hb6).trans hc6
    have g0 := (zbc HI2.out.hg 0).trans (rfl : _ = some (Value.string nm))
    have g1 := (zbc HI2.out.hg 1).trans (rfl : _ = some v1)
    have g2 := (zbc HI2.out.hg 2).trans (rfl : _ = some v2)
    have g3 := (zbc HI2.out.hg 3).trans (rfl : _ = some v3)
    have g4 := (zbc HI2.out.hg 4).trans (rfl : _ = some (Value.slice A4 parts.length c4))
    replace HI2 := Zz.mk (HI2.out.below (below_drew (Below.refl _ _)))
    replace HO2 := Zz.mk (show Strs wr.drew w.heap.size u5 acc from HO2.out)
    have C := Zz.mk (sayItems_walk parts F SD.out nm v1 v2 v3 A4 c4 A6 c6 (rd_L6 alts i) wr.drew (Kd.C_below H4.out HI2.out.hB) L4 (Kd.C_below HR6.out HI2.out.hB) hl6.out hfa.out (by have := hcost.out; split at this <;> omega))
    have hlap : Zz ((acc.length + (rd_L6 alts i).length) * 16 ≤ 140737488355328) := ⟨by
     have h2 := hcost.out
     have h3 := length_cost acc
     have h4 := length_cost ((rd_L6 alts i).map (sayB parts F))
     rw [List.length_map] at h4
     have h5 : acc.length ≤ acc.length + 1 := by simp
     split at h2 <;> omega⟩
    go_region_law (first | (go_simp; go_at_call 57; refine C.out.mono ?_; rintro e w2 ⟨vv, rfl, hown, hbl⟩; have HI3 := Zz.mk (HI2.out.below hbl); have HO3 := Zz.mk (pw_own_below HO2.out hbl); clear hbl; obtain ⟨A7, c7, rfl, hc7, hr7⟩ := own_reads_of_le (d := ByteArray.empty) hown; have hr8 : ReadsOf Value.string ByteArray.empty w2 A7 (rd_L6 alts (i : Int)).length ((rd_L6 alts (i : Int)).map (sayB parts F)) := (by rwa [List.length_map] at hr7)) | (refine step_append_strs (w0 := w) w.heap.size rfl (.tmp 19) (.tmp 25) 52 9 16 rfl Try.underlying52 info9 (by decide) u5 acc ((rd_L6 alts i).map (sayB parts F)) A7 _ c7 rfl rfl HO3.out hr8 HI3.out.hB HI3.out.hB.size ?hl ?_; (case hl => exact hlap.out); intro v1' w1 hown hB hg; have HI4 := Zz.mk (HI3.out.grown HO3.out hB hg); have HO4 := Zz.mk (show Strs w1 w.heap.size v1' (acc ++ ((rd_L6 alts i).map (sayB parts F))) from hown); clear hown hB hg))
    all_goals go_wp2
    all_goals
     go_roundg (alts.length - (i + 1))
     case measure => omega
     case rel => exact ⟨i + 1, _, by go_num, rfl, by omega, HI4, HO4, ⟨by have := hW2.out; simpa [h0] using this⟩⟩
  ·have b1 : decide (i < alts.length) = false := decide_eq_false hlt
   have hW2 : acc = WS := by
    have := hW.out
    rwa [List.drop_of_length_le (by omega), altsW, List.append_nil] at this
   subst hW2
   have C := Zz.mk (words_any u5 acc w.heap.size wr HO.out hc.out)
   go_wp2_with (go_at_call 19; refine C.out.mono ?_; rintro e w2 ⟨rfl, hd⟩; obtain ⟨⟨nd, rfl⟩⟩ := hd)
   all_goals go_ret
   all_goals exact ⟨rfl, below_drewN HI.out.hB _⟩
set_option maxHeartbeats 2000000 in
set_option maxRecDepth 100000 in
theorem say_step (parts : List S119) (F : Nat) (IH : SayDo parts F) : SayDo parts (F + 1) := by
 intro p nm v1 v2 v3 A4 c4 w hf H4 L4
 have SA := Zz.mk (sayAlts_walk parts F IH)
 clear IH
 obtain ⟨q0, q1, hk, hs1⟩ := hf
 have hsay : sayB parts (F + 1) p = if (rd_T119 parts p).f0 = 1 then (rd_T119 parts p).f1 else if (rd_T119 parts p).f0 = 2 then (⟨#[39]⟩ : ByteArray) ++ (rd_T119 parts p).f1 ++ (⟨#[39]⟩ : ByteArray) else openB (rd_T119 parts p).f0 ++ jn (altsW (sayB parts F) 0 (rd_T119 parts p).f2) ++ closeB (rd_T119 parts p).f0 := rfl
 generalize sayB parts (F + 1) p = R at hsay ⊢
 obtain ⟨ad3, A5, c5, hA3, hx0, hx1, hx2, hl5, HR5⟩ := at_T119 H4 p (by omega) (by omega)
 cases hA3
 replace H4 := Zz.mk H4
 have hpl := H4.out.2.1
 replace HR5 := Zz.mk HR5
 replace hl5 := Zz.mk hl5
 generalize hpt : rd_T119 parts p = pt at hsay hk hs1 hx0 hx1 hx2 hl5 HR5
 clear hpt
 obtain ⟨k, s, al⟩ := pt
 simp only at hsay hk hs1 hx0 hx1 hx2 hl5 HR5
 replace hsay := Zz.mk hsay
 replace hs1 := Zz.mk hs1
 replace hx0 := Zz.mk hx0
 replace hx1 := Zz.mk hx1
 replace hx2 := Zz.mk hx2
 replace hk := Zz.mk hk
 have HI := Zz.mk (GInv.start w nm v1 v2 v3 (.slice (some ad3) parts.length c4))
 go_enter Try.func88, Try.ntmps88
 go_upto_region 1 with (fail)
 generalize (w.alloc (.cells #[.string nm, v1, v2, v3, .slice (some ad3) parts.length c4] 36)) = wr at HI ⊢
 have g0 := (zbc HI.out.hg 0).trans (rfl : _ = some (Value.string nm))
 have g1 := (zbc HI.out.hg 1).trans (rfl : _ = some v1)
 have g2 := (zbc HI.out.hg 2).trans (rfl : _ = some v2)
 have g3 := (zbc HI.out.hg 3).trans (rfl : _ = some v3)
 have g4 := (zbc HI.out.hg 4).trans (rfl : _ = some (Value.slice (some ad3) parts.length c4))
 have z0 := (HI.out.hB.cell (World.block_lt_of_cell? _ _ hx0.out)).trans hx0.out
 have z1 := (HI.out.hB.cell (World.block_lt_of_cell? _ _ hx1.out)).trans hx1.out
 have z2 := (HI.out.hB.cell (World.block_lt_of_cell? _ _ hx2.out)).trans hx2.out
 go_upto_region 2 with (fail)
 have HI2 := Zz.mk (HI.out.below (below_self_alloc wr (.cells #[.int .i64 k, .string s, .slice A5 al.length c5] 119)))
 have p0 : (wr.alloc (.cells #[.int .i64 k, .string s, .slice A5 al.length c5] 119)).cell? ⟨wr.heap.size, 0, none⟩ = some (.int .i64 k) := by simp
 have p1 : (wr.alloc (.cells #[.int .i64 k, .string s, .slice A5 al.length c5] 119)).cell? ⟨wr.heap.size, 1, none⟩ = some (.string s) := by simp
 have p2 : (wr.alloc (.cells #[.int .i64 k, .string s, .slice A5 al.length c5] 119)).cell? ⟨wr.heap.size, 2, none⟩ = some (.slice A5 al.length c5) := by simp
 clear g0 g1 g2 g3 g4 z0 z1 z2 HI
 generalize (wr.alloc (.cells #[.int .i64 k, .string s, .slice A5 al.length c5] 119)) = wq at HI2 p0 p1 p2 ⊢
 generalize wr.heap.size = b5 at p0 p1 p2 ⊢
 have g0 := (zbc HI2.out.hg 0).trans (rfl : _ = some (Value.string nm))
 have g1 := (zbc HI2.out.hg 1).trans (rfl : _ = some v1)
 have g2 := (zbc HI2.out.hg 2).trans (rfl : _ = some v2)
 have g3 := (zbc HI2.out.hg 3).trans (rfl : _ = some v3)
 have g4 := (zbc HI2.out.hg 4).trans (rfl : _ = some (Value.slice (some ad3) parts.length c4))
 rcases hk.out with rfl | rfl | ⟨hk3, hfa, hco⟩
 ·have hR : Zz (s = R) := ⟨by rw [hsay.out]; simp⟩
  clear hsay
  go_wp2
  go_ret
  exact ⟨congrArg (fun x => Ending.returned (.string x)) hR.out, HI2.out.hB⟩
 ·have hR : Zz ((⟨#[39]⟩ : ByteArray) ++ s ++ (⟨#[39]⟩ : ByteArray) = R) := ⟨by rw [hsay.out]; simp⟩
  have hb1 : ¬ 9223372036854775807 < 1 + s.size := by have := hs1.out; omega
  have hb2 : ¬ 9223372036854775807 < 1 + s.size + 1 := by have := hs1.out; omega
  clear hsay
  go_wp2
  go_ret
  exact ⟨congrArg (fun x => Ending.returned (.string x)) hR.out, HI2.out.hB⟩
 ·have C := Zz.mk (SA.out nm v1 v2 v3 (some ad3) c4 A5 c5 al wq (Kd.C_below H4.out HI2.out.hB) L4 (Kd.C_below HR5.out HI2.out.hB) hl5.out hfa hco)
  have hjs := jn_size (altsW (sayB parts F) 0 al)
  replace hfa := Zz.mk hfa
  generalize jn (altsW (sayB parts F) 0 al) = J at C hjs hsay
  have hjs2 : J.size ≤ 1099511627776 := by omega
  replace hjs := Zz.mk hjs
  replace hco := Zz.mk hco
  rcases hk3 with rfl | rfl | rfl
  ·have hR : Zz ((⟨#[40]⟩ : ByteArray) ++ J ++ (⟨#[41]⟩ : ByteArray) = R) := ⟨by rw [hsay.out]; simp [openB, closeB]⟩
   clear hsay
   have hb1 : ¬ 9223372036854775807 < 1 + J.size := by have := hs1.out; omega
   have hb2 : ¬ 9223372036854775807 < 1 + J.size + 1 := by have := hs1.out; omega
   go_wp2_with (go_at_call 111; refine C.out.mono ?_; rintro e w2 ⟨rfl, hbl⟩; have HI3 := Zz.mk (below_chain HI2.out.hB HI2.out.hB.size hbl); clear hbl)
   go_ret
   exact ⟨congrArg (fun x => Ending.returned (.string x)) hR.out, HI3.out⟩
  ·have hR : Zz ((⟨#[91]⟩ : ByteArray) ++ J ++ (⟨#[93]⟩ : ByteArray) = R) := ⟨by rw [hsay.out]; simp [openB, closeB]⟩
   clear hsay
   have hb1 : ¬ 9223372036854775807 < 1 + J.size := by have := hs1.out; omega
   have hb2 : ¬ 9223372036854775807 < 1 + J.size + 1 := by have := hs1.out; omega
   go_wp2_with (go_at_call 111; refine C.out.mono ?_; rintro e w2 ⟨rfl, hbl⟩; have HI3 := Zz.mk (below_chain HI2.out.hB HI2.out.hB.size hbl); clear hbl)
   go_ret
   exact ⟨congrArg (fun x => Ending.returned (.string x)) hR.out, HI3.out⟩
  ·have hR : Zz ((⟨#[123]⟩ : ByteArray) ++ J ++ (⟨#[125]⟩ : ByteArray) = R) := ⟨by rw [hsay.out]; simp [openB, closeB]⟩
   clear hsay
   have hb1 : ¬ 9223372036854775807 < 1 + J.size := by have := hs1.out; omega
   have hb2 : ¬ 9223372036854775807 < 1 + J.size + 1 := by have := hs1.out; omega
   go_wp2_with (go_at_call 111; refine C.out.mono ?_; rintro e w2 ⟨rfl, hbl⟩; have HI3 := Zz.mk (below_chain HI2.out.hB HI2.out.hB.size hbl); clear hbl)
   go_ret
   exact ⟨congrArg (fun x => Ending.returned (.string x)) hR.out, HI3.out⟩
theorem say_walk (parts : List S119) : ∀ F, SayDo parts F
 | 0 => fun p _ _ _ _ _ _ _ h => h.elim
 | F + 1 => say_step parts F (say_walk parts F)
theorem u124 : Try.prog.underlying 124 = some (.map 3 9) := by kernel_rfl
theorem u3 : Try.prog.underlying 3 = some (.int .i64) := by kernel_rfl
theorem checkKey_int (e : Bool) (n : Nat) (k : Int) (w : World) : (Instr.checkKey e (n + 1) 3 (.int .i64 k)).run Try.prog w = .ok () w := by
 unfold Instr.checkKey
 simp [run_underlying u3]
theorem checkKey_10000 (e : Bool) (k : Int) (w : World) : (Instr.checkKey e 10000 3 (.int .i64 k)).run Try.prog w = .ok () w := checkKey_int e 9999 k w
theorem findKey_of {w : World} {k : Int} {es : List MapEntry} {r : Option (Nat × Value)} (h : Instr.findNow (.int .i64) (.int .i64 k) es 0 = some r) : (Instr.findKey 3 (.int .i64 k) es).run Try.prog w = .ok r w := by
 unfold Instr.findKey
 simp [run_underlying u3, h]
theorem ins_of (w : World) (b : Nat) (es : Array MapEntry) (clock : Nat) (k : Int) (v : Value) (h : w.heap[b]? = some (.map es clock)) (hf : Instr.findNow (.int .i64) (.int .i64 k) es.toList 0 = some none) :
  (Instr.mapUpdate 124 (.map (some b)) (.int .i64 k) v).run Try.prog w = .ok () { w with heap := w.heap.setIfInBounds b (.map (es.push ⟨.int .i64 k, v, clock⟩) (clock + 1)) } := by
 simp [Instr.mapUpdate, run_underlying u124, MapKept.run_getObj_map h, checkKey_10000, findKey_of hf, MapKept.run_setObj_map _ h, Result.andThen]
theorem look_of (w : World) (b : Nat) (es : Array MapEntry) (clock : Nat) (k : Int) (i : Nat) (v : Value) (h : w.heap[b]? = some (.map es clock)) (hf : Instr.findNow (.int .i64) (.int .i64 k) es.toList 0 = some (some (i, v))) :
  (Instr.lookup 124 (.map (some b)) (.int .i64 k) false).run Try.prog w = .ok v w := by
 simp [Instr.lookup, run_underlying u124, MapKept.run_getObj_map h, checkKey_10000, findKey_of hf, Result.andThen]
def esB (n : Nat) : Array MapEntry := (([⟨.int .i64 3, .string ⟨#[40, 41]⟩, 0⟩, ⟨.int .i64 4, .string ⟨#[91, 93]⟩, 1⟩, ⟨.int .i64 5, .string ⟨#[123, 125]⟩, 2⟩] : List MapEntry).take n).toArray
def mapW (w : World) (n : Nat) : World := w.alloc (.map (esB n) n)
theorem heap_mapW (w : World) (n : Nat) : (mapW w n).heap[w.heap.size]? = some (.map (esB n) n) := heap_alloc_new w _
theorem set_mapW (w : World) (n m : Nat) : ({ (mapW w n) with heap := (mapW w n).heap.setIfInBounds w.heap.size (.map (esB m) m) } : World) = mapW w m := by
 simp only [mapW, World.alloc]
 congr 1
 rw [Array.setIfInBounds_def]
 simp [Array.set_push]
theorem mapW_make (w : World) : (Instr.makeMap 124 none).run Try.prog w = .ok (.map (some w.heap.size)) (mapW w 0) := rfl
theorem mapW_ins (w : World) (n : Nat) (k : Int) (v : Value) (hf : Instr.findNow (.int .i64) (.int .i64 k) (esB n).toList 0 = some none) (he : (esB n).push ⟨.int .i64 k, v, n⟩ = esB (n + 1)) :
  (Instr.mapUpdate 124 (.map (some w.heap.size)) (.int .i64 k) v).run Try.prog (mapW w n) = .ok () (mapW w (n + 1)) := by
 rw [ins_of (mapW w n) w.heap.size (esB n) n k v (heap_mapW w n) hf, he, set_mapW]
theorem mapW_ins0 (w : World) : (Instr.mapUpdate 124 (.map (some w.heap.size)) (.int .i64 3) (.string ⟨#[40, 41]⟩)).run Try.prog (mapW w 0) = .ok () (mapW w 1) := mapW_ins w 0 _ _ rfl rfl
theorem mapW_ins1 (w : World) : (Instr.mapUpdate 124 (.map (some w.heap.size)) (.int .i64 4) (.string ⟨#[91, 93]⟩)).run Try.prog (mapW w 1) = .ok () (mapW w 2) := mapW_ins w 1 _ _ rfl rfl
theorem mapW_ins2 (w : World) : (Instr.mapUpdate 124 (.map (some w.heap.size)) (.int .i64 5) (.string ⟨#[123, 125]⟩)).run Try.prog (mapW w 2) = .ok () (mapW w 3) := mapW_ins w 2 _ _ rfl rfl
theorem mapW_look (w : World) (k : Int) (v : ByteArray) (hk : (k = 3 ∧ v = ⟨#[40, 41]⟩) ∨ (k = 4 ∧ v = ⟨#[91, 93]⟩) ∨ (k = 5 ∧ v = ⟨#[123, 125]⟩)) : (Instr.lookup 124 (.map (some w.heap.size)) (.int .i64 k) false).run Try.prog (mapW w 3) = .ok (.string v) (mapW w 3) := by
 rcases hk with ⟨rfl, rfl⟩ | ⟨rfl, rfl⟩ | ⟨rfl, rfl⟩
 ·exact look_of _ _ (esB 3) 3 3 0 _ (heap_mapW w 3) rfl
 ·exact look_of _ _ (esB 3) 3 4 1 _ (heap_mapW w 3) rfl
 ·exact look_of _ _ (esB 3) 3 5 2 _ (heap_mapW w 3) rfl
def labW (s : ByteArray) : List ByteArray := if s.toList = [] then [] else [(⟨#[35]⟩ : ByteArray), s]
def altsR (say : Int → ByteArray) : Nat → List S75 → List ByteArray
 | _, [] => []
 | i, a :: r => (if i > 0 then [(⟨#[124]⟩ : ByteArray)] else []) ++ (a.f0.map say ++ (labW a.f1 ++ altsR say (i + 1) r))
def ruleW (say : Int → ByteArray) (name : ByteArray) (alts : List S75) : List ByteArray := [name, ⟨#[61]⟩] ++ altsR say 0 alts
theorem lit2_reads (W : World) (a b : ByteArray) : ReadsOf Value.string ByteArray.empty (W.alloc (.cells #[.string a, .string b] 9)) (some ⟨W.heap.size, 0, none⟩) 2 [a, b] := by
 have h := own_lit_of (enc := Value.string) W 0 9 [a, b] (by omega) (by simp)
 obtain ⟨A, c, h1, _, h3⟩ := own_reads_of_le (d := ByteArray.empty) h
 cases h1
 exact h3
theorem lit2_own (W : World) (base : Nat) (hb : base ≤ W.heap.size) (a b : ByteArray) : Strs (W.alloc (.cells #[.string a, .string b] 9)) base (.slice (some ⟨W.heap.size, 0, none⟩) 2 2) [a, b] :=
 own_lit_of (enc := Value.string) W base 9 [a, b] hb (by simp)
structure RInv (w : World) (nm : ByteArray) (v1 v2 v3 v4 : Value) (name : ByteArray) (vA : Value) (wr : World) : Prop where
 hG : GInv w nm v1 v2 v3 v4 wr
 hr : wr.heap[w.heap.size + 1]? = some (.cells #[.string name, vA] 59 (0, 0))
theorem RInv.below {w : World} {nm : ByteArray} {v1 v2 v3 v4 : Value} {name : ByteArray} {vA : Value} {wr w2 : World} (h : RInv w nm v1 v2 v3 v4 name vA wr) (k : Below wr.heap.size wr w2) : RInv w nm v1 v2 v3 v4 name vA w2 := ⟨h.hG.below k, blk_below h.hr k⟩
theorem RInv.grown {w : World} {nm : ByteArray} {v1 v2 v3 v4 : Value} {name : ByteArray} {vA : Value} {W w1 : World} {v : Value} {base : Nat} {n : Nat} {xs : List Value} (h : RInv w nm v1 v2 v3 v4 name vA W) (HO : W.ownsRow base 9 1 v n xs) (hB : Below w.heap.size w w1) (hg : W.grownBy w1 v.ownBlock) : RInv w nm v1 v2 v3 v4 name vA w1 :=
 ⟨h.hG.grown HO hB hg, blk_grown h.hr hg (own_ne HO h.hr (by decide))⟩
set_option maxHeartbeats 2000000 in
set_option maxRecDepth 100000 in
theorem sayRule_walk (parts : List S119) (F : Nat) (nm : ByteArray) (v1 v2 v3 : Value) (A4 : Option Addr) (c4 : Nat) (name : ByteArray) (A : Option Addr) (c : Nat) (alts : List S75) (w : World)
  (H4 : Kd.C k119 w A4 parts.length parts) (L4 : parts.length ≤ c4) (HA : Kd.C k75 w A alts.length alts) (LA : alts.length ≤ c) (hf : ∀ a ∈ alts, ∀ q ∈ a.f0, Fine parts F q) (hc : cost (ruleW (sayB parts F) name alts) ≤ 1099511627776) :
  Calls Try.prog 20 #[.agg #[.string nm, v1, v2, v3, .slice A4 parts.length c4], .agg #[.string name, .slice A alts.length c]] w fun e w' => e = .returned (.string (jn (ruleW (sayB parts F) name alts) ++ ⟨#[59, 10]⟩)) ∧ Below w.heap.size w w' := by
 replace H4 := Zz.mk H4
 replace HA := Zz.mk HA
 replace hf := Zz.mk hf
 generalize hWS : ruleW (sayB parts F) name alts = WS at hc ⊢
 replace hWS := Zz.mk hWS
 replace hc := Zz.mk hc
 have HI := Zz.mk (show RInv w nm v1 v2 v3 (.slice A4 parts.length c4) name (.slice A alts.length c) ((w.alloc (.cells #[.string nm, v1, v2, v3, .slice A4 parts.length c4] 36)).alloc (.cells #[.string name, .slice A alts.length c] 59)) from ⟨(GInv.start w nm v1 v2 v3 (.slice A4 parts.length c4)).below (below_self_alloc _ _), by have := blk_new (w.alloc (.cells #[.string nm, v1, v2, v3, .slice A4 parts.length c4] 36)) (.cells #[.string name, .slice A alts.length c] 59); simpa using this⟩)
 go_enter Try.func20, Try.ntmps20
 go_upto_region 1 with (fail)
 generalize ((w.alloc (.cells #[.string nm, v1, v2, v3, .slice A4 parts.length c4] 36)).alloc (.cells #[.string name, .slice A alts.length c] 59)) = wr at HI ⊢
 have r0 := (zbc HI.out.hr 0).trans (rfl : _ = some (Value.string name))
 have HI2 := Zz.mk (HI.out.below (below_self_alloc wr (.cells #[.string name, .string ⟨#[61]⟩] 9)))
 have HO := Zz.mk (lit2_own wr w.heap.size HI.out.hG.hB.size name ⟨#[61]⟩)
 go_upto_block 0 with (fail)
 clear HI r0
 generalize (wr.alloc (.cells #[.string name, .string ⟨#[61]⟩] 9)) = wq at HI2 HO ⊢
 generalize wr.heap.size = b5 at HO ⊢
 go_wp2
 go_loopg [5, 6] alts.length (fun gk v5 v6 wr => ∃ (i : Nat) (acc : List ByteArray), v6 = .int .i64 i ∧ gk = alts.length - i ∧ i ≤ alts.length ∧ Zz (RInv w nm v1 v2 v3 (.slice A4 parts.length c4) name (.slice A alts.length c) wr) ∧ Zz (Strs wr w.heap.size v5 acc) ∧ Zz (acc ++ altsR (sayB parts F) i (alts.drop i) = WS))
 case atStart => exact ⟨0, [name, ⟨#[61]⟩], rfl, by omega, by omega, HI2, HO, ⟨by simpa [ruleW] using hWS.out⟩⟩
 case round =>
  clear HI2 HO hWS
  obtain ⟨i, acc, rfl, hgk, hi, HI, HO, hW⟩ := hrel
  have hl := HA.out.2.1
  have r1 := (zbc HI.out.hr 1).trans (rfl : _ = some (Value.slice A alts.length c))
  by_cases hlt : i < alts.length
  ·have b1 : decide (i < alts.length) = true := decide_eq_true hlt
   have hel : rd_T75 alts i = alts[i] := by simp [rd_T75, List.getD_eq_getElem?_getD, List.getElem?_eq_getElem hlt]
   have hW2 : acc ++ ((if i > 0 then [(⟨#[124]⟩ : ByteArray)] else []) ++ ((rd_T75 alts i).f0.map (sayB parts F) ++ (labW (rd_T75 alts i).f1 ++ altsR (sayB parts F) (i + 1) (alts.drop (i + 1))))) = WS := by
    have := hW.out
    rw [List.drop_eq_getElem_cons hlt] at this
    rw [hel]
    exact this
   replace hW2 := Zz.mk hW2
   have hfa : Zz (∀ q ∈ (rd_T75 alts i).f0, Fine parts F q) := ⟨by rw [hel]; exact hf.out _ (List.getElem_mem hlt)⟩
   clear hW hel
   have i0 : (0 : Int) ≤ (i : Int) := by omega
   have i1 : (i : Int) < (alts.length : Int) := by omega
   obtain ⟨ad6, A6, c6, hA6, hc6, hc7, hl6, HR6⟩ := at_T75 HA.out i (by omega) (by omega)
   cases hA6
   replace HR6 := Zz.mk HR6
   replace hl6 := Zz.mk hl6
   replace hc6 : w.cell? (ad6.add (i * 2)) = some (.slice A6 (rd_T75 alts i).f0.length c6) := hc6
   replace hc7 : w.cell? ⟨(ad6.add (i * 2)).block, (ad6.add (i * 2)).off + 1, none⟩ = some (.string (rd_T75 alts i).f1) := hc7
   replace hc6 := Zz.mk hc6
   replace hc7 := Zz.mk hc7
   go_upto_if 18 with (fail)
   go_cut [5] (fun v5 wc => ∃ acc2 : List ByteArray, Zz (RInv w nm v1 v2 v3 (.slice A4 parts.length c4) name (.slice (some ad6) alts.length c) wc) ∧ Zz (Strs wc w.heap.size v5 acc2) ∧ Zz (acc2 ++ ((rd_T75 alts i).f0.map (sayB parts F) ++ (labW (rd_T75 alts i).f1 ++ altsR (sayB parts F) (i + 1) (alts.drop (i + 1)))) = WS))
   case first =>
    by_cases h0 : 0 < i
    ·have bp : decide ((0 : Int) < (i : Int)) = true := decide_eq_true (by omega)
     have hlacc : Zz ((acc.length + 1) * 16 ≤ 140737488355328) := ⟨by
      have h2 := congrArg List.length hW2.out
      have h3 := length_cost WS
      have h4 := hc.out
      rw [List.length_append, if_pos h0, List.length_append, List.length_singleton] at h2
      omega⟩
     go_wp2_with ((with_reducible refine gate_builtin (b := .append) (xs := #[.tmp 19, .tmp 20]) rfl ?_); at_builtin; refine print_append_of (w0 := w) Value.string w.heap.size rfl (.tmp 19) (.tmp 20) 52 9 (.string ⟨#[]⟩) 16 rfl Try.underlying52 info9 rfl (by decide) u5 acc ⟨#[124]⟩ rfl rfl rfl HO.out HI.out.hG.hB HI.out.hG.hB.size hlacc.out ?_; intro v1' w1 hown hB hg hat; have HI2 := Zz.mk (HI.out.grown HO.out hB hg); have HO2 := Zz.mk (show Strs w1 w.heap.size v1' (acc ++ [⟨#[124]⟩]) from hown); clear hown hB hg hat HI HO)
     go_meet
     case rel => exact ⟨_, HI2, HO2, ⟨by have := hW2.out; simpa [h0] using this⟩⟩
    ·have bp : decide ((0 : Int) < (i : Int)) = false := decide_eq_false (by omega)
     go_wp2
     go_meet
     case rel => exact ⟨_, HI, HO, ⟨by have := hW2.out; simpa [h0] using this⟩⟩
   case rest =>
    clear HI HO hW2 r1
    obtain ⟨acc2, HI2, HO2, hW3⟩ := hcut
    go_upto_region 7 with (fail)
    have hca := (HI2.out.hG.hB.cell (World.block_lt_of_cell? _ _ hc6.out)).trans hc6.out
    have hcb := (HI2.out.hG.hB.cell (World.block_lt_of_cell? _ _ hc7.out)).trans hc7.out
    have g0 := (zbc HI2.out.hG.hg 0).trans (rfl : _ = some (Value.string nm))
    have g1 := (zbc HI2.out.hG.hg 1).trans (rfl : _ = some v1)
    have g2 := (zbc HI2.out.hG.hg 2).trans (rfl : _ = some v2)
    have g3 := (zbc HI2.out.hG.hg 3).trans (rfl : _ = some v3)
    have g4 := (zbc HI2.out.hG.hg 4).trans (rfl : _ = some (Value.slice A4 parts.length c4))
    have r1 := (zbc HI2.out.hr 1).trans (rfl : _ = some (Value.slice (some ad6) alts.length c))
    have hcost : Zz (cost acc2 + cost ((rd_T75 alts i).f0.map (sayB parts F)) + cost (labW (rd_T75 alts i).f1) ≤ 1099511627776) := ⟨by
     have h2 := congrArg cost hW3.out
     have h4 := hc.out
     rw [cost_append, cost_append, cost_append] at h2
     omega⟩
    replace HI2 := Zz.mk (HI2.out.below (below_drew (Below.refl _ _)))
    replace HO2 := Zz.mk (show Strs wc.drew w.heap.size u5 acc2 from HO2.out)
    have C := Zz.mk (sayItems_walk parts F (say_walk parts F) nm v1 v2 v3 A4 c4 A6 c6 (rd_T75 alts i).f0 wc.drew (Kd.C_below H4.out HI2.out.hG.hB) L4 (Kd.C_below HR6.out HI2.out.hG.hB) hl6.out hfa.out (by have := hcost.out; omega))
    have hlap : Zz ((acc2.length + (rd_T75 alts i).f0.length) * 16 ≤ 140737488355328) := ⟨by
     have h2 := hcost.out
     have h3 := length_cost acc2
     have h4 := length_cost ((rd_T75 alts i).f0.map (sayB parts F))
     rw [List.length_map] at h4
     omega⟩
    go_region_law (first | (go_simp; go_at_call 57; refine C.out.mono ?_; rintro e w2 ⟨vv, rfl, hown, hbl⟩; have HI3 := Zz.mk (HI2.out.below hbl); have HO3 := Zz.mk (pw_own_below HO2.out hbl); clear hbl; obtain ⟨A7, c7, rfl, hlc7, hr7⟩ := own_reads_of_le (d := ByteArray.empty) hown; have hr8 : ReadsOf Value.string ByteArray.empty w2 A7 (rd_T75 alts (i : Int)).f0.length ((rd_T75 alts (i : Int)).f0.map (sayB parts F)) := (by rwa [List.length_map] at hr7)) | (refine step_append_strs (w0 := w) w.heap.size rfl (.tmp 22) (.tmp 30) 52 9 16 rfl Try.underlying52 info9 (by decide) u5 acc2 ((rd_T75 alts i).f0.map (sayB parts F)) A7 _ c7 rfl rfl HO3.out hr8 HI3.out.hG.hB HI3.out.hG.hB.size ?hl ?_; (case hl => exact hlap.out); intro v5' w5 hown5 hB hg; have HI4 := Zz.mk (HI3.out.grown HO3.out hB hg); have HO4 := Zz.mk (show Strs w5 w.heap.size v5' (acc2 ++ ((rd_T75 alts i).f0.map (sayB parts F))) from hown5); clear hown5 hB hg))
    all_goals
     clear r1 hca hcb g0 g1 g2 g3 g4
     have r1 := (zbc HI4.out.hr 1).trans (rfl : _ = some (Value.slice (some ad6) alts.length c))
     have hcb := (HI4.out.hG.hB.cell (World.block_lt_of_cell? _ _ hc7.out)).trans hc7.out
     by_cases hlab : (rd_T75 alts i).f1.toList = []
     ·have t1 : ((rd_T75 alts i).f1.toList == []) = true := by rw [hlab]; rfl
      have t2 : (rd_T75 alts i).f1.toList.isEmpty = true := by rw [hlab]; rfl
      have hW4 : Zz ((acc2 ++ ((rd_T75 alts i).f0.map (sayB parts F))) ++ altsR (sayB parts F) (i + 1) (alts.drop (i + 1)) = WS) := ⟨by have := hW3.out; rw [labW, if_pos hlab] at this; simpa using this⟩
      go_wp2
      go_roundg (alts.length - (i + 1))
      case measure => omega
      case rel => exact ⟨i + 1, _, by go_num, rfl, by omega, HI4, HO4, hW4⟩
     ·have t1 : ((rd_T75 alts i).f1.toList == []) = false := by simpa using hlab
      have t2 : (rd_T75 alts i).f1.toList.isEmpty = false := by simpa using hlab
      have hW4 : Zz (((acc2 ++ ((rd_T75 alts i).f0.map (sayB parts F))) ++ [(⟨#[35]⟩ : ByteArray), (rd_T75 alts i).f1]) ++ altsR (sayB parts F) (i + 1) (alts.drop (i + 1)) = WS) := ⟨by have := hW3.out; rw [labW, if_neg hlab] at this; simpa using this⟩
      have HI5 := Zz.mk (HI4.out.below (below_self_alloc w5 (.cells #[.string ⟨#[35]⟩, .string (rd_T75 alts i).f1] 9)))
      have HO5 := Zz.mk (show Strs (w5.alloc (.cells #[.string ⟨#[35]⟩, .string (rd_T75 alts i).f1] 9)) w.heap.size v5' (acc2 ++ ((rd_T75 alts i).f0.map (sayB parts F))) from HO4.out.alloc _)
      have HL := Zz.mk (lit2_reads w5 ⟨#[35]⟩ (rd_T75 alts i).f1)
      have hla2 : Zz (((acc2 ++ ((rd_T75 alts i).f0.map (sayB parts F))).length + 2) * 16 ≤ 140737488355328) := ⟨by have := hlap.out; rw [List.length_append, List.length_map]; have h2 := hcost.out; have h3 := length_cost acc2; have h4 := length_cost ((rd_T75 alts i).f0.map (sayB parts F)); rw [List.length_map] at h4; omega⟩
      replace hlab := Zz.mk hlab
      go_wp2_with ((with_reducible refine gate_builtin (b := .append) (xs := #[.tmp 39, .tmp 46]) rfl ?_); at_builtin; refine print_append_row_of (w0 := w) Value.string ByteArray.empty w.heap.size rfl (.tmp 39) (.tmp 46) 52 9 (.string ⟨#[]⟩) 16 rfl Try.underlying52 info9 rfl (by decide) (fun _ => rfl) v5' (acc2 ++ ((rd_T75 alts i).f0.map (sayB parts F))) [⟨#[35]⟩, (rd_T75 alts i).f1] (some ⟨w5.heap.size, 0, none⟩) 2 2 rfl rfl HO5.out HL.out HI5.out.hG.hB HI5.out.hG.hB.size hla2.out ?_; intro v6' w6 hown hB hg hat; have HI6 := Zz.mk (HI5.out.grown HO5.out hB hg); have HO6 := Zz.mk (show Strs w6 w.heap.size v6' ((acc2 ++ ((rd_T75 alts i).f0.map (sayB parts F))) ++ [⟨#[35]⟩, (rd_T75 alts i).f1]) from hown); clear hown hB hg hat HI4 HO4 HI5 HO5)
      go_roundg (alts.length - (i + 1))
      case measure => omega
      case rel => exact ⟨i + 1, _, by go_num, rfl, by omega, HI6, HO6, hW4⟩
  ·have b1 : decide (i < alts.length) = false := decide_eq_false hlt
   have hW2 : acc = WS := by
    have := hW.out
    rwa [List.drop_of_length_le (by omega), altsR, List.append_nil] at this
   subst hW2
   have C := Zz.mk (words_any u5 acc w.heap.size wr HO.out hc.out)
   have hb1 : ¬ 9223372036854775807 < (jn acc).size + 2 := by have := jn_size acc; have := hc.out; omega
   go_wp2_with (go_at_call 19; refine C.out.mono ?_; rintro e w2 ⟨rfl, hd⟩; obtain ⟨⟨nd, rfl⟩⟩ := hd)
   all_goals go_ret
   all_goals exact ⟨rfl, below_drewN HI.out.hG.hB _⟩
end Go.Proofs.Ythcmamcbnjphgaa.PFnExactGrammarShow
namespace Go.Proofs.Ythcmamcbnjphgaa.MBld
open Go.RowKit
theorem infoByte : (Try.prog.info? 5).map (fun i => (i.zero, i.size, i.bytes)) = some (some (.int .u8 0), 1, 1) := by kernel_rfl
theorem sizeBuilder : (Try.prog.info? 66).map (·.size) = some 2 := by kernel_rfl
theorem liesBuilder : liesAt Try.prog Try.prog.depth 66 (2 / Try.prog.cellsOf 66) 0 66 1 = true := by kernel_rfl
set_option maxHeartbeats 1000000 in
set_option maxRecDepth 100000 in
theorem copyCheck_used (b : Nat) (w : World) (h0 : w.cell? ⟨b, 0, none⟩ = some (.pointer (some ⟨b, 0, none⟩))) :
  Calls Try.prog 66 #[.pointer (some ⟨b, 0, none⟩)] w fun e w' => e = .returned (.tuple #[]) ∧ w' = w := by
 obtain ⟨j, hj, _⟩ := Option.map_eq_some_iff.1 sizeBuilder
 go_enter Try.func66, Try.ntmps66
 go_wp2
 rw [Lib.run_neq_ptr_same w _ Try.underlying64 hj]
 go_wp2
 go_end0
 exact ⟨rfl, rfl⟩
set_option maxHeartbeats 1000000 in
set_option maxRecDepth 100000 in
theorem copyCheck_fresh (b : Nat) (w : World) (h0 : w.cell? ⟨b, 0, none⟩ = some (.pointer none)) (hsh : w.shape? b = some (66, 2)) (hfz : w.frozen? ⟨b, 0, none⟩ = false) :
  Calls Try.prog 66 #[.pointer (some ⟨b, 0, none⟩)] w fun e w' => e = .returned (.tuple #[]) ∧ w' = w.setCell ⟨b, 0, none⟩ (.pointer (some ⟨b, 0, none⟩)) := by
 obtain ⟨j, hj, hjs⟩ := Option.map_eq_some_iff.1 sizeBuilder
 go_enter Try.func66, Try.ntmps66
 go_wp2
 rw [Lib.run_to_unsafe w ⟨b, 0, none⟩ Try.underlying64 Try.underlying148 hj (by rw [hjs]; decide) hsh (Nat.zero_lt_succ 1)]
 simp only [Result.andThen]
 rw [Oper.upon_value]
 go_wp2
 rw [run_callFunc_extern Try.func93 (by kernel_rfl) (by kernel_rfl) (by kernel_rfl) (e := Extern.AbiNoEscape.same) (by kernel_rfl)]
 rw [Lib.run_noEscape]
 simp only [Result.andThen]
 rw [Oper.upon_value]
 go_wp2
 rw [Lib.run_from_unsafe w ⟨b, 0, none⟩ Try.underlying148 Try.underlying64 hj hsh liesBuilder]
 simp only [Result.andThen]
 rw [Oper.upon_value]
 go_wp2
 go_end0
 exact ⟨rfl, rfl⟩
theorem copyCheck_k (B b : Nat) (bs : List Value) (w : World) (h : Lib.IsBuilderF 66 5 B b bs w) :
  Calls Try.prog 66 #[.pointer (some ⟨b, 0, none⟩)] w fun e w' => e = .returned (.tuple #[]) ∧ (Lib.BuilderAtF 66 5 B b (.pointer (some ⟨b, 0, none⟩)) bs w' ∧ Below B w w' ∧ Lib.OthersKept 5 (some b) w w') := by
 rcases h with h | h
 ·refine (copyCheck_fresh b w h.cell0 h.shape h.frozen0).mono ?_
  rintro e w' ⟨rfl, rfl⟩
  exact ⟨rfl, h.used _, (Below.refl B w).setCell (p := ⟨b, 0, none⟩) h.1 _, (Lib.OthersKept.refl _ _ _).setCell (p := ⟨b, 0, none⟩) rfl _⟩
 ·refine (copyCheck_used b w h.cell0).mono ?_
  rintro e w' ⟨rfl, rfl⟩
  exact ⟨rfl, h, Below.refl B _, Lib.OthersKept.refl _ _ _⟩
set_option maxHeartbeats 2000000 in
set_option maxRecDepth 100000 in
theorem WriteString_k (B b : Nat) (bs : List Value) (s : ByteArray) (w : World) (h : Lib.IsBuilderF 66 5 B b bs w) (hlen : bs.length + s.size ≤ 140737488355328) (hBw : B ≤ w.heap.size) :
  Calls Try.prog 27 #[.pointer (some ⟨b, 0, none⟩), .string s] w fun e w' => e = .returned (.tuple #[.int .i64 s.size, .nilIface]) ∧ (Lib.BuilderAtF 66 5 B b (.pointer (some ⟨b, 0, none⟩)) (bs ++ Lib.strCells s) w' ∧ Below B w w' ∧ Lib.OthersKept 5 (some b) w w') := by
 obtain ⟨i0, hi, hz0, hz1, hz2⟩ := info_parts infoByte
 go_enter Try.func27, Try.ntmps27
 go_wp2_with (go_at_call 66; refine (copyCheck_k B b bs _ h).mono ?_)
 rintro e w1 ⟨rfl, h1, hb1, hk1⟩
 obtain ⟨hB, v, hbk, hown, hne⟩ := h1
 have c0 : w1.cell? ⟨b, 0, none⟩ = some (.pointer (some ⟨b, 0, none⟩)) := by rw [Lib.cell_of_heap hbk]; rfl
 have c1 : w1.cell? ⟨b, 1, none⟩ = some v := by rw [Lib.cell_of_heap hbk]; rfl
 go_wp2_with (at_builtin; refine Lib.wpList_append_own_stringF _ rfl _ _ 40 9 rfl B 5 i0 Try.underlying40 Try.underlying9 hi hz0 hz1 hz2 _ _ _ rfl hown s rfl ?c3 ?c4 ?c5 ?_)
 case c3 => unfold maxLen; omega
 case c4 => omega
 case c5 => have := hb1.size; omega
 intro v' w2 hown' hgrow _
 have hlt : b < w1.heap.size := by
  rcases Nat.lt_or_ge b w1.heap.size with h' | h'
  ·exact h'
  ·simp [Array.getElem?_eq_none h'] at hbk
 have hb2 : w2.heap[b]? = some (.cells #[.pointer (some ⟨b, 0, none⟩), v] 66 (0, 0)) := by
  rw [hgrow.block b hlt (fun e => hne e.symm)]
  exact hbk
 have d0 : w2.cell? ⟨b, 0, none⟩ = some (.pointer (some ⟨b, 0, none⟩)) := by rw [Lib.cell_of_heap hb2]; rfl
 have d1 : w2.cell? ⟨b, 1, none⟩ = some v := by rw [Lib.cell_of_heap hb2]; rfl
 have f1 : w2.frozen? ⟨b, 1, none⟩ = false := Lib.frozen_of_heap hb2 1
 obtain ⟨ao, n', cap, rfl⟩ : ∃ ao n' cap, v' = .slice ao n' cap := by
  rcases hown'.2 with ⟨hv, _⟩ | ⟨g, cap, cur, fz, hv, _⟩
  ·exact ⟨_, _, _, hv⟩
  ·exact ⟨_, _, _, hv⟩
 go_wp2
 go_ret2
 refine ⟨rfl, ?_, ?_, (hk1.grown hgrow (Lib.ownsRowF_kind hown)).setCell ⟨b, 1, none⟩ rfl _⟩
 ·exact Lib.BuilderAtF.put (T := 66) (e := 5) hB hb2 (bs' := bs ++ Lib.strCells s) (by simpa [Lib.strCells_length] using hown') (by decide)
 ·exact (hb1.grown hgrow (by have := hb1.size; omega) (fun k hk => (hown.lt k hk).1)).setCell (p := ⟨b, 1, none⟩) hB _
end Go.Proofs.Ythcmamcbnjphgaa.MBld
namespace Go.Proofs.Ythcmamcbnjphgaa.PFnExactGrammarShow
open Go.RowKit Go.Proofs.YthcmamcbnjphgaaW.PrintWords Go.Proofs.YthcmamcbnjphgaaW.PrintLast Go.Proofs.YthcmamcbnjphgaaW.PrintMore
def decFine (parts : List S119) : ∀ F p, Decidable (Fine parts F p)
 | 0, _ => isFalse id
 | F + 1, p => by
  have := decFine parts F
  unfold Fine
  exact inferInstance
instance (parts : List S119) (F : Nat) (p : Int) : Decidable (Fine parts F p) := decFine parts F p
def spec_l03SayRule.f (k : Nat) (nm : ByteArray) (toks : List S51) (levs : List S54) (rules : List S59) (parts : List S119) (name : ByteArray) (alts : List S75) : Option ByteArray :=
 if (∀ a ∈ alts, ∀ q ∈ a.f0, Fine parts parts.length q) ∧ cost (ruleW (sayB parts parts.length) name alts) ≤ 1099511627776 then some (jn (ruleW (sayB parts parts.length) name alts) ++ ⟨#[59, 10]⟩) else none
theorem spec_l03SayRule.calls (k : Nat) (nm : ByteArray) (A1 : Option Addr) (c1 : Nat) (toks : List S51) (A2 : Option Addr) (c2 : Nat) (levs : List S54) (A3 : Option Addr) (c3 : Nat) (rules : List S59) (A4 : Option Addr) (c4 : Nat) (parts : List S119) (name : ByteArray) (A : Option Addr) (c : Nat) (alts : List S75) (r : ByteArray) (w : World)
  (H1 : Kd.C k51 w A1 toks.length toks) (L1 : toks.length ≤ c1) (H2 : Kd.C k54 w A2 levs.length levs) (L2 : levs.length ≤ c2) (H3 : Kd.C k59 w A3 rules.length rules) (L3 : rules.length ≤ c3) (H4 : Kd.C k119 w A4 parts.length parts) (L4 : parts.length ≤ c4)
  (HA : Kd.C k75 w A alts.length alts) (LA : alts.length ≤ c) (h : spec_l03SayRule.f k nm toks levs rules parts name alts = some r) :
  Calls Try.prog 20 #[.agg #[.string nm, .slice A1 toks.length c1, .slice A2 levs.length c2, .slice A3 rules.length c3, .slice A4 parts.length c4], .agg #[.string name, .slice A alts.length c]] w fun e w' => e = .returned (.string r) ∧ Below w.heap.size w w' := by
 unfold spec_l03SayRule.f at h
 split at h
 ·rename_i hg
  injection h with h
  subst h
  exact sayRule_walk parts parts.length nm _ _ _ A4 c4 name A c alts w H4 L4 HA LA hg.1 hg.2
 ·cases h
end Go.Proofs.Ythcmamcbnjphgaa.PFnExactGrammarShow
namespace Go.Proofs.Ythcmamcbnjphgaa.PFnExactGrammarShow
open Go.RowKit Go.Proofs.YthcmamcbnjphgaaW.PrintWords Go.Proofs.YthcmamcbnjphgaaW.PrintLast Go.Proofs.YthcmamcbnjphgaaW.PrintMore
attribute [local go_sem] max2_int min2_int max_two min_two max_three min_three max_four min_four   -- for this text's walks alone
def laws_szToken.f (a0_0 : ByteArray) (a0_1 : ByteArray) (a0_2 : Bool) (a1 : Int) : Option (Int) := if (wrap64 (a1 - (a0_0.size : Int))) < 0 then (some (-1)) else (if (wrap64 ((wrap64 (a1 - (a0_0.size : Int))) - (a0_1.size : Int))) < 0 then (some (-1)) else (some (wrap64 ((wrap64 (a1 - (a0_0.size : Int))) - (a0_1.size : Int)))))
set_option maxHeartbeats 8000000 in
set_option maxRecDepth 100000 in
theorem laws_szToken.calls (a0_0 : ByteArray) (a0_1 : ByteArray) (a0_2 : Bool) (a1 : Int) (r : Int) (w : World) (h : laws_szToken.f a0_0 a0_1 a0_2 a1 = some r) :
  Calls Try.prog 47 #[.agg #[.string a0_0, .string a0_1, .bool a0_2], .int .i64 a1] w fun e w' => e = .returned (.int .i64 r) ∧ Below w.heap.size w w' := by
 have hu98 := Try.underlying98
 have HB := Zz.mk (Below.refl w.heap.size w)
 have H : (if (wrap64 (a1 - (a0_0.size : Int))) < 0 then (some (-1)) else (if (wrap64 ((wrap64 (a1 - (a0_0.size : Int))) - (a0_1.size : Int))) < 0 then (some (-1)) else (some (wrap64 ((wrap64 (a1 - (a0_0.size : Int))) - (a0_1.size : Int)))))) = some r := h
 clear h
 by_cases c3 : (wrap64 (a1 - (a0_0.size : Int))) < 0
 ·rw [if_pos c3] at H
  have c3b0 : decide ((wrap64 (a1 - (a0_0.size : Int))) < 0) = true := decide_eq_true c3
  clear c3
  obtain rfl := Option.some.inj H
  go_enter Try.func47, Try.ntmps47
  go_wp2_with (first | ((with_reducible refine gate_dst (N := 2) rfl ?_); refine box_event ?hg (N := 2) ?hd (cs := #[.string a0_0, .string a0_1, .bool a0_2]) (t := 98) ?hr ?_; (case hd => rfl); (case hg => rfl); (case hr => first | (go_simp; done) | (go_simp; rfl)); intro gb101 hg w4 hbox hb; have n0_ := Zz.mk (below_step (by repeat (first | (with_reducible first | exact HB.out | apply zba | apply zbn | apply zb1) | exact HB.out)) hb); have n1_ := Zz.mk (hbox); have n2_ := Zz.mk ((by rw [hg]; exact (zsz (by repeat (first | (with_reducible first | exact HB.out | apply zba | apply zbn | apply zb1) | exact HB.out))) : w.heap.size ≤ gb101)); have n3_ := Zz.mk ((by rw [hg]; exact (zsz (by repeat (first | (with_reducible first | exact HB.out | apply zba | apply zbn | apply zb1) | exact HB.out))) : w.heap.size ≤ gb101)); clear HB; have HB := n0_; have BK101 := n1_; have GW101 := n2_; have GE101 := n3_; clear n0_ n1_ n2_ n3_; clear hb hbox hg; have hcz5_0 : w4.cell? ⟨gb101, 0, none⟩ = some (.string a0_0) := (zbc BK101.out 0).trans rfl; have hcz5_1 : w4.cell? ⟨gb101, 1, none⟩ = some (.string a0_1) := (zbc BK101.out 1).trans rfl; have hcz5_2 : w4.cell? ⟨gb101, 2, none⟩ = some (.bool a0_2) := (zbc BK101.out 2).trans rfl; have hfz5_0 := zbf BK101.out 0; have hfz5_1 := zbf BK101.out 1; have hfz5_2 := zbf BK101.out 2))
  go_ret
  exact ⟨by first | rfl | (simp [errW_none, errW_some] <;> rfl) | (simp [*, errW_none, errW_some] <;> rfl), by repeat (first | (with_reducible first | exact HB.out | apply zba | apply zbn | apply zb1 | refine zbs ?_ GE101.out) | exact HB.out)⟩
 ·rw [if_neg c3] at H
  have c3b0 : decide ((wrap64 (a1 - (a0_0.size : Int))) < 0) = false := decide_eq_false c3
  clear c3
  by_cases c6 : (wrap64 ((wrap64 (a1 - (a0_0.size : Int))) - (a0_1.size : Int))) < 0
  ·rw [if_pos c6] at H
   have c6b0 : decide ((wrap64 ((wrap64 (a1 - (a0_0.size : Int))) - (a0_1.size : Int))) < 0) = true := decide_eq_true c6
   clear c6
   obtain rfl := Option.some.inj H
   go_enter Try.func47, Try.ntmps47
   go_wp2_with (first | ((with_reducible refine gate_dst (N := 2) rfl ?_); refine box_event ?hg (N := 2) ?hd (cs := #[.string a0_0, .string a0_1, .bool a0_2]) (t := 98) ?hr ?_; (case hd => rfl); (case hg => rfl); (case hr => first | (go_simp; done) | (go_simp; rfl)); intro gb101 hg w7 hbox hb; have n0_ := Zz.mk (below_step (by repeat (first | (with_reducible first | exact HB.out | apply zba | apply zbn | apply zb1) | exact HB.out)) hb); have n1_ := Zz.mk (hbox); have n2_ := Zz.mk ((by rw [hg]; exact (zsz (by repeat (first | (with_reducible first | exact HB.out | apply zba | apply zbn | apply zb1) | exact HB.out))) : w.heap.size ≤ gb101)); have n3_ := Zz.mk ((by rw [hg]; exact (zsz (by repeat (first | (with_reducible first | exact HB.out | apply zba | apply zbn | apply zb1) | exact HB.out))) : w.heap.size ≤ gb101)); clear HB; have HB := n0_; have BK101 := n1_; have GW101 := n2_; have GE101 := n3_; clear n0_ n1_ n2_ n3_; clear hb hbox hg; have hcz8_0 : w7.cell? ⟨gb101, 0, none⟩ = some (.string a0_0) := (zbc BK101.out 0).trans rfl; have hcz8_1 : w7.cell? ⟨gb101, 1, none⟩ = some (.string a0_1) := (zbc BK101.out 1).trans rfl; have hcz8_2 : w7.cell? ⟨gb101, 2, none⟩ = some (.bool a0_2) := (zbc BK101.out 2).trans rfl; have hfz8_0 := zbf BK101.out 0; have hfz8_1 := zbf BK101.out 1; have hfz8_2 := zbf BK101.out 2))
   go_ret
   exact ⟨by first | rfl | (simp [errW_none, errW_some] <;> rfl) | (simp [*, errW_none, errW_some] <;> rfl), by repeat (first | (with_reducible first | exact HB.out | apply zba | apply zbn | apply zb1 | refine zbs ?_ GE101.out) | exact HB.out)⟩
  ·rw [if_neg c6] at H
   have c6b0 : decide ((wrap64 ((wrap64 (a1 - (a0_0.size : Int))) - (a0_1.size : Int))) < 0) = false := decide_eq_false c6
   clear c6
   obtain rfl := Option.some.inj H
   go_enter Try.func47, Try.ntmps47
   go_wp2_with (first | ((with_reducible refine gate_dst (N := 2) rfl ?_); refine box_event ?hg (N := 2) ?hd (cs := #[.string a0_0, .string a0_1, .bool a0_2]) (t := 98) ?hr ?_; (case hd => rfl); (case hg => rfl); (case hr => first | (go_simp; done) | (go_simp; rfl)); intro gb101 hg w9 hbox hb; have n0_ := Zz.mk (below_step (by repeat (first | (with_reducible first | exact HB.out | apply zba | apply zbn | apply zb1) | exact HB.out)) hb); have n1_ := Zz.mk (hbox); have n2_ := Zz.mk ((by rw [hg]; exact (zsz (by repeat (first | (with_reducible first | exact HB.out | apply zba | apply zbn | apply zb1) | exact HB.out))) : w.heap.size ≤ gb101)); have n3_ := Zz.mk ((by rw [hg]; exact (zsz (by repeat (first | (with_reducible first | exact HB.out | apply zba | apply zbn | apply zb1) | exact HB.out))) : w.heap.size ≤ gb101)); clear HB; have HB := n0_; have BK101 := n1_; have GW101 := n2_; have GE101 := n3_; clear n0_ n1_ n2_ n3_; clear hb hbox hg; have hcz10_0 : w9.cell? ⟨gb101, 0, none⟩ = some (.string a0_0) := (zbc BK101.out 0).trans rfl; have hcz10_1 : w9.cell? ⟨gb101, 1, none⟩ = some (.string a0_1) := (zbc BK101.out 1).trans rfl; have hcz10_2 : w9.cell? ⟨gb101, 2, none⟩ = some (.bool a0_2) := (zbc BK101.out 2).trans rfl; have hfz10_0 := zbf BK101.out 0; have hfz10_1 := zbf BK101.out 1; have hfz10_2 := zbf BK101.out 2))
   go_ret
   exact ⟨by first | rfl | (simp [errW_none, errW_some] <;> rfl) | (simp [*, errW_none, errW_some] <;> rfl), by repeat (first | (with_reducible first | exact HB.out | apply zba | apply zbn | apply zb1 | refine zbs ?_ GE101.out) | exact HB.out)⟩
end Go.Proofs.Ythcmamcbnjphgaa.PFnExactGrammarShow
