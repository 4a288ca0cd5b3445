import Derived.Test.YthcmamcbnjphgaaG3
import Derived.StillTailTactics
import Derived.RegionTactic
import Derived.ChangeAlike
import Derived.BigRegion
set_option linter.unusedVariables false
set_option linter.unusedSimpArgs false
namespace Go.Proofs.Ythcmamcbnjphgaa.PFnExactGrammarShow
open Go.RowKit Go.Proofs.YthcmamcbnjphgaaW.PrintWords Go.Proofs.YthcmamcbnjphgaaW.PrintLast Go.Proofs.YthcmamcbnjphgaaW.PrintMore
theorem spec_plain_any (s : ByteArray) (w : World) : Calls Try.prog 52 #[.string s] w fun e w' => e = .returned (.bool (plainB s)) ∧ Below w.heap.size w w' := spec_l03Plain.calls 30 s _ w (spec_plain_eval s 30 (by omega))
theorem spec_name_any (s : ByteArray) (w : World) : Calls Try.prog 84 #[.string s] w fun e w' => e = .returned (.bool (nameB s)) ∧ Drawn0 w w' := spec_l01Name.calls 30 s _ w (spec_name_eval s 30 (by omega))
theorem spec_kw_any (s : ByteArray) (w : World) : Calls Try.prog 85 #[.string s] w fun e w' => e = .returned (.bool (kwB s)) ∧ Below w.heap.size w w' := spec_l03Keyword.calls 10 s _ w (spec_keyword_eval s 10 (by omega))
theorem spec_lit_any (s : ByteArray) (w : World) : Calls Try.prog 55 #[.string s] w fun e w' => e = .returned (.bool (litB s)) ∧ Drawn0 w w' := spec_l03LitOK.calls 30 s _ w (spec_lit_eval s 30 (by omega))
theorem between_eval (x a b : Int) : spec_l01Between.f x a b = some (decide (a ≤ x ∧ x ≤ b)) := by
 unfold spec_l01Between.f
 by_cases h : x ≥ a
 ·rw [if_pos h]; congr 1; exact decide_eq_decide.mpr (by omega)
 ·rw [if_neg h]; congr 1; exact (decide_eq_false (by omega)).symm
theorem between_any (x a b : Int) (w : World) : Calls Try.prog 54 #[.int .i64 x, .int .i64 a, .int .i64 b] w fun e w' => e = .returned (.bool (decide (a ≤ x ∧ x ≤ b))) ∧ Drawn0 w w' := spec_l01Between.calls x a b _ w (between_eval x a b)
theorem finI_ge {p m r : Int} (h : finI p m = some r) : m ≤ r ∧ p = m := by
 unfold finI at h; split at h
 ·cases h; exact ⟨by omega, ‹_›⟩
 ·cases h
theorem itemG_ge {rec : Int → List (List Int) → Int → Option Int} (hr : ∀ b l n r, rec b l n = some r → n ≤ r) {parts : List S119} {b p n r : Int} (h : itemG rec parts b p n = some r) : n ≤ r ∧ n ≤ p := by
 unfold itemG at h
 repeat' split at h
 all_goals first
  | (cases h; done)
  | (have := finI_ge h; omega)
  | (obtain ⟨m, hm, hf⟩ := Option.bind_eq_some_iff.1 h; have := hr _ _ _ _ hm; have := finI_ge hf; omega)
theorem itemsG_ge {rec : Int → List (List Int) → Int → Option Int} (hr : ∀ b l n r, rec b l n = some r → n ≤ r) {parts : List S119} {b : Int} : ∀ (l : List Int) (n r : Int), itemsG rec parts b l n = some r → n ≤ r
 | [], n, r, h => by cases h; omega
 | p :: ps, n, r, h => by
  obtain ⟨m, hm, hf⟩ := Option.bind_eq_some_iff.1 h
  have := itemG_ge hr hm
  have := itemsG_ge hr ps m r hf
  omega
theorem altsG_ge {rec : Int → List (List Int) → Int → Option Int} (hr : ∀ b l n r, rec b l n = some r → n ≤ r) {parts : List S119} {b : Int} : ∀ (l : List (List Int)) (n r : Int), altsG rec parts b l n = some r → n ≤ r
 | [], n, r, h => by cases h; omega
 | p :: ps, n, r, h => by
  obtain ⟨m, hm, hf⟩ := Option.bind_eq_some_iff.1 h
  have := itemsG_ge hr p n m hm
  have := altsG_ge hr ps m r hf
  omega
theorem altsF_ge (parts : List S119) : ∀ (F : Nat) (b : Int) (l : List (List Int)) (n r : Int), altsF parts F b l n = some r → n ≤ r
 | 0, b, l, n, r, h => by cases h
 | F + 1, b, l, n, r, h => altsG_ge (altsF_ge parts F) l n r h
structure SInv (w0 w : World) (sb : Nat) (nm : ByteArray) (v1 v2 v3 v4 : Value) (nx : Int) (ok : Bool) (wr : World) : Prop where
 hs : wr.heap[sb]? = some (.cells #[.string nm, v1, v2, v3, v4, .int .i64 nx, .bool ok] 113 (0, 0))
 hB : Below w0.heap.size w0 wr
 hK : KeepBut w wr sb none
theorem SInv.below {w0 w : World} {sb : Nat} {nm : ByteArray} {v1 v2 v3 v4 : Value} {nx : Int} {ok : Bool} {wr w2 : World} (h : SInv w0 w sb nm v1 v2 v3 v4 nx ok wr) (k : Below wr.heap.size wr w2) : SInv w0 w sb nm v1 v2 v3 v4 nx ok w2 :=
 ⟨blk_below h.hs k, below_chain h.hB h.hB.size k, keep_below h.hK k⟩
theorem SInv.setOk {w0 w : World} {sb : Nat} {nm : ByteArray} {v1 v2 v3 v4 : Value} {nx : Int} {ok : Bool} {wr : World} (h : SInv w0 w sb nm v1 v2 v3 v4 nx ok wr) (h0 : w0.heap.size ≤ sb) (b : Bool) : SInv w0 w sb nm v1 v2 v3 v4 nx b (wr.setCell ⟨sb, 6, none⟩ (.bool b)) := by
 refine ⟨?_, h.hB.setCell (p := ⟨sb, 6, none⟩) h0 _, h.hK.set_ 6 _⟩
 have := blk_set h.hs 6 (.bool b)
 simpa using this
theorem SInv.setNx {w0 w : World} {sb : Nat} {nm : ByteArray} {v1 v2 v3 v4 : Value} {nx : Int} {ok : Bool} {wr : World} (h : SInv w0 w sb nm v1 v2 v3 v4 nx ok wr) (h0 : w0.heap.size ≤ sb) (x : Int) : SInv w0 w sb nm v1 v2 v3 v4 x ok (wr.setCell ⟨sb, 5, none⟩ (.int .i64 x)) := by
 refine ⟨?_, h.hB.setCell (p := ⟨sb, 5, none⟩) h0 _, h.hK.set_ 5 _⟩
 have := blk_set h.hs 5 (.int .i64 x)
 simpa using this
theorem SInv.call {w0 w : World} {sb : Nat} {nm : ByteArray} {v1 v2 v3 v4 : Value} {nx nx2 : Int} {ok ok2 : Bool} {wr w2 : World} (h : SInv w0 w sb nm v1 v2 v3 v4 nx ok wr) (k : SInv w0 wr sb nm v1 v2 v3 v4 nx2 ok2 w2) : SInv w0 w sb nm v1 v2 v3 v4 nx2 ok2 w2 :=
 ⟨k.hs, k.hB, h.hK.trans k.hK (.inl rfl)⟩
def Tells (T : Option Int) (nx : Int) (ok : Bool) : Prop := ok = T.isSome ∧ ∀ r, T = some r → r = nx ∧ 0 ≤ nx
def SPost (w0 w : World) (sb : Nat) (nm : ByteArray) (v1 v2 v3 v4 : Value) (T : Option Int) (e : Ending) (w' : World) : Prop :=
 e = .returned (.tuple #[]) ∧ ∃ nx ok, SInv w0 w sb nm v1 v2 v3 v4 nx ok w' ∧ Tells T nx ok
theorem between_t {x a b : Int} (h : a ≤ x ∧ x ≤ b) (w : World) : Calls Try.prog 54 #[.int .i64 x, .int .i64 a, .int .i64 b] w fun e w' => e = .returned (.bool true) ∧ ∃ n, w' = w.drewN n :=
 (between_any x a b w).mono fun e w' ⟨he, hd⟩ => ⟨by rw [he, decide_eq_true h], hd.out⟩
theorem between_f {x a b : Int} (h : ¬ (a ≤ x ∧ x ≤ b)) (w : World) : Calls Try.prog 54 #[.int .i64 x, .int .i64 a, .int .i64 b] w fun e w' => e = .returned (.bool false) ∧ ∃ n, w' = w.drewN n :=
 (between_any x a b w).mono fun e w' ⟨he, hd⟩ => ⟨by rw [he, decide_eq_false h], hd.out⟩
def ItemsDo (parts : List S119) (G : Int → List (List Int) → Int → Option Int) (above : Int) : Prop :=
 ∀ (nm : ByteArray) (v1 v2 v3 : Value) (A4 : Option Addr) (c4 : Nat) (A : Option Addr) (c : Nat) (l : List Int) (sb : Nat) (nx : Int) (ok : Bool) (S : Option Int) (w0 w : World),
  Kd.C k119 w0 A4 parts.length parts → parts.length ≤ c4 → Kd.C (Kd.int .i64) w0 A l.length l → l.length ≤ c →
  w0.heap.size ≤ sb → SInv w0 w sb nm v1 v2 v3 (.slice A4 parts.length c4) nx ok w → Tells S nx ok → 0 ≤ above → above ≤ parts.length →
  Calls Try.prog 56 #[.pointer (some ⟨sb, 0, none⟩), .slice A l.length c, .int .i64 above] w (SPost w0 w sb nm v1 v2 v3 (.slice A4 parts.length c4) (S.bind (itemsG G parts above l)))
set_option maxHeartbeats 2000000 in
set_option maxRecDepth 100000 in
theorem items_step (G : Int → List (List Int) → Int → Option Int) (above : Int) (nm : ByteArray) (v1 v2 v3 : Value) (A4 : Option Addr) (c4 : Nat) (parts : List S119) (A : Option Addr) (c : Nat) (l : List Int) (sb : Nat) (nx : Int) (ok : Bool) (S : Option Int) (w0 w : World)
  (hge : ∀ b l n r, G b l n = some r → n ≤ r)
  (hr : ∀ p, 0 ≤ p → p < above → ∃ G', (∀ alts n, G p alts n = altsG G' parts p alts n) ∧ ItemsDo parts G' p)
  (HR4 : Kd.C k119 w0 A4 parts.length parts) (HC4 : parts.length ≤ c4) (HRA : Kd.C (Kd.int .i64) w0 A l.length l) (HCA : l.length ≤ c)
  (hsb : w0.heap.size ≤ sb) (HI : SInv w0 w sb nm v1 v2 v3 (.slice A4 parts.length c4) nx ok w) (HS : Tells S nx ok) (hab : 0 ≤ above) (hb : above ≤ parts.length) :
  Calls Try.prog 56 #[.pointer (some ⟨sb, 0, none⟩), .slice A l.length c, .int .i64 above] w (SPost w0 w sb nm v1 v2 v3 (.slice A4 parts.length c4) (S.bind (itemsG G parts above l))) := by
 replace HR4 := Zz.mk HR4
 replace HRA := Zz.mk HRA
 replace HI := Zz.mk HI
 replace HS := Zz.mk HS
 replace hge := Zz.mk hge
 replace hr := Zz.mk hr
 have hsl := blk_lt HI.out.hs
 generalize hT : S.bind (itemsG G parts above l) = T
 replace hT := Zz.mk hT
 go_enter Try.func56, Try.ntmps56
 go_wp2
 go_loopg [6] l.length (fun gk v6 wr => ∃ (i : Nat) (nx : Int) (ok : Bool) (S : Option Int), v6 = .int .i64 i ∧ gk = l.length - i ∧ i ≤ l.length ∧ Zz (SInv w0 w sb nm v1 v2 v3 (.slice A4 parts.length c4) nx ok wr) ∧ Zz (Tells S nx ok) ∧ Zz (S.bind (itemsG G parts above (l.drop i)) = T))
 case atStart => exact ⟨0, nx, ok, S, rfl, by omega, by omega, HI, HS, hT⟩
 case round =>
  clear HI hT HS
  obtain ⟨i, nx, ok, S, rfl, hgk, hi, HI, HS, hT⟩ := hrel
  have hl := HRA.out.2.1
  have s6 := (zbc HI.out.hs 6).trans (rfl : _ = some (Value.bool ok))
  have s5 := (zbc HI.out.hs 5).trans (rfl : _ = some (Value.int .i64 nx))
  have s4 := (zbc HI.out.hs 4).trans (rfl : _ = some (Value.slice A4 parts.length c4))
  have f6 := zbf HI.out.hs 6
  by_cases hlt : i < l.length
  ·have b1 : decide (i < l.length) = true := decide_eq_true hlt
   cases ok with
   | false =>
    have hTn : Zz (T = none) := ⟨by rw [← hT.out]; cases S with | none => rfl | some _ => exact absurd HS.out.1 (by simp)⟩
    go_wp2
    go_end0
    exact ⟨rfl, nx, false, HI.out, by rw [hTn.out]; exact ⟨rfl, fun r h => by cases h⟩⟩
   | true =>
    obtain ⟨rfl, h0⟩ : S = some nx ∧ 0 ≤ nx := by
     cases S with
     | none => exact absurd HS.out.1 (by simp)
     | some r => obtain ⟨h1, h2⟩ := HS.out.2 r rfl; exact ⟨by rw [h1], h2⟩
    obtain ⟨ad2, c2, hA2, _, hK2, hc2⟩ := Kd.C_get HRA.out 0 i (by omega) (by omega)
    cases hA2
    have hcp : wr.cell? (ad2.add i) = some (.int .i64 (rd l i)) := by
     have hq := hc2 0 (.int .i64 (rd l i)) (by rw [show c2 = [Value.int .i64 (rd l i)] from hK2]; rfl)
     have hq2 : w0.cell? (ad2.add i) = some (.int .i64 (rd l i)) := by simpa [Kd.int, Kd.scalar] using hq
     exact (HI.out.hB.cell (World.block_lt_of_cell? _ _ hq2)).trans hq2
    have hcp0 : w0.cell? (ad2.add i) = some (.int .i64 (rd l i)) := by
     have hq := hc2 0 (.int .i64 (rd l i)) (by rw [show c2 = [Value.int .i64 (rd l i)] from hK2]; rfl)
     simpa [Kd.int, Kd.scalar] using hq
    clear hc2 hK2
    have hTp : (itemG G parts above (rd l i) nx).bind (itemsG G parts above (l.drop (i + 1))) = T := by
     have := hT.out
     rw [List.drop_eq_getElem_cons hlt] at this
     simp only [itemsG, Option.bind_some] at this
     rw [← this]
     simp [rd, List.getD_eq_getElem?_getD, List.getElem?_eq_getElem hlt]
    generalize hp : rd l (i : Int) = p at hcp hcp0 hTp
    replace hcp0 := Zz.mk hcp0
    clear hp
    replace hTp := Zz.mk hTp
    clear hT HS
    by_cases hbt : nx ≤ p ∧ p ≤ above - 1
    ·have hw : wrap64 (above - 1) = above - 1 := wrap_in (by omega) (by have := HR4.out.2.1; omega)
     have i0 : (0 : Int) ≤ (i : Int) := by omega
     have i1 : (i : Int) < (l.length : Int) := by omega
     go_wp2
     go_quiet ((go_at_call 54; exact Calls.quiet_of (between_t hbt _)))
     go_wp2
     obtain ⟨ad3, A5, c5, hA3, hx0, hx1, hx2, hl5, HR5⟩ := at_T119 HR4.out p (by omega) (by omega)
     cases hA3
     replace hx0 := (HI.out.hB.cell (World.block_lt_of_cell? _ _ hx0)).trans hx0
     replace hx1 := (HI.out.hB.cell (World.block_lt_of_cell? _ _ hx1)).trans hx1
     replace hx2 := (HI.out.hB.cell (World.block_lt_of_cell? _ _ hx2)).trans hx2
     replace HR5 := Zz.mk HR5
     replace hl5 := Zz.mk hl5
     have q0 : 0 ≤ p := by omega
     have q1 : p < parts.length := by omega
     have HI2 := Zz.mk (HI.out.below (zbn (Below.refl _ _) nq))
     replace hx0 : (wr.drewN nq).cell? _ = _ := hx0
     replace hx1 : (wr.drewN nq).cell? _ = _ := hx1
     replace hx2 : (wr.drewN nq).cell? _ = _ := hx2
     replace hcp : (wr.drewN nq).cell? _ = _ := hcp
     clear s4 s5 s6 f6 HI
     generalize wr.drewN nq = wq at HI2 hx0 hx1 hx2 hcp ⊢
     have s4 := (zbc HI2.out.hs 4).trans (rfl : _ = some (Value.slice (some ad3) parts.length c4))
     have y0 := fun o => (World.cell?_alloc_lt wq o _ (World.block_lt_of_cell? _ _ hx0)).trans hx0
     have y1 := fun o => (World.cell?_alloc_lt wq o _ (World.block_lt_of_cell? _ _ hx1)).trans hx1
     have y2 := fun o => (World.cell?_alloc_lt wq o _ (World.block_lt_of_cell? _ _ hx2)).trans hx2
     have y3 := fun o => (World.cell?_alloc_lt wq o _ (World.block_lt_of_cell? _ _ hcp)).trans hcp
     have y4 := fun o => (World.cell?_alloc_lt wq o _ (World.block_lt_of_cell? _ _ s4)).trans s4
     go_region
     clear y0 y1 y2 y3 y4 s4 hx0 hx1 hx2 hw i0 i1 q1
     go_upto_block 2 with (fail)
     have HI3 := Zz.mk (HI2.out.below ((below_self_alloc wq (.cells #[.int .i64 (rd_T119 parts p).f0, .string (rd_T119 parts p).f1, .slice A5 (rd_T119 parts p).f2.length c5] 119)).drew))
     have HX := Zz.mk (show (wq.alloc (.cells #[.int .i64 (rd_T119 parts p).f0, .string (rd_T119 parts p).f1, .slice A5 (rd_T119 parts p).f2.length c5] 119)).drew.heap[wq.heap.size]? = some (.cells #[.int .i64 (rd_T119 parts p).f0, .string (rd_T119 parts p).f1, .slice A5 (rd_T119 parts p).f2.length c5] 119 (0, 0)) from heap_alloc_new wq _)
     have hxl : wq.heap.size ≠ sb := by have := blk_lt HI2.out.hs; omega
     clear HI2 hcp
     generalize wq.heap.size = xb at HX hxl ⊢
     generalize (wq.alloc (.cells #[.int .i64 (rd_T119 parts p).f0, .string (rd_T119 parts p).f1, .slice A5 (rd_T119 parts p).f2.length c5] 119)).drew = wz at HI3 HX ⊢
     go_cut [] (fun wc => ∃ (nx2 : Int) (ok2 : Bool) (S2 : Option Int), Zz (SInv w0 w sb nm v1 v2 v3 (.slice (some ad3) parts.length c4) nx2 ok2 wc) ∧ Zz (Tells S2 nx2 ok2) ∧ Zz ((S2.bind (finI p)).bind (itemsG G parts above (l.drop (i + 1))) = T))
     case first =>
      have x0 := (zbc HX.out 0).trans (rfl : _ = some (Value.int .i64 (rd_T119 parts p).f0))
      have x1 := (zbc HX.out 1).trans (rfl : _ = some (Value.string (rd_T119 parts p).f1))
      have x2 := (zbc HX.out 2).trans (rfl : _ = some (Value.slice A5 (rd_T119 parts p).f2.length c5))
      have s6 := (zbc HI3.out.hs 6).trans (rfl : _ = some (Value.bool true))
      have f6 := zbf HI3.out.hs 6
      by_cases k1 : (rd_T119 parts p).f0 = 1
      ·have e1 : ((rd_T119 parts p).f0 == 1) = true := by simp [k1]
       have hgo : Zz (itemG G parts above p nx = (if plainB (rd_T119 parts p).f1 = true then (if (rd_T119 parts p).f2.length = 0 then finI p nx else none) else none)) := ⟨by simp [itemG, show ¬ p < 0 by omega, show ¬ above ≤ p by omega, k1]⟩
       replace k1 := Zz.mk k1
       clear hbt q0
       cases hn : nameB (rd_T119 parts p).f1 with
       | false =>
        have hTn : Zz (T = none) := ⟨by rw [← hTp.out, hgo.out]; simp [plainB, hn]⟩
        go_wp2_with (go_at_call 84; refine (spec_name_any _ _).mono ?_; rintro e w' ⟨rfl, hd⟩; obtain ⟨⟨nd, rfl⟩⟩ := hd)
        go_meet
        case rel => exact ⟨nx, false, none, ⟨(HI3.out.setOk hsb false).below (zbn (Below.refl _ _) _)⟩, ⟨rfl, fun r h => by cases h⟩, ⟨hTn.out.symm⟩⟩
       | true =>
        cases hk : kwB (rd_T119 parts p).f1 with
        | true =>
         have hTn : Zz (T = none) := ⟨by rw [← hTp.out, hgo.out]; simp [plainB, hn, hk]⟩
         go_wp2_with (first | (go_at_call 84; refine (spec_name_any _ _).mono ?_; rintro e w' ⟨rfl, hd⟩; obtain ⟨⟨nd, rfl⟩⟩ := hd) | (go_at_call 85; refine (spec_kw_any _ _).mono ?_; rintro e w' ⟨rfl, hbl⟩; have kB := Zz.mk (show Below wz.heap.size wz w' from below_chain (zbn (Below.refl _ _) nd) (Nat.le_refl _) hbl); clear hbl; have HI4 := Zz.mk (HI3.out.below kB.out); have HX4 := Zz.mk (blk_below HX.out kB.out); have x2' := (zbc HX4.out 2).trans (rfl : _ = some (Value.slice A5 (rd_T119 parts p).f2.length c5)); have s6' := (zbc HI4.out.hs 6).trans (rfl : _ = some (Value.bool true)); have f6' := zbf HI4.out.hs 6))
         go_meet
         case rel => exact ⟨nx, false, none, ⟨HI4.out.setOk hsb false⟩, ⟨rfl, fun r h => by cases h⟩, ⟨hTn.out.symm⟩⟩
        | false =>
         by_cases hz : (rd_T119 parts p).f2.length = 0
         ·have z0 : ((rd_T119 parts p).f2.length == 0) = true := by simp [hz]
          have z1 : (((rd_T119 parts p).f2.length : Int) == 0) = true := by simp [hz]
          have hT5 : Zz (((some nx).bind (finI p)).bind (itemsG G parts above (l.drop (i + 1))) = T) := ⟨by rw [← hTp.out, hgo.out]; simp [plainB, hn, hk, hz]⟩
          replace hz := Zz.mk hz
          go_wp2_with (first | (go_at_call 84; refine (spec_name_any _ _).mono ?_; rintro e w' ⟨rfl, hd⟩; obtain ⟨⟨nd, rfl⟩⟩ := hd) | (go_at_call 85; refine (spec_kw_any _ _).mono ?_; rintro e w' ⟨rfl, hbl⟩; have kB := Zz.mk (show Below wz.heap.size wz w' from below_chain (zbn (Below.refl _ _) nd) (Nat.le_refl _) hbl); clear hbl; have HI4 := Zz.mk (HI3.out.below kB.out); have HX4 := Zz.mk (blk_below HX.out kB.out); have x2' := (zbc HX4.out 2).trans (rfl : _ = some (Value.slice A5 (rd_T119 parts p).f2.length c5)); have s6' := (zbc HI4.out.hs 6).trans (rfl : _ = some (Value.bool true)); have f6' := zbf HI4.out.hs 6))
          go_meet
          case rel => exact ⟨nx, true, some nx, ⟨HI4.out.setOk hsb true⟩, ⟨rfl, fun r h => by cases h; exact ⟨rfl, h0⟩⟩, hT5⟩
         ·have z0 : ((rd_T119 parts p).f2.length == 0) = false := by simp [hz]
          have z1 : (((rd_T119 parts p).f2.length : Int) == 0) = false := beq_eq_false_iff_ne.mpr (by omega)
          have hTn : Zz (T = none) := ⟨by rw [← hTp.out, hgo.out]; simp [plainB, hn, hk, hz]⟩
          replace hz := Zz.mk hz
          go_wp2_with (first | (go_at_call 84; refine (spec_name_any _ _).mono ?_; rintro e w' ⟨rfl, hd⟩; obtain ⟨⟨nd, rfl⟩⟩ := hd) | (go_at_call 85; refine (spec_kw_any _ _).mono ?_; rintro e w' ⟨rfl, hbl⟩; have kB := Zz.mk (show Below wz.heap.size wz w' from below_chain (zbn (Below.refl _ _) nd) (Nat.le_refl _) hbl); clear hbl; have HI4 := Zz.mk (HI3.out.below kB.out); have HX4 := Zz.mk (blk_below HX.out kB.out); have x2' := (zbc HX4.out 2).trans (rfl : _ = some (Value.slice A5 (rd_T119 parts p).f2.length c5)); have s6' := (zbc HI4.out.hs 6).trans (rfl : _ = some (Value.bool true)); have f6' := zbf HI4.out.hs 6))
          go_meet
          case rel => exact ⟨nx, false, none, ⟨HI4.out.setOk hsb false⟩, ⟨rfl, fun r h => by cases h⟩, ⟨hTn.out.symm⟩⟩
      have e1 : ((rd_T119 parts p).f0 == 1) = false := by simp [k1]
      by_cases k2 : (rd_T119 parts p).f0 = 2
      ·have e2 : ((rd_T119 parts p).f0 == 2) = true := by simp [k2]
       have hgo : Zz (itemG G parts above p nx = (if litB (rd_T119 parts p).f1 = true then (if (rd_T119 parts p).f2.length = 0 then finI p nx else none) else none)) := ⟨by simp [itemG, show ¬ p < 0 by omega, show ¬ above ≤ p by omega, k1, k2]⟩
       replace k2 := Zz.mk k2
       clear hbt q0
       cases hn : litB (rd_T119 parts p).f1 with
       | false =>
        have hTn : Zz (T = none) := ⟨by rw [← hTp.out, hgo.out]; simp [hn]⟩
        go_wp2_with (go_at_call 55; refine (spec_lit_any _ _).mono ?_; rintro e w' ⟨rfl, hd⟩; obtain ⟨⟨nd, rfl⟩⟩ := hd)
        go_meet
        case rel => exact ⟨nx, false, none, ⟨(HI3.out.setOk hsb false).below (zbn (Below.refl _ _) _)⟩, ⟨rfl, fun r h => by cases h⟩, ⟨hTn.out.symm⟩⟩
       | true =>
        by_cases hz : (rd_T119 parts p).f2.length = 0
        ·have z0 : ((rd_T119 parts p).f2.length == 0) = true := by simp [hz]
         have z1 : (((rd_T119 parts p).f2.length : Int) == 0) = true := by simp [hz]
         have hT5 : Zz (((some nx).bind (finI p)).bind (itemsG G parts above (l.drop (i + 1))) = T) := ⟨by rw [← hTp.out, hgo.out]; simp [hn, hz]⟩
         replace hz := Zz.mk hz
         go_wp2_with (go_at_call 55; refine (spec_lit_any _ _).mono ?_; rintro e w' ⟨rfl, hd⟩; obtain ⟨⟨nd, rfl⟩⟩ := hd)
         go_meet
         case rel => exact ⟨nx, true, some nx, ⟨(HI3.out.setOk hsb true).below (zbn (Below.refl _ _) _)⟩, ⟨rfl, fun r h => by cases h; exact ⟨rfl, h0⟩⟩, hT5⟩
        ·have z0 : ((rd_T119 parts p).f2.length == 0) = false := by simp [hz]
         have z1 : (((rd_T119 parts p).f2.length : Int) == 0) = false := beq_eq_false_iff_ne.mpr (by omega)
         have hTn : Zz (T = none) := ⟨by rw [← hTp.out, hgo.out]; simp [hn, hz]⟩
         replace hz := Zz.mk hz
         go_wp2_with (go_at_call 55; refine (spec_lit_any _ _).mono ?_; rintro e w' ⟨rfl, hd⟩; obtain ⟨⟨nd, rfl⟩⟩ := hd)
         go_meet
         case rel => exact ⟨nx, false, none, ⟨(HI3.out.setOk hsb false).below (zbn (Below.refl _ _) _)⟩, ⟨rfl, fun r h => by cases h⟩, ⟨hTn.out.symm⟩⟩
      have e2 : ((rd_T119 parts p).f0 == 2) = false := by simp [k2]
      by_cases k3 : (rd_T119 parts p).f0 = 3 ∨ (rd_T119 parts p).f0 = 4 ∨ (rd_T119 parts p).f0 = 5
      ·obtain ⟨G', hG, hdo⟩ := hr.out p (by omega) (by omega)
       have hgo : Zz (itemG G parts above p nx = (if (rd_T119 parts p).f1.size = 0 then (if (rd_T119 parts p).f2.length = 0 then none else (altsG G' parts p (rd_T119 parts p).f2 nx).bind (finI p)) else none)) := ⟨by simp [itemG, show ¬ p < 0 by omega, show ¬ above ≤ p by omega, k1, k2, k3, hG]⟩
       replace hG := Zz.mk hG
       replace hdo := Zz.mk hdo
       have hpa : p ≤ parts.length := by omega
       go_upto_if 86 with (fail)
       go_cut [86] (fun v86 wc => v86 = .bool true ∧ wc = wz)
       case first =>
        rcases k3 with k3 | k3 | k3
        ·have e3 : ((rd_T119 parts p).f0 == 3) = true := by simp [k3]
         replace k3 := Zz.mk k3
         go_wp2
         go_meet
         case rel => exact ⟨by first | rfl | exact congrArg Value.bool e3, rfl⟩
        ·have e3 : ((rd_T119 parts p).f0 == 3) = false := by simp [k3]
         have e4 : ((rd_T119 parts p).f0 == 4) = true := by simp [k3]
         replace k3 := Zz.mk k3
         go_wp2
         go_meet
         case rel => exact ⟨by first | rfl | exact congrArg Value.bool e4, rfl⟩
        ·have e3 : ((rd_T119 parts p).f0 == 3) = false := by simp [k3]
         have e4 : ((rd_T119 parts p).f0 == 4) = false := by simp [k3]
         have e5 : ((rd_T119 parts p).f0 == 5) = true := by simp [k3]
         replace k3 := Zz.mk k3
         go_wp2
         go_meet
         case rel => exact ⟨by first | rfl | exact congrArg Value.bool e5, rfl⟩
       case rest =>
        obtain ⟨rfl, rfl⟩ := hcut
        clear e1 e2
        go_upto_region 15 with (fail)
        go_cut [] (fun wc => ∃ (ok1 : Bool) (S1 : Option Int), Zz (SInv w0 w sb nm v1 v2 v3 (.slice (some ad3) parts.length c4) nx ok1 wc) ∧ Zz (Tells S1 nx ok1) ∧ Zz (((S1.bind (altsG G' parts p (rd_T119 parts p).f2)).bind (finI p)).bind (itemsG G parts above (l.drop (i + 1))) = T) ∧ Zz (wc.heap[xb]? = some (.cells #[.int .i64 (rd_T119 parts p).f0, .string (rd_T119 parts p).f1, .slice A5 (rd_T119 parts p).f2.length c5] 119 (0, 0))))
        case first =>
         have hx9 : ∀ b : Bool, (wc.setCell ⟨sb, 6, none⟩ (.bool b)).heap[xb]? = some (.cells #[.int .i64 (rd_T119 parts p).f0, .string (rd_T119 parts p).f1, .slice A5 (rd_T119 parts p).f2.length c5] 119 (0, 0)) := fun b => blk_far HX.out (p := ⟨sb, 6, none⟩) hxl _
         replace hx9 := Zz.mk hx9
         clear hbt q0 hpa
         by_cases hs : (rd_T119 parts p).f1.size = 0
         ·have z1 := toList_nil hs
          by_cases hz : (rd_T119 parts p).f2.length = 0
          ·have z0 : decide (0 < (rd_T119 parts p).f2.length) = false := decide_eq_false (by omega)
           have hTn : Zz (T = none) := ⟨by rw [← hTp.out, hgo.out]; simp [hs, hz]⟩
           replace hz := Zz.mk hz
           clear hs
           go_wp2
           go_meet
           case rel => exact ⟨false, none, ⟨HI3.out.setOk hsb false⟩, ⟨rfl, fun r h => by cases h⟩, ⟨hTn.out.symm⟩, ⟨hx9.out _⟩⟩
          ·have z0 : decide (0 < (rd_T119 parts p).f2.length) = true := decide_eq_true (by omega)
           have hT5 : Zz ((((some nx).bind (altsG G' parts p (rd_T119 parts p).f2)).bind (finI p)).bind (itemsG G parts above (l.drop (i + 1))) = T) := ⟨by rw [← hTp.out, hgo.out]; simp [hs, hz]⟩
           replace hz := Zz.mk hz
           clear hs
           go_wp2
           go_meet
           case rel => exact ⟨true, some nx, ⟨HI3.out.setOk hsb true⟩, ⟨rfl, fun r h => by cases h; exact ⟨rfl, h0⟩⟩, hT5, ⟨hx9.out _⟩⟩
         ·have z1 := (toList_cons hs).1
          have z2 := (toList_cons hs).2
          have hTn : Zz (T = none) := ⟨by rw [← hTp.out, hgo.out]; simp [hs]⟩
          clear hs
          go_wp2
          go_meet
          case rel => exact ⟨false, none, ⟨HI3.out.setOk hsb false⟩, ⟨rfl, fun r h => by cases h⟩, ⟨hTn.out.symm⟩, ⟨hx9.out _⟩⟩
        case rest =>
         clear x0 x1 x2 s6 f6 HI3 HX hgo hTp h0
         obtain ⟨ok1, S1, HI5, HS5, hT5, HX5⟩ := hcut
         go_wp2
         go_loopg [8] (rd_T119 parts p).f2.length (fun gk3 v8 wr3 => ∃ (k : Nat) (nx3 : Int) (ok3 : Bool) (S3 : Option Int), v8 = .int .i64 k ∧ gk3 = (rd_T119 parts p).f2.length - k ∧ k ≤ (rd_T119 parts p).f2.length ∧ Zz (SInv w0 w sb nm v1 v2 v3 (.slice (some ad3) parts.length c4) nx3 ok3 wr3) ∧ Zz (Tells S3 nx3 ok3) ∧ Zz (((S3.bind (altsG G' parts p ((rd_T119 parts p).f2.drop k))).bind (finI p)).bind (itemsG G parts above (l.drop (i + 1))) = T) ∧ Zz (wr3.heap[xb]? = some (.cells #[.int .i64 (rd_T119 parts p).f0, .string (rd_T119 parts p).f1, .slice A5 (rd_T119 parts p).f2.length c5] 119 (0, 0))))
         case atStart => exact ⟨0, nx, ok1, S1, rfl, by omega, by omega, HI5, HS5, hT5, HX5⟩
         case round =>
          clear HI5 HS5 hT5 HX5
          obtain ⟨k, nx3, ok3, S3, rfl, hgk3, hk, HI6, HS6, hT6, HX6⟩ := hrel
          have hl3 := HR5.out.2.1
          have x2 := (zbc HX6.out 2).trans (rfl : _ = some (Value.slice A5 (rd_T119 parts p).f2.length c5))
          have s6 := (zbc HI6.out.hs 6).trans (rfl : _ = some (Value.bool ok3))
          by_cases hkl : k < (rd_T119 parts p).f2.length
          ·have b2 : decide (k < (rd_T119 parts p).f2.length) = true := decide_eq_true hkl
           cases ok3 with
           | false =>
            have hTn : Zz (T = none) := ⟨by rw [← hT6.out]; cases S3 with | none => rfl | some _ => exact absurd HS6.out.1 (by simp)⟩
            go_wp2
            go_meet
            case rel => exact ⟨nx3, false, none, HI6, ⟨rfl, fun r h => by cases h⟩, ⟨hTn.out.symm⟩⟩
           | true =>
            obtain ⟨rfl, h3⟩ : S3 = some nx3 ∧ 0 ≤ nx3 := by
             cases S3 with
             | none => exact absurd HS6.out.1 (by simp)
             | some r => obtain ⟨h1, h2⟩ := HS6.out.2 r rfl; exact ⟨by rw [h1], h2⟩
            obtain ⟨ad5, A6, c6, hA6, hc6, hl6, HR6⟩ := at_L6 HR5.out k (by omega) (by omega)
            cases hA6
            replace hc6 : wr.cell? (ad5.add k) = some (.slice A6 (rd_L6 (rd_T119 parts p).f2 k).length c6) := (HI6.out.hB.cell (World.block_lt_of_cell? _ _ hc6)).trans hc6
            have hcp : wr.cell? (ad2.add i) = some (.int .i64 p) := (HI6.out.hB.cell (World.block_lt_of_cell? _ _ hcp0.out)).trans hcp0.out
            replace HR6 := Zz.mk HR6
            replace hl6 := Zz.mk hl6
            have hT7 : Zz ((((itemsG G' parts p (rd_L6 (rd_T119 parts p).f2 k) nx3).bind (altsG G' parts p ((rd_T119 parts p).f2.drop (k + 1)))).bind (finI p)).bind (itemsG G parts above (l.drop (i + 1))) = T) := ⟨by
             have := hT6.out
             rw [List.drop_eq_getElem_cons hkl] at this
             simp only [altsG, Option.bind_some] at this
             rw [← this]
             simp [rd_L6, List.getD_eq_getElem?_getD, List.getElem?_eq_getElem hkl]⟩
            have i0 : (0 : Int) ≤ (i : Int) := by omega
            have i1 : (i : Int) < (l.length : Int) := by omega
            have k0 : (0 : Int) ≤ (k : Int) := by omega
            have k1' : (k : Int) < ((rd_T119 parts p).f2.length : Int) := by omega
            go_wp2
            go_still_tail 10, (by kernel_rfl)
            change wpList _ _ _ _ _ wr.drew
            have HI7 := Zz.mk (HI6.out.below (below_drew (Below.refl _ _)))
            have HX7 := Zz.mk (show wr.drew.heap[xb]? = _ from HX6.out)
            clear x2 s6 HI6 HX6 hc6 hcp
            generalize wr.drew = wd at HI7 HX7 ⊢
            have C := Zz.mk (hdo.out nm v1 v2 v3 (some ad3) c4 A6 c6 (rd_L6 (rd_T119 parts p).f2 k) sb nx3 true (some nx3) w0 wd HR4.out HC4 HR6.out hl6.out hsb ⟨HI7.out.hs, HI7.out.hB, KeepBut.refl _ _ _⟩ ⟨rfl, fun r h => by cases h; exact ⟨rfl, h3⟩⟩ q0 hpa)
            go_wp2_with (go_at_call 56; refine C.out.mono ?_; rintro e w2 ⟨rfl, nx4, ok4, hI8, hT8⟩; have HI8 := Zz.mk (HI7.out.call hI8); have HX8 := Zz.mk ((hI8.hK.2 xb (blk_lt HX7.out) hxl (by simp)).trans HX7.out); replace hT8 := Zz.mk hT8; clear hI8)
            go_roundg ((rd_T119 parts p).f2.length - (k + 1))
            case measure => omega
            case rel => exact ⟨k + 1, nx4, ok4, _, by go_num, rfl, by omega, HI8, hT8, ⟨by rw [← hT7.out]; rfl⟩, HX8⟩
          ·have hk2 : k = (rd_T119 parts p).f2.length := by omega
           have b2 : decide (k < (rd_T119 parts p).f2.length) = false := decide_eq_false (by omega)
           have hT7 : Zz ((S3.bind (finI p)).bind (itemsG G parts above (l.drop (i + 1))) = T) := ⟨by
            have := hT6.out
            rw [hk2, List.drop_length] at this
            rw [← this]
            cases S3 <;> rfl⟩
           clear hk2 hT6
           go_wp2
           go_meet
           case rel => exact ⟨nx3, ok3, S3, HI6, HS6, hT7⟩
      ·have e3 : ((rd_T119 parts p).f0 == 3) = false := by simp; omega
       have e4 : ((rd_T119 parts p).f0 == 4) = false := by simp; omega
       have e5 : ((rd_T119 parts p).f0 == 5) = false := by simp; omega
       have hTn : Zz (T = none) := ⟨by rw [← hTp.out]; simp [itemG, show ¬ p < 0 by omega, show ¬ above ≤ p by omega, k1, k2, k3]⟩
       replace k3 := Zz.mk k3
       go_wp2
       go_meet
       case rel => exact ⟨nx, false, none, ⟨HI3.out.setOk hsb false⟩, ⟨rfl, fun r h => by cases h⟩, ⟨hTn.out.symm⟩⟩
     case rest =>
      clear HI3 HX hTp
      obtain ⟨nx2, ok2, S2, HI4, HS4, hT4⟩ := hcut
      have s5 := (zbc HI4.out.hs 5).trans (rfl : _ = some (Value.int .i64 nx2))
      have s6 := (zbc HI4.out.hs 6).trans (rfl : _ = some (Value.bool ok2))
      have f6 := zbf HI4.out.hs 6
      have hcp : wc.cell? (ad2.add i) = some (.int .i64 p) := (HI4.out.hB.cell (World.block_lt_of_cell? _ _ hcp0.out)).trans hcp0.out
      have i0 : (0 : Int) ≤ (i : Int) := by omega
      have i1 : (i : Int) < (l.length : Int) := by omega
      cases ok2 with
      | false =>
       have hTn : Zz (T = none) := ⟨by rw [← hT4.out]; cases S2 with | none => rfl | some _ => exact absurd HS4.out.1 (by simp)⟩
       have f5 := zbf HI4.out.hs 5
       go_wp2
       go_region
       have HI5 := Zz.mk ((HI4.out.setOk hsb false).below (below_drew (Below.refl _ _)))
       clear s5 s6 f6 f5 HI4 hcp
       generalize (wc.setCell ⟨sb, 6, none⟩ (.bool false)).drew = wd at HI5 ⊢
       have s5 := (zbc HI5.out.hs 5).trans (rfl : _ = some (Value.int .i64 nx2))
       have f5 := zbf HI5.out.hs 5
       go_wp2
       go_roundg (l.length - (i + 1))
       case measure => omega
       case rel => exact ⟨i + 1, wrap64 (nx2 + 1), false, none, by go_num, rfl, by omega, ⟨HI5.out.setNx hsb _⟩, ⟨rfl, fun r h => by cases h⟩, ⟨hTn.out.symm⟩⟩
      | true =>
       obtain ⟨rfl, h2⟩ : S2 = some nx2 ∧ 0 ≤ nx2 := by
        cases S2 with
        | none => exact absurd HS4.out.1 (by simp)
        | some r => obtain ⟨h1, h2⟩ := HS4.out.2 r rfl; exact ⟨by rw [h1], h2⟩
       by_cases hpm : p = nx2
       ·have e3 : (p == nx2) = true := by simp [hpm]
        have hm1 : nx2 ≤ 9223372036854775806 := by have := HR4.out.2.1; omega
        have hT5 : Zz ((some (nx2 + 1)).bind (itemsG G parts above (l.drop (i + 1))) = T) := ⟨by have := hT4.out; simp only [Option.bind_some, finI, if_pos hpm] at this; exact this⟩
        replace hpm := Zz.mk hpm
        have f5 := zbf HI4.out.hs 5
        go_wp2
        go_region
        have HI5 := Zz.mk ((HI4.out.setOk hsb true).below (below_drew (Below.refl _ _)))
        clear s5 s6 f6 f5 HI4 hcp
        generalize (wc.setCell ⟨sb, 6, none⟩ (.bool true)).drew = wd at HI5 ⊢
        have s5 := (zbc HI5.out.hs 5).trans (rfl : _ = some (Value.int .i64 nx2))
        have f5 := zbf HI5.out.hs 5
        go_wp2
        go_roundg (l.length - (i + 1))
        case measure => omega
        case rel => exact ⟨i + 1, nx2 + 1, true, some (nx2 + 1), by go_num, rfl, by omega, ⟨HI5.out.setNx hsb _⟩, ⟨rfl, fun r h => by cases h; exact ⟨rfl, by omega⟩⟩, hT5⟩
       ·have e3 : (p == nx2) = false := by simp [hpm]
        have hTn : Zz (T = none) := ⟨by have := hT4.out; simp only [Option.bind_some, finI, if_neg hpm] at this; exact this.symm⟩
        replace hpm := Zz.mk hpm
        have f5 := zbf HI4.out.hs 5
        go_wp2
        go_region
        have HI5 := Zz.mk ((HI4.out.setOk hsb false).below (below_drew (Below.refl _ _)))
        clear s5 s6 f6 f5 HI4 hcp
        generalize (wc.setCell ⟨sb, 6, none⟩ (.bool false)).drew = wd at HI5 ⊢
        have s5 := (zbc HI5.out.hs 5).trans (rfl : _ = some (Value.int .i64 nx2))
        have f5 := zbf HI5.out.hs 5
        go_wp2
        go_roundg (l.length - (i + 1))
        case measure => omega
        case rel => exact ⟨i + 1, _, false, none, by go_num, rfl, by omega, ⟨HI5.out.setNx hsb _⟩, ⟨rfl, fun r h => by cases h⟩, ⟨hTn.out.symm⟩⟩
    ·have hTn : Zz (T = none) := ⟨by
      rw [← hTp.out]
      cases hq : itemG G parts above p nx with
      | none => rfl
      | some r =>
       exfalso
       have := itemG_ge hge.out hq
       unfold itemG at hq
       by_cases h1 : p < 0
       ·simp [h1] at hq
       ·by_cases h2 : above ≤ p
        ·simp [h1, h2] at hq
        ·omega⟩
     have hw : wrap64 (above - 1) = above - 1 := wrap_in (by omega) (by have := HR4.out.2.1; omega)
     have i0 : (0 : Int) ≤ (i : Int) := by omega
     have i1 : (i : Int) < (l.length : Int) := by omega
     go_wp2
     go_quiet ((go_at_call 54; exact Calls.quiet_of (between_f hbt _)))
     go_wp2
     go_end0
     exact ⟨rfl, nx, false, (HI.out.setOk hsb false).below (zbn (Below.refl _ _) nq), by rw [hTn.out]; exact ⟨rfl, fun r h => by cases h⟩⟩
  ·have hi2 : i = l.length := by omega
   have b1 : decide (i < l.length) = false := decide_eq_false (by omega)
   have hT4 : Zz (S = T) := ⟨by have := hT.out; rw [hi2, List.drop_length] at this; rw [← this]; cases S <;> rfl⟩
   clear hi2 hT
   go_wp2
   go_end0
   exact ⟨rfl, nx, ok, HI.out, by rw [← hT4.out]; exact HS.out⟩
theorem items_all (parts : List S119) : ∀ (F : Nat) (above : Int), above ≤ F → ItemsDo parts (altsF parts F) above := by
 intro F
 induction F with
 | zero =>
  intro above hF nm v1 v2 v3 A4 c4 A c l sb nx ok S w0 w HR4 HC4 HRA HCA hsb HI HS hab hb
  exact items_step _ above nm v1 v2 v3 A4 c4 parts A c l sb nx ok S w0 w (altsF_ge parts 0) (fun p h0 h1 => by omega) HR4 HC4 HRA HCA hsb HI HS hab hb
 | succ F ih =>
  intro above hF nm v1 v2 v3 A4 c4 A c l sb nx ok S w0 w HR4 HC4 HRA HCA hsb HI HS hab hb
  exact items_step _ above nm v1 v2 v3 A4 c4 parts A c l sb nx ok S w0 w (altsF_ge parts (F + 1)) (fun p h0 h1 => ⟨altsF parts F, fun _ _ => rfl, ih p (by omega)⟩) HR4 HC4 HRA HCA hsb HI HS hab hb
end Go.Proofs.Ythcmamcbnjphgaa.PFnExactGrammarShow
namespace Go.Proofs.Ythcmamcbnjphgaa.PFnExactGrammarShow
open Go.RowKit Go.Proofs.YthcmamcbnjphgaaW.PrintWords Go.Proofs.YthcmamcbnjphgaaW.PrintLast Go.Proofs.YthcmamcbnjphgaaW.PrintMore
attribute [local go_sem] max2_int min2_int max_two min_two max_three min_three max_four min_four   -- for this text's walks alone
def spec_l03Small.f (a0_0 : ByteArray) (l0_1 : List (S51)) (l0_2 : List (S54)) (l0_3 : List (S59)) (l0_4 : List (S119)) : Option (Bool) := if (l0_1.length : Int) ≤ 20 then (if (l0_2.length : Int) ≤ 8 then (if (l0_3.length : Int) ≤ 30 then (some (decide ((l0_4.length : Int) ≤ 200))) else (some false)) else (some false)) else (some false)
set_option maxHeartbeats 8000000 in
set_option maxRecDepth 100000 in
theorem spec_l03Small.calls (a0_0 : ByteArray) (A0_1 : Option Addr) (c0_1 : Nat) (l0_1 : List (S51)) (A0_2 : Option Addr) (c0_2 : Nat) (l0_2 : List (S54)) (A0_3 : Option Addr) (c0_3 : Nat) (l0_3 : List (S59)) (A0_4 : Option Addr) (c0_4 : Nat) (l0_4 : List (S119)) (r : Bool) (w : World) (hr0_1 : Kd.C k51 w A0_1 l0_1.length l0_1) (hc0_1 : l0_1.length ≤ c0_1) (hr0_2 : Kd.C k54 w A0_2 l0_2.length l0_2) (hc0_2 : l0_2.length ≤ c0_2) (hr0_3 : Kd.C k59 w A0_3 l0_3.length l0_3) (hc0_3 : l0_3.length ≤ c0_3) (hr0_4 : Kd.C k119 w A0_4 l0_4.length l0_4) (hc0_4 : l0_4.length ≤ c0_4) (h : spec_l03Small.f a0_0 l0_1 l0_2 l0_3 l0_4 = some r) :
  Calls Try.prog 51 #[.agg #[.string a0_0, .slice A0_1 l0_1.length c0_1, .slice A0_2 l0_2.length c0_2, .slice A0_3 l0_3.length c0_3, .slice A0_4 l0_4.length c0_4]] w fun e w' => e = .returned (.bool r) ∧ Below w.heap.size w w' := by
 have hu36 := Try.underlying36
 have HR0_1 := Zz.mk hr0_1
 have HC0_1 := Zz.mk hc0_1
 clear hr0_1 hc0_1
 have HR0_2 := Zz.mk hr0_2
 have HC0_2 := Zz.mk hc0_2
 clear hr0_2 hc0_2
 have HR0_3 := Zz.mk hr0_3
 have HC0_3 := Zz.mk hc0_3
 clear hr0_3 hc0_3
 have HR0_4 := Zz.mk hr0_4
 have HC0_4 := Zz.mk hc0_4
 clear hr0_4 hc0_4
 have HB := Zz.mk (Below.refl w.heap.size w)
 have H : (if (l0_1.length : Int) ≤ 20 then (if (l0_2.length : Int) ≤ 8 then (if (l0_3.length : Int) ≤ 30 then (some (decide ((l0_4.length : Int) ≤ 200))) else (some false)) else (some false)) else (some false)) = some r := h
 clear h
 by_cases c2 : (l0_1.length : Int) ≤ 20
 ·rw [if_pos c2] at H
  have c2b0 : decide ((l0_1.length : Int) ≤ 20) = true := decide_eq_true c2
  have c2b1 : decide (l0_1.length ≤ 20) = true := decide_eq_true (by omega)
  clear c2
  by_cases c3 : (l0_2.length : Int) ≤ 8
  ·rw [if_pos c3] at H
   have c3b0 : decide ((l0_2.length : Int) ≤ 8) = true := decide_eq_true c3
   have c3b1 : decide (l0_2.length ≤ 8) = true := decide_eq_true (by omega)
   clear c3
   by_cases c4 : (l0_3.length : Int) ≤ 30
   ·rw [if_pos c4] at H
    have c4b0 : decide ((l0_3.length : Int) ≤ 30) = true := decide_eq_true c4
    have c4b1 : decide (l0_3.length ≤ 30) = true := decide_eq_true (by omega)
    clear c4
    obtain rfl := Option.some.inj H
    go_enter Try.func51, Try.ntmps51
    go_wp2_with (first | ((with_reducible refine gate_dst (N := 1) rfl ?_); (try (refine gate_guard (by rfl) ?_; dsimp only)); refine box_event ?hg (N := 1) ?hd (cs := #[.string a0_0, .slice A0_1 l0_1.length c0_1, .slice A0_2 l0_2.length c0_2, .slice A0_3 l0_3.length c0_3, .slice A0_4 l0_4.length c0_4]) (t := 36) ?hr ?_; (case hd => rfl); (case hg => rfl); (case hr => first | (go_simp; done) | (go_simp; rfl)); intro gb128 hg w5 hbox hb; have n0_ := Zz.mk (below_step (by repeat (first | (with_reducible first | exact HB.out | apply zba | apply zbn | apply zb1) | exact HB.out)) hb); have n1_ := Zz.mk (hbox); have n2_ := Zz.mk ((by rw [hg]; exact (zsz (by repeat (first | (with_reducible first | exact HB.out | apply zba | apply zbn | apply zb1) | exact HB.out))) : w.heap.size ≤ gb128)); have n3_ := Zz.mk ((by rw [hg]; exact (zsz (by repeat (first | (with_reducible first | exact HB.out | apply zba | apply zbn | apply zb1) | exact HB.out))) : w.heap.size ≤ gb128)); clear HB; have HB := n0_; have BK128 := n1_; have GW128 := n2_; have GE128 := n3_; clear n0_ n1_ n2_ n3_; clear hb hbox hg; have hcz6_0 : w5.cell? ⟨gb128, 0, none⟩ = some (.string a0_0) := (zbc BK128.out 0).trans rfl; have hcz6_1 : w5.cell? ⟨gb128, 1, none⟩ = some (.slice A0_1 l0_1.length c0_1) := (zbc BK128.out 1).trans rfl; have hcz6_2 : w5.cell? ⟨gb128, 2, none⟩ = some (.slice A0_2 l0_2.length c0_2) := (zbc BK128.out 2).trans rfl; have hcz6_3 : w5.cell? ⟨gb128, 3, none⟩ = some (.slice A0_3 l0_3.length c0_3) := (zbc BK128.out 3).trans rfl; have hcz6_4 : w5.cell? ⟨gb128, 4, none⟩ = some (.slice A0_4 l0_4.length c0_4) := (zbc BK128.out 4).trans rfl; have hfz6_0 := zbf BK128.out 0; have hfz6_1 := zbf BK128.out 1; have hfz6_2 := zbf BK128.out 2; have hfz6_3 := zbf BK128.out 3; have hfz6_4 := zbf BK128.out 4))
    go_ret
    exact ⟨by first | rfl | (simp [errW_none, errW_some] <;> rfl) | (simp [*, errW_none, errW_some] <;> rfl), by repeat (first | (with_reducible first | exact HB.out | apply zba | apply zbn | apply zb1 | refine zbs ?_ GE128.out) | exact HB.out)⟩
   ·rw [if_neg c4] at H
    have c4b0 : decide ((l0_3.length : Int) ≤ 30) = false := decide_eq_false c4
    have c4b1 : decide (l0_3.length ≤ 30) = false := decide_eq_false (by omega)
    clear c4
    obtain rfl := Option.some.inj H
    go_enter Try.func51, Try.ntmps51
    go_wp2_with (first | ((with_reducible refine gate_dst (N := 1) rfl ?_); (try (refine gate_guard (by rfl) ?_; dsimp only)); refine box_event ?hg (N := 1) ?hd (cs := #[.string a0_0, .slice A0_1 l0_1.length c0_1, .slice A0_2 l0_2.length c0_2, .slice A0_3 l0_3.length c0_3, .slice A0_4 l0_4.length c0_4]) (t := 36) ?hr ?_; (case hd => rfl); (case hg => rfl); (case hr => first | (go_simp; done) | (go_simp; rfl)); intro gb128 hg w7 hbox hb; have n0_ := Zz.mk (below_step (by repeat (first | (with_reducible first | exact HB.out | apply zba | apply zbn | apply zb1) | exact HB.out)) hb); have n1_ := Zz.mk (hbox); have n2_ := Zz.mk ((by rw [hg]; exact (zsz (by repeat (first | (with_reducible first | exact HB.out | apply zba | apply zbn | apply zb1) | exact HB.out))) : w.heap.size ≤ gb128)); have n3_ := Zz.mk ((by rw [hg]; exact (zsz (by repeat (first | (with_reducible first | exact HB.out | apply zba | apply zbn | apply zb1) | exact HB.out))) : w.heap.size ≤ gb128)); clear HB; have HB := n0_; have BK128 := n1_; have GW128 := n2_; have GE128 := n3_; clear n0_ n1_ n2_ n3_; clear hb hbox hg; have hcz8_0 : w7.cell? ⟨gb128, 0, none⟩ = some (.string a0_0) := (zbc BK128.out 0).trans rfl; have hcz8_1 : w7.cell? ⟨gb128, 1, none⟩ = some (.slice A0_1 l0_1.length c0_1) := (zbc BK128.out 1).trans rfl; have hcz8_2 : w7.cell? ⟨gb128, 2, none⟩ = some (.slice A0_2 l0_2.length c0_2) := (zbc BK128.out 2).trans rfl; have hcz8_3 : w7.cell? ⟨gb128, 3, none⟩ = some (.slice A0_3 l0_3.length c0_3) := (zbc BK128.out 3).trans rfl; have hcz8_4 : w7.cell? ⟨gb128, 4, none⟩ = some (.slice A0_4 l0_4.length c0_4) := (zbc BK128.out 4).trans rfl; have hfz8_0 := zbf BK128.out 0; have hfz8_1 := zbf BK128.out 1; have hfz8_2 := zbf BK128.out 2; have hfz8_3 := zbf BK128.out 3; have hfz8_4 := zbf BK128.out 4))
    go_ret
    exact ⟨by first | rfl | (simp [errW_none, errW_some] <;> rfl) | (simp [*, errW_none, errW_some] <;> rfl), by repeat (first | (with_reducible first | exact HB.out | apply zba | apply zbn | apply zb1 | refine zbs ?_ GE128.out) | exact HB.out)⟩
  ·rw [if_neg c3] at H
   have c3b0 : decide ((l0_2.length : Int) ≤ 8) = false := decide_eq_false c3
   have c3b1 : decide (l0_2.length ≤ 8) = false := decide_eq_false (by omega)
   clear c3
   obtain rfl := Option.some.inj H
   go_enter Try.func51, Try.ntmps51
   go_wp2_with (first | ((with_reducible refine gate_dst (N := 1) rfl ?_); (try (refine gate_guard (by rfl) ?_; dsimp only)); refine box_event ?hg (N := 1) ?hd (cs := #[.string a0_0, .slice A0_1 l0_1.length c0_1, .slice A0_2 l0_2.length c0_2, .slice A0_3 l0_3.length c0_3, .slice A0_4 l0_4.length c0_4]) (t := 36) ?hr ?_; (case hd => rfl); (case hg => rfl); (case hr => first | (go_simp; done) | (go_simp; rfl)); intro gb128 hg w9 hbox hb; have n0_ := Zz.mk (below_step (by repeat (first | (with_reducible first | exact HB.out | apply zba | apply zbn | apply zb1) | exact HB.out)) hb); have n1_ := Zz.mk (hbox); have n2_ := Zz.mk ((by rw [hg]; exact (zsz (by repeat (first | (with_reducible first | exact HB.out | apply zba | apply zbn | apply zb1) | exact HB.out))) : w.heap.size ≤ gb128)); have n3_ := Zz.mk ((by rw [hg]; exact (zsz (by repeat (first | (with_reducible first | exact HB.out | apply zba | apply zbn | apply zb1) | exact HB.out))) : w.heap.size ≤ gb128)); clear HB; have HB := n0_; have BK128 := n1_; have GW128 := n2_; have GE128 := n3_; clear n0_ n1_ n2_ n3_; clear hb hbox hg; have hcz10_0 : w9.cell? ⟨gb128, 0, none⟩ = some (.string a0_0) := (zbc BK128.out 0).trans rfl; have hcz10_1 : w9.cell? ⟨gb128, 1, none⟩ = some (.slice A0_1 l0_1.length c0_1) := (zbc BK128.out 1).trans rfl; have hcz10_2 : w9.cell? ⟨gb128, 2, none⟩ = some (.slice A0_2 l0_2.length c0_2) := (zbc BK128.out 2).trans rfl; have hcz10_3 : w9.cell? ⟨gb128, 3, none⟩ = some (.slice A0_3 l0_3.length c0_3) := (zbc BK128.out 3).trans rfl; have hcz10_4 : w9.cell? ⟨gb128, 4, none⟩ = some (.slice A0_4 l0_4.length c0_4) := (zbc BK128.out 4).trans rfl; have hfz10_0 := zbf BK128.out 0; have hfz10_1 := zbf BK128.out 1; have hfz10_2 := zbf BK128.out 2; have hfz10_3 := zbf BK128.out 3; have hfz10_4 := zbf BK128.out 4))
   go_ret
   exact ⟨by first | rfl | (simp [errW_none, errW_some] <;> rfl) | (simp [*, errW_none, errW_some] <;> rfl), by repeat (first | (with_reducible first | exact HB.out | apply zba | apply zbn | apply zb1 | refine zbs ?_ GE128.out) | exact HB.out)⟩
 ·rw [if_neg c2] at H
  have c2b0 : decide ((l0_1.length : Int) ≤ 20) = false := decide_eq_false c2
  have c2b1 : decide (l0_1.length ≤ 20) = false := decide_eq_false (by omega)
  clear c2
  obtain rfl := Option.some.inj H
  go_enter Try.func51, Try.ntmps51
  go_wp2_with (first | ((with_reducible refine gate_dst (N := 1) rfl ?_); (try (refine gate_guard (by rfl) ?_; dsimp only)); refine box_event ?hg (N := 1) ?hd (cs := #[.string a0_0, .slice A0_1 l0_1.length c0_1, .slice A0_2 l0_2.length c0_2, .slice A0_3 l0_3.length c0_3, .slice A0_4 l0_4.length c0_4]) (t := 36) ?hr ?_; (case hd => rfl); (case hg => rfl); (case hr => first | (go_simp; done) | (go_simp; rfl)); intro gb128 hg w11 hbox hb; have n0_ := Zz.mk (below_step (by repeat (first | (with_reducible first | exact HB.out | apply zba | apply zbn | apply zb1) | exact HB.out)) hb); have n1_ := Zz.mk (hbox); have n2_ := Zz.mk ((by rw [hg]; exact (zsz (by repeat (first | (with_reducible first | exact HB.out | apply zba | apply zbn | apply zb1) | exact HB.out))) : w.heap.size ≤ gb128)); have n3_ := Zz.mk ((by rw [hg]; exact (zsz (by repeat (first | (with_reducible first | exact HB.out | apply zba | apply zbn | apply zb1) | exact HB.out))) : w.heap.size ≤ gb128)); clear HB; have HB := n0_; have BK128 := n1_; have GW128 := n2_; have GE128 := n3_; clear n0_ n1_ n2_ n3_; clear hb hbox hg; have hcz12_0 : w11.cell? ⟨gb128, 0, none⟩ = some (.string a0_0) := (zbc BK128.out 0).trans rfl; have hcz12_1 : w11.cell? ⟨gb128, 1, none⟩ = some (.slice A0_1 l0_1.length c0_1) := (zbc BK128.out 1).trans rfl; have hcz12_2 : w11.cell? ⟨gb128, 2, none⟩ = some (.slice A0_2 l0_2.length c0_2) := (zbc BK128.out 2).trans rfl; have hcz12_3 : w11.cell? ⟨gb128, 3, none⟩ = some (.slice A0_3 l0_3.length c0_3) := (zbc BK128.out 3).trans rfl; have hcz12_4 : w11.cell? ⟨gb128, 4, none⟩ = some (.slice A0_4 l0_4.length c0_4) := (zbc BK128.out 4).trans rfl; have hfz12_0 := zbf BK128.out 0; have hfz12_1 := zbf BK128.out 1; have hfz12_2 := zbf BK128.out 2; have hfz12_3 := zbf BK128.out 3; have hfz12_4 := zbf BK128.out 4))
  go_ret
  exact ⟨by first | rfl | (simp [errW_none, errW_some] <;> rfl) | (simp [*, errW_none, errW_some] <;> rfl), by repeat (first | (with_reducible first | exact HB.out | apply zba | apply zbn | apply zb1 | refine zbs ?_ GE128.out) | exact HB.out)⟩
end Go.Proofs.Ythcmamcbnjphgaa.PFnExactGrammarShow
namespace Go.Proofs.Ythcmamcbnjphgaa.PFnExactGrammarShow
open Go.RowKit Go.Proofs.YthcmamcbnjphgaaW.PrintWords Go.Proofs.YthcmamcbnjphgaaW.PrintLast Go.Proofs.YthcmamcbnjphgaaW.PrintMore
def smallB (toks : List S51) (levs : List S54) (rules : List S59) (parts : List S119) : Bool := decide (toks.length ≤ 20 ∧ levs.length ≤ 8 ∧ rules.length ≤ 30 ∧ parts.length ≤ 200)
def tokB (t : S51) : Bool := plainB t.f0 && patB t.f1
def levB (l : S54) : Bool := decide (1 ≤ l.f0 ∧ l.f0 ≤ 3) && (decide (l.f1.length ≠ 0) && l.f1.all litB)
def labB (a : S75) : Bool := decide (a.f1.size = 0) || plainB a.f1
def altL (parts : List S119) : List S75 → Int → Option Int
 | [], n => some n
 | a :: r, n => if labB a = true then (itemsG (altsF parts parts.length) parts parts.length a.f0 n).bind (altL parts r) else none
def ruleL (parts : List S119) : List S59 → Int → Option Int
 | [], n => some n
 | x :: r, n => if plainB x.f0 = true then (if x.f1.length = 0 then none else (altL parts x.f1 n).bind (ruleL parts r)) else none
def endB (parts : List S119) (o : Option Int) : Bool := decide (o = some (parts.length : Int))
def okB (nm : ByteArray) (toks : List S51) (levs : List S54) (rules : List S59) (parts : List S119) : Bool :=
 smallB toks levs rules parts && (plainB nm && (toks.all tokB && (levs.all levB && endB parts (ruleL parts rules 0))))
theorem all_drop {α : Type} (p : α → Bool) (l : List α) (d : α) (i : Nat) (h : i < l.length) : (l.drop i).all p = (p (l.getD i d) && (l.drop (i + 1)).all p) := by
 rw [List.drop_eq_getElem_cons h, List.all_cons]
 simp [List.getD_eq_getElem?_getD, List.getElem?_eq_getElem h]
theorem small_eval (nm : ByteArray) (toks : List S51) (levs : List S54) (rules : List S59) (parts : List S119) : spec_l03Small.f nm toks levs rules parts = some (smallB toks levs rules parts) := by
 unfold spec_l03Small.f smallB
 repeat' split
 all_goals (rw [Option.some.injEq])
 ·exact decide_eq_decide.mpr (by omega)
 all_goals (rw [eq_comm]; exact decide_eq_false (by omega))
theorem spec_pat_any (s : ByteArray) (w : World) : Calls Try.prog 53 #[.string s] w fun e w' => e = .returned (.bool (patB s)) ∧ Drawn0 w w' := spec_l03RxOK.calls 110 s _ w (spec_pat_eval s 110 (by omega))
theorem str_at {w : World} {A : Option Addr} {n : Nat} {xs : List ByteArray} (h : Kd.C Kd.string w A n xs) (i : Nat) (h1 : i < n) : ∃ ad, A = some ad ∧ w.cell? (ad.add i) = some (.string (xs.getD i ByteArray.empty)) := by
 obtain ⟨ad, c, e, _, hK, hc⟩ := Kd.C_get h ByteArray.empty i (by omega) (by omega)
 refine ⟨ad, e, ?_⟩
 have hK' : c = [Value.string (xs.getD i ByteArray.empty)] := hK
 have := hc 0 (.string (xs.getD i ByteArray.empty)) (by rw [hK']; rfl)
 simpa [Kd.string, Kd.scalar] using this
structure GInv (w : World) (nm : ByteArray) (v1 v2 v3 v4 : Value) (wr : World) : Prop where
 hg : wr.heap[w.heap.size]? = some (.cells #[.string nm, v1, v2, v3, v4] 36 (0, 0))
 hB : Below w.heap.size w wr
theorem GInv.below {w : World} {nm : ByteArray} {v1 v2 v3 v4 : Value} {wr w2 : World} (h : GInv w nm v1 v2 v3 v4 wr) (k : Below wr.heap.size wr w2) : GInv w nm v1 v2 v3 v4 w2 := ⟨blk_below h.hg k, below_chain h.hB h.hB.size k⟩
theorem GInv.start (w : World) (nm : ByteArray) (v1 v2 v3 v4 : Value) : GInv w nm v1 v2 v3 v4 (w.alloc (.cells #[.string nm, v1, v2, v3, v4] 36)) := ⟨heap_alloc_new w _, below_self_alloc w _⟩
def BPost (w : World) (R : Bool) (e : Ending) (w' : World) : Prop := e = .returned (.bool R) ∧ Below w.heap.size w w'
theorem BPost.of {w w' : World} {R b : Bool} (hb : Below w.heap.size w w') (h : R = b) : BPost w R (.returned (.bool b)) w' := ⟨by rw [h], hb⟩
set_option maxHeartbeats 2000000 in
set_option maxRecDepth 100000 in
theorem specOK_walk (nm : ByteArray) (A1 : Option Addr) (c1 : Nat) (toks : List S51) (A2 : Option Addr) (c2 : Nat) (levs : List S54) (A3 : Option Addr) (c3 : Nat) (rules : List S59) (A4 : Option Addr) (c4 : Nat) (parts : List S119) (w : World)
  (H1 : Kd.C k51 w A1 toks.length toks) (L1 : toks.length ≤ c1) (H2 : Kd.C k54 w A2 levs.length levs) (L2 : levs.length ≤ c2) (H3 : Kd.C k59 w A3 rules.length rules) (L3 : rules.length ≤ c3) (H4 : Kd.C k119 w A4 parts.length parts) (L4 : parts.length ≤ c4) :
  Calls Try.prog 18 #[.agg #[.string nm, .slice A1 toks.length c1, .slice A2 levs.length c2, .slice A3 rules.length c3, .slice A4 parts.length c4]] w (BPost w (okB nm toks levs rules parts)) := by
 generalize hR : okB nm toks levs rules parts = R
 replace hR := Zz.mk hR
 have HI := Zz.mk (GInv.start w nm (.slice A1 toks.length c1) (.slice A2 levs.length c2) (.slice A3 rules.length c3) (.slice A4 parts.length c4))
 replace H1 := Zz.mk H1
 replace H2 := Zz.mk H2
 replace H3 := Zz.mk H3
 replace H4 := Zz.mk H4
 go_enter Try.func18, Try.ntmps18
 have HS := Zz.mk (spec_l03Small.calls nm A1 c1 toks A2 c2 levs A3 c3 rules A4 c4 parts _ (w.alloc (.cells #[.string nm, .slice A1 toks.length c1, .slice A2 levs.length c2, .slice A3 rules.length c3, .slice A4 parts.length c4] 36)) (Kd.C_below H1.out HI.out.hB) L1 (Kd.C_below H2.out HI.out.hB) L2 (Kd.C_below H3.out HI.out.hB) L3 (Kd.C_below H4.out HI.out.hB) L4 (small_eval nm toks levs rules parts))
 have SM : ∃ b, b = smallB toks levs rules parts := ⟨_, rfl⟩
 obtain ⟨b, hb⟩ := SM
 rw [← hb] at HS
 have hR1 : Zz (R = (b && (plainB nm && (toks.all tokB && (levs.all levB && endB parts (ruleL parts rules 0)))))) := ⟨by rw [← hR.out, hb]; rfl⟩
 clear hb hR
 cases b with
 | false =>
  go_wp2_with (go_at_call 51; refine HS.out.mono ?_; rintro e w2 ⟨rfl, hbl⟩; have hbl := Zz.mk (below_chain HI.out.hB HI.out.hB.size hbl))
  go_ret
  exact BPost.of hbl.out hR1.out
 | true =>
  cases hp : plainB nm with
  | false =>
   go_wp2_with (first | (go_at_call 51; refine HS.out.mono ?_; rintro e w2 ⟨rfl, hbl⟩; have HI2 := Zz.mk (HI.out.below hbl); clear hbl; have g0 := (zbc HI2.out.hg 0).trans (rfl : _ = some (Value.string nm))) | (go_at_call 52; refine (spec_plain_any _ _).mono ?_; rintro e w3 ⟨rfl, hbl⟩; have HI3 := Zz.mk (HI2.out.below hbl); clear hbl))
   go_ret
   exact BPost.of HI3.out.hB (by rw [hR1.out, hp]; rfl)
  | true =>
   go_wp2_with (first | (go_at_call 51; refine HS.out.mono ?_; rintro e w2 ⟨rfl, hbl⟩; have HI2 := Zz.mk (HI.out.below hbl); clear hbl; have g0 := (zbc HI2.out.hg 0).trans (rfl : _ = some (Value.string nm))) | (go_at_call 52; refine (spec_plain_any _ _).mono ?_; rintro e w3 ⟨rfl, hbl⟩; have HI3 := Zz.mk (HI2.out.below hbl); clear hbl; clear g0))
   have hR2 : Zz (R = (toks.all tokB && (levs.all levB && endB parts (ruleL parts rules 0)))) := ⟨by rw [hR1.out, hp]; rfl⟩
   clear HS hR1 hp HI HI2
   go_loopg [3] toks.length (fun gk v3 wr => ∃ i : Nat, v3 = .int .i64 i ∧ gk = toks.length - i ∧ i ≤ toks.length ∧ Zz (GInv w nm (.slice A1 toks.length c1) (.slice A2 levs.length c2) (.slice A3 rules.length c3) (.slice A4 parts.length c4) wr) ∧ Zz (R = ((toks.drop i).all tokB && (levs.all levB && endB parts (ruleL parts rules 0)))))
   case atStart => exact ⟨0, rfl, by omega, by omega, HI3, hR2⟩
   case round =>
    clear HI3 hR2
    obtain ⟨i, rfl, hgk, hi, HI, hR⟩ := hrel
    have hl := H1.out.2.1
    have g1 := (zbc HI.out.hg 1).trans (rfl : _ = some (Value.slice A1 toks.length c1))
    by_cases hlt : i < toks.length
    ·have b1 : decide (i < toks.length) = true := decide_eq_true hlt
     obtain ⟨ad, hA, hx0, hx1, _⟩ := at_T51 (Kd.C_below H1.out HI.out.hB) i (by omega) (by omega)
     cases hA
     replace hx0 : wr.cell? (ad.add (i * 3)) = some (.string (rd_T51 toks i).f0) := hx0
     replace hx1 : wr.cell? ⟨(ad.add (i * 3)).block, (ad.add (i * 3)).off + 1, none⟩ = some (.string (rd_T51 toks i).f1) := hx1
     have hR3 : R = (tokB (rd_T51 toks i) && ((toks.drop (i + 1)).all tokB && (levs.all levB && endB parts (ruleL parts rules 0)))) := by rw [hR.out, all_drop tokB toks z51 i hlt, Bool.and_assoc]; rfl
     generalize rd_T51 toks i = tk at hx0 hx1 hR3
     replace hR3 := Zz.mk hR3
     clear hR
     cases hp : plainB tk.f0 with
     | false =>
      go_wp2_with (go_at_call 52; refine (spec_plain_any _ _).mono ?_; rintro e w3 ⟨rfl, hbl⟩; have HI3 := Zz.mk (HI.out.below hbl); clear hbl)
      go_ret
      exact BPost.of HI3.out.hB (by rw [hR3.out, tokB, hp]; rfl)
     | true =>
      cases hq : patB tk.f1 with
      | false =>
       go_wp2_with (first | (go_at_call 52; refine (spec_plain_any _ _).mono ?_; rintro e w3 ⟨rfl, hbl⟩; have HI3 := Zz.mk (HI.out.below hbl); have g1' := (zbc HI3.out.hg 1).trans (rfl : _ = some (Value.slice (some ad) toks.length c1)); have hx1' := (hbl.cell (World.block_lt_of_cell? _ _ hx1)).trans hx1; clear hbl) | (go_at_call 53; refine (spec_pat_any _ _).mono ?_; rintro e w4 ⟨rfl, hd⟩; obtain ⟨⟨nd, rfl⟩⟩ := hd))
       go_ret
       exact BPost.of (zbn HI3.out.hB _) (by rw [hR3.out, tokB, hp, hq]; rfl)
      | true =>
       go_wp2_with (first | (go_at_call 52; refine (spec_plain_any _ _).mono ?_; rintro e w3 ⟨rfl, hbl⟩; have HI3 := Zz.mk (HI.out.below hbl); have g1' := (zbc HI3.out.hg 1).trans (rfl : _ = some (Value.slice (some ad) toks.length c1)); have hx1' := (hbl.cell (World.block_lt_of_cell? _ _ hx1)).trans hx1; clear hbl) | (go_at_call 53; refine (spec_pat_any _ _).mono ?_; rintro e w4 ⟨rfl, hd⟩; obtain ⟨⟨nd, rfl⟩⟩ := hd))
       go_roundg (toks.length - (i + 1))
       case measure => omega
       case rel => exact ⟨i + 1, by go_num, rfl, by omega, ⟨HI3.out.below (zbn (Below.refl _ _) _)⟩, ⟨by rw [hR3.out, tokB, hp, hq]; rfl⟩⟩
    ·have b1 : decide (i < toks.length) = false := decide_eq_false hlt
     have hR3 : Zz (R = (levs.all levB && endB parts (ruleL parts rules 0))) := ⟨by rw [hR.out, List.drop_of_length_le (by omega)]; rfl⟩
     clear hR hl
     go_wp2
     clear g1
     go_loopg [4] levs.length (fun gk v4 wr => ∃ i : Nat, v4 = .int .i64 i ∧ gk = levs.length - i ∧ i ≤ levs.length ∧ Zz (GInv w nm (.slice A1 toks.length c1) (.slice A2 levs.length c2) (.slice A3 rules.length c3) (.slice A4 parts.length c4) wr) ∧ Zz (R = ((levs.drop i).all levB && endB parts (ruleL parts rules 0))))
     case atStart => exact ⟨0, rfl, by omega, by omega, HI, hR3⟩
     case round =>
      clear HI hR3 hlt b1
      obtain ⟨i, rfl, hgk, hi, HI, hR⟩ := hrel
      have hl := H2.out.2.1
      have g2 := (zbc HI.out.hg 2).trans (rfl : _ = some (Value.slice A2 levs.length c2))
      by_cases hlt : i < levs.length
      ·have b1 : decide (i < levs.length) = true := decide_eq_true hlt
       obtain ⟨ad, A5, c5, hA, hx0, hx1, hl5, HR5⟩ := at_T54 H2.out i (by omega) (by omega)
       cases hA
       replace hx0 : wr.cell? (ad.add (i * 2)) = some (.int .i64 (rd_T54 levs i).f0) := (HI.out.hB.cell (World.block_lt_of_cell? _ _ hx0)).trans hx0
       replace hx1 : wr.cell? ⟨(ad.add (i * 2)).block, (ad.add (i * 2)).off + 1, none⟩ = some (.slice A5 (rd_T54 levs i).f1.length c5) := (HI.out.hB.cell (World.block_lt_of_cell? _ _ hx1)).trans hx1
       have hR4 : R = (levB (rd_T54 levs i) && ((levs.drop (i + 1)).all levB && endB parts (ruleL parts rules 0))) := by rw [hR.out, all_drop levB levs z54 i hlt, Bool.and_assoc]; rfl
       generalize rd_T54 levs i = lv at hx0 hx1 hR4 hl5 HR5
       replace hR4 := Zz.mk hR4
       replace HR5 := Zz.mk HR5
       replace hl5 := Zz.mk hl5
       clear hR
       go_upto_region 12 with (fail)
       have HI4 := Zz.mk (HI.out.below (below_self_alloc wr (.cells #[.int .i64 lv.f0, .slice A5 lv.f1.length c5] 54)))
       have HX := Zz.mk (show (wr.alloc (.cells #[.int .i64 lv.f0, .slice A5 lv.f1.length c5] 54)).heap[wr.heap.size]? = some (.cells #[.int .i64 lv.f0, .slice A5 lv.f1.length c5] 54 (0, 0)) from heap_alloc_new wr _)
       have hlv := hl
       clear HI hx0 hx1 g2 hl
       generalize wr.heap.size = xb at HX ⊢
       generalize wr.alloc (.cells #[.int .i64 lv.f0, .slice A5 lv.f1.length c5] 54) = wz at HI4 HX ⊢
       have x0 := (zbc HX.out 0).trans (rfl : _ = some (Value.int .i64 lv.f0))
       have x1 := (zbc HX.out 1).trans (rfl : _ = some (Value.slice A5 lv.f1.length c5))
       by_cases ha : 1 ≤ lv.f0 ∧ lv.f0 ≤ 3
       ·by_cases hz : lv.f1.length = 0
        ·have z1 : (lv.f1.length == 0) = true := by simp [hz]
         have z2 : ((lv.f1.length : Int) == 0) = true := by simp [hz]
         have hRn : Zz (R = false) := ⟨by rw [hR4.out, levB, decide_eq_false (show ¬ lv.f1.length ≠ 0 by omega)]; simp⟩
         replace hz := Zz.mk hz
         replace ha := Zz.mk ha
         go_wp2_with (go_at_call 54; refine (between_t ha.out _).mono ?_; rintro e w4 ⟨rfl, nd, rfl⟩)
         go_ret
         exact BPost.of (zbn HI4.out.hB _) hRn.out
        ·have z1 : (lv.f1.length == 0) = false := by simp [hz]
         have z2 : ((lv.f1.length : Int) == 0) = false := beq_eq_false_iff_ne.mpr (by omega)
         have hR5 : Zz (R = (lv.f1.all litB && ((levs.drop (i + 1)).all levB && endB parts (ruleL parts rules 0)))) := ⟨by rw [hR4.out, levB, decide_eq_true ha, decide_eq_true (show lv.f1.length ≠ 0 by omega)]; simp [Bool.and_assoc]⟩
         replace hz := Zz.mk hz
         replace ha := Zz.mk ha
         clear hR4
         go_wp2_with (go_at_call 54; refine (between_t ha.out _).mono ?_; rintro e w4 ⟨rfl, nd, rfl⟩; have HI5 := Zz.mk (HI4.out.below (zbn (Below.refl _ _) nd)); have HX5 := Zz.mk (show (wz.drewN nd).heap[xb]? = some (.cells #[.int .i64 lv.f0, .slice A5 lv.f1.length c5] 54 (0, 0)) from HX.out))
         clear HI4 HX x0 x1
         generalize wz.drewN nd = wq at HI5 HX5 ⊢
         go_loopg [6] lv.f1.length (fun gk v6 wr => ∃ k : Nat, v6 = .int .i64 k ∧ gk = lv.f1.length - k ∧ k ≤ lv.f1.length ∧ Zz (GInv w nm (.slice A1 toks.length c1) (.slice (some ad) levs.length c2) (.slice A3 rules.length c3) (.slice A4 parts.length c4) wr) ∧ Zz (wr.heap[xb]? = some (.cells #[.int .i64 lv.f0, .slice A5 lv.f1.length c5] 54 (0, 0))) ∧ Zz (R = ((lv.f1.drop k).all litB && ((levs.drop (i + 1)).all levB && endB parts (ruleL parts rules 0)))))
         case atStart => exact ⟨0, rfl, by omega, by omega, HI5, HX5, hR5⟩
         case round =>
          clear HI5 HX5 hR5
          obtain ⟨k, rfl, hgk2, hk, HI, HX, hR⟩ := hrel
          have hl := HR5.out.2.1
          have x1 := (zbc HX.out 1).trans (rfl : _ = some (Value.slice A5 lv.f1.length c5))
          by_cases hkl : k < lv.f1.length
          ·have b2 : decide (k < lv.f1.length) = true := decide_eq_true hkl
           obtain ⟨ad5, hA5, hc⟩ := str_at HR5.out k hkl
           cases hA5
           replace hc := (HI.out.hB.cell (World.block_lt_of_cell? _ _ hc)).trans hc
           have hR6 : R = (litB (lv.f1.getD k ByteArray.empty) && ((lv.f1.drop (k + 1)).all litB && ((levs.drop (i + 1)).all levB && endB parts (ruleL parts rules 0)))) := by rw [hR.out, all_drop litB lv.f1 ByteArray.empty k hkl, Bool.and_assoc]
           generalize lv.f1.getD k ByteArray.empty = sl at hc hR6
           replace hR6 := Zz.mk hR6
           clear hR
           cases hq : litB sl with
           | false =>
            go_wp2_with (go_at_call 55; refine (spec_lit_any _ _).mono ?_; rintro e w4 ⟨rfl, hd⟩; obtain ⟨⟨nd, rfl⟩⟩ := hd)
            go_ret
            exact BPost.of (zbn HI.out.hB _) (by rw [hR6.out, hq]; rfl)
           | true =>
            go_wp2_with (go_at_call 55; refine (spec_lit_any _ _).mono ?_; rintro e w4 ⟨rfl, hd⟩; obtain ⟨⟨nd, rfl⟩⟩ := hd)
            go_roundg (lv.f1.length - (k + 1))
            case measure => omega
            case rel => exact ⟨k + 1, by go_num, rfl, by omega, ⟨HI.out.below (zbn (Below.refl _ _) _)⟩, ⟨HX.out⟩, ⟨by rw [hR6.out, hq]; rfl⟩⟩
          ·have b2 : decide (k < lv.f1.length) = false := decide_eq_false hkl
           have hR6 : Zz (R = ((levs.drop (i + 1)).all levB && endB parts (ruleL parts rules 0))) := ⟨by rw [hR.out, List.drop_of_length_le (by omega)]; rfl⟩
           clear hR
           go_wp2
           go_roundg (levs.length - (i + 1))
           case measure => omega
           case rel => exact ⟨i + 1, by go_num, rfl, by omega, HI, hR6⟩
       ·have hRn : Zz (R = false) := ⟨by rw [hR4.out, levB, decide_eq_false ha]; rfl⟩
        replace ha := Zz.mk ha
        go_wp2_with (go_at_call 54; refine (between_f ha.out _).mono ?_; rintro e w4 ⟨rfl, nd, rfl⟩)
        go_ret
        exact BPost.of (zbn HI4.out.hB _) hRn.out
      ·have b1 : decide (i < levs.length) = false := decide_eq_false hlt
       have hR3 : Zz (R = endB parts (ruleL parts rules 0)) := ⟨by rw [hR.out, List.drop_of_length_le (by omega)]; rfl⟩
       clear hR hl
       have g0 := (zbc HI.out.hg 0).trans (rfl : _ = some (Value.string nm))
       have g1 := (zbc HI.out.hg 1).trans (rfl : _ = some (Value.slice A1 toks.length c1))
       have g3 := (zbc HI.out.hg 3).trans (rfl : _ = some (Value.slice A3 rules.length c3))
       have g4 := (zbc HI.out.hg 4).trans (rfl : _ = some (Value.slice A4 parts.length c4))
       go_wp2
       clear g0 g1 g2 g3 g4
       have HI2 := Zz.mk (HI.out.below (below_self_alloc wr (.cells #[.string nm, .slice A1 toks.length c1, .slice A2 levs.length c2, .slice A3 rules.length c3, .slice A4 parts.length c4, .int .i64 0, .bool true] 113)))
       have HST := Zz.mk (show (wr.alloc (.cells #[.string nm, .slice A1 toks.length c1, .slice A2 levs.length c2, .slice A3 rules.length c3, .slice A4 parts.length c4, .int .i64 0, .bool true] 113)).heap[wr.heap.size]? = some (.cells #[.string nm, .slice A1 toks.length c1, .slice A2 levs.length c2, .slice A3 rules.length c3, .slice A4 parts.length c4, .int .i64 0, .bool true] 113 (0, 0)) from heap_alloc_new wr _)
       have hsb : w.heap.size < wr.heap.size := blk_lt HI.out.hg
       clear HI
       generalize wr.heap.size = sb at HST hsb ⊢
       generalize wr.alloc (.cells #[.string nm, .slice A1 toks.length c1, .slice A2 levs.length c2, .slice A3 rules.length c3, .slice A4 parts.length c4, .int .i64 0, .bool true] 113) = wz at HI2 HST ⊢
       go_loopg [8] rules.length (fun gk v8 wr => ∃ (i : Nat) (nx : Int) (ok : Bool) (S : Option Int), v8 = .int .i64 i ∧ gk = rules.length - i ∧ i ≤ rules.length ∧ Zz (GInv w nm (.slice A1 toks.length c1) (.slice A2 levs.length c2) (.slice A3 rules.length c3) (.slice A4 parts.length c4) wr) ∧ Zz (wr.heap[sb]? = some (.cells #[.string nm, .slice A1 toks.length c1, .slice A2 levs.length c2, .slice A3 rules.length c3, .slice A4 parts.length c4, .int .i64 nx, .bool ok] 113 (0, 0))) ∧ Zz (Tells S nx ok) ∧ Zz (R = endB parts (S.bind (ruleL parts (rules.drop i)))))
       case atStart => exact ⟨0, 0, true, some 0, rfl, by omega, by omega, HI2, HST, ⟨rfl, fun r h => by cases h; exact ⟨rfl, by omega⟩⟩, hR3⟩
       case round =>
        clear HI2 HST hR3 hlt b1
        obtain ⟨i, nx, ok, S, rfl, hgk, hi, HI, HST, HS, hR⟩ := hrel
        have hl := H3.out.2.1
        have g3 := (zbc HI.out.hg 3).trans (rfl : _ = some (Value.slice A3 rules.length c3))
        by_cases hlt : i < rules.length
        ·have b1 : decide (i < rules.length) = true := decide_eq_true hlt
         obtain ⟨ad, A5, c5, hA, hx0, hx1, hl5, HR5⟩ := at_T59 H3.out i (by omega) (by omega)
         cases hA
         replace hx0 : wr.cell? (ad.add (i * 2)) = some (.string (rd_T59 rules i).f0) := (HI.out.hB.cell (World.block_lt_of_cell? _ _ hx0)).trans hx0
         replace hx1 : wr.cell? ⟨(ad.add (i * 2)).block, (ad.add (i * 2)).off + 1, none⟩ = some (.slice A5 (rd_T59 rules i).f1.length c5) := (HI.out.hB.cell (World.block_lt_of_cell? _ _ hx1)).trans hx1
         have hR4 : R = endB parts (S.bind (fun n => if plainB (rd_T59 rules i).f0 = true then (if (rd_T59 rules i).f1.length = 0 then none else (altL parts (rd_T59 rules i).f1 n).bind (ruleL parts (rules.drop (i + 1)))) else none)) := by
          rw [hR.out, List.drop_eq_getElem_cons hlt]
          simp only [ruleL, rd_T59, List.getD_eq_getElem?_getD, List.getElem?_eq_getElem hlt, Int.toNat_natCast, Option.getD_some]
         generalize rd_T59 rules i = ru at hx0 hx1 hR4 hl5 HR5
         replace hR4 := Zz.mk hR4
         replace HR5 := Zz.mk HR5
         replace hl5 := Zz.mk hl5
         clear hR
         go_upto_region 24 with (fail)
         have HI4 := Zz.mk (HI.out.below (below_self_alloc wr (.cells #[.string ru.f0, .slice A5 ru.f1.length c5] 59)))
         have HX := Zz.mk (show (wr.alloc (.cells #[.string ru.f0, .slice A5 ru.f1.length c5] 59)).heap[wr.heap.size]? = some (.cells #[.string ru.f0, .slice A5 ru.f1.length c5] 59 (0, 0)) from heap_alloc_new wr _)
         have HST4 := Zz.mk (blk_below HST.out (below_self_alloc wr (.cells #[.string ru.f0, .slice A5 ru.f1.length c5] 59)))
         have hxb : wr.heap.size ≠ sb := by have := blk_lt HST.out; omega
         have hlr := hl
         clear HI hx0 hx1 g3 HST hl
         generalize wr.heap.size = xb at HX hxb ⊢
         generalize wr.alloc (.cells #[.string ru.f0, .slice A5 ru.f1.length c5] 59) = wz at HI4 HX HST4 ⊢
         have x0 := (zbc HX.out 0).trans (rfl : _ = some (Value.string ru.f0))
         cases hp : plainB ru.f0 with
         | false =>
          have hRn : Zz (R = false) := ⟨by rw [hR4.out]; simp [hp, endB]⟩
          go_wp2_with (go_at_call 52; refine (spec_plain_any _ _).mono ?_; rintro e w3 ⟨rfl, hbl⟩; have HI5 := Zz.mk (HI4.out.below hbl); clear hbl)
          go_ret
          exact BPost.of HI5.out.hB hRn.out
         | true =>
          by_cases hz : ru.f1.length = 0
          ·have z1 : (ru.f1.length == 0) = true := by simp [hz]
           have z2 : ((ru.f1.length : Int) == 0) = true := by simp [hz]
           have hRn : Zz (R = false) := ⟨by rw [hR4.out]; simp [hp, hz, endB]⟩
           replace hz := Zz.mk hz
           go_wp2_with (go_at_call 52; refine (spec_plain_any _ _).mono ?_; rintro e w3 ⟨rfl, hbl⟩; have HI5 := Zz.mk (HI4.out.below hbl); have HX5 := Zz.mk (blk_below HX.out hbl); have x1 := (zbc HX5.out 1).trans (rfl : _ = some (Value.slice A5 ru.f1.length c5)); clear hbl)
           go_ret
           exact BPost.of HI5.out.hB hRn.out
          ·have z1 : (ru.f1.length == 0) = false := by simp [hz]
           have z2 : ((ru.f1.length : Int) == 0) = false := beq_eq_false_iff_ne.mpr (by omega)
           have hR5 : Zz (R = endB parts ((S.bind (altL parts ru.f1)).bind (ruleL parts (rules.drop (i + 1))))) := ⟨by rw [hR4.out]; cases S <;> simp [hp, hz]⟩
           replace hz := Zz.mk hz
           clear hR4
           go_wp2_with (go_at_call 52; refine (spec_plain_any _ _).mono ?_; rintro e w3 ⟨rfl, hbl⟩; have HI5 := Zz.mk (HI4.out.below hbl); have HX5 := Zz.mk (blk_below HX.out hbl); have HST5 := Zz.mk (blk_below HST4.out hbl); have x1 := (zbc HX5.out 1).trans (rfl : _ = some (Value.slice A5 ru.f1.length c5)); clear hbl)
           clear HI4 HX HST4 x0 x1
           go_loopg [10] ru.f1.length (fun gk v10 wr => ∃ (k : Nat) (nx : Int) (ok : Bool) (S : Option Int), v10 = .int .i64 k ∧ gk = ru.f1.length - k ∧ k ≤ ru.f1.length ∧ Zz (GInv w nm (.slice A1 toks.length c1) (.slice A2 levs.length c2) (.slice (some ad) rules.length c3) (.slice A4 parts.length c4) wr) ∧ Zz (wr.heap[sb]? = some (.cells #[.string nm, .slice A1 toks.length c1, .slice A2 levs.length c2, .slice (some ad) rules.length c3, .slice A4 parts.length c4, .int .i64 nx, .bool ok] 113 (0, 0))) ∧ Zz (wr.heap[xb]? = some (.cells #[.string ru.f0, .slice A5 ru.f1.length c5] 59 (0, 0))) ∧ Zz (Tells S nx ok) ∧ Zz (R = endB parts ((S.bind (altL parts (ru.f1.drop k))).bind (ruleL parts (rules.drop (i + 1))))))
           case atStart => exact ⟨0, nx, ok, S, rfl, by omega, by omega, HI5, HST5, HX5, HS, hR5⟩
           case round =>
            clear HI5 HST5 HX5 HS hR5
            obtain ⟨k, nx, ok, S, rfl, hgk2, hk, HI, HST, HX, HS, hR⟩ := hrel
            have hl := HR5.out.2.1
            have x1 := (zbc HX.out 1).trans (rfl : _ = some (Value.slice A5 ru.f1.length c5))
            have g4 := (zbc HI.out.hg 4).trans (rfl : _ = some (Value.slice A4 parts.length c4))
            by_cases hkl : k < ru.f1.length
            ·have b2 : decide (k < ru.f1.length) = true := decide_eq_true hkl
             obtain ⟨ad6, A7, c7, hA6, hx2, hx3, hl7, HR7⟩ := at_T75 HR5.out k (by omega) (by omega)
             cases hA6
             replace hx2 : wr.cell? (ad6.add (k * 2)) = some (.slice A7 (rd_T75 ru.f1 k).f0.length c7) := (HI.out.hB.cell (World.block_lt_of_cell? _ _ hx2)).trans hx2
             replace hx3 : wr.cell? ⟨(ad6.add (k * 2)).block, (ad6.add (k * 2)).off + 1, none⟩ = some (.string (rd_T75 ru.f1 k).f1) := (HI.out.hB.cell (World.block_lt_of_cell? _ _ hx3)).trans hx3
             have hR6 : R = endB parts ((S.bind (fun n => if labB (rd_T75 ru.f1 k) = true then (itemsG (altsF parts parts.length) parts parts.length (rd_T75 ru.f1 k).f0 n).bind (altL parts (ru.f1.drop (k + 1))) else none)).bind (ruleL parts (rules.drop (i + 1)))) := by
              rw [hR.out, List.drop_eq_getElem_cons hkl]
              simp only [altL, rd_T75, List.getD_eq_getElem?_getD, List.getElem?_eq_getElem hkl, Int.toNat_natCast, Option.getD_some]
             generalize rd_T75 ru.f1 k = al at hx2 hx3 hR6 hl7 HR7
             replace hR6 := Zz.mk hR6
             replace HR7 := Zz.mk HR7
             replace hl7 := Zz.mk hl7
             clear hR
             have k0 : (0 : Int) ≤ (k : Int) := by omega
             have k1 : (k : Int) < (ru.f1.length : Int) := by omega
             go_upto_region 29 with (fail)
             go_cut [129] (fun v129 wc => v129 = .bool (!labB al) ∧ Zz (Below wr.heap.size wr wc))
             case first =>
              by_cases hs : al.f1.size = 0
              ·have z1 := toList_nil hs
               have hlb : Zz (labB al = true) := ⟨by simp [labB, hs]⟩
               replace hs := Zz.mk hs
               go_wp2
               go_meet
               case rel => exact ⟨by rw [hlb.out]; rfl, ⟨Below.refl _ _⟩⟩
              ·have z1 := (toList_cons hs).1
               have z2 := (toList_cons hs).2
               have hlb : Zz (labB al = plainB al.f1) := ⟨by simp [labB, hs]⟩
               replace hs := Zz.mk hs
               cases hp : plainB al.f1 with
               | false =>
                go_wp2_with (go_at_call 52; refine (spec_plain_any _ _).mono ?_; rintro e w3 ⟨rfl, hbl⟩; replace hbl := Zz.mk hbl)
                go_meet
                case rel => exact ⟨by rw [hlb.out, hp]; rfl, hbl⟩
               | true =>
                go_wp2_with (go_at_call 52; refine (spec_plain_any _ _).mono ?_; rintro e w3 ⟨rfl, hbl⟩; replace hbl := Zz.mk hbl)
                go_meet
                case rel => exact ⟨by rw [hlb.out, hp]; rfl, hbl⟩
             case rest =>
              obtain ⟨rfl, hbw⟩ := hcut
              have HI6 := Zz.mk (HI.out.below hbw.out)
              have HX6 := Zz.mk (blk_below HX.out hbw.out)
              have HST6 := Zz.mk (blk_below HST.out hbw.out)
              replace hx2 := (hbw.out.cell (World.block_lt_of_cell? _ _ hx2)).trans hx2
              clear hx3 x1 g4 HI HX HST
              have x1 := (zbc HX6.out 1).trans (rfl : _ = some (Value.slice (some ad6) ru.f1.length c5))
              have g4 := (zbc HI6.out.hg 4).trans (rfl : _ = some (Value.slice A4 parts.length c4))
              cases hlb : labB al with
              | false =>
               have hRn : Zz (R = false) := ⟨by rw [hR6.out]; cases S <;> simp [hlb, endB]⟩
               go_wp2
               go_ret
               exact BPost.of HI6.out.hB hRn.out
              | true =>
               have hR7 : Zz (R = endB parts (((S.bind (itemsG (altsF parts parts.length) parts parts.length al.f0)).bind (altL parts (ru.f1.drop (k + 1)))).bind (ruleL parts (rules.drop (i + 1))))) := ⟨by rw [hR6.out]; cases S <;> simp [hlb]⟩
               clear hR6
               go_wp2
               go_still_tail 10, (by kernel_rfl)
               change wpList _ _ _ _ _ wc.drew
               have HI7 := Zz.mk (HI6.out.below (below_drew (Below.refl _ _)))
               have HX7 := Zz.mk (show wc.drew.heap[xb]? = _ from HX6.out)
               have HST7 := Zz.mk (show wc.drew.heap[sb]? = _ from HST6.out)
               clear x1 g4 HI6 HX6 HST6 hx2 hbw
               generalize wc.drew = wd at HI7 HX7 HST7 ⊢
               have C := Zz.mk (items_all parts parts.length parts.length (Int.le_refl _) nm (.slice A1 toks.length c1) (.slice A2 levs.length c2) (.slice (some ad) rules.length c3) A4 c4 A7 c7 al.f0 sb nx ok S w wd H4.out L4 HR7.out hl7.out (by omega) ⟨HST7.out, HI7.out.hB, KeepBut.refl _ _ _⟩ HS.out (by omega) (Int.le_refl _))
               go_wp2_with (go_at_call 56; refine C.out.mono ?_; rintro e w2 ⟨rfl, nx4, ok4, hI8, hT8⟩; have HI8 := Zz.mk (GInv.mk ((hI8.hK.2 _ (blk_lt HI7.out.hg) (by omega) (by simp)).trans HI7.out.hg) hI8.hB); have HX8 := Zz.mk ((hI8.hK.2 xb (blk_lt HX7.out) hxb (by simp)).trans HX7.out); have HST8 := Zz.mk hI8.hs; replace hT8 := Zz.mk hT8; clear hI8)
               go_roundg (ru.f1.length - (k + 1))
               case measure => omega
               case rel => exact ⟨k + 1, nx4, ok4, _, by go_num, rfl, by omega, HI8, HST8, HX8, hT8, hR7⟩
            ·have b2 : decide (k < ru.f1.length) = false := decide_eq_false hkl
             have hR6 : Zz (R = endB parts (S.bind (ruleL parts (rules.drop (i + 1))))) := ⟨by rw [hR.out, List.drop_of_length_le (by omega)]; cases S <;> rfl⟩
             clear hR
             go_wp2
             go_roundg (rules.length - (i + 1))
             case measure => omega
             case rel => exact ⟨i + 1, nx, ok, S, by go_num, rfl, by omega, HI, HST, HS, hR6⟩
        ·have b1 : decide (i < rules.length) = false := decide_eq_false hlt
         have hR3 : Zz (R = endB parts S) := ⟨by rw [hR.out, List.drop_of_length_le (by omega)]; cases S <;> rfl⟩
         clear hR hl
         have s5 := (zbc HST.out 5).trans (rfl : _ = some (Value.int .i64 nx))
         have s6 := (zbc HST.out 6).trans (rfl : _ = some (Value.bool ok))
         have g4 := (zbc HI.out.hg 4).trans (rfl : _ = some (Value.slice A4 parts.length c4))
         cases ok with
         | false =>
          have hRn : Zz (R = false) := ⟨by rw [hR3.out]; cases S with | none => simp [endB] | some _ => exact absurd HS.out.1 (by simp)⟩
          go_wp2
          go_quiet (fail)
          go_wp2
          go_ret
          exact BPost.of (zbn HI.out.hB _) hRn.out
         | true =>
          obtain ⟨rfl, h0⟩ : S = some nx ∧ 0 ≤ nx := by
           cases S with
           | none => exact absurd HS.out.1 (by simp)
           | some r => obtain ⟨h1, h2⟩ := HS.out.2 r rfl; exact ⟨by rw [h1], h2⟩
          have hRn : Zz (R = (nx == (parts.length : Int))) := ⟨by rw [hR3.out, endB]; by_cases h : nx = (parts.length : Int) <;> simp [h]⟩
          clear hR3
          go_wp2
          go_quiet (fail)
          go_wp2
          go_ret
          exact BPost.of (zbn HI.out.hB _) hRn.out
end Go.Proofs.Ythcmamcbnjphgaa.PFnExactGrammarShow
