import Derived.Test.YthcmamcbnjphgaaG14
import Derived.Shelf.Strings.Builder1
import Derived.Shelf.Strings.Builder2
import Derived.Shelf.Strings.OnBuilder
import Derived.Shelf.Small.Strs
import Derived.Shelf.Strings.BuilderF
import Derived.Shelf.Strings.BuilderK
import Derived.Shelf.Strings.Search1
set_option linter.unusedVariables false
set_option linter.unusedSimpArgs false
namespace Go.Proofs
open Go.Shelf
def Try.lays170_ren : Go.Shelf.Ren := ⟨fun | 170 => 30 | n => n, fun | 70 => 64 | 3 => 3 | 0 => 0 | 72 => 66 | 37 => 40 | 5 => 5 | n => n, fun | n => n⟩
theorem Try.lays170 : Go.Proofs.Lays.n170 Try.prog Try.lays170_ren := {
 mixed := by kernel_rfl
 f170 := Try.func30.trans (congrArg some (by kernel_rfl))
 t0 := Try.underlying0
 a0 := Try.isAgg0
 z0 := Try.sizeOf0
 v0 := Try.zeroValue0
 t3 := Try.underlying3
 a3 := Try.isAgg3
 z3 := Try.sizeOf3
 v3 := Try.zeroValue3
 t37 := Try.underlying40
 a37 := Try.isAgg40
 z37 := Try.sizeOf40
 v37 := Try.zeroValue40
 t70 := Try.underlying64
 a70 := Try.isAgg64
 z70 := Try.sizeOf64
 v70 := Try.zeroValue64
 t72 := Try.underlying66
 a72 := Try.isAgg66
 z72 := Try.sizeOf66
 v72 := Try.zeroValue66 }
def Try.lays169_ren : Go.Shelf.Ren := ⟨fun | 169 => 31 | n => n, fun | 70 => 64 | 9 => 9 | 0 => 0 | 72 => 66 | 37 => 40 | 127 => 125 | 3 => 3 | 5 => 5 | n => n, fun | n => n⟩
theorem Try.lays169 : Go.Proofs.Lays.n169 Try.prog Try.lays169_ren := {
 mixed := by kernel_rfl
 f169 := Try.func31.trans (congrArg some (by kernel_rfl))
 t0 := Try.underlying0
 a0 := Try.isAgg0
 z0 := Try.sizeOf0
 v0 := Try.zeroValue0
 t3 := Try.underlying3
 a3 := Try.isAgg3
 z3 := Try.sizeOf3
 v3 := Try.zeroValue3
 t9 := Try.underlying9
 a9 := Try.isAgg9
 z9 := Try.sizeOf9
 v9 := Try.zeroValue9
 t37 := Try.underlying40
 a37 := Try.isAgg40
 z37 := Try.sizeOf40
 v37 := Try.zeroValue40
 t70 := Try.underlying64
 a70 := Try.isAgg64
 z70 := Try.sizeOf64
 v70 := Try.zeroValue64
 t72 := Try.underlying66
 a72 := Try.isAgg66
 z72 := Try.sizeOf66
 v72 := Try.zeroValue66
 t127 := Try.underlying125
 a127 := Try.isAgg125
 z127 := Try.sizeOf125
 v127 := Try.zeroValue125 }
theorem Try.Builder_Extra_169 : Builder.Extra Try.prog Try.lays169_ren := {
 sizeBuilder := by kernel_rfl
 liesBuilder := by kernel_rfl
 t5 := Try.underlying5
 a5 := Try.isAgg5
 z5 := Try.sizeOf5
 v5 := Try.zeroValue5
 infoByte := by kernel_rfl
 cellsByte := by kernel_rfl
 sizeByte := by kernel_rfl
 neB5 := by decide }
def Try.lays156_ren : Go.Shelf.Ren := ⟨fun | 156 => 28 | 165 => 67 | 166 => 27 | 169 => 31 | 240 => 66 | 241 => 94 | 276 => 93 | 277 => 114 | n => n, fun | 31 => 52 | 9 => 9 | 3 => 3 | 4 => 4 | 0 => 0 | 20 => 20 | 72 => 66 | 76 => 69 | 70 => 64 | 37 => 40 | 75 => 68 | 127 => 125 | 164 => 148 | 5 => 5 | 80 => 78 | n => n, fun | n => n⟩
theorem Try.lays156 : Go.Proofs.Lays.n156 Try.prog Try.lays156_ren := {
 mixed := by kernel_rfl
 f156 := Try.func28.trans (congrArg some (by kernel_rfl))
 f165 := Try.func67.trans (congrArg some (by kernel_rfl))
 f166 := Try.func27.trans (congrArg some (by kernel_rfl))
 f169 := Try.func31.trans (congrArg some (by kernel_rfl))
 f240 := Try.func66.trans (congrArg some (by kernel_rfl))
 f241 := Try.func94.trans (congrArg some (by kernel_rfl))
 f276 := Try.func93.trans (congrArg some (by kernel_rfl))
 f277 := Try.func114.trans (congrArg some (by kernel_rfl))
 t0 := Try.underlying0
 a0 := Try.isAgg0
 z0 := Try.sizeOf0
 v0 := Try.zeroValue0
 t3 := Try.underlying3
 a3 := Try.isAgg3
 z3 := Try.sizeOf3
 v3 := Try.zeroValue3
 t4 := Try.underlying4
 a4 := Try.isAgg4
 z4 := Try.sizeOf4
 v4 := Try.zeroValue4
 t9 := Try.underlying9
 a9 := Try.isAgg9
 z9 := Try.sizeOf9
 v9 := Try.zeroValue9
 t20 := Try.underlying20
 a20 := Try.isAgg20
 z20 := Try.sizeOf20
 v20 := Try.zeroValue20
 t31 := Try.underlying52
 a31 := Try.isAgg52
 z31 := Try.sizeOf52
 v31 := Try.zeroValue52
 t37 := Try.underlying40
 a37 := Try.isAgg40
 z37 := Try.sizeOf40
 v37 := Try.zeroValue40
 t70 := Try.underlying64
 a70 := Try.isAgg64
 z70 := Try.sizeOf64
 v70 := Try.zeroValue64
 t72 := Try.underlying66
 a72 := Try.isAgg66
 z72 := Try.sizeOf66
 v72 := Try.zeroValue66
 t75 := Try.underlying68
 a75 := Try.isAgg68
 z75 := Try.sizeOf68
 v75 := Try.zeroValue68
 t76 := Try.underlying69
 a76 := Try.isAgg69
 z76 := Try.sizeOf69
 v76 := Try.zeroValue69
 t127 := Try.underlying125
 a127 := Try.isAgg125
 z127 := Try.sizeOf125
 v127 := Try.zeroValue125
 t164 := Try.underlying148
 a164 := Try.isAgg148
 z164 := Try.sizeOf148
 v164 := Try.zeroValue148 }
theorem Try.Builder_Extra_156 : Builder.Extra Try.prog Try.lays156_ren := {
 sizeBuilder := by kernel_rfl
 liesBuilder := by kernel_rfl
 t5 := Try.underlying5
 a5 := Try.isAgg5
 z5 := Try.sizeOf5
 v5 := Try.zeroValue5
 infoByte := by kernel_rfl
 cellsByte := by kernel_rfl
 sizeByte := by kernel_rfl
 neB5 := by decide }
open Go.RowKit in
theorem Try.strings_Join_none (a : Option Addr) (c : Nat) (sep : ByteArray) (w : World) :
  Calls Try.prog 28 #[.slice a 0 c, .string sep] w fun e w' => e = .returned (.string ⟨#[]⟩) ∧ w' = w := Any.strings_Join_none Try.lays156 Try.Builder_Extra_156 a c sep w
open Go.RowKit in
theorem Try.strings_Join (bk o c : Nat) (xs : List ByteArray) (sep : ByteArray) (w : World) (hcells : ∀ (j : Nat) x, xs[j]? = some x → w.cell? ⟨bk, o + j, none⟩ = some (.string x)) (hbk : bk < w.heap.size) (hN : xs.length ≤ 140737488355328) (hcap : xs.length ≤ c) (hlen : (Lib.join (xs.map (·.data.toList)) sep.data.toList).length ≤ 140737488355328) :
  Calls Try.prog 28 #[.slice (some ⟨bk, o, none⟩) xs.length c, .string sep] w fun e w' => e = .returned (.string ⟨(Lib.join (xs.map (·.data.toList)) sep.data.toList).toArray⟩) ∧ Below w.heap.size w w' := Any.strings_Join Try.lays156 Try.Builder_Extra_156 bk o c xs sep w hcells hbk hN hcap hlen
open Go.RowKit in
theorem Try.Builder_Len_f (B b : Nat) (bs : List Value) (w : World) (h : Lib.IsBuilderF 66 5 B b bs w) :
  Calls Try.prog 30 #[.pointer (some ⟨b, 0, none⟩)] w fun e w' => e = .returned (.int .i64 bs.length) ∧ w' = w := Any.Builder_Len_f Try.lays170 B b bs w h
open Go.RowKit in
theorem Try.Builder_String_any_k (B b : Nat) (l : List UInt8) (w : World) (h : Lib.IsBuilderF 66 5 B b (Lib.byteCells l) w) (hBw : B ≤ w.heap.size) :
  Calls Try.prog 31 #[.pointer (some ⟨b, 0, none⟩)] w fun e w' => e = .returned (.string ⟨l.toArray⟩) ∧ (Lib.IsBuilderF 66 5 B b (Lib.byteCells l) w' ∧ Below B w w' ∧ Lib.OthersKept 5 (some b) w w') := Any.Builder_String_any_k Try.lays169 Try.Builder_Extra_169 B b l w h hBw
end Go.Proofs
namespace Go.Proofs.Ythcmamcbnjphgaa.PFnExactGrammarShow
open Go.RowKit Go.Proofs.YthcmamcbnjphgaaW.PrintWords Go.Proofs.YthcmamcbnjphgaaW.PrintLast Go.Proofs.YthcmamcbnjphgaaW.PrintMore
theorem join_any (v : Value) (l : List ByteArray) (base : Nat) (w : World) (HO : Strs w base v l) (hs : cost l ≤ 1099511627776) :
  Calls Try.prog 28 #[v, .string ⟨#[32]⟩] w fun e w' => e = .returned (.string (jn l)) ∧ Below w.heap.size w w' := by
 obtain ⟨A, c, rfl, hc, hr⟩ := own_reads_of_le (d := ByteArray.empty) HO
 have hl := length_cost l
 rcases Nat.eq_zero_or_pos l.length with h0 | h0
 ·obtain rfl := List.eq_nil_of_length_eq_zero h0
  refine (Try.strings_Join_none A c ⟨#[32]⟩ w).mono ?_
  rintro e w' ⟨rfl, rfl⟩
  exact ⟨rfl, Below.refl _ _⟩
 ·rcases HO.2 with ⟨h, hn⟩ | ⟨g, cap, cur, h, _⟩
  ·injection h with h1 h2 h3
   omega
  ·injection h with h1 h2 h3
   subst h1
   obtain ⟨ad, h, hcell⟩ := hr.2.2 h0
   injection h with h
   subst h
   have hj : Lib.join (l.map (·.data.toList)) (⟨#[32]⟩ : ByteArray).data.toList = jnL l := join_jnL l
   refine (Try.strings_Join g 0 _ l ⟨#[32]⟩ w ?_ (World.block_lt_of_cell? _ _ (hcell 0 h0)) (by omega) hc (by rw [hj]; have := jnL_length l; omega)).mono ?_
   ·intro j x hx
    have hjl : j < l.length := by
     rcases Nat.lt_or_ge j l.length with h | h
     ·exact h
     ·simp [List.getElem?_eq_none h] at hx
    have := hcell j hjl
    rw [List.getD_eq_getElem?_getD, hx] at this
    rcases Nat.eq_zero_or_pos j with rfl | hj0
    ·simpa [Addr.add] using this
    ·simpa [Addr.add, Nat.ne_of_gt hj0] using this
   ·rintro e w' ⟨rfl, hb⟩
    exact ⟨by rw [hj]; rfl, hb⟩
def wordsDo (parts : List S119) (F : Nat) : Prop :=
 ∀ (nm : ByteArray) (v1 v2 v3 : Value) (A4 : Option Addr) (c4 : Nat) (A : Option Addr) (c : Nat) (l : List Int) (w : World),
  Kd.C k119 w A4 parts.length parts → parts.length ≤ c4 → Kd.C (Kd.int .i64) w A l.length l → l.length ≤ c → (∀ q ∈ l, Fine parts F q) → cost (l.map (sayB parts F)) ≤ 1099511627776 →
  Calls Try.prog 29 #[.agg #[.string nm, v1, v2, v3, .slice A4 parts.length c4], .slice A l.length c] w fun e w' => ∃ v, e = .returned v ∧ Strs w' w.heap.size v (l.map (sayB parts F)) ∧ Below w.heap.size w w'
set_option maxHeartbeats 4000000 in
set_option maxRecDepth 100000 in
theorem words_step (parts : List S119) (F : Nat) (IH : ∀ F', F = F' + 1 → wordsDo parts F') : wordsDo parts F := by
 intro nm v1 v2 v3 A4 c4 A c l w H4 L4 HA LA hf hc
 replace IH := Zz.mk IH
 replace H4 := Zz.mk H4
 replace HA := Zz.mk HA
 replace hf := Zz.mk hf
 have hlc : l.length ≤ 1099511627776 := by have := length_cost (l.map (sayB parts F)); rw [List.length_map] at this; omega
 replace hc := Zz.mk hc
 have HI := Zz.mk (GInv.start w nm v1 v2 v3 (.slice A4 parts.length c4))
 have HO := Zz.mk (show Strs (w.alloc (.cells #[.string nm, v1, v2, v3, .slice A4 parts.length c4] 36)) w.heap.size (.slice none 0 0) [] from World.ownsRow_nil _ _ _ _)
 go_enter Try.func29, Try.ntmps29
 go_upto_block 0 with (fail)
 generalize (w.alloc (.cells #[.string nm, v1, v2, v3, .slice A4 parts.length c4] 36)) = w0 at HI HO ⊢
 go_wp2
 go_loopg [5, 15] l.length (fun gk v5 v15 wr => ∃ (i : Nat), v15 = .int .i64 i ∧ gk = l.length - i ∧ i ≤ l.length ∧ Zz (GInv w nm v1 v2 v3 (.slice A4 parts.length c4) wr) ∧ Zz (Strs wr w.heap.size v5 ((l.take i).map (sayB parts F))))
 case atStart => exact ⟨0, rfl, by omega, by omega, HI, ⟨by simpa using HO.out⟩⟩
 case round =>
  clear HI HO
  obtain ⟨i, rfl, hgk, hi, HI, HO⟩ := hrel
  have hl := HA.out.2.1
  by_cases hlt : i < l.length
  ·have b1 : decide (i < l.length) = true := decide_eq_true hlt
   obtain ⟨ad2, c2, hA2, _, hK2, hc2⟩ := Kd.C_get HA.out 0 i (by omega) (by omega)
   cases hA2
   have hcp : wr.cell? (ad2.add i) = some (.int .i64 (rd l i)) := by
    have hq := hc2 0 (.int .i64 (rd l i)) (by rw [show c2 = [Value.int .i64 (rd l i)] from hK2]; rfl)
    have hq2 : w.cell? (ad2.add i) = some (.int .i64 (rd l i)) := by simpa [Kd.int, Kd.scalar] using hq
    exact (HI.out.hB.cell (World.block_lt_of_cell? _ _ hq2)).trans hq2
   clear hc2 hK2
   have hq : rd l (i : Int) = l[i] := by simp [rd, List.getD_eq_getElem?_getD, List.getElem?_eq_getElem hlt]
   have hfq := hf.out l[i] (List.getElem_mem hlt)
   have htk : (l.take (i + 1)).map (sayB parts F) = (l.take i).map (sayB parts F) ++ [sayB parts F l[i]] := by rw [List.take_succ_eq_append_getElem hlt, List.map_append]; rfl
   have hlen : ((l.take i).map (sayB parts F)).length = i := by rw [List.length_map, List.length_take]; omega
   replace hlen := Zz.mk hlen
   rw [← hq] at hfq htk
   clear hq
   generalize rd l (i : Int) = q at hcp hfq htk
   replace htk := Zz.mk htk
   obtain ⟨F', rfl⟩ : ∃ F', F = F' + 1 := by cases F with | zero => exact hfq.elim | succ F' => exact ⟨F', rfl⟩
   replace IH := Zz.mk (IH.out F' rfl)
   have i0 : (0 : Int) ≤ (i : Int) := by omega
   have i1 : (i : Int) < (l.length : Int) := by omega
   go_upto_block 1 with (fail)
   go_cut [5] (fun v5 wc => Zz (GInv w nm v1 v2 v3 (.slice A4 parts.length c4) wc) ∧ Zz (Strs wc w.heap.size v5 ((l.take i).map (sayB parts (F' + 1)) ++ [sayB parts (F' + 1) q])))
   case first =>
    obtain ⟨q0, q1, hk, hs1⟩ := hfq
    have hsay : sayB parts (F' + 1) q = if (rd_T119 parts q).f0 = 1 then (rd_T119 parts q).f1 else if (rd_T119 parts q).f0 = 2 then (⟨#[39]⟩ : ByteArray) ++ (rd_T119 parts q).f1 ++ (⟨#[39]⟩ : ByteArray) else openB (rd_T119 parts q).f0 ++ jn (altsW (sayB parts F') 0 (rd_T119 parts q).f2) ++ closeB (rd_T119 parts q).f0 := rfl
    obtain ⟨ad3, A5, c5, hA3, hx0, hx1, hx2, hl5, HR5⟩ := at_T119 H4.out q (by omega) (by omega)
    cases hA3
    replace HR5 := Zz.mk HR5
    replace hl5 := Zz.mk hl5
    generalize hpt : rd_T119 parts q = pt at hsay hk hs1 hx0 hx1 hx2 hl5 HR5
    clear hpt
    obtain ⟨k, s, al⟩ := pt
    simp only at hsay hk hs1 hx0 hx1 hx2 hl5 HR5
    replace hsay := Zz.mk hsay
    replace hs1 := Zz.mk hs1
    replace hk := Zz.mk hk
    have g0 := (zbc HI.out.hg 0).trans (rfl : _ = some (Value.string nm))
    have g1 := (zbc HI.out.hg 1).trans (rfl : _ = some v1)
    have g2 := (zbc HI.out.hg 2).trans (rfl : _ = some v2)
    have g3 := (zbc HI.out.hg 3).trans (rfl : _ = some v3)
    have g4 := (zbc HI.out.hg 4).trans (rfl : _ = some (Value.slice (some ad3) parts.length c4))
    replace hx0 := (HI.out.hB.cell (World.block_lt_of_cell? _ _ hx0)).trans hx0
    replace hx1 := (HI.out.hB.cell (World.block_lt_of_cell? _ _ hx1)).trans hx1
    replace hx2 := (HI.out.hB.cell (World.block_lt_of_cell? _ _ hx2)).trans hx2
    have hpl := H4.out.2.1
    go_upto_region 6 with (fail)
    have HI2 := Zz.mk (HI.out.below (below_self_alloc wr (.cells #[.int .i64 k, .string s, .slice A5 al.length c5] 119)))
    have HO2 := Zz.mk (show Strs (wr.alloc (.cells #[.int .i64 k, .string s, .slice A5 al.length c5] 119)) w.heap.size u5 ((l.take i).map (sayB parts (F' + 1))) from HO.out.alloc _)
    have hx := Zz.mk (blk_new wr (.cells #[.int .i64 k, .string s, .slice A5 al.length c5] 119))
    clear g0 g1 g2 g3 g4 hx0 hx1 hx2 hcp HI HO
    generalize (wr.alloc (.cells #[.int .i64 k, .string s, .slice A5 al.length c5] 119)) = wq at HI2 HO2 hx ⊢
    generalize wr.heap.size = b8 at hx ⊢
    generalize hacc : (l.take i).map (sayB parts (F' + 1)) = acc at HO2 htk hlen
    replace hacc := Zz.mk hacc
    have p0 := (zbc hx.out 0).trans (rfl : _ = some (Value.int .i64 k))
    go_upto_block 2 with (fail)
    rcases hk.out with rfl | rfl | ⟨hk3, hfa, hco⟩
    ·have hR : Zz (sayB parts (F' + 1) q = s) := ⟨by rw [hsay.out]; simp⟩
     clear hsay
     have p1 := (zbc hx.out 1).trans (rfl : _ = some (Value.string s))
     go_wp2_with ((with_reducible refine gate_builtin (b := .append) (xs := #[.tmp 63, .tmp 66]) rfl ?_); at_builtin; refine print_append_of (w0 := w) Value.string w.heap.size rfl (.tmp 63) (.tmp 66) 52 9 (.string ⟨#[]⟩) 16 rfl Try.underlying52 info9 rfl (by decide) u5 acc s rfl rfl rfl HO2.out HI2.out.hB HI2.out.hB.size (by rw [hlen.out]; omega) ?_; intro v1' w1 hown hB hg hat; have HI3 := Zz.mk (HI2.out.grown HO2.out hB hg); have HO3 := Zz.mk (show Strs w1 w.heap.size v1' (acc ++ [s]) from hown); clear hown hB hg hat HI2 HO2)
     go_meet
     case rel => exact ⟨HI3, ⟨by rw [hacc.out, hR.out]; exact HO3.out⟩⟩
    ·have hR : Zz (sayB parts (F' + 1) q = (⟨#[39]⟩ : ByteArray) ++ s ++ (⟨#[39]⟩ : ByteArray)) := ⟨by rw [hsay.out]; simp⟩
     clear hsay
     have p1 := (zbc hx.out 1).trans (rfl : _ = some (Value.string s))
     have hb1 : ¬ 9223372036854775807 < 1 + s.size := by have := hs1.out; omega
     have hb2 : ¬ 9223372036854775807 < 1 + s.size + 1 := by have := hs1.out; omega
     go_wp2_with ((with_reducible refine gate_builtin (b := .append) (xs := #[.tmp 70, .tmp 75]) rfl ?_); at_builtin; refine print_append_of (w0 := w) Value.string w.heap.size rfl (.tmp 70) (.tmp 75) 52 9 (.string ⟨#[]⟩) 16 rfl Try.underlying52 info9 rfl (by decide) u5 acc ((⟨#[39]⟩ : ByteArray) ++ s ++ (⟨#[39]⟩ : ByteArray)) rfl rfl rfl HO2.out HI2.out.hB HI2.out.hB.size (by rw [hlen.out]; omega) ?_; intro v1' w1 hown hB hg hat; have HI3 := Zz.mk (HI2.out.grown HO2.out hB hg); have HO3 := Zz.mk (show Strs w1 w.heap.size v1' (acc ++ [((⟨#[39]⟩ : ByteArray) ++ s ++ (⟨#[39]⟩ : ByteArray))]) from hown); clear hown hB hg hat HI2 HO2)
     go_meet
     case rel => exact ⟨HI3, ⟨by rw [hacc.out, hR.out]; exact HO3.out⟩⟩
    ·have k1 : (k == 1) = false := by rcases hk3 with rfl | rfl | rfl <;> rfl
     have k2 : (k == 2) = false := by rcases hk3 with rfl | rfl | rfl <;> rfl
     replace hk3 := Zz.mk hk3
     generalize hWS : altsW (sayB parts F') 0 al = WS at hsay hco
     replace hfa := Zz.mk hfa
     replace hco := Zz.mk hco
     replace hWS := Zz.mk hWS
     have p2 := (zbc hx.out 2).trans (rfl : _ = some (Value.slice A5 al.length c5))
     go_upto_block 3 with (fail)
     clear p0 p2
     go_wp2
     go_loopg [9, 29] al.length (fun gk2 v9 v29 wx => ∃ (j : Nat) (ac9 : List ByteArray), v29 = .int .i64 j ∧ gk2 = al.length - j ∧ j ≤ al.length ∧ Zz (Below wq.heap.size wq wx) ∧ Zz (Strs wx wq.heap.size v9 ac9) ∧ Zz (ac9 ++ altsW (sayB parts F') j (al.drop j) = WS))
     case atStart => exact ⟨0, [], rfl, by omega, by omega, ⟨Below.refl _ _⟩, ⟨World.ownsRow_nil _ _ _ _⟩, ⟨by simpa using hWS.out⟩⟩
     case round =>
      obtain ⟨j, ac9, rfl, hgk2, hj, HB9, HO9, hW⟩ := hrel
      have hal := HR5.out.2.1
      by_cases hjl : j < al.length
      ·have b2 : decide (j < al.length) = true := decide_eq_true hjl
       have j0 : (0 : Int) ≤ (j : Int) := by omega
       have j1 : (j : Int) < (al.length : Int) := by omega
       have hW2 : ac9 ++ ((if j > 0 then [(⟨#[124]⟩ : ByteArray)] else []) ++ ((rd_L6 al j).map (sayB parts F') ++ altsW (sayB parts F') (j + 1) (al.drop (j + 1)))) = WS := by
        have := hW.out
        rw [List.drop_eq_getElem_cons hjl] at this
        simpa [altsW, rd_L6, List.getD_eq_getElem?_getD, List.getElem?_eq_getElem hjl] using this
       replace hW2 := Zz.mk hW2
       have hfb : Zz (∀ r ∈ rd_L6 al j, Fine parts F' r) := ⟨hfa.out _ (by simp [rd_L6, List.getD_eq_getElem?_getD, List.getElem?_eq_getElem hjl])⟩
       obtain ⟨ad6, A6, c6, hA6, hc6, hl6, HR6⟩ := at_L6 HR5.out j (by omega) (by omega)
       cases hA6
       replace HR6 := Zz.mk HR6
       replace hl6 := Zz.mk hl6
       replace hc6 : w.cell? (ad6.add j) = some (.slice A6 (rd_L6 al j).length c6) := hc6
       have hca := ((below_chain HI2.out.hB HI2.out.hB.size HB9.out).cell (World.block_lt_of_cell? _ _ hc6)).trans hc6
       replace hc6 := Zz.mk hc6
       go_upto_if 35 with (fail)
       clear hca
       go_cut [9] (fun v9 wc => ∃ ac2 : List ByteArray, Zz (Below wq.heap.size wq wc) ∧ Zz (Strs wc wq.heap.size v9 ac2) ∧ Zz (ac2 ++ ((rd_L6 al j).map (sayB parts F') ++ altsW (sayB parts F') (j + 1) (al.drop (j + 1))) = WS))
       case first =>
        by_cases h0 : 0 < j
        ·have bp : decide ((0 : Int) < (j : Int)) = true := decide_eq_true (by omega)
         have hlacc : Zz ((ac9.length + 1) * 16 ≤ 140737488355328) := ⟨by
          have h2 := congrArg List.length hW2.out
          have h3 := length_cost WS
          have h4 := hco.out
          rw [List.length_append, if_pos h0, List.length_append, List.length_singleton] at h2
          omega⟩
         go_wp2_with ((with_reducible refine gate_builtin (b := .append) (xs := #[.tmp 36, .tmp 37]) rfl ?_); at_builtin; refine print_append_of (w0 := wq) Value.string wq.heap.size rfl (.tmp 36) (.tmp 37) 52 9 (.string ⟨#[]⟩) 16 rfl Try.underlying52 info9 rfl (by decide) u9 ac9 ⟨#[124]⟩ rfl rfl rfl HO9.out HB9.out HB9.out.size hlacc.out ?_; intro v1' w1 hown hB hg hat; have HB3 := Zz.mk hB; have HO3 := Zz.mk (show Strs w1 wq.heap.size v1' (ac9 ++ [⟨#[124]⟩]) from hown); clear hown hB hg hat)
         go_meet
         case rel => exact ⟨_, HB3, HO3, ⟨by have := hW2.out; simpa [h0] using this⟩⟩
        ·have bp : decide ((0 : Int) < (j : Int)) = false := decide_eq_false (by omega)
         go_wp2
         go_meet
         case rel => exact ⟨_, HB9, HO9, ⟨by have := hW2.out; simpa [h0] using this⟩⟩
       case rest =>
        clear HB9 HO9 hW2 hW
        obtain ⟨ac2, HB9, HO9, hW3⟩ := hcut
        have HI9 := Zz.mk (HI2.out.below HB9.out)
        have hcost : Zz (cost ac2 + cost ((rd_L6 al j).map (sayB parts F')) ≤ 1099511627776) := ⟨by
         have h2 := congrArg cost hW3.out
         have h4 := hco.out
         rw [cost_append, cost_append] at h2
         omega⟩
        have hlap : Zz ((ac2.length + (rd_L6 al j).length) * 16 ≤ 140737488355328) := ⟨by
         have h2 := hcost.out
         have h3 := length_cost ac2
         have h4 := length_cost ((rd_L6 al j).map (sayB parts F'))
         rw [List.length_map] at h4
         omega⟩
        have g0 := (zbc HI9.out.hg 0).trans (rfl : _ = some (Value.string nm))
        have g1 := (zbc HI9.out.hg 1).trans (rfl : _ = some v1)
        have g2 := (zbc HI9.out.hg 2).trans (rfl : _ = some v2)
        have g3 := (zbc HI9.out.hg 3).trans (rfl : _ = some v3)
        have g4 := (zbc HI9.out.hg 4).trans (rfl : _ = some (Value.slice (some ad3) parts.length c4))
        have C := Zz.mk (IH.out nm v1 v2 v3 (some ad3) c4 A6 c6 (rd_L6 al j) wc (Kd.C_below H4.out HI9.out.hB) L4 (Kd.C_below HR6.out HI9.out.hB) hl6.out hfb.out (by have := hcost.out; omega))
        go_wp2_with (first | (go_at_call 29; refine C.out.mono ?_; rintro e w2 ⟨vv, rfl, hown, hbl⟩; have HB10 := Zz.mk (below_chain HB9.out HB9.out.size hbl); have HO10 := Zz.mk (pw_own_below HO9.out hbl); clear hbl; obtain ⟨A7, c7, rfl, hlc7, hr7⟩ := own_reads_of_le (d := ByteArray.empty) hown; have hr8 : ReadsOf Value.string ByteArray.empty w2 A7 (rd_L6 al (j : Int)).length ((rd_L6 al (j : Int)).map (sayB parts F')) := (by rwa [List.length_map] at hr7)) | ((with_reducible refine gate_builtin (b := .append) (xs := #[.tmp 39, .tmp 42]) rfl ?_); at_builtin; refine print_append_row_of (w0 := wq) Value.string ByteArray.empty wq.heap.size rfl (.tmp 39) (.tmp 42) 52 9 (.string ⟨#[]⟩) 16 rfl Try.underlying52 info9 rfl (by decide) (fun _ => rfl) u9 ac2 ((rd_L6 al j).map (sayB parts F')) A7 _ c7 rfl rfl HO10.out hr8 HB10.out HB10.out.size hlap.out ?_; intro v6' w6 hown6 hB hg hat; have HB11 := Zz.mk hB; have HO11 := Zz.mk (show Strs w6 wq.heap.size v6' (ac2 ++ ((rd_L6 al j).map (sayB parts F'))) from hown6); clear hown6 hB hg hat))
        go_roundg (al.length - (j + 1))
        case measure => omega
        case rel => exact ⟨j + 1, _, by go_num, rfl, by omega, HB11, HO11, ⟨by have := hW3.out; simpa using this⟩⟩
      ·have b2 : decide (j < al.length) = false := decide_eq_false hjl
       have hW2 : ac9 = WS := by
        have := hW.out
        rwa [List.drop_of_length_le (by omega), altsW, List.append_nil] at this
       replace hW2 := Zz.mk hW2
       clear hW
       have hm0 := mapW_make wr
       have hm1 := mapW_ins0 wr
       have hm2 := mapW_ins1 wr
       have hm3 := mapW_ins2 wr
       rcases hk3.out with rfl | rfl | rfl
       ·have hR : Zz (sayB parts (F' + 1) q = (⟨#[40]⟩ : ByteArray) ++ jn ac9 ++ (⟨#[41]⟩ : ByteArray)) := ⟨by rw [hsay.out, hW2.out]; simp [openB, closeB]⟩
        clear hsay
        have pk := (zbc (blk_below (blk_below hx.out HB9.out) (below_self_alloc wr (.map (esB 3) 3))) 0).trans (rfl : _ = some (Value.int .i64 3))
        have hlk := mapW_look wr 3 ⟨#[40, 41]⟩ (by simp)
        replace pk : (mapW wr 3).cell? _ = _ := pk
        go_upto_region 16 with (fail)
        clear hm0 hm1 hm2 hm3 hlk pk
        have HBm := Zz.mk (show Below wq.heap.size wq (mapW wr 3).drew from below_drew (below_chain HB9.out HB9.out.size (below_self_alloc wr (.map (esB 3) 3))))
        have HOm := Zz.mk (show Strs (mapW wr 3).drew wq.heap.size u9 ac9 from HO9.out.alloc (.map (esB 3) 3))
        clear HB9 HO9
        generalize mapW wr 3 = wm at HBm HOm ⊢
        have C := Zz.mk (join_any u9 ac9 wq.heap.size wm.drew HOm.out (by rw [hW2.out]; exact hco.out))
        have hjs : (jn ac9).size ≤ 1099511627776 := by have := jn_size ac9; have h2 := hco.out; rw [hW2.out] at this; rw [hW2.out]; omega
        generalize jn ac9 = J at C hjs hR
        have hb1 : ¬ 9223372036854775807 < 1 + J.size := by omega
        have hb2 : ¬ 9223372036854775807 < 1 + J.size + 1 := by omega
        have HIm := Zz.mk (HI2.out.below HBm.out)
        have HOw := Zz.mk (pw_own_below HO2.out HBm.out)
        go_region_law (first | (go_simp; go_at_call 28; refine C.out.mono ?_; rintro e w2 ⟨rfl, hbl⟩; have HI3 := Zz.mk (HIm.out.below hbl); have HO3 := Zz.mk (pw_own_below HOw.out hbl); clear hbl) | (refine step_append_cells (w0 := w) w.heap.size rfl (.tmp 50) (.tmp 59) 52 9 (.string ⟨#[]⟩) 1 16 rfl Try.underlying52 info9 rfl (by decide) (by decide) u5 acc.length (encs Value.string acc) [.string ((⟨#[40]⟩ : ByteArray) ++ J ++ (⟨#[41]⟩ : ByteArray))] rfl rfl rfl ?h1 HO3.out HI3.out.hB HI3.out.hB.size ?hl ?_; (case h1 => intro u hu; simp at hu; subst hu; rfl); (case hl => rw [hlen.out]; omega); intro v1' w1 hown hB hg hat; have HI4 := Zz.mk (HI3.out.grown HO3.out hB hg); have HO4 := Zz.mk (strs_snoc hown); clear hown hB hg hat))
        all_goals go_wp2
        all_goals go_meet
        all_goals exact ⟨HI4, ⟨by rw [hacc.out, hR.out]; exact HO4.out⟩⟩
       ·have hR : Zz (sayB parts (F' + 1) q = (⟨#[91]⟩ : ByteArray) ++ jn ac9 ++ (⟨#[93]⟩ : ByteArray)) := ⟨by rw [hsay.out, hW2.out]; simp [openB, closeB]⟩
        clear hsay
        have pk := (zbc (blk_below (blk_below hx.out HB9.out) (below_self_alloc wr (.map (esB 3) 3))) 0).trans (rfl : _ = some (Value.int .i64 4))
        have hlk := mapW_look wr 4 ⟨#[91, 93]⟩ (by simp)
        replace pk : (mapW wr 3).cell? _ = _ := pk
        go_upto_region 16 with (fail)
        clear hm0 hm1 hm2 hm3 hlk pk
        have HBm := Zz.mk (show Below wq.heap.size wq (mapW wr 3).drew from below_drew (below_chain HB9.out HB9.out.size (below_self_alloc wr (.map (esB 3) 3))))
        have HOm := Zz.mk (show Strs (mapW wr 3).drew wq.heap.size u9 ac9 from HO9.out.alloc (.map (esB 3) 3))
        clear HB9 HO9
        generalize mapW wr 3 = wm at HBm HOm ⊢
        have C := Zz.mk (join_any u9 ac9 wq.heap.size wm.drew HOm.out (by rw [hW2.out]; exact hco.out))
        have hjs : (jn ac9).size ≤ 1099511627776 := by have := jn_size ac9; have h2 := hco.out; rw [hW2.out] at this; rw [hW2.out]; omega
        generalize jn ac9 = J at C hjs hR
        have hb1 : ¬ 9223372036854775807 < 1 + J.size := by omega
        have hb2 : ¬ 9223372036854775807 < 1 + J.size + 1 := by omega
        have HIm := Zz.mk (HI2.out.below HBm.out)
        have HOw := Zz.mk (pw_own_below HO2.out HBm.out)
        go_region_law (first | (go_simp; go_at_call 28; refine C.out.mono ?_; rintro e w2 ⟨rfl, hbl⟩; have HI3 := Zz.mk (HIm.out.below hbl); have HO3 := Zz.mk (pw_own_below HOw.out hbl); clear hbl) | (refine step_append_cells (w0 := w) w.heap.size rfl (.tmp 50) (.tmp 59) 52 9 (.string ⟨#[]⟩) 1 16 rfl Try.underlying52 info9 rfl (by decide) (by decide) u5 acc.length (encs Value.string acc) [.string ((⟨#[91]⟩ : ByteArray) ++ J ++ (⟨#[93]⟩ : ByteArray))] rfl rfl rfl ?h1 HO3.out HI3.out.hB HI3.out.hB.size ?hl ?_; (case h1 => intro u hu; simp at hu; subst hu; rfl); (case hl => rw [hlen.out]; omega); intro v1' w1 hown hB hg hat; have HI4 := Zz.mk (HI3.out.grown HO3.out hB hg); have HO4 := Zz.mk (strs_snoc hown); clear hown hB hg hat))
        all_goals go_wp2
        all_goals go_meet
        all_goals exact ⟨HI4, ⟨by rw [hacc.out, hR.out]; exact HO4.out⟩⟩
       ·have hR : Zz (sayB parts (F' + 1) q = (⟨#[123]⟩ : ByteArray) ++ jn ac9 ++ (⟨#[125]⟩ : ByteArray)) := ⟨by rw [hsay.out, hW2.out]; simp [openB, closeB]⟩
        clear hsay
        have pk := (zbc (blk_below (blk_below hx.out HB9.out) (below_self_alloc wr (.map (esB 3) 3))) 0).trans (rfl : _ = some (Value.int .i64 5))
        have hlk := mapW_look wr 5 ⟨#[123, 125]⟩ (by simp)
        replace pk : (mapW wr 3).cell? _ = _ := pk
        go_upto_region 16 with (fail)
        clear hm0 hm1 hm2 hm3 hlk pk
        have HBm := Zz.mk (show Below wq.heap.size wq (mapW wr 3).drew from below_drew (below_chain HB9.out HB9.out.size (below_self_alloc wr (.map (esB 3) 3))))
        have HOm := Zz.mk (show Strs (mapW wr 3).drew wq.heap.size u9 ac9 from HO9.out.alloc (.map (esB 3) 3))
        clear HB9 HO9
        generalize mapW wr 3 = wm at HBm HOm ⊢
        have C := Zz.mk (join_any u9 ac9 wq.heap.size wm.drew HOm.out (by rw [hW2.out]; exact hco.out))
        have hjs : (jn ac9).size ≤ 1099511627776 := by have := jn_size ac9; have h2 := hco.out; rw [hW2.out] at this; rw [hW2.out]; omega
        generalize jn ac9 = J at C hjs hR
        have hb1 : ¬ 9223372036854775807 < 1 + J.size := by omega
        have hb2 : ¬ 9223372036854775807 < 1 + J.size + 1 := by omega
        have HIm := Zz.mk (HI2.out.below HBm.out)
        have HOw := Zz.mk (pw_own_below HO2.out HBm.out)
        go_region_law (first | (go_simp; go_at_call 28; refine C.out.mono ?_; rintro e w2 ⟨rfl, hbl⟩; have HI3 := Zz.mk (HIm.out.below hbl); have HO3 := Zz.mk (pw_own_below HOw.out hbl); clear hbl) | (refine step_append_cells (w0 := w) w.heap.size rfl (.tmp 50) (.tmp 59) 52 9 (.string ⟨#[]⟩) 1 16 rfl Try.underlying52 info9 rfl (by decide) (by decide) u5 acc.length (encs Value.string acc) [.string ((⟨#[123]⟩ : ByteArray) ++ J ++ (⟨#[125]⟩ : ByteArray))] rfl rfl rfl ?h1 HO3.out HI3.out.hB HI3.out.hB.size ?hl ?_; (case h1 => intro u hu; simp at hu; subst hu; rfl); (case hl => rw [hlen.out]; omega); intro v1' w1 hown hB hg hat; have HI4 := Zz.mk (HI3.out.grown HO3.out hB hg); have HO4 := Zz.mk (strs_snoc hown); clear hown hB hg hat))
        all_goals go_wp2
        all_goals go_meet
        all_goals exact ⟨HI4, ⟨by rw [hacc.out, hR.out]; exact HO4.out⟩⟩
   case rest =>
    obtain ⟨HI3, HO3⟩ := hcut
    go_wp2
    go_roundg (l.length - (i + 1))
    case measure => omega
    case rel => exact ⟨i + 1, by go_num, rfl, by omega, HI3, ⟨by rw [htk.out]; exact HO3.out⟩⟩
  ·have b1 : decide (i < l.length) = false := decide_eq_false hlt
   have HO2 := Zz.mk (show Strs wr w.heap.size u5 (l.map (sayB parts F)) from by have := HO.out; rwa [List.take_of_length_le (by omega)] at this)
   clear HO
   go_wp2
   go_ret
   exact ⟨_, rfl, HO2.out, HI.out.hB⟩
theorem words_walk (parts : List S119) : ∀ F, wordsDo parts F
 | 0 => words_step parts 0 (fun F' h => by omega)
 | F + 1 => words_step parts (F + 1) (fun F' h => by cases h; exact words_walk parts F)
end Go.Proofs.Ythcmamcbnjphgaa.PFnExactGrammarShow
namespace Go.Proofs.Ythcmamcbnjphgaa.MBld
open Go.RowKit
theorem atF_grown {T e : TypeId} {B b : Nat} {p : Value} {bs : List Value} {w w1 : World} (h : Lib.BuilderAtF T e B b p bs w) (hb : Below w.heap.size w w1) : Lib.BuilderAtF T e B b p bs w1 := by
 have hlt := h.lt
 obtain ⟨hB, v, hbk, hown, hne⟩ := h
 refine ⟨hB, v, (hb.block b hlt).trans hbk, hown.kept (row := none) ⟨hb.os, hb.tape, hb.output, hb.size, fun i hi _ => hb.block i hi⟩ ?_, hne⟩
 cases v.ownBlock <;> simp
theorem isF_grown {T e : TypeId} {B b : Nat} {bs : List Value} {w w1 : World} (h : Lib.IsBuilderF T e B b bs w) (hb : Below w.heap.size w w1) : Lib.IsBuilderF T e B b bs w1 := by
 rcases h with h | h
 ·exact .inl (atF_grown h hb)
 ·exact .inr (atF_grown h hb)
theorem kept_of_below {e : TypeId} {b : Option Nat} {w w1 : World} (hb : Below w.heap.size w w1) : Lib.OthersKept e b w w1 := by
 intro k o h _ _
 rw [hb.block k (by rcases Nat.lt_or_ge k w.heap.size with h' | h'; exact h'; simp [Array.getElem?_eq_none h'] at h)]
 exact h
set_option maxHeartbeats 2000000 in
set_option maxRecDepth 100000 in
theorem line_k (B b : Nat) (l : List UInt8) (bk o c : Nat) (xs : List ByteArray) (w : World) (h : Lib.IsBuilderF 66 5 B b (Lib.byteCells l) w) (hBw : B ≤ w.heap.size)
  (hcells : ∀ (j : Nat) x, xs[j]? = some x → w.cell? ⟨bk, o + j, none⟩ = some (.string x)) (hbk : bk < w.heap.size) (hc : xs.length ≤ c) (hN : xs.length ≤ 140737488355328)
  (hlen : l.length + (Lib.join (xs.map (·.data.toList)) [32]).length + 2 ≤ 140737488355328) :
  Calls Try.prog 26 #[.slice (some ⟨bk, o, none⟩) xs.length c, .pointer (some ⟨b, 0, none⟩)] w fun e w' => e = .returned (.tuple #[]) ∧ (Lib.IsBuilderF 66 5 B b (Lib.byteCells (l ++ Lib.join (xs.map (·.data.toList)) [32] ++ [59, 10])) w' ∧ Below B w w' ∧ Lib.OthersKept 5 (some b) w w') := by
 go_enter Try.func26, Try.ntmps26
 go_wp2_with (go_at_call 28; refine (Try.strings_Join bk o c xs ⟨#[32]⟩ w hcells hbk hN hc (by simp at hlen ⊢; omega)).mono ?_; rintro e w1 he)
 obtain ⟨rfl, hb1⟩ := he
 have h1 := isF_grown h hb1
 go_wp2_with (go_at_call 27; refine (WriteString_k B b _ _ _ h1 (by have := hb1.size; simp [Lib.byteCells_length, ByteArray.size] at hlen ⊢; omega) (by have := hb1.size; omega)).mono ?_)
 rintro e w2 ⟨rfl, h2, hb2, hk2⟩
 go_wp2_with (go_at_call 27; refine (WriteString_k B b _ _ _ (.inr h2) (by have := hb1.size; simp [Lib.byteCells_length, Lib.strCells_length, ByteArray.size] at hlen ⊢; omega) (by have := hb1.size; have := hb2.size; omega)).mono ?_)
 rintro e w3 ⟨rfl, h3, hb3, hk3⟩
 go_wp2
 go_end0
 refine ⟨rfl, .inr ?_, ((hb1.mono hBw).trans hb2).trans hb3, ((kept_of_below hb1).trans hk2).trans hk3⟩
 have : Lib.byteCells (l ++ Lib.join (xs.map (·.data.toList)) [32] ++ [59, 10]) = Lib.byteCells l ++ Lib.strCells ⟨(Lib.join (xs.map (·.data.toList)) [32]).toArray⟩ ++ Lib.strCells ⟨#[59, 10]⟩ := by
  simp [Lib.byteCells, Lib.strCells]
 rw [this]
 exact h3
end Go.Proofs.Ythcmamcbnjphgaa.MBld
namespace Go.Proofs.Ythcmamcbnjphgaa.PFnExactGrammarShow
open Go.RowKit Go.Proofs.YthcmamcbnjphgaaW.PrintWords Go.Proofs.YthcmamcbnjphgaaW.PrintLast Go.Proofs.YthcmamcbnjphgaaW.PrintMore
def lineL (l : List ByteArray) : List UInt8 := jnL l ++ [59, 10]
def linesL (ls : List (List ByteArray)) : List UInt8 := (ls.map lineL).flatten
def quoB (s : ByteArray) : ByteArray := (⟨#[39]⟩ : ByteArray) ++ s ++ (⟨#[39]⟩ : ByteArray)
def kindW (b : Bool) : ByteArray := if b then ⟨#[115, 107, 105, 112]⟩ else ⟨#[116, 111, 107, 101, 110]⟩
def tokW (t : S51) : List ByteArray := [kindW t.f2, t.f0, (⟨#[126]⟩ : ByteArray) ++ t.f1 ++ (⟨#[126]⟩ : ByteArray)]
def assocB (n : Int) : ByteArray := if n = 1 then ⟨#[108, 101, 102, 116]⟩ else if n = 2 then ⟨#[114, 105, 103, 104, 116]⟩ else ⟨#[110, 111, 110, 101]⟩
def levW (l : S54) : List ByteArray := assocB l.f0 :: l.f1.map quoB
def ruleWs (parts : List S119) (r : S59) : List ByteArray := ruleW (sayB parts parts.length) r.f0 r.f1
def headW (nm : ByteArray) : List ByteArray := [⟨#[108, 97, 110, 103, 117, 97, 103, 101]⟩, nm]
def showWs (nm : ByteArray) (toks : List S51) (levs : List S54) (rules : List S59) (parts : List S119) : List (List ByteArray) :=
 headW nm :: (toks.map tokW ++ (levs.map levW ++ rules.map (ruleWs parts)))
theorem linesL_cons (a : List ByteArray) (r : List (List ByteArray)) : linesL (a :: r) = lineL a ++ linesL r := by simp [linesL]
theorem cost_line {l : List ByteArray} (h : l ≠ []) : cost l ≤ (lineL l).length := by
 cases l with
 | nil => exact absurd rfl h
 | cons x r => rw [lineL, jnL, List.length_append, List.length_append, jtL_length, cost_cons, data_length]; simp; omega
theorem mem_cost {x : ByteArray} : ∀ {l : List ByteArray}, x ∈ l → x.size + 1 ≤ cost l
 | y :: l, h => by
  rw [cost_cons]
  rcases List.mem_cons.1 h with rfl | h
  ·omega
  ·have := mem_cost h; omega
def Left (TOT L : List UInt8) (ls : List (List ByteArray)) : Prop := L ++ linesL ls = TOT
theorem Left.next {TOT L : List UInt8} {l : List ByteArray} {ls : List (List ByteArray)} (h : Left TOT L (l :: ls)) : Left TOT (L ++ lineL l) ls := by
 unfold Left at h ⊢; rw [← h, linesL_cons, List.append_assoc]
theorem Left.len {TOT L : List UInt8} {l : List ByteArray} {ls : List (List ByteArray)} (h : Left TOT L (l :: ls)) : L.length + (lineL l).length ≤ TOT.length := by
 unfold Left at h; rw [← h, linesL_cons]; simp
structure SI (w : World) (nm : ByteArray) (v1 v2 v3 v4 : Value) (b : Nat) (L : List UInt8) (wr : World) : Prop where
 hG : GInv w nm v1 v2 v3 v4 wr
 hb : Lib.IsBuilderF 66 5 b b (Lib.byteCells L) wr
 hlt : w.heap.size < b
 hsz : b ≤ wr.heap.size
theorem SI.below {w : World} {nm : ByteArray} {v1 v2 v3 v4 : Value} {b : Nat} {L : List UInt8} {wr w2 : World} (h : SI w nm v1 v2 v3 v4 b L wr) (k : Below wr.heap.size wr w2) : SI w nm v1 v2 v3 v4 b L w2 :=
 ⟨h.hG.below k, MBld.isF_grown h.hb k, h.hlt, Nat.le_trans h.hsz k.size⟩
theorem SI.line {w : World} {nm : ByteArray} {v1 v2 v3 v4 : Value} {b : Nat} {L L2 : List UInt8} {wr w2 : World} (h : SI w nm v1 v2 v3 v4 b L wr) (hb : Lib.IsBuilderF 66 5 b b (Lib.byteCells L2) w2) (k : Below b wr w2) : SI w nm v1 v2 v3 v4 b L2 w2 :=
 ⟨⟨(k.block _ h.hlt).trans h.hG.hg, h.hG.hB.trans (k.mono (Nat.le_of_lt h.hlt))⟩, hb, h.hlt, Nat.le_trans h.hsz k.size⟩
theorem line_any {w : World} {nm : ByteArray} {v1 v2 v3 v4 : Value} {b : Nat} {TOT L : List UInt8} {l : List ByteArray} {ls : List (List ByteArray)} {wr : World} (h : SI w nm v1 v2 v3 v4 b L wr) (v : Value) (base : Nat) (HO : Strs wr base v l) (h0 : l ≠ []) (hL : Left TOT L (l :: ls)) (hT : TOT.length ≤ 1099511627776) :
  Calls Try.prog 26 #[v, .pointer (some ⟨b, 0, none⟩)] wr fun e w' => e = .returned (.tuple #[]) ∧ SI w nm v1 v2 v3 v4 b (L ++ lineL l) w' := by
 obtain ⟨A, c, rfl, hc, hr⟩ := own_reads_of_le (d := ByteArray.empty) HO
 have hl := length_cost l
 have hcl := cost_line h0
 have hlen := hL.len
 have hp : 0 < l.length := List.length_pos_iff.2 h0
 rcases HO.2 with ⟨h, hn⟩ | ⟨g, cap, cur, hv, _⟩
 ·injection h with h1 h2 h3
  omega
 ·injection hv with h1 h2 h3
  subst h1
  obtain ⟨ad, h', hcell⟩ := hr.2.2 hp
  injection h' with h'
  subst h'
  have hj : Lib.join (l.map (·.data.toList)) [32] = jnL l := join_jnL l
  have hll : (lineL l).length = (jnL l).length + 2 := by simp [lineL]
  refine (MBld.line_k b b L g 0 c l wr h.hb h.hsz ?_ (World.block_lt_of_cell? _ _ (hcell 0 hp)) hc (by omega) (by rw [hj]; omega)).mono ?_
  ·intro j x hx
   have hjl : j < l.length := by
    rcases Nat.lt_or_ge j l.length with h | h
    ·exact h
    ·simp [List.getElem?_eq_none h] at hx
   have := hcell j hjl
   rw [List.getD_eq_getElem?_getD, hx] at this
   rcases Nat.eq_zero_or_pos j with rfl | hj0
   ·simpa [Addr.add] using this
   ·simpa [Addr.add, Nat.ne_of_gt hj0] using this
  ·rintro e w' ⟨rfl, hb, hB, _⟩
   refine ⟨rfl, h.line ?_ hB⟩
   rw [hj, List.append_assoc] at hb
   exact hb
theorem SI.start {w wr : World} {nm : ByteArray} {v1 v2 v3 v4 : Value} (h : GInv w nm v1 v2 v3 v4 wr) : SI w nm v1 v2 v3 v4 wr.heap.size [] (wr.alloc (.cells #[.pointer none, .slice none 0 0] 66)) :=
 ⟨h.below (below_self_alloc _ _), Lib.IsBuilderF.of (Lib.fresh_isBuilder 66 5 wr), blk_lt h.hg, by simp⟩
set_option maxHeartbeats 4000000 in
set_option maxRecDepth 100000 in
theorem show_bad (nm : ByteArray) (A1 : Option Addr) (c1 : Nat) (toks : List S51) (A2 : Option Addr) (c2 : Nat) (levs : List S54) (A3 : Option Addr) (c3 : Nat) (rules : List S59) (A4 : Option Addr) (c4 : Nat) (parts : List S119) (w : World)
  (H1 : Kd.C k51 w A1 toks.length toks) (L1 : toks.length ≤ c1) (H2 : Kd.C k54 w A2 levs.length levs) (L2 : levs.length ≤ c2) (H3 : Kd.C k59 w A3 rules.length rules) (L3 : rules.length ≤ c3) (H4 : Kd.C k119 w A4 parts.length parts) (L4 : parts.length ≤ c4)
  (hok : okB nm toks levs rules parts = false) :
  Calls Try.prog 8 #[.agg #[.string nm, .slice A1 toks.length c1, .slice A2 levs.length c2, .slice A3 rules.length c3, .slice A4 parts.length c4]] w fun e w' => e = .returned (.tuple #[.string ⟨#[]⟩, .int .i64 1]) ∧ Below w.heap.size w w' := by
 have HI := Zz.mk (GInv.start w nm (.slice A1 toks.length c1) (.slice A2 levs.length c2) (.slice A3 rules.length c3) (.slice A4 parts.length c4))
 have C := Zz.mk (implOK_walk nm A1 c1 toks A2 c2 levs A3 c3 rules A4 c4 parts (w.alloc (.cells #[.string nm, .slice A1 toks.length c1, .slice A2 levs.length c2, .slice A3 rules.length c3, .slice A4 parts.length c4] 36))
  (Kd.C_below H1 HI.out.hB) L1 (Kd.C_below H2 HI.out.hB) L2 (Kd.C_below H3 HI.out.hB) L3 (Kd.C_below H4 HI.out.hB) L4)
 rw [hok] at C
 clear hok
 replace H1 := Zz.mk H1
 replace H2 := Zz.mk H2
 replace H3 := Zz.mk H3
 replace H4 := Zz.mk H4
 go_enter Try.func8, Try.ntmps8
 go_wp2_with (go_at_call 25; refine C.out.mono ?_; rintro e w1 ⟨rfl, hbl⟩; have HI2 := Zz.mk (HI.out.below hbl); clear hbl)
 go_ret2
 exact ⟨rfl, HI2.out.hB⟩
set_option maxHeartbeats 4000000 in
set_option maxRecDepth 100000 in
theorem show_walk (nm : ByteArray) (A1 : Option Addr) (c1 : Nat) (toks : List S51) (A2 : Option Addr) (c2 : Nat) (levs : List S54) (A3 : Option Addr) (c3 : Nat) (rules : List S59) (A4 : Option Addr) (c4 : Nat) (parts : List S119) (w : World)
  (H1 : Kd.C k51 w A1 toks.length toks) (L1 : toks.length ≤ c1) (H2 : Kd.C k54 w A2 levs.length levs) (L2 : levs.length ≤ c2) (H3 : Kd.C k59 w A3 rules.length rules) (L3 : rules.length ≤ c3) (H4 : Kd.C k119 w A4 parts.length parts) (L4 : parts.length ≤ c4)
  (hok : okB nm toks levs rules parts = true) (hlev : ∀ l ∈ levs, 1 ≤ l.f0 ∧ l.f0 ≤ 3) (hfine : ∀ r ∈ rules, ∀ a ∈ r.f1, ∀ q ∈ a.f0, Fine parts parts.length q) (hT : (linesL (showWs nm toks levs rules parts)).length ≤ 1099511627776) :
  Calls Try.prog 8 #[.agg #[.string nm, .slice A1 toks.length c1, .slice A2 levs.length c2, .slice A3 rules.length c3, .slice A4 parts.length c4]] w fun e w' => e = .returned (if (linesL (showWs nm toks levs rules parts)).length > 6000 then .tuple #[.string ⟨#[]⟩, .int .i64 3] else .tuple #[.string ⟨(linesL (showWs nm toks levs rules parts)).toArray⟩, .int .i64 0]) ∧ Below w.heap.size w w' := by
 have HI := Zz.mk (GInv.start w nm (.slice A1 toks.length c1) (.slice A2 levs.length c2) (.slice A3 rules.length c3) (.slice A4 parts.length c4))
 have C := Zz.mk (implOK_walk nm A1 c1 toks A2 c2 levs A3 c3 rules A4 c4 parts (w.alloc (.cells #[.string nm, .slice A1 toks.length c1, .slice A2 levs.length c2, .slice A3 rules.length c3, .slice A4 parts.length c4] 36))
  (Kd.C_below H1 HI.out.hB) L1 (Kd.C_below H2 HI.out.hB) L2 (Kd.C_below H3 HI.out.hB) L3 (Kd.C_below H4 HI.out.hB) L4)
 rw [hok] at C
 clear hok
 replace H1 := Zz.mk H1
 replace H2 := Zz.mk H2
 replace H3 := Zz.mk H3
 replace H4 := Zz.mk H4
 have HL0 := Zz.mk (show Left (linesL (showWs nm toks levs rules parts)) [] (headW nm :: (toks.map tokW ++ (levs.map levW ++ rules.map (ruleWs parts)))) from by unfold Left; rfl)
 generalize linesL (showWs nm toks levs rules parts) = TOT at hT HL0 ⊢
 replace hT := Zz.mk hT
 generalize hRES : (if TOT.length > 6000 then Value.tuple #[.string ⟨#[]⟩, .int .i64 3] else .tuple #[.string ⟨TOT.toArray⟩, .int .i64 0]) = RES
 replace hRES := Zz.mk hRES
 replace hlev := Zz.mk hlev
 replace hfine := Zz.mk hfine
 go_enter Try.func8, Try.ntmps8
 go_upto_region 3 with (go_at_call 25; refine C.out.mono ?_; rintro e w1 ⟨rfl, hbl⟩; have HI2 := Zz.mk (HI.out.below hbl); clear hbl)
 have HS := Zz.mk (SI.start HI2.out)
 clear HI HI2 C
 go_upto_region 4 with (fail)
 generalize (w1.alloc (.cells #[.pointer none, .slice none 0 0] 66)) = w2 at HS ⊢
 generalize w1.heap.size = b at HS ⊢
 go_upto_region 5 with (fail)
 have g0 := (zbc HS.out.hG.hg 0).trans (rfl : _ = some (Value.string nm))
 have HS2 := Zz.mk (HS.out.below (below_self_alloc w2 (.cells #[.string ⟨#[108, 97, 110, 103, 117, 97, 103, 101]⟩, .string nm] 9)))
 have HO := Zz.mk (show Strs (w2.alloc (.cells #[.string ⟨#[108, 97, 110, 103, 117, 97, 103, 101]⟩, .string nm] 9)) w2.heap.size (.slice (some ⟨w2.heap.size, 0, none⟩) 2 2) (headW nm) from lit2_own w2 _ (Nat.le_refl _) _ _)
 have C := Zz.mk (line_any HS2.out _ _ HO.out (by simp [headW]) HL0.out hT.out)
 have HL1 := Zz.mk HL0.out.next
 go_upto_region 6 with (go_at_call 26; refine C.out.mono ?_; rintro e w3 ⟨rfl, hs3⟩; have HS3 := Zz.mk hs3; clear hs3)
 have g1 := (zbc HS3.out.hG.hg 1).trans (rfl : _ = some (Value.slice A1 toks.length c1))
 clear HS HS2 HO C HL0 g0
 go_upto_block 0 with (fail)
 clear g1
 generalize w2.heap.size = b26 at HS3 ⊢
 go_wp2
 go_loopg [31] toks.length (fun gk v31 wr => ∃ (i : Nat) (L : List UInt8), v31 = .int .i64 i ∧ gk = toks.length - i ∧ i ≤ toks.length ∧ Zz (SI w nm (.slice A1 toks.length c1) (.slice A2 levs.length c2) (.slice A3 rules.length c3) (.slice A4 parts.length c4) b L wr) ∧ Zz (Left TOT L ((toks.drop i).map tokW ++ (levs.map levW ++ rules.map (ruleWs parts)))))
 case atStart => exact ⟨0, _, rfl, by omega, by omega, HS3, HL1⟩
 case round =>
  clear HS3 HL1
  obtain ⟨i, L, rfl, hgk, hi, HS, HL⟩ := hrel
  have hl := H1.out.2.1
  by_cases hlt : i < toks.length
  ·have b1 : decide (i < toks.length) = true := decide_eq_true hlt
   have hel : rd_T51 toks i = toks[i] := by simp [rd_T51, List.getD_eq_getElem?_getD, List.getElem?_eq_getElem hlt]
   have HL2 : Left TOT L (tokW (rd_T51 toks i) :: ((toks.drop (i + 1)).map tokW ++ (levs.map levW ++ rules.map (ruleWs parts)))) := by
    have := HL.out
    rw [List.drop_eq_getElem_cons hlt] at this
    rw [hel]
    exact this
   obtain ⟨ad6, hA6, hx0, hx1, hx2⟩ := at_T51 H1.out i (by omega) (by omega)
   cases hA6
   generalize rd_T51 toks (i : Int) = tk at HL2 hx0 hx1 hx2
   obtain ⟨t0, t1, t2⟩ := tk
   simp only at hx0 hx1 hx2
   have hrx : t1.size ≤ 1099511627776 := by
    have h1 := HL2.len
    have h2 := cost_line (l := tokW ⟨t0, t1, t2⟩) (by simp [tokW])
    have h3 := hT.out
    have h4 : t1.size ≤ cost (tokW ⟨t0, t1, t2⟩) := by simp only [tokW, cost_cons, ByteArray.size_append]; omega
    omega
   replace HL2 := Zz.mk HL2
   clear hel HL
   replace hx0 : wr.cell? (ad6.add (i * 3)) = some (.string t0) := (HS.out.hG.hB.cell (World.block_lt_of_cell? _ _ hx0)).trans hx0
   replace hx1 : wr.cell? ⟨(ad6.add (i * 3)).block, (ad6.add (i * 3)).off + 1, none⟩ = some (.string t1) := (HS.out.hG.hB.cell (World.block_lt_of_cell? _ _ hx1)).trans hx1
   replace hx2 : wr.cell? ⟨(ad6.add (i * 3)).block, (ad6.add (i * 3)).off + 2, none⟩ = some (.bool t2) := (HS.out.hG.hB.cell (World.block_lt_of_cell? _ _ hx2)).trans hx2
   have i0 : (0 : Int) ≤ (i : Int) := by omega
   have i1 : (i : Int) < (toks.length : Int) := by omega
   go_upto_region 9 with (fail)
   have HS2 := Zz.mk (HS.out.below (below_self_alloc wr (.cells #[.string t0, .string t1, .bool t2] 51)))
   have hx := Zz.mk (blk_new wr (.cells #[.string t0, .string t1, .bool t2] 51))
   clear hx0 hx1 hx2 HS
   generalize (wr.alloc (.cells #[.string t0, .string t1, .bool t2] 51)) = wq at HS2 hx ⊢
   generalize wr.heap.size = b7 at hx ⊢
   have p0 := (zbc hx.out 0).trans (rfl : _ = some (Value.string t0))
   have p1 := (zbc hx.out 1).trans (rfl : _ = some (Value.string t1))
   have p2 := (zbc hx.out 2).trans (rfl : _ = some (Value.bool t2))
   have hb1 : ¬ 9223372036854775807 < 1 + t1.size := by omega
   have hb2 : ¬ 9223372036854775807 < 1 + t1.size + 1 := by omega
   have HSn := Zz.mk (HS2.out.below (below_self_alloc wq (.cells #[.string (kindW t2), .string t0, .string ((⟨#[126]⟩ : ByteArray) ++ t1 ++ (⟨#[126]⟩ : ByteArray))] 9)))
   have HO := Zz.mk (show Strs (wq.alloc (.cells #[.string (kindW t2), .string t0, .string ((⟨#[126]⟩ : ByteArray) ++ t1 ++ (⟨#[126]⟩ : ByteArray))] 9)) wq.heap.size (.slice (some ⟨wq.heap.size, 0, none⟩) 3 3) (tokW ⟨t0, t1, t2⟩) from own_lit_of (enc := Value.string) wq wq.heap.size 9 [kindW t2, t0, (⟨#[126]⟩ : ByteArray) ++ t1 ++ (⟨#[126]⟩ : ByteArray)] (Nat.le_refl _) (by simp))
   have C := Zz.mk (line_any HSn.out _ _ HO.out (by simp [tokW]) HL2.out hT.out)
   have HL3 := Zz.mk HL2.out.next
   clear HL2 hrx
   cases t2
   ·go_wp2_with (go_at_call 26; refine C.out.mono ?_; rintro e w3 ⟨rfl, hs3⟩; have HS3 := Zz.mk hs3; clear hs3)
    go_roundg (toks.length - (i + 1))
    case measure => omega
    case rel => exact ⟨i + 1, _, by go_num, rfl, by omega, HS3, HL3⟩
   ·go_wp2_with (go_at_call 26; refine C.out.mono ?_; rintro e w3 ⟨rfl, hs3⟩; have HS3 := Zz.mk hs3; clear hs3)
    go_roundg (toks.length - (i + 1))
    case measure => omega
    case rel => exact ⟨i + 1, _, by go_num, rfl, by omega, HS3, HL3⟩
  ·have b1 : decide (i < toks.length) = false := decide_eq_false hlt
   have HL2 := Zz.mk (show Left TOT L (levs.map levW ++ rules.map (ruleWs parts)) from by have := HL.out; rwa [List.drop_of_length_le (by omega)] at this)
   clear HL
   have g2 := (zbc HS.out.hG.hg 2).trans (rfl : _ = some (Value.slice A2 levs.length c2))
   go_upto_block 2 with (fail)
   clear g2
   go_wp2
   go_loopg [51] levs.length (fun gk v51 wr => ∃ (i : Nat) (L : List UInt8), v51 = .int .i64 i ∧ gk = levs.length - i ∧ i ≤ levs.length ∧ Zz (SI w nm (.slice A1 toks.length c1) (.slice A2 levs.length c2) (.slice A3 rules.length c3) (.slice A4 parts.length c4) b L wr) ∧ Zz (Left TOT L ((levs.drop i).map levW ++ rules.map (ruleWs parts))))
   case atStart => exact ⟨0, _, rfl, by omega, by omega, HS, HL2⟩
   case round =>
    clear HS HL2 hgk hi hlt b1 hl
    obtain ⟨i, L, rfl, hgk, hi, HS, HL⟩ := hrel
    have hl := H2.out.2.1
    by_cases hlt : i < levs.length
    ·have b1 : decide (i < levs.length) = true := decide_eq_true hlt
     have hel : rd_T54 levs i = levs[i] := by simp [rd_T54, List.getD_eq_getElem?_getD, List.getElem?_eq_getElem hlt]
     have HL2 : Left TOT L (levW (rd_T54 levs i) :: ((levs.drop (i + 1)).map levW ++ rules.map (ruleWs parts))) := by
      have := HL.out
      rw [List.drop_eq_getElem_cons hlt] at this
      rw [hel]
      exact this
     have hle := hlev.out levs[i] (List.getElem_mem hlt)
     rw [← hel] at hle
     obtain ⟨ad6, A5, c5, hA6, hx0, hx1, hl5, HR5⟩ := at_T54 H2.out i (by omega) (by omega)
     cases hA6
     generalize rd_T54 levs (i : Int) = lv at HL2 hx0 hx1 hl5 HR5 hle
     obtain ⟨t0, lits⟩ := lv
     simp only at hx0 hx1 hl5 HR5 hle
     have hcw : cost (levW ⟨t0, lits⟩) ≤ 1099511627776 := by
      have h1 := HL2.len
      have h2 := cost_line (l := levW ⟨t0, lits⟩) (by simp [levW])
      have h3 := hT.out
      omega
     replace hcw := Zz.mk hcw
     replace HL2 := Zz.mk HL2
     replace HR5 := Zz.mk HR5
     replace hl5 := Zz.mk hl5
     replace hle := Zz.mk hle
     clear hel HL
     replace hx0 : wr.cell? (ad6.add (i * 2)) = some (.int .i64 t0) := (HS.out.hG.hB.cell (World.block_lt_of_cell? _ _ hx0)).trans hx0
     replace hx1 : wr.cell? ⟨(ad6.add (i * 2)).block, (ad6.add (i * 2)).off + 1, none⟩ = some (.slice A5 lits.length c5) := (HS.out.hG.hB.cell (World.block_lt_of_cell? _ _ hx1)).trans hx1
     have i0 : (0 : Int) ≤ (i : Int) := by omega
     have i1 : (i : Int) < (levs.length : Int) := by omega
     go_upto_region 17 with (fail)
     have HS2 := Zz.mk (HS.out.below (below_self_alloc wr (.cells #[.int .i64 t0, .slice A5 lits.length c5] 54)))
     have hx := Zz.mk (blk_new wr (.cells #[.int .i64 t0, .slice A5 lits.length c5] 54))
     clear hx0 hx1 HS
     generalize (wr.alloc (.cells #[.int .i64 t0, .slice A5 lits.length c5] 54)) = wq at HS2 hx ⊢
     generalize wr.heap.size = b10 at hx ⊢
     go_cut [11] (fun v11 wc => Zz (Below wq.heap.size wq wc) ∧ Zz (Strs wc wq.heap.size v11 [assocB t0]))
     case first =>
      have p0 := fun o => (World.cell?_alloc_lt wq o _ (blk_lt hx.out)).trans ((zbc hx.out 0).trans (rfl : _ = some (Value.int .i64 t0)))
      have HB2 := Zz.mk ((below_self_alloc wq (.cells #[.string ⟨#[]⟩, .string ⟨#[108, 101, 102, 116]⟩, .string ⟨#[114, 105, 103, 104, 116]⟩, .string ⟨#[110, 111, 110, 101]⟩] 9)).alloc (by simp) (.cells #[.string (assocB t0)] 9))
      have HO2 := Zz.mk (show Strs ((wq.alloc (.cells #[.string ⟨#[]⟩, .string ⟨#[108, 101, 102, 116]⟩, .string ⟨#[114, 105, 103, 104, 116]⟩, .string ⟨#[110, 111, 110, 101]⟩] 9)).alloc (.cells #[.string (assocB t0)] 9)) wq.heap.size (.slice (some ⟨wq.heap.size + 1, 0, none⟩) 1 1) [assocB t0] from by
       have h := own_lit_of (enc := Value.string) (wq.alloc (.cells #[.string ⟨#[]⟩, .string ⟨#[108, 101, 102, 116]⟩, .string ⟨#[114, 105, 103, 104, 116]⟩, .string ⟨#[110, 111, 110, 101]⟩] 9)) wq.heap.size 9 [assocB t0] (by simp) (by simp)
       rw [show (wq.alloc (.cells #[.string ⟨#[]⟩, .string ⟨#[108, 101, 102, 116]⟩, .string ⟨#[114, 105, 103, 104, 116]⟩, .string ⟨#[110, 111, 110, 101]⟩] 9)).heap.size = wq.heap.size + 1 by simp] at h
       exact h)
      have ht : t0 = 1 ∨ t0 = 2 ∨ t0 = 3 := by have := hle.out; omega
      rcases ht with rfl | rfl | rfl
      all_goals go_wp2
      all_goals go_meet
      all_goals exact ⟨HB2, HO2⟩
     case rest =>
      obtain ⟨HB9, HO9⟩ := hcut
      have p1 := (zbc (blk_below hx.out HB9.out) 1).trans (rfl : _ = some (Value.slice A5 lits.length c5))
      have hqw : Zz (Left TOT L (levW ⟨t0, lits⟩ :: ((levs.drop (i + 1)).map levW ++ rules.map (ruleWs parts)))) := HL2
      go_upto_block 4 with (fail)
      clear p1
      go_wp2
      go_loopg [11, 64] lits.length (fun gk2 v11 v64 wx => ∃ (j : Nat), v64 = .int .i64 j ∧ gk2 = lits.length - j ∧ j ≤ lits.length ∧ Zz (Below wq.heap.size wq wx) ∧ Zz (Strs wx wq.heap.size v11 (assocB t0 :: (lits.take j).map quoB)))
      case atStart => exact ⟨0, rfl, by omega, by omega, HB9, ⟨by simpa using HO9.out⟩⟩
      case round =>
       clear HB9 HO9
       obtain ⟨j, rfl, hgk2, hj, HB9, HO9⟩ := hrel
       have hal := HR5.out.2.1
       have hlc : lits.length + 1 ≤ 1099511627776 := by
        have h := length_cost (levW ⟨t0, lits⟩)
        have h2 := hcw.out
        have h3 : (levW ⟨t0, lits⟩).length = lits.length + 1 := by simp [levW]
        omega
       by_cases hjl : j < lits.length
       ·have b2 : decide (j < lits.length) = true := decide_eq_true hjl
        have j0 : (0 : Int) ≤ (j : Int) := by omega
        have j1 : (j : Int) < (lits.length : Int) := by omega
        obtain ⟨ad7, hA7, hcc⟩ := str_at HR5.out j hjl
        cases hA7
        have hg : lits.getD j ByteArray.empty = lits[j] := by simp [List.getD_eq_getElem?_getD, List.getElem?_eq_getElem hjl]
        have htk : assocB t0 :: (lits.take (j + 1)).map quoB = (assocB t0 :: (lits.take j).map quoB) ++ [quoB (lits.getD j ByteArray.empty)] := by rw [hg, List.take_succ_eq_append_getElem hjl, List.map_append]; rfl
        have hq : (lits.getD j ByteArray.empty).size ≤ 1099511627776 := by
         have h1 : quoB lits[j] ∈ levW ⟨t0, lits⟩ := List.mem_cons_of_mem _ (List.mem_map_of_mem (List.getElem_mem hjl))
         have h2 := mem_cost h1
         have h3 := hcw.out
         rw [hg]
         simp only [quoB, ByteArray.size_append] at h2
         omega
        generalize lits.getD j ByteArray.empty = y at hcc htk hq
        have hacc : (assocB t0 :: (lits.take j).map quoB).length = j + 1 := by simp; omega
        generalize assocB t0 :: (lits.take j).map quoB = acc at HO9 htk hacc
        replace htk := Zz.mk htk
        replace hacc := Zz.mk hacc
        have hca := ((below_chain HS2.out.hG.hB HS2.out.hG.hB.size HB9.out).cell (World.block_lt_of_cell? _ _ hcc)).trans hcc
        replace hcc := Zz.mk hcc
        have hb1 : ¬ 9223372036854775807 < 1 + y.size := by omega
        have hb2 : ¬ 9223372036854775807 < 1 + y.size + 1 := by omega
        clear hg
        go_wp2_with ((with_reducible refine gate_builtin (b := .append) (xs := #[.tmp 68, .tmp 72]) rfl ?_); at_builtin; refine print_append_of (w0 := wq) Value.string wq.heap.size rfl (.tmp 68) (.tmp 72) 52 9 (.string ⟨#[]⟩) 16 rfl Try.underlying52 info9 rfl (by decide) u11 acc ((⟨#[39]⟩ : ByteArray) ++ y ++ (⟨#[39]⟩ : ByteArray)) rfl rfl rfl HO9.out HB9.out HB9.out.size (by rw [hacc.out]; omega) ?_; intro v1' w1 hown hB hg hat; have HB3 := Zz.mk hB; have HO3 := Zz.mk (show Strs w1 wq.heap.size v1' (acc ++ [quoB y]) from hown); clear hown hB hg hat)
        go_roundg (lits.length - (j + 1))
        case measure => omega
        case rel => exact ⟨j + 1, by go_num, rfl, by omega, HB3, ⟨by rw [htk.out]; exact HO3.out⟩⟩
       ·have b2 : decide (j < lits.length) = false := decide_eq_false hjl
        have HO10 := Zz.mk (show Strs wr wq.heap.size u11 (levW ⟨t0, lits⟩) from by have := HO9.out; rwa [List.take_of_length_le (by omega)] at this)
        have C := Zz.mk (line_any (HS2.out.below HB9.out) _ _ HO10.out (by simp [levW]) HL2.out hT.out)
        have HL3 := Zz.mk HL2.out.next
        clear HL2 hqw HO9 HO10 hcw
        go_wp2_with (go_at_call 26; refine C.out.mono ?_; rintro e w3 ⟨rfl, hs3⟩; have HS3 := Zz.mk hs3; clear hs3)
        go_roundg (levs.length - (i + 1))
        case measure => omega
        case rel => exact ⟨i + 1, _, by go_num, rfl, by omega, HS3, HL3⟩
    ·have b1 : decide (i < levs.length) = false := decide_eq_false hlt
     have HL2 := Zz.mk (show Left TOT L (rules.map (ruleWs parts)) from by have := HL.out; rwa [List.drop_of_length_le (by omega)] at this)
     clear HL
     have g3 := (zbc HS.out.hG.hg 3).trans (rfl : _ = some (Value.slice A3 rules.length c3))
     go_upto_block 6 with (fail)
     clear g3
     go_wp2
     go_loopg [82] rules.length (fun gk v82 wr => ∃ (i : Nat) (L : List UInt8), v82 = .int .i64 i ∧ gk = rules.length - i ∧ i ≤ rules.length ∧ Zz (SI w nm (.slice A1 toks.length c1) (.slice A2 levs.length c2) (.slice A3 rules.length c3) (.slice A4 parts.length c4) b L wr) ∧ Zz (Left TOT L ((rules.drop i).map (ruleWs parts))))
     case atStart => exact ⟨0, _, rfl, by omega, by omega, HS, HL2⟩
     case round =>
      clear HS HL2 hgk hi hlt b1 hl
      obtain ⟨i, L, rfl, hgk, hi, HS, HL⟩ := hrel
      have hl := H3.out.2.1
      by_cases hlt : i < rules.length
      ·have b1 : decide (i < rules.length) = true := decide_eq_true hlt
       have hel : rd_T59 rules i = rules[i] := by simp [rd_T59, List.getD_eq_getElem?_getD, List.getElem?_eq_getElem hlt]
       have HL2 : Left TOT L (ruleWs parts (rd_T59 rules i) :: ((rules.drop (i + 1)).map (ruleWs parts))) := by
        have := HL.out
        rw [List.drop_eq_getElem_cons hlt] at this
        rw [hel]
        exact this
       have hfi := hfine.out rules[i] (List.getElem_mem hlt)
       rw [← hel] at hfi
       obtain ⟨ad6, A5, c5, hA6, hx0, hx1, hl5, HR5⟩ := at_T59 H3.out i (by omega) (by omega)
       cases hA6
       generalize rd_T59 rules (i : Int) = ru at HL2 hx0 hx1 hl5 HR5 hfi
       obtain ⟨t0, alts⟩ := ru
       simp only at hx0 hx1 hl5 HR5 hfi
       have hne : ruleWs parts ⟨t0, alts⟩ ≠ [] := by simp [ruleWs, ruleW]
       have hcw : cost (ruleWs parts ⟨t0, alts⟩) ≤ 1099511627776 := by
        have h1 := HL2.len
        have h2 := cost_line hne
        have h3 := hT.out
        omega
       replace hcw := Zz.mk hcw
       replace hne := Zz.mk hne
       replace HL2 := Zz.mk HL2
       replace HR5 := Zz.mk HR5
       replace hl5 := Zz.mk hl5
       replace hfi := Zz.mk hfi
       clear hel HL
       replace hx0 : wr.cell? (ad6.add (i * 2)) = some (.string t0) := (HS.out.hG.hB.cell (World.block_lt_of_cell? _ _ hx0)).trans hx0
       replace hx1 : wr.cell? ⟨(ad6.add (i * 2)).block, (ad6.add (i * 2)).off + 1, none⟩ = some (.slice A5 alts.length c5) := (HS.out.hG.hB.cell (World.block_lt_of_cell? _ _ hx1)).trans hx1
       have i0 : (0 : Int) ≤ (i : Int) := by omega
       have i1 : (i : Int) < (rules.length : Int) := by omega
       go_upto_region 28 with (fail)
       have HS2 := Zz.mk (HS.out.below (below_self_alloc wr (.cells #[.string t0, .slice A5 alts.length c5] 59)))
       have hx := Zz.mk (blk_new wr (.cells #[.string t0, .slice A5 alts.length c5] 59))
       clear hx0 hx1 HS
       generalize (wr.alloc (.cells #[.string t0, .slice A5 alts.length c5] 59)) = wq at HS2 hx ⊢
       generalize wr.heap.size = b15 at hx ⊢
       have p0 := (zbc hx.out 0).trans (rfl : _ = some (Value.string t0))
       have HB9 := Zz.mk (below_self_alloc wq (.cells #[.string t0, .string ⟨#[61]⟩] 9))
       have HO9 := Zz.mk (lit2_own wq wq.heap.size (Nat.le_refl _) t0 ⟨#[61]⟩)
       have p1 := (zbc (blk_below hx.out HB9.out) 1).trans (rfl : _ = some (Value.slice A5 alts.length c5))
       go_upto_block 8 with (fail)
       clear p0 p1
       go_wp2
       go_loopg [16, 92] alts.length (fun gk2 v16 v92 wx => ∃ (j : Nat) (ac9 : List ByteArray), v92 = .int .i64 j ∧ gk2 = alts.length - j ∧ j ≤ alts.length ∧ Zz (Below wq.heap.size wq wx) ∧ Zz (Strs wx wq.heap.size v16 ac9) ∧ Zz (ac9 ++ altsR (sayB parts parts.length) j (alts.drop j) = ruleWs parts ⟨t0, alts⟩))
       case atStart => exact ⟨0, [t0, ⟨#[61]⟩], rfl, by omega, by omega, HB9, HO9, ⟨rfl⟩⟩
       case round =>
        clear HB9 HO9
        obtain ⟨j, ac9, rfl, hgk2, hj, HB9, HO9, hW⟩ := hrel
        have hal := HR5.out.2.1
        generalize hWS : ruleWs parts ⟨t0, alts⟩ = WS at HL2 hW hcw hne
        replace hWS := Zz.mk hWS
        by_cases hjl : j < alts.length
        ·have b2 : decide (j < alts.length) = true := decide_eq_true hjl
         have j0 : (0 : Int) ≤ (j : Int) := by omega
         have j1 : (j : Int) < (alts.length : Int) := by omega
         have hel : rd_T75 alts j = alts[j] := by simp [rd_T75, List.getD_eq_getElem?_getD, List.getElem?_eq_getElem hjl]
         have hW2 : ac9 ++ ((if j > 0 then [(⟨#[124]⟩ : ByteArray)] else []) ++ ((rd_T75 alts j).f0.map (sayB parts parts.length) ++ (labW (rd_T75 alts j).f1 ++ altsR (sayB parts parts.length) (j + 1) (alts.drop (j + 1))))) = WS := by
          have := hW.out
          rw [List.drop_eq_getElem_cons hjl] at this
          rw [hel]
          exact this
         have hfa := hfi.out alts[j] (List.getElem_mem hjl)
         rw [← hel] at hfa
         obtain ⟨ad7, A6, c6, hA7, hc6, hc7, hl6, HR6⟩ := at_T75 HR5.out j (by omega) (by omega)
         cases hA7
         clear hel hW
         generalize rd_T75 alts (j : Int) = al at hW2 hfa hc6 hc7 hl6 HR6
         obtain ⟨its, lab⟩ := al
         simp only at hW2 hfa hc6 hc7 hl6 HR6
         replace hW2 := Zz.mk hW2
         replace hfa := Zz.mk hfa
         replace HR6 := Zz.mk HR6
         replace hl6 := Zz.mk hl6
         have HBw := Zz.mk (below_chain HS2.out.hG.hB HS2.out.hG.hB.size HB9.out)
         replace hc6 : wr.cell? (ad7.add (j * 2)) = some (.slice A6 its.length c6) := (HBw.out.cell (World.block_lt_of_cell? _ _ hc6)).trans hc6
         replace hc7 : wr.cell? ⟨(ad7.add (j * 2)).block, (ad7.add (j * 2)).off + 1, none⟩ = some (.string lab) := (HBw.out.cell (World.block_lt_of_cell? _ _ hc7)).trans hc7
         go_upto_region 32 with (fail)
         have hx8 := Zz.mk (blk_new wr (.cells #[.slice A6 its.length c6, .string lab] 75))
         have HB8 := Zz.mk (below_chain HB9.out HB9.out.size (below_self_alloc wr (.cells #[.slice A6 its.length c6, .string lab] 75)))
         have HO8 := Zz.mk (show Strs (wr.alloc (.cells #[.slice A6 its.length c6, .string lab] 75)) wq.heap.size u16 ac9 from HO9.out.alloc _)
         clear hc6 hc7 HB9 HO9 HBw
         generalize (wr.alloc (.cells #[.slice A6 its.length c6, .string lab] 75)) = wa at hx8 HB8 HO8 ⊢
         generalize wr.heap.size = b18 at hx8 ⊢
         go_upto_if 98 with (fail)
         go_cut [16] (fun v16 wc => ∃ ac2 : List ByteArray, Zz (Below wq.heap.size wq wc) ∧ Zz (Strs wc wq.heap.size v16 ac2) ∧ Zz (ac2 ++ (its.map (sayB parts parts.length) ++ (labW lab ++ altsR (sayB parts parts.length) (j + 1) (alts.drop (j + 1)))) = WS) ∧ Zz (wc.heap[b18]? = some (.cells #[.slice A6 its.length c6, .string lab] 75 (0, 0))))
         case first =>
          by_cases h0 : 0 < j
          ·have bp : decide ((0 : Int) < (j : Int)) = true := decide_eq_true (by omega)
           have hlacc : Zz ((ac9.length + 1) * 16 ≤ 140737488355328) := ⟨by
            have h2 := congrArg List.length hW2.out
            have h3 := length_cost WS
            have h4 := hcw.out
            rw [List.length_append, if_pos h0, List.length_append, List.length_singleton] at h2
            omega⟩
           go_wp2_with ((with_reducible refine gate_builtin (b := .append) (xs := #[.tmp 99, .tmp 100]) rfl ?_); at_builtin; refine print_append_of (w0 := wq) Value.string wq.heap.size rfl (.tmp 99) (.tmp 100) 52 9 (.string ⟨#[]⟩) 16 rfl Try.underlying52 info9 rfl (by decide) u16 ac9 ⟨#[124]⟩ rfl rfl rfl HO8.out HB8.out HB8.out.size hlacc.out ?_; intro v1' w1 hown hB hg hat; have HB3 := Zz.mk hB; have HO3 := Zz.mk (show Strs w1 wq.heap.size v1' (ac9 ++ [⟨#[124]⟩]) from hown); have hx3 := Zz.mk (blk_grown hx8.out hg (own_ne HO8.out hx8.out (by decide))); clear hown hB hg hat)
           go_meet
           case rel => exact ⟨_, HB3, HO3, ⟨by have := hW2.out; simpa [h0] using this⟩, hx3⟩
          ·have bp : decide ((0 : Int) < (j : Int)) = false := decide_eq_false (by omega)
           go_wp2
           go_meet
           case rel => exact ⟨_, HB8, HO8, ⟨by have := hW2.out; simpa [h0] using this⟩, hx8⟩
         case rest =>
          clear HB8 HO8 hW2 hx8
          obtain ⟨ac2, HB9, HO9, hW3, hx9⟩ := hcut
          have HI9 := Zz.mk (HS2.out.hG.below HB9.out)
          have hcost : Zz (cost ac2 + cost (its.map (sayB parts parts.length)) + cost (labW lab) ≤ 1099511627776) := ⟨by
           have h2 := congrArg cost hW3.out
           have h4 := hcw.out
           rw [cost_append, cost_append, cost_append] at h2
           omega⟩
          have hlap : Zz ((ac2.length + its.length) * 16 ≤ 140737488355328) := ⟨by
           have h2 := hcost.out
           have h3 := length_cost ac2
           have h4 := length_cost (its.map (sayB parts parts.length))
           rw [List.length_map] at h4
           omega⟩
          have g0 := (zbc HI9.out.hg 0).trans (rfl : _ = some (Value.string nm))
          have g1 := (zbc HI9.out.hg 1).trans (rfl : _ = some (Value.slice A1 toks.length c1))
          have g2 := (zbc HI9.out.hg 2).trans (rfl : _ = some (Value.slice A2 levs.length c2))
          have g3 := (zbc HI9.out.hg 3).trans (rfl : _ = some (Value.slice (some ad6) rules.length c3))
          have g4 := (zbc HI9.out.hg 4).trans (rfl : _ = some (Value.slice A4 parts.length c4))
          have p0 := (zbc hx9.out 0).trans (rfl : _ = some (Value.slice A6 its.length c6))
          have C := Zz.mk (words_walk parts parts.length nm (.slice A1 toks.length c1) (.slice A2 levs.length c2) (.slice (some ad6) rules.length c3) A4 c4 A6 c6 its wc (Kd.C_below H4.out HI9.out.hB) L4 (Kd.C_below HR6.out HI9.out.hB) hl6.out hfa.out (by have := hcost.out; omega))
          go_upto_region 35 with (first | (go_at_call 29; refine C.out.mono ?_; rintro e w2 ⟨vv, rfl, hown, hbl⟩; have HB10 := Zz.mk (below_chain HB9.out HB9.out.size hbl); have HO10 := Zz.mk (pw_own_below HO9.out hbl); have hx10 := Zz.mk (blk_below hx9.out hbl); clear hbl; obtain ⟨A7, c7, rfl, hlc7, hr7⟩ := own_reads_of_le (d := ByteArray.empty) hown; have hr8 : ReadsOf Value.string ByteArray.empty w2 A7 its.length (its.map (sayB parts parts.length)) := (by rwa [List.length_map] at hr7)) | ((with_reducible refine gate_builtin (b := .append) (xs := #[.tmp 102, .tmp 106]) rfl ?_); at_builtin; refine print_append_row_of (w0 := wq) Value.string ByteArray.empty wq.heap.size rfl (.tmp 102) (.tmp 106) 52 9 (.string ⟨#[]⟩) 16 rfl Try.underlying52 info9 rfl (by decide) (fun _ => rfl) u16 ac2 (its.map (sayB parts parts.length)) A7 _ c7 rfl rfl HO10.out hr8 HB10.out HB10.out.size hlap.out ?_; intro v5' w5 hown6 hB hg hat; have HB11 := Zz.mk hB; have HO11 := Zz.mk (show Strs w5 wq.heap.size v5' (ac2 ++ (its.map (sayB parts parts.length))) from hown6); have hx11 := Zz.mk (blk_grown hx10.out hg (own_ne HO10.out hx10.out (by decide))); clear hown6 hB hg hat))
          clear g0 g1 g2 g3 g4 p0 C HB9 HO9 hx9 HB10 HO10 hx10 hown hr7 hr8 HI9
          have p1 := (zbc hx11.out 1).trans (rfl : _ = some (Value.string lab))
          by_cases hlab : lab.toList = []
          ·have t1 : (lab.toList == []) = true := by rw [hlab]; rfl
           have t2 : lab.toList.isEmpty = true := by rw [hlab]; rfl
           have hW4 : Zz ((ac2 ++ (its.map (sayB parts parts.length))) ++ altsR (sayB parts parts.length) (j + 1) (alts.drop (j + 1)) = ruleWs parts ⟨t0, alts⟩) := ⟨by rw [hWS.out]; have := hW3.out; rw [labW, if_pos hlab] at this; simpa using this⟩
           go_wp2
           go_roundg (alts.length - (j + 1))
           case measure => omega
           case rel => exact ⟨j + 1, _, by go_num, rfl, by omega, HB11, HO11, hW4⟩
          ·have t1 : (lab.toList == []) = false := by simpa using hlab
           have t2 : lab.toList.isEmpty = false := by simpa using hlab
           have hW4 : Zz (((ac2 ++ (its.map (sayB parts parts.length))) ++ [(⟨#[35]⟩ : ByteArray), lab]) ++ altsR (sayB parts parts.length) (j + 1) (alts.drop (j + 1)) = ruleWs parts ⟨t0, alts⟩) := ⟨by rw [hWS.out]; have := hW3.out; rw [labW, if_neg hlab] at this; simpa using this⟩
           have HB12 := Zz.mk (below_chain HB11.out HB11.out.size (below_self_alloc w5 (.cells #[.string ⟨#[35]⟩, .string lab] 9)))
           have HO12 := Zz.mk (show Strs (w5.alloc (.cells #[.string ⟨#[35]⟩, .string lab] 9)) wq.heap.size v5' (ac2 ++ (its.map (sayB parts parts.length))) from HO11.out.alloc _)
           have HLr := Zz.mk (lit2_reads w5 ⟨#[35]⟩ lab)
           have hla2 : Zz (((ac2 ++ (its.map (sayB parts parts.length))).length + 2) * 16 ≤ 140737488355328) := ⟨by rw [List.length_append, List.length_map]; have h2 := hcost.out; have h3 := length_cost ac2; have h4 := length_cost (its.map (sayB parts parts.length)); rw [List.length_map] at h4; omega⟩
           replace hlab := Zz.mk hlab
           go_wp2_with ((with_reducible refine gate_builtin (b := .append) (xs := #[.tmp 111, .tmp 114]) rfl ?_); at_builtin; refine print_append_row_of (w0 := wq) Value.string ByteArray.empty wq.heap.size rfl (.tmp 111) (.tmp 114) 52 9 (.string ⟨#[]⟩) 16 rfl Try.underlying52 info9 rfl (by decide) (fun _ => rfl) v5' (ac2 ++ (its.map (sayB parts parts.length))) [⟨#[35]⟩, lab] (some ⟨w5.heap.size, 0, none⟩) 2 2 rfl rfl HO12.out HLr.out HB12.out HB12.out.size hla2.out ?_; intro v6' w6 hown hB hg hat; have HB13 := Zz.mk hB; have HO13 := Zz.mk (show Strs w6 wq.heap.size v6' ((ac2 ++ (its.map (sayB parts parts.length))) ++ [⟨#[35]⟩, lab]) from hown); clear hown hB hg hat HB12 HO12 HB11 HO11)
           go_roundg (alts.length - (j + 1))
           case measure => omega
           case rel => exact ⟨j + 1, _, by go_num, rfl, by omega, HB13, HO13, hW4⟩
        ·have b2 : decide (j < alts.length) = false := decide_eq_false hjl
         have HO10 := Zz.mk (show Strs wr wq.heap.size u16 WS from by have := hW.out; rw [List.drop_of_length_le (by omega), altsR, List.append_nil] at this; rw [← this]; exact HO9.out)
         have C := Zz.mk (line_any (HS2.out.below HB9.out) _ _ HO10.out hne.out HL2.out hT.out)
         have HL3 := Zz.mk HL2.out.next
         clear HL2 hW HO9 HO10 hcw
         go_wp2_with (go_at_call 26; refine C.out.mono ?_; rintro e w3 ⟨rfl, hs3⟩; have HS3 := Zz.mk hs3; clear hs3)
         go_roundg (rules.length - (i + 1))
         case measure => omega
         case rel => exact ⟨i + 1, _, by go_num, rfl, by omega, HS3, HL3⟩
      ·have b1 : decide (i < rules.length) = false := decide_eq_false hlt
       have hLT : L = TOT := by have := HL.out; rw [List.drop_of_length_le (by omega)] at this; simpa [Left, linesL] using this
       subst hLT
       clear HL
       have hlen : (Lib.byteCells L).length = L.length := Lib.byteCells_length L
       have C := Zz.mk (Try.Builder_Len_f b b (Lib.byteCells L) wr HS.out.hb)
       rw [hlen] at C
       replace hlen := Zz.mk hlen
       by_cases h6 : L.length > 6000
       ·have t6 : decide ((6000 : Int) < (L.length : Int)) = true := decide_eq_true (by omega)
        have hR : Zz (RES = Value.tuple #[.string ⟨#[]⟩, .int .i64 3]) := ⟨by rw [← hRES.out, if_pos h6]⟩
        replace h6 := Zz.mk h6
        go_wp2_with (go_at_call 30; refine C.out.mono ?_; rintro e w3 ⟨rfl, rfl⟩)
        go_ret2
        exact ⟨by rw [hR.out]; rfl, HS.out.hG.hB⟩
       ·have t6 : decide ((6000 : Int) < (L.length : Int)) = false := decide_eq_false (by omega)
        have hR : Zz (RES = Value.tuple #[.string ⟨L.toArray⟩, .int .i64 0]) := ⟨by rw [← hRES.out, if_neg h6]⟩
        replace h6 := Zz.mk h6
        have C2 := Zz.mk (Try.Builder_String_any_k b b L wr HS.out.hb HS.out.hsz)
        go_wp2_with (first | (go_at_call 30; refine C.out.mono ?_; rintro e w3 ⟨rfl, rfl⟩) | (go_at_call 31; refine C2.out.mono ?_; rintro e w4 ⟨rfl, hb4, hB4, _⟩; have HS4 := Zz.mk (HS.out.line hb4 hB4); clear hb4 hB4))
        go_ret2
        exact ⟨by rw [hR.out]; rfl, HS4.out.hG.hB⟩
def showGood (nm : ByteArray) (toks : List S51) (levs : List S54) (rules : List S59) (parts : List S119) : Prop :=
 (∀ l ∈ levs, 1 ≤ l.f0 ∧ l.f0 ≤ 3) ∧ (∀ r ∈ rules, ∀ a ∈ r.f1, ∀ q ∈ a.f0, Fine parts parts.length q) ∧ (linesL (showWs nm toks levs rules parts)).length ≤ 1099511627776
instance (nm : ByteArray) (toks : List S51) (levs : List S54) (rules : List S59) (parts : List S119) : Decidable (showGood nm toks levs rules parts) := by unfold showGood; exact inferInstance
def impl_GrammarShow.f (k : Nat) (nm : ByteArray) (toks : List S51) (levs : List S54) (rules : List S59) (parts : List S119) : Option (ByteArray × Int) :=
 if okB nm toks levs rules parts = true then (if showGood nm toks levs rules parts then (if (linesL (showWs nm toks levs rules parts)).length > 6000 then some (⟨#[]⟩, 3) else some (⟨(linesL (showWs nm toks levs rules parts)).toArray⟩, 0)) else none) else some (⟨#[]⟩, 1)
theorem impl_GrammarShow.calls (k : Nat) (nm : ByteArray) (A1 : Option Addr) (c1 : Nat) (toks : List S51) (A2 : Option Addr) (c2 : Nat) (levs : List S54) (A3 : Option Addr) (c3 : Nat) (rules : List S59) (A4 : Option Addr) (c4 : Nat) (parts : List S119) (r1 : ByteArray) (r2 : Int) (w : World)
  (H1 : Kd.C k51 w A1 toks.length toks) (L1 : toks.length ≤ c1) (H2 : Kd.C k54 w A2 levs.length levs) (L2 : levs.length ≤ c2) (H3 : Kd.C k59 w A3 rules.length rules) (L3 : rules.length ≤ c3) (H4 : Kd.C k119 w A4 parts.length parts) (L4 : parts.length ≤ c4) (h : impl_GrammarShow.f k nm toks levs rules parts = some (r1, r2)) :
  Calls Try.prog 8 #[.agg #[.string nm, .slice A1 toks.length c1, .slice A2 levs.length c2, .slice A3 rules.length c3, .slice A4 parts.length c4]] w fun e w' => e = .returned (.tuple #[.string r1, .int .i64 r2]) ∧ Below w.heap.size w w' := by
 unfold impl_GrammarShow.f at h
 split at h
 ·rename_i hok
  split at h
  ·rename_i hg
   refine (show_walk nm A1 c1 toks A2 c2 levs A3 c3 rules A4 c4 parts w H1 L1 H2 L2 H3 L3 H4 L4 hok hg.1 hg.2.1 hg.2.2).mono ?_
   rintro e w' ⟨rfl, hb⟩
   refine ⟨?_, hb⟩
   split at h
   ·rename_i h6
    cases h
    rw [if_pos h6]
   ·rename_i h6
    cases h
    rw [if_neg h6]
  ·cases h
 ·rename_i hok
  cases h
  exact show_bad nm A1 c1 toks A2 c2 levs A3 c3 rules A4 c4 parts w H1 L1 H2 L2 H3 L3 H4 L4 (by simpa using hok)
def wt (x : S119) : Nat := x.f1.size + 3 + 2 * x.f2.length
def sumS (parts : List S119) (i : Int) : Nat := ((parts.take i.toNat).map wt).sum
theorem sumS_succ (parts : List S119) (p : Int) (h0 : 0 ≤ p) (h1 : p < parts.length) : sumS parts (p + 1) = sumS parts p + wt (rd_T119 parts p) := by
 obtain ⟨n, rfl⟩ : ∃ n : Nat, p = n := ⟨p.toNat, by omega⟩
 have hn : n < parts.length := by omega
 unfold sumS
 rw [show ((n : Int) + 1).toNat = n + 1 by omega, show ((n : Int)).toNat = n by omega, List.take_succ_eq_append_getElem hn, List.map_append, List.sum_append]
 have hr : rd_T119 parts (n : Int) = parts[n] := by simp [rd_T119, List.getD_eq_getElem?_getD, List.getElem?_eq_getElem hn]
 rw [hr, List.map_cons, List.map_nil, List.sum_cons, List.sum_nil, Nat.add_zero]
theorem open_size (k : Int) : (openB k).size = 1 := by
 unfold openB
 split
 ·rfl
 ·split <;> rfl
theorem close_size (k : Int) : (closeB k).size = 1 := by
 unfold closeB
 split
 ·rfl
 ·split <;> rfl
theorem bar_cost (i : Nat) : cost (if i > 0 then [(⟨#[124]⟩ : ByteArray)] else []) ≤ 2 := by
 split
 ·show 2 ≤ 2; omega
 ·show 0 ≤ 2; omega
theorem fin_some {q n m : Int} (h : finI q n = some m) : n = q ∧ m = q + 1 := by
 unfold finI at h
 split at h
 ·rename_i e; injection h with h; omega
 ·cases h
section
variable (parts : List S119)
def ItemOK (F : Nat) : Prop := ∀ (bound q n m : Int), 0 ≤ n → itemG (altsF parts F) parts bound q n = some m → 0 ≤ m ∧ ∀ F0 : Nat, bound ≤ F0 → bound ≤ parts.length → Fine parts F0 q ∧ (sayB parts F0 q).size + 1 + sumS parts n ≤ sumS parts m
def ItemsOK (F : Nat) : Prop := ∀ (bound : Int) (l : List Int) (n m : Int), 0 ≤ n → itemsG (altsF parts F) parts bound l n = some m → 0 ≤ m ∧ ∀ F0 : Nat, bound ≤ F0 → bound ≤ parts.length → (∀ q ∈ l, Fine parts F0 q) ∧ cost (l.map (sayB parts F0)) + sumS parts n ≤ sumS parts m
def AltsOK (F : Nat) : Prop := ∀ (bound : Int) (alts : List (List Int)) (n m : Int), 0 ≤ n → altsG (altsF parts F) parts bound alts n = some m → 0 ≤ m ∧ ∀ F0 : Nat, bound ≤ F0 → bound ≤ parts.length → (∀ a ∈ alts, ∀ q ∈ a, Fine parts F0 q) ∧ ∀ i, cost (altsW (sayB parts F0) i alts) + sumS parts n ≤ sumS parts m + 2 * alts.length
theorem items_of (F : Nat) (h : ItemOK parts F) : ItemsOK parts F := by
 intro bound l
 induction l with
 | nil =>
  intro n m h0 e
  simp only [itemsG, Option.some.injEq] at e
  subst e
  exact ⟨h0, fun F0 _ _ => ⟨by simp, by simp [cost]⟩⟩
 | cons q r ih =>
  intro n m h0 e
  simp only [itemsG] at e
  obtain ⟨n1, e1, e2⟩ := Option.bind_eq_some_iff.1 e
  obtain ⟨h1, k1⟩ := h bound q n n1 h0 e1
  obtain ⟨h2, k2⟩ := ih n1 m h1 e2
  refine ⟨h2, fun F0 hb hp => ?_⟩
  obtain ⟨f1, c1⟩ := k1 F0 hb hp
  obtain ⟨f2, c2⟩ := k2 F0 hb hp
  refine ⟨?_, by rw [List.map_cons, cost_cons]; omega⟩
  intro x hx
  rcases List.mem_cons.1 hx with rfl | hx
  ·exact f1
  ·exact f2 x hx
theorem alts_of (F : Nat) (h : ItemsOK parts F) : AltsOK parts F := by
 intro bound alts
 induction alts with
 | nil =>
  intro n m h0 e
  simp only [altsG, Option.some.injEq] at e
  subst e
  exact ⟨h0, fun F0 _ _ => ⟨by simp, fun i => by simp [altsW, cost]⟩⟩
 | cons a r ih =>
  intro n m h0 e
  simp only [altsG] at e
  obtain ⟨n1, e1, e2⟩ := Option.bind_eq_some_iff.1 e
  obtain ⟨h1, k1⟩ := h bound a n n1 h0 e1
  obtain ⟨h2, k2⟩ := ih n1 m h1 e2
  refine ⟨h2, fun F0 hb hp => ?_⟩
  obtain ⟨f1, c1⟩ := k1 F0 hb hp
  obtain ⟨f2, c2⟩ := k2 F0 hb hp
  refine ⟨?_, fun i => ?_⟩
  ·intro x hx
   rcases List.mem_cons.1 hx with rfl | hx
   ·exact f1
   ·exact f2 x hx
  ·have := c2 (i + 1)
   rw [altsW, cost_append, cost_append, List.length_cons]
   have h3 := bar_cost i
   omega
theorem item_of (hW : ∀ i, sumS parts i ≤ 549755813888) (hL : ∀ q : Int, 0 ≤ q → q < parts.length → 2 * (rd_T119 parts q).f2.length ≤ 549755813888) (F : Nat) (h : ∀ F', F = F' + 1 → AltsOK parts F') : ItemOK parts F := by
 intro bound q n m h0 e
 unfold itemG at e
 split at e
 ·cases e
 rename_i hq0
 split at e
 ·cases e
 rename_i hqb
 split at e
 ·rename_i hk
  split at e
  ·split at e
   ·obtain ⟨rfl, rfl⟩ := fin_some e
    refine ⟨by omega, fun F0 hb hp => ?_⟩
    obtain ⟨F0, rfl⟩ : ∃ G, F0 = G + 1 := ⟨F0 - 1, by omega⟩
    have hs := sumS_succ parts n (by omega) (by omega)
    have hw := hW (n + 1)
    have hwt : wt (rd_T119 parts n) = (rd_T119 parts n).f1.size + 3 + 2 * (rd_T119 parts n).f2.length := rfl
    refine ⟨⟨by omega, by omega, .inl hk, by omega⟩, ?_⟩
    rw [sayB, if_pos hk]; omega
   ·cases e
  ·cases e
 rename_i hk1
 split at e
 ·rename_i hk
  split at e
  ·split at e
   ·obtain ⟨rfl, rfl⟩ := fin_some e
    refine ⟨by omega, fun F0 hb hp => ?_⟩
    obtain ⟨F0, rfl⟩ : ∃ G, F0 = G + 1 := ⟨F0 - 1, by omega⟩
    have hs := sumS_succ parts n (by omega) (by omega)
    have hw := hW (n + 1)
    have hwt : wt (rd_T119 parts n) = (rd_T119 parts n).f1.size + 3 + 2 * (rd_T119 parts n).f2.length := rfl
    refine ⟨⟨by omega, by omega, .inr (.inl hk), by omega⟩, ?_⟩
    rw [sayB, if_neg hk1, if_pos hk, ByteArray.size_append, ByteArray.size_append]
    show 1 + _ + 1 + 1 + _ ≤ _
    omega
   ·cases e
  ·cases e
 rename_i hk2
 split at e
 ·rename_i hk
  split at e
  ·split at e
   ·cases e
   ·obtain ⟨n1, e1, e2⟩ := Option.bind_eq_some_iff.1 e
    obtain ⟨rfl, rfl⟩ := fin_some e2
    cases F with
    | zero => cases e1
    | succ F' =>
     obtain ⟨h1, k1⟩ := h F' rfl n1 (rd_T119 parts n1).f2 n n1 h0 e1
     refine ⟨by omega, fun F0 hb hp => ?_⟩
     obtain ⟨F0, rfl⟩ : ∃ G, F0 = G + 1 := ⟨F0 - 1, by omega⟩
     obtain ⟨f1, c1⟩ := k1 F0 (by omega) (by omega)
     have hs := sumS_succ parts n1 (by omega) (by omega)
     have hw := hW (n1 + 1)
     have hw0 := hW n1
     have hl := hL n1 (by omega) (by omega)
     have c2 := c1 0
     have hwt : wt (rd_T119 parts n1) = (rd_T119 parts n1).f1.size + 3 + 2 * (rd_T119 parts n1).f2.length := rfl
     refine ⟨⟨by omega, by omega, .inr (.inr ⟨hk, f1, by omega⟩), by omega⟩, ?_⟩
     have hj := jn_size (altsW (sayB parts F0) 0 (rd_T119 parts n1).f2)
     rw [sayB, if_neg hk1, if_neg hk2, ByteArray.size_append, ByteArray.size_append]
     have ho := open_size (rd_T119 parts n1).f0
     have hc := close_size (rd_T119 parts n1).f0
     omega
  ·cases e
 ·cases e
theorem all_of (hW : ∀ i, sumS parts i ≤ 549755813888) (hL : ∀ q : Int, 0 ≤ q → q < parts.length → 2 * (rd_T119 parts q).f2.length ≤ 549755813888) : ∀ F, ItemsOK parts F
 | 0 => items_of parts 0 (item_of parts hW hL 0 (fun F' h => by omega))
 | F + 1 => items_of parts (F + 1) (item_of parts hW hL (F + 1) (fun F' h => by cases h; exact alts_of parts F (all_of hW hL F)))
end
theorem plain_size {s : ByteArray} (h : plainB s = true) : s.size ≤ 24 := by
 unfold plainB nameB at h
 simp only [Bool.and_eq_true, decide_eq_true_eq] at h
 omega
theorem lit_size {s : ByteArray} (h : litB s = true) : s.size ≤ 16 := by
 unfold litB at h
 simp only [Bool.and_eq_true, decide_eq_true_eq] at h
 omega
theorem pat_size {s : ByteArray} (h : patB s = true) : s.size ≤ 100 := by
 unfold patB at h
 simp only [Bool.and_eq_true, decide_eq_true_eq] at h
 omega
theorem lab_cost {a : S75} (h : labB a = true) : cost (labW a.f1) ≤ 27 := by
 have hs : a.f1.size ≤ 24 := by
  unfold labB at h
  simp only [Bool.or_eq_true, decide_eq_true_eq] at h
  rcases h with h | h
  ·omega
  ·exact plain_size h
 unfold labW
 split
 ·show 0 ≤ 27; omega
 ·rw [cost_cons, cost_cons]; show 1 + 1 + (a.f1.size + 1 + 0) ≤ 27; omega
theorem sum_le {α : Type} (f : α → Nat) (B : Nat) : ∀ l : List α, (∀ x ∈ l, f x ≤ B) → (l.map f).sum ≤ l.length * B
 | [], _ => by simp
 | x :: r, h => by
  have h1 := h x (List.mem_cons_self ..)
  have h2 := sum_le f B r (fun y hy => h y (List.mem_cons_of_mem _ hy))
  rw [List.map_cons, List.sum_cons, List.length_cons, Nat.succ_mul]
  omega
section
variable (parts : List S119)
theorem altL_of (hI : ItemsOK parts parts.length) : ∀ (alts : List S75) (n m : Int), 0 ≤ n → altL parts alts n = some m → 0 ≤ m ∧ (∀ a ∈ alts, ∀ q ∈ a.f0, Fine parts parts.length q) ∧ ∀ i, cost (altsR (sayB parts parts.length) i alts) + sumS parts n ≤ sumS parts m + 29 * alts.length
 | [], n, m, h0, e => by
  simp only [altL, Option.some.injEq] at e
  subst e
  exact ⟨h0, by simp, fun i => by simp [altsR, cost]⟩
 | a :: r, n, m, h0, e => by
  simp only [altL] at e
  split at e
  ·rename_i hlab
   obtain ⟨n1, e1, e2⟩ := Option.bind_eq_some_iff.1 e
   obtain ⟨h1, k1⟩ := hI parts.length a.f0 n n1 h0 e1
   obtain ⟨f1, c1⟩ := k1 parts.length (Int.le_refl _) (Int.le_refl _)
   obtain ⟨h2, f2, c2⟩ := altL_of hI r n1 m h1 e2
   refine ⟨h2, ?_, fun i => ?_⟩
   ·intro x hx
    rcases List.mem_cons.1 hx with rfl | hx
    ·exact f1
    ·exact f2 x hx
   ·have := c2 (i + 1)
    have h3 := bar_cost i
    have h4 := lab_cost hlab
    rw [altsR, cost_append, cost_append, cost_append, List.length_cons]
    omega
  ·cases e
theorem ruleL_of (hI : ItemsOK parts parts.length) (hW : ∀ i, sumS parts i ≤ 700000000) : ∀ (rules : List S59), (∀ r ∈ rules, r.f1.length ≤ 1048576) → ∀ (n m : Int), 0 ≤ n → ruleL parts rules n = some m → (∀ r ∈ rules, ∀ a ∈ r.f1, ∀ q ∈ a.f0, Fine parts parts.length q) ∧ ∀ r ∈ rules, cost (ruleWs parts r) ≤ 1000000000
 | [], hL, n, m, h0, e => ⟨by simp, by simp⟩
 | r :: rs, hL, n, m, h0, e => by
  simp only [ruleL] at e
  split at e
  ·rename_i hp
   split at e
   ·cases e
   ·obtain ⟨n1, e1, e2⟩ := Option.bind_eq_some_iff.1 e
    obtain ⟨h1, f1, c1⟩ := altL_of parts hI r.f1 n n1 h0 e1
    obtain ⟨f2, c2⟩ := ruleL_of hI hW rs (fun x hx => hL x (List.mem_cons_of_mem _ hx)) n1 m h1 e2
    have h3 := hL r (List.mem_cons_self ..)
    have h4 := hW n1
    have h5 := c1 0
    have h6 := plain_size hp
    refine ⟨?_, ?_⟩
    ·intro x hx
     rcases List.mem_cons.1 hx with rfl | hx
     ·exact f1
     ·exact f2 x hx
    ·intro x hx
     rcases List.mem_cons.1 hx with rfl | hx
     ·rw [ruleWs, ruleW, cost_append, cost_cons, cost_cons]
      show x.f0.size + 1 + (1 + 1 + 0) + _ ≤ _
      omega
     ·exact c2 x hx
  ·cases e
end
theorem lines_len (B : Nat) : ∀ ls : List (List ByteArray), (∀ l ∈ ls, cost l ≤ B) → (linesL ls).length ≤ ls.length * (B + 2)
 | [], _ => by simp [linesL]
 | l :: r, h => by
  have h1 := h l (List.mem_cons_self ..)
  have h2 := lines_len B r (fun y hy => h y (List.mem_cons_of_mem _ hy))
  have h3 := jnL_length l
  rw [linesL_cons, List.length_append, List.length_cons, Nat.succ_mul, lineL, List.length_append]
  show _ + 2 + _ ≤ _
  omega
theorem assoc_size (n : Int) : (assocB n).size ≤ 5 := by
 unfold assocB
 split
 ·show 4 ≤ 5; omega
 ·split
  ·show 5 ≤ 5; omega
  ·show 4 ≤ 5; omega
theorem kind_size (b : Bool) : (kindW b).size ≤ 5 := by
 cases b
 ·show 5 ≤ 5; omega
 ·show 4 ≤ 5; omega
theorem good_of (nm : ByteArray) (toks : List S51) (levs : List S54) (rules : List S59) (parts : List S119) (hS : Short2 toks levs rules parts) (h : okB nm toks levs rules parts = true) : showGood nm toks levs rules parts := by
 obtain ⟨s1, ⟨s2, s3⟩, ⟨s4, s5⟩, s6, s7⟩ := hS
 unfold okB smallB endB at h
 simp only [Bool.and_eq_true, decide_eq_true_eq, List.all_eq_true] at h
 obtain ⟨⟨n1, n2, n3, n4⟩, hnm, htok, hlev, hend⟩ := h
 have hmem : ∀ q : Int, 0 ≤ q → q < parts.length → rd_T119 parts q ∈ parts := by
  intro q h0 h1
  have hn : q.toNat < parts.length := by omega
  have : rd_T119 parts q = parts[q.toNat] := by simp [rd_T119, List.getD_eq_getElem?_getD, List.getElem?_eq_getElem hn]
  rw [this]; exact List.getElem_mem hn
 have hL : ∀ q : Int, 0 ≤ q → q < parts.length → 2 * (rd_T119 parts q).f2.length ≤ 549755813888 := by
  intro q h0 h1
  have h2 : (rd_T119 parts q).f2.length ≤ 1048576 := (s7 _ (hmem q h0 h1)).1.1
  omega
 have hW : ∀ i, sumS parts i ≤ 700000000 := by
  intro i
  have h1 := sum_le wt 3145731 (parts.take i.toNat) (fun x hx => by
   obtain ⟨⟨h1, _⟩, h2⟩ := s7 x (List.mem_of_mem_take hx)
   have h1 : x.f2.length ≤ 1048576 := h1
   have h2 : x.f1.size ≤ 1048576 := h2
   unfold wt; omega)
  have h2 : (parts.take i.toNat).length ≤ 200 := by rw [List.length_take]; omega
  unfold sumS
  omega
 have hI := all_of parts (fun i => by have := hW i; omega) hL parts.length
 obtain ⟨f, c⟩ := ruleL_of parts hI hW rules (fun r hr => (s5 r hr).1) 0 parts.length (Int.le_refl _) hend
 refine ⟨?_, f, ?_⟩
 ·intro l hl
  have := hlev l hl
  unfold levB at this
  simp only [Bool.and_eq_true, decide_eq_true_eq] at this
  exact this.1
 ·have := lines_len 1000000000 (showWs nm toks levs rules parts) (by
   intro l hl
   unfold showWs at hl
   rcases List.mem_cons.1 hl with rfl | hl
   ·have := plain_size hnm
    show 8 + 1 + (nm.size + 1 + 0) ≤ _
    omega
   rcases List.mem_append.1 hl with hl | hl
   ·obtain ⟨t, ht, rfl⟩ := List.mem_map.1 hl
    have h1 := htok t ht
    unfold tokB at h1
    simp only [Bool.and_eq_true] at h1
    have h2 := plain_size h1.1
    have h3 := pat_size h1.2
    have h4 := kind_size t.f2
    rw [tokW, cost_cons, cost_cons, cost_cons, ByteArray.size_append, ByteArray.size_append]
    show _ + 1 + (_ + 1 + (1 + _ + 1 + 1 + 0)) ≤ _
    omega
   rcases List.mem_append.1 hl with hl | hl
   ·obtain ⟨t, ht, rfl⟩ := List.mem_map.1 hl
    have h1 := hlev t ht
    unfold levB at h1
    simp only [Bool.and_eq_true, decide_eq_true_eq, List.all_eq_true] at h1
    have h2 : t.f1.length ≤ 1048576 := s3 t ht
    have h3 := sum_le (fun s : ByteArray => (quoB s).size + 1) 19 t.f1 (fun x hx => by
     have := lit_size (h1.2.2 x hx)
     simp only [quoB, ByteArray.size_append]
     show 1 + _ + 1 + 1 ≤ 19
     omega)
    have h4 : cost (t.f1.map quoB) = (t.f1.map (fun s : ByteArray => (quoB s).size + 1)).sum := by unfold cost; rw [List.map_map]; rfl
    have h5 := assoc_size t.f0
    rw [levW, cost_cons]
    omega
   ·obtain ⟨t, ht, rfl⟩ := List.mem_map.1 hl
    exact c t ht)
  have hlen : (showWs nm toks levs rules parts).length ≤ 59 := by simp only [showWs, List.length_cons, List.length_append, List.length_map]; omega
  omega
def resOf (TOT : List UInt8) : ByteArray × Int := if TOT.length > 6000 then (⟨#[]⟩, 3) else (⟨TOT.toArray⟩, 0)
theorem size_toList (s : ByteArray) : s.size = s.data.toList.length := (data_length s).symm
theorem jn_toList (l : List ByteArray) : (jn l).data.toList = jnL l := by simp [jn]
section
variable (nm : ByteArray) (toks : List S51) (levs : List S54) (rules : List S59) (parts : List S119)
theorem spec_l3 (TOT : List UInt8) (hT : TOT.length ≤ 1099511627776) (hr : rules.length ≤ 1048576) (hf : ∀ r ∈ rules, ∀ a ∈ r.f1, ∀ q ∈ a.f0, Fine parts parts.length q) :
  ∀ (d i : Nat) (x4 : ByteArray), rules.length - i = d → Left TOT x4.data.toList ((rules.drop i).map (ruleWs parts)) → Ev (fun k => spec_GrammarShow.l3 k x4 (i : Int) nm toks levs rules parts) (resOf TOT) := by
 intro d
 induction d with
 | zero =>
  intro i x4 hd hL
  have hx : x4.data.toList = TOT := by rw [List.drop_of_length_le (by omega)] at hL; simpa [Left, linesL] using hL
  have hsz : x4.size = TOT.length := by rw [size_toList, hx]
  refine Ev.step (f := fun _ => some (resOf TOT)) (fun k => ?_) (Ev.now _)
  rw [spec_GrammarShow.l3, if_neg (by omega)]
  unfold resOf
  by_cases h6 : TOT.length > 6000
  ·rw [if_pos (by omega), if_pos h6]
  ·rw [if_neg (by omega), if_neg h6, ← hx]
 | succ d ih =>
  intro i x4 hd hL
  have hi : i < rules.length := by omega
  have hel : rd_T59 rules (i : Int) = rules[i] := by simp [rd_T59, List.getD_eq_getElem?_getD, List.getElem?_eq_getElem hi]
  rw [List.drop_eq_getElem_cons hi, List.map_cons] at hL
  have hlen := hL.len
  have hne : ruleWs parts rules[i] ≠ [] := by simp [ruleWs, ruleW]
  have hc := cost_line hne
  have hll : (lineL (ruleWs parts rules[i])).length = (jnL (ruleWs parts rules[i])).length + 2 := by simp [lineL]
  have hjs : (jn (ruleWs parts rules[i])).size = (jnL (ruleWs parts rules[i])).length := by rw [size_toList, jn_toList]
  have hx4 := size_toList x4
  refine Ev.step (f := fun k => (spec_l03SayRule.f k nm toks levs rules parts ((rd_T59 rules i).f0) ((rd_T59 rules i).f1)).bind fun t197 => (if x4.size + t197.size ≤ 9223372036854775807 then (spec_GrammarShow.l3 k (x4 ++ t197) (wrap64 ((i : Int) + 1)) nm toks levs rules parts) else (none))) (fun k => by rw [spec_GrammarShow.l3, if_pos (by omega), if_pos (by omega)]) ?_
  refine Ev.bind (a := jn (ruleWs parts rules[i]) ++ ⟨#[59, 10]⟩) ?_ ?_
  ·refine Ev.congr (fun k => ?_) (Ev.now _)
   rw [hel]
   unfold spec_l03SayRule.f
   exact if_pos ⟨hf _ (List.getElem_mem hi), by show cost (ruleWs parts rules[i]) ≤ _; omega⟩
  ·refine Ev.congr (fun k => if_pos ?_) ?_
   ·rw [ByteArray.size_append]
    show _ + (_ + 2) ≤ _
    omega
   ·rw [wrap_in (by omega) (by omega)]
    refine ih (i + 1) _ (by omega) ?_
    have h := hL.next
    rw [show (x4 ++ (jn (ruleWs parts rules[i]) ++ (⟨#[59, 10]⟩ : ByteArray))).data.toList = x4.data.toList ++ lineL (ruleWs parts rules[i]) by rw [ba_append, ba_append, jn_toList]; rfl]
    exact h
theorem spec_l2 (i : Nat) (hi : i < levs.length) (x4 : ByteArray) (r : ByteArray × Int) (hc : cost (levW (rd_T54 levs i)) ≤ 1099511627776) (hx : x4.size ≤ 1099511627776) (hl : levs.length ≤ 1048576)
  (hk : Ev (fun k => spec_GrammarShow.l1 k ((x4 ++ jn (levW (rd_T54 levs i))) ++ (⟨#[59, 10]⟩ : ByteArray)) (((i + 1 : Nat)) : Int) nm toks levs rules parts) r) :
  ∀ (d j : Nat), (rd_T54 levs i).f1.length - j = d → j ≤ (rd_T54 levs i).f1.length → Ev (fun k => spec_GrammarShow.l2 k x4 (i : Int) (assocB (rd_T54 levs i).f0 :: ((rd_T54 levs i).f1.take j).map quoB) (j : Int) nm toks levs rules parts) r := by
 generalize hlv : rd_T54 levs (i : Int) = lv at hc hk
 have hlen := length_cost (levW lv)
 have hln : (levW lv).length = lv.f1.length + 1 := by simp [levW]
 intro d
 induction d with
 | zero =>
  intro j hd hj
  refine Ev.step (f := fun k => (spec_l03Words.f k (levW lv)).bind fun t195 => (if x4.size + t195.size ≤ 9223372036854775807 then (if (x4 ++ t195).size + 2 ≤ 9223372036854775807 then (spec_GrammarShow.l1 k ((x4 ++ t195) ++ (⟨#[59, 10]⟩ : ByteArray)) (wrap64 ((i : Int) + 1)) nm toks levs rules parts) else (none)) else (none))) (fun k => ?_) ?_
  ·rw [spec_GrammarShow.l2, if_pos (by omega), if_pos (by omega), hlv, if_neg (by omega), List.take_of_length_le (by omega)]
   rfl
  ·have hj := jn_size (levW lv)
   refine Ev.bind (a := jn (levW lv)) ⟨(levW lv).length + 1, fun k hk => words_eval _ (by omega) k (by omega)⟩ ?_
   refine Ev.congr (fun k => by rw [if_pos (by omega), if_pos (by rw [ByteArray.size_append]; omega), wrap_in (by omega) (by omega)]) ?_
   exact hk
 | succ d ih =>
  intro j hd hj
  have hjl : j < lv.f1.length := by omega
  have hy : rdOf ByteArray.empty lv.f1 (j : Int) = lv.f1[j] := by simp [rdOf, List.getD_eq_getElem?_getD, List.getElem?_eq_getElem hjl]
  have hm := mem_cost (l := levW lv) (x := quoB lv.f1[j]) (List.mem_cons_of_mem _ (List.mem_map_of_mem (List.getElem_mem hjl)))
  have hq : (quoB lv.f1[j]).size = 1 + lv.f1[j].size + 1 := by simp only [quoB, ByteArray.size_append]; rfl
  refine Ev.step (f := fun k => spec_GrammarShow.l2 k x4 (i : Int) (assocB lv.f0 :: (lv.f1.take (j + 1)).map quoB) ((j + 1 : Nat) : Int) nm toks levs rules parts) (fun k => ?_) (ih (j + 1) (by omega) (by omega))
  rw [spec_GrammarShow.l2, if_pos (by omega), if_pos (by omega), hlv, if_pos (by omega), if_pos (by omega), hy, if_pos (by omega), if_pos (by rw [ByteArray.size_append]; show 1 + _ + 1 ≤ _; omega), if_pos (by rw [List.length_cons, List.length_map, List.length_take]; omega), wrap_in (by omega) (by omega)]
  congr 1
  rw [List.take_succ_eq_append_getElem hjl, List.map_append]
  rfl
end
end Go.Proofs.Ythcmamcbnjphgaa.PFnExactGrammarShow
