/- For every grammar, token table, level table, rule list and part list that come in as data: the law FnExactGrammarShow answers true, and leaves its argument as it was. No condition beyond those of the given statement. -/
import Derived.Test.YthcmamcbnjphgaaG16
import Derived.Test.YthcmamcbnjphgaaRows
import Derived.ProofKit
import Derived.OpenShut
import Derived.ShutString
import Derived.ChangeOld
import Derived.SizedLaws
set_option linter.unusedVariables false
set_option linter.unusedSimpArgs false
namespace Go.Proofs.Ythcmamcbnjphgaa.fnExactGrammarShow
open Go.ChangeShapes Go.WideShapes Go.ChangeAt Go.RowKit
open Go.ChangeMaps (open_string shut_string)
open Go.Proofs.Ythcmamcbnjphgaa.PFnExactGrammarShow
open Go.Proofs.YthcmamcbnjphgaaW.PrintWords Go.Proofs.YthcmamcbnjphgaaW.PrintLast Go.Proofs.YthcmamcbnjphgaaW.PrintMore
theorem own : ownKnob Try.prog.godebug = none := by kernel_rfl
theorem laidOut : laidOutB Try.prog = true := by kernel_rfl
theorem t9 : Try.prog.underlying 9 = some .string := by kernel_rfl
theorem t3 : Try.prog.underlying 3 = some (.int .i64) := by kernel_rfl
theorem t4 : Try.prog.underlying 4 = some .bool := by kernel_rfl
theorem t22 : Try.prog.underlying 22 = some (.slice 98) := by kernel_rfl
theorem t23 : Try.prog.underlying 23 = some (.slice 100) := by kernel_rfl
theorem t24 : Try.prog.underlying 24 = some (.slice 104) := by kernel_rfl
theorem t25 : Try.prog.underlying 25 = some (.slice 108) := by kernel_rfl
theorem t52 : Try.prog.underlying 52 = some (.slice 9) := by kernel_rfl
theorem t73 : Try.prog.underlying 73 = some (.slice 3) := by kernel_rfl
theorem t102 : Try.prog.underlying 102 = some (.slice 156) := by kernel_rfl
theorem t106 : Try.prog.underlying 106 = some (.slice 73) := by kernel_rfl
theorem oStr : Opens Try.prog Kd.string 9 (fun s => s.size ≤ MX) := Opens.string t9
theorem oInts : Opens Try.prog (Kd.slice 3 (Kd.int .i64)) 73 (fun l => l.length ≤ MX ∧ ∀ x ∈ l, True) := Opens.slice 3 t73 (by kernel_rfl) (Opens.int t3)
theorem o98 : Opens Try.prog k98 98 Q98 := by
 intro H enc W base spare held fuel cs x h
 obtain ⟨a, hk, hq⟩ := Opens.iso (fun x : S98 => (x.f0, x.f1, x.f2)) (fun y => (⟨y.1, y.2.1, y.2.2⟩ : S98)) (fun _ => rfl) (Opens.tri (t := 98) Try.underlying98 (by kernel_rfl) rfl rfl rfl (by kernel_rfl) (by kernel_rfl) (by kernel_rfl) oStr oStr (Opens.bool t4)) H enc W base spare held fuel cs x h
 exact ⟨a, hk, hq.1, hq.2.1⟩
theorem o100 : Opens Try.prog k100 100 Q100 := by
 intro H enc W base spare held fuel cs x h
 obtain ⟨a, hk, hq⟩ := Opens.iso (fun x : S100 => (x.f0, x.f1)) (fun y => (⟨y.1, y.2⟩ : S100)) (fun _ => rfl) (Opens.pair (t := 100) Try.underlying100 (by kernel_rfl) rfl rfl (by kernel_rfl) (by kernel_rfl) (Opens.int t3) (Opens.slice 9 t52 (by kernel_rfl) oStr)) H enc W base spare held fuel cs x h
 exact ⟨a, hk, hq.2⟩
theorem o156 : Opens Try.prog k156 156 Q156 := by
 intro H enc W base spare held fuel cs x h
 obtain ⟨a, hk, hq⟩ := Opens.iso (fun x : S156 => (x.f0, x.f1)) (fun y => (⟨y.1, y.2⟩ : S156)) (fun _ => rfl) (Opens.pair (t := 156) Try.underlying156 (by kernel_rfl) rfl rfl (by kernel_rfl) (by kernel_rfl) oInts oStr) H enc W base spare held fuel cs x h
 exact ⟨a, hk, hq.1.1, hq.2⟩
theorem o104 : Opens Try.prog k104 104 Q104 := by
 intro H enc W base spare held fuel cs x h
 obtain ⟨a, hk, hq⟩ := Opens.iso (fun x : S104 => (x.f0, x.f1)) (fun y => (⟨y.1, y.2⟩ : S104)) (fun _ => rfl) (Opens.pair (t := 104) Try.underlying104 (by kernel_rfl) rfl rfl (by kernel_rfl) (by kernel_rfl) oStr (Opens.slice 156 t102 (by kernel_rfl) o156)) H enc W base spare held fuel cs x h
 exact ⟨a, hk, hq.1, hq.2⟩
theorem o108 : Opens Try.prog k108 108 Q108 := by
 intro H enc W base spare held fuel cs x h
 obtain ⟨a, hk, hq⟩ := Opens.iso (fun x : S108 => (x.f0, x.f1, x.f2)) (fun y => (⟨y.1, y.2.1, y.2.2⟩ : S108)) (fun _ => rfl) (Opens.tri (t := 108) Try.underlying108 (by kernel_rfl) rfl rfl rfl (by kernel_rfl) (by kernel_rfl) (by kernel_rfl) (Opens.int t3) oStr (Opens.slice 73 t106 (by kernel_rfl) oInts)) H enc W base spare held fuel cs x h
 exact ⟨a, hk, hq.2.1, hq.2.2.1, fun l hl => (hq.2.2.2 l hl).1⟩
theorem list5 {α : Type} : ∀ l : List α, l.length = 5 → ∃ a b c d e, l = [a, b, c, d, e]
 | [a, b, c, d, e], _ => ⟨a, b, c, d, e, rfl⟩
set_option maxRecDepth 100000 in
theorem open27 {H : Type} {enc : TypeId × Value → H} {W : World} {base : Nat} {spare : Nat → Bool} {held : Bool} {fuel : Nat} {cs : List Value} {x : DataW H × List MemPlace} (h : DataW.trod enc Try.prog W base spare held fuel 27 cs = some x) :
  ∃ (nm : ByteArray) (A1 : Option Addr) (c1 : Nat) (l1 : List S98) (A2 : Option Addr) (c2 : Nat) (l2 : List S100) (A3 : Option Addr) (c3 : Nat) (l3 : List S104) (A4 : Option Addr) (c4 : Nat) (l4 : List S108),
   cs = [.string nm, .slice A1 l1.length c1, .slice A2 l2.length c2, .slice A3 l3.length c3, .slice A4 l4.length c4] ∧ Kd.C k98 W A1 l1.length l1 ∧ l1.length ≤ c1 ∧ Kd.C k100 W A2 l2.length l2 ∧ l2.length ≤ c2 ∧ Kd.C k104 W A3 l3.length l3 ∧ l3.length ≤ c3 ∧ Kd.C k108 W A4 l4.length l4 ∧ l4.length ≤ c4 ∧ Sane nm l1 l2 l3 l4 := by
 obtain ⟨xs, n, _, _, hl, hx, hf⟩ := DataW.trod_struct Try.underlying27 h
 have hl5 : cs.length = 5 := hl.trans (by kernel_rfl)
 have hx5 : xs.length = 5 := hx
 obtain ⟨c0, c1, c2, c3, c4, rfl⟩ := list5 cs hl5
 obtain ⟨y0, y1, y2, y3, y4, rfl⟩ := list5 xs hx5
 clear hl hl5 hx hx5
 have z9 : Try.prog.cellsOf 9 = 1 := by kernel_rfl
 have z22 : Try.prog.cellsOf 22 = 1 := by kernel_rfl
 have z23 : Try.prog.cellsOf 23 = 1 := by kernel_rfl
 have z24 : Try.prog.cellsOf 24 = 1 := by kernel_rfl
 have z25 : Try.prog.cellsOf 25 = 1 := by kernel_rfl
 have g0 : DataW.trod enc Try.prog W base spare held n 9 [c0] = some y0 := by
  have h : DataW.trod enc Try.prog W base spare held n 9 (List.take (Try.prog.cellsOf 9) (List.drop 0 [c0, c1, c2, c3, c4])) = [y0, y1, y2, y3, y4][0]? := hf 0 _ rfl
  rw [z9] at h
  exact h
 have g1 : DataW.trod enc Try.prog W base spare held n 22 [c1] = some y1 := by
  have h : DataW.trod enc Try.prog W base spare held n 22 (List.take (Try.prog.cellsOf 22) (List.drop 1 [c0, c1, c2, c3, c4])) = [y0, y1, y2, y3, y4][1]? := hf 1 _ rfl
  rw [z22] at h
  exact h
 have g2 : DataW.trod enc Try.prog W base spare held n 23 [c2] = some y2 := by
  have h : DataW.trod enc Try.prog W base spare held n 23 (List.take (Try.prog.cellsOf 23) (List.drop 2 [c0, c1, c2, c3, c4])) = [y0, y1, y2, y3, y4][2]? := hf 2 _ rfl
  rw [z23] at h
  exact h
 have g3 : DataW.trod enc Try.prog W base spare held n 24 [c3] = some y3 := by
  have h : DataW.trod enc Try.prog W base spare held n 24 (List.take (Try.prog.cellsOf 24) (List.drop 3 [c0, c1, c2, c3, c4])) = [y0, y1, y2, y3, y4][3]? := hf 3 _ rfl
  rw [z24] at h
  exact h
 have g4 : DataW.trod enc Try.prog W base spare held n 25 [c4] = some y4 := by
  have h : DataW.trod enc Try.prog W base spare held n 25 (List.take (Try.prog.cellsOf 25) (List.drop 4 [c0, c1, c2, c3, c4])) = [y0, y1, y2, y3, y4][4]? := hf 4 _ rfl
  rw [z25] at h
  exact h
 obtain ⟨nm, e0, q0⟩ := oStr H enc W base spare held n [c0] _ g0
 obtain ⟨l1, ⟨A1, d1, e1, m1, r1⟩, q1⟩ := Opens.slice 98 t22 (by kernel_rfl) o98 H enc W base spare held n [c1] _ g1
 obtain ⟨l2, ⟨A2, d2, e2, m2, r2⟩, q2⟩ := Opens.slice 100 t23 (by kernel_rfl) o100 H enc W base spare held n [c2] _ g2
 obtain ⟨l3, ⟨A3, d3, e3, m3, r3⟩, q3⟩ := Opens.slice 104 t24 (by kernel_rfl) o104 H enc W base spare held n [c3] _ g3
 obtain ⟨l4, ⟨A4, d4, e4, m4, r4⟩, q4⟩ := Opens.slice 108 t25 (by kernel_rfl) o108 H enc W base spare held n [c4] _ g4
 injection e0 with e0
 injection e1 with e1
 injection e2 with e2
 injection e3 with e3
 injection e4 with e4
 exact ⟨nm, A1, d1, l1, A2, d2, l2, A3, d3, l3, A4, d4, l4, by rw [e0, e1, e2, e3, e4], r1, m1, r2, m2, r3, m3, r4, m4, q0, q1, q2, q3, q4⟩
set_option maxRecDepth 100000 in
theorem lifted (os : Os) (started : os.Started) (H : Type) (enc : TypeId × Value → H) :
  ReturnsInHanded {} Try.checked os 3 .any (Rows.fnExactGrammarShowSpec.pre6 enc Try.prog Try.f3 Rows.fnExactGrammarShowRow.domain false) (Rows.fnExactGrammarShowSpec.post enc Try.prog Try.f3 false true false false) := by
 refine returnsInHanded_of_change_sized (C := Try.checked) own started (by kernel_rfl) Try.func3
  (ChangeSpec.witness6 (enc := enc) (C := Try.checked) false ⟨#[], #[.agg #[.string ByteArray.empty, .slice none 0 0, .slice none 0 0, .slice none 0 0, .slice none 0 0]], []⟩ 8 (by kernel_rfl) (by kernel_rfl) (by kernel_rfl) (by kernel_rfl)) ?_
 intro W base args ds gs before hval0 hW hcnd hsz0 _
 have hval : ∀ (j : Nat) t v, Try.f3.params[j]? = some t → args[j]? = some v → Value.okWide Try.prog W .any base t v := hval0
 have hW' := hW
 obtain ⟨p, q, hA0, hV, rfl, hfz, hnd⟩ := hW
 have hA : DataW.TrodAll enc Try.prog W 0 (fun _ => true) true Try.f3.params.toList args.toList ds p := hA0
 rw [Try.params3] at hA hval
 obtain ⟨v0, vs0, d0, ds0, p0, q0, hargs, rfl, rfl, h0, r0⟩ := trodAll_cons hA
 obtain ⟨rfl, rfl, rfl⟩ := trodAll_nil r0
 obtain rfl : args = #[v0] := by cases args; simp_all
 obtain ⟨rfl, rfl⟩ := trodVars_none hV
 obtain ⟨cs, rfl, _⟩ := okWide_struct Try.underlying27 (hval 0 27 v0 rfl rfl)
 have k0 := h0
 have lt0 : ∀ x ∈ p0, x.block < W.heap.size := by obtain ⟨m, hm⟩ := k0; exact DataW.trod_lt m _ _ _ hm
 obtain ⟨fuel, hf⟩ := h0
 obtain ⟨nm, A1, c1, l1, A2, c2, l2, A3, c3, l3, A4, c4, l4, hcs, r1, m1, r2, m2, r3, m3, r4, m4, hS⟩ := open27 hf
 have hcs' : cs.toList = [.string nm, .slice A1 l1.length c1, .slice A2 l2.length c2, .slice A3 l3.length c3, .slice A4 l4.length c4] := hcs
 obtain rfl : cs = #[.string nm, .slice A1 l1.length c1, .slice A2 l2.length c2, .slice A3 l3.length c3, .slice A4 l4.length c4] := by cases cs; simp_all
 clear hA0 hval0 hsz0
 obtain ⟨K, hK⟩ := law_true nm l1 l2 l3 l4 hS
 refine (laws_FnExactGrammarShow.calls K nm A1 c1 l1 A2 c2 l2 A3 c3 l3 A4 c4 l4 true W r1 m1 r2 m2 r3 m3 r4 m4 (hK K (Nat.le_refl _))).mono fun e W' ⟨he, bel⟩ => ?_
 subst he
 exact ⟨_, rfl, _, _, _, [], _, [], hW', trodAll_mk1 (shut_bool t4 _), (trodAll_cons_mk (Below.trod laidOut (by kernel_rfl) (of_decide_eq_true (by kernel_rfl)) k0 bel lt0) trodAll_mk0), rfl, bel.frame _, fun h => by cases h⟩
theorem over : Rows.fnExactGrammarShowRow.holds Try.pinned (OpenSpec.ofChange Rows.fnExactGrammarShowSpec) :=
 OpenClaim.holds_of_wide 3 Try.f3 rfl rfl rfl rfl rfl rfl rfl ⟨rfl, rfl, rfl, rfl, rfl⟩ rfl rfl rfl rfl rfl (by kernel_rfl) Try.func3 (by kernel_rfl)
  (of_decide_eq_true (by kernel_rfl)) (by unfold Func.isWrapper; first | (rw [if_pos (by decide +kernel)]; kernel_rfl) | (rw [if_neg (by decide +kernel)]; exact ⟨rfl, rfl⟩))
  (fun os started H enc _ => lifted os started H enc)
theorem proved : Rows.FnExactGrammarShowSaid := over
end Go.Proofs.Ythcmamcbnjphgaa.fnExactGrammarShow
namespace Go.Proofs.Ythcmamcbnjphgaa
theorem fnExactGrammarShow_holds : Rows.FnExactGrammarShowSaid := fnExactGrammarShow.proved
end Go.Proofs.Ythcmamcbnjphgaa
