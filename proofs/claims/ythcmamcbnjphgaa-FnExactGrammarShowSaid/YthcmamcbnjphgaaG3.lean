import Derived.Test.YthcmamcbnjphgaaG2
import Derived.Outline
set_option linter.unusedVariables false
set_option linter.unusedSimpArgs false
namespace Go.Proofs.Ythcmamcbnjphgaa.PFnExactGrammarShow
open Go.RowKit Go.Proofs.YthcmamcbnjphgaaW.PrintWords Go.Proofs.YthcmamcbnjphgaaW.PrintLast Go.Proofs.YthcmamcbnjphgaaW.PrintMore
attribute [local go_sem] max2_int min2_int max_two min_two max_three min_three max_four min_four   -- for this text's walks alone
def impl_keyword.f (a0 : ByteArray) : Option (Bool) := if a0.toList = ([108, 97, 110, 103, 117, 97, 103, 101] : List UInt8) then (some true) else (if a0.toList = ([116, 111, 107, 101, 110] : List UInt8) then (some true) else (if a0.toList = ([115, 107, 105, 112] : List UInt8) then (some true) else (if a0.toList = ([108, 101, 102, 116] : List UInt8) then (some true) else (if a0.toList = ([114, 105, 103, 104, 116] : List UInt8) then (some true) else (if a0.toList = ([110, 111, 110, 101] : List UInt8) then (some true) else (some false))))))
set_option maxHeartbeats 8000000 in
set_option maxRecDepth 100000 in
theorem impl_keyword.calls (a0 : ByteArray) (r : Bool) (w : World) (h : impl_keyword.f a0 = some r) :
  Calls Try.prog 78 #[.string a0] w fun e w' => e = .returned (.bool r) ∧ Drawn0 w w' := by
 have H : (if a0.toList = ([108, 97, 110, 103, 117, 97, 103, 101] : List UInt8) then (some true) else (if a0.toList = ([116, 111, 107, 101, 110] : List UInt8) then (some true) else (if a0.toList = ([115, 107, 105, 112] : List UInt8) then (some true) else (if a0.toList = ([108, 101, 102, 116] : List UInt8) then (some true) else (if a0.toList = ([114, 105, 103, 104, 116] : List UInt8) then (some true) else (if a0.toList = ([110, 111, 110, 101] : List UInt8) then (some true) else (some false))))))) = some r := h
 clear h
 by_cases c2 : a0.toList = ([108, 97, 110, 103, 117, 97, 103, 101] : List UInt8)
 ·rw [if_pos c2] at H
  have c2b0 : (a0.toList == ([108, 97, 110, 103, 117, 97, 103, 101] : List UInt8)) = true := beq_iff_eq.mpr c2
  have c2b1 : (a0.toList != ([108, 97, 110, 103, 117, 97, 103, 101] : List UInt8)) = false := bne_eq_false_iff_eq.mpr c2
  clear c2
  obtain rfl := Option.some.inj H
  go_enter Try.func78, Try.ntmps78
  go_wp2
  go_ret
  exact ⟨by first | rfl | (simp; done) | (simp [*]; done), by repeat (first | exact Drawn0.refl _ | apply Drawn0.step)⟩
 ·rw [if_neg c2] at H
  have c2b0 : (a0.toList == ([108, 97, 110, 103, 117, 97, 103, 101] : List UInt8)) = false := beq_eq_false_iff_ne.mpr c2
  have c2b1 : (a0.toList != ([108, 97, 110, 103, 117, 97, 103, 101] : List UInt8)) = true := bne_iff_ne.mpr c2
  by_cases c3 : a0.toList = ([116, 111, 107, 101, 110] : List UInt8)
  ·rw [if_pos c3] at H
   have c3b0 : (a0.toList == ([116, 111, 107, 101, 110] : List UInt8)) = true := beq_iff_eq.mpr c3
   have c3b1 : (a0.toList != ([116, 111, 107, 101, 110] : List UInt8)) = false := bne_eq_false_iff_eq.mpr c3
   clear c3
   obtain rfl := Option.some.inj H
   go_enter Try.func78, Try.ntmps78
   go_wp2
   go_ret
   exact ⟨by first | rfl | (simp; done) | (simp [*]; done), by repeat (first | exact Drawn0.refl _ | apply Drawn0.step)⟩
  ·rw [if_neg c3] at H
   have c3b0 : (a0.toList == ([116, 111, 107, 101, 110] : List UInt8)) = false := beq_eq_false_iff_ne.mpr c3
   have c3b1 : (a0.toList != ([116, 111, 107, 101, 110] : List UInt8)) = true := bne_iff_ne.mpr c3
   by_cases c4 : a0.toList = ([115, 107, 105, 112] : List UInt8)
   ·rw [if_pos c4] at H
    have c4b0 : (a0.toList == ([115, 107, 105, 112] : List UInt8)) = true := beq_iff_eq.mpr c4
    have c4b1 : (a0.toList != ([115, 107, 105, 112] : List UInt8)) = false := bne_eq_false_iff_eq.mpr c4
    clear c4
    obtain rfl := Option.some.inj H
    go_enter Try.func78, Try.ntmps78
    go_wp2
    go_ret
    exact ⟨by first | rfl | (simp; done) | (simp [*]; done), by repeat (first | exact Drawn0.refl _ | apply Drawn0.step)⟩
   ·rw [if_neg c4] at H
    have c4b0 : (a0.toList == ([115, 107, 105, 112] : List UInt8)) = false := beq_eq_false_iff_ne.mpr c4
    have c4b1 : (a0.toList != ([115, 107, 105, 112] : List UInt8)) = true := bne_iff_ne.mpr c4
    by_cases c5 : a0.toList = ([108, 101, 102, 116] : List UInt8)
    ·rw [if_pos c5] at H
     have c5b0 : (a0.toList == ([108, 101, 102, 116] : List UInt8)) = true := beq_iff_eq.mpr c5
     have c5b1 : (a0.toList != ([108, 101, 102, 116] : List UInt8)) = false := bne_eq_false_iff_eq.mpr c5
     clear c5
     obtain rfl := Option.some.inj H
     go_enter Try.func78, Try.ntmps78
     go_wp2
     go_ret
     exact ⟨by first | rfl | (simp; done) | (simp [*]; done), by repeat (first | exact Drawn0.refl _ | apply Drawn0.step)⟩
    ·rw [if_neg c5] at H
     have c5b0 : (a0.toList == ([108, 101, 102, 116] : List UInt8)) = false := beq_eq_false_iff_ne.mpr c5
     have c5b1 : (a0.toList != ([108, 101, 102, 116] : List UInt8)) = true := bne_iff_ne.mpr c5
     by_cases c6 : a0.toList = ([114, 105, 103, 104, 116] : List UInt8)
     ·rw [if_pos c6] at H
      have c6b0 : (a0.toList == ([114, 105, 103, 104, 116] : List UInt8)) = true := beq_iff_eq.mpr c6
      have c6b1 : (a0.toList != ([114, 105, 103, 104, 116] : List UInt8)) = false := bne_eq_false_iff_eq.mpr c6
      clear c6
      obtain rfl := Option.some.inj H
      go_enter Try.func78, Try.ntmps78
      go_wp2
      go_ret
      exact ⟨by first | rfl | (simp; done) | (simp [*]; done), by repeat (first | exact Drawn0.refl _ | apply Drawn0.step)⟩
     ·rw [if_neg c6] at H
      have c6b0 : (a0.toList == ([114, 105, 103, 104, 116] : List UInt8)) = false := beq_eq_false_iff_ne.mpr c6
      have c6b1 : (a0.toList != ([114, 105, 103, 104, 116] : List UInt8)) = true := bne_iff_ne.mpr c6
      by_cases c7 : a0.toList = ([110, 111, 110, 101] : List UInt8)
      ·rw [if_pos c7] at H
       have c7b0 : (a0.toList == ([110, 111, 110, 101] : List UInt8)) = true := beq_iff_eq.mpr c7
       have c7b1 : (a0.toList != ([110, 111, 110, 101] : List UInt8)) = false := bne_eq_false_iff_eq.mpr c7
       clear c7
       obtain rfl := Option.some.inj H
       go_enter Try.func78, Try.ntmps78
       go_wp2
       go_ret
       exact ⟨by first | rfl | (simp; done) | (simp [*]; done), by repeat (first | exact Drawn0.refl _ | apply Drawn0.step)⟩
      ·rw [if_neg c7] at H
       have c7b0 : (a0.toList == ([110, 111, 110, 101] : List UInt8)) = false := beq_eq_false_iff_ne.mpr c7
       have c7b1 : (a0.toList != ([110, 111, 110, 101] : List UInt8)) = true := bne_iff_ne.mpr c7
       obtain rfl := Option.some.inj H
       go_enter Try.func78, Try.ntmps78
       go_wp2
       go_ret
       exact ⟨by first | rfl | (simp; done) | (simp [*]; done), by repeat (first | exact Drawn0.refl _ | apply Drawn0.step)⟩
def impl_isLetter.f (a0 : Int) : Option (Bool) := if a0 ≥ 97 then (if a0 ≤ 122 then (some true) else (if a0 ≥ 65 then (some (decide (a0 ≤ 90))) else (some false))) else (if a0 ≥ 65 then (some (decide (a0 ≤ 90))) else (some false))
set_option maxHeartbeats 8000000 in
set_option maxRecDepth 100000 in
theorem impl_isLetter.calls (a0 : Int) (r : Bool) (w : World) (h : impl_isLetter.f a0 = some r) :
  Calls Try.prog 75 #[.int .u8 a0] w fun e w' => e = .returned (.bool r) ∧ Drawn0 w w' := by
 have H : (if a0 ≥ 97 then (if a0 ≤ 122 then (some true) else (if a0 ≥ 65 then (some (decide (a0 ≤ 90))) else (some false))) else (if a0 ≥ 65 then (some (decide (a0 ≤ 90))) else (some false))) = some r := h
 clear h
 by_cases c2 : a0 ≥ 97
 ·rw [if_pos c2] at H
  have c2b0 : decide (97 ≤ a0) = true := decide_eq_true c2
  clear c2
  by_cases c3 : a0 ≤ 122
  ·rw [if_pos c3] at H
   have c3b0 : decide (a0 ≤ 122) = true := decide_eq_true c3
   clear c3
   obtain rfl := Option.some.inj H
   go_enter Try.func75, Try.ntmps75
   go_wp2
   go_ret
   exact ⟨by first | rfl | (simp; done) | (simp [*]; done), by repeat (first | exact Drawn0.refl _ | apply Drawn0.step)⟩
  ·rw [if_neg c3] at H
   have c3b0 : decide (a0 ≤ 122) = false := decide_eq_false c3
   clear c3
   by_cases c4 : a0 ≥ 65
   ·rw [if_pos c4] at H
    have c4b0 : decide (65 ≤ a0) = true := decide_eq_true c4
    clear c4
    obtain rfl := Option.some.inj H
    go_enter Try.func75, Try.ntmps75
    go_wp2
    go_ret
    exact ⟨by first | rfl | (simp; done) | (simp [*]; done), by repeat (first | exact Drawn0.refl _ | apply Drawn0.step)⟩
   ·rw [if_neg c4] at H
    have c4b0 : decide (65 ≤ a0) = false := decide_eq_false c4
    clear c4
    obtain rfl := Option.some.inj H
    go_enter Try.func75, Try.ntmps75
    go_wp2
    go_ret
    exact ⟨by first | rfl | (simp; done) | (simp [*]; done), by repeat (first | exact Drawn0.refl _ | apply Drawn0.step)⟩
 ·rw [if_neg c2] at H
  have c2b0 : decide (97 ≤ a0) = false := decide_eq_false c2
  clear c2
  by_cases c5 : a0 ≥ 65
  ·rw [if_pos c5] at H
   have c5b0 : decide (65 ≤ a0) = true := decide_eq_true c5
   clear c5
   obtain rfl := Option.some.inj H
   go_enter Try.func75, Try.ntmps75
   go_wp2
   go_ret
   exact ⟨by first | rfl | (simp; done) | (simp [*]; done), by repeat (first | exact Drawn0.refl _ | apply Drawn0.step)⟩
  ·rw [if_neg c5] at H
   have c5b0 : decide (65 ≤ a0) = false := decide_eq_false c5
   clear c5
   obtain rfl := Option.some.inj H
   go_enter Try.func75, Try.ntmps75
   go_wp2
   go_ret
   exact ⟨by first | rfl | (simp; done) | (simp [*]; done), by repeat (first | exact Drawn0.refl _ | apply Drawn0.step)⟩
def impl_isDigit.f (a0 : Int) : Option (Bool) := if a0 ≥ 48 then (some (decide (a0 ≤ 57))) else (some false)
set_option maxHeartbeats 8000000 in
set_option maxRecDepth 100000 in
theorem impl_isDigit.calls (a0 : Int) (r : Bool) (w : World) (h : impl_isDigit.f a0 = some r) :
  Calls Try.prog 104 #[.int .u8 a0] w fun e w' => e = .returned (.bool r) ∧ Drawn0 w w' := by
 have H : (if a0 ≥ 48 then (some (decide (a0 ≤ 57))) else (some false)) = some r := h
 clear h
 by_cases c2 : a0 ≥ 48
 ·rw [if_pos c2] at H
  have c2b0 : decide (48 ≤ a0) = true := decide_eq_true c2
  clear c2
  obtain rfl := Option.some.inj H
  go_enter Try.func104, Try.ntmps104
  go_wp2
  go_ret
  exact ⟨by first | rfl | (simp; done) | (simp [*]; done), by repeat (first | exact Drawn0.refl _ | apply Drawn0.step)⟩
 ·rw [if_neg c2] at H
  have c2b0 : decide (48 ≤ a0) = false := decide_eq_false c2
  clear c2
  obtain rfl := Option.some.inj H
  go_enter Try.func104, Try.ntmps104
  go_wp2
  go_ret
  exact ⟨by first | rfl | (simp; done) | (simp [*]; done), by repeat (first | exact Drawn0.refl _ | apply Drawn0.step)⟩
def impl_inName.f (a0 : Int) : Option (Bool) := (impl_isLetter.f a0).bind fun t303 => (if t303 = true then (some true) else ((impl_isDigit.f a0).bind fun t304 => (if t304 = true then (some true) else (some (a0 == 95)))))
set_option maxHeartbeats 8000000 in
set_option maxRecDepth 100000 in
theorem impl_inName.calls (a0 : Int) (r : Bool) (w : World) (h : impl_inName.f a0 = some r) :
  Calls Try.prog 76 #[.int .u8 a0] w fun e w' => e = .returned (.bool r) ∧ Drawn0 w w' := by
 have H : ((impl_isLetter.f a0).bind fun t303 => (if t303 = true then (some true) else ((impl_isDigit.f a0).bind fun t304 => (if t304 = true then (some true) else (some (a0 == 95)))))) = some r := h
 clear h
 replace H := Option.bind_eq_some_iff.mp H
 obtain ⟨t303, A20, H⟩ := H
 replace H : (if t303 = true then (some true) else ((impl_isDigit.f a0).bind fun t304 => (if t304 = true then (some true) else (some (a0 == 95))))) = some r := H
 have A2 := Zz.mk A20
 clear A20
 by_cases c3 : t303 = true
 ·subst c3
  have H1 : (some true) = some r := by rw [if_pos rfl] at H; exact H
  clear H
  have H := H1
  clear H1
  obtain rfl := Option.some.inj H
  go_enter Try.func76, Try.ntmps76
  go_wp2_with (first | ((with_reducible refine gate_callee (f := 75) rfl ?_); refine goesL_ (some 4) rfl rfl Try.func75 (by kernel_rfl) rfl #[.int .u8 a0] rfl (by (try simp only [List.map_toArray, List.map_cons, List.map_nil]); first | done | rfl | (simp only [List.length_drop, List.length_take]; rfl)) ?_; (with_reducible refine (impl_isLetter.calls a0 true _ A2.out).mono ?_); rintro e w' ⟨rfl, ⟨nd, rfl⟩⟩; refine ⟨_, rfl, ?_⟩))
  go_ret
  exact ⟨by first | rfl | (simp; done) | (simp [*]; done), by repeat (first | exact Drawn0.refl _ | apply Drawn0.step)⟩
 ·replace c3 := Bool.eq_false_iff.mpr c3
  subst c3
  have H1 : ((impl_isDigit.f a0).bind fun t304 => (if t304 = true then (some true) else (some (a0 == 95)))) = some r := by rw [if_neg (show ¬ (false = true) by decide)] at H; exact H
  clear H
  have H := H1
  clear H1
  replace H := Option.bind_eq_some_iff.mp H
  obtain ⟨t304, A40, H⟩ := H
  replace H : (if t304 = true then (some true) else (some (a0 == 95))) = some r := H
  have A4 := Zz.mk A40
  clear A40
  by_cases c5 : t304 = true
  ·subst c5
   have H1 : (some true) = some r := by rw [if_pos rfl] at H; exact H
   clear H
   have H := H1
   clear H1
   obtain rfl := Option.some.inj H
   go_enter Try.func76, Try.ntmps76
   go_wp2_with (first | ((with_reducible refine gate_callee (f := 75) rfl ?_); refine goesL_ (some 4) rfl rfl Try.func75 (by kernel_rfl) rfl #[.int .u8 a0] rfl (by (try simp only [List.map_toArray, List.map_cons, List.map_nil]); first | done | rfl | (simp only [List.length_drop, List.length_take]; rfl)) ?_; (with_reducible refine (impl_isLetter.calls a0 false _ A2.out).mono ?_); rintro e w' ⟨rfl, ⟨nd, rfl⟩⟩; refine ⟨_, rfl, ?_⟩) | (go_at_call 104; (with_reducible refine (impl_isDigit.calls a0 true _ A4.out).mono ?_); rintro e w' ⟨rfl, ⟨nd, rfl⟩⟩))
   go_ret
   exact ⟨by first | rfl | (simp; done) | (simp [*]; done), by repeat (first | exact Drawn0.refl _ | apply Drawn0.step)⟩
  ·replace c5 := Bool.eq_false_iff.mpr c5
   subst c5
   have H1 : (some (a0 == 95)) = some r := by rw [if_neg (show ¬ (false = true) by decide)] at H; exact H
   clear H
   have H := H1
   clear H1
   obtain rfl := Option.some.inj H
   go_enter Try.func76, Try.ntmps76
   go_wp2_with (first | ((with_reducible refine gate_callee (f := 75) rfl ?_); refine goesL_ (some 4) rfl rfl Try.func75 (by kernel_rfl) rfl #[.int .u8 a0] rfl (by (try simp only [List.map_toArray, List.map_cons, List.map_nil]); first | done | rfl | (simp only [List.length_drop, List.length_take]; rfl)) ?_; (with_reducible refine (impl_isLetter.calls a0 false _ A2.out).mono ?_); rintro e w' ⟨rfl, ⟨nd, rfl⟩⟩; refine ⟨_, rfl, ?_⟩) | (go_at_call 104; (with_reducible refine (impl_isDigit.calls a0 false _ A4.out).mono ?_); rintro e w' ⟨rfl, ⟨nd, rfl⟩⟩))
   go_ret
   exact ⟨by first | rfl | (simp; done) | (simp [*]; done), by repeat (first | exact Drawn0.refl _ | apply Drawn0.step)⟩
mutual
def impl_nameOK.j0 : Nat → ByteArray → Bool → Option (Bool)
 | 0, _, _ => none
 | k + 1, x0, x17 => if x17 = true then (some false) else (impl_nameOK.l0 k x0 0)
def impl_nameOK.l0 : Nat → ByteArray → Int → Option (Bool)
 | 0, _, _ => none
 | k + 1, x0, x3 => if x3 < (x0.size : Int) then (if 0 ≤ x3 then ((impl_inName.f (bt x0 x3)).bind fun t306 => (if t306 = true then (impl_nameOK.l0 k x0 (wrap64 (x3 + 1))) else (some false))) else (none)) else (some true)
end
def impl_nameOK.f (k : Nat) (a0 : ByteArray) : Option (Bool) := if (a0.size : Int) < 1 then (impl_nameOK.j0 k a0 true) else (if (a0.size : Int) > 24 then (impl_nameOK.j0 k a0 true) else (if 0 < (a0.size : Int) then ((impl_isLetter.f (bt a0 0)).bind fun t305 => (impl_nameOK.j0 k a0 (!t305))) else (none)))
set_option maxHeartbeats 8000000 in
set_option maxRecDepth 100000 in
theorem impl_nameOK.calls (k : Nat) (a0 : ByteArray) (r : Bool) (w : World) (h : impl_nameOK.f k a0 = some r) :
  Calls Try.prog 92 #[.string a0] w fun e w' => e = .returned (.bool r) ∧ Drawn0 w w' := by
 have H : (if (a0.size : Int) < 1 then (impl_nameOK.j0 k a0 true) else (if (a0.size : Int) > 24 then (impl_nameOK.j0 k a0 true) else (if 0 < (a0.size : Int) then ((impl_isLetter.f (bt a0 0)).bind fun t305 => (impl_nameOK.j0 k a0 (!t305))) else (none)))) = some r := h
 clear h
 have HC2 := Zz.mk H
 clear H
 go_enter Try.func92, Try.ntmps92
 go_upto_region 1 with (fail)
 go_cut [17] (fun v17 wc => ∃ (kq : Nat) (x17_1 : Bool), v17 = .bool x17_1 ∧ Zz (impl_nameOK.j0 kq a0 x17_1 = some r) ∧ Zz (kq ≤ k) ∧ Drawn0 w wc)
 case first =>
  have H := HC2.out
  clear HC2
  by_cases c3 : (a0.size : Int) < 1
  ·rw [if_pos c3] at H
   have c3b0 : decide ((a0.size : Int) < 1) = true := decide_eq_true c3
   have c3b1 : decide (a0.size < 1) = true := decide_eq_true (by omega)
   clear c3
   (first | rw [c3b0] | (simp only [i64_w, i32_w]; rw [c3b0]) | skip)
   have H' := Zz.mk H
   clear H
   go_wp2
   go_meet
   case rel => exact ⟨_, (true), (by first | rfl | (simp; done) | (simp [*]; done)), H', ⟨by first | omega | exact Nat.le_refl _⟩, by repeat (first | exact Drawn0.refl _ | apply Drawn0.step)⟩
  ·rw [if_neg c3] at H
   have c3b0 : decide ((a0.size : Int) < 1) = false := decide_eq_false c3
   have c3b1 : decide (a0.size < 1) = false := decide_eq_false (by omega)
   clear c3
   (first | rw [c3b0] | (simp only [i64_w, i32_w]; rw [c3b0]) | skip)
   by_cases c4 : (a0.size : Int) > 24
   ·rw [if_pos c4] at H
    have c4b0 : decide (24 < (a0.size : Int)) = true := decide_eq_true c4
    have c4b1 : decide (24 < a0.size) = true := decide_eq_true (by omega)
    clear c4
    have H' := Zz.mk H
    clear H
    go_wp2
    go_meet
    case rel => exact ⟨_, (true), (by first | rfl | (simp; done) | (simp [*]; done)), H', ⟨by first | omega | exact Nat.le_refl _⟩, by repeat (first | exact Drawn0.refl _ | apply Drawn0.step)⟩
   ·rw [if_neg c4] at H
    have c4b0 : decide (24 < (a0.size : Int)) = false := decide_eq_false c4
    have c4b1 : decide (24 < a0.size) = false := decide_eq_false (by omega)
    clear c4
    by_cases c5 : 0 < (a0.size : Int)
    ·rw [if_pos c5] at H
     have c5b0 : decide (0 < (a0.size : Int)) = true := decide_eq_true c5
     have c5b1 : decide (0 < a0.size) = true := decide_eq_true (by omega)
     clear c5
     replace H := Option.bind_eq_some_iff.mp H
     obtain ⟨t305, A70, H⟩ := H
     replace H : (impl_nameOK.j0 k a0 (!t305)) = some r := H
     have A7 := Zz.mk A70
     clear A70
     have H' := Zz.mk H
     clear H
     have p6 : 0 ≤ (0 : Int) := (by omega)
     have q6 : 0 < a0.size := (by have : (0 : Int) < (a0.size : Int) := of_decide_eq_true (by first | (with_reducible assumption) | assumption); omega)
     have hx6 : ∀ h : 0 < a0.size, ((a0[0]'h).toNat : Int) = bt a0 0 := bt_at a0 0
     clear p6
     have qi6 : (0 < (a0.size : Int)) = True := eq_true (of_decide_eq_true (by first | (with_reducible assumption) | assumption))
     replace q6 := eq_true q6
     go_wp2_with (first | (go_at_call 75; (with_reducible refine (impl_isLetter.calls (bt a0 0) t305 _ A7.out).mono ?_); rintro e w' ⟨rfl, ⟨nd, rfl⟩⟩))
     go_meet
     case rel => exact ⟨_, (!t305), (by first | rfl | (simp; done) | (simp [*]; done)), H', ⟨by first | omega | exact Nat.le_refl _⟩, by repeat (first | exact Drawn0.refl _ | apply Drawn0.step)⟩
    ·rw [if_neg c5] at H
     exact absurd H (by simp)
 case rest =>
  clear HC2
  try clear p2
  try clear c3
  try clear c3b0
  try clear c3b1
  try clear c4
  try clear c4b0
  try clear c4b1
  try clear c5
  try clear c5b0
  try clear c5b1
  try clear p6
  try clear q6
  try clear hx6
  try clear qi6
  try clear p6
  try clear q6
  obtain ⟨kq, x17_1, rfl, HA, HJ1, ⟨mc1, rfl⟩⟩ := hcut
  cases kq with
  | zero => exact absurd HA.out (by simp [impl_nameOK.j0])
  | succ kj1 =>
   have H := HA.out
   clear HA
   simp only [impl_nameOK.j0] at H
   by_cases c8 : x17_1 = true
   ·subst c8
    have H1 : (some false) = some r := by rw [if_pos rfl] at H; exact H
    clear H
    have H := H1
    clear H1
    obtain rfl := Option.some.inj H
    go_wp2
    go_ret
    exact ⟨by first | rfl | (simp; done) | (simp [*]; done), by repeat (first | exact Drawn0.refl _ | apply Drawn0.step)⟩
   ·replace c8 := Bool.eq_false_iff.mpr c8
    subst c8
    have H1 : (impl_nameOK.l0 kj1 a0 0) = some r := by rw [if_neg (show ¬ (false = true) by decide)] at H; exact H
    clear H
    have H := H1
    clear H1
    have H' := Zz.mk H
    clear H
    go_wp2
    go_loopg [3] kj1 (fun kq v3 w' => ∃ (x3_2 : Int), v3 = .int .i64 x3_2 ∧ Zz (impl_nameOK.l0 kq a0 x3_2 = some r) ∧ Zz (kq ≤ kj1) ∧ Drawn0 w w')
    case atStart => exact ⟨(0), (by first | rfl | (simp; done) | (simp [*]; done)), H', ⟨Nat.le_refl _⟩, by repeat (first | exact Drawn0.refl _ | apply Drawn0.step)⟩
    case round =>
     clear H'
     try clear c1
     try clear p2
     try clear c3
     try clear c3b0
     try clear c3b1
     try clear c4
     try clear c4b0
     try clear c4b1
     try clear c5
     try clear c5b0
     try clear c5b1
     try clear p6
     try clear q6
     try clear hx6
     try clear qi6
     try clear c8
     try clear p2
     try clear p6
     try clear q6
     obtain ⟨x3_2, rfl, HA, HK2, ⟨m2, rfl⟩⟩ := hrel
     cases gk with
     | zero => exact absurd HA.out (by simp [impl_nameOK.l0])
     | succ k2 =>
      have H := HA.out
      clear HA
      simp only [impl_nameOK.l0] at H
      by_cases c9 : x3_2 < (a0.size : Int)
      ·rw [if_pos c9] at H
       have c9b0 : decide (x3_2 < (a0.size : Int)) = true := decide_eq_true c9
       clear c9
       by_cases c10 : 0 ≤ x3_2
       ·rw [if_pos c10] at H
        have c10b0 : decide (0 ≤ x3_2) = true := decide_eq_true c10
        clear c10
        replace H := Option.bind_eq_some_iff.mp H
        obtain ⟨t306, A120, H⟩ := H
        replace H : (if t306 = true then (impl_nameOK.l0 k2 a0 (wrap64 (x3_2 + 1))) else (some false)) = some r := H
        have A12 := Zz.mk A120
        clear A120
        by_cases c13 : t306 = true
        ·subst c13
         have H1 : (impl_nameOK.l0 k2 a0 (wrap64 (x3_2 + 1))) = some r := by rw [if_pos rfl] at H; exact H
         clear H
         have H := H1
         clear H1
         have H' := Zz.mk H
         clear H
         have p11 : 0 ≤ (x3_2 : Int) := of_decide_eq_true (by first | (with_reducible assumption) | assumption)
         have q11 : x3_2 < (a0.size : Int) := of_decide_eq_true (by first | (with_reducible assumption) | assumption)
         have hx11 := bt_at a0 x3_2
         replace p11 := eq_true p11
         replace q11 := eq_true q11
         go_wp2_with (first | ((with_reducible refine gate_callee (f := 76) rfl ?_); refine goesL_ (some 27) rfl rfl Try.func76 (by kernel_rfl) rfl #[.int .u8 (bt a0 x3_2)] rfl (by (try simp only [List.map_toArray, List.map_cons, List.map_nil]); first | done | rfl | (simp only [List.length_drop, List.length_take]; rfl)) ?_; (with_reducible refine (impl_inName.calls (bt a0 x3_2) true _ A12.out).mono ?_); rintro e w' ⟨rfl, ⟨nd, rfl⟩⟩; refine ⟨_, rfl, ?_⟩))
         go_roundg k2
         case measure => have := HJ1.out; have := HK2.out; omega
         case rel => exact ⟨(wrap64 (x3_2 + 1)), (by first | rfl | (simp; done) | (simp [*]; done)), H', ⟨by have := HJ1.out; have := HK2.out; omega⟩, by repeat (first | exact Drawn0.refl _ | apply Drawn0.step)⟩
        ·replace c13 := Bool.eq_false_iff.mpr c13
         subst c13
         have H1 : (some false) = some r := by rw [if_neg (show ¬ (false = true) by decide)] at H; exact H
         clear H
         have H := H1
         clear H1
         obtain rfl := Option.some.inj H
         have p11 : 0 ≤ (x3_2 : Int) := of_decide_eq_true (by first | (with_reducible assumption) | assumption)
         have q11 : x3_2 < (a0.size : Int) := of_decide_eq_true (by first | (with_reducible assumption) | assumption)
         have hx11 := bt_at a0 x3_2
         replace p11 := eq_true p11
         replace q11 := eq_true q11
         go_wp2_with (first | ((with_reducible refine gate_callee (f := 76) rfl ?_); refine goesL_ (some 27) rfl rfl Try.func76 (by kernel_rfl) rfl #[.int .u8 (bt a0 x3_2)] rfl (by (try simp only [List.map_toArray, List.map_cons, List.map_nil]); first | done | rfl | (simp only [List.length_drop, List.length_take]; rfl)) ?_; (with_reducible refine (impl_inName.calls (bt a0 x3_2) false _ A12.out).mono ?_); rintro e w' ⟨rfl, ⟨nd, rfl⟩⟩; refine ⟨_, rfl, ?_⟩))
         go_ret
         exact ⟨by first | rfl | (simp; done) | (simp [*]; done), by repeat (first | exact Drawn0.refl _ | apply Drawn0.step)⟩
       ·rw [if_neg c10] at H
        exact absurd H (by simp)
      ·rw [if_neg c9] at H
       have c9b0 : decide (x3_2 < (a0.size : Int)) = false := decide_eq_false c9
       clear c9
       obtain rfl := Option.some.inj H
       go_wp2
       go_ret
       exact ⟨by first | rfl | (simp; done) | (simp [*]; done), by repeat (first | exact Drawn0.refl _ | apply Drawn0.step)⟩
def impl_plainName.f (k : Nat) (a0 : ByteArray) : Option (Bool) := (impl_nameOK.f k a0).bind fun t307 => (if t307 = true then ((impl_keyword.f a0).bind fun t308 => (some (!t308))) else (some false))
set_option maxHeartbeats 8000000 in
set_option maxRecDepth 100000 in
theorem impl_plainName.calls (k : Nat) (a0 : ByteArray) (r : Bool) (w : World) (h : impl_plainName.f k a0 = some r) :
  Calls Try.prog 62 #[.string a0] w fun e w' => e = .returned (.bool r) ∧ Drawn0 w w' := by
 have H : ((impl_nameOK.f k a0).bind fun t307 => (if t307 = true then ((impl_keyword.f a0).bind fun t308 => (some (!t308))) else (some false))) = some r := h
 clear h
 replace H := Option.bind_eq_some_iff.mp H
 obtain ⟨t307, A20, H⟩ := H
 replace H : (if t307 = true then ((impl_keyword.f a0).bind fun t308 => (some (!t308))) else (some false)) = some r := H
 have A2 := Zz.mk A20
 clear A20
 by_cases c3 : t307 = true
 ·subst c3
  have H1 : ((impl_keyword.f a0).bind fun t308 => (some (!t308))) = some r := by rw [if_pos rfl] at H; exact H
  clear H
  have H := H1
  clear H1
  replace H := Option.bind_eq_some_iff.mp H
  obtain ⟨t308, A40, H⟩ := H
  replace H : (some (!t308)) = some r := H
  have A4 := Zz.mk A40
  clear A40
  obtain rfl := Option.some.inj H
  go_enter Try.func62, Try.ntmps62
  go_wp2_with (first | ((with_reducible refine gate_callee (f := 92) rfl ?_); refine goesL_ (some 4) rfl rfl Try.func92 (by kernel_rfl) rfl #[.string a0] rfl (by (try simp only [List.map_toArray, List.map_cons, List.map_nil]); first | done | rfl | (simp only [List.length_drop, List.length_take]; rfl)) ?_; (with_reducible refine (impl_nameOK.calls k a0 true _ A2.out).mono ?_); rintro e w' ⟨rfl, ⟨nd, rfl⟩⟩; refine ⟨_, rfl, ?_⟩) | (go_at_call 78; (with_reducible refine (impl_keyword.calls a0 t308 _ A4.out).mono ?_); rintro e w' ⟨rfl, ⟨nd, rfl⟩⟩))
  go_ret
  exact ⟨by first | rfl | (simp; done) | (simp [*]; done), by repeat (first | exact Drawn0.refl _ | apply Drawn0.step)⟩
 ·replace c3 := Bool.eq_false_iff.mpr c3
  subst c3
  have H1 : (some false) = some r := by rw [if_neg (show ¬ (false = true) by decide)] at H; exact H
  clear H
  have H := H1
  clear H1
  obtain rfl := Option.some.inj H
  go_enter Try.func62, Try.ntmps62
  go_wp2_with (first | ((with_reducible refine gate_callee (f := 92) rfl ?_); refine goesL_ (some 4) rfl rfl Try.func92 (by kernel_rfl) rfl #[.string a0] rfl (by (try simp only [List.map_toArray, List.map_cons, List.map_nil]); first | done | rfl | (simp only [List.length_drop, List.length_take]; rfl)) ?_; (with_reducible refine (impl_nameOK.calls k a0 false _ A2.out).mono ?_); rintro e w' ⟨rfl, ⟨nd, rfl⟩⟩; refine ⟨_, rfl, ?_⟩))
  go_ret
  exact ⟨by first | rfl | (simp; done) | (simp [*]; done), by repeat (first | exact Drawn0.refl _ | apply Drawn0.step)⟩
def impl_patternOK.l0 : Nat → ByteArray → Int → Option (Bool)
 | 0, _, _ => none
 | k + 1, x0, x3 => if x3 < (x0.size : Int) then (if 0 ≤ x3 then (if (bt x0 x3) < 32 then (some false) else (if (bt x0 x3) > 125 then (some false) else (impl_patternOK.l0 k x0 (wrap64 (x3 + 1))))) else (none)) else (some true)
def impl_patternOK.f (k : Nat) (a0 : ByteArray) : Option (Bool) := if (a0.size : Int) > 100 then (some false) else (impl_patternOK.l0 k a0 0)
set_option maxHeartbeats 8000000 in
set_option maxRecDepth 100000 in
theorem impl_patternOK.calls (k : Nat) (a0 : ByteArray) (r : Bool) (w : World) (h : impl_patternOK.f k a0 = some r) :
  Calls Try.prog 63 #[.string a0] w fun e w' => e = .returned (.bool r) ∧ Drawn0 w w' := by
 have H : (if (a0.size : Int) > 100 then (some false) else (impl_patternOK.l0 k a0 0)) = some r := h
 clear h
 by_cases c2 : (a0.size : Int) > 100
 ·rw [if_pos c2] at H
  have c2b0 : decide (100 < (a0.size : Int)) = true := decide_eq_true c2
  have c2b1 : decide (100 < a0.size) = true := decide_eq_true (by omega)
  clear c2
  obtain rfl := Option.some.inj H
  go_enter Try.func63, Try.ntmps63
  go_wp2
  go_ret
  exact ⟨by first | rfl | (simp; done) | (simp [*]; done), by repeat (first | exact Drawn0.refl _ | apply Drawn0.step)⟩
 ·rw [if_neg c2] at H
  have c2b0 : decide (100 < (a0.size : Int)) = false := decide_eq_false c2
  have c2b1 : decide (100 < a0.size) = false := decide_eq_false (by omega)
  clear c2
  have H' := Zz.mk H
  clear H
  go_enter Try.func63, Try.ntmps63
  go_wp2
  go_loopg [3] k (fun kq v3 w' => ∃ (x3_1 : Int), v3 = .int .i64 x3_1 ∧ Zz (impl_patternOK.l0 kq a0 x3_1 = some r) ∧ Zz (kq ≤ k) ∧ Drawn0 w w')
  case atStart => exact ⟨(0), (by first | rfl | (simp; done) | (simp [*]; done)), H', ⟨Nat.le_refl _⟩, by repeat (first | exact Drawn0.refl _ | apply Drawn0.step)⟩
  case round =>
   clear H'
   try clear c2
   try clear c2b0
   try clear c2b1
   try clear p2
   obtain ⟨x3_1, rfl, HA, HK1, ⟨m1, rfl⟩⟩ := hrel
   cases gk with
   | zero => exact absurd HA.out (by simp [impl_patternOK.l0])
   | succ k1 =>
    have H := HA.out
    clear HA
    simp only [impl_patternOK.l0] at H
    by_cases c3 : x3_1 < (a0.size : Int)
    ·rw [if_pos c3] at H
     have c3b0 : decide (x3_1 < (a0.size : Int)) = true := decide_eq_true c3
     clear c3
     by_cases c4 : 0 ≤ x3_1
     ·rw [if_pos c4] at H
      have c4b0 : decide (0 ≤ x3_1) = true := decide_eq_true c4
      clear c4
      by_cases c6 : (bt a0 x3_1) < 32
      ·rw [if_pos c6] at H
       have c6b0 : decide ((bt a0 x3_1) < 32) = true := decide_eq_true c6
       clear c6
       obtain rfl := Option.some.inj H
       have p5 : 0 ≤ (x3_1 : Int) := of_decide_eq_true (by first | (with_reducible assumption) | assumption)
       have q5 : x3_1 < (a0.size : Int) := of_decide_eq_true (by first | (with_reducible assumption) | assumption)
       have hx5 := bt_at a0 x3_1
       replace p5 := eq_true p5
       replace q5 := eq_true q5
       go_wp2
       go_ret
       exact ⟨by first | rfl | (simp; done) | (simp [*]; done), by repeat (first | exact Drawn0.refl _ | apply Drawn0.step)⟩
      ·rw [if_neg c6] at H
       have c6b0 : decide ((bt a0 x3_1) < 32) = false := decide_eq_false c6
       clear c6
       by_cases c8 : (bt a0 x3_1) > 125
       ·rw [if_pos c8] at H
        have c8b0 : decide (125 < (bt a0 x3_1)) = true := decide_eq_true c8
        clear c8
        obtain rfl := Option.some.inj H
        have p5 : 0 ≤ (x3_1 : Int) := of_decide_eq_true (by first | (with_reducible assumption) | assumption)
        have q5 : x3_1 < (a0.size : Int) := of_decide_eq_true (by first | (with_reducible assumption) | assumption)
        have hx5 := bt_at a0 x3_1
        replace p5 := eq_true p5
        replace q5 := eq_true q5
        have p7 : 0 ≤ (x3_1 : Int) := of_decide_eq_true (by first | (with_reducible assumption) | assumption)
        have q7 : x3_1 < (a0.size : Int) := of_decide_eq_true (by first | (with_reducible assumption) | assumption)
        have hx7 := bt_at a0 x3_1
        replace p7 := eq_true p7
        replace q7 := eq_true q7
        go_wp2
        go_ret
        exact ⟨by first | rfl | (simp; done) | (simp [*]; done), by repeat (first | exact Drawn0.refl _ | apply Drawn0.step)⟩
       ·rw [if_neg c8] at H
        have c8b0 : decide (125 < (bt a0 x3_1)) = false := decide_eq_false c8
        clear c8
        have H' := Zz.mk H
        clear H
        have p5 : 0 ≤ (x3_1 : Int) := of_decide_eq_true (by first | (with_reducible assumption) | assumption)
        have q5 : x3_1 < (a0.size : Int) := of_decide_eq_true (by first | (with_reducible assumption) | assumption)
        have hx5 := bt_at a0 x3_1
        replace p5 := eq_true p5
        replace q5 := eq_true q5
        have p7 : 0 ≤ (x3_1 : Int) := of_decide_eq_true (by first | (with_reducible assumption) | assumption)
        have q7 : x3_1 < (a0.size : Int) := of_decide_eq_true (by first | (with_reducible assumption) | assumption)
        have hx7 := bt_at a0 x3_1
        replace p7 := eq_true p7
        replace q7 := eq_true q7
        go_wp2
        go_roundg k1
        case measure => have := HK1.out; omega
        case rel => exact ⟨(wrap64 (x3_1 + 1)), (by first | rfl | (simp; done) | (simp [*]; done)), H', ⟨by have := HK1.out; omega⟩, by repeat (first | exact Drawn0.refl _ | apply Drawn0.step)⟩
     ·rw [if_neg c4] at H
      exact absurd H (by simp)
    ·rw [if_neg c3] at H
     have c3b0 : decide (x3_1 < (a0.size : Int)) = false := decide_eq_false c3
     clear c3
     obtain rfl := Option.some.inj H
     go_wp2
     go_ret
     exact ⟨by first | rfl | (simp; done) | (simp [*]; done), by repeat (first | exact Drawn0.refl _ | apply Drawn0.step)⟩
mutual
def impl_litOK.j0 : Nat → ByteArray → Bool → Option (Bool)
 | 0, _, _ => none
 | k + 1, x0, x11 => if x11 = true then (some false) else (impl_litOK.l0 k x0 0)
def impl_litOK.l0 : Nat → ByteArray → Int → Option (Bool)
 | 0, _, _ => none
 | k + 1, x0, x3 => if x3 < (x0.size : Int) then (if 0 ≤ x3 then (if (bt x0 x3) < 33 then (some false) else (if (bt x0 x3) > 126 then (some false) else (if (bt x0 x3) = 39 then (some false) else (impl_litOK.l0 k x0 (wrap64 (x3 + 1)))))) else (none)) else (some true)
end
def impl_litOK.f (k : Nat) (a0 : ByteArray) : Option (Bool) := if (a0.size : Int) < 1 then (impl_litOK.j0 k a0 true) else (impl_litOK.j0 k a0 (decide ((a0.size : Int) > 16)))
set_option maxHeartbeats 8000000 in
set_option maxRecDepth 100000 in
theorem impl_litOK.calls (k : Nat) (a0 : ByteArray) (r : Bool) (w : World) (h : impl_litOK.f k a0 = some r) :
  Calls Try.prog 64 #[.string a0] w fun e w' => e = .returned (.bool r) ∧ Drawn0 w w' := by
 have H : (if (a0.size : Int) < 1 then (impl_litOK.j0 k a0 true) else (impl_litOK.j0 k a0 (decide ((a0.size : Int) > 16)))) = some r := h
 clear h
 have HC2 := Zz.mk H
 clear H
 go_enter Try.func64, Try.ntmps64
 go_upto_region 1 with (fail)
 go_cut [11] (fun v11 wc => ∃ (kq : Nat) (x11_1 : Bool), v11 = .bool x11_1 ∧ Zz (impl_litOK.j0 kq a0 x11_1 = some r) ∧ Zz (kq ≤ k) ∧ Drawn0 w wc)
 case first =>
  have H := HC2.out
  clear HC2
  by_cases c3 : (a0.size : Int) < 1
  ·rw [if_pos c3] at H
   have c3b0 : decide ((a0.size : Int) < 1) = true := decide_eq_true c3
   have c3b1 : decide (a0.size < 1) = true := decide_eq_true (by omega)
   clear c3
   (first | rw [c3b0] | (simp only [i64_w, i32_w]; rw [c3b0]) | skip)
   have H' := Zz.mk H
   clear H
   go_wp2
   go_meet
   case rel => exact ⟨_, (true), (by first | rfl | (simp; done) | (simp [*]; done)), H', ⟨by first | omega | exact Nat.le_refl _⟩, by repeat (first | exact Drawn0.refl _ | apply Drawn0.step)⟩
  ·rw [if_neg c3] at H
   have c3b0 : decide ((a0.size : Int) < 1) = false := decide_eq_false c3
   have c3b1 : decide (a0.size < 1) = false := decide_eq_false (by omega)
   clear c3
   (first | rw [c3b0] | (simp only [i64_w, i32_w]; rw [c3b0]) | skip)
   have H' := Zz.mk H
   clear H
   go_wp2
   go_meet
   case rel => exact ⟨_, (decide ((a0.size : Int) > 16)), (by first | rfl | (simp; done) | (simp [*]; done)), H', ⟨by first | omega | exact Nat.le_refl _⟩, by repeat (first | exact Drawn0.refl _ | apply Drawn0.step)⟩
 case rest =>
  clear HC2
  try clear p2
  try clear c3
  try clear c3b0
  try clear c3b1
  obtain ⟨kq, x11_1, rfl, HA, HJ1, ⟨mc1, rfl⟩⟩ := hcut
  cases kq with
  | zero => exact absurd HA.out (by simp [impl_litOK.j0])
  | succ kj1 =>
   have H := HA.out
   clear HA
   simp only [impl_litOK.j0] at H
   by_cases c4 : x11_1 = true
   ·subst c4
    have H1 : (some false) = some r := by rw [if_pos rfl] at H; exact H
    clear H
    have H := H1
    clear H1
    obtain rfl := Option.some.inj H
    go_wp2
    go_ret
    exact ⟨by first | rfl | (simp; done) | (simp [*]; done), by repeat (first | exact Drawn0.refl _ | apply Drawn0.step)⟩
   ·replace c4 := Bool.eq_false_iff.mpr c4
    subst c4
    have H1 : (impl_litOK.l0 kj1 a0 0) = some r := by rw [if_neg (show ¬ (false = true) by decide)] at H; exact H
    clear H
    have H := H1
    clear H1
    have H' := Zz.mk H
    clear H
    go_wp2
    go_loopg [3] kj1 (fun kq v3 w' => ∃ (x3_2 : Int), v3 = .int .i64 x3_2 ∧ Zz (impl_litOK.l0 kq a0 x3_2 = some r) ∧ Zz (kq ≤ kj1) ∧ Drawn0 w w')
    case atStart => exact ⟨(0), (by first | rfl | (simp; done) | (simp [*]; done)), H', ⟨Nat.le_refl _⟩, by repeat (first | exact Drawn0.refl _ | apply Drawn0.step)⟩
    case round =>
     clear H'
     try clear c1
     try clear p2
     try clear c3
     try clear c3b0
     try clear c3b1
     try clear c4
     try clear p2
     obtain ⟨x3_2, rfl, HA, HK2, ⟨m2, rfl⟩⟩ := hrel
     cases gk with
     | zero => exact absurd HA.out (by simp [impl_litOK.l0])
     | succ k2 =>
      have H := HA.out
      clear HA
      simp only [impl_litOK.l0] at H
      by_cases c5 : x3_2 < (a0.size : Int)
      ·rw [if_pos c5] at H
       have c5b0 : decide (x3_2 < (a0.size : Int)) = true := decide_eq_true c5
       clear c5
       by_cases c6 : 0 ≤ x3_2
       ·rw [if_pos c6] at H
        have c6b0 : decide (0 ≤ x3_2) = true := decide_eq_true c6
        clear c6
        by_cases c8 : (bt a0 x3_2) < 33
        ·rw [if_pos c8] at H
         have c8b0 : decide ((bt a0 x3_2) < 33) = true := decide_eq_true c8
         clear c8
         obtain rfl := Option.some.inj H
         have p7 : 0 ≤ (x3_2 : Int) := of_decide_eq_true (by first | (with_reducible assumption) | assumption)
         have q7 : x3_2 < (a0.size : Int) := of_decide_eq_true (by first | (with_reducible assumption) | assumption)
         have hx7 := bt_at a0 x3_2
         replace p7 := eq_true p7
         replace q7 := eq_true q7
         go_wp2
         go_ret
         exact ⟨by first | rfl | (simp; done) | (simp [*]; done), by repeat (first | exact Drawn0.refl _ | apply Drawn0.step)⟩
        ·rw [if_neg c8] at H
         have c8b0 : decide ((bt a0 x3_2) < 33) = false := decide_eq_false c8
         clear c8
         by_cases c10 : (bt a0 x3_2) > 126
         ·rw [if_pos c10] at H
          have c10b0 : decide (126 < (bt a0 x3_2)) = true := decide_eq_true c10
          clear c10
          obtain rfl := Option.some.inj H
          have p7 : 0 ≤ (x3_2 : Int) := of_decide_eq_true (by first | (with_reducible assumption) | assumption)
          have q7 : x3_2 < (a0.size : Int) := of_decide_eq_true (by first | (with_reducible assumption) | assumption)
          have hx7 := bt_at a0 x3_2
          replace p7 := eq_true p7
          replace q7 := eq_true q7
          have p9 : 0 ≤ (x3_2 : Int) := of_decide_eq_true (by first | (with_reducible assumption) | assumption)
          have q9 : x3_2 < (a0.size : Int) := of_decide_eq_true (by first | (with_reducible assumption) | assumption)
          have hx9 := bt_at a0 x3_2
          replace p9 := eq_true p9
          replace q9 := eq_true q9
          go_wp2
          go_ret
          exact ⟨by first | rfl | (simp; done) | (simp [*]; done), by repeat (first | exact Drawn0.refl _ | apply Drawn0.step)⟩
         ·rw [if_neg c10] at H
          have c10b0 : decide (126 < (bt a0 x3_2)) = false := decide_eq_false c10
          clear c10
          by_cases c12 : (bt a0 x3_2) = 39
          ·rw [if_pos c12] at H
           have c12b0 : ((bt a0 x3_2) == 39) = true := beq_iff_eq.mpr c12
           have c12b1 : ((bt a0 x3_2) != 39) = false := bne_eq_false_iff_eq.mpr c12
           clear c12
           obtain rfl := Option.some.inj H
           have p7 : 0 ≤ (x3_2 : Int) := of_decide_eq_true (by first | (with_reducible assumption) | assumption)
           have q7 : x3_2 < (a0.size : Int) := of_decide_eq_true (by first | (with_reducible assumption) | assumption)
           have hx7 := bt_at a0 x3_2
           replace p7 := eq_true p7
           replace q7 := eq_true q7
           have p9 : 0 ≤ (x3_2 : Int) := of_decide_eq_true (by first | (with_reducible assumption) | assumption)
           have q9 : x3_2 < (a0.size : Int) := of_decide_eq_true (by first | (with_reducible assumption) | assumption)
           have hx9 := bt_at a0 x3_2
           replace p9 := eq_true p9
           replace q9 := eq_true q9
           have p11 : 0 ≤ (x3_2 : Int) := of_decide_eq_true (by first | (with_reducible assumption) | assumption)
           have q11 : x3_2 < (a0.size : Int) := of_decide_eq_true (by first | (with_reducible assumption) | assumption)
           have hx11 := bt_at a0 x3_2
           replace p11 := eq_true p11
           replace q11 := eq_true q11
           go_wp2
           go_ret
           exact ⟨by first | rfl | (simp; done) | (simp [*]; done), by repeat (first | exact Drawn0.refl _ | apply Drawn0.step)⟩
          ·rw [if_neg c12] at H
           have c12b0 : ((bt a0 x3_2) == 39) = false := beq_eq_false_iff_ne.mpr c12
           have c12b1 : ((bt a0 x3_2) != 39) = true := bne_iff_ne.mpr c12
           have H' := Zz.mk H
           clear H
           have p7 : 0 ≤ (x3_2 : Int) := of_decide_eq_true (by first | (with_reducible assumption) | assumption)
           have q7 : x3_2 < (a0.size : Int) := of_decide_eq_true (by first | (with_reducible assumption) | assumption)
           have hx7 := bt_at a0 x3_2
           replace p7 := eq_true p7
           replace q7 := eq_true q7
           have p9 : 0 ≤ (x3_2 : Int) := of_decide_eq_true (by first | (with_reducible assumption) | assumption)
           have q9 : x3_2 < (a0.size : Int) := of_decide_eq_true (by first | (with_reducible assumption) | assumption)
           have hx9 := bt_at a0 x3_2
           replace p9 := eq_true p9
           replace q9 := eq_true q9
           have p11 : 0 ≤ (x3_2 : Int) := of_decide_eq_true (by first | (with_reducible assumption) | assumption)
           have q11 : x3_2 < (a0.size : Int) := of_decide_eq_true (by first | (with_reducible assumption) | assumption)
           have hx11 := bt_at a0 x3_2
           replace p11 := eq_true p11
           replace q11 := eq_true q11
           go_wp2
           go_roundg k2
           case measure => have := HJ1.out; have := HK2.out; omega
           case rel => exact ⟨(wrap64 (x3_2 + 1)), (by first | rfl | (simp; done) | (simp [*]; done)), H', ⟨by have := HJ1.out; have := HK2.out; omega⟩, by repeat (first | exact Drawn0.refl _ | apply Drawn0.step)⟩
       ·rw [if_neg c6] at H
        exact absurd H (by simp)
      ·rw [if_neg c5] at H
       have c5b0 : decide (x3_2 < (a0.size : Int)) = false := decide_eq_false c5
       clear c5
       obtain rfl := Option.some.inj H
       go_wp2
       go_ret
       exact ⟨by first | rfl | (simp; done) | (simp [*]; done), by repeat (first | exact Drawn0.refl _ | apply Drawn0.step)⟩
end Go.Proofs.Ythcmamcbnjphgaa.PFnExactGrammarShow
namespace Go.Proofs.Ythcmamcbnjphgaa.PFnExactGrammarShow
open Go.RowKit Go.Proofs.YthcmamcbnjphgaaW.PrintWords Go.Proofs.YthcmamcbnjphgaaW.PrintLast Go.Proofs.YthcmamcbnjphgaaW.PrintMore
set_option maxRecDepth 20000
theorem wrap_in {x : Int} (h0 : -9223372036854775808 ≤ x) (h1 : x ≤ 9223372036854775807) : wrap64 x = x := by unfold wrap64; omega
def letterB (c : Int) : Bool := decide ((97 ≤ c ∧ c ≤ 122) ∨ (65 ≤ c ∧ c ≤ 90))
def digitB (c : Int) : Bool := decide (48 ≤ c ∧ c ≤ 57)
def innameB (c : Int) : Bool := letterB c || digitB c || decide (c = 95)
def allFrom (p : Int → Bool) (s : ByteArray) (i : Nat) : Bool := (List.range' i (s.size - i)).all fun j => p (bt s (j : Int))
theorem allFrom_end (p : Int → Bool) (s : ByteArray) (i : Nat) (h : s.size ≤ i) : allFrom p s i = true := by
 have : s.size - i = 0 := by omega
 simp [allFrom, this]
theorem allFrom_step (p : Int → Bool) (s : ByteArray) (i : Nat) (h : i < s.size) : allFrom p s i = (p (bt s (i : Int)) && allFrom p s (i + 1)) := by
 have : s.size - i = (s.size - (i + 1)) + 1 := by omega
 simp [allFrom, this, List.range'_succ]
def nameB (s : ByteArray) : Bool := decide (1 ≤ s.size ∧ s.size ≤ 24) && letterB (bt s 0) && allFrom innameB s 0
def kwB (s : ByteArray) : Bool := decide (s.toList ∈ ([[108, 97, 110, 103, 117, 97, 103, 101], [116, 111, 107, 101, 110], [115, 107, 105, 112], [108, 101, 102, 116], [114, 105, 103, 104, 116], [110, 111, 110, 101]] : List (List UInt8)))
def plainB (s : ByteArray) : Bool := nameB s && !kwB s
def litB (s : ByteArray) : Bool := decide (1 ≤ s.size ∧ s.size ≤ 16) && allFrom (fun c => decide (33 ≤ c ∧ c ≤ 126 ∧ c ≠ 39)) s 0
def patB (s : ByteArray) : Bool := decide (s.size ≤ 100) && allFrom (fun c => decide (32 ≤ c ∧ c ≤ 125)) s 0
theorem impl_letter (c : Int) : impl_isLetter.f c = some (letterB c) := by
 unfold impl_isLetter.f letterB; repeat' split
 all_goals first | (rw [Option.some.injEq]; exact decide_eq_decide.mpr (by omega)) | (rw [Option.some.injEq, eq_comm, decide_eq_true_iff]; omega) | (rw [Option.some.injEq, eq_comm, decide_eq_false_iff_not]; omega)
theorem spec_letter (c : Int) : spec_l01Letter.f c = some (letterB c) := impl_letter c
theorem impl_digit (c : Int) : impl_isDigit.f c = some (digitB c) := by
 unfold impl_isDigit.f digitB; split <;> simp <;> omega
theorem spec_digit (c : Int) : spec_l01Digit.f c = some (digitB c) := impl_digit c
theorem impl_inname (c : Int) : impl_inName.f c = some (innameB c) := by
 unfold impl_inName.f innameB
 rw [impl_letter, impl_digit]
 simp only [Option.bind_some]
 cases letterB c <;> cases digitB c <;> simp
 rfl
theorem spec_inname (c : Int) : spec_l01NameByte.f c = some (innameB c) := by
 unfold spec_l01NameByte.f innameB
 rw [spec_letter, spec_digit]
 simp only [Option.bind_some]
 cases letterB c <;> cases digitB c <;> simp
 rfl
theorem impl_nameOK_l (s : ByteArray) (hs : s.size ≤ 24) : ∀ (d i k : Nat), s.size - i = d → d < k → impl_nameOK.l0 k s (i : Int) = some (allFrom innameB s i) := by
 intro d
 induction d with
 | zero =>
  intro i k hd hk
  obtain ⟨k, rfl⟩ : ∃ m, k = m + 1 := ⟨k - 1, by omega⟩
  simp only [impl_nameOK.l0]
  rw [if_neg (by omega), allFrom_end _ _ _ (by omega)]
 | succ d ih =>
  intro i k hd hk
  obtain ⟨k, rfl⟩ : ∃ m, k = m + 1 := ⟨k - 1, by omega⟩
  simp only [impl_nameOK.l0]
  rw [if_pos (by omega), if_pos (by omega), impl_inname, Option.bind_some, allFrom_step _ _ _ (by omega)]
  by_cases h : innameB (bt s (i : Int)) = true
  ·rw [if_pos h, wrap_in (by omega) (by omega), h]
   exact ih (i + 1) k (by omega) (by omega)
  ·rw [if_neg h]
   simp [Bool.eq_false_iff.mpr h]
theorem impl_name_eval (s : ByteArray) (k : Nat) (hk : 30 ≤ k) : impl_nameOK.f k s = some (nameB s) := by
 obtain ⟨k, rfl⟩ : ∃ m, k = m + 1 := ⟨k - 1, by omega⟩
 unfold impl_nameOK.f nameB
 by_cases h1 : (s.size : Int) < 1
 ·rw [if_pos h1]; simp [impl_nameOK.j0]; omega
 rw [if_neg h1]
 by_cases h2 : (s.size : Int) > 24
 ·rw [if_pos h2]; simp [impl_nameOK.j0]; omega
 rw [if_neg h2, if_pos (by omega), impl_letter, Option.bind_some]
 cases hl : letterB (bt s 0)
 ·simp [impl_nameOK.j0]
 ·simp only [impl_nameOK.j0]
  rw [if_neg (by simp)]
  rw [show (0 : Int) = ((0 : Nat) : Int) from rfl, impl_nameOK_l s (by omega) s.size 0 k (by omega) (by omega)]
  simp; omega
theorem spec_name_l (s : ByteArray) (hs : s.size ≤ 24) : ∀ (d i k : Nat), s.size - i = d → d < k → spec_l01Name.l0 k s (i : Int) = some (allFrom innameB s i) := by
 intro d
 induction d with
 | zero =>
  intro i k hd hk
  obtain ⟨k, rfl⟩ : ∃ m, k = m + 1 := ⟨k - 1, by omega⟩
  simp only [spec_l01Name.l0]
  rw [if_neg (by omega), allFrom_end _ _ _ (by omega)]
 | succ d ih =>
  intro i k hd hk
  obtain ⟨k, rfl⟩ : ∃ m, k = m + 1 := ⟨k - 1, by omega⟩
  simp only [spec_l01Name.l0]
  rw [if_pos (by omega), if_pos (by omega), spec_inname, Option.bind_some, allFrom_step _ _ _ (by omega)]
  by_cases h : innameB (bt s (i : Int)) = true
  ·rw [if_pos h, wrap_in (by omega) (by omega), h]
   exact ih (i + 1) k (by omega) (by omega)
  ·rw [if_neg h]
   simp [Bool.eq_false_iff.mpr h]
theorem spec_name_eval (s : ByteArray) (k : Nat) (hk : 30 ≤ k) : spec_l01Name.f k s = some (nameB s) := by
 obtain ⟨k, rfl⟩ : ∃ m, k = m + 1 := ⟨k - 1, by omega⟩
 unfold spec_l01Name.f nameB
 by_cases h1 : (s.size : Int) < 1
 ·rw [if_pos h1]; simp [spec_l01Name.j0]; omega
 rw [if_neg h1]
 by_cases h2 : (s.size : Int) > 24
 ·rw [if_pos h2]; simp [spec_l01Name.j0]; omega
 rw [if_neg h2, if_pos (by omega), spec_letter, Option.bind_some]
 cases hl : letterB (bt s 0)
 ·simp [spec_l01Name.j0]
 ·simp only [spec_l01Name.j0]
  rw [if_neg (by simp)]
  rw [show (1 : Int) = ((1 : Nat) : Int) from rfl, spec_name_l s (by omega) (s.size - 1) 1 k (by omega) (by omega), allFrom_step _ _ 0 (by omega)]
  have : innameB (bt s 0) = true := by simp [innameB, hl]
  simp [this]; omega
theorem impl_keyword_eval (s : ByteArray) : impl_keyword.f s = some (kwB s) := by
 unfold impl_keyword.f kwB
 repeat' split
 all_goals simp_all
theorem spec_keyword_eval (s : ByteArray) (k : Nat) (hk : 10 ≤ k) : spec_l03Keyword.f k s = some (kwB s) := by
 obtain ⟨k, rfl⟩ : ∃ m, k = m + 7 := ⟨k - 7, by omega⟩
 unfold spec_l03Keyword.f kwB
 have w1 : wrap64 (0 + 1) = 1 := wrap_in (by decide) (by decide)
 have w2 : wrap64 (1 + 1) = 2 := wrap_in (by decide) (by decide)
 have w3 : wrap64 (2 + 1) = 3 := wrap_in (by decide) (by decide)
 have w4 : wrap64 (3 + 1) = 4 := wrap_in (by decide) (by decide)
 have w5 : wrap64 (4 + 1) = 5 := wrap_in (by decide) (by decide)
 have w6 : wrap64 (5 + 1) = 6 := wrap_in (by decide) (by decide)
 simp only [spec_l03Keyword.l0, w1, w2, w3, w4, w5, w6, rdOf]
 have e1 : (⟨#[108, 97, 110, 103, 117, 97, 103, 101]⟩ : ByteArray).toList = [108, 97, 110, 103, 117, 97, 103, 101] := by decide +kernel
 have e2 : (⟨#[116, 111, 107, 101, 110]⟩ : ByteArray).toList = [116, 111, 107, 101, 110] := by decide +kernel
 have e3 : (⟨#[115, 107, 105, 112]⟩ : ByteArray).toList = [115, 107, 105, 112] := by decide +kernel
 have e4 : (⟨#[108, 101, 102, 116]⟩ : ByteArray).toList = [108, 101, 102, 116] := by decide +kernel
 have e5 : (⟨#[114, 105, 103, 104, 116]⟩ : ByteArray).toList = [114, 105, 103, 104, 116] := by decide +kernel
 have e6 : (⟨#[110, 111, 110, 101]⟩ : ByteArray).toList = [110, 111, 110, 101] := by decide +kernel
 simp [e1, e2, e3, e4, e5, e6]
 repeat' split
 all_goals first | (simp_all; done) | skip
 simp
 refine ⟨?_, ?_, ?_, ?_, ?_, ?_⟩ <;> (intro h; have h' := h.symm; contradiction)
theorem impl_plain_eval (s : ByteArray) (k : Nat) (hk : 30 ≤ k) : impl_plainName.f k s = some (plainB s) := by
 unfold impl_plainName.f plainB
 rw [impl_name_eval s k hk, impl_keyword_eval]
 cases nameB s <;> simp
theorem spec_plain_eval (s : ByteArray) (k : Nat) (hk : 30 ≤ k) : spec_l03Plain.f k s = some (plainB s) := by
 unfold spec_l03Plain.f plainB
 rw [spec_name_eval s k hk, spec_keyword_eval s k (by omega)]
 cases nameB s <;> simp
theorem impl_pat_eval (s : ByteArray) (k : Nat) (hk : 110 ≤ k) : impl_patternOK.f k s = some (patB s) := by
 unfold impl_patternOK.f patB
 by_cases h : (s.size : Int) > 100
 ·rw [if_pos h]; simp; omega
 rw [if_neg h]
 have key : ∀ (d i k : Nat), s.size - i = d → d < k → impl_patternOK.l0 k s (i : Int) = some (allFrom (fun c => decide (32 ≤ c ∧ c ≤ 125)) s i) := by
  intro d
  induction d with
  | zero =>
   intro i k hd hk
   obtain ⟨k, rfl⟩ : ∃ m, k = m + 1 := ⟨k - 1, by omega⟩
   simp only [impl_patternOK.l0]
   rw [if_neg (by omega), allFrom_end _ _ _ (by omega)]
  | succ d ih =>
   intro i k hd hk
   obtain ⟨k, rfl⟩ : ∃ m, k = m + 1 := ⟨k - 1, by omega⟩
   simp only [impl_patternOK.l0]
   rw [if_pos (by omega), if_pos (by omega), allFrom_step _ _ _ (by omega)]
   by_cases h1 : bt s (i : Int) < 32
   ·rw [if_pos h1]; simp; omega
   rw [if_neg h1]
   by_cases h2 : bt s (i : Int) > 125
   ·rw [if_pos h2]; simp; omega
   rw [if_neg h2, wrap_in (by omega) (by omega)]
   have := ih (i + 1) k (by omega) (by omega)
   rw [show ((i : Int) + 1) = ((i + 1 : Nat) : Int) by omega, this]
   simp; omega
 rw [show (0 : Int) = ((0 : Nat) : Int) from rfl, key s.size 0 k (by omega) (by omega)]
 simp; omega
theorem spec_bytes_eval (s : ByteArray) (a b : Int) (hs : s.size ≤ 1000) (k : Nat) (hk : s.size < k) : spec_l03Bytes.f k s a b = some (allFrom (fun c => decide (a ≤ c ∧ c ≤ b)) s 0) := by
 unfold spec_l03Bytes.f
 have key : ∀ (d i k : Nat), s.size - i = d → d < k → spec_l03Bytes.l0 k s a b (i : Int) = some (allFrom (fun c => decide (a ≤ c ∧ c ≤ b)) s i) := by
  intro d
  induction d with
  | zero =>
   intro i k hd hk
   obtain ⟨k, rfl⟩ : ∃ m, k = m + 1 := ⟨k - 1, by omega⟩
   simp only [spec_l03Bytes.l0]
   rw [if_neg (by omega), allFrom_end _ _ _ (by omega)]
  | succ d ih =>
   intro i k hd hk
   obtain ⟨k, rfl⟩ : ∃ m, k = m + 1 := ⟨k - 1, by omega⟩
   simp only [spec_l03Bytes.l0]
   rw [if_pos (by omega), if_pos (by omega), allFrom_step _ _ _ (by omega)]
   by_cases h1 : bt s (i : Int) < a
   ·rw [if_pos h1]; simp; omega
   rw [if_neg h1]
   by_cases h2 : bt s (i : Int) > b
   ·rw [if_pos h2]; simp; omega
   rw [if_neg h2, wrap_in (by omega) (by omega)]
   have := ih (i + 1) k (by omega) (by omega)
   rw [show ((i : Int) + 1) = ((i + 1 : Nat) : Int) by omega, this]
   simp; omega
 rw [show (0 : Int) = ((0 : Nat) : Int) from rfl, key s.size 0 k (by omega) (by omega)]
theorem spec_pat_eval (s : ByteArray) (k : Nat) (hk : 110 ≤ k) : spec_l03RxOK.f k s = some (patB s) := by
 unfold spec_l03RxOK.f patB
 by_cases h : (s.size : Int) ≤ 100
 ·rw [if_pos h, spec_bytes_eval s 32 125 (by omega) k (by omega)]; simp; omega
 ·rw [if_neg h]; simp; omega
theorem impl_lit_eval (s : ByteArray) (k : Nat) (hk : 30 ≤ k) : impl_litOK.f k s = some (litB s) := by
 obtain ⟨k, rfl⟩ : ∃ m, k = m + 1 := ⟨k - 1, by omega⟩
 unfold impl_litOK.f litB
 by_cases h1 : (s.size : Int) < 1
 ·rw [if_pos h1]; simp [impl_litOK.j0]; omega
 rw [if_neg h1]
 by_cases h2 : (s.size : Int) > 16
 ·rw [decide_eq_true h2]; simp [impl_litOK.j0]; omega
 rw [decide_eq_false h2]
 have key : ∀ (d i k : Nat), s.size - i = d → d < k → impl_litOK.l0 k s (i : Int) = some (allFrom (fun c => decide (33 ≤ c ∧ c ≤ 126 ∧ c ≠ 39)) s i) := by
  intro d
  induction d with
  | zero =>
   intro i k hd hk
   obtain ⟨k, rfl⟩ : ∃ m, k = m + 1 := ⟨k - 1, by omega⟩
   simp only [impl_litOK.l0]
   rw [if_neg (by omega), allFrom_end _ _ _ (by omega)]
  | succ d ih =>
   intro i k hd hk
   obtain ⟨k, rfl⟩ : ∃ m, k = m + 1 := ⟨k - 1, by omega⟩
   simp only [impl_litOK.l0]
   rw [if_pos (by omega), if_pos (by omega), allFrom_step _ _ _ (by omega)]
   by_cases h1 : bt s (i : Int) < 33
   ·rw [if_pos h1]; simp; omega
   rw [if_neg h1]
   by_cases h2 : bt s (i : Int) > 126
   ·rw [if_pos h2]; simp; omega
   rw [if_neg h2]
   by_cases h3 : bt s (i : Int) = 39
   ·rw [if_pos h3]; simp [h3]
   rw [if_neg h3, wrap_in (by omega) (by omega)]
   have := ih (i + 1) k (by omega) (by omega)
   rw [show ((i : Int) + 1) = ((i + 1 : Nat) : Int) by omega, this]
   simp; omega
 simp only [impl_litOK.j0]
 rw [if_neg (by simp), show (0 : Int) = ((0 : Nat) : Int) from rfl, key s.size 0 k (by omega) (by omega)]
 simp; omega
theorem spec_in_eval (s : ByteArray) (c : Int) (hs : s.size ≤ 1000) (k : Nat) (hk : s.size < k) : spec_l02In.f k s c = some (!allFrom (fun x => decide (x ≠ c)) s 0) := by
 unfold spec_l02In.f
 have key : ∀ (d i k : Nat), s.size - i = d → d < k → spec_l02In.l0 k s c (i : Int) = some (!allFrom (fun x => decide (x ≠ c)) s i) := by
  intro d
  induction d with
  | zero =>
   intro i k hd hk
   obtain ⟨k, rfl⟩ : ∃ m, k = m + 1 := ⟨k - 1, by omega⟩
   simp only [spec_l02In.l0]
   rw [if_neg (by omega), allFrom_end _ _ _ (by omega)]; rfl
  | succ d ih =>
   intro i k hd hk
   obtain ⟨k, rfl⟩ : ∃ m, k = m + 1 := ⟨k - 1, by omega⟩
   simp only [spec_l02In.l0]
   rw [if_pos (by omega), if_pos (by omega), allFrom_step _ _ _ (by omega)]
   by_cases h1 : bt s (i : Int) = c
   ·rw [if_pos h1]; simp [h1]
   rw [if_neg h1, wrap_in (by omega) (by omega)]
   have := ih (i + 1) k (by omega) (by omega)
   rw [show ((i : Int) + 1) = ((i + 1 : Nat) : Int) by omega, this]
   simp [h1]
 rw [show (0 : Int) = ((0 : Nat) : Int) from rfl, key s.size 0 k (by omega) (by omega)]
theorem spec_lit_eval (s : ByteArray) (k : Nat) (hk : 30 ≤ k) : spec_l03LitOK.f k s = some (litB s) := by
 unfold spec_l03LitOK.f litB spec_l01Between.f
 by_cases h1 : (s.size : Int) ≥ 1
 ·rw [if_pos h1]
  by_cases h2 : (s.size : Int) ≤ 16
  ·rw [decide_eq_true h2, Option.bind_some, if_pos rfl, spec_bytes_eval s 33 126 (by omega) k (by omega), spec_in_eval s 39 (by omega) k (by omega)]
   have e : allFrom (fun c => decide (33 ≤ c ∧ c ≤ 126 ∧ c ≠ 39)) s 0 = (allFrom (fun c => decide (33 ≤ c ∧ c ≤ 126)) s 0 && allFrom (fun x => decide (x ≠ 39)) s 0) := by
    unfold allFrom
    generalize List.range' 0 (s.size - 0) = l
    induction l with
    | nil => rfl
    | cons a l ih =>
     simp only [List.all_cons, ih]
     by_cases a1 : 33 ≤ bt s (a : Int) <;> by_cases a2 : bt s (a : Int) ≤ 126 <;> by_cases a3 : bt s (a : Int) = 39 <;> simp [a1, a2, a3]
   rw [e]
   have hd : (decide (1 ≤ s.size ∧ s.size ≤ 16)) = true := by simp; omega
   rw [hd]
   cases allFrom (fun c => decide (33 ≤ c ∧ c ≤ 126)) s 0 <;> simp
  ·rw [decide_eq_false h2]; simp; omega
 ·rw [if_neg h1]; simp; omega
theorem plain_any (s : ByteArray) (w : World) : Calls Try.prog 62 #[.string s] w fun e w' => e = .returned (.bool (plainB s)) ∧ Drawn0 w w' := impl_plainName.calls 30 s _ w (impl_plain_eval s 30 (by omega))
theorem lit_any (s : ByteArray) (w : World) : Calls Try.prog 64 #[.string s] w fun e w' => e = .returned (.bool (litB s)) ∧ Drawn0 w w' := impl_litOK.calls 30 s _ w (impl_lit_eval s 30 (by omega))
theorem pat_any (s : ByteArray) (w : World) : Calls Try.prog 63 #[.string s] w fun e w' => e = .returned (.bool (patB s)) ∧ Drawn0 w w' := impl_patternOK.calls 110 s _ w (impl_pat_eval s 110 (by omega))
end Go.Proofs.Ythcmamcbnjphgaa.PFnExactGrammarShow
namespace Go.Proofs.Ythcmamcbnjphgaa.PFnExactGrammarShow
open Go.RowKit Go.Proofs.YthcmamcbnjphgaaW.PrintWords Go.Proofs.YthcmamcbnjphgaaW.PrintLast Go.Proofs.YthcmamcbnjphgaaW.PrintMore
def finI (p m : Int) : Option Int := if p = m then some (m + 1) else none
def itemG (rec : Int → List (List Int) → Int → Option Int) (parts : List S119) (bound p n : Int) : Option Int :=
 if p < 0 then none else if bound ≤ p then none else
 if (rd_T119 parts p).f0 = 1 then (if plainB (rd_T119 parts p).f1 = true then (if (rd_T119 parts p).f2.length = 0 then finI p n else none) else none)
 else if (rd_T119 parts p).f0 = 2 then (if litB (rd_T119 parts p).f1 = true then (if (rd_T119 parts p).f2.length = 0 then finI p n else none) else none)
 else if (rd_T119 parts p).f0 = 3 ∨ (rd_T119 parts p).f0 = 4 ∨ (rd_T119 parts p).f0 = 5 then
  (if (rd_T119 parts p).f1.size = 0 then (if (rd_T119 parts p).f2.length = 0 then none else (rec p (rd_T119 parts p).f2 n).bind (finI p)) else none)
 else none
def itemsG (rec : Int → List (List Int) → Int → Option Int) (parts : List S119) (bound : Int) : List Int → Int → Option Int
 | [], n => some n
 | p :: ps, n => (itemG rec parts bound p n).bind (itemsG rec parts bound ps)
def altsG (rec : Int → List (List Int) → Int → Option Int) (parts : List S119) (bound : Int) : List (List Int) → Int → Option Int
 | [], n => some n
 | a :: r, n => (itemsG rec parts bound a n).bind (altsG rec parts bound r)
def altsF (parts : List S119) : Nat → Int → List (List Int) → Int → Option Int
 | 0, _, _, _ => none
 | F + 1, bound, alts, n => altsG (altsF parts F) parts bound alts n
theorem toList_nil {s : ByteArray} (h : s.size = 0) : s.toList = [] := by
 rw [ByteArray.toList_eq]; exact List.eq_nil_of_length_eq_zero (by rw [data_length]; exact h)
theorem toList_cons {s : ByteArray} (h : s.size ≠ 0) : s.toList.isEmpty = false ∧ (s.toList == []) = false := by
 have : s.toList ≠ [] := fun e => h (by rw [← data_length, ← ByteArray.toList_eq, e]; rfl)
 exact ⟨by simp [List.isEmpty_iff, this], by simp [this]⟩
theorem keep_below {w w1 w2 : World} {g : Nat} (h : KeepBut w w1 g none) (k : Below w1.heap.size w1 w2) : KeepBut w w2 g none := h.trans (KeepBut.of_below k g none) (.inl rfl)
theorem below_self_alloc (w : World) (o : Obj) : Below w.heap.size w (w.alloc o) := (Below.refl _ _).alloc (Nat.le_refl _) o
theorem blk_below {w w1 : World} {g : Nat} {o : Obj} (h : w.heap[g]? = some o) (k : Below w.heap.size w w1) : w1.heap[g]? = some o := (k.block g (blk_lt h)).trans h
theorem below_chain {B : Nat} {w w1 w2 : World} (h : Below B w w1) (hB : B ≤ w1.heap.size) (k : Below w1.heap.size w1 w2) : Below B w w2 := h.trans (k.mono hB)
structure OInv (w0 w : World) (nb : Nat) (g : Obj) (m : Int) (wr : World) : Prop where
 hn : wr.heap[nb]? = some (.cells #[.int .i64 m] 3 (0, 0))
 hg : wr.heap[w.heap.size]? = some g
 hB : Below w0.heap.size w0 wr
 hK : KeepBut w wr nb none
theorem OInv.below {w0 w : World} {nb : Nat} {g : Obj} {m : Int} {wr w2 : World} (h : OInv w0 w nb g m wr) (k : Below wr.heap.size wr w2) : OInv w0 w nb g m w2 :=
 ⟨blk_below h.hn k, blk_below h.hg k, below_chain h.hB h.hB.size k, keep_below h.hK k⟩
theorem OInv.set {w0 w : World} {nb : Nat} {g : Obj} {m : Int} {wr : World} (h : OInv w0 w nb g m wr) (h0 : w0.heap.size ≤ nb) (hl : nb < w.heap.size) (x : Int) : OInv w0 w nb g x (wr.setCell ⟨nb, 0, none⟩ (.int .i64 x)) := by
 refine ⟨?_, ?_, h.hB.setCell (p := ⟨nb, 0, none⟩) h0 _, h.hK.set_ 0 _⟩
 ·have := blk_set h.hn 0 (.int .i64 x)
  simpa using this
 ·exact (Below.heap_setCell wr ⟨nb, 0, none⟩ _ _ (by show w.heap.size ≠ nb; omega)).trans h.hg
theorem OInv.call {w0 w : World} {nb : Nat} {g : Obj} {m m3 : Int} {wr w2 : World} (h : OInv w0 w nb g m wr) (hl : nb < w.heap.size) (hn : w2.heap[nb]? = some (.cells #[.int .i64 m3] 3 (0, 0))) (hB : Below w0.heap.size w0 w2) (hK : KeepBut wr w2 nb none) : OInv w0 w nb g m3 w2 :=
 ⟨hn, (hK.2 _ (blk_lt h.hg) (by omega) (by simp)).trans h.hg, hB, h.hK.trans hK (.inl rfl)⟩
def OPost (w0 w : World) (nb : Nat) (T : Option Int) (e : Ending) (w' : World) : Prop :=
 (∃ m : Int, e = .returned (.bool T.isSome) ∧ w'.heap[nb]? = some (.cells #[.int .i64 m] 3 (0, 0)) ∧ (∀ r, T = some r → r = m)) ∧ Below w0.heap.size w0 w' ∧ KeepBut w w' nb none
theorem OInv.ret {w0 w : World} {nb : Nat} {g : Obj} {m : Int} {wr w2 : World} {T : Option Int} (h : OInv w0 w nb g m wr) (k : Below wr.heap.size wr w2) (hT : T = none) :
  OPost w0 w nb T (.returned (.bool false)) w2 := by
 have h2 := h.below k
 subst hT
 exact ⟨⟨m, rfl, h2.hn, fun r hr => by cases hr⟩, h2.hB, h2.hK⟩
def AltsAt (w0 w : World) (nb : Nat) (A : Option Addr) (alts : List (List Int)) : Prop :=
 alts.length ≤ 9223372036854775807 ∧ ∀ j : Nat, j < alts.length → ∃ ad A0 c0, A = some ad ∧ (∀ wr : World, Below w0.heap.size w0 wr → KeepBut w wr nb none → wr.cell? (ad.add j) = some (.slice A0 (rd_L6 alts j).length c0)) ∧ (rd_L6 alts j).length ≤ c0 ∧ Kd.C (Kd.int .i64) w0 A0 (rd_L6 alts j).length (rd_L6 alts j)
theorem AltsAt.of_C {w0 w : World} {nb : Nat} {A : Option Addr} {alts : List (List Int)} (h : Kd.C (Kd.slice 3 (Kd.int .i64)) w0 A alts.length alts) : AltsAt w0 w nb A alts := by
 refine ⟨h.2.1, fun j hj => ?_⟩
 obtain ⟨ad, A0, c0, hA, hca, hca0, HRa⟩ := at_L6 h j (by omega) (by omega)
 exact ⟨ad, A0, c0, hA, fun wr hB _ => (hB.cell (World.block_lt_of_cell? _ _ hca)).trans hca, hca0, HRa⟩
set_option maxHeartbeats 8000000 in
set_option maxRecDepth 100000 in
theorem inOrder_walk (F : Nat) : ∀ (nm : ByteArray) (v1 v2 v3 : Value) (A4 : Option Addr) (c4 : Nat) (parts : List S119) (A : Option Addr) (c : Nat) (alts : List (List Int)) (nb : Nat) (n bound : Int) (w0 w : World),
  Kd.C k119 w0 A4 parts.length parts → parts.length ≤ c4 → AltsAt w0 w nb A alts → alts.length ≤ c →
  Below w0.heap.size w0 w → w0.heap.size ≤ nb → w.heap[nb]? = some (.cells #[.int .i64 n] 3 (0, 0)) → 0 ≤ bound → bound ≤ parts.length → bound < F →
  Calls Try.prog 65 #[.agg #[.string nm, v1, v2, v3, .slice A4 parts.length c4], .slice A alts.length c, .pointer (some ⟨nb, 0, none⟩), .int .i64 bound] w (OPost w0 w nb (altsF parts F bound alts n)) := by
 induction F with
 | zero =>
  intro nm v1 v2 v3 A4 c4 parts A c alts nb n bound w0 w HR4 HC4 HRA HCA HB hnb hn hb0 hb hF
  omega
 | succ F ih =>
  intro nm v1 v2 v3 A4 c4 parts A c alts nb n bound w0 w HR4 HC4 HRA HCA HB hnb hn hb0 hb hF
  replace HR4 := Zz.mk HR4
  replace HRA := Zz.mk HRA
  have HI := Zz.mk (OInv.mk (w0 := w0) (w := w) (nb := nb) (g := .cells #[.string nm, v1, v2, v3, .slice A4 parts.length c4] 36 (0, 0)) (m := n) (wr := w.alloc (.cells #[.string nm, v1, v2, v3, .slice A4 parts.length c4] 36))
   (blk_below hn (below_self_alloc w _)) (heap_alloc_new w _) (below_chain HB HB.size (below_self_alloc w _)) (keep_below (KeepBut.refl w nb none) (below_self_alloc w _)))
  have HT : ∃ T, T = altsF parts (F + 1) bound alts n := ⟨_, rfl⟩
  obtain ⟨T, hT⟩ := HT
  rw [← hT]
  have HTs := Zz.mk (hT.symm : altsG (altsF parts F) parts bound alts n = T)
  replace ih := Zz.mk ih
  have hnl := blk_lt hn
  clear hT HB hn
  go_enter Try.func65, Try.ntmps65
  go_wp2
  go_loopg [16] alts.length (fun gk v16 wr => ∃ (i : Nat) (m : Int), v16 = .int .i64 i ∧ gk = alts.length - i ∧ i ≤ alts.length ∧ Zz (OInv w0 w nb (.cells #[.string nm, v1, v2, v3, .slice A4 parts.length c4] 36 (0, 0)) m wr) ∧ Zz (altsG (altsF parts F) parts bound (alts.drop i) m = T))
  case atStart => exact ⟨0, n, rfl, by omega, by omega, HI, ⟨HTs.out⟩⟩
  case round =>
   clear HI HTs
   obtain ⟨i, m, rfl, hgk, hi, HI, HTs⟩ := hrel
   have hl := HRA.out.1
   by_cases hlt : i < alts.length
   ·obtain ⟨ad, A0, c0, hA, hca, hca0, HRa⟩ := HRA.out.2 i hlt
    cases hA
    replace hca : wr.cell? (ad.add i) = some (.slice A0 (rd_L6 alts i).length c0) := hca wr HI.out.hB HI.out.hK
    replace HRa := Zz.mk HRa
    have hTa : (itemsG (altsF parts F) parts bound (rd_L6 alts i) m).bind (altsG (altsF parts F) parts bound (alts.drop (i + 1))) = T := by
     have := HTs.out
     rw [List.drop_eq_getElem_cons hlt] at this
     simp only [altsG] at this
     rw [← this]
     simp [rd_L6, List.getD_eq_getElem?_getD, List.getElem?_eq_getElem hlt]
    have HTa := Zz.mk hTa
    clear hTa HTs
    have b0 : decide ((i : Int) < (alts.length : Int)) = true := decide_eq_true (by omega)
    have b1 : decide (i < alts.length) = true := decide_eq_true (by omega)
    go_wp2
    clear hca b0 b1
    go_loopg [22] (rd_L6 alts i).length (fun gk2 v22 wr2 => ∃ (j : Nat) (m2 : Int), v22 = .int .i64 j ∧ gk2 = (rd_L6 alts i).length - j ∧ j ≤ (rd_L6 alts i).length ∧ Zz (OInv w0 w nb (.cells #[.string nm, v1, v2, v3, .slice A4 parts.length c4] 36 (0, 0)) m2 wr2) ∧ Zz ((itemsG (altsF parts F) parts bound ((rd_L6 alts i).drop j) m2).bind (altsG (altsF parts F) parts bound (alts.drop (i + 1))) = T))
    case atStart => exact ⟨0, m, rfl, by omega, by omega, HI, ⟨HTa.out⟩⟩
    case round =>
     clear HI HTa
     obtain ⟨j, m2, rfl, hgk2, hj, HI, HT2⟩ := hrel
     have hl2 := HRa.out.2.1
     by_cases hjl : j < (rd_L6 alts i).length
     ·obtain ⟨ad2, c2, hA2, _, hK2, hc2⟩ := Kd.C_get HRa.out 0 j (by omega) (by omega)
      cases hA2
      have hcp : wr.cell? (ad2.add j) = some (.int .i64 (rd (rd_L6 alts i) j)) := by
       have hq := hc2 0 (.int .i64 (rd (rd_L6 alts i) j)) (by rw [show c2 = [Value.int .i64 (rd (rd_L6 alts i) j)] from hK2]; rfl)
       have hq2 : w0.cell? (ad2.add j) = some (.int .i64 (rd (rd_L6 alts i) j)) := by simpa [Kd.int, Kd.scalar] using hq
       exact (HI.out.hB.cell (World.block_lt_of_cell? _ _ hq2)).trans hq2
      clear hc2 hK2
      have hTp : ((itemG (altsF parts F) parts bound (rd (rd_L6 alts i) j) m2).bind (itemsG (altsF parts F) parts bound ((rd_L6 alts i).drop (j + 1)))).bind (altsG (altsF parts F) parts bound (alts.drop (i + 1))) = T := by
       have := HT2.out
       rw [List.drop_eq_getElem_cons hjl] at this
       simp only [itemsG] at this
       rw [← this]
       simp [rd, List.getD_eq_getElem?_getD, List.getElem?_eq_getElem hjl]
      generalize hp : rd (rd_L6 alts i) (j : Int) = p at hcp hTp
      clear hp
      replace hTp := Zz.mk hTp
      clear HT2
      have b1 : decide (j < (rd_L6 alts i).length) = true := decide_eq_true (by omega)
      by_cases hp0 : p < 0
      ·have hTn : Zz (T = none) := ⟨by rw [← hTp.out]; simp [itemG, hp0]⟩
       have d0 : decide (p < 0) = true := decide_eq_true hp0
       clear hp0
       go_wp2
       go_ret
       exact HI.out.ret (Below.refl _ _) hTn.out
      have d0 : decide (p < 0) = false := decide_eq_false hp0
      by_cases hpb : bound ≤ p
      ·have hTn : Zz (T = none) := ⟨by rw [← hTp.out]; simp [itemG, hp0, hpb]⟩
       have d1 : decide (bound ≤ p) = true := decide_eq_true hpb
       clear hp0 hpb
       go_wp2
       go_ret
       exact HI.out.ret (Below.refl _ _) hTn.out
      have d1 : decide (bound ≤ p) = false := decide_eq_false hpb
      have g4 := (zbc HI.out.hg 4).trans (rfl : _ = some (Value.slice A4 parts.length c4))
      obtain ⟨ad3, A5, c5, hA3, hx0, hx1, hx2, hl5, HR5⟩ := at_T119 HR4.out p (by omega) (by omega)
      cases hA3
      replace hx0 := (HI.out.hB.cell (World.block_lt_of_cell? _ _ hx0)).trans hx0
      replace hx1 := (HI.out.hB.cell (World.block_lt_of_cell? _ _ hx1)).trans hx1
      replace hx2 := (HI.out.hB.cell (World.block_lt_of_cell? _ _ hx2)).trans hx2
      replace HR5 := Zz.mk HR5
      replace hl5 := Zz.mk hl5
      have q0 : 0 ≤ p := by omega
      have q1 : p < parts.length := by omega
      go_upto_block 4 with (fail)
      have wbel : ∀ n, Below wr.heap.size wr ((wr.alloc (.cells #[.int .i64 (rd_T119 parts p).f0, .string (rd_T119 parts p).f1, .slice A5 (rd_T119 parts p).f2.length c5] 119)).drewN n) := fun n => zbn (below_self_alloc wr _) n
      replace wbel := Zz.mk wbel
      go_cut [] (fun wc => ∃ m3 : Int, Zz (OInv w0 w nb (.cells #[.string nm, v1, v2, v3, .slice (some ad3) parts.length c4] 36 (0, 0)) m3 wc) ∧ Zz (((finI p m3).bind (itemsG (altsF parts F) parts bound ((rd_L6 alts i).drop (j + 1)))).bind (altsG (altsF parts F) parts bound (alts.drop (i + 1))) = T))
      case first =>
       replace wbel := wbel.out
       by_cases k1 : (rd_T119 parts p).f0 = 1
       ·have e1 : ((rd_T119 parts p).f0 == 1) = true := by simp [k1]
        replace k1 := Zz.mk k1
        by_cases hb : plainB (rd_T119 parts p).f1 = true
        ·by_cases hz : (rd_T119 parts p).f2.length = 0
         ·have z0 : decide (0 < (rd_T119 parts p).f2.length) = false := decide_eq_false (by omega)
          have hTf : Zz (((finI p m2).bind (itemsG (altsF parts F) parts bound ((rd_L6 alts i).drop (j + 1)))).bind (altsG (altsF parts F) parts bound (alts.drop (i + 1))) = T) := ⟨by rw [← hTp.out]; simp [itemG, hp0, hpb, k1.out, hb, hz]⟩
          replace hz := Zz.mk hz
          go_wp2_with (go_at_call 62; refine (plain_any _ _).mono ?_; rintro e w' ⟨rfl, hd⟩; obtain ⟨⟨nd, rfl⟩⟩ := hd)
          go_meet
          case rel => exact ⟨m2, ⟨HI.out.below (wbel _)⟩, hTf⟩
         ·have z0 : decide (0 < (rd_T119 parts p).f2.length) = true := decide_eq_true (by omega)
          have hTn : Zz (T = none) := ⟨by rw [← hTp.out]; simp [itemG, hp0, hpb, k1.out, hb, hz]⟩
          clear hz
          go_wp2_with (go_at_call 62; refine (plain_any _ _).mono ?_; rintro e w' ⟨rfl, hd⟩; obtain ⟨⟨nd, rfl⟩⟩ := hd)
          go_ret
          exact HI.out.ret (wbel _) hTn.out
        ·have hTn : Zz (T = none) := ⟨by rw [← hTp.out]; simp [itemG, hp0, hpb, k1.out, hb]⟩
         replace hb : plainB (rd_T119 parts p).f1 = false := by simpa using hb
         go_wp2_with (go_at_call 62; refine (plain_any _ _).mono ?_; rintro e w' ⟨rfl, hd⟩; obtain ⟨⟨nd, rfl⟩⟩ := hd)
         go_ret
         exact HI.out.ret (wbel _) hTn.out
       have e1 : ((rd_T119 parts p).f0 == 1) = false := by simp [k1]
       by_cases k2 : (rd_T119 parts p).f0 = 2
       ·have e2 : ((rd_T119 parts p).f0 == 2) = true := by simp [k2]
        replace k2 := Zz.mk k2
        by_cases hb : litB (rd_T119 parts p).f1 = true
        ·by_cases hz : (rd_T119 parts p).f2.length = 0
         ·have z0 : decide (0 < (rd_T119 parts p).f2.length) = false := decide_eq_false (by omega)
          have hTf : Zz (((finI p m2).bind (itemsG (altsF parts F) parts bound ((rd_L6 alts i).drop (j + 1)))).bind (altsG (altsF parts F) parts bound (alts.drop (i + 1))) = T) := ⟨by rw [← hTp.out]; simp [itemG, hp0, hpb, k1, k2.out, hb, hz]⟩
          replace hz := Zz.mk hz
          go_wp2_with (go_at_call 64; refine (lit_any _ _).mono ?_; rintro e w' ⟨rfl, hd⟩; obtain ⟨⟨nd, rfl⟩⟩ := hd)
          go_meet
          case rel => exact ⟨m2, ⟨HI.out.below (wbel _)⟩, hTf⟩
         ·have z0 : decide (0 < (rd_T119 parts p).f2.length) = true := decide_eq_true (by omega)
          have hTn : Zz (T = none) := ⟨by rw [← hTp.out]; simp [itemG, hp0, hpb, k1, k2.out, hb, hz]⟩
          clear hz
          go_wp2_with (go_at_call 64; refine (lit_any _ _).mono ?_; rintro e w' ⟨rfl, hd⟩; obtain ⟨⟨nd, rfl⟩⟩ := hd)
          go_ret
          exact HI.out.ret (wbel _) hTn.out
        ·have hTn : Zz (T = none) := ⟨by rw [← hTp.out]; simp [itemG, hp0, hpb, k1, k2.out, hb]⟩
         replace hb : litB (rd_T119 parts p).f1 = false := by simpa using hb
         go_wp2_with (go_at_call 64; refine (lit_any _ _).mono ?_; rintro e w' ⟨rfl, hd⟩; obtain ⟨⟨nd, rfl⟩⟩ := hd)
         go_ret
         exact HI.out.ret (wbel _) hTn.out
       have e2 : ((rd_T119 parts p).f0 == 2) = false := by simp [k2]
       by_cases k3 : (rd_T119 parts p).f0 = 3 ∨ (rd_T119 parts p).f0 = 4 ∨ (rd_T119 parts p).f0 = 5
       ·have k3' := Zz.mk k3
        have hgo : Zz (itemG (altsF parts F) parts bound p m2 = (if (rd_T119 parts p).f1.size = 0 then (if (rd_T119 parts p).f2.length = 0 then none else (altsF parts F p (rd_T119 parts p).f2 m2).bind (finI p)) else none)) := ⟨by simp [itemG, hp0, hpb, k1, k2, k3]⟩
        have q2 : p < bound := by omega
        clear hp0 hpb
        go_upto_if 64 with (fail)
        go_cut [64] (fun v64 wc => v64 = .bool true ∧ wc = wr.alloc (.cells #[.int .i64 (rd_T119 parts p).f0, .string (rd_T119 parts p).f1, .slice A5 (rd_T119 parts p).f2.length c5] 119))
        case first =>
         rcases k3 with k3 | k3 | k3
         ·have e3 : ((rd_T119 parts p).f0 == 3) = true := by simp [k3]
          replace k3 := Zz.mk k3
          go_wp2
          go_meet
          case rel => exact ⟨by first | rfl | exact congrArg Value.bool e3, rfl⟩
         ·have e3 : ((rd_T119 parts p).f0 == 3) = false := by simp [k3]
          have e4 : ((rd_T119 parts p).f0 == 4) = true := by simp [k3]
          replace k3 := Zz.mk k3
          go_wp2
          go_meet
          case rel => exact ⟨by first | rfl | exact congrArg Value.bool e4, rfl⟩
         ·have e3 : ((rd_T119 parts p).f0 == 3) = false := by simp [k3]
          have e4 : ((rd_T119 parts p).f0 == 4) = false := by simp [k3]
          have e5 : ((rd_T119 parts p).f0 == 5) = true := by simp [k3]
          replace k3 := Zz.mk k3
          go_wp2
          go_meet
          case rel => exact ⟨by first | rfl | exact congrArg Value.bool e5, rfl⟩
        case rest =>
         obtain ⟨rfl, rfl⟩ := hcut
         have wb0 := Zz.mk (below_self_alloc wr (.cells #[.int .i64 (rd_T119 parts p).f0, .string (rd_T119 parts p).f1, .slice A5 (rd_T119 parts p).f2.length c5] 119))
         have g0 := (zbc (HI.out.below wb0.out).hg 0).trans (rfl : _ = some (Value.string nm))
         have g1 := (zbc (HI.out.below wb0.out).hg 1).trans (rfl : _ = some v1)
         have g2 := (zbc (HI.out.below wb0.out).hg 2).trans (rfl : _ = some v2)
         have g3 := (zbc (HI.out.below wb0.out).hg 3).trans (rfl : _ = some v3)
         have g4' := (zbc (HI.out.below wb0.out).hg 4).trans (rfl : _ = some (Value.slice (some ad3) parts.length c4))
         clear e1 e2 g4
         by_cases hs : (rd_T119 parts p).f1.size = 0
         ·have z1 := toList_nil hs
          by_cases hz : (rd_T119 parts p).f2.length = 0
          ·have z0 : decide (((rd_T119 parts p).f2.length : Int) < 1) = true := decide_eq_true (by omega)
           have hTn : Zz (T = none) := ⟨by rw [← hTp.out, hgo.out]; simp [hs, hz]⟩
           clear hz hs
           go_wp2
           go_ret
           exact HI.out.ret (below_self_alloc wr _) hTn.out
          ·have z0 : decide (((rd_T119 parts p).f2.length : Int) < 1) = false := decide_eq_false (by omega)
           have hTr : Zz ((((altsF parts F p (rd_T119 parts p).f2 m2).bind (finI p)).bind (itemsG (altsF parts F) parts bound ((rd_L6 alts i).drop (j + 1)))).bind (altsG (altsF parts F) parts bound (alts.drop (i + 1))) = T) := ⟨by rw [← hTp.out, hgo.out]; simp [hs, hz]⟩
           have C := ih.out nm v1 v2 v3 (some ad3) c4 parts A5 c5 (rd_T119 parts p).f2 nb m2 p w0 _ HR4.out HC4 (AltsAt.of_C HR5.out) hl5.out (HI.out.below wb0.out).hB hnb (HI.out.below wb0.out).hn (by omega) (by omega) (by omega)
           clear hz hs
           generalize altsF parts F p (rd_T119 parts p).f2 m2 = R at C hTr
           replace C := Zz.mk C
           cases R with
           | none =>
            have hTn : Zz (T = none) := ⟨by rw [← hTr.out]; rfl⟩
            go_wp2_with (go_at_call 65; refine C.out.mono ?_; rintro e w2 ⟨⟨m3, rfl, hn3, hr3⟩, hB3, hK3⟩; replace hn3 := Zz.mk hn3; replace hr3 := Zz.mk hr3)
            go_ret
            exact ((HI.out.below wb0.out).call hnl hn3.out hB3 hK3).ret (Below.refl _ _) hTn.out
           | some m4 =>
            go_wp2_with (go_at_call 65; refine C.out.mono ?_; rintro e w2 ⟨⟨m3, rfl, hn3, hr3⟩, hB3, hK3⟩; replace hn3 := Zz.mk hn3; replace hr3 := Zz.mk hr3)
            go_meet
            case rel => exact ⟨m4, ⟨by have := hr3.out _ rfl; subst this; exact (HI.out.below wb0.out).call hnl hn3.out hB3 hK3⟩, ⟨by rw [← hTr.out]; rfl⟩⟩
         ·have z1 := (toList_cons hs).1
          have z2 := (toList_cons hs).2
          have hTn : Zz (T = none) := ⟨by rw [← hTp.out, hgo.out]; simp [hs]⟩
          clear hs
          go_wp2
          go_ret
          exact HI.out.ret (below_self_alloc wr _) hTn.out
       ·have e3 : ((rd_T119 parts p).f0 == 3) = false := by simp; omega
        have e4 : ((rd_T119 parts p).f0 == 4) = false := by simp; omega
        have e5 : ((rd_T119 parts p).f0 == 5) = false := by simp; omega
        have hTn : Zz (T = none) := ⟨by rw [← hTp.out]; simp [itemG, hp0, hpb, k1, k2, k3]⟩
        replace k3 := Zz.mk k3
        go_wp2
        go_ret
        exact HI.out.ret (below_self_alloc wr _) hTn.out
      case rest =>
       clear wbel hTp hx0 hx1 hx2
       obtain ⟨m3, HI3, hT3⟩ := hcut
       have n3 := zbc HI3.out.hn 0
       have f3 := zbf HI3.out.hn 0
       replace n3 : wc.cell? ⟨nb, 0, none⟩ = some (.int .i64 m3) := n3
       by_cases hpm : p = m3
       ·have e3 : (p != m3) = false := by simp [hpm]
        have hm0 : 0 ≤ m3 := by omega
        have hm1 : m3 ≤ 9223372036854775806 := by have := HR4.out.2.1; omega
        replace hpm := Zz.mk hpm
        clear HI q0 q1 hp0 hpb
        go_wp2
        go_roundg ((rd_L6 alts i).length - (j + 1))
        case measure => omega
        case rel => exact ⟨j + 1, m3 + 1, by go_num, rfl, by omega, ⟨HI3.out.set hnb hnl _⟩, ⟨by have := hT3.out; rw [finI, if_pos hpm.out] at this; exact this⟩⟩
       ·have e3 : (p != m3) = true := by simp [hpm]
        have hTn : Zz (T = none) := ⟨by have := hT3.out; rw [finI, if_neg hpm] at this; exact this.symm⟩
        clear HI q0 q1 hp0 hpb
        replace hpm := Zz.mk hpm
        go_wp2
        go_ret
        exact HI3.out.ret (Below.refl _ _) hTn.out
     ·have hj2 : j = (rd_L6 alts i).length := by omega
      have b1 : decide (j < (rd_L6 alts i).length) = false := decide_eq_false (by omega)
      have hT4 : Zz (altsG (altsF parts F) parts bound (alts.drop (i + 1)) m2 = T) := ⟨by have := HT2.out; rw [hj2, List.drop_length] at this; exact this⟩
      clear hj2 HT2
      go_wp2
      go_roundg (alts.length - (i + 1))
      case measure => omega
      case rel => exact ⟨i + 1, m2, by go_num, rfl, by omega, HI, hT4⟩
   ·have hi2 : i = alts.length := by omega
    have b1 : decide (i < alts.length) = false := decide_eq_false (by omega)
    have hT4 : Zz (T = some m) := ⟨by have := HTs.out; rw [hi2, List.drop_length] at this; exact this.symm⟩
    clear hi2 HTs
    go_wp2
    go_ret
    refine ⟨⟨m, by rw [hT4.out]; rfl, HI.out.hn, fun r hr => by rw [hT4.out] at hr; exact (Option.some.inj hr).symm⟩, HI.out.hB, HI.out.hK⟩
end Go.Proofs.Ythcmamcbnjphgaa.PFnExactGrammarShow
