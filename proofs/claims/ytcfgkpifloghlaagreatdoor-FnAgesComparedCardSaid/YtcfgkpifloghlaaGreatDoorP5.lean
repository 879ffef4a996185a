-- Written by drive.py (wip/ of this repository) over the kit's print: functions, contracts, rows. Lean checks it. -- SQUEEZED
import Derived.Test.YtcfgkpifloghlaaGreatDoorP0
import Derived.Test.YtcfgkpifloghlaaGreatDoorP2
import Derived.Test.YtcfgkpifloghlaaGreatDoorP3
namespace Go.Proofs.YtcfgkpifloghlaaGreatDoor.P
open Go.RowKit Go.Proofs.YtcfgkpifloghlaaGreatDoorW.PrintWords Go.Proofs.YtcfgkpifloghlaaGreatDoorW.PrintLast Go.Proofs.YtcfgkpifloghlaaGreatDoorW.PrintMore
attribute [local go_sem] max2_int min2_int max_two min_two max_three min_three max_four min_four undef_guard   -- for this text's walks alone
set_option linter.unusedVariables false
set_option linter.unusedSimpArgs false

/-! ### spec_agLow: function 51 -/
def spec_agLow.l0 : Nat → Int → Int → Int → Int → Option (Int × Int)
 | 0, _, _, _, _ => none
 | k + 1, x0, x1, x6, x7 => if x7 > 0 then (if x7 = 0 then (none) else (spec_agLow.l0 k x0 x1 x7 (Int.tmod x6 x7))) else (if x6 = 0 then (none) else (some (wrap64 (Int.tdiv x0 x6), wrap64 (Int.tdiv x1 x6))))
def spec_agLow.f (k : Nat) (a0 : Int) (a1 : Int) : Option (Int × Int) := spec_agLow.l0 k a0 a1 a0 a1
theorem spec_agLow.mono_l : ∀ k, (∀ y0 y1 y2 y3, LeO (spec_agLow.l0 k y0 y1 y2 y3) (spec_agLow.l0 (k + 1) y0 y1 y2 y3))
 | 0 => fun _ _ _ _ r h => by simp [spec_agLow.l0] at h
 | k + 1 => by
  have ih0 := spec_agLow.mono_l k
  ·
   intro y0 y1 y2 y3
   unfold spec_agLow.l0
   repeat' first
   | (with_reducible exact ih0 _ _ _ _)
   | (with_reducible exact LeO.refl _)
   | (with_reducible exact LeO.none _)
   | (with_reducible refine LeO.ite ?_ ?_)
   | (with_reducible refine LeO.bind ?_ (fun _ => ?_))
theorem spec_agLow.mono : ∀ a0 a1 k, LeO (spec_agLow.f k a0 a1) (spec_agLow.f (k + 1) a0 a1) := by
 intro a0 a1 k
 have ih0 := spec_agLow.mono_l k
 unfold spec_agLow.f
 repeat' first
   | (with_reducible exact ih0 _ _ _ _)
   | (with_reducible exact LeO.refl _)
   | (with_reducible exact LeO.none _)
   | (with_reducible refine LeO.ite ?_ ?_)
   | (with_reducible refine LeO.bind ?_ (fun _ => ?_))
set_option maxHeartbeats 8000000 in
set_option maxRecDepth 100000 in
theorem spec_agLow.calls (k : Nat) (a0 : Int) (a1 : Int) (r1 : Int) (r2 : Int) (w : World) (h : spec_agLow.f k a0 a1 = some (r1, r2)) :
  Calls Tryz.prog 51 #[.int .i64 a0, .int .i64 a1] w fun e w' => e = .returned (.tuple #[.int .i64 r1, .int .i64 r2]) ∧ Drawn0 w w' := by
 have H : (spec_agLow.l0 k a0 a1 a0 a1) = some (r1, r2) := h
 clear h
 have H' := aM H
 clear H
 go_enter Tryz.func51, Tryz.ntmps51
 go_wp2
 repeat (go_quiet (fail); try go_wp2)
 go_loopg [6, 7] k (fun kq v6 v7 w' => ∃ (x6_1 : Int) (x7_1 : Int), v6 = .int .i64 x6_1 ∧ v7 = .int .i64 x7_1 ∧ Aside0 (spec_agLow.l0 kq a0 a1 x6_1 x7_1 = some (r1, r2)) ∧ Aside0 (kq ≤ k) ∧ Drawn0 w w')
 case atStart => exact ⟨(a0), (a1), eqQ, eqQ, H', ⟨Nat.le_refl _⟩, dQ⟩
 case round =>
  clear H'
  try clear p2
  obtain ⟨x6_1, x7_1, rfl, rfl, HA, HK1, ⟨m1, rfl⟩⟩ := hrel
  cases gk with
  | zero => exact absurd HA.out (by simp [spec_agLow.l0])
  | succ k1 =>
   have H := HA.out
   clear HA
   simp only [spec_agLow.l0] at H
   by_cases c3 : x7_1 > 0
   ·
    rw [if_pos c3] at H
    have c3b0 : decide (0 < x7_1) = true := decide_eq_true c3
    clear c3
    by_cases c4 : x7_1 = 0
    case pos =>
     rw [if_pos c4] at H
     exact nS H
    rw [if_neg c4] at H
    have c4b0 : (x7_1 == 0) = false := beq_eq_false_iff_ne.mpr c4
    have c4b1 : (x7_1 != 0) = true := bne_iff_ne.mpr c4
    have H' := aM H
    clear H
    go_wp2
    repeat (go_quiet (fail); try go_wp2)
    go_roundg k1
    case measure => have := HK1.out; omega
    case rel => exact ⟨(x7_1), (Int.tmod x6_1 x7_1), eqQ, eqQ, H', ⟨by have := HK1.out; omega⟩, dQ⟩
   ·
    rw [if_neg c3] at H
    have c3b0 : decide (0 < x7_1) = false := decide_eq_false c3
    clear c3
    by_cases c5 : x6_1 = 0
    case pos =>
     rw [if_pos c5] at H
     exact nS H
    rw [if_neg c5] at H
    have c5b0 : (x6_1 == 0) = false := beq_eq_false_iff_ne.mpr c5
    have c5b1 : (x6_1 != 0) = true := bne_iff_ne.mpr c5
    simp only [Option.some.injEq, Prod.mk.injEq] at H
    obtain ⟨rfl, rfl⟩ := H
    go_wp2
    repeat (go_quiet (fail); try go_wp2)
    go_ret2
    exact ⟨by first | rfl | (simp; done) | (simp [*]; done), dQ⟩

/-! ### spec_TimesOlder: function 9 -/
def spec_TimesOlder.f (k : Nat) (l0 : List Int) (a1 : Int) (a2 : Int) : Option (Int × Int × Bool) := (spec_agWho.f k l0 a1).bind fun t222 => (if t222 = true then ((spec_agWho.f k l0 a2).bind fun t223 => (if t223 = true then (if 0 ≤ a2 then (if a2 < (l0.length : Int) then (if (rd l0 a2) = 0 then (some (0, 0, false)) else (if 0 ≤ a1 then (if a1 < (l0.length : Int) then ((spec_agLow.f k (rd l0 a1) (rd l0 a2)).bind fun bt227 => (some (bt227.1, bt227.2, true))) else (none)) else (none))) else (none)) else (none)) else (some (0, 0, false)))) else (some (0, 0, false)))
theorem spec_TimesOlder.mono : ∀ a0 a1 a2 k, LeO (spec_TimesOlder.f k a0 a1 a2) (spec_TimesOlder.f (k + 1) a0 a1 a2) := by
 intro a0 a1 a2 k
 unfold spec_TimesOlder.f
 repeat' first
   | (with_reducible exact spec_agLow.mono _ _ _)
   | (with_reducible exact spec_agWho.mono _ _ _)
   | (with_reducible exact LeO.refl _)
   | (with_reducible exact LeO.none _)
   | (with_reducible refine LeO.ite ?_ ?_)
   | (with_reducible refine LeO.bind ?_ (fun _ => ?_))
set_option maxHeartbeats 8000000 in
set_option maxRecDepth 100000 in
theorem spec_TimesOlder.calls (k : Nat) (A0 : Option Addr) (c0 : Nat) (l0 : List Int) (a1 : Int) (a2 : Int) (r1 : Int) (r2 : Int) (r3 : Bool) (w : World) (hr0 : Kd.C (Kd.int .i64) w A0 l0.length l0) (hc0 : l0.length ≤ c0) (h : spec_TimesOlder.f k l0 a1 a2 = some (r1, r2, r3)) :
  Calls Tryz.prog 9 #[.slice A0 l0.length c0, .int .i64 a1, .int .i64 a2] w fun e w' => e = .returned (.tuple #[.int .i64 r1, .int .i64 r2, .bool r3]) ∧ Drawn0 w w' := by
 have HR0 := aM hr0
 have HC0 := aM hc0
 clear hr0 hc0
 have H : ((spec_agWho.f k l0 a1).bind fun t222 => (if t222 = true then ((spec_agWho.f k l0 a2).bind fun t223 => (if t223 = true then (if 0 ≤ a2 then (if a2 < (l0.length : Int) then (if (rd l0 a2) = 0 then (some (0, 0, false)) else (if 0 ≤ a1 then (if a1 < (l0.length : Int) then ((spec_agLow.f k (rd l0 a1) (rd l0 a2)).bind fun bt227 => (some (bt227.1, bt227.2, true))) else (none)) else (none))) else (none)) else (none)) else (some (0, 0, false)))) else (some (0, 0, false)))) = some (r1, r2, r3) := h
 clear h
 replace H := oB H
 obtain ⟨t222, A40, H⟩ := H
 (try dsimp only at H)
 have A4 := aM A40
 clear A40
 by_cases c5 : t222 = true
 ·
  subst c5
  replace H := (if_pos rfl).symm.trans H
  replace H := oB H
  obtain ⟨t223, A60, H⟩ := H
  (try dsimp only at H)
  have A6 := aM A60
  clear A60
  by_cases c7 : t223 = true
  ·
   subst c7
   replace H := (if_pos rfl).symm.trans H
   by_cases c8 : 0 ≤ a2
   case neg =>
    rw [if_neg c8] at H
    exact nS H
   rw [if_pos c8] at H
   have c8b0 : decide (0 ≤ a2) = true := decide_eq_true c8
   clear c8
   by_cases c9 : a2 < (l0.length : Int)
   case neg =>
    rw [if_neg c9] at H
    exact nS H
   rw [if_pos c9] at H
   have c9b0 : decide (a2 < (l0.length : Int)) = true := decide_eq_true c9
   clear c9
   by_cases c10 : (rd l0 a2) = 0
   ·
    rw [if_pos c10] at H
    have c10b0 : ((rd l0 a2) == 0) = true := beq_iff_eq.mpr c10
    have c10b1 : ((rd l0 a2) != 0) = false := bne_eq_false_iff_eq.mpr c10
    clear c10
    simp only [Option.some.injEq, Prod.mk.injEq] at H
    obtain ⟨rfl, rfl, rfl⟩ := H
    go_enter Tryz.func9, Tryz.ntmps9
    go_wp2_with (first | (go_at_call 50; (with_reducible refine (spec_agWho.calls k _ _ l0 a1 true _ ?side1 ?side2 A4.out).mono ?_); (case side1 => exact cQ HR0.out); (case side2 => exact HC0.out); rintro e w' ⟨rfl, ⟨nd, rfl⟩⟩; (try first | exact q1 | exact q2)) | (go_at_call 50; (with_reducible refine (spec_agWho.calls k _ _ l0 a2 true _ ?side1 ?side2 A6.out).mono ?_); (case side1 => exact cQ HR0.out); (case side2 => exact HC0.out); rintro e w' ⟨rfl, ⟨nd, rfl⟩⟩; (try first | exact q1 | exact q2); have p224 : 0 ≤ (a2 : Int) := dA; have q224 : a2 < (l0.length : Int) := dA; obtain ⟨ad224, e224, hx224_0⟩ := Kd.at_int HR0.out a2 p224 q224; cases e224; replace p224 := eq_true p224; replace q224 := eq_true q224))
    repeat (go_quiet (fail); try go_wp2)
    go_ret3
    exact ⟨by first | rfl | (simp; done) | (simp [*]; done), dQ⟩
   ·
    rw [if_neg c10] at H
    have c10b0 : ((rd l0 a2) == 0) = false := beq_eq_false_iff_ne.mpr c10
    have c10b1 : ((rd l0 a2) != 0) = true := bne_iff_ne.mpr c10
    by_cases c11 : 0 ≤ a1
    case neg =>
     rw [if_neg c11] at H
     exact nS H
    rw [if_pos c11] at H
    have c11b0 : decide (0 ≤ a1) = true := decide_eq_true c11
    clear c11
    by_cases c12 : a1 < (l0.length : Int)
    case neg =>
     rw [if_neg c12] at H
     exact nS H
    rw [if_pos c12] at H
    have c12b0 : decide (a1 < (l0.length : Int)) = true := decide_eq_true c12
    clear c12
    replace H := oB H
    obtain ⟨⟨t227, t228⟩, A130, H⟩ := H
    (try dsimp only at H)
    have A13 := aM A130
    clear A130
    simp only [Option.some.injEq, Prod.mk.injEq] at H
    obtain ⟨rfl, rfl, rfl⟩ := H
    go_enter Tryz.func9, Tryz.ntmps9
    go_wp2_with (first | (go_at_call 50; (with_reducible refine (spec_agWho.calls k _ _ l0 a1 true _ ?side1 ?side2 A4.out).mono ?_); (case side1 => exact cQ HR0.out); (case side2 => exact HC0.out); rintro e w' ⟨rfl, ⟨nd, rfl⟩⟩; (try first | exact q1 | exact q2)) | (go_at_call 50; (with_reducible refine (spec_agWho.calls k _ _ l0 a2 true _ ?side1 ?side2 A6.out).mono ?_); (case side1 => exact cQ HR0.out); (case side2 => exact HC0.out); rintro e w' ⟨rfl, ⟨nd, rfl⟩⟩; (try first | exact q1 | exact q2); have p224 : 0 ≤ (a2 : Int) := dA; have q224 : a2 < (l0.length : Int) := dA; obtain ⟨ad224, e224, hx224_0⟩ := Kd.at_int HR0.out a2 p224 q224; cases e224; replace p224 := eq_true p224; replace q224 := eq_true q224; have p225 : 0 ≤ (a1 : Int) := dA; have q225 : a1 < (l0.length : Int) := dA; obtain ⟨ad225, e225, hx225_0⟩ := Kd.at_int HR0.out a1 p225 q225; obtain rfl : ad224 = ad225 := (by injection e225); replace p225 := eq_true p225; replace q225 := eq_true q225; have p226 : 0 ≤ (a2 : Int) := dA; have q226 : a2 < (l0.length : Int) := dA; obtain ⟨ad226, e226, hx226_0⟩ := Kd.at_int HR0.out a2 p226 q226; obtain rfl : ad224 = ad226 := (by injection e226); replace p226 := eq_true p226; replace q226 := eq_true q226) | (go_at_call 51; (with_reducible refine (spec_agLow.calls k (rd l0 a1) (rd l0 a2) t227 t228 _ A13.out).mono ?_); rintro e w' ⟨rfl, ⟨nd, rfl⟩⟩; (try first | exact q1 | exact q2)))
    repeat (go_quiet (first | (go_at_call 50; (with_reducible refine (spec_agWho.calls k _ _ l0 a1 true _ ?side1 ?side2 A4.out).mono ?_); (case side1 => exact cQ HR0.out); (case side2 => exact HC0.out); rintro e w' ⟨rfl, ⟨nd, rfl⟩⟩; (try first | exact q1 | exact q2)) | (go_at_call 50; (with_reducible refine (spec_agWho.calls k _ _ l0 a2 true _ ?side1 ?side2 A6.out).mono ?_); (case side1 => exact cQ HR0.out); (case side2 => exact HC0.out); rintro e w' ⟨rfl, ⟨nd, rfl⟩⟩; (try first | exact q1 | exact q2); have p224 : 0 ≤ (a2 : Int) := dA; have q224 : a2 < (l0.length : Int) := dA; obtain ⟨ad224, e224, hx224_0⟩ := Kd.at_int HR0.out a2 p224 q224; cases e224; replace p224 := eq_true p224; replace q224 := eq_true q224; have p225 : 0 ≤ (a1 : Int) := dA; have q225 : a1 < (l0.length : Int) := dA; obtain ⟨ad225, e225, hx225_0⟩ := Kd.at_int HR0.out a1 p225 q225; obtain rfl : ad224 = ad225 := (by injection e225); replace p225 := eq_true p225; replace q225 := eq_true q225; have p226 : 0 ≤ (a2 : Int) := dA; have q226 : a2 < (l0.length : Int) := dA; obtain ⟨ad226, e226, hx226_0⟩ := Kd.at_int HR0.out a2 p226 q226; obtain rfl : ad224 = ad226 := (by injection e226); replace p226 := eq_true p226; replace q226 := eq_true q226) | (go_at_call 51; (with_reducible refine (spec_agLow.calls k (rd l0 a1) (rd l0 a2) t227 t228 _ A13.out).mono ?_); rintro e w' ⟨rfl, ⟨nd, rfl⟩⟩; (try first | exact q1 | exact q2))); try go_wp2_with (first | (go_at_call 50; (with_reducible refine (spec_agWho.calls k _ _ l0 a1 true _ ?side1 ?side2 A4.out).mono ?_); (case side1 => exact cQ HR0.out); (case side2 => exact HC0.out); rintro e w' ⟨rfl, ⟨nd, rfl⟩⟩; (try first | exact q1 | exact q2)) | (go_at_call 50; (with_reducible refine (spec_agWho.calls k _ _ l0 a2 true _ ?side1 ?side2 A6.out).mono ?_); (case side1 => exact cQ HR0.out); (case side2 => exact HC0.out); rintro e w' ⟨rfl, ⟨nd, rfl⟩⟩; (try first | exact q1 | exact q2); have p224 : 0 ≤ (a2 : Int) := dA; have q224 : a2 < (l0.length : Int) := dA; obtain ⟨ad224, e224, hx224_0⟩ := Kd.at_int HR0.out a2 p224 q224; cases e224; replace p224 := eq_true p224; replace q224 := eq_true q224; have p225 : 0 ≤ (a1 : Int) := dA; have q225 : a1 < (l0.length : Int) := dA; obtain ⟨ad225, e225, hx225_0⟩ := Kd.at_int HR0.out a1 p225 q225; obtain rfl : ad224 = ad225 := (by injection e225); replace p225 := eq_true p225; replace q225 := eq_true q225; have p226 : 0 ≤ (a2 : Int) := dA; have q226 : a2 < (l0.length : Int) := dA; obtain ⟨ad226, e226, hx226_0⟩ := Kd.at_int HR0.out a2 p226 q226; obtain rfl : ad224 = ad226 := (by injection e226); replace p226 := eq_true p226; replace q226 := eq_true q226) | (go_at_call 51; (with_reducible refine (spec_agLow.calls k (rd l0 a1) (rd l0 a2) t227 t228 _ A13.out).mono ?_); rintro e w' ⟨rfl, ⟨nd, rfl⟩⟩; (try first | exact q1 | exact q2))))
    go_ret3
    exact ⟨by first | rfl | (simp; done) | (simp [*]; done), dQ⟩
  ·
   replace c7 := Bool.eq_false_iff.mpr c7
   subst c7
   have H1 : (some (0, 0, false)) = some (r1, r2, r3) := by rw [if_neg (show ¬ (false = true) by decide)] at H; exact H
   clear H
   have H := H1
   clear H1
   simp only [Option.some.injEq, Prod.mk.injEq] at H
   obtain ⟨rfl, rfl, rfl⟩ := H
   go_enter Tryz.func9, Tryz.ntmps9
   go_wp2_with (first | (go_at_call 50; (with_reducible refine (spec_agWho.calls k _ _ l0 a1 true _ ?side1 ?side2 A4.out).mono ?_); (case side1 => exact cQ HR0.out); (case side2 => exact HC0.out); rintro e w' ⟨rfl, ⟨nd, rfl⟩⟩; (try first | exact q1 | exact q2)) | (go_at_call 50; (with_reducible refine (spec_agWho.calls k _ _ l0 a2 false _ ?side1 ?side2 A6.out).mono ?_); (case side1 => exact cQ HR0.out); (case side2 => exact HC0.out); rintro e w' ⟨rfl, ⟨nd, rfl⟩⟩; (try first | exact q1 | exact q2)))
   repeat (go_quiet (fail); try go_wp2)
   go_ret3
   exact ⟨by first | rfl | (simp; done) | (simp [*]; done), dQ⟩
 ·
  replace c5 := Bool.eq_false_iff.mpr c5
  subst c5
  have H1 : (some (0, 0, false)) = some (r1, r2, r3) := by rw [if_neg (show ¬ (false = true) by decide)] at H; exact H
  clear H
  have H := H1
  clear H1
  simp only [Option.some.injEq, Prod.mk.injEq] at H
  obtain ⟨rfl, rfl, rfl⟩ := H
  go_enter Tryz.func9, Tryz.ntmps9
  go_wp2_with (first | (go_at_call 50; (with_reducible refine (spec_agWho.calls k _ _ l0 a1 false _ ?side1 ?side2 A4.out).mono ?_); (case side1 => exact cQ HR0.out); (case side2 => exact HC0.out); rintro e w' ⟨rfl, ⟨nd, rfl⟩⟩; (try first | exact q1 | exact q2)))
  repeat (go_quiet (fail); try go_wp2)
  go_ret3
  exact ⟨by first | rfl | (simp; done) | (simp [*]; done), dQ⟩

/-! ### slices_insertionSortCmpFunc_int: function 109 -/
/-- What is asked of a function value that compares two numbers (it may have no answer at some: none is asked there). -/
def PredC (P : Program) (g : Nat) (lb : Array Value) (c : Int → Int → Option Int) (w : World) : Prop :=
 ∀ (W : World) (x y r : Int), Below w.heap.size w W → c x y = some r → Calls P g (#[.int .i64 x, .int .i64 y] ++ lb) W fun e w' => e = .returned (.int .i64 r) ∧ Drawn0 W w'
def swapL (d : List Int) (j : Nat) : List Int := (d.set (j + 1) (rd d (j : Int))).set j (rd d ((j + 1 : Nat) : Int))
theorem swapL_length (d : List Int) (j : Nat) : (swapL d j).length = d.length := by simp [swapL]
def insIn (c : Int → Int → Option Int) : Nat → List Int → Option (List Int)
 | 0, d => some d
 | j + 1, d => (c (rd d ((j + 1 : Nat) : Int)) (rd d (j : Int))).bind fun r => if r < 0 then insIn c j (swapL d j) else some d
def insOut (c : Int → Int → Option Int) : Nat → Nat → List Int → Option (List Int)
 | 0, _, d => some d
 | n + 1, i, d => (insIn c i d).bind fun d' => insOut c n (i + 1) d'
theorem insIn_length (c : Int → Int → Option Int) : ∀ (j : Nat) (d d' : List Int), insIn c j d = some d' → d'.length = d.length
 | 0, d, d', h => by rw [Option.some.inj (show some d = some d' from h)]
 | j + 1, d, d', h => by
  obtain ⟨r, _, h2⟩ := Option.bind_eq_some_iff.mp h
  by_cases hr : r < 0
  case pos =>
   rw [if_pos hr] at h2; rw [insIn_length c j _ d' h2, swapL_length]
  rw [if_neg hr] at h2; rw [Option.some.inj h2]
set_option maxHeartbeats 8000000 in
set_option maxRecDepth 100000 in
theorem insertionSort.calls (c : Int → Int → Option Int) (g : Nat) (lb : Array Value) (eg : ∀ args w, (callFunc g args).run Tryz.prog w = .ok (.enter g args) w) (P0_ : Nat → Prop) (u : Value) (l0 r : List Int) (w0 w : World)
  (hcmp : PredC Tryz.prog g lb c w0) (hB : Below w0.heap.size w0 w) (ho0 : Kd.R (Kd.int .i64) 3 w w0.heap.size P0_ u l0) (hlen : l0.length ≤ 1000) (h : insOut c (l0.length - 1) 1 l0 = some r) :
  Calls Tryz.prog 109 #[u, .int .i64 0, .int .i64 (l0.length : Int), .func (.func g) #[] lb] w fun e w' => e = .returned (.tuple #[]) ∧ Kd.R (Kd.int .i64) 3 w' w0.heap.size P0_ u r ∧ Below w0.heap.size w0 w' := by
 have HCM := aM (show ∀ (W : World) (x y r : Int), Below w0.heap.size w0 W → c x y = some r → Calls Tryz.prog g (#[.int .i64 x, .int .i64 y] ++ lb) W fun e w' => e = .returned (.int .i64 r) ∧ Drawn0 W w' from hcmp)
 have HB := aM hB
 have HO := aM ho0
 have HH := aM h
 obtain ⟨n, hn⟩ : ∃ n, n = l0.length := ⟨_, rfl⟩
 have HN := aM hn
 rw [← hn] at hlen
 clear hcmp hB ho0 h hn
 rw [← HN.out]
 go_enter Tryz.func109, Tryz.ntmps109
 go_wp2
 go_loopg [8] n (fun g1 v8 wr => ∃ (i : Nat) (d : List Int), v8 = .int .i64 (i : Int) ∧ 1 ≤ i ∧ (i ≤ n ∨ i = 1) ∧ n - i ≤ g1 ∧ Aside0 (d.length = n) ∧ Aside0 (Kd.R (Kd.int .i64) 3 wr w0.heap.size P0_ u d) ∧ Aside0 (Below w0.heap.size w0 wr) ∧ Aside0 (insOut c (n - i) i d = some r))
 case atStart => exact ⟨1, l0, rfl, Nat.le_refl _, .inr rfl, by omega, ⟨HN.out.symm⟩, HO, HB, ⟨by have := HH.out; rw [← HN.out] at this; exact this⟩⟩
 case round =>
  clear HH HO HB HN
  obtain ⟨i, d, rfl, hi1, hin, hg1, HL, HO, HB, HI⟩ := hrel
  by_cases hlt : i < n
  ·
   have hltz : (i : Int) < (n : Int) := by omega
   obtain ⟨m, hm⟩ : ∃ m, n - i = m + 1 := ⟨n - i - 1, by omega⟩
   obtain ⟨d', hd', ho'⟩ := Option.bind_eq_some_iff.mp (show (insIn c i d).bind (fun d' => insOut c m (i + 1) d') = some r from by have := HI.out; rw [hm] at this; exact this)
   have HIN := aM hd'
   have HOU := aM (show insOut c (n - (i + 1)) (i + 1) d' = some r from by rw [show n - (i + 1) = m by omega]; exact ho')
   have HL' := aM (show d'.length = n from (insIn_length c i d d' hd').trans HL.out)
   obtain ⟨go, cap, eu, gb, gl, cells, hcells⟩ := Kd.R_form HO.out (by have := HL.out; omega)
   rw [HL.out] at eu
   subst eu
   have GB := aM gb
   clear hm hd' ho' HI gb gl hcells
   go_wp2
   go_loopg [9] i (fun g2 v9 wr2 => ∃ (j : Nat) (d2 : List Int), v9 = .int .i64 (j : Int) ∧ j ≤ i ∧ j ≤ g2 ∧ Aside0 (d2.length = n) ∧ Aside0 (Kd.R (Kd.int .i64) 3 wr2 w0.heap.size P0_ (.slice (some ⟨go, 0, none⟩) n cap) d2) ∧ Aside0 (Below w0.heap.size w0 wr2) ∧ Aside0 (insIn c j d2 = some d'))
   case atStart => exact ⟨i, d, rfl, Nat.le_refl _, Nat.le_refl _, HL, HO, HB, HIN⟩
   case round =>
    clear HIN HO HB HL
    obtain ⟨j, d2, rfl, hji, hg2, HL, HO, HB, HIN⟩ := hrel
    cases j with
    | zero =>
     have hjb : decide (((0 : Nat) : Int) > 0) = false := by decide
     have ed := Option.some.inj (show some d2 = some d' from HIN.out)
     subst ed
     go_wp2_with fail
     go_quiet (fail)
     go_wp2
     go_roundg (n - (i + 1))
     case measure => omega
     case rel => exact ⟨i + 1, d2, by go_num, by omega, by omega, by omega, HL, ⟨rQ HO.out⟩, ⟨by repeat (first | exact HB.out | apply pw_below_drewN | apply below_drew1)⟩, HOU⟩
    | succ jp =>
     have hg0 : decide ((jp : Int) + 1 > 0) = true := decide_eq_true (by omega)
     have hg1' : (0 : Int) < (jp : Int) + 1 := by omega
     obtain ⟨rr, hrr, H⟩ := Option.bind_eq_some_iff.mp (show (c (rd d2 ((jp + 1 : Nat) : Int)) (rd d2 (jp : Int))).bind (fun r => if r < 0 then insIn c jp (swapL d2 jp) else some d2) = some d' from HIN.out)
     obtain ⟨cj, fj⟩ := Kd.R_celln 0 HO.out ((jp + 1 : Nat) : Int) (by omega) (by omega)
     obtain ⟨cp, fp⟩ := Kd.R_celln 0 HO.out (jp : Int) (by omega) (by omega)
     rw [Int.toNat_natCast] at cj fj cp fp
     obtain ⟨xj, hxj⟩ : ∃ x, rd d2 ((jp + 1 : Nat) : Int) = x := ⟨_, rfl⟩
     obtain ⟨xp, hxp⟩ : ∃ x, rd d2 (jp : Int) = x := ⟨_, rfl⟩
     replace cj : wr.cell? ⟨go, jp + 1, none⟩ = some (.int .i64 xj) := by rw [← hxj]; exact cj
     replace cp : wr.cell? ⟨go, jp, none⟩ = some (.int .i64 xp) := by rw [← hxp]; exact cp
     rw [hxj, hxp] at hrr
     have HX := aM (And.intro hxj hxp)
     clear hxj hxp HIN
     have hcall := fun k => HCM.out (wr.drewN k) xj xp rr (pw_below_drewN HB.out k) hrr
     clear hrr
     have hwp : IntKind.i64.wrap (jp : Int) = (jp : Int) := by rw [IntKind.wrap_i64]; omega
     have hwp2 : wrap64 (jp : Int) = (jp : Int) := by unfold wrap64; omega
     have jz : (jp : Int) + 1 < (n : Int) := by omega
     have jz1 : (jp : Int) < (n : Int) := by omega
     have p0 : (0 : Int) ≤ (jp : Int) + 1 := by omega
     have e0 : ((jp : Int) + 1).toNat = jp + 1 := by omega
     by_cases hlv : rr < 0
     ·
      rw [if_pos hlv] at H
      have HE := aM H
      clear H
      go_wp2_with fail
      go_quiet (first | ((with_reducible refine (hcall _).mono ?_); rintro e w' ⟨rfl, ⟨nd, rfl⟩⟩; (try first | exact q1 | exact q2)))
      go_wp2_with fail
      have cj2 : (wr.drewN nq).cell? ⟨go, jp + 1, none⟩ = some (.int .i64 xj) := cj
      have cp2 : (wr.drewN nq).cell? ⟨go, jp, none⟩ = some (.int .i64 xp) := cp
      have fj2 : (wr.drewN nq).frozen? ⟨go, jp + 1, none⟩ = false := fj
      have fp2 : (wr.drewN nq).frozen? ⟨go, jp, none⟩ = false := fp
      have HO2 := aM (Kd.R_drewN HO.out nq)
      have HB2 := aM (pw_below_drewN HB.out nq)
      clear cj cp fj fp hcall HO HB
      generalize wr.drewN nq = wq2 at cj2 cp2 fj2 fp2 HO2 HB2 ⊢
      obtain ⟨j1, hj1⟩ : ∃ j1, j1 = jp + 1 := ⟨_, rfl⟩
      rw [← hj1] at cj2 fj2 e0
      have J1 := aM hj1
      clear hj1
      go_big_region
      all_goals go_wp2
      go_roundg jp
      case measure => omega
      case rel =>
       have h1 := (Kd.R_putg HO2.out ((jp + 1 : Nat) : Int) xp).1
       have h2 := (Kd.R_putg h1 (jp : Int) xj).1
       rw [Int.toNat_natCast, Int.toNat_natCast, ← HX.out.1, ← HX.out.2] at h2
       refine ⟨jp, swapL d2 jp, rfl, by omega, Nat.le_refl _, ⟨by rw [swapL_length]; exact HL.out⟩, ⟨?_⟩, ⟨?_⟩, HE⟩
       ·
        rw [J1.out, ← HX.out.1, ← HX.out.2]
        exact Kd.R_drew h2
       ·
        apply below_drew1
        exact below_set (below_set HB2.out GB.out) GB.out
     ·
      rw [if_neg hlv] at H
      have ed := Option.some.inj H
      subst ed
      clear H
      go_wp2_with fail
      go_quiet (first | ((with_reducible refine (hcall _).mono ?_); rintro e w' ⟨rfl, ⟨nd, rfl⟩⟩; (try first | exact q1 | exact q2)))
      go_wp2
      go_roundg (n - (i + 1))
      case measure => omega
      case rel => exact ⟨i + 1, d2, by go_num, by omega, by omega, by omega, HL, ⟨rQ HO.out⟩, ⟨by repeat (first | exact HB.out | apply pw_below_drewN | apply below_drew1)⟩, HOU⟩
  ·
   have hltz : ¬ (i : Int) < (n : Int) := by omega
   have e : n - i = 0 := by omega
   have hr := HI.out
   rw [e] at hr
   have ed := Option.some.inj (show some d = some r from hr)
   subst ed
   clear hr e HI
   go_wp2
   go_end0
   exact ⟨by first | rfl | (simp; done), HO.out, HB.out⟩

-- NOT PRINTED: function 135 (slices_swapRangeCmpFunc_int)

-- NOT PRINTED: function 119 (slices_rotateCmpFunc_int)

-- NOT PRINTED: function 110 (slices_symMergeCmpFunc_int)

/-! ### slices_stableCmpFunc_int: function 100 -/
set_option maxHeartbeats 4000000 in
set_option maxRecDepth 100000 in
/-- At most 19 numbers: one insertion sort. -/
theorem stableCmp.calls (c : Int → Int → Option Int) (g : Nat) (lb : Array Value) (eg : ∀ args w, (callFunc g args).run Tryz.prog w = .ok (.enter g args) w) (P0_ : Nat → Prop) (u : Value) (l0 r : List Int) (w0 w : World)
  (hcmp : PredC Tryz.prog g lb c w0) (hB : Below w0.heap.size w0 w) (ho0 : Kd.R (Kd.int .i64) 3 w w0.heap.size P0_ u l0) (hlen : l0.length < 20) (h : insOut c (l0.length - 1) 1 l0 = some r) :
  Calls Tryz.prog 100 #[u, .int .i64 (l0.length : Int), .func (.func g) #[] lb] w fun e w' => e = .returned (.tuple #[]) ∧ Kd.R (Kd.int .i64) 3 w' w0.heap.size P0_ u r ∧ Below w0.heap.size w0 w' := by
 have hcon := insertionSort.calls c g lb eg P0_ u l0 r w0 w hcmp hB ho0 (by omega) h
 obtain ⟨n, hn⟩ : ∃ n, n = l0.length := ⟨_, rfl⟩
 rw [← hn] at hcon hlen ⊢
 clear hcmp hB ho0 h hn eg
 have HC := aM hcon
 clear hcon
 have c1 : decide ((20 : Int) ≤ (n : Int)) = false := decide_eq_false (by omega)
 have c2 : decide ((20 : Int) < (n : Int)) = false := decide_eq_false (by omega)
 have c1' : ¬ (20 : Int) ≤ (n : Int) := by omega
 have c2' : ¬ (20 : Int) < (n : Int) := by omega
 go_enter Tryz.func100, Tryz.ntmps100
 go_wp2
 go_loopg [7, 8] 0 (fun gg v7 v8 wr => v7 = .int .i64 0 ∧ v8 = .int .i64 20 ∧ wr = w)
 case atStart => exact ⟨rfl, rfl, rfl⟩
 case round =>
  obtain ⟨rfl, rfl, rfl⟩ := hrel
  go_wp2_with ((with_reducible refine HC.out.mono ?_); rintro e w' ⟨rfl, hr, hb⟩; have HR := aM hr; have HB := aM hb; clear hr hb)
  go_loopg [6] 0 (fun gg v6 wr => v6 = .int .i64 20 ∧ Aside0 (Kd.R (Kd.int .i64) 3 wr w0.heap.size P0_ u r) ∧ Aside0 (Below w0.heap.size w0 wr))
  case atStart => exact ⟨rfl, HR, HB⟩
  case round =>
   clear HR HB
   obtain ⟨rfl, HR, HB⟩ := hrel
   go_wp2
   go_end0
   exact ⟨by first | rfl | (simp; done), HR.out, HB.out⟩

/-! ### slices_SortStableFunc_int_int: function 83 -/
set_option maxHeartbeats 4000000 in
theorem sortStable.calls (c : Int → Int → Option Int) (g : Nat) (lb : Array Value) (eg : ∀ args w, (callFunc g args).run Tryz.prog w = .ok (.enter g args) w) (P0_ : Nat → Prop) (u : Value) (l0 r : List Int) (w0 w : World)
  (hcmp : PredC Tryz.prog g lb c w0) (hB : Below w0.heap.size w0 w) (ho0 : Kd.R (Kd.int .i64) 3 w w0.heap.size P0_ u l0) (hlen : l0.length < 20) (h : insOut c (l0.length - 1) 1 l0 = some r) :
  Calls Tryz.prog 83 #[u, .func (.func g) #[] lb] w fun e w' => e = .returned (.tuple #[]) ∧ Kd.R (Kd.int .i64) 3 w' w0.heap.size P0_ u r ∧ Below w0.heap.size w0 w' := by
 have hcon := stableCmp.calls c g lb eg P0_ u l0 r w0 w hcmp hB ho0 hlen h
 obtain ⟨A, cap, rfl⟩ := Kd.R_slice ho0
 clear hcmp hB ho0 h eg
 have HC := aM hcon
 clear hcon
 go_enter Tryz.func83, Tryz.ntmps83
 go_wp2_with ((with_reducible refine HC.out.mono ?_); rintro e w' ⟨rfl, hr, hb⟩; have HR := aM hr; have HB := aM hb; clear hr hb)
 go_end0
 exact ⟨by first | rfl | (simp; done), HR.out, HB.out⟩

/-! ### impl_order_1: function 84 -/
def orderC (l : List Int) (a b : Int) : Option Int := if 0 ≤ b then (if b < (l.length : Int) then (if 0 ≤ a then (if a < (l.length : Int) then some (wrap64 (rd l b - rd l a)) else none) else none) else none) else none
set_option maxHeartbeats 4000000 in
set_option maxRecDepth 100000 in
theorem impl_order_1.calls (l : List Int) (A : Option Addr) (c : Nat) (b1 : Nat) (w : World) (k1 : w.cell? ⟨b1, 0, none⟩ = some (.slice A l.length c)) (hC : Kd.C (Kd.int .i64) w A l.length l) : PredC Tryz.prog 84 #[.pointer (some ⟨b1, 0, none⟩)] (orderC l) w := fun W a b r hb h => by
 have c1 := pw_cell_below hb k1
 have HR0 := aM (Kd.C_below hC hb)
 clear hb k1 hC
 show Calls Tryz.prog 84 #[.int .i64 a, .int .i64 b, .pointer (some ⟨b1, 0, none⟩)] W fun e w' => e = .returned (.int .i64 r) ∧ Drawn0 W w'
 unfold orderC at h
 have q1a : 0 ≤ b := by
  by_cases q : 0 ≤ b
  case pos =>
   exact q
  rw [if_neg q] at h; cases h
 rw [if_pos q1a] at h
 have q1b : b < (l.length : Int) := by
  by_cases q : b < (l.length : Int)
  case pos =>
   exact q
  rw [if_neg q] at h; cases h
 rw [if_pos q1b] at h
 have q2a : 0 ≤ a := by
  by_cases q : 0 ≤ a
  case pos =>
   exact q
  rw [if_neg q] at h; cases h
 rw [if_pos q2a] at h
 have q2b : a < (l.length : Int) := by
  by_cases q : a < (l.length : Int)
  case pos =>
   exact q
  rw [if_neg q] at h; cases h
 rw [if_pos q2b] at h
 obtain rfl := Option.some.inj h
 clear h
 have p1 : 0 ≤ b := q1a
 have r1 : b < (l.length : Int) := q1b
 obtain ⟨ad1, e1, hx1⟩ := Kd.at_int HR0.out b p1 r1
 cases e1
 replace p1 := eq_true p1
 replace r1 := eq_true r1
 have p2 : 0 ≤ a := q2a
 have r2 : a < (l.length : Int) := q2b
 obtain ⟨ad2, e2, hx2⟩ := Kd.at_int HR0.out a p2 r2
 cases e2
 replace p2 := eq_true p2
 replace r2 := eq_true r2
 go_enter Tryz.func84, Tryz.ntmps84
 go_wp2
 go_quiet (fail)
 go_wp2
 go_ret
 exact ⟨by first | rfl | (simp; done), dQ⟩

/-! ### impl_order: function 52 -/
def ups (n : Nat) : List Int := (List.range n).map fun i : Nat => (i : Int)
theorem ups_length (n : Nat) : (ups n).length = n := by simp [ups]
theorem ups_succ (n : Nat) : ups (n + 1) = ups n ++ [(n : Int)] := by simp [ups, List.range_succ]
def impl_order.f (l0 : List Int) : Option (List Int) := if l0.length < 20 then insOut (orderC l0) (l0.length - 1) 1 (ups l0.length) else none
set_option maxHeartbeats 4000000 in
set_option maxRecDepth 100000 in
theorem impl_order.calls (A0 : Option Addr) (c0 : Nat) (l0 : List Int) (r : List Int) (w : World) (hr0 : Kd.C (Kd.int .i64) w A0 l0.length l0) (hc0 : l0.length ≤ c0) (h : impl_order.f l0 = some r) :
  Calls Tryz.prog 52 #[.slice A0 l0.length c0] w fun e w' => ∃ v0_ : Value, e = .returned (v0_) ∧ Kd.R (Kd.int .i64) 3 w' w.heap.size (fun _ => True) v0_ r ∧ Below w.heap.size w w' := by
 have eg : ∀ args w, (callFunc 84 args).run Tryz.prog w = .ok (.enter 84 args) w := enters_of Tryz.func84 (by kernel_rfl) rfl
 have EG := aM eg
 clear eg
 have HB0 := aM (show Below w.heap.size w (w.alloc (.cells #[.slice A0 l0.length c0] 24)) from (Below.refl w.heap.size w).alloc (by simp) _)
 have c1 : (w.alloc (.cells #[.slice A0 l0.length c0] 24)).cell? ⟨w.heap.size, 0, none⟩ = some (.slice A0 l0.length c0) := (World.cell?_alloc_at _ _ _ _ (by simp)).trans rfl
 have HP := aM (impl_order_1.calls l0 A0 c0 w.heap.size (w.alloc (.cells #[.slice A0 l0.length c0] 24)) c1 (Kd.C_below hr0 HB0.out))
 unfold impl_order.f at h
 have hl : l0.length < 20 := by
  by_cases q : l0.length < 20
  case pos =>
   exact q
  rw [if_neg q] at h; cases h
 rw [if_pos hl] at h
 have HH := aM (show insOut (orderC l0) ((ups l0.length).length - 1) 1 (ups l0.length) = some r by rw [ups_length]; exact h)
 clear h hr0 hc0
 have HB := aM (Below.refl (w.alloc (.cells #[.slice A0 l0.length c0] 24)).heap.size (w.alloc (.cells #[.slice A0 l0.length c0] 24)))
 go_enter Tryz.func52, Tryz.ntmps52
 go_wp2_with (first | ((with_reducible refine gate_dst (N := 5) rfl ?_); refine Kd.R_lit (Kd.int .i64) _ 3 ?hg (N := 5) ?hd (xs := ([] : List Int)) (inner := []) (ok := fun _ => True) (okp := fun _ => True) ?hr ?hp (fun _ hk => hk) trivial (Below.refl _ _) (Nat.le_refl _) (by simp) ?_; (case hd => rfl); (case hg => rfl); (case hr => first | (go_simp; done) | (go_simp; rfl)); (case hp => exact (Reps.none _ _)); intro v145 w3 ho4 hb hg_ hnew_; clear hg_ hnew_ HB; have HO := aM ho4; have HB := aM hb; have c1_ := pw_cell_below hb c1; clear c1; have c1 := c1_; clear c1_ ho4 hb))
 go_loopg [3, 4, 8] l0.length (fun gg v3 _ v8 wr => ∃ i : Nat, v8 = .int .i64 (i : Int) ∧ i ≤ l0.length ∧ l0.length - i ≤ gg ∧ Aside0 (Kd.R (Kd.int .i64) 3 wr (w.alloc (.cells #[.slice A0 l0.length c0] 24)).heap.size (fun _ => True) v3 (ups i)) ∧ Aside0 (Below (w.alloc (.cells #[.slice A0 l0.length c0] 24)).heap.size (w.alloc (.cells #[.slice A0 l0.length c0] 24)) wr))
 case atStart => exact ⟨0, rfl, Nat.zero_le _, by omega, HO, HB⟩
 case round =>
  clear HO HB c1
  obtain ⟨i, rfl, hi, hg1, HO, HB⟩ := hrel
  by_cases hlt : i < l0.length
  case pos =>
   have cb : decide ((i : Int) < (l0.length : Int)) = true := decide_eq_true (by omega)
   have LM := aM (show (ups i).length < 1000 by rw [ups_length]; omega)
   go_wp2_with (first | ((with_reducible refine gate_builtin (b := .append) (xs := #[.tmp 11, .tmp 13]) rfl ?_); at_builtin; refine Kd.R_append (Kd.int .i64) (w0 := (w.alloc (.cells #[.slice A0 l0.length c0] 24))) (w.alloc (.cells #[.slice A0 l0.length c0] 24)).heap.size rfl (.tmp 11) (.tmp 13) 24 3 (.int .i64 0) 8 rfl Tryz.underlying24 info3 rfl (by decide) (by omega) u3 (ups i) (i : Int) [.int .i64 (i : Int)] (fun _ => True) (fun _ => False) rfl rfl ?aP (fun _ hk => hk.elim) ?aF ?aO ?aB ?aS ?aL ?_; (case aP => exact rfl); (case aB => exact (bE HB.out)); (case aF => exact (fun _ _ => trivial)); (case aO => exact (rQ HO.out)); (case aS => exact (bZ HB.out)); (case aL => have := LM.out; omega); intro v149 w9 ho hb hg hat; replace HB := aM (hb); replace HO := aM (ho); clear ho hb hg hat))
   go_roundg (l0.length - (i + 1))
   case measure => omega
   case rel => exact ⟨i + 1, by go_num, by omega, by omega, ⟨by rw [ups_succ]; exact HO.out⟩, HB⟩
  have cb : decide ((i : Int) < (l0.length : Int)) = false := decide_eq_false (by omega)
  have cb' : ¬ (i : Int) < (l0.length : Int) := by omega
  have ei : i = l0.length := by omega
  subst ei
  go_wp2_with (first | ((with_reducible refine (sortStable.calls (orderC l0) 84 #[.pointer (some ⟨w.heap.size, 0, none⟩)] EG.out (fun _ => True) _ (ups l0.length) r (w.alloc (.cells #[.slice A0 l0.length c0] 24)) _ HP.out HB.out HO.out ?sl HH.out).mono ?_); (case sl => rw [ups_length]; exact hl); rintro e w9 ⟨rfl, ho, hb⟩; have n0_ := aM hb; have n1_ := aM ho; clear HB HO; have HB := n0_; have HO := n1_; clear n0_ n1_ ho hb))
  go_ret
  exact ⟨_, by first | rfl | (simp; done), Kd.R_lower HO.out HB0.out.size, below_step HB0.out HB.out⟩

/-! ### impl_OrderOfAges: function 10 -/
def impl_OrderOfAges.f (l0 : List Int) : Option (List Int × Bool) := (impl_AreAges.f l0).bind fun t229 => (if t229 = true then ((impl_order.f l0).bind fun t230 => (some (t230, true))) else (some (([] : List Int), false)))
set_option maxHeartbeats 8000000 in
set_option maxRecDepth 100000 in
theorem impl_OrderOfAges.calls (A0 : Option Addr) (c0 : Nat) (l0 : List Int) (r1 : List Int) (r2 : Bool) (w : World) (hr0 : Kd.C (Kd.int .i64) w A0 l0.length l0) (hc0 : l0.length ≤ c0) (h : impl_OrderOfAges.f l0 = some (r1, r2)) :
  Calls Tryz.prog 10 #[.slice A0 l0.length c0] w fun e w' => ∃ v0_ : Value, e = .returned (.tuple #[v0_, .bool r2]) ∧ Kd.R (Kd.int .i64) 3 w' w.heap.size (fun _ => True) v0_ r1 ∧ Below w.heap.size w w' := by
 have HR0 := aM hr0
 have HC0 := aM hc0
 clear hr0 hc0
 have HB := aM (Below.refl w.heap.size w)
 have H : ((impl_AreAges.f l0).bind fun t229 => (if t229 = true then ((impl_order.f l0).bind fun t230 => (some (t230, true))) else (some (([] : List Int), false)))) = some (r1, r2) := h
 clear h
 replace H := oB H
 obtain ⟨t229, A20, H⟩ := H
 (try dsimp only at H)
 have A2 := aM A20
 clear A20
 by_cases c3 : t229 = true
 ·
  subst c3
  replace H := (if_pos rfl).symm.trans H
  replace H := oB H
  obtain ⟨t230, A40, H⟩ := H
  (try dsimp only at H)
  have A4 := aM A40
  clear A40
  simp only [Option.some.injEq, Prod.mk.injEq] at H
  obtain ⟨rfl, rfl⟩ := H
  go_enter Tryz.func10, Tryz.ntmps10
  go_wp2_with (first | ((with_reducible refine gate_callee (f := 47) rfl ?_); refine gL 5 Tryz.func47 #[.slice A0 l0.length c0] rfl rfl rfl rfl ?_; (with_reducible refine (impl_AreAges.calls _ _ l0 true _ ?side1 ?side2 A2.out).mono ?_); (case side1 => exact cQ HR0.out); (case side2 => exact HC0.out); rintro e w5 ⟨rfl, hb⟩; refine ⟨_, rfl, ?_⟩; replace HB := aM (bS HB.out hb); (try clear hb)) | ((with_reducible refine gate_callee (f := 52) rfl ?_); refine gL 8 Tryz.func52 #[.slice A0 l0.length c0] rfl rfl rfl rfl ?_; (with_reducible refine (impl_order.calls _ _ l0 t230 _ ?side1 ?side2 A4.out).mono ?_); (case side1 => exact cQ (Kd.C_below HR0.out HB.out)); (case side2 => exact HC0.out); rintro e w6 ⟨v231, rfl, ho0, hb⟩; refine ⟨_, rfl, ?_⟩; have HO232 := aM (Kd.R_lower ho0 (bZ HB.out)); replace HB := aM (bS HB.out hb); (try clear hb ho0)))
  go_ret2
  exact ⟨_, erQ, rQ HO232.out, bE HB.out⟩
 ·
  replace c3 := Bool.eq_false_iff.mpr c3
  subst c3
  have H1 : (some (([] : List Int), false)) = some (r1, r2) := by rw [if_neg (show ¬ (false = true) by decide)] at H; exact H
  clear H
  have H := H1
  clear H1
  simp only [Option.some.injEq, Prod.mk.injEq] at H
  obtain ⟨rfl, rfl⟩ := H
  go_enter Tryz.func10, Tryz.ntmps10
  go_wp2_with (first | ((with_reducible refine gate_callee (f := 47) rfl ?_); refine gL 5 Tryz.func47 #[.slice A0 l0.length c0] rfl rfl rfl rfl ?_; (with_reducible refine (impl_AreAges.calls _ _ l0 false _ ?side1 ?side2 A2.out).mono ?_); (case side1 => exact cQ HR0.out); (case side2 => exact HC0.out); rintro e w7 ⟨rfl, hb⟩; refine ⟨_, rfl, ?_⟩; replace HB := aM (bS HB.out hb); (try clear hb)))
  go_ret2
  exact ⟨_, erQ, by first | exact Kd.R_nil _ _ _ _ _ | exact Kd.N_nil _ _ _ _ _ | exact Kd.V_nil _ _ _ _ _ | exact Kd.Q_nil _ _ _ _ _ | exact Kd.S_nil _ _ _ _ _, bE HB.out⟩

/-! ### spec_l1Own: function 73 -/
def spec_l1Own.f (l0 : List Int) : Option (List Int) := (some (([] : List Int) : List Int)).bind fun y233 => (if y233.length + l0.length < 17592186044416 then (some (y233 ++ l0)) else (none))
set_option maxHeartbeats 8000000 in
set_option maxRecDepth 100000 in
theorem spec_l1Own.calls (A0 : Option Addr) (c0 : Nat) (l0 : List Int) (r : List Int) (w : World) (hr0 : Kd.C (Kd.int .i64) w A0 l0.length l0) (hc0 : l0.length ≤ c0) (h : spec_l1Own.f l0 = some r) :
  Calls Tryz.prog 73 #[.slice A0 l0.length c0] w fun e w' => ∃ v0_ : Value, e = .returned (v0_) ∧ Kd.R (Kd.int .i64) 3 w' w.heap.size (fun _ => True) v0_ r ∧ Below w.heap.size w w' := by
 have HR0 := aM hr0
 have HC0 := aM hc0
 clear hr0 hc0
 have HB := aM (Below.refl w.heap.size w)
 have H : ((some (([] : List Int) : List Int)).bind fun y233 => (if y233.length + l0.length < 17592186044416 then (some (y233 ++ l0)) else (none))) = some r := h
 clear h
 obtain ⟨y233, hy233⟩ : ∃ y_ : List Int, y_ = (([] : List Int)) := ⟨_, rfl⟩
 replace H : (if y233.length + l0.length < 17592186044416 then (some (y233 ++ l0)) else (none)) = some r := by first | (rw [hy233]; with_reducible exact H) | (have H2_ := (Option.bind_some _ _).symm.trans H; rw [hy233]; with_reducible exact H2_) | (have H2_ := (Option.bind_some _ _).symm.trans H; with_reducible exact H2_) | with_reducible exact H | (rw [hy233]; exact H) | exact H
 have Ny233 := aM hy233
 clear hy233
 by_cases c2 : y233.length + l0.length < 17592186044416
 case neg =>
  rw [if_neg c2] at H
  exact nS H

 rw [if_pos c2] at H
 have LMc2 := aM c2
 clear c2
 obtain ⟨y236, hy236⟩ : ∃ y_ : List Int, y_ = (y233 ++ l0) := ⟨_, rfl⟩
 replace H : (some y236) = some r := by first | (rw [hy236]; with_reducible exact H) | (have H2_ := (Option.bind_some _ _).symm.trans H; rw [hy236]; with_reducible exact H2_) | (have H2_ := (Option.bind_some _ _).symm.trans H; with_reducible exact H2_) | with_reducible exact H | (rw [hy236]; exact H) | exact H
 have Ny236 := aM hy236
 clear hy236
 obtain rfl := Option.some.inj H
 go_enter Tryz.func73, Tryz.ntmps73
 go_wp2_with (first | ((with_reducible refine gate_dst (N := 3) rfl ?_); refine Kd.R_lit (Kd.int .i64) _ 3 ?hg (N := 3) ?hd (xs := ([] : List Int)) (inner := []) (ok := fun _ => True) (okp := fun _ => True) ?hr ?hp (fun _ hk => hk) trivial (Below.refl _ _) (Nat.le_refl _) (by simp) ?_; (case hd => rfl); (case hg => rfl); (case hr => first | (go_simp; done) | (go_simp; rfl)); (case hp => exact (Reps.none _ _)); intro v234 w3 ho4 hb hg_ hnew_; clear hg_ hnew_; (first | rw [← Ny233.out] at ho4 | (simp only [Int.reduceToNat] at ho4; rw [← Ny233.out] at ho4)); have HO235 := aM (Kd.R_lower ho4 (bZ HB.out)); replace HB := aM (bS HB.out hb); clear hb ho4) | ((with_reducible refine gate_builtin (b := .append) (xs := #[.tmp 3, .tmp 4]) rfl ?_); at_builtin; refine Kd.R_append_rows (Kd.int .i64) (w0 := w) w.heap.size rfl (.tmp 3) (.tmp 4) 24 3 (.int .i64 0) 8 rfl Tryz.underlying24 info3 rfl (by decide) (by omega) v234 y233 l0 _ _ _ (fun _ => True) (fun _ => False) rfl rfl ?aO ?aR (fun _ _ h => h) (fun _ h => h.elim) ?aF ?aB ?aS ?aL ?_; (case aR => exact cQ (Kd.C_below HR0.out HB.out)); (case aB => exact (bE HB.out)); (case aF => exact (fun _ _ => trivial)); (case aO => exact (rQ HO235.out)); (case aS => exact (bZ HB.out)); (case aL => have := LMc2.out; omega); intro v237 w5 ho hb hg hat; rw [← Ny236.out] at ho; replace HB := aM (hb); have HO238 := aM (ho); clear HO235; clear ho hb hg hat))
 go_ret
 exact ⟨_, erQ, rQ HO238.out, bE HB.out⟩
end Go.Proofs.YtcfgkpifloghlaaGreatDoor.P
