-- Written by drive.py (wip/ of this repository) over the kit's print: functions, contracts, rows. Lean checks it. -- SQUEEZED
import Derived.Test.YtcfgkpifloghlaaGreatDoorP0
import Derived.Test.YtcfgkpifloghlaaGreatDoorP1
namespace Go.Proofs.YtcfgkpifloghlaaGreatDoor.P
open Go.RowKit Go.Proofs.YtcfgkpifloghlaaGreatDoorW.PrintWords Go.Proofs.YtcfgkpifloghlaaGreatDoorW.PrintLast Go.Proofs.YtcfgkpifloghlaaGreatDoorW.PrintMore
attribute [local go_sem] max2_int min2_int max_two min_two max_three min_three max_four min_four undef_guard   -- for this text's walks alone
set_option linter.unusedVariables false
set_option linter.unusedSimpArgs false

/-! ### laws_gPairs: function 26 -/
def laws_gPairs.l0 : Nat → List (List Int) → List (List Int) → Int → Int → Option (Bool)
 | 0, _, _, _, _ => none
 | k + 1, x0, x5, x6, x7 => if x7 < x6 then (if 0 ≤ x7 then (if x7 < (x5.length : Int) then (if ((rd_L2 x5 x7).length : Int) = 2 then (if x7 > 0 then (if 0 ≤ (wrap64 (x7 - 1)) then (if (wrap64 (x7 - 1)) < (x0.length : Int) then (if 0 < ((rd_L2 x0 (wrap64 (x7 - 1))).length : Int) then (if 0 < ((rd_L2 x5 x7).length : Int) then (if (rd (rd_L2 x0 (wrap64 (x7 - 1))) 0) > (rd (rd_L2 x5 x7) 0) then (some false) else (if (rd (rd_L2 x0 (wrap64 (x7 - 1))) 0) = (rd (rd_L2 x5 x7) 0) then (if 1 < ((rd_L2 x0 (wrap64 (x7 - 1))).length : Int) then (if 1 < ((rd_L2 x5 x7).length : Int) then (if (rd (rd_L2 x0 (wrap64 (x7 - 1))) 1) ≥ (rd (rd_L2 x5 x7) 1) then (some false) else (laws_gPairs.l0 k x0 x5 x6 (wrap64 (x7 + 1)))) else (none)) else (none)) else (laws_gPairs.l0 k x0 x5 x6 (wrap64 (x7 + 1))))) else (none)) else (none)) else (none)) else (none)) else (laws_gPairs.l0 k x0 x5 x6 (wrap64 (x7 + 1)))) else (some false)) else (none)) else (none)) else (some true)
def laws_gPairs.f (k : Nat) (l0 : List (List Int)) : Option (Bool) := laws_gPairs.l0 k l0 l0 (l0.length : Int) 0
theorem laws_gPairs.mono_l : ∀ k, (∀ y0 y1 y2 y3, LeO (laws_gPairs.l0 k y0 y1 y2 y3) (laws_gPairs.l0 (k + 1) y0 y1 y2 y3))
 | 0 => fun _ _ _ _ r h => by simp [laws_gPairs.l0] at h
 | k + 1 => by
  have ih0 := laws_gPairs.mono_l k
  ·
   intro y0 y1 y2 y3
   unfold laws_gPairs.l0
   repeat' first
   | (with_reducible exact ih0 _ _ _ _)
   | (with_reducible exact LeO.refl _)
   | (with_reducible exact LeO.none _)
   | (with_reducible refine LeO.ite ?_ ?_)
   | (with_reducible refine LeO.bind ?_ (fun _ => ?_))
theorem laws_gPairs.mono : ∀ a0 k, LeO (laws_gPairs.f k a0) (laws_gPairs.f (k + 1) a0) := by
 intro a0 k
 have ih0 := laws_gPairs.mono_l k
 unfold laws_gPairs.f
 repeat' first
   | (with_reducible exact ih0 _ _ _ _)
   | (with_reducible exact LeO.refl _)
   | (with_reducible exact LeO.none _)
   | (with_reducible refine LeO.ite ?_ ?_)
   | (with_reducible refine LeO.bind ?_ (fun _ => ?_))
set_option maxHeartbeats 8000000 in
set_option maxRecDepth 100000 in
theorem laws_gPairs.calls (k : Nat) (A0 : Option Addr) (c0 : Nat) (l0 : List (List Int)) (r : Bool) (w : World) (hr0 : Kd.C (Kd.slice 3 (Kd.int .i64)) w A0 l0.length l0) (hc0 : l0.length ≤ c0) (h : laws_gPairs.f k l0 = some r) :
  Calls Tryz.prog 26 #[.slice A0 l0.length c0] w fun e w' => e = .returned (.bool r) ∧ Drawn0 w w' := by
 have HR0 := aM hr0
 have HC0 := aM hc0
 clear hr0 hc0
 have H : (laws_gPairs.l0 k l0 l0 (l0.length : Int) 0) = some r := h
 clear h
 have H' := aM H
 clear H
 go_enter Tryz.func26, Tryz.ntmps26
 go_wp2
 repeat (go_quiet (fail); try go_wp2)
 go_loopg [7] k (fun kq v7 w' => ∃ (x7_1 : Int), v7 = .int .i64 x7_1 ∧ Aside0 (laws_gPairs.l0 kq l0 l0 (l0.length : Int) x7_1 = some r) ∧ Aside0 (kq ≤ k) ∧ Drawn0 w w')
 case atStart => exact ⟨(0), eqQ, H', ⟨Nat.le_refl _⟩, dQ⟩
 case round =>
  clear H'
  obtain ⟨x7_1, rfl, HA, HK1, ⟨m1, rfl⟩⟩ := hrel
  cases gk with
  | zero => exact absurd HA.out (by simp [laws_gPairs.l0])
  | succ k1 =>
   have H := HA.out
   clear HA
   simp only [laws_gPairs.l0] at H
   by_cases c2 : x7_1 < (l0.length : Int)
   ·
    rw [if_pos c2] at H
    have c2b0 : decide (x7_1 < (l0.length : Int)) = true := decide_eq_true c2
    clear c2
    by_cases c3 : 0 ≤ x7_1
    case neg =>
     rw [if_neg c3] at H
     exact nS H
    rw [if_pos c3] at H
    have c3b0 : decide (0 ≤ x7_1) = true := decide_eq_true c3
    clear c3
    by_cases c4 : x7_1 < (l0.length : Int)
    case neg =>
     rw [if_neg c4] at H
     exact nS H
    rw [if_pos c4] at H
    have c4b0 : decide (x7_1 < (l0.length : Int)) = true := decide_eq_true c4
    clear c4
    by_cases c5 : ((rd_L2 l0 x7_1).length : Int) = 2
    ·
     rw [if_pos c5] at H
     have c5b0 : (((rd_L2 l0 x7_1).length : Int) == 2) = true := beq_iff_eq.mpr c5
     have c5b1 : (((rd_L2 l0 x7_1).length : Int) != 2) = false := bne_eq_false_iff_eq.mpr c5
     clear c5
     by_cases c6 : x7_1 > 0
     ·
      rw [if_pos c6] at H
      have c6b0 : decide (0 < x7_1) = true := decide_eq_true c6
      clear c6
      obtain ⟨ji7, hji7⟩ : ∃ j_ : Int, (wrap64 (x7_1 - 1)) = j_ := ⟨_, rfl⟩
      replace H : (if 0 ≤ (ji7) then (if (ji7) < (l0.length : Int) then (if 0 < ((rd_L2 l0 (ji7)).length : Int) then (if 0 < ((rd_L2 l0 x7_1).length : Int) then (if (rd (rd_L2 l0 (ji7)) 0) > (rd (rd_L2 l0 x7_1) 0) then (some false) else (if (rd (rd_L2 l0 (ji7)) 0) = (rd (rd_L2 l0 x7_1) 0) then (if 1 < ((rd_L2 l0 (ji7)).length : Int) then (if 1 < ((rd_L2 l0 x7_1).length : Int) then (if (rd (rd_L2 l0 (ji7)) 1) ≥ (rd (rd_L2 l0 x7_1) 1) then (some false) else (laws_gPairs.l0 k1 l0 l0 (l0.length : Int) (wrap64 (x7_1 + 1)))) else (none)) else (none)) else (laws_gPairs.l0 k1 l0 l0 (l0.length : Int) (wrap64 (x7_1 + 1))))) else (none)) else (none)) else (none)) else (none)) = some r := by first | (rw [hji7] at H; exact H) | (simp only [hji7] at H ⊢; exact H)
      have hji7w : (IntKind.i64.wrap (x7_1 - 1)) = ji7 := (i64_w _).trans hji7
      by_cases c8 : 0 ≤ (ji7)
      case neg =>
       rw [if_neg c8] at H
       exact nS H
      rw [if_pos c8] at H
      have c8b0 : decide (0 ≤ (ji7)) = true := decide_eq_true c8
      clear c8
      by_cases c9 : (ji7) < (l0.length : Int)
      case neg =>
       rw [if_neg c9] at H
       exact nS H
      rw [if_pos c9] at H
      have c9b0 : decide ((ji7) < (l0.length : Int)) = true := decide_eq_true c9
      clear c9
      by_cases c10 : 0 < ((rd_L2 l0 (ji7)).length : Int)
      case neg =>
       rw [if_neg c10] at H
       exact nS H
      rw [if_pos c10] at H
      have c10b0 : decide (0 < ((rd_L2 l0 (ji7)).length : Int)) = true := decide_eq_true c10
      have c10b1 : decide (0 < (rd_L2 l0 (ji7)).length) = true := decide_eq_true (by omega)
      clear c10
      by_cases c11 : 0 < ((rd_L2 l0 x7_1).length : Int)
      case neg =>
       rw [if_neg c11] at H
       exact nS H
      rw [if_pos c11] at H
      have c11b0 : decide (0 < ((rd_L2 l0 x7_1).length : Int)) = true := decide_eq_true c11
      have c11b1 : decide (0 < (rd_L2 l0 x7_1).length) = true := decide_eq_true (by omega)
      clear c11
      by_cases c12 : (rd (rd_L2 l0 (ji7)) 0) > (rd (rd_L2 l0 x7_1) 0)
      ·
       rw [if_pos c12] at H
       have c12b0 : decide ((rd (rd_L2 l0 x7_1) 0) < (rd (rd_L2 l0 (ji7)) 0)) = true := decide_eq_true c12
       clear c12
       obtain rfl := Option.some.inj H
       have p393 : 0 ≤ (x7_1 : Int) := dA
       have q393 : x7_1 < (l0.length : Int) := dA
       obtain ⟨ad393, A393_0, c393_0, e393, hx393_0, hl393_0, hi393_0⟩ := at_L2 HR0.out x7_1 p393 q393
       cases e393
       have HR393_0 := aM hi393_0
       have HC393_0 := aM hl393_0
       clear hi393_0 hl393_0
       replace p393 := eq_true p393
       replace q393 := eq_true q393
       have p394 : 0 ≤ ((ji7) : Int) := dA
       have q394 : (ji7) < (l0.length : Int) := dA
       obtain ⟨ad394, A394_0, c394_0, e394, hx394_0, hl394_0, hi394_0⟩ := at_L2 HR0.out (ji7) p394 q394
       obtain rfl : ad393 = ad394 := (by injection e394)
       have HR394_0 := aM hi394_0
       have HC394_0 := aM hl394_0
       clear hi394_0 hl394_0
       replace p394 := eq_true p394
       replace q394 := eq_true q394
       have p395 : 0 ≤ (0 : Int) := (by omega)
       have q395 : 0 < ((rd_L2 l0 (ji7)).length : Int) := dA
       obtain ⟨ad395, e395, hx395_0⟩ := Kd.at_int HR394_0.out 0 p395 q395
       cases e395
       have qi395 : (0 < (rd_L2 l0 (ji7)).length) = True := eq_true (by omega)
       (try rw [show ((0 : Int)).toNat = 0 from rfl] at hx395_0)
       (try rw [Addr.add_zero'] at hx395_0)
       replace p395 := eq_true p395
       replace q395 := eq_true q395
       have p396 : 0 ≤ (0 : Int) := (by omega)
       have q396 : 0 < ((rd_L2 l0 x7_1).length : Int) := dA
       obtain ⟨ad396, e396, hx396_0⟩ := Kd.at_int HR393_0.out 0 p396 q396
       cases e396
       have qi396 : (0 < (rd_L2 l0 x7_1).length) = True := eq_true (by omega)
       (try rw [show ((0 : Int)).toNat = 0 from rfl] at hx396_0)
       (try rw [Addr.add_zero'] at hx396_0)
       replace p396 := eq_true p396
       replace q396 := eq_true q396
       go_wp2
       repeat (go_quiet (fail); try go_wp2)
       go_ret
       exact ⟨by first | rfl | (simp; done) | (simp only [← hji7] <;> (first | rfl | simp)) | (simp [*]; done), dQ⟩
      ·
       rw [if_neg c12] at H
       have c12b0 : decide ((rd (rd_L2 l0 x7_1) 0) < (rd (rd_L2 l0 (ji7)) 0)) = false := decide_eq_false c12
       clear c12
       by_cases c13 : (rd (rd_L2 l0 (ji7)) 0) = (rd (rd_L2 l0 x7_1) 0)
       ·
        rw [if_pos c13] at H
        have c13b0 : ((rd (rd_L2 l0 (ji7)) 0) == (rd (rd_L2 l0 x7_1) 0)) = true := beq_iff_eq.mpr c13
        have c13b1 : ((rd (rd_L2 l0 (ji7)) 0) != (rd (rd_L2 l0 x7_1) 0)) = false := bne_eq_false_iff_eq.mpr c13
        clear c13
        by_cases c14 : 1 < ((rd_L2 l0 (ji7)).length : Int)
        case neg =>
         rw [if_neg c14] at H
         exact nS H
        rw [if_pos c14] at H
        have c14b0 : decide (1 < ((rd_L2 l0 (ji7)).length : Int)) = true := decide_eq_true c14
        have c14b1 : decide (1 < (rd_L2 l0 (ji7)).length) = true := decide_eq_true (by omega)
        clear c14
        by_cases c15 : 1 < ((rd_L2 l0 x7_1).length : Int)
        case neg =>
         rw [if_neg c15] at H
         exact nS H
        rw [if_pos c15] at H
        have c15b0 : decide (1 < ((rd_L2 l0 x7_1).length : Int)) = true := decide_eq_true c15
        have c15b1 : decide (1 < (rd_L2 l0 x7_1).length) = true := decide_eq_true (by omega)
        clear c15
        by_cases c16 : (rd (rd_L2 l0 (ji7)) 1) ≥ (rd (rd_L2 l0 x7_1) 1)
        ·
         rw [if_pos c16] at H
         have c16b0 : decide ((rd (rd_L2 l0 x7_1) 1) ≤ (rd (rd_L2 l0 (ji7)) 1)) = true := decide_eq_true c16
         clear c16
         obtain rfl := Option.some.inj H
         have p393 : 0 ≤ (x7_1 : Int) := dA
         have q393 : x7_1 < (l0.length : Int) := dA
         obtain ⟨ad393, A393_0, c393_0, e393, hx393_0, hl393_0, hi393_0⟩ := at_L2 HR0.out x7_1 p393 q393
         cases e393
         have HR393_0 := aM hi393_0
         have HC393_0 := aM hl393_0
         clear hi393_0 hl393_0
         replace p393 := eq_true p393
         replace q393 := eq_true q393
         have p394 : 0 ≤ ((ji7) : Int) := dA
         have q394 : (ji7) < (l0.length : Int) := dA
         obtain ⟨ad394, A394_0, c394_0, e394, hx394_0, hl394_0, hi394_0⟩ := at_L2 HR0.out (ji7) p394 q394
         obtain rfl : ad393 = ad394 := (by injection e394)
         have HR394_0 := aM hi394_0
         have HC394_0 := aM hl394_0
         clear hi394_0 hl394_0
         replace p394 := eq_true p394
         replace q394 := eq_true q394
         have p395 : 0 ≤ (0 : Int) := (by omega)
         have q395 : 0 < ((rd_L2 l0 (ji7)).length : Int) := dA
         obtain ⟨ad395, e395, hx395_0⟩ := Kd.at_int HR394_0.out 0 p395 q395
         cases e395
         have qi395 : (0 < (rd_L2 l0 (ji7)).length) = True := eq_true (by omega)
         (try rw [show ((0 : Int)).toNat = 0 from rfl] at hx395_0)
         (try rw [Addr.add_zero'] at hx395_0)
         replace p395 := eq_true p395
         replace q395 := eq_true q395
         have p396 : 0 ≤ (0 : Int) := (by omega)
         have q396 : 0 < ((rd_L2 l0 x7_1).length : Int) := dA
         obtain ⟨ad396, e396, hx396_0⟩ := Kd.at_int HR393_0.out 0 p396 q396
         cases e396
         have qi396 : (0 < (rd_L2 l0 x7_1).length) = True := eq_true (by omega)
         (try rw [show ((0 : Int)).toNat = 0 from rfl] at hx396_0)
         (try rw [Addr.add_zero'] at hx396_0)
         replace p396 := eq_true p396
         replace q396 := eq_true q396
         have p397 : 0 ≤ ((ji7) : Int) := dA
         have q397 : (ji7) < (l0.length : Int) := dA
         obtain ⟨ad397, A397_0, c397_0, e397, hx397_0, hl397_0, hi397_0⟩ := at_L2 HR0.out (ji7) p397 q397
         obtain rfl : ad393 = ad397 := (by injection e397)
         have HR397_0 := aM hi397_0
         have HC397_0 := aM hl397_0
         clear hi397_0 hl397_0
         replace p397 := eq_true p397
         replace q397 := eq_true q397
         have ea_ := Option.some.inj (hx394_0.symm.trans hx397_0)
         injection ea_ with ea_ en_ ec_
         subst ea_
         subst ec_
         clear en_
         have p398 : 0 ≤ (0 : Int) := (by omega)
         have q398 : 0 < ((rd_L2 l0 (ji7)).length : Int) := dA
         obtain ⟨ad398, e398, hx398_0⟩ := Kd.at_int HR397_0.out 0 p398 q398
         cases e398
         have qi398 : (0 < (rd_L2 l0 (ji7)).length) = True := eq_true (by omega)
         (try rw [show ((0 : Int)).toNat = 0 from rfl] at hx398_0)
         (try rw [Addr.add_zero'] at hx398_0)
         replace p398 := eq_true p398
         replace q398 := eq_true q398
         have p399 : 0 ≤ (0 : Int) := (by omega)
         have q399 : 0 < ((rd_L2 l0 x7_1).length : Int) := dA
         obtain ⟨ad399, e399, hx399_0⟩ := Kd.at_int HR393_0.out 0 p399 q399
         obtain rfl : ad396 = ad399 := (by injection e399)
         have qi399 : (0 < (rd_L2 l0 x7_1).length) = True := eq_true (by omega)
         (try rw [show ((0 : Int)).toNat = 0 from rfl] at hx399_0)
         (try rw [Addr.add_zero'] at hx399_0)
         replace p399 := eq_true p399
         replace q399 := eq_true q399
         have p400 : 0 ≤ ((ji7) : Int) := dA
         have q400 : (ji7) < (l0.length : Int) := dA
         obtain ⟨ad400, A400_0, c400_0, e400, hx400_0, hl400_0, hi400_0⟩ := at_L2 HR0.out (ji7) p400 q400
         obtain rfl : ad393 = ad400 := (by injection e400)
         have HR400_0 := aM hi400_0
         have HC400_0 := aM hl400_0
         clear hi400_0 hl400_0
         replace p400 := eq_true p400
         replace q400 := eq_true q400
         have ea_ := Option.some.inj (hx394_0.symm.trans hx400_0)
         injection ea_ with ea_ en_ ec_
         subst ea_
         subst ec_
         clear en_
         have p401 : 0 ≤ (1 : Int) := (by omega)
         have q401 : 1 < ((rd_L2 l0 (ji7)).length : Int) := dA
         obtain ⟨ad401, e401, hx401_0⟩ := Kd.at_int HR400_0.out 1 p401 q401
         cases e401
         (try simp only [show (1 : Int).toNat = 1 from rfl, Nat.reduceMul, Nat.reduceEqDiff, Go.Addr.add, ↓reduceIte] at hx401_0)
         have qi401 : (1 < (rd_L2 l0 (ji7)).length) = True := eq_true (by omega)
         (try rw [show ((1 : Int)).toNat = 1 from rfl] at hx401_0)
         replace p401 := eq_true p401
         replace q401 := eq_true q401
         have p402 : 0 ≤ (1 : Int) := (by omega)
         have q402 : 1 < ((rd_L2 l0 x7_1).length : Int) := dA
         obtain ⟨ad402, e402, hx402_0⟩ := Kd.at_int HR393_0.out 1 p402 q402
         obtain rfl : ad396 = ad402 := (by injection e402)
         (try simp only [show (1 : Int).toNat = 1 from rfl, Nat.reduceMul, Nat.reduceEqDiff, Go.Addr.add, ↓reduceIte] at hx402_0)
         have qi402 : (1 < (rd_L2 l0 x7_1).length) = True := eq_true (by omega)
         (try rw [show ((1 : Int)).toNat = 1 from rfl] at hx402_0)
         replace p402 := eq_true p402
         replace q402 := eq_true q402
         go_wp2
         repeat (go_quiet (fail); try go_wp2)
         go_ret
         exact ⟨by first | rfl | (simp; done) | (simp only [← hji7] <;> (first | rfl | simp)) | (simp [*]; done), dQ⟩
        ·
         rw [if_neg c16] at H
         have c16b0 : decide ((rd (rd_L2 l0 x7_1) 1) ≤ (rd (rd_L2 l0 (ji7)) 1)) = false := decide_eq_false c16
         clear c16
         have H' := aM H
         clear H
         have p393 : 0 ≤ (x7_1 : Int) := dA
         have q393 : x7_1 < (l0.length : Int) := dA
         obtain ⟨ad393, A393_0, c393_0, e393, hx393_0, hl393_0, hi393_0⟩ := at_L2 HR0.out x7_1 p393 q393
         cases e393
         have HR393_0 := aM hi393_0
         have HC393_0 := aM hl393_0
         clear hi393_0 hl393_0
         replace p393 := eq_true p393
         replace q393 := eq_true q393
         have p394 : 0 ≤ ((ji7) : Int) := dA
         have q394 : (ji7) < (l0.length : Int) := dA
         obtain ⟨ad394, A394_0, c394_0, e394, hx394_0, hl394_0, hi394_0⟩ := at_L2 HR0.out (ji7) p394 q394
         obtain rfl : ad393 = ad394 := (by injection e394)
         have HR394_0 := aM hi394_0
         have HC394_0 := aM hl394_0
         clear hi394_0 hl394_0
         replace p394 := eq_true p394
         replace q394 := eq_true q394
         have p395 : 0 ≤ (0 : Int) := (by omega)
         have q395 : 0 < ((rd_L2 l0 (ji7)).length : Int) := dA
         obtain ⟨ad395, e395, hx395_0⟩ := Kd.at_int HR394_0.out 0 p395 q395
         cases e395
         have qi395 : (0 < (rd_L2 l0 (ji7)).length) = True := eq_true (by omega)
         (try rw [show ((0 : Int)).toNat = 0 from rfl] at hx395_0)
         (try rw [Addr.add_zero'] at hx395_0)
         replace p395 := eq_true p395
         replace q395 := eq_true q395
         have p396 : 0 ≤ (0 : Int) := (by omega)
         have q396 : 0 < ((rd_L2 l0 x7_1).length : Int) := dA
         obtain ⟨ad396, e396, hx396_0⟩ := Kd.at_int HR393_0.out 0 p396 q396
         cases e396
         have qi396 : (0 < (rd_L2 l0 x7_1).length) = True := eq_true (by omega)
         (try rw [show ((0 : Int)).toNat = 0 from rfl] at hx396_0)
         (try rw [Addr.add_zero'] at hx396_0)
         replace p396 := eq_true p396
         replace q396 := eq_true q396
         have p397 : 0 ≤ ((ji7) : Int) := dA
         have q397 : (ji7) < (l0.length : Int) := dA
         obtain ⟨ad397, A397_0, c397_0, e397, hx397_0, hl397_0, hi397_0⟩ := at_L2 HR0.out (ji7) p397 q397
         obtain rfl : ad393 = ad397 := (by injection e397)
         have HR397_0 := aM hi397_0
         have HC397_0 := aM hl397_0
         clear hi397_0 hl397_0
         replace p397 := eq_true p397
         replace q397 := eq_true q397
         have ea_ := Option.some.inj (hx394_0.symm.trans hx397_0)
         injection ea_ with ea_ en_ ec_
         subst ea_
         subst ec_
         clear en_
         have p398 : 0 ≤ (0 : Int) := (by omega)
         have q398 : 0 < ((rd_L2 l0 (ji7)).length : Int) := dA
         obtain ⟨ad398, e398, hx398_0⟩ := Kd.at_int HR397_0.out 0 p398 q398
         cases e398
         have qi398 : (0 < (rd_L2 l0 (ji7)).length) = True := eq_true (by omega)
         (try rw [show ((0 : Int)).toNat = 0 from rfl] at hx398_0)
         (try rw [Addr.add_zero'] at hx398_0)
         replace p398 := eq_true p398
         replace q398 := eq_true q398
         have p399 : 0 ≤ (0 : Int) := (by omega)
         have q399 : 0 < ((rd_L2 l0 x7_1).length : Int) := dA
         obtain ⟨ad399, e399, hx399_0⟩ := Kd.at_int HR393_0.out 0 p399 q399
         obtain rfl : ad396 = ad399 := (by injection e399)
         have qi399 : (0 < (rd_L2 l0 x7_1).length) = True := eq_true (by omega)
         (try rw [show ((0 : Int)).toNat = 0 from rfl] at hx399_0)
         (try rw [Addr.add_zero'] at hx399_0)
         replace p399 := eq_true p399
         replace q399 := eq_true q399
         have p400 : 0 ≤ ((ji7) : Int) := dA
         have q400 : (ji7) < (l0.length : Int) := dA
         obtain ⟨ad400, A400_0, c400_0, e400, hx400_0, hl400_0, hi400_0⟩ := at_L2 HR0.out (ji7) p400 q400
         obtain rfl : ad393 = ad400 := (by injection e400)
         have HR400_0 := aM hi400_0
         have HC400_0 := aM hl400_0
         clear hi400_0 hl400_0
         replace p400 := eq_true p400
         replace q400 := eq_true q400
         have ea_ := Option.some.inj (hx394_0.symm.trans hx400_0)
         injection ea_ with ea_ en_ ec_
         subst ea_
         subst ec_
         clear en_
         have p401 : 0 ≤ (1 : Int) := (by omega)
         have q401 : 1 < ((rd_L2 l0 (ji7)).length : Int) := dA
         obtain ⟨ad401, e401, hx401_0⟩ := Kd.at_int HR400_0.out 1 p401 q401
         cases e401
         (try simp only [show (1 : Int).toNat = 1 from rfl, Nat.reduceMul, Nat.reduceEqDiff, Go.Addr.add, ↓reduceIte] at hx401_0)
         have qi401 : (1 < (rd_L2 l0 (ji7)).length) = True := eq_true (by omega)
         (try rw [show ((1 : Int)).toNat = 1 from rfl] at hx401_0)
         replace p401 := eq_true p401
         replace q401 := eq_true q401
         have p402 : 0 ≤ (1 : Int) := (by omega)
         have q402 : 1 < ((rd_L2 l0 x7_1).length : Int) := dA
         obtain ⟨ad402, e402, hx402_0⟩ := Kd.at_int HR393_0.out 1 p402 q402
         obtain rfl : ad396 = ad402 := (by injection e402)
         (try simp only [show (1 : Int).toNat = 1 from rfl, Nat.reduceMul, Nat.reduceEqDiff, Go.Addr.add, ↓reduceIte] at hx402_0)
         have qi402 : (1 < (rd_L2 l0 x7_1).length) = True := eq_true (by omega)
         (try rw [show ((1 : Int)).toNat = 1 from rfl] at hx402_0)
         replace p402 := eq_true p402
         replace q402 := eq_true q402
         go_wp2
         repeat (go_quiet (fail); try go_wp2)
         go_roundg k1
         case measure => have := HK1.out; omega
         case rel => exact ⟨(wrap64 (x7_1 + 1)), eqQ, H', ⟨by have := HK1.out; omega⟩, dQ⟩
       ·
        rw [if_neg c13] at H
        have c13b0 : ((rd (rd_L2 l0 (ji7)) 0) == (rd (rd_L2 l0 x7_1) 0)) = false := beq_eq_false_iff_ne.mpr c13
        have c13b1 : ((rd (rd_L2 l0 (ji7)) 0) != (rd (rd_L2 l0 x7_1) 0)) = true := bne_iff_ne.mpr c13
        have H' := aM H
        clear H
        have p393 : 0 ≤ (x7_1 : Int) := dA
        have q393 : x7_1 < (l0.length : Int) := dA
        obtain ⟨ad393, A393_0, c393_0, e393, hx393_0, hl393_0, hi393_0⟩ := at_L2 HR0.out x7_1 p393 q393
        cases e393
        have HR393_0 := aM hi393_0
        have HC393_0 := aM hl393_0
        clear hi393_0 hl393_0
        replace p393 := eq_true p393
        replace q393 := eq_true q393
        have p394 : 0 ≤ ((ji7) : Int) := dA
        have q394 : (ji7) < (l0.length : Int) := dA
        obtain ⟨ad394, A394_0, c394_0, e394, hx394_0, hl394_0, hi394_0⟩ := at_L2 HR0.out (ji7) p394 q394
        obtain rfl : ad393 = ad394 := (by injection e394)
        have HR394_0 := aM hi394_0
        have HC394_0 := aM hl394_0
        clear hi394_0 hl394_0
        replace p394 := eq_true p394
        replace q394 := eq_true q394
        have p395 : 0 ≤ (0 : Int) := (by omega)
        have q395 : 0 < ((rd_L2 l0 (ji7)).length : Int) := dA
        obtain ⟨ad395, e395, hx395_0⟩ := Kd.at_int HR394_0.out 0 p395 q395
        cases e395
        have qi395 : (0 < (rd_L2 l0 (ji7)).length) = True := eq_true (by omega)
        (try rw [show ((0 : Int)).toNat = 0 from rfl] at hx395_0)
        (try rw [Addr.add_zero'] at hx395_0)
        replace p395 := eq_true p395
        replace q395 := eq_true q395
        have p396 : 0 ≤ (0 : Int) := (by omega)
        have q396 : 0 < ((rd_L2 l0 x7_1).length : Int) := dA
        obtain ⟨ad396, e396, hx396_0⟩ := Kd.at_int HR393_0.out 0 p396 q396
        cases e396
        have qi396 : (0 < (rd_L2 l0 x7_1).length) = True := eq_true (by omega)
        (try rw [show ((0 : Int)).toNat = 0 from rfl] at hx396_0)
        (try rw [Addr.add_zero'] at hx396_0)
        replace p396 := eq_true p396
        replace q396 := eq_true q396
        have p397 : 0 ≤ ((ji7) : Int) := dA
        have q397 : (ji7) < (l0.length : Int) := dA
        obtain ⟨ad397, A397_0, c397_0, e397, hx397_0, hl397_0, hi397_0⟩ := at_L2 HR0.out (ji7) p397 q397
        obtain rfl : ad393 = ad397 := (by injection e397)
        have HR397_0 := aM hi397_0
        have HC397_0 := aM hl397_0
        clear hi397_0 hl397_0
        replace p397 := eq_true p397
        replace q397 := eq_true q397
        have ea_ := Option.some.inj (hx394_0.symm.trans hx397_0)
        injection ea_ with ea_ en_ ec_
        subst ea_
        subst ec_
        clear en_
        have p398 : 0 ≤ (0 : Int) := (by omega)
        have q398 : 0 < ((rd_L2 l0 (ji7)).length : Int) := dA
        obtain ⟨ad398, e398, hx398_0⟩ := Kd.at_int HR397_0.out 0 p398 q398
        cases e398
        have qi398 : (0 < (rd_L2 l0 (ji7)).length) = True := eq_true (by omega)
        (try rw [show ((0 : Int)).toNat = 0 from rfl] at hx398_0)
        (try rw [Addr.add_zero'] at hx398_0)
        replace p398 := eq_true p398
        replace q398 := eq_true q398
        have p399 : 0 ≤ (0 : Int) := (by omega)
        have q399 : 0 < ((rd_L2 l0 x7_1).length : Int) := dA
        obtain ⟨ad399, e399, hx399_0⟩ := Kd.at_int HR393_0.out 0 p399 q399
        obtain rfl : ad396 = ad399 := (by injection e399)
        have qi399 : (0 < (rd_L2 l0 x7_1).length) = True := eq_true (by omega)
        (try rw [show ((0 : Int)).toNat = 0 from rfl] at hx399_0)
        (try rw [Addr.add_zero'] at hx399_0)
        replace p399 := eq_true p399
        replace q399 := eq_true q399
        go_wp2
        repeat (go_quiet (fail); try go_wp2)
        go_roundg k1
        case measure => have := HK1.out; omega
        case rel => exact ⟨(wrap64 (x7_1 + 1)), eqQ, H', ⟨by have := HK1.out; omega⟩, dQ⟩
     ·
      rw [if_neg c6] at H
      have c6b0 : decide (0 < x7_1) = false := decide_eq_false c6
      clear c6
      have H' := aM H
      clear H
      have p393 : 0 ≤ (x7_1 : Int) := dA
      have q393 : x7_1 < (l0.length : Int) := dA
      obtain ⟨ad393, A393_0, c393_0, e393, hx393_0, hl393_0, hi393_0⟩ := at_L2 HR0.out x7_1 p393 q393
      cases e393
      have HR393_0 := aM hi393_0
      have HC393_0 := aM hl393_0
      clear hi393_0 hl393_0
      replace p393 := eq_true p393
      replace q393 := eq_true q393
      go_wp2
      repeat (go_quiet (fail); try go_wp2)
      go_roundg k1
      case measure => have := HK1.out; omega
      case rel => exact ⟨(wrap64 (x7_1 + 1)), eqQ, H', ⟨by have := HK1.out; omega⟩, dQ⟩
    ·
     rw [if_neg c5] at H
     have c5b0 : (((rd_L2 l0 x7_1).length : Int) == 2) = false := beq_eq_false_iff_ne.mpr c5
     have c5b1 : (((rd_L2 l0 x7_1).length : Int) != 2) = true := bne_iff_ne.mpr c5
     obtain rfl := Option.some.inj H
     have p393 : 0 ≤ (x7_1 : Int) := dA
     have q393 : x7_1 < (l0.length : Int) := dA
     obtain ⟨ad393, A393_0, c393_0, e393, hx393_0, hl393_0, hi393_0⟩ := at_L2 HR0.out x7_1 p393 q393
     cases e393
     have HR393_0 := aM hi393_0
     have HC393_0 := aM hl393_0
     clear hi393_0 hl393_0
     replace p393 := eq_true p393
     replace q393 := eq_true q393
     go_wp2
     repeat (go_quiet (fail); try go_wp2)
     go_ret
     exact ⟨by first | rfl | (simp; done) | (simp [*]; done), dQ⟩
   ·
    rw [if_neg c2] at H
    have c2b0 : decide (x7_1 < (l0.length : Int)) = false := decide_eq_false c2
    clear c2
    obtain rfl := Option.some.inj H
    go_wp2
    repeat (go_quiet (fail); try go_wp2)
    go_ret
    exact ⟨by first | rfl | (simp; done) | (simp [*]; done), dQ⟩

/-! ### laws_gSum: function 27 -/
def laws_gSum.l0 : Nat → Int → List Int → Int → Int → Option (Int)
 | 0, _, _, _, _ => none
 | k + 1, x3, x6, x7, x8 => if x8 < x7 then (if 0 ≤ x8 then (if x8 < (x6.length : Int) then (laws_gSum.l0 k (wrap64 (x3 + (rd x6 x8))) x6 x7 (wrap64 (x8 + 1))) else (none)) else (none)) else (some x3)
def laws_gSum.f (k : Nat) (l0 : List Int) : Option (Int) := laws_gSum.l0 k 0 l0 (l0.length : Int) 0
theorem laws_gSum.mono_l : ∀ k, (∀ y0 y1 y2 y3, LeO (laws_gSum.l0 k y0 y1 y2 y3) (laws_gSum.l0 (k + 1) y0 y1 y2 y3))
 | 0 => fun _ _ _ _ r h => by simp [laws_gSum.l0] at h
 | k + 1 => by
  have ih0 := laws_gSum.mono_l k
  ·
   intro y0 y1 y2 y3
   unfold laws_gSum.l0
   repeat' first
   | (with_reducible exact ih0 _ _ _ _)
   | (with_reducible exact LeO.refl _)
   | (with_reducible exact LeO.none _)
   | (with_reducible refine LeO.ite ?_ ?_)
   | (with_reducible refine LeO.bind ?_ (fun _ => ?_))
theorem laws_gSum.mono : ∀ a0 k, LeO (laws_gSum.f k a0) (laws_gSum.f (k + 1) a0) := by
 intro a0 k
 have ih0 := laws_gSum.mono_l k
 unfold laws_gSum.f
 repeat' first
   | (with_reducible exact ih0 _ _ _ _)
   | (with_reducible exact LeO.refl _)
   | (with_reducible exact LeO.none _)
   | (with_reducible refine LeO.ite ?_ ?_)
   | (with_reducible refine LeO.bind ?_ (fun _ => ?_))
set_option maxHeartbeats 8000000 in
set_option maxRecDepth 100000 in
theorem laws_gSum.calls (k : Nat) (A0 : Option Addr) (c0 : Nat) (l0 : List Int) (r : Int) (w : World) (hr0 : Kd.C (Kd.int .i64) w A0 l0.length l0) (hc0 : l0.length ≤ c0) (h : laws_gSum.f k l0 = some r) :
  Calls Tryz.prog 27 #[.slice A0 l0.length c0] w fun e w' => e = .returned (.int .i64 r) ∧ Drawn0 w w' := by
 have HR0 := aM hr0
 have HC0 := aM hc0
 clear hr0 hc0
 have H : (laws_gSum.l0 k 0 l0 (l0.length : Int) 0) = some r := h
 clear h
 have H' := aM H
 clear H
 go_enter Tryz.func27, Tryz.ntmps27
 go_wp2
 go_loopg [3, 8] k (fun kq v3 v8 w' => ∃ (x3_1 : Int) (x8_1 : Int), v3 = .int .i64 x3_1 ∧ v8 = .int .i64 x8_1 ∧ Aside0 (laws_gSum.l0 kq x3_1 l0 (l0.length : Int) x8_1 = some r) ∧ Aside0 (kq ≤ k) ∧ Drawn0 w w')
 case atStart => exact ⟨(0), (0), eqQ, eqQ, H', ⟨Nat.le_refl _⟩, dQ⟩
 case round =>
  clear H'
  obtain ⟨x3_1, x8_1, rfl, rfl, HA, HK1, ⟨m1, rfl⟩⟩ := hrel
  cases gk with
  | zero => exact absurd HA.out (by simp [laws_gSum.l0])
  | succ k1 =>
   have H := HA.out
   clear HA
   simp only [laws_gSum.l0] at H
   by_cases c2 : x8_1 < (l0.length : Int)
   case neg =>
    rw [if_neg c2] at H
    have c2b0 : decide (x8_1 < (l0.length : Int)) = false := decide_eq_false c2
    clear c2
    obtain rfl := Option.some.inj H
    go_wp2
    go_ret
    exact ⟨by first | rfl | (simp; done) | (simp [*]; done), dQ⟩

   rw [if_pos c2] at H
   have c2b0 : decide (x8_1 < (l0.length : Int)) = true := decide_eq_true c2
   clear c2
   by_cases c3 : 0 ≤ x8_1
   case neg =>
    rw [if_neg c3] at H
    exact nS H
   rw [if_pos c3] at H
   have c3b0 : decide (0 ≤ x8_1) = true := decide_eq_true c3
   clear c3
   by_cases c4 : x8_1 < (l0.length : Int)
   case neg =>
    rw [if_neg c4] at H
    exact nS H
   rw [if_pos c4] at H
   have c4b0 : decide (x8_1 < (l0.length : Int)) = true := decide_eq_true c4
   clear c4
   have H' := aM H
   clear H
   have p403 : 0 ≤ (x8_1 : Int) := dA
   have q403 : x8_1 < (l0.length : Int) := dA
   obtain ⟨ad403, e403, hx403_0⟩ := Kd.at_int HR0.out x8_1 p403 q403
   cases e403
   replace p403 := eq_true p403
   replace q403 := eq_true q403
   go_wp2
   go_roundg k1
   case measure => have := HK1.out; omega
   case rel => exact ⟨(wrap64 (x3_1 + (rd l0 x8_1))), (wrap64 (x8_1 + 1)), eqQ, eqQ, H', ⟨by have := HK1.out; omega⟩, dQ⟩
/-! ### laws_gHas: function 28 -/
def laws_gHas.l0 : Nat → Int → List Int → Int → Int → Option (Bool)
 | 0, _, _, _, _ => none
 | k + 1, x1, x7, x8, x9 => if x9 < x8 then (if 0 ≤ x9 then (if x9 < (x7.length : Int) then (if (rd x7 x9) = x1 then (some true) else (laws_gHas.l0 k x1 x7 x8 (wrap64 (x9 + 1)))) else (none)) else (none)) else (some false)
def laws_gHas.f (k : Nat) (l0 : List Int) (a1 : Int) : Option (Bool) := laws_gHas.l0 k a1 l0 (l0.length : Int) 0
theorem laws_gHas.mono_l : ∀ k, (∀ y0 y1 y2 y3, LeO (laws_gHas.l0 k y0 y1 y2 y3) (laws_gHas.l0 (k + 1) y0 y1 y2 y3))
 | 0 => fun _ _ _ _ r h => by simp [laws_gHas.l0] at h
 | k + 1 => by
  have ih0 := laws_gHas.mono_l k
  ·
   intro y0 y1 y2 y3
   unfold laws_gHas.l0
   repeat' first
   | (with_reducible exact ih0 _ _ _ _)
   | (with_reducible exact LeO.refl _)
   | (with_reducible exact LeO.none _)
   | (with_reducible refine LeO.ite ?_ ?_)
   | (with_reducible refine LeO.bind ?_ (fun _ => ?_))
theorem laws_gHas.mono : ∀ a0 a1 k, LeO (laws_gHas.f k a0 a1) (laws_gHas.f (k + 1) a0 a1) := by
 intro a0 a1 k
 have ih0 := laws_gHas.mono_l k
 unfold laws_gHas.f
 repeat' first
   | (with_reducible exact ih0 _ _ _ _)
   | (with_reducible exact LeO.refl _)
   | (with_reducible exact LeO.none _)
   | (with_reducible refine LeO.ite ?_ ?_)
   | (with_reducible refine LeO.bind ?_ (fun _ => ?_))
set_option maxHeartbeats 8000000 in
set_option maxRecDepth 100000 in
theorem laws_gHas.calls (k : Nat) (A0 : Option Addr) (c0 : Nat) (l0 : List Int) (a1 : Int) (r : Bool) (w : World) (hr0 : Kd.C (Kd.int .i64) w A0 l0.length l0) (hc0 : l0.length ≤ c0) (h : laws_gHas.f k l0 a1 = some r) :
  Calls Tryz.prog 28 #[.slice A0 l0.length c0, .int .i64 a1] w fun e w' => e = .returned (.bool r) ∧ Drawn0 w w' := by
 have HR0 := aM hr0
 have HC0 := aM hc0
 clear hr0 hc0
 have H : (laws_gHas.l0 k a1 l0 (l0.length : Int) 0) = some r := h
 clear h
 have H' := aM H
 clear H
 go_enter Tryz.func28, Tryz.ntmps28
 go_wp2
 go_loopg [9] k (fun kq v9 w' => ∃ (x9_1 : Int), v9 = .int .i64 x9_1 ∧ Aside0 (laws_gHas.l0 kq a1 l0 (l0.length : Int) x9_1 = some r) ∧ Aside0 (kq ≤ k) ∧ Drawn0 w w')
 case atStart => exact ⟨(0), eqQ, H', ⟨Nat.le_refl _⟩, dQ⟩
 case round =>
  clear H'
  try clear c2
  try clear p2
  obtain ⟨x9_1, rfl, HA, HK1, ⟨m1, rfl⟩⟩ := hrel
  cases gk with
  | zero => exact absurd HA.out (by simp [laws_gHas.l0])
  | succ k1 =>
   have H := HA.out
   clear HA
   simp only [laws_gHas.l0] at H
   by_cases c3 : x9_1 < (l0.length : Int)
   case neg =>
    rw [if_neg c3] at H
    have c3b0 : decide (x9_1 < (l0.length : Int)) = false := decide_eq_false c3
    clear c3
    obtain rfl := Option.some.inj H
    go_wp2
    go_ret
    exact ⟨by first | rfl | (simp; done) | (simp [*]; done), dQ⟩

   rw [if_pos c3] at H
   have c3b0 : decide (x9_1 < (l0.length : Int)) = true := decide_eq_true c3
   clear c3
   by_cases c4 : 0 ≤ x9_1
   case neg =>
    rw [if_neg c4] at H
    exact nS H
   rw [if_pos c4] at H
   have c4b0 : decide (0 ≤ x9_1) = true := decide_eq_true c4
   clear c4
   by_cases c5 : x9_1 < (l0.length : Int)
   case neg =>
    rw [if_neg c5] at H
    exact nS H
   rw [if_pos c5] at H
   have c5b0 : decide (x9_1 < (l0.length : Int)) = true := decide_eq_true c5
   clear c5
   by_cases c6 : (rd l0 x9_1) = a1
   ·
    rw [if_pos c6] at H
    have c6b0 : ((rd l0 x9_1) == a1) = true := beq_iff_eq.mpr c6
    have c6b1 : ((rd l0 x9_1) != a1) = false := bne_eq_false_iff_eq.mpr c6
    clear c6
    obtain rfl := Option.some.inj H
    have p404 : 0 ≤ (x9_1 : Int) := dA
    have q404 : x9_1 < (l0.length : Int) := dA
    obtain ⟨ad404, e404, hx404_0⟩ := Kd.at_int HR0.out x9_1 p404 q404
    cases e404
    replace p404 := eq_true p404
    replace q404 := eq_true q404
    go_wp2
    go_ret
    exact ⟨by first | rfl | (simp; done) | (simp [*]; done), dQ⟩
   ·
    rw [if_neg c6] at H
    have c6b0 : ((rd l0 x9_1) == a1) = false := beq_eq_false_iff_ne.mpr c6
    have c6b1 : ((rd l0 x9_1) != a1) = true := bne_iff_ne.mpr c6
    have H' := aM H
    clear H
    have p404 : 0 ≤ (x9_1 : Int) := dA
    have q404 : x9_1 < (l0.length : Int) := dA
    obtain ⟨ad404, e404, hx404_0⟩ := Kd.at_int HR0.out x9_1 p404 q404
    cases e404
    replace p404 := eq_true p404
    replace q404 := eq_true q404
    go_wp2
    go_roundg k1
    case measure => have := HK1.out; omega
    case rel => exact ⟨(wrap64 (x9_1 + 1)), eqQ, H', ⟨by have := HK1.out; omega⟩, dQ⟩
/-! ### spec_DrawYearsOfMultiple: function 29 -/
def spec_DrawYearsOfMultiple.f (k : Nat) (l0 : List Int) : Option (List Int × Int × Int × Int) := (spec_DrawTimesOlder.f k l0).bind fun bt405 => ((spec_l1Cur_among.f l0 3 0 (([2, 3, 4, 5, 7, 10, 29, 1, 0, (-2), 4611686018427387904] : List Int))).bind fun bt414 => (some (bt405.1, bt405.2.1, bt405.2.2, bt414.1)))
theorem spec_DrawYearsOfMultiple.mono : ∀ a0 k, LeO (spec_DrawYearsOfMultiple.f k a0) (spec_DrawYearsOfMultiple.f (k + 1) a0) := by
 intro a0 k
 unfold spec_DrawYearsOfMultiple.f
 repeat' first
   | (with_reducible exact spec_DrawTimesOlder.mono _ _)
   | (with_reducible exact LeO.refl _)
   | (with_reducible exact LeO.none _)
   | (with_reducible refine LeO.ite ?_ ?_)
   | (with_reducible refine LeO.bind ?_ (fun _ => ?_))
set_option maxHeartbeats 8000000 in
set_option maxRecDepth 100000 in
theorem spec_DrawYearsOfMultiple.calls (k : Nat) (A0 : Option Addr) (c0 : Nat) (l0 : List Int) (r1 : List Int) (r2 : Int) (r3 : Int) (r4 : Int) (w : World) (hr0 : Kd.C (Kd.int .u8) w A0 l0.length l0) (hc0 : l0.length ≤ c0) (h : spec_DrawYearsOfMultiple.f k l0 = some (r1, r2, r3, r4)) :
  Calls Tryz.prog 29 #[.slice A0 l0.length c0] w fun e w' => ∃ v0_ : Value, e = .returned (.tuple #[v0_, .int .i64 r2, .int .i64 r3, .int .i64 r4]) ∧ Kd.R (Kd.int .i64) 3 w' w.heap.size (fun _ => True) v0_ r1 ∧ Below w.heap.size w w' := by
 have hu69 := Tryz.underlying69
 have HR0 := aM hr0
 have HC0 := aM hc0
 clear hr0 hc0
 have HB := aM (Below.refl w.heap.size w)
 have H : ((spec_DrawTimesOlder.f k l0).bind fun bt405 => ((spec_l1Cur_among.f l0 3 0 (([2, 3, 4, 5, 7, 10, 29, 1, 0, (-2), 4611686018427387904] : List Int))).bind fun bt414 => (some (bt405.1, bt405.2.1, bt405.2.2, bt414.1)))) = some (r1, r2, r3, r4) := h
 clear h
 replace H := oB H
 obtain ⟨⟨t405, t406, t407⟩, A20, H⟩ := H
 (try dsimp only at H)
 have A2 := aM A20
 clear A20
 obtain ⟨y411, hy411⟩ : ∃ y_ : List Int, y_ = (([2, 3, 4, 5, 7, 10, 29, 1, 0, (-2), 4611686018427387904] : List Int)) := ⟨_, rfl⟩
 replace H : ((spec_l1Cur_among.f l0 3 0 y411).bind fun bt414 => (some (t405, t406, t407, bt414.1))) = some (r1, r2, r3, r4) := by first | (rw [hy411]; with_reducible exact H) | (have H2_ := (Option.bind_some _ _).symm.trans H; rw [hy411]; with_reducible exact H2_) | (have H2_ := (Option.bind_some _ _).symm.trans H; with_reducible exact H2_) | with_reducible exact H | (rw [hy411]; exact H) | exact H
 have Ny411 := aM hy411
 clear hy411
 replace H := oB H
 obtain ⟨⟨t414, t415, t416⟩, A30, H⟩ := H
 (try dsimp only at H)
 have A3 := aM A30
 clear A30
 simp only [Option.some.injEq, Prod.mk.injEq] at H
 obtain ⟨rfl, rfl, rfl, rfl⟩ := H
 go_enter Tryz.func29, Tryz.ntmps29
 go_wp2_with (first | ((with_reducible refine gate_callee (f := 41) rfl ?_); refine gL 12 Tryz.func41 #[.slice A0 l0.length c0] rfl rfl rfl rfl ?_; (with_reducible refine (spec_DrawTimesOlder.calls k _ _ l0 t405 t406 t407 _ ?side1 ?side2 A2.out).mono ?_); (case side1 => exact cQ HR0.out); (case side2 => exact HC0.out); rintro e w4 ⟨v408, rfl, ho0, hb⟩; refine ⟨_, rfl, ?_⟩; have HO409 := aM (Kd.R_lower ho0 (bZ HB.out)); replace HB := aM (bS HB.out hb); (try clear hb ho0)) | ((with_reducible refine gate_dst (N := 18) rfl ?_); refine box_event ?hg (N := 18) ?hd (cs := #[.slice A0 l0.length c0, .int .i64 3, .int .u64 0]) (t := 69) ?hr ?_; (case hd => rfl); (case hg => rfl); (case hr => first | (go_simp; done) | (go_simp; rfl)); intro gb410 hg w5 hbox hb; replace HO409 := aM (Kd.R_below (rQ HO409.out) hb); have HI410 := aM ((⟨_, _, hbox, (by rw [hg]; exact (bZ HB.out) : w.heap.size ≤ gb410), HR0.out⟩ : IsS69 w w5 gb410 l0 3 0)); replace HB := aM (bS HB.out hb); clear hb hbox hg) | ((with_reducible refine gate_dst (N := 23) rfl ?_); refine Kd.R_lit (Kd.int .i64) _ 3 ?hg (N := 23) ?hd (xs := ([2, 3, 4, 5, 7, 10, 29, 1, 0, (-2), 4611686018427387904] : List Int)) (inner := [.int .i64 2, .int .i64 3, .int .i64 4, .int .i64 5, .int .i64 7, .int .i64 10, .int .i64 29, .int .i64 1, .int .i64 0, .int .i64 (-2), .int .i64 4611686018427387904]) (ok := fun _ => True) (okp := fun _ => True) ?hr ?hp (fun _ hk => hk) trivial (Below.refl _ _) (Nat.le_refl _) (by simp) ?_; (case hd => rfl); (case hg => rfl); (case hr => first | (go_simp; done) | (go_simp; rfl)); (case hp => exact (Reps.one (show Kd.M (Kd.int .i64) _ _ _ 2 [.int .i64 2] from rfl) (Reps.one (show Kd.M (Kd.int .i64) _ _ _ 3 [.int .i64 3] from rfl) (Reps.one (show Kd.M (Kd.int .i64) _ _ _ 4 [.int .i64 4] from rfl) (Reps.one (show Kd.M (Kd.int .i64) _ _ _ 5 [.int .i64 5] from rfl) (Reps.one (show Kd.M (Kd.int .i64) _ _ _ 7 [.int .i64 7] from rfl) (Reps.one (show Kd.M (Kd.int .i64) _ _ _ 10 [.int .i64 10] from rfl) (Reps.one (show Kd.M (Kd.int .i64) _ _ _ 29 [.int .i64 29] from rfl) (Reps.one (show Kd.M (Kd.int .i64) _ _ _ 1 [.int .i64 1] from rfl) (Reps.one (show Kd.M (Kd.int .i64) _ _ _ 0 [.int .i64 0] from rfl) (Reps.one (show Kd.M (Kd.int .i64) _ _ _ (-2) [.int .i64 (-2)] from rfl) (Reps.one (show Kd.M (Kd.int .i64) _ _ _ 4611686018427387904 [.int .i64 4611686018427387904] from rfl) (Reps.none _ _))))))))))))); intro v412 w6 ho7 hb hg_ hnew_; clear hg_ hnew_; (first | rw [← Ny411.out] at ho7 | (simp only [Int.reduceToNat] at ho7; rw [← Ny411.out] at ho7)); have HO413 := aM (Kd.R_lower (Kd.R_new' ho7 (Kd.R_lt (rQ HO409.out))) (below_size (bI HI410.out HB.out))); replace HO409 := aM (Kd.R_elder' (rQ HO409.out) (Kd.R_base ho7) hb); replace HB := aM (below_step (bI HI410.out HB.out) hb); replace HI410 := aM (IsS69.below (iQ HI410.out) hb); clear hb ho7; obtain ⟨Ao8, co8, eo8⟩ := Kd.R_slice HO413.out; subst eo8) | ((with_reducible refine gate_callee (f := 65) rfl ?_); refine gL 24 Tryz.func65 #[.pointer (some ⟨gb410, 0, none⟩), .slice Ao8 y411.length co8] rfl rfl rfl rfl ?_; (with_reducible refine (spec_l1Cur_among.calls gb410 l0 3 0 _ _ y411 t414 t415 t416 w _ ?side1 ?side2 ?side3 ?side4 ?side5 A3.out).mono ?_); (case side1 => exact iQ HI410.out); (case side2 => exact bI HI410.out HB.out); (case side3 => exact cQ ((Kd.R_reads' HO413.out).2.2)); (case side4 => exact (Kd.R_reads' HO413.out).2.1); (case side5 => exact far_slice (IsS69.own_ne HI410.out HO413.out (by decide))); rintro e w9 ⟨rfl, hi, hb, hk⟩; refine ⟨_, rfl, ?_⟩; replace HO409 := aM (Kd.R_mono (Kd.R_keep (IsS69.apart (show IsS69 w _ gb410 l0 3 0 from iQ HI410.out) (rQ HO409.out) (by decide)) hk (fun _ h => h.2)) (fun _ h => h.1)); replace HO413 := aM (Kd.R_mono (Kd.R_keep (IsS69.apart (show IsS69 w _ gb410 l0 3 0 from iQ HI410.out) (rQ HO413.out) (by decide)) hk (fun _ h => h.2)) (fun _ h => h.1)); replace HB := aM (hb); replace HI410 := aM (hi); (try clear hb hk hi)))
 refine bodyPost_ret (results_list (rs := [.tmp 2, .tmp 3, .tmp 4, .tmp 5]) rfl (by simp) (.tmp (.tmp (.tmp (.tmp .nil))))) rfl ?_
 exact ⟨_, erQ, by (with_reducible repeat (first | apply Kd.R_alloc | apply Kd.R_drewN | apply Kd.R_drew)); exact Kd.R_mono HO409.out (fun _ hk => trivial), bI HI410.out HB.out⟩

end Go.Proofs.YtcfgkpifloghlaaGreatDoor.P
