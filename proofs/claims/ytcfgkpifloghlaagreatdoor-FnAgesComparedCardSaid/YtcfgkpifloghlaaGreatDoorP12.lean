-- Written by drive.py (wip/ of this repository) over the kit's print: functions, contracts, rows. Lean checks it. -- SQUEEZED
import Derived.Test.YtcfgkpifloghlaaGreatDoorP0
import Derived.Test.YtcfgkpifloghlaaGreatDoorP1
import Derived.Test.YtcfgkpifloghlaaGreatDoorP2
import Derived.Test.YtcfgkpifloghlaaGreatDoorP3
import Derived.Test.YtcfgkpifloghlaaGreatDoorP4
import Derived.Test.YtcfgkpifloghlaaGreatDoorP9
import Derived.Test.YtcfgkpifloghlaaGreatDoorP10
namespace Go.Proofs.YtcfgkpifloghlaaGreatDoor.P
open Go.RowKit Go.Proofs.YtcfgkpifloghlaaGreatDoorW.PrintWords Go.Proofs.YtcfgkpifloghlaaGreatDoorW.PrintLast Go.Proofs.YtcfgkpifloghlaaGreatDoorW.PrintMore
attribute [local go_sem] max2_int min2_int max_two min_two max_three min_three max_four min_four undef_guard   -- for this text's walks alone
set_option linter.unusedVariables false
set_option linter.unusedSimpArgs false

/-! ### spec_YearsOfMultiple: function 30 -/
mutual
def spec_YearsOfMultiple.j0 : Nat → List Int → Int → Int → Int → Bool → Option (Int × Bool)
 | 0, _, _, _, _, _ => none
 | k + 1, x0, x1, x2, x3, x20 => if x20 = true then (some (0, false)) else ((spec_agMultiples.f k x0 x1 x2).bind fun t418 => (spec_YearsOfMultiple.l0 k x3 t418 (t418.length : Int) 0))
def spec_YearsOfMultiple.l0 : Nat → Int → List (List Int) → Int → Int → Option (Int × Bool)
 | 0, _, _, _, _ => none
 | k + 1, x3, x24, x25, x26 => if x26 < x25 then (if 0 ≤ x26 then (if x26 < (x24.length : Int) then (if 1 < ((rd_L2 x24 x26).length : Int) then (if (rd (rd_L2 x24 x26) 1) = x3 then (if 0 < ((rd_L2 x24 x26).length : Int) then (some (rd (rd_L2 x24 x26) 0, true)) else (none)) else (spec_YearsOfMultiple.l0 k x3 x24 x25 (wrap64 (x26 + 1)))) else (none)) else (none)) else (none)) else (some (0, false))
end
def spec_YearsOfMultiple.f (k : Nat) (l0 : List Int) (a1 : Int) (a2 : Int) (a3 : Int) : Option (Int × Bool) := (spec_agTwo.f k l0 a1 a2).bind fun t417 => (if t417 = true then (spec_YearsOfMultiple.j0 k l0 a1 a2 a3 (decide (a3 < 2))) else (spec_YearsOfMultiple.j0 k l0 a1 a2 a3 true))
theorem spec_YearsOfMultiple.mono_l : ∀ k, (∀ y0 y1 y2 y3 y4, LeO (spec_YearsOfMultiple.j0 k y0 y1 y2 y3 y4) (spec_YearsOfMultiple.j0 (k + 1) y0 y1 y2 y3 y4)) ∧ (∀ y0 y1 y2 y3, LeO (spec_YearsOfMultiple.l0 k y0 y1 y2 y3) (spec_YearsOfMultiple.l0 (k + 1) y0 y1 y2 y3))
 | 0 => ⟨fun _ _ _ _ _ r h => by simp [spec_YearsOfMultiple.j0] at h, fun _ _ _ _ r h => by simp [spec_YearsOfMultiple.l0] at h⟩
 | k + 1 => by
  obtain ⟨ih0, ih1⟩ := spec_YearsOfMultiple.mono_l k
  refine ⟨?_, ?_⟩
  ·
   intro y0 y1 y2 y3 y4
   unfold spec_YearsOfMultiple.j0
   repeat' first
   | (with_reducible exact ih0 _ _ _ _ _)
   | (with_reducible exact ih1 _ _ _ _)
   | (with_reducible exact spec_agMultiples.mono _ _ _ _)
   | (with_reducible exact spec_agTwo.mono _ _ _ _)
   | (with_reducible exact LeO.refl _)
   | (with_reducible exact LeO.none _)
   | (with_reducible refine LeO.ite ?_ ?_)
   | (with_reducible refine LeO.bind ?_ (fun _ => ?_))
  ·
   intro y0 y1 y2 y3
   unfold spec_YearsOfMultiple.l0
   repeat' first
   | (with_reducible exact ih0 _ _ _ _ _)
   | (with_reducible exact ih1 _ _ _ _)
   | (with_reducible exact spec_agMultiples.mono _ _ _ _)
   | (with_reducible exact spec_agTwo.mono _ _ _ _)
   | (with_reducible exact LeO.refl _)
   | (with_reducible exact LeO.none _)
   | (with_reducible refine LeO.ite ?_ ?_)
   | (with_reducible refine LeO.bind ?_ (fun _ => ?_))
theorem spec_YearsOfMultiple.mono : ∀ a0 a1 a2 a3 k, LeO (spec_YearsOfMultiple.f k a0 a1 a2 a3) (spec_YearsOfMultiple.f (k + 1) a0 a1 a2 a3) := by
 intro a0 a1 a2 a3 k
 obtain ⟨ih0, ih1⟩ := spec_YearsOfMultiple.mono_l k
 unfold spec_YearsOfMultiple.f
 repeat' first
   | (with_reducible exact ih0 _ _ _ _ _)
   | (with_reducible exact ih1 _ _ _ _)
   | (with_reducible exact spec_agMultiples.mono _ _ _ _)
   | (with_reducible exact spec_agTwo.mono _ _ _ _)
   | (with_reducible exact LeO.refl _)
   | (with_reducible exact LeO.none _)
   | (with_reducible refine LeO.ite ?_ ?_)
   | (with_reducible refine LeO.bind ?_ (fun _ => ?_))
set_option maxHeartbeats 8000000 in
set_option maxRecDepth 100000 in
theorem spec_YearsOfMultiple.calls (k : Nat) (A0 : Option Addr) (c0 : Nat) (l0 : List Int) (a1 : Int) (a2 : Int) (a3 : Int) (r1 : Int) (r2 : Bool) (w : World) (hr0 : Kd.C (Kd.int .i64) w A0 l0.length l0) (hc0 : l0.length ≤ c0) (h : spec_YearsOfMultiple.f k l0 a1 a2 a3 = some (r1, r2)) :
  Calls Tryz.prog 30 #[.slice A0 l0.length c0, .int .i64 a1, .int .i64 a2, .int .i64 a3] w fun e w' => e = .returned (.tuple #[.int .i64 r1, .bool r2]) ∧ Below w.heap.size w w' := by
 have HR0 := aM hr0
 have HC0 := aM hc0
 clear hr0 hc0
 have HB := aM (Below.refl w.heap.size w)
 have H : ((spec_agTwo.f k l0 a1 a2).bind fun t417 => (if t417 = true then (spec_YearsOfMultiple.j0 k l0 a1 a2 a3 (decide (a3 < 2))) else (spec_YearsOfMultiple.j0 k l0 a1 a2 a3 true))) = some (r1, r2) := h
 clear h
 have HC5 := aM H
 clear H
 go_enter Tryz.func30, Tryz.ntmps30
 go_upto_region 1 with (fail)
 go_cut [20] (fun v20 wc => ∃ (kq : Nat) (x20_4 : Bool), v20 = .bool x20_4 ∧ Aside0 (spec_YearsOfMultiple.j0 kq l0 a1 a2 a3 x20_4 = some (r1, r2)) ∧ Aside0 (kq ≤ k) ∧ Aside0 (Below w.heap.size w wc))
 case first =>
  have H := HC5.out
  clear HC5
  replace H := oB H
  obtain ⟨t417, A60, H⟩ := H
  (try dsimp only at H)
  have A6 := aM A60
  clear A60
  by_cases c7 : t417 = true
  case pos =>
   subst c7
   replace H := (if_pos rfl).symm.trans H
   have H' := aM H
   clear H
   go_wp2_with (first | ((with_reducible refine gate_callee (f := 45) rfl ?_); refine gL 15 Tryz.func45 #[.slice A0 l0.length c0, .int .i64 a1, .int .i64 a2] rfl rfl rfl rfl ?_; (with_reducible refine (spec_agTwo.calls k _ _ l0 a1 a2 true _ ?side1 ?side2 A6.out).mono ?_); (case side1 => exact cQ (Kd.C_below HR0.out HB.out)); (case side2 => exact HC0.out); rintro e w' ⟨rfl, ⟨nd, rfl⟩⟩; refine ⟨_, rfl, ?_⟩))
   go_meet
   case rel => exact ⟨_, (decide (a3 < 2)), eqQ, H', ⟨by first | omega | exact Nat.le_refl _⟩, ⟨bE HB.out⟩⟩
  replace c7 := Bool.eq_false_iff.mpr c7
  subst c7
  have H1 : (spec_YearsOfMultiple.j0 k l0 a1 a2 a3 true) = some (r1, r2) := by rw [if_neg (show ¬ (false = true) by decide)] at H; exact H
  clear H
  have H := H1
  clear H1
  have H' := aM H
  clear H
  go_wp2_with (first | ((with_reducible refine gate_callee (f := 45) rfl ?_); refine gL 15 Tryz.func45 #[.slice A0 l0.length c0, .int .i64 a1, .int .i64 a2] rfl rfl rfl rfl ?_; (with_reducible refine (spec_agTwo.calls k _ _ l0 a1 a2 false _ ?side1 ?side2 A6.out).mono ?_); (case side1 => exact cQ (Kd.C_below HR0.out HB.out)); (case side2 => exact HC0.out); rintro e w' ⟨rfl, ⟨nd, rfl⟩⟩; refine ⟨_, rfl, ?_⟩))
  go_meet
  case rel => exact ⟨_, (true), eqQ, H', ⟨by first | omega | exact Nat.le_refl _⟩, ⟨bE HB.out⟩⟩
 case rest =>
  clear HC5
  try clear p2
  try clear c3
  try clear c4
  try clear c7
  obtain ⟨kq, x20_4, rfl, HA, HJ4, HB⟩ := hcut
  cases kq with
  | zero => exact absurd HA.out (by simp [spec_YearsOfMultiple.j0])
  | succ kj4 =>
   have H := HA.out
   clear HA
   simp only [spec_YearsOfMultiple.j0] at H
   by_cases c8 : x20_4 = true
   case pos =>
    subst c8
    replace H := (if_pos rfl).symm.trans H
    simp only [Option.some.injEq, Prod.mk.injEq] at H
    obtain ⟨rfl, rfl⟩ := H
    go_wp2
    go_ret2
    exact ⟨erQ, bE HB.out⟩
   replace c8 := Bool.eq_false_iff.mpr c8
   subst c8
   have H1 : ((spec_agMultiples.f kj4 l0 a1 a2).bind fun t418 => (spec_YearsOfMultiple.l0 kj4 a3 t418 (t418.length : Int) 0)) = some (r1, r2) := by rw [if_neg (show ¬ (false = true) by decide)] at H; exact H
   clear H
   have H := H1
   clear H1
   replace H := oB H
   obtain ⟨t418, A90, H⟩ := H
   (try dsimp only at H)
   have A9 := aM A90
   clear A90
   have H' := aM H
   clear H
   go_wp2_with (first | ((with_reducible refine gate_callee (f := 46) rfl ?_); refine gL 24 Tryz.func46 #[.slice A0 l0.length c0, .int .i64 a1, .int .i64 a2] rfl rfl rfl rfl ?_; (with_reducible refine (spec_agMultiples.calls kj4 _ _ l0 a1 a2 t418 _ ?side1 ?side2 A9.out).mono ?_); (case side1 => exact cQ (Kd.C_below HR0.out HB.out)); (case side2 => exact HC0.out); rintro e w10 ⟨v419, rfl, ho0, hb⟩; refine ⟨_, rfl, ?_⟩; have HO420 := aM (Kd.S_lower ho0 (bZ HB.out)); replace HB := aM (bS HB.out hb); (try clear hb ho0); obtain ⟨Ao11, co11, eo11⟩ := Kd.S_slice HO420.out; subst eo11))
   go_loopg [26] kj4 (fun kq v26 w' => ∃ (x26_2 : Int), v26 = .int .i64 x26_2 ∧ Aside0 (spec_YearsOfMultiple.l0 kq a3 t418 (t418.length : Int) x26_2 = some (r1, r2)) ∧ Aside0 (kq ≤ kj4) ∧ Aside0 (Kd.S (Kd.slice 3 (Kd.int .i64)) 24 w' w.heap.size (fun _ => True) (.slice Ao11 t418.length co11) t418) ∧ Aside0 (Below w.heap.size w w'))
   case atStart => exact ⟨(0), eqQ, H', ⟨Nat.le_refl _⟩, ⟨sQ HO420.out⟩, ⟨bE HB.out⟩⟩
   case round =>
    clear H'
    try clear p2
    try clear c3
    try clear c4
    try clear c7
    try clear c8
    try clear p2
    obtain ⟨x26_2, rfl, HA, HK2, HO_24, HB⟩ := hrel
    cases gk with
    | zero => exact absurd HA.out (by simp [spec_YearsOfMultiple.l0])
    | succ k2 =>
     have H := HA.out
     clear HA
     simp only [spec_YearsOfMultiple.l0] at H
     by_cases c12 : x26_2 < (t418.length : Int)
     ·
      rw [if_pos c12] at H
      have c12b0 : decide (x26_2 < (t418.length : Int)) = true := decide_eq_true c12
      clear c12
      by_cases c13 : 0 ≤ x26_2
      case neg =>
       rw [if_neg c13] at H
       exact nS H
      rw [if_pos c13] at H
      have c13b0 : decide (0 ≤ x26_2) = true := decide_eq_true c13
      clear c13
      by_cases c14 : x26_2 < (t418.length : Int)
      case neg =>
       rw [if_neg c14] at H
       exact nS H
      rw [if_pos c14] at H
      have c14b0 : decide (x26_2 < (t418.length : Int)) = true := decide_eq_true c14
      clear c14
      by_cases c15 : 1 < ((rd_L2 t418 x26_2).length : Int)
      case neg =>
       rw [if_neg c15] at H
       exact nS H
      rw [if_pos c15] at H
      have c15b0 : decide (1 < ((rd_L2 t418 x26_2).length : Int)) = true := decide_eq_true c15
      have c15b1 : decide (1 < (rd_L2 t418 x26_2).length) = true := decide_eq_true (by omega)
      clear c15
      by_cases c16 : (rd (rd_L2 t418 x26_2) 1) = a3
      ·
       rw [if_pos c16] at H
       have c16b0 : ((rd (rd_L2 t418 x26_2) 1) == a3) = true := beq_iff_eq.mpr c16
       have c16b1 : ((rd (rd_L2 t418 x26_2) 1) != a3) = false := bne_eq_false_iff_eq.mpr c16
       clear c16
       by_cases c17 : 0 < ((rd_L2 t418 x26_2).length : Int)
       case neg =>
        rw [if_neg c17] at H
        exact nS H
       rw [if_pos c17] at H
       have c17b0 : decide (0 < ((rd_L2 t418 x26_2).length : Int)) = true := decide_eq_true c17
       have c17b1 : decide (0 < (rd_L2 t418 x26_2).length) = true := decide_eq_true (by omega)
       clear c17
       simp only [Option.some.injEq, Prod.mk.injEq] at H
       obtain ⟨rfl, rfl⟩ := H
       have p421 : 0 ≤ (x26_2 : Int) := dA
       have q421 : x26_2 < (t418.length : Int) := dA
       obtain ⟨ad421, A421_0, c421_0, e421, hx421_0, hl421_0, hi421_0⟩ := at_L2 (Kd.S_reads' HO_24.out).2.2 x26_2 p421 q421
       cases e421
       obtain ⟨ce421, hce421, hMe421, hcc421⟩ := Kd.S_get HO_24.out [] x26_2 p421 (by first | exact q421 | exact dA | (have e_ := (Kd.S_reads' HO_24.out).1; omega))
       obtain ⟨ve421_0, rfl, ge421_0⟩ := hMe421
       have hv421_0 := hcc421 0 _ rfl
       rw [Nat.add_zero, show ((Kd.slice 3 (Kd.int .i64))).sz = 1 from rfl, Nat.mul_one] at hv421_0
       replace hv421_0 := Option.some.inj (hv421_0.symm.trans hx421_0)
       rw [hv421_0] at ge421_0
       have HL421_0 := aM (show Kd.R (Kd.int .i64) 3 _ _ _ _ (rd_L2 t418 x26_2) from ge421_0)
       clear hv421_0 ge421_0
       clear hcc421 hce421
       have HR421_0 := aM hi421_0
       have HC421_0 := aM hl421_0
       clear hi421_0 hl421_0
       replace p421 := eq_true p421
       replace q421 := eq_true q421
       have p422 : 0 ≤ (1 : Int) := (by omega)
       have q422 : 1 < ((rd_L2 t418 x26_2).length : Int) := dA
       obtain ⟨ad422, e422, hx422_0⟩ := Kd.at_int (by repeat (first | (with_reducible exact HR421_0.out) | (with_reducible refine Kd.C_alloc ?_ _) | (with_reducible refine Kd.C_drewN ?_ _) | (with_reducible refine Kd.C_drew ?_) | exact HR421_0.out)) 1 p422 q422
       cases e422
       (try simp only [show (1 : Int).toNat = 1 from rfl, Nat.reduceMul, Nat.reduceEqDiff, Go.Addr.add, ↓reduceIte] at hx422_0)
       have qi422 : (1 < (rd_L2 t418 x26_2).length) = True := eq_true (by omega)
       (try rw [show ((1 : Int)).toNat = 1 from rfl] at hx422_0)
       replace p422 := eq_true p422
       replace q422 := eq_true q422
       have p423 : 0 ≤ (0 : Int) := (by omega)
       have q423 : 0 < ((rd_L2 t418 x26_2).length : Int) := dA
       obtain ⟨ad423, e423, hx423_0⟩ := Kd.at_int (by repeat (first | (with_reducible exact HR421_0.out) | (with_reducible refine Kd.C_alloc ?_ _) | (with_reducible refine Kd.C_drewN ?_ _) | (with_reducible refine Kd.C_drew ?_) | exact HR421_0.out)) 0 p423 q423
       obtain rfl : ad422 = ad423 := (by injection e423)
       have qi423 : (0 < (rd_L2 t418 x26_2).length) = True := eq_true (by omega)
       (try rw [show ((0 : Int)).toNat = 0 from rfl] at hx423_0)
       (try rw [Addr.add_zero'] at hx423_0)
       replace p423 := eq_true p423
       replace q423 := eq_true q423
       go_wp2
       go_ret2
       exact ⟨erQ, bE HB.out⟩
      ·
       rw [if_neg c16] at H
       have c16b0 : ((rd (rd_L2 t418 x26_2) 1) == a3) = false := beq_eq_false_iff_ne.mpr c16
       have c16b1 : ((rd (rd_L2 t418 x26_2) 1) != a3) = true := bne_iff_ne.mpr c16
       have H' := aM H
       clear H
       have p421 : 0 ≤ (x26_2 : Int) := dA
       have q421 : x26_2 < (t418.length : Int) := dA
       obtain ⟨ad421, A421_0, c421_0, e421, hx421_0, hl421_0, hi421_0⟩ := at_L2 (Kd.S_reads' HO_24.out).2.2 x26_2 p421 q421
       cases e421
       obtain ⟨ce421, hce421, hMe421, hcc421⟩ := Kd.S_get HO_24.out [] x26_2 p421 (by first | exact q421 | exact dA | (have e_ := (Kd.S_reads' HO_24.out).1; omega))
       obtain ⟨ve421_0, rfl, ge421_0⟩ := hMe421
       have hv421_0 := hcc421 0 _ rfl
       rw [Nat.add_zero, show ((Kd.slice 3 (Kd.int .i64))).sz = 1 from rfl, Nat.mul_one] at hv421_0
       replace hv421_0 := Option.some.inj (hv421_0.symm.trans hx421_0)
       rw [hv421_0] at ge421_0
       have HL421_0 := aM (show Kd.R (Kd.int .i64) 3 _ _ _ _ (rd_L2 t418 x26_2) from ge421_0)
       clear hv421_0 ge421_0
       clear hcc421 hce421
       have HR421_0 := aM hi421_0
       have HC421_0 := aM hl421_0
       clear hi421_0 hl421_0
       replace p421 := eq_true p421
       replace q421 := eq_true q421
       have p422 : 0 ≤ (1 : Int) := (by omega)
       have q422 : 1 < ((rd_L2 t418 x26_2).length : Int) := dA
       obtain ⟨ad422, e422, hx422_0⟩ := Kd.at_int (by repeat (first | (with_reducible exact HR421_0.out) | (with_reducible refine Kd.C_alloc ?_ _) | (with_reducible refine Kd.C_drewN ?_ _) | (with_reducible refine Kd.C_drew ?_) | exact HR421_0.out)) 1 p422 q422
       cases e422
       (try simp only [show (1 : Int).toNat = 1 from rfl, Nat.reduceMul, Nat.reduceEqDiff, Go.Addr.add, ↓reduceIte] at hx422_0)
       have qi422 : (1 < (rd_L2 t418 x26_2).length) = True := eq_true (by omega)
       (try rw [show ((1 : Int)).toNat = 1 from rfl] at hx422_0)
       replace p422 := eq_true p422
       replace q422 := eq_true q422
       go_wp2
       go_roundg k2
       case measure => have := HJ4.out; have := HK2.out; omega
       case rel => exact ⟨(wrap64 (x26_2 + 1)), eqQ, H', ⟨by have := HJ4.out; have := HK2.out; omega⟩, ⟨sQ HO_24.out⟩, ⟨bE HB.out⟩⟩
     ·
      rw [if_neg c12] at H
      have c12b0 : decide (x26_2 < (t418.length : Int)) = false := decide_eq_false c12
      clear c12
      simp only [Option.some.injEq, Prod.mk.injEq] at H
      obtain ⟨rfl, rfl⟩ := H
      go_wp2
      go_ret2
      exact ⟨erQ, bE HB.out⟩

/-! ### spec_DrawYearsAsSum: function 31 -/
def spec_DrawYearsAsSum.f (k : Nat) (l0 : List Int) : Option (List Int × Int) := (spec_l1Cur_ages.f k l0 0 0).bind fun bt425 => ((spec_l1Cur_person.f l0 bt425.2.1 bt425.2.2 bt425.1).bind fun bt430 => (some (bt425.1, bt430.1)))
theorem spec_DrawYearsAsSum.mono : ∀ a0 k, LeO (spec_DrawYearsAsSum.f k a0) (spec_DrawYearsAsSum.f (k + 1) a0) := by
 intro a0 k
 unfold spec_DrawYearsAsSum.f
 repeat' first
   | (with_reducible exact spec_l1Cur_ages.mono _ _ _ _)
   | (with_reducible exact LeO.refl _)
   | (with_reducible exact LeO.none _)
   | (with_reducible refine LeO.ite ?_ ?_)
   | (with_reducible refine LeO.bind ?_ (fun _ => ?_))
set_option maxHeartbeats 8000000 in
set_option maxRecDepth 100000 in
theorem spec_DrawYearsAsSum.calls (k : Nat) (A0 : Option Addr) (c0 : Nat) (l0 : List Int) (r1 : List Int) (r2 : Int) (w : World) (hr0 : Kd.C (Kd.int .u8) w A0 l0.length l0) (hc0 : l0.length ≤ c0) (h : spec_DrawYearsAsSum.f k l0 = some (r1, r2)) :
  Calls Tryz.prog 31 #[.slice A0 l0.length c0] w fun e w' => ∃ v0_ : Value, e = .returned (.tuple #[v0_, .int .i64 r2]) ∧ Kd.R (Kd.int .i64) 3 w' w.heap.size (fun _ => True) v0_ r1 ∧ Below w.heap.size w w' := by
 have hu69 := Tryz.underlying69
 have HR0 := aM hr0
 have HC0 := aM hc0
 clear hr0 hc0
 have HB := aM (Below.refl w.heap.size w)
 have H : ((spec_l1Cur_ages.f k l0 0 0).bind fun bt425 => ((spec_l1Cur_person.f l0 bt425.2.1 bt425.2.2 bt425.1).bind fun bt430 => (some (bt425.1, bt430.1)))) = some (r1, r2) := h
 clear h
 replace H := oB H
 obtain ⟨⟨t425, t428, t429⟩, A20, H⟩ := H
 (try dsimp only at H)
 have A2 := aM A20
 clear A20
 replace H := oB H
 obtain ⟨⟨t430, t431, t432⟩, A30, H⟩ := H
 (try dsimp only at H)
 have A3 := aM A30
 clear A30
 simp only [Option.some.injEq, Prod.mk.injEq] at H
 obtain ⟨rfl, rfl⟩ := H
 go_enter Tryz.func31, Tryz.ntmps31
 go_wp2_with (first | ((with_reducible refine gate_dst (N := 8) rfl ?_); refine box_event ?hg (N := 8) ?hd (cs := #[.slice A0 l0.length c0, .int .i64 0, .int .u64 0]) (t := 69) ?hr ?_; (case hd => rfl); (case hg => rfl); (case hr => first | (go_simp; done) | (go_simp; rfl)); intro gb424 hg w4 hbox hb; have HI424 := aM ((⟨_, _, hbox, (by rw [hg]; exact (bZ HB.out) : w.heap.size ≤ gb424), HR0.out⟩ : IsS69 w w4 gb424 l0 0 0)); replace HB := aM (bS HB.out hb); clear hb hbox hg) | ((with_reducible refine gate_callee (f := 66) rfl ?_); refine gL 10 Tryz.func66 #[.pointer (some ⟨gb424, 0, none⟩)] rfl rfl rfl rfl ?_; (with_reducible refine (spec_l1Cur_ages.calls k gb424 l0 0 0 t425 t428 t429 w _ ?side1 ?side2 A2.out).mono ?_); (case side1 => exact iQ HI424.out); (case side2 => exact bI HI424.out HB.out); rintro e w5 ⟨v426, rfl, ho0, hi, hb, hk⟩; refine ⟨_, rfl, ?_⟩; have HO427 := aM (Kd.R_lower ho0 (below_size (bI HI424.out HB.out))); replace HB := aM (hb); replace HI424 := aM (hi); (try clear hb hk hi ho0); obtain ⟨Ao6, co6, eo6⟩ := Kd.R_slice HO427.out; subst eo6) | ((with_reducible refine gate_callee (f := 67) rfl ?_); refine gL 14 Tryz.func67 #[.pointer (some ⟨gb424, 0, none⟩), .slice Ao6 t425.length co6] rfl rfl rfl rfl ?_; (with_reducible refine (spec_l1Cur_person.calls gb424 l0 t428 t429 _ _ t425 t430 t431 t432 w _ ?side1 ?side2 ?side3 ?side4 ?side5 A3.out).mono ?_); (case side1 => exact iQ HI424.out); (case side2 => exact bI HI424.out HB.out); (case side3 => exact cQ ((Kd.R_reads' HO427.out).2.2)); (case side4 => exact (Kd.R_reads' HO427.out).2.1); (case side5 => exact far_slice (IsS69.own_ne HI424.out HO427.out (by decide))); rintro e w7 ⟨rfl, hi, hb, hk⟩; refine ⟨_, rfl, ?_⟩; replace HO427 := aM (Kd.R_mono (Kd.R_keep (IsS69.apart (show IsS69 w _ gb424 l0 t428 t429 from iQ HI424.out) (rQ HO427.out) (by decide)) hk (fun _ h => h.2)) (fun _ h => h.1)); replace HB := aM (hb); replace HI424 := aM (hi); (try clear hb hk hi)))
 go_ret2
 exact ⟨_, erQ, rQ HO427.out, bI HI424.out HB.out⟩

/-! ### impl_YearsAsSum_1: function 68 -/
def impl_YearsAsSum_1.p (a : Int) (k : Nat) (m : List Int) : Option Bool := if 0 ≤ a then (if a < (m.length : Int) then (impl_total.f k m).bind fun t => some (wrap64 (2 * rd m a) == t) else none) else none
theorem impl_YearsAsSum_1.mono (a : Int) : MonoP (impl_YearsAsSum_1.p a) := fun m k => LeO.ite (LeO.ite (LeO.bind (impl_total.mono m k) fun _ => LeO.refl _) (LeO.refl _)) (LeO.refl _)
set_option maxHeartbeats 4000000 in
set_option maxRecDepth 100000 in
theorem impl_YearsAsSum_1.calls (a : Int) (b1 : Nat) (w : World) (k1 : w.cell? ⟨b1, 0, none⟩ = some (.int .i64 a)) : PredL Tryz.prog 68 #[.pointer (some ⟨b1, 0, none⟩)] (impl_YearsAsSum_1.p a) w := fun W A c m k b hb hC hc h => by
 have c1 := pw_cell_below hb k1
 have HR0 := aM hC
 have HC0 := aM hc
 clear hb k1 hC hc
 show Calls Tryz.prog 68 #[.slice A m.length c, .pointer (some ⟨b1, 0, none⟩)] W fun e w' => e = .returned (.bool b) ∧ Below W.heap.size W w'
 unfold impl_YearsAsSum_1.p at h
 have q1a : 0 ≤ a := by
  by_cases q : 0 ≤ a
  case pos =>
   exact q
  rw [if_neg q] at h; cases h
 rw [if_pos q1a] at h
 have q1b : a < (m.length : Int) := by
  by_cases q : a < (m.length : Int)
  case pos =>
   exact q
  rw [if_neg q] at h; cases h
 rw [if_pos q1b] at h
 have p1 : 0 ≤ a := q1a
 have r1 : a < (m.length : Int) := q1b
 obtain ⟨ad1, e1, hx1⟩ := Kd.at_int HR0.out a p1 r1
 cases e1
 replace p1 := eq_true p1
 replace r1 := eq_true r1
 replace h := Option.bind_eq_some_iff.mp h
 obtain ⟨t, A20, H⟩ := h
 have A2 := aM A20
 obtain rfl := Option.some.inj H
 clear A20 H
 go_enter Tryz.func68, Tryz.ntmps68
 go_wp2
 go_quiet (first | (go_at_call 57; (with_reducible refine (impl_total.calls k _ _ m t _ ?side1 ?side2 A2.out).mono ?_); (case side1 => repeat (first | exact HR0.out | (with_reducible refine Kd.C_drewN ?_ _) | (with_reducible refine Kd.C_drew ?_))); (case side2 => exact HC0.out); rintro e w' ⟨rfl, ⟨nd, rfl⟩⟩; (try first | exact q1 | exact q2)))
 go_wp2
 go_ret
 exact ⟨by first | rfl | (simp; done), by repeat (first | exact Below.refl _ _ | apply pw_below_drewN | apply below_drew1)⟩

/-! ### impl_YearsAsSum: function 32 -/
def impl_YearsAsSum.f (k : Nat) (l0 : List Int) (a1 : Int) : Option (Int × Bool) := (impl_AreAges.f l0).bind fun g0 => if g0 = true then ((impl_is.f l0 a1).bind fun g1 => if g1 = true then (if (l0.length : Int) = 1 then (some (0, false)) else (firstY.f (impl_YearsAsSum_1.p a1) k l0)) else (some (0, false))) else (some (0, false))
theorem impl_YearsAsSum.mono : ∀ l0 a1 k, LeO (impl_YearsAsSum.f k l0 a1) (impl_YearsAsSum.f (k + 1) l0 a1) := fun l0 a1 k => LeO.bind (LeO.refl _) fun _ => LeO.ite (LeO.bind (LeO.refl _) fun _ => LeO.ite (LeO.ite (LeO.refl _) (firstY.mono _ (impl_YearsAsSum_1.mono a1) _ _)) (LeO.refl _)) (LeO.refl _)
set_option maxHeartbeats 4000000 in
set_option maxRecDepth 100000 in
theorem impl_YearsAsSum.calls (k : Nat) (A0 : Option Addr) (c0 : Nat) (l0 : List Int) (a1 : Int) (r1 : Int) (r2 : Bool) (w : World) (hr0 : Kd.C (Kd.int .i64) w A0 l0.length l0) (hc0 : l0.length ≤ c0) (h : impl_YearsAsSum.f k l0 a1 = some (r1, r2)) :
  Calls Tryz.prog 32 #[.slice A0 l0.length c0, .int .i64 a1] w fun e w' => e = .returned (.tuple #[.int .i64 r1, .bool r2]) ∧ Below w.heap.size w w' := by
 have HR0 := aM hr0
 have HC0 := aM hc0
 clear hr0 hc0
 have eg : ∀ args w, (callFunc 68 args).run Tryz.prog w = .ok (.enter 68 args) w := enters_of Tryz.func68 (by kernel_rfl) rfl
 have EG := aM eg
 clear eg
 have HB := aM (show Below w.heap.size w (w.alloc (.cells #[.int .i64 a1] 3)) from (Below.refl w.heap.size w).alloc (by simp) _)
 have c1 : (w.alloc (.cells #[.int .i64 a1] 3)).cell? ⟨w.heap.size, 0, none⟩ = some (.int .i64 a1) := (show (w.alloc (.cells #[.int .i64 a1] 3)).cell? ⟨w.heap.size, 0, none⟩ = some (.int .i64 a1) from (World.cell?_alloc_at _ _ _ _ (by simp)).trans rfl)
 have H := h
 clear h
 unfold impl_YearsAsSum.f at H
 replace H := oB H
 obtain ⟨g0, A00, H⟩ := H
 have A0 := aM A00
 clear A00
 cases g0 with
 | false =>
  have HE := aM (Option.some.inj (show some (0, false) = some (r1, r2) from H))
  clear H
  go_enter Tryz.func32, Tryz.ntmps32
  go_wp2_with (first | (go_at_call 47; (with_reducible refine (impl_AreAges.calls _ _ l0 false _ (Kd.C_below HR0.out HB.out) HC0.out A0.out).mono ?_); rintro e w1 ⟨rfl, hb0⟩; have hb := hb0; clear hb0; replace HB := aM (below_step HB.out hb); have c1_ := pw_cell_below hb c1; clear c1; have c1 := c1_; clear c1_; clear hb))
  go_ret2
  exact ⟨by have := HE.out; simp only [Prod.mk.injEq] at this; rw [← this.1, ← this.2]; first | rfl | (simp; done), HB.out⟩
 | true =>
  replace H := (if_pos rfl).symm.trans H
  replace H := oB H
  obtain ⟨g1, A10, H⟩ := H
  have A1 := aM A10
  clear A10
  cases g1 with
  | false =>
   have HE := aM (Option.some.inj (show some (0, false) = some (r1, r2) from H))
   clear H
   go_enter Tryz.func32, Tryz.ntmps32
   go_wp2_with (first | (go_at_call 47; (with_reducible refine (impl_AreAges.calls _ _ l0 true _ (Kd.C_below HR0.out HB.out) HC0.out A0.out).mono ?_); rintro e w1 ⟨rfl, hb0⟩; have hb := hb0; clear hb0; replace HB := aM (below_step HB.out hb); have c1_ := pw_cell_below hb c1; clear c1; have c1 := c1_; clear c1_; clear hb) | (go_at_call 48; (with_reducible refine (impl_is.calls _ _ l0 a1 false _ (Kd.C_below HR0.out HB.out) HC0.out A1.out).mono ?_); rintro e w1 ⟨rfl, hb0⟩; have hb := hb0.below; clear hb0; replace HB := aM (below_step HB.out hb); have c1_ := pw_cell_below hb c1; clear c1; have c1 := c1_; clear c1_; clear hb))
   go_ret2
   exact ⟨by have := HE.out; simp only [Prod.mk.injEq] at this; rw [← this.1, ← this.2]; first | rfl | (simp; done), HB.out⟩
  | true =>
   replace H := (if_pos rfl).symm.trans H
   by_cases q2 : (l0.length : Int) = 1
   case pos =>
    rw [if_pos q2] at H
    have q2b : ((l0.length : Int) == 1) = true := beq_iff_eq.mpr q2
    have HE := aM (Option.some.inj H)
    clear H q2
    go_enter Tryz.func32, Tryz.ntmps32
    go_wp2_with (first | (go_at_call 47; (with_reducible refine (impl_AreAges.calls _ _ l0 true _ (Kd.C_below HR0.out HB.out) HC0.out A0.out).mono ?_); rintro e w1 ⟨rfl, hb0⟩; have hb := hb0; clear hb0; replace HB := aM (below_step HB.out hb); have c1_ := pw_cell_below hb c1; clear c1; have c1 := c1_; clear c1_; clear hb) | (go_at_call 48; (with_reducible refine (impl_is.calls _ _ l0 a1 true _ (Kd.C_below HR0.out HB.out) HC0.out A1.out).mono ?_); rintro e w1 ⟨rfl, hb0⟩; have hb := hb0.below; clear hb0; replace HB := aM (below_step HB.out hb); have c1_ := pw_cell_below hb c1; clear c1; have c1 := c1_; clear c1_; clear hb))
    go_ret2
    exact ⟨by have := HE.out; simp only [Prod.mk.injEq] at this; rw [← this.1, ← this.2]; first | rfl | (simp; done), HB.out⟩
   rw [if_neg q2] at H
   have q2b : ((l0.length : Int) == 1) = false := beq_eq_false_iff_ne.mpr q2
   clear q2
   have HE := aM H
   clear H
   go_enter Tryz.func32, Tryz.ntmps32
   go_wp2_with (first | (go_at_call 47; (with_reducible refine (impl_AreAges.calls _ _ l0 true _ (Kd.C_below HR0.out HB.out) HC0.out A0.out).mono ?_); rintro e w1 ⟨rfl, hb0⟩; have hb := hb0; clear hb0; replace HB := aM (below_step HB.out hb); have c1_ := pw_cell_below hb c1; clear c1; have c1 := c1_; clear c1_; clear hb) | (go_at_call 48; (with_reducible refine (impl_is.calls _ _ l0 a1 true _ (Kd.C_below HR0.out HB.out) HC0.out A1.out).mono ?_); rintro e w1 ⟨rfl, hb0⟩; have hb := hb0.below; clear hb0; replace HB := aM (below_step HB.out hb); have c1_ := pw_cell_below hb c1; clear c1; have c1 := c1_; clear c1_; clear hb) | (go_at_call 61; (with_reducible refine (impl_firstYears.calls (impl_YearsAsSum_1.p a1) 68 #[.pointer (some ⟨w.heap.size, 0, none⟩)] k _ _ l0 r1 r2 _ (impl_YearsAsSum_1.calls a1 _ _ c1) EG.out (Kd.C_below HR0.out HB.out) HC0.out HE.out).mono ?_); rintro e w1 ⟨rfl, hb⟩; replace HB := aM (below_step HB.out hb); clear hb))
   go_ret2
   exact ⟨by first | rfl | (simp; done), HB.out⟩

/-! ### spec_agIn: function 70 -/
def spec_agIn.l0 : Nat → Int → List Int → List Int → Int → Int → Option (List Int)
 | 0, _, _, _, _, _ => none
 | k + 1, x1, x5, x8, x9, x10 => if x10 < x9 then (if 0 ≤ x10 then (if x10 < (x8.length : Int) then (if x5.length < 17592186044416 then (spec_agIn.l0 k x1 (x5 ++ [wrap64 ((rd x8 x10) + x1)]) x8 x9 (wrap64 (x10 + 1))) else (none)) else (none)) else (none)) else (some x5)
def spec_agIn.f (k : Nat) (l0 : List Int) (a1 : Int) : Option (List Int) := spec_agIn.l0 k a1 ([] : List Int) l0 (l0.length : Int) 0
theorem spec_agIn.mono_l : ∀ k, (∀ y0 y1 y2 y3 y4, LeO (spec_agIn.l0 k y0 y1 y2 y3 y4) (spec_agIn.l0 (k + 1) y0 y1 y2 y3 y4))
 | 0 => fun _ _ _ _ _ r h => by simp [spec_agIn.l0] at h
 | k + 1 => by
  have ih0 := spec_agIn.mono_l k
  ·
   intro y0 y1 y2 y3 y4
   unfold spec_agIn.l0
   repeat' first
   | (with_reducible exact ih0 _ _ _ _ _)
   | (with_reducible exact LeO.refl _)
   | (with_reducible exact LeO.none _)
   | (with_reducible refine LeO.ite ?_ ?_)
   | (with_reducible refine LeO.bind ?_ (fun _ => ?_))
theorem spec_agIn.mono : ∀ a0 a1 k, LeO (spec_agIn.f k a0 a1) (spec_agIn.f (k + 1) a0 a1) := by
 intro a0 a1 k
 have ih0 := spec_agIn.mono_l k
 unfold spec_agIn.f
 repeat' first
   | (with_reducible exact ih0 _ _ _ _ _)
   | (with_reducible exact LeO.refl _)
   | (with_reducible exact LeO.none _)
   | (with_reducible refine LeO.ite ?_ ?_)
   | (with_reducible refine LeO.bind ?_ (fun _ => ?_))
set_option maxHeartbeats 8000000 in
set_option maxRecDepth 100000 in
theorem spec_agIn.calls (k : Nat) (A0 : Option Addr) (c0 : Nat) (l0 : List Int) (a1 : Int) (r : List Int) (w : World) (hr0 : Kd.C (Kd.int .i64) w A0 l0.length l0) (hc0 : l0.length ≤ c0) (h : spec_agIn.f k l0 a1 = some r) :
  Calls Tryz.prog 70 #[.slice A0 l0.length c0, .int .i64 a1] w fun e w' => ∃ v0_ : Value, e = .returned (v0_) ∧ Kd.R (Kd.int .i64) 3 w' w.heap.size (fun _ => True) v0_ r ∧ Below w.heap.size w w' := by
 have HR0 := aM hr0
 have HC0 := aM hc0
 clear hr0 hc0
 have HB := aM (Below.refl w.heap.size w)
 have H : (spec_agIn.l0 k a1 ([] : List Int) l0 (l0.length : Int) 0) = some r := h
 clear h
 have H' := aM H
 clear H
 go_enter Tryz.func70, Tryz.ntmps70
 go_wp2
 go_loopg [5, 10] k (fun kq v5 v10 w' => ∃ (x5_1 : List Int) (x10_1 : Int), v10 = .int .i64 x10_1 ∧ Aside0 (spec_agIn.l0 kq a1 x5_1 l0 (l0.length : Int) x10_1 = some r) ∧ Aside0 (kq ≤ k) ∧ Aside0 (Kd.R (Kd.int .i64) 3 w' w.heap.size (fun _ => True) v5 x5_1) ∧ Aside0 (Below w.heap.size w w'))
 case atStart => exact ⟨(([] : List Int)), (0), eqQ, H', ⟨Nat.le_refl _⟩, ⟨by first | exact Kd.R_nil _ _ _ _ _ | exact Kd.N_nil _ _ _ _ _ | exact Kd.V_nil _ _ _ _ _ | exact Kd.Q_nil _ _ _ _ _ | exact Kd.S_nil _ _ _ _ _⟩, ⟨bE HB.out⟩⟩
 case round =>
  clear H'
  try clear p2
  obtain ⟨x5_1, x10_1, rfl, HA, HK1, HO_5, HB⟩ := hrel
  cases gk with
  | zero => exact absurd HA.out (by simp [spec_agIn.l0])
  | succ k1 =>
   have H := HA.out
   clear HA
   simp only [spec_agIn.l0] at H
   by_cases c3 : x10_1 < (l0.length : Int)
   case neg =>
    rw [if_neg c3] at H
    have c3b0 : decide (x10_1 < (l0.length : Int)) = false := decide_eq_false c3
    clear c3
    obtain rfl := Option.some.inj H
    go_wp2
    go_ret
    exact ⟨_, erQ, rQ HO_5.out, bE HB.out⟩

   rw [if_pos c3] at H
   have c3b0 : decide (x10_1 < (l0.length : Int)) = true := decide_eq_true c3
   clear c3
   by_cases c4 : 0 ≤ x10_1
   case neg =>
    rw [if_neg c4] at H
    exact nS H
   rw [if_pos c4] at H
   have c4b0 : decide (0 ≤ x10_1) = true := decide_eq_true c4
   clear c4
   by_cases c5 : x10_1 < (l0.length : Int)
   case neg =>
    rw [if_neg c5] at H
    exact nS H
   rw [if_pos c5] at H
   have c5b0 : decide (x10_1 < (l0.length : Int)) = true := decide_eq_true c5
   clear c5
   by_cases c6 : x5_1.length < 17592186044416
   case neg =>
    rw [if_neg c6] at H
    exact nS H
   rw [if_pos c6] at H
   have LMc6 := aM c6
   clear c6
   obtain ⟨y434, hy434⟩ : ∃ y_ : List Int, y_ = (x5_1 ++ [wrap64 ((rd l0 x10_1) + a1)]) := ⟨_, rfl⟩
   replace H : (spec_agIn.l0 k1 a1 y434 l0 (l0.length : Int) (wrap64 (x10_1 + 1))) = some r := by first | (rw [hy434]; with_reducible exact H) | (have H2_ := (Option.bind_some _ _).symm.trans H; rw [hy434]; with_reducible exact H2_) | (have H2_ := (Option.bind_some _ _).symm.trans H; with_reducible exact H2_) | with_reducible exact H | (rw [hy434]; exact H) | exact H
   have Ny434 := aM hy434
   clear hy434
   have H' := aM H
   clear H
   have p433 : 0 ≤ (x10_1 : Int) := dA
   have q433 : x10_1 < (l0.length : Int) := dA
   obtain ⟨ad433, e433, hx433_0⟩ := Kd.at_int HR0.out x10_1 p433 q433
   cases e433
   replace hx433_0 := (HB.out.cell (World.block_lt_of_cell? w _ hx433_0)).trans hx433_0
   replace p433 := eq_true p433
   replace q433 := eq_true q433
   go_wp2_with (first | ((with_reducible refine gate_builtin (b := .append) (xs := #[.tmp 14, .tmp 18]) rfl ?_); at_builtin; refine Kd.R_append (Kd.int .i64) (w0 := w) w.heap.size rfl (.tmp 14) (.tmp 18) 24 3 (.int .i64 0) 8 rfl Tryz.underlying24 info3 rfl (by decide) (by omega) u5 x5_1 (wrap64 ((rd l0 x10_1) + a1)) [.int .i64 (wrap64 ((rd l0 x10_1) + a1))] (fun _ => True) (fun _ => False) rfl rfl ?aP (fun _ hk => hk.elim) ?aF ?aO ?aB ?aS ?aL ?_; (case aP => exact rfl); (case aB => exact (bE HB.out)); (case aF => exact (fun _ _ => trivial)); (case aO => exact (rQ HO_5.out)); (case aS => exact (bZ HB.out)); (case aL => have := LMc6.out; omega); intro v435 w7 ho hb hg hat; rw [← Ny434.out] at ho; replace HB := aM (hb); have HO436 := aM (ho); clear HO_5; clear ho hb hg hat))
   go_roundg k1
   case measure => have := HK1.out; omega
   case rel => exact ⟨(y434), (wrap64 (x10_1 + 1)), eqQ, H', ⟨by have := HK1.out; omega⟩, ⟨rQ HO436.out⟩, ⟨bE HB.out⟩⟩
/-! ### spec_YearsAsSum: function 33 -/
mutual
def spec_YearsAsSum.j0 : Nat → List Int → Int → Bool → Option (Int × Bool)
 | 0, _, _, _ => none
 | k + 1, x0, x1, x18 => if x18 = true then (some (0, false)) else ((spec_agRange.f k x0).bind fun bt438 => (spec_YearsAsSum.l0 k x0 x1 bt438.2 bt438.1))
def spec_YearsAsSum.l0 : Nat → List Int → Int → Int → Int → Option (Int × Bool)
 | 0, _, _, _, _ => none
 | k + 1, x0, x1, x7, x8 => if x8 ≤ x7 then ((spec_agIn.f k x0 x8).bind fun t440 => ((spec_agSum.f k t440).bind fun t443 => (if 0 ≤ x1 then (if x1 < (t440.length : Int) then (if t443 = (wrap64 (2 * (rd t440 x1))) then (some (x8, true)) else (spec_YearsAsSum.l0 k x0 x1 x7 (wrap64 (x8 + 1)))) else (none)) else (none)))) else (some (0, false))
end
def spec_YearsAsSum.f (k : Nat) (l0 : List Int) (a1 : Int) : Option (Int × Bool) := (spec_agWho.f k l0 a1).bind fun t437 => (if t437 = true then (spec_YearsAsSum.j0 k l0 a1 ((l0.length : Int) == 1)) else (spec_YearsAsSum.j0 k l0 a1 true))
theorem spec_YearsAsSum.mono_l : ∀ k, (∀ y0 y1 y2, LeO (spec_YearsAsSum.j0 k y0 y1 y2) (spec_YearsAsSum.j0 (k + 1) y0 y1 y2)) ∧ (∀ y0 y1 y2 y3, LeO (spec_YearsAsSum.l0 k y0 y1 y2 y3) (spec_YearsAsSum.l0 (k + 1) y0 y1 y2 y3))
 | 0 => ⟨fun _ _ _ r h => by simp [spec_YearsAsSum.j0] at h, fun _ _ _ _ r h => by simp [spec_YearsAsSum.l0] at h⟩
 | k + 1 => by
  obtain ⟨ih0, ih1⟩ := spec_YearsAsSum.mono_l k
  refine ⟨?_, ?_⟩
  ·
   intro y0 y1 y2
   unfold spec_YearsAsSum.j0
   repeat' first
   | (with_reducible exact ih0 _ _ _)
   | (with_reducible exact ih1 _ _ _ _)
   | (with_reducible exact spec_agIn.mono _ _ _)
   | (with_reducible exact spec_agRange.mono _ _)
   | (with_reducible exact spec_agSum.mono _ _)
   | (with_reducible exact spec_agWho.mono _ _ _)
   | (with_reducible exact LeO.refl _)
   | (with_reducible exact LeO.none _)
   | (with_reducible refine LeO.ite ?_ ?_)
   | (with_reducible refine LeO.bind ?_ (fun _ => ?_))
  ·
   intro y0 y1 y2 y3
   unfold spec_YearsAsSum.l0
   repeat' first
   | (with_reducible exact ih0 _ _ _)
   | (with_reducible exact ih1 _ _ _ _)
   | (with_reducible exact spec_agIn.mono _ _ _)
   | (with_reducible exact spec_agRange.mono _ _)
   | (with_reducible exact spec_agSum.mono _ _)
   | (with_reducible exact spec_agWho.mono _ _ _)
   | (with_reducible exact LeO.refl _)
   | (with_reducible exact LeO.none _)
   | (with_reducible refine LeO.ite ?_ ?_)
   | (with_reducible refine LeO.bind ?_ (fun _ => ?_))
theorem spec_YearsAsSum.mono : ∀ a0 a1 k, LeO (spec_YearsAsSum.f k a0 a1) (spec_YearsAsSum.f (k + 1) a0 a1) := by
 intro a0 a1 k
 obtain ⟨ih0, ih1⟩ := spec_YearsAsSum.mono_l k
 unfold spec_YearsAsSum.f
 repeat' first
   | (with_reducible exact ih0 _ _ _)
   | (with_reducible exact ih1 _ _ _ _)
   | (with_reducible exact spec_agIn.mono _ _ _)
   | (with_reducible exact spec_agRange.mono _ _)
   | (with_reducible exact spec_agSum.mono _ _)
   | (with_reducible exact spec_agWho.mono _ _ _)
   | (with_reducible exact LeO.refl _)
   | (with_reducible exact LeO.none _)
   | (with_reducible refine LeO.ite ?_ ?_)
   | (with_reducible refine LeO.bind ?_ (fun _ => ?_))
set_option maxHeartbeats 8000000 in
set_option maxRecDepth 100000 in
theorem spec_YearsAsSum.calls (k : Nat) (A0 : Option Addr) (c0 : Nat) (l0 : List Int) (a1 : Int) (r1 : Int) (r2 : Bool) (w : World) (hr0 : Kd.C (Kd.int .i64) w A0 l0.length l0) (hc0 : l0.length ≤ c0) (h : spec_YearsAsSum.f k l0 a1 = some (r1, r2)) :
  Calls Tryz.prog 33 #[.slice A0 l0.length c0, .int .i64 a1] w fun e w' => e = .returned (.tuple #[.int .i64 r1, .bool r2]) ∧ Below w.heap.size w w' := by
 have HR0 := aM hr0
 have HC0 := aM hc0
 clear hr0 hc0
 have HB := aM (Below.refl w.heap.size w)
 have H : ((spec_agWho.f k l0 a1).bind fun t437 => (if t437 = true then (spec_YearsAsSum.j0 k l0 a1 ((l0.length : Int) == 1)) else (spec_YearsAsSum.j0 k l0 a1 true))) = some (r1, r2) := h
 clear h
 have HC3 := aM H
 clear H
 go_enter Tryz.func33, Tryz.ntmps33
 go_upto_region 1 with (fail)
 repeat (go_quiet (fail); go_upto_region 1 with (fail))
 go_cut [18] (fun v18 wc => ∃ (kq : Nat) (x18_2 : Bool), v18 = .bool x18_2 ∧ Aside0 (spec_YearsAsSum.j0 kq l0 a1 x18_2 = some (r1, r2)) ∧ Aside0 (kq ≤ k) ∧ Aside0 (Below w.heap.size w wc))
 case first =>
  have H := HC3.out
  clear HC3
  replace H := oB H
  obtain ⟨t437, A40, H⟩ := H
  (try dsimp only at H)
  have A4 := aM A40
  clear A40
  by_cases c5 : t437 = true
  case pos =>
   subst c5
   replace H := (if_pos rfl).symm.trans H
   have H' := aM H
   clear H
   go_wp2_with (first | (go_at_call 50; (with_reducible refine (spec_agWho.calls k _ _ l0 a1 true _ ?side1 ?side2 A4.out).mono ?_); (case side1 => exact cQ (Kd.C_below HR0.out HB.out)); (case side2 => exact HC0.out); rintro e w' ⟨rfl, ⟨nd, rfl⟩⟩; (try first | exact q1 | exact q2)))
   repeat (go_quiet (fail); try go_wp2)
   go_meet
   case rel => exact ⟨_, (((l0.length : Int) == 1)), eqQ, H', ⟨by first | omega | exact Nat.le_refl _⟩, ⟨bE HB.out⟩⟩
  replace c5 := Bool.eq_false_iff.mpr c5
  subst c5
  have H1 : (spec_YearsAsSum.j0 k l0 a1 true) = some (r1, r2) := by rw [if_neg (show ¬ (false = true) by decide)] at H; exact H
  clear H
  have H := H1
  clear H1
  have H' := aM H
  clear H
  go_wp2_with (first | (go_at_call 50; (with_reducible refine (spec_agWho.calls k _ _ l0 a1 false _ ?side1 ?side2 A4.out).mono ?_); (case side1 => exact cQ (Kd.C_below HR0.out HB.out)); (case side2 => exact HC0.out); rintro e w' ⟨rfl, ⟨nd, rfl⟩⟩; (try first | exact q1 | exact q2)))
  repeat (go_quiet (fail); try go_wp2)
  go_meet
  case rel => exact ⟨_, (true), eqQ, H', ⟨by first | omega | exact Nat.le_refl _⟩, ⟨bE HB.out⟩⟩
 case rest =>
  clear HC3
  try clear p2
  try clear c3
  try clear c5
  obtain ⟨kq, x18_2, rfl, HA, HJ2, HB⟩ := hcut
  cases kq with
  | zero => exact absurd HA.out (by simp [spec_YearsAsSum.j0])
  | succ kj2 =>
   have H := HA.out
   clear HA
   simp only [spec_YearsAsSum.j0] at H
   by_cases c6 : x18_2 = true
   case pos =>
    subst c6
    replace H := (if_pos rfl).symm.trans H
    simp only [Option.some.injEq, Prod.mk.injEq] at H
    obtain ⟨rfl, rfl⟩ := H
    go_wp2
    repeat (go_quiet (fail); try go_wp2)
    go_ret2
    exact ⟨erQ, bE HB.out⟩
   replace c6 := Bool.eq_false_iff.mpr c6
   subst c6
   have H1 : ((spec_agRange.f kj2 l0).bind fun bt438 => (spec_YearsAsSum.l0 kj2 l0 a1 bt438.2 bt438.1)) = some (r1, r2) := by rw [if_neg (show ¬ (false = true) by decide)] at H; exact H
   clear H
   have H := H1
   clear H1
   replace H := oB H
   obtain ⟨⟨t438, t439⟩, A70, H⟩ := H
   (try dsimp only at H)
   have A7 := aM A70
   clear A70
   have H' := aM H
   clear H
   go_wp2_with (first | (go_at_call 69; (with_reducible refine (spec_agRange.calls kj2 _ _ l0 t438 t439 _ ?side1 ?side2 A7.out).mono ?_); (case side1 => exact cQ (Kd.C_below HR0.out HB.out)); (case side2 => exact HC0.out); rintro e w' ⟨rfl, ⟨nd, rfl⟩⟩; (try first | exact q1 | exact q2)))
   repeat (go_quiet (fail); try go_wp2)
   go_loopg [8] kj2 (fun kq v8 w' => ∃ (x8_2 : Int), v8 = .int .i64 x8_2 ∧ Aside0 (spec_YearsAsSum.l0 kq l0 a1 t439 x8_2 = some (r1, r2)) ∧ Aside0 (kq ≤ kj2) ∧ Aside0 (Below w.heap.size w w'))
   case atStart => exact ⟨(t438), eqQ, H', ⟨Nat.le_refl _⟩, ⟨bE HB.out⟩⟩
   case round =>
    clear H'
    try clear p2
    try clear c3
    try clear c5
    try clear c6
    try clear p2
    obtain ⟨x8_2, rfl, HA, HK2, HB⟩ := hrel
    cases gk with
    | zero => exact absurd HA.out (by simp [spec_YearsAsSum.l0])
    | succ k2 =>
     have H := HA.out
     clear HA
     simp only [spec_YearsAsSum.l0] at H
     by_cases c8 : x8_2 ≤ t439
     ·
      rw [if_pos c8] at H
      have c8b0 : decide (x8_2 ≤ t439) = true := decide_eq_true c8
      clear c8
      replace H := oB H
      obtain ⟨t440, A90, H⟩ := H
      (try dsimp only at H)
      have A9 := aM A90
      clear A90
      replace H := oB H
      obtain ⟨t443, A100, H⟩ := H
      (try dsimp only at H)
      have A10 := aM A100
      clear A100
      by_cases c11 : 0 ≤ a1
      case neg =>
       rw [if_neg c11] at H
       exact nS H
      rw [if_pos c11] at H
      have c11b0 : decide (0 ≤ a1) = true := decide_eq_true c11
      clear c11
      by_cases c12 : a1 < (t440.length : Int)
      case neg =>
       rw [if_neg c12] at H
       exact nS H
      rw [if_pos c12] at H
      have c12b0 : decide (a1 < (t440.length : Int)) = true := decide_eq_true c12
      clear c12
      by_cases c13 : t443 = (wrap64 (2 * (rd t440 a1)))
      ·
       rw [if_pos c13] at H
       have c13b0 : (t443 == (wrap64 (2 * (rd t440 a1)))) = true := beq_iff_eq.mpr c13
       have c13q0 : (t443 == (IntKind.i64.wrap (2 * (rd t440 a1)))) = true := by simp only [i64_w]; exact c13b0
       have c13b1 : (t443 != (wrap64 (2 * (rd t440 a1)))) = false := bne_eq_false_iff_eq.mpr c13
       clear c13
       simp only [Option.some.injEq, Prod.mk.injEq] at H
       obtain ⟨rfl, rfl⟩ := H
       go_wp2_with (first | (go_at_call 70; (with_reducible refine (spec_agIn.calls k2 _ _ l0 x8_2 t440 _ ?side1 ?side2 A9.out).mono ?_); (case side1 => exact cQ (Kd.C_below HR0.out HB.out)); (case side2 => exact HC0.out); rintro e w14 ⟨v441, rfl, ho0, hb⟩; have HO442 := aM (Kd.R_lower ho0 (bZ HB.out)); replace HB := aM (bS HB.out hb); (try clear hb ho0); obtain ⟨Ao15, co15, eo15⟩ := Kd.R_slice HO442.out; subst eo15) | (go_at_call 58; (with_reducible refine (spec_agSum.calls k2 _ _ t440 t443 _ ?side1 ?side2 A10.out).mono ?_); (case side1 => exact cQ ((Kd.R_reads' HO442.out).2.2)); (case side2 => exact (Kd.R_reads' HO442.out).2.1); rintro e w' ⟨rfl, ⟨nd, rfl⟩⟩; (try first | exact q1 | exact q2); have p444 : 0 ≤ (a1 : Int) := dA; have q444 : a1 < (t440.length : Int) := dA; obtain ⟨ad444, e444, hx444_0⟩ := Kd.at_int (Kd.R_reads' HO442.out).2.2 a1 p444 q444; cases e444; replace p444 := eq_true p444; replace q444 := eq_true q444))
       repeat (go_quiet (first | (go_at_call 70; (with_reducible refine (spec_agIn.calls k2 _ _ l0 x8_2 t440 _ ?side1 ?side2 A9.out).mono ?_); (case side1 => exact cQ (Kd.C_below HR0.out HB.out)); (case side2 => exact HC0.out); rintro e w14 ⟨v441, rfl, ho0, hb⟩; have HO442 := aM (Kd.R_lower ho0 (bZ HB.out)); replace HB := aM (bS HB.out hb); (try clear hb ho0); obtain ⟨Ao15, co15, eo15⟩ := Kd.R_slice HO442.out; subst eo15) | (go_at_call 58; (with_reducible refine (spec_agSum.calls k2 _ _ t440 t443 _ ?side1 ?side2 A10.out).mono ?_); (case side1 => exact cQ ((Kd.R_reads' HO442.out).2.2)); (case side2 => exact (Kd.R_reads' HO442.out).2.1); rintro e w' ⟨rfl, ⟨nd, rfl⟩⟩; (try first | exact q1 | exact q2); have p444 : 0 ≤ (a1 : Int) := dA; have q444 : a1 < (t440.length : Int) := dA; obtain ⟨ad444, e444, hx444_0⟩ := Kd.at_int (Kd.R_reads' HO442.out).2.2 a1 p444 q444; cases e444; replace p444 := eq_true p444; replace q444 := eq_true q444)); try go_wp2_with (first | (go_at_call 70; (with_reducible refine (spec_agIn.calls k2 _ _ l0 x8_2 t440 _ ?side1 ?side2 A9.out).mono ?_); (case side1 => exact cQ (Kd.C_below HR0.out HB.out)); (case side2 => exact HC0.out); rintro e w14 ⟨v441, rfl, ho0, hb⟩; have HO442 := aM (Kd.R_lower ho0 (bZ HB.out)); replace HB := aM (bS HB.out hb); (try clear hb ho0); obtain ⟨Ao15, co15, eo15⟩ := Kd.R_slice HO442.out; subst eo15) | (go_at_call 58; (with_reducible refine (spec_agSum.calls k2 _ _ t440 t443 _ ?side1 ?side2 A10.out).mono ?_); (case side1 => exact cQ ((Kd.R_reads' HO442.out).2.2)); (case side2 => exact (Kd.R_reads' HO442.out).2.1); rintro e w' ⟨rfl, ⟨nd, rfl⟩⟩; (try first | exact q1 | exact q2); have p444 : 0 ≤ (a1 : Int) := dA; have q444 : a1 < (t440.length : Int) := dA; obtain ⟨ad444, e444, hx444_0⟩ := Kd.at_int (Kd.R_reads' HO442.out).2.2 a1 p444 q444; cases e444; replace p444 := eq_true p444; replace q444 := eq_true q444)))
       go_ret2
       exact ⟨erQ, bE HB.out⟩
      ·
       rw [if_neg c13] at H
       have c13b0 : (t443 == (wrap64 (2 * (rd t440 a1)))) = false := beq_eq_false_iff_ne.mpr c13
       have c13q0 : (t443 == (IntKind.i64.wrap (2 * (rd t440 a1)))) = false := by simp only [i64_w]; exact c13b0
       have c13b1 : (t443 != (wrap64 (2 * (rd t440 a1)))) = true := bne_iff_ne.mpr c13
       have H' := aM H
       clear H
       go_wp2_with (first | (go_at_call 70; (with_reducible refine (spec_agIn.calls k2 _ _ l0 x8_2 t440 _ ?side1 ?side2 A9.out).mono ?_); (case side1 => exact cQ (Kd.C_below HR0.out HB.out)); (case side2 => exact HC0.out); rintro e w16 ⟨v441, rfl, ho0, hb⟩; have HO442 := aM (Kd.R_lower ho0 (bZ HB.out)); replace HB := aM (bS HB.out hb); (try clear hb ho0); obtain ⟨Ao17, co17, eo17⟩ := Kd.R_slice HO442.out; subst eo17) | (go_at_call 58; (with_reducible refine (spec_agSum.calls k2 _ _ t440 t443 _ ?side1 ?side2 A10.out).mono ?_); (case side1 => exact cQ ((Kd.R_reads' HO442.out).2.2)); (case side2 => exact (Kd.R_reads' HO442.out).2.1); rintro e w' ⟨rfl, ⟨nd, rfl⟩⟩; (try first | exact q1 | exact q2); have p444 : 0 ≤ (a1 : Int) := dA; have q444 : a1 < (t440.length : Int) := dA; obtain ⟨ad444, e444, hx444_0⟩ := Kd.at_int (Kd.R_reads' HO442.out).2.2 a1 p444 q444; cases e444; replace p444 := eq_true p444; replace q444 := eq_true q444))
       repeat (go_quiet (first | (go_at_call 70; (with_reducible refine (spec_agIn.calls k2 _ _ l0 x8_2 t440 _ ?side1 ?side2 A9.out).mono ?_); (case side1 => exact cQ (Kd.C_below HR0.out HB.out)); (case side2 => exact HC0.out); rintro e w16 ⟨v441, rfl, ho0, hb⟩; have HO442 := aM (Kd.R_lower ho0 (bZ HB.out)); replace HB := aM (bS HB.out hb); (try clear hb ho0); obtain ⟨Ao17, co17, eo17⟩ := Kd.R_slice HO442.out; subst eo17) | (go_at_call 58; (with_reducible refine (spec_agSum.calls k2 _ _ t440 t443 _ ?side1 ?side2 A10.out).mono ?_); (case side1 => exact cQ ((Kd.R_reads' HO442.out).2.2)); (case side2 => exact (Kd.R_reads' HO442.out).2.1); rintro e w' ⟨rfl, ⟨nd, rfl⟩⟩; (try first | exact q1 | exact q2); have p444 : 0 ≤ (a1 : Int) := dA; have q444 : a1 < (t440.length : Int) := dA; obtain ⟨ad444, e444, hx444_0⟩ := Kd.at_int (Kd.R_reads' HO442.out).2.2 a1 p444 q444; cases e444; replace p444 := eq_true p444; replace q444 := eq_true q444)); try go_wp2_with (first | (go_at_call 70; (with_reducible refine (spec_agIn.calls k2 _ _ l0 x8_2 t440 _ ?side1 ?side2 A9.out).mono ?_); (case side1 => exact cQ (Kd.C_below HR0.out HB.out)); (case side2 => exact HC0.out); rintro e w16 ⟨v441, rfl, ho0, hb⟩; have HO442 := aM (Kd.R_lower ho0 (bZ HB.out)); replace HB := aM (bS HB.out hb); (try clear hb ho0); obtain ⟨Ao17, co17, eo17⟩ := Kd.R_slice HO442.out; subst eo17) | (go_at_call 58; (with_reducible refine (spec_agSum.calls k2 _ _ t440 t443 _ ?side1 ?side2 A10.out).mono ?_); (case side1 => exact cQ ((Kd.R_reads' HO442.out).2.2)); (case side2 => exact (Kd.R_reads' HO442.out).2.1); rintro e w' ⟨rfl, ⟨nd, rfl⟩⟩; (try first | exact q1 | exact q2); have p444 : 0 ≤ (a1 : Int) := dA; have q444 : a1 < (t440.length : Int) := dA; obtain ⟨ad444, e444, hx444_0⟩ := Kd.at_int (Kd.R_reads' HO442.out).2.2 a1 p444 q444; cases e444; replace p444 := eq_true p444; replace q444 := eq_true q444)))
       go_roundg k2
       case measure => have := HJ2.out; have := HK2.out; omega
       case rel => exact ⟨(wrap64 (x8_2 + 1)), eqQ, H', ⟨by have := HJ2.out; have := HK2.out; omega⟩, ⟨bE HB.out⟩⟩
     ·
      rw [if_neg c8] at H
      have c8b0 : decide (x8_2 ≤ t439) = false := decide_eq_false c8
      clear c8
      simp only [Option.some.injEq, Prod.mk.injEq] at H
      obtain ⟨rfl, rfl⟩ := H
      go_wp2
      repeat (go_quiet (fail); try go_wp2)
      go_ret2
      exact ⟨erQ, bE HB.out⟩

/-! ### slices_Delete_int_int: function 71 -/
-- the shelf's contract, laid at this program (lay-shelf.mjs, lay-plain.mjs)
def lays_Delete_ren : Go.Shelf.Ren := ⟨fun | 23 => 71 | n => n, fun | 22 => 24 | 3 => 3 | 4 => 4 | 0 => 0 | n => n, fun | n => n⟩
theorem lays_Delete : Go.Proofs.Lays2.n23 Tryz.prog lays_Delete_ren := {
 mixed := by kernel_rfl
 f23 := Tryz.func71.trans (congrArg some (by kernel_rfl))
 t0 := Tryz.underlying0
 a0 := Tryz.isAgg0
 z0 := Tryz.sizeOf0
 v0 := Tryz.zeroValue0
 t3 := Tryz.underlying3
 a3 := Tryz.isAgg3
 z3 := Tryz.sizeOf3
 v3 := Tryz.zeroValue3
 t4 := Tryz.underlying4
 a4 := Tryz.isAgg4
 z4 := Tryz.sizeOf4
 v4 := Tryz.zeroValue4
 t22 := Tryz.underlying24
 a22 := Tryz.isAgg24
 z22 := Tryz.sizeOf24
 v22 := Tryz.zeroValue24
 i3 := by kernel_rfl }
theorem R_setCells {base : Nat} {ok : Nat → Prop} {g n cap : Nat} : ∀ (vs : List Int) (k : Nat) (w : World) (xs : List Int), Kd.R (Kd.int .i64) 3 w base ok (.slice (some ⟨g, 0, none⟩) n cap) xs → k + vs.length ≤ xs.length → Kd.R (Kd.int .i64) 3 (w.setCells g k (vs.map (Value.int .i64))) base ok (.slice (some ⟨g, 0, none⟩) n cap) (xs.take k ++ vs ++ xs.drop (k + vs.length))
 | [], k, w, xs, h, _ => by
  have e : xs.take k ++ ([] : List Int) ++ xs.drop (k + ([] : List Int).length) = xs := by simp
  rw [e]
  exact h
 | x :: vs, k, w, xs, h, hk => by
  simp only [List.length_cons] at hk
  have h1 := (Kd.R_putg h (k : Int) x).1
  rw [Int.toNat_natCast] at h1
  have h2 := R_setCells vs (k + 1) _ _ h1 (by simp; omega)
  have e : (xs.set k x).take (k + 1) ++ vs ++ (xs.set k x).drop (k + 1 + vs.length) = xs.take k ++ (x :: vs) ++ xs.drop (k + (x :: vs).length) := by
   rw [List.drop_set_of_lt (by omega), List.take_set, List.take_succ_eq_append_getElem (show k < xs.length by omega), List.set_append_right (s := xs.take k) k x (by simp; omega)]
   simp [Nat.min_eq_left (show k ≤ xs.length by omega), Nat.add_assoc, Nat.add_comm 1]
  rw [e] at h2
  exact h2
theorem R_cut {w : World} {base : Nat} {ok : Nat → Prop} {g cap : Nat} {xs : List Int} (h : Kd.R (Kd.int .i64) 3 w base ok (.slice (some ⟨g, 0, none⟩) xs.length cap) xs) (m : Nat) (hm : m ≤ xs.length) : Kd.R (Kd.int .i64) 3 w base ok (.slice (some ⟨g, 0, none⟩) m cap) (xs.take m) := by
 have ho := Kd.own_of_R h
 have hl : (xs.take m).length = m := by simp; omega
 refine Kd.R_of_own ?_ (fun k hk => h.1 k hk)
 rw [hl]
 obtain ⟨h1, h2⟩ := ho
 refine ⟨by simp [encs]; omega, .inr ?_⟩
 rcases h2 with ⟨e, _⟩ | ⟨g', cap', cur, e, hb, hh, hn, hc, hs, ht⟩
 ·
  cases e
 ·
  injection e with e1 e2 e3
  injection e1 with e1
  injection e1 with e1
  subst e1 e3
  refine ⟨g, cap, cur, rfl, hb, hh, by omega, hc, hs, ?_⟩
  have e4 : encs (Value.int .i64) (xs.take m) = (encs (Value.int .i64) xs).take (m * 1) := by simp [encs, List.map_take]
  show cur.toList.take (m * 1) = encs (Value.int .i64) (xs.take m)
  rw [e4, show encs (Value.int .i64) xs = _ from ht.symm, List.take_take]
  congr 1
  omega
theorem below_cells {w0 : World} {g : Nat} (hg : w0.heap.size ≤ g) : ∀ (vs : List Value) (k : Nat) (w : World), Below w0.heap.size w0 w → Below w0.heap.size w0 (w.setCells g k vs)
 | [], _, _, h => h
 | v :: vs, k, w, h => below_cells hg vs (k + 1) _ (below_set h hg)
theorem slices_Delete.calls (P0_ : Nat → Prop) (u : Value) (l0 : List Int) (i : Nat) (hi : i < l0.length) (w0 w : World) (hB : Below w0.heap.size w0 w) (ho0 : Kd.R (Kd.int .i64) 3 w w0.heap.size P0_ u l0) :
  Calls Tryz.prog 71 #[u, .int .i64 (i : Int), .int .i64 ((i + 1 : Nat) : Int)] w fun e w' => ∃ v0_ : Value, e = .returned v0_ ∧ Kd.R (Kd.int .i64) 3 w' w0.heap.size P0_ v0_ (l0.take i ++ l0.drop (i + 1)) ∧ Below w0.heap.size w0 w' := by
 obtain ⟨g, cap, rfl, hg, hlt, cells, hcells⟩ := Kd.R_form ho0 (by omega)
 obtain ⟨_, hn, _⟩ := Kd.R_reads' ho0
 have hmax : cap ≤ 9223372036854775807 := by
  obtain ⟨_, ⟨e, _⟩ | ⟨g', cap', cur, e, hb, hh, hn', hc, hs, ht⟩⟩ := Kd.own_of_R ho0
  ·
   cases e
  ·
   injection e with e1 e2 e3
   subst e3
   exact Nat.le_trans hc (by decide)
 have hc : ∀ j, j < l0.length → w.cell? ⟨g, 0 + j, none⟩ = some (.int .i64 (l0.getD j 0)) ∧ w.frozen? ⟨g, 0 + j, none⟩ = false := by
  intro j hj
  have := Kd.R_celln 0 ho0 (j : Int) (by omega) (by omega)
  rw [Int.toNat_natCast] at this
  rw [Nat.zero_add]
  exact this
 refine (Go.Proofs.Any.slices_Delete_int_cells lays_Delete g 0 l0.length cap i (i + 1) l0 w (Nat.le_refl _) hn hmax (by omega) (by omega) (fun j hj => (hc j hj).1) (fun j hj => (hc j hj).2)).mono ?_
 rintro e w' ⟨rfl, q, rfl⟩
 refine ⟨_, rfl, ?_, below_cells hg _ _ _ (pw_below_drewN hB q)⟩
 have hlen : ((l0.take l0.length).take i ++ (l0.take l0.length).drop (i + 1) ++ List.replicate (i + 1 - i) (0 : Int)).length = l0.length := by simp; omega
 have h1 := R_setCells ((l0.take l0.length).take i ++ (l0.take l0.length).drop (i + 1) ++ List.replicate (i + 1 - i) (0 : Int)) 0 _ _ (Kd.R_drewN ho0 q) (by rw [hlen]; omega)
 have e1 : l0.take 0 ++ ((l0.take l0.length).take i ++ (l0.take l0.length).drop (i + 1) ++ List.replicate (i + 1 - i) (0 : Int)) ++ l0.drop (0 + ((l0.take l0.length).take i ++ (l0.take l0.length).drop (i + 1) ++ List.replicate (i + 1 - i) (0 : Int)).length) = (l0.take l0.length).take i ++ (l0.take l0.length).drop (i + 1) ++ List.replicate (i + 1 - i) (0 : Int) := by
  rw [hlen]; simp
 rw [e1] at h1
 generalize hy : (l0.take l0.length).take i ++ (l0.take l0.length).drop (i + 1) ++ List.replicate (i + 1 - i) (0 : Int) = ys at h1 hlen
 rw [← hlen] at h1
 have h2 := R_cut h1 (l0.length - (i + 1 - i)) (by omega)
 have e2 : ys.take (l0.length - (i + 1 - i)) = l0.take i ++ l0.drop (i + 1) := by
  rw [← hy, List.take_length, show i + 1 - i = 1 by omega]
  have hz : (l0.take i ++ l0.drop (i + 1)).length = l0.length - 1 := by simp; omega
  rw [← hz]
  exact List.take_left
 rw [e2] at h2
 exact h2

end Go.Proofs.YtcfgkpifloghlaaGreatDoor.P
