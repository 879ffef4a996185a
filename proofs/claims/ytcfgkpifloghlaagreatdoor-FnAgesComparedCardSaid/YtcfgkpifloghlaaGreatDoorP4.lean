-- Written by drive.py (wip/ of this repository) over the kit's print: functions, contracts, rows. Lean checks it. -- SQUEEZED
import Derived.Test.YtcfgkpifloghlaaGreatDoorP0
import Derived.Test.YtcfgkpifloghlaaGreatDoorP2
import Derived.Test.YtcfgkpifloghlaaGreatDoorP3
namespace Go.Proofs.YtcfgkpifloghlaaGreatDoor.P
open Go.RowKit Go.Proofs.YtcfgkpifloghlaaGreatDoorW.PrintWords Go.Proofs.YtcfgkpifloghlaaGreatDoorW.PrintLast Go.Proofs.YtcfgkpifloghlaaGreatDoorW.PrintMore
attribute [local go_sem] max2_int min2_int max_two min_two max_three min_three max_four min_four undef_guard   -- for this text's walks alone
set_option linter.unusedVariables false
set_option linter.unusedSimpArgs false

/-! ### spec_agRange: function 69 -/
def spec_agRange.l0 : Nat → Int → Int → List Int → Int → Int → Option (Int × Int)
 | 0, _, _, _, _, _ => none
 | k + 1, x4, x5, x14, x15, x16 => if x16 < x15 then (if 0 ≤ x16 then (if x16 < (x14.length : Int) then ((spec_l1Least.f x4 (rd x14 x16)).bind fun t197 => ((spec_l1Most.f x5 (rd x14 x16)).bind fun t198 => (spec_agRange.l0 k t197 t198 x14 x15 (wrap64 (x16 + 1))))) else (none)) else (none)) else (some (wrap64 (-x4), wrap64 (120 - x5)))
def spec_agRange.f (k : Nat) (l0 : List Int) : Option (Int × Int) := if 0 < (l0.length : Int) then (spec_agRange.l0 k (rd l0 0) (rd l0 0) l0 (l0.length : Int) 0) else (none)
theorem spec_agRange.mono_l : ∀ k, (∀ y0 y1 y2 y3 y4, LeO (spec_agRange.l0 k y0 y1 y2 y3 y4) (spec_agRange.l0 (k + 1) y0 y1 y2 y3 y4))
 | 0 => fun _ _ _ _ _ r h => by simp [spec_agRange.l0] at h
 | k + 1 => by
  have ih0 := spec_agRange.mono_l k
  ·
   intro y0 y1 y2 y3 y4
   unfold spec_agRange.l0
   repeat' first
   | (with_reducible exact ih0 _ _ _ _ _)
   | (with_reducible exact LeO.refl _)
   | (with_reducible exact LeO.none _)
   | (with_reducible refine LeO.ite ?_ ?_)
   | (with_reducible refine LeO.bind ?_ (fun _ => ?_))
theorem spec_agRange.mono : ∀ a0 k, LeO (spec_agRange.f k a0) (spec_agRange.f (k + 1) a0) := by
 intro a0 k
 have ih0 := spec_agRange.mono_l k
 unfold spec_agRange.f
 repeat' first
   | (with_reducible exact ih0 _ _ _ _ _)
   | (with_reducible exact LeO.refl _)
   | (with_reducible exact LeO.none _)
   | (with_reducible refine LeO.ite ?_ ?_)
   | (with_reducible refine LeO.bind ?_ (fun _ => ?_))
set_option maxHeartbeats 8000000 in
set_option maxRecDepth 100000 in
theorem spec_agRange.calls (k : Nat) (A0 : Option Addr) (c0 : Nat) (l0 : List Int) (r1 : Int) (r2 : Int) (w : World) (hr0 : Kd.C (Kd.int .i64) w A0 l0.length l0) (hc0 : l0.length ≤ c0) (h : spec_agRange.f k l0 = some (r1, r2)) :
  Calls Tryz.prog 69 #[.slice A0 l0.length c0] w fun e w' => e = .returned (.tuple #[.int .i64 r1, .int .i64 r2]) ∧ Drawn0 w w' := by
 have HR0 := aM hr0
 have HC0 := aM hc0
 clear hr0 hc0
 have H : (if 0 < (l0.length : Int) then (spec_agRange.l0 k (rd l0 0) (rd l0 0) l0 (l0.length : Int) 0) else (none)) = some (r1, r2) := h
 clear h
 by_cases c2 : 0 < (l0.length : Int)
 case neg =>
  rw [if_neg c2] at H
  exact nS H

 rw [if_pos c2] at H
 have c2b0 : decide (0 < (l0.length : Int)) = true := decide_eq_true c2
 have c2b1 : decide (0 < l0.length) = true := decide_eq_true (by omega)
 clear c2
 have H' := aM H
 clear H
 have p194 : 0 ≤ (0 : Int) := (by omega)
 have q194 : 0 < (l0.length : Int) := dA
 obtain ⟨ad194, e194, hx194_0⟩ := Kd.at_int HR0.out 0 p194 q194
 cases e194
 have qi194 : (0 < l0.length) = True := eq_true (by omega)
 (try rw [show ((0 : Int)).toNat = 0 from rfl] at hx194_0)
 (try rw [Addr.add_zero'] at hx194_0)
 replace p194 := eq_true p194
 replace q194 := eq_true q194
 have p195 : 0 ≤ (0 : Int) := (by omega)
 have q195 : 0 < (l0.length : Int) := dA
 obtain ⟨ad195, e195, hx195_0⟩ := Kd.at_int HR0.out 0 p195 q195
 obtain rfl : ad194 = ad195 := (by injection e195)
 have qi195 : (0 < l0.length) = True := eq_true (by omega)
 (try rw [show ((0 : Int)).toNat = 0 from rfl] at hx195_0)
 (try rw [Addr.add_zero'] at hx195_0)
 replace p195 := eq_true p195
 replace q195 := eq_true q195
 go_enter Tryz.func69, Tryz.ntmps69
 go_wp2
 repeat (go_quiet (fail); try go_wp2)
 go_loopg [4, 5, 16] k (fun kq v4 v5 v16 w' => ∃ (x4_1 : Int) (x5_1 : Int) (x16_1 : Int), v4 = .int .i64 x4_1 ∧ v5 = .int .i64 x5_1 ∧ v16 = .int .i64 x16_1 ∧ Aside0 (spec_agRange.l0 kq x4_1 x5_1 l0 (l0.length : Int) x16_1 = some (r1, r2)) ∧ Aside0 (kq ≤ k) ∧ Drawn0 w w')
 case atStart => exact ⟨(rd l0 0), (rd l0 0), (0), eqQ, eqQ, eqQ, H', ⟨Nat.le_refl _⟩, dQ⟩
 case round =>
  clear H'
  try clear p1
  try clear q1
  try clear hx1
  try clear qi1
  try clear c2
  try clear c2b0
  try clear c2b1
  try clear p2
  try clear hx194_0
  try clear hx195_0
  try clear p194
  try clear p195
  try clear q194
  try clear q195
  obtain ⟨x4_1, x5_1, x16_1, rfl, rfl, rfl, HA, HK1, ⟨m1, rfl⟩⟩ := hrel
  cases gk with
  | zero => exact absurd HA.out (by simp [spec_agRange.l0])
  | succ k1 =>
   have H := HA.out
   clear HA
   simp only [spec_agRange.l0] at H
   by_cases c3 : x16_1 < (l0.length : Int)
   ·
    rw [if_pos c3] at H
    have c3b0 : decide (x16_1 < (l0.length : Int)) = true := decide_eq_true c3
    clear c3
    by_cases c4 : 0 ≤ x16_1
    case neg =>
     rw [if_neg c4] at H
     exact nS H
    rw [if_pos c4] at H
    have c4b0 : decide (0 ≤ x16_1) = true := decide_eq_true c4
    clear c4
    by_cases c5 : x16_1 < (l0.length : Int)
    case neg =>
     rw [if_neg c5] at H
     exact nS H
    rw [if_pos c5] at H
    have c5b0 : decide (x16_1 < (l0.length : Int)) = true := decide_eq_true c5
    clear c5
    replace H := oB H
    obtain ⟨t197, A60, H⟩ := H
    (try dsimp only at H)
    have A6 := aM A60
    clear A60
    replace H := oB H
    obtain ⟨t198, A70, H⟩ := H
    (try dsimp only at H)
    have A7 := aM A70
    clear A70
    have H' := aM H
    clear H
    have p196 : 0 ≤ (x16_1 : Int) := dA
    have q196 : x16_1 < (l0.length : Int) := dA
    obtain ⟨ad196, e196, hx196_0⟩ := Kd.at_int HR0.out x16_1 p196 q196
    obtain rfl : ad194 = ad196 := (by injection e196)
    replace p196 := eq_true p196
    replace q196 := eq_true q196
    go_wp2_with (first | (go_at_call 92; (with_reducible refine (spec_l1Least.calls x4_1 (rd l0 x16_1) t197 _ A6.out).mono ?_); rintro e w' ⟨rfl, ⟨nd, rfl⟩⟩; (try first | exact q1 | exact q2)) | (go_at_call 93; (with_reducible refine (spec_l1Most.calls x5_1 (rd l0 x16_1) t198 _ A7.out).mono ?_); rintro e w' ⟨rfl, ⟨nd, rfl⟩⟩; (try first | exact q1 | exact q2)))
    repeat (go_quiet (fail); try go_wp2)
    go_roundg k1
    case measure => have := HK1.out; omega
    case rel => exact ⟨(t197), (t198), (wrap64 (x16_1 + 1)), eqQ, eqQ, eqQ, H', ⟨by have := HK1.out; omega⟩, dQ⟩
   ·
    rw [if_neg c3] at H
    have c3b0 : decide (x16_1 < (l0.length : Int)) = false := decide_eq_false c3
    clear c3
    simp only [Option.some.injEq, Prod.mk.injEq] at H
    obtain ⟨rfl, rfl⟩ := H
    go_wp2
    repeat (go_quiet (fail); try go_wp2)
    go_ret2
    exact ⟨by first | rfl | (simp; done) | (simp [*]; done), dQ⟩
/-! ### spec_agMultiples: function 46 -/
def spec_agMultiples.l0 : Nat → List Int → Int → Int → List (List Int) → Int → Int → Option ((List (List Int)))
 | 0, _, _, _, _, _, _ => none
 | k + 1, x0, x1, x2, x7, x9, x10 => if x10 ≤ x9 then (if 0 ≤ x1 then (if x1 < (x0.length : Int) then (if 0 ≤ x2 then (if x2 < (x0.length : Int) then (if (wrap64 ((rd x0 x2) + x10)) > 0 then (if (wrap64 ((rd x0 x2) + x10)) = 0 then (none) else (if (Int.tmod (wrap64 ((rd x0 x1) + x10)) (wrap64 ((rd x0 x2) + x10))) = 0 then (if (wrap64 (Int.tdiv (wrap64 ((rd x0 x1) + x10)) (wrap64 ((rd x0 x2) + x10)))) ≥ 2 then (if x7.length < 5864062014805 then (spec_agMultiples.l0 k x0 x1 x2 (x7 ++ [(([x10, wrap64 (Int.tdiv (wrap64 ((rd x0 x1) + x10)) (wrap64 ((rd x0 x2) + x10)))] : List Int))]) x9 (wrap64 (x10 + 1))) else (none)) else (spec_agMultiples.l0 k x0 x1 x2 x7 x9 (wrap64 (x10 + 1)))) else (spec_agMultiples.l0 k x0 x1 x2 x7 x9 (wrap64 (x10 + 1))))) else (spec_agMultiples.l0 k x0 x1 x2 x7 x9 (wrap64 (x10 + 1)))) else (none)) else (none)) else (none)) else (none)) else (some x7)
def spec_agMultiples.f (k : Nat) (l0 : List Int) (a1 : Int) (a2 : Int) : Option ((List (List Int))) := (spec_agRange.f k l0).bind fun bt199 => (spec_agMultiples.l0 k l0 a1 a2 ([] : List (List Int)) bt199.2 bt199.1)
theorem spec_agMultiples.mono_l : ∀ k, (∀ y0 y1 y2 y3 y4 y5, LeO (spec_agMultiples.l0 k y0 y1 y2 y3 y4 y5) (spec_agMultiples.l0 (k + 1) y0 y1 y2 y3 y4 y5))
 | 0 => fun _ _ _ _ _ _ r h => by simp [spec_agMultiples.l0] at h
 | k + 1 => by
  have ih0 := spec_agMultiples.mono_l k
  ·
   intro y0 y1 y2 y3 y4 y5
   unfold spec_agMultiples.l0
   repeat' first
   | (with_reducible exact ih0 _ _ _ _ _ _)
   | (with_reducible exact spec_agRange.mono _ _)
   | (with_reducible exact LeO.refl _)
   | (with_reducible exact LeO.none _)
   | (with_reducible refine LeO.ite ?_ ?_)
   | (with_reducible refine LeO.bind ?_ (fun _ => ?_))
theorem spec_agMultiples.mono : ∀ a0 a1 a2 k, LeO (spec_agMultiples.f k a0 a1 a2) (spec_agMultiples.f (k + 1) a0 a1 a2) := by
 intro a0 a1 a2 k
 have ih0 := spec_agMultiples.mono_l k
 unfold spec_agMultiples.f
 repeat' first
   | (with_reducible exact ih0 _ _ _ _ _ _)
   | (with_reducible exact spec_agRange.mono _ _)
   | (with_reducible exact LeO.refl _)
   | (with_reducible exact LeO.none _)
   | (with_reducible refine LeO.ite ?_ ?_)
   | (with_reducible refine LeO.bind ?_ (fun _ => ?_))
set_option maxHeartbeats 8000000 in
set_option maxRecDepth 100000 in
theorem spec_agMultiples.calls (k : Nat) (A0 : Option Addr) (c0 : Nat) (l0 : List Int) (a1 : Int) (a2 : Int) (r : List (List Int)) (w : World) (hr0 : Kd.C (Kd.int .i64) w A0 l0.length l0) (hc0 : l0.length ≤ c0) (h : spec_agMultiples.f k l0 a1 a2 = some r) :
  Calls Tryz.prog 46 #[.slice A0 l0.length c0, .int .i64 a1, .int .i64 a2] w fun e w' => ∃ v0_ : Value, e = .returned (v0_) ∧ Kd.S (Kd.slice 3 (Kd.int .i64)) 24 w' w.heap.size (fun _ => True) v0_ r ∧ Below w.heap.size w w' := by
 have HR0 := aM hr0
 have HC0 := aM hc0
 clear hr0 hc0
 have HB := aM (Below.refl w.heap.size w)
 have H : ((spec_agRange.f k l0).bind fun bt199 => (spec_agMultiples.l0 k l0 a1 a2 ([] : List (List Int)) bt199.2 bt199.1)) = some r := h
 clear h
 replace H := oB H
 obtain ⟨⟨t199, t200⟩, A40, H⟩ := H
 (try dsimp only at H)
 have A4 := aM A40
 clear A40
 have H' := aM H
 clear H
 go_enter Tryz.func46, Tryz.ntmps46
 go_wp2_with (first | (go_at_call 69; (with_reducible refine (spec_agRange.calls k _ _ l0 t199 t200 _ ?side1 ?side2 A4.out).mono ?_); (case side1 => exact cQ HR0.out); (case side2 => exact HC0.out); rintro e w' ⟨rfl, ⟨nd, rfl⟩⟩; (try first | exact q1 | exact q2)))
 repeat (go_quiet (fail); try go_wp2)
 go_loopg [7, 10] k (fun kq v7 v10 w' => ∃ (x7_1 : List (List Int)) (x10_1 : Int), v10 = .int .i64 x10_1 ∧ Aside0 (spec_agMultiples.l0 kq l0 a1 a2 x7_1 t200 x10_1 = some r) ∧ Aside0 (kq ≤ k) ∧ Aside0 (Kd.S (Kd.slice 3 (Kd.int .i64)) 24 w' w.heap.size (fun _ => True) v7 x7_1) ∧ Aside0 (Below w.heap.size w w'))
 case atStart => exact ⟨(([] : List (List Int))), (t199), eqQ, H', ⟨Nat.le_refl _⟩, ⟨by first | exact Kd.S_nil _ _ _ _ _ | exact Kd.N_nil _ _ _ _ _ | exact Kd.V_nil _ _ _ _ _ | exact Kd.Q_nil _ _ _ _ _ | exact Kd.R_nil _ _ _ _ _⟩, ⟨bE HB.out⟩⟩
 case round =>
  clear H'
  try clear p2
  try clear c4
  obtain ⟨x7_1, x10_1, rfl, HA, HK1, HO_7, HB⟩ := hrel
  cases gk with
  | zero => exact absurd HA.out (by simp [spec_agMultiples.l0])
  | succ k1 =>
   have H := HA.out
   clear HA
   simp only [spec_agMultiples.l0] at H
   by_cases c5 : x10_1 ≤ t200
   ·
    rw [if_pos c5] at H
    have c5b0 : decide (x10_1 ≤ t200) = true := decide_eq_true c5
    clear c5
    by_cases c6 : 0 ≤ a1
    case neg =>
     rw [if_neg c6] at H
     exact nS H
    rw [if_pos c6] at H
    have c6b0 : decide (0 ≤ a1) = true := decide_eq_true c6
    clear c6
    by_cases c7 : a1 < (l0.length : Int)
    case neg =>
     rw [if_neg c7] at H
     exact nS H
    rw [if_pos c7] at H
    have c7b0 : decide (a1 < (l0.length : Int)) = true := decide_eq_true c7
    clear c7
    by_cases c8 : 0 ≤ a2
    case neg =>
     rw [if_neg c8] at H
     exact nS H
    rw [if_pos c8] at H
    have c8b0 : decide (0 ≤ a2) = true := decide_eq_true c8
    clear c8
    by_cases c9 : a2 < (l0.length : Int)
    case neg =>
     rw [if_neg c9] at H
     exact nS H
    rw [if_pos c9] at H
    have c9b0 : decide (a2 < (l0.length : Int)) = true := decide_eq_true c9
    clear c9
    by_cases c10 : (wrap64 ((rd l0 a2) + x10_1)) > 0
    ·
     rw [if_pos c10] at H
     have c10b0 : decide (0 < (wrap64 ((rd l0 a2) + x10_1))) = true := decide_eq_true c10
     clear c10
     by_cases c11 : (wrap64 ((rd l0 a2) + x10_1)) = 0
     case pos =>
      rw [if_pos c11] at H
      exact nS H
     rw [if_neg c11] at H
     have c11b0 : ((wrap64 ((rd l0 a2) + x10_1)) == 0) = false := beq_eq_false_iff_ne.mpr c11
     have c11q0 : ((IntKind.i64.wrap ((rd l0 a2) + x10_1)) == 0) = false := by simp only [i64_w]; exact c11b0
     have c11b1 : ((wrap64 ((rd l0 a2) + x10_1)) != 0) = true := bne_iff_ne.mpr c11
     by_cases c12 : (Int.tmod (wrap64 ((rd l0 a1) + x10_1)) (wrap64 ((rd l0 a2) + x10_1))) = 0
     ·
      rw [if_pos c12] at H
      have c12b0 : ((Int.tmod (wrap64 ((rd l0 a1) + x10_1)) (wrap64 ((rd l0 a2) + x10_1))) == 0) = true := beq_iff_eq.mpr c12
      have c12q0 : ((Int.tmod (IntKind.i64.wrap ((rd l0 a1) + x10_1)) (IntKind.i64.wrap ((rd l0 a2) + x10_1))) == 0) = true := by simp only [i64_w]; exact c12b0
      have c12b1 : ((Int.tmod (wrap64 ((rd l0 a1) + x10_1)) (wrap64 ((rd l0 a2) + x10_1))) != 0) = false := bne_eq_false_iff_eq.mpr c12
      clear c12
      by_cases c13 : (wrap64 (Int.tdiv (wrap64 ((rd l0 a1) + x10_1)) (wrap64 ((rd l0 a2) + x10_1)))) ≥ 2
      ·
       rw [if_pos c13] at H
       have c13b0 : decide (2 ≤ (wrap64 (Int.tdiv (wrap64 ((rd l0 a1) + x10_1)) (wrap64 ((rd l0 a2) + x10_1))))) = true := decide_eq_true c13
       clear c13
       obtain ⟨y203, hy203⟩ : ∃ y_ : List Int, y_ = (([x10_1, wrap64 (Int.tdiv (wrap64 ((rd l0 a1) + x10_1)) (wrap64 ((rd l0 a2) + x10_1)))] : List Int)) := ⟨_, rfl⟩
       replace H : (if x7_1.length < 5864062014805 then (spec_agMultiples.l0 k1 l0 a1 a2 (x7_1 ++ [y203]) t200 (wrap64 (x10_1 + 1))) else (none)) = some r := by first | (rw [hy203]; with_reducible exact H) | (have H2_ := (Option.bind_some _ _).symm.trans H; rw [hy203]; with_reducible exact H2_) | (have H2_ := (Option.bind_some _ _).symm.trans H; with_reducible exact H2_) | with_reducible exact H | (rw [hy203]; exact H) | exact H
       have Ny203 := aM hy203
       clear hy203
       by_cases c14 : x7_1.length < 5864062014805
       case neg =>
        rw [if_neg c14] at H
        exact nS H
       rw [if_pos c14] at H
       have LMc14 := aM c14
       clear c14
       obtain ⟨y206, hy206⟩ : ∃ y_ : List (List Int), y_ = (x7_1 ++ [y203]) := ⟨_, rfl⟩
       replace H : (spec_agMultiples.l0 k1 l0 a1 a2 y206 t200 (wrap64 (x10_1 + 1))) = some r := by first | (rw [hy206]; with_reducible exact H) | (have H2_ := (Option.bind_some _ _).symm.trans H; rw [hy206]; with_reducible exact H2_) | (have H2_ := (Option.bind_some _ _).symm.trans H; with_reducible exact H2_) | with_reducible exact H | (rw [hy206]; exact H) | exact H
       have Ny206 := aM hy206
       clear hy206
       have H' := aM H
       clear H
       have p201 : 0 ≤ (a1 : Int) := dA
       have q201 : a1 < (l0.length : Int) := dA
       obtain ⟨ad201, e201, hx201_0⟩ := Kd.at_int HR0.out a1 p201 q201
       cases e201
       replace hx201_0 := (HB.out.cell (World.block_lt_of_cell? w _ hx201_0)).trans hx201_0
       replace p201 := eq_true p201
       replace q201 := eq_true q201
       have p202 : 0 ≤ (a2 : Int) := dA
       have q202 : a2 < (l0.length : Int) := dA
       obtain ⟨ad202, e202, hx202_0⟩ := Kd.at_int HR0.out a2 p202 q202
       obtain rfl : ad201 = ad202 := (by injection e202)
       replace hx202_0 := (HB.out.cell (World.block_lt_of_cell? w _ hx202_0)).trans hx202_0
       replace p202 := eq_true p202
       replace q202 := eq_true q202
       go_wp2_with (first | ((with_reducible refine gate_dst (N := 55) rfl ?_); refine Kd.R_lit (Kd.int .i64) _ 3 ?hg (N := 55) ?hd (xs := ([x10_1, wrap64 (Int.tdiv (wrap64 ((rd l0 a1) + x10_1)) (wrap64 ((rd l0 a2) + x10_1)))] : List Int)) (inner := [.int .i64 x10_1, .int .i64 (wrap64 (Int.tdiv (wrap64 ((rd l0 a1) + x10_1)) (wrap64 ((rd l0 a2) + x10_1))))]) (ok := fun _ => True) (okp := fun _ => True) ?hr ?hp (fun _ hk => hk) trivial (Below.refl _ _) (Nat.le_refl _) (by simp) ?_; (case hd => rfl); (case hg => rfl); (case hr => first | (go_simp; done) | (go_simp; rfl)); (case hp => exact (Reps.one (show Kd.M (Kd.int .i64) _ _ _ x10_1 [.int .i64 x10_1] from rfl) (Reps.one (show Kd.M (Kd.int .i64) _ _ _ (wrap64 (Int.tdiv (wrap64 ((rd l0 a1) + x10_1)) (wrap64 ((rd l0 a2) + x10_1)))) [.int .i64 (wrap64 (Int.tdiv (wrap64 ((rd l0 a1) + x10_1)) (wrap64 ((rd l0 a2) + x10_1))))] from rfl) (Reps.none _ _)))); intro v204 w15 ho16 hb hg_ hnew_; clear hg_ hnew_; (first | rw [← Ny203.out] at ho16 | (simp only [Int.reduceToNat] at ho16; rw [← Ny203.out] at ho16)); replace HO_7 := aM (Kd.S_elder' (sQ HO_7.out) (Kd.R_base ho16) hb); have HO205 := aM (Kd.R_lower ho16 (bZ HB.out)); replace HB := aM (bS HB.out hb); clear hb ho16; obtain ⟨Ao18, co18, eo18⟩ := Kd.R_slice HO205.out; subst eo18) | ((with_reducible refine gate_builtin (b := .append) (xs := #[.tmp 50, .tmp 56]) rfl ?_); at_builtin; refine Kd.S_append (Kd.slice 3 (Kd.int .i64)) (w0 := w) w.heap.size rfl (.tmp 50) (.tmp 56) 27 24 (.slice none 0 0) 24 rfl Tryz.underlying27 info24 rfl (by decide) (by omega) u7 x7_1 y203 [.slice Ao18 y203.length co18] (fun _ => True) (fun k_ => some k_ = (.slice Ao18 y203.length co18 : Value).ownBlock) rfl rfl ?aP (fun k_ hk_ => ((Kd.R_mono (ok' := fun k_ => ((fun _ => True)) k_ ∧ some k_ ≠ (u7 : Value).ownBlock) (Kd.R_apart' (HO205.out) (Kd.S_typed HO_7.out) (by decide)) (fun k_ hk => ⟨trivial, hk.2⟩))).1 k_ hk_.symm) ?aF ?aO ?aB ?aS ?aL ?_; (case aP => exact Kd.M_row (Kd.R_mono (Kd.R_tight rfl (Kd.R_mono (ok' := fun k_ => ((fun _ => True)) k_ ∧ some k_ ≠ (u7 : Value).ownBlock) (Kd.R_apart' (HO205.out) (Kd.S_typed HO_7.out) (by decide)) (fun k_ hk => ⟨trivial, hk.2⟩))) (fun _ h_ => h_))); (case aB => exact (bE HB.out)); (case aF => exact (fun _ _ => trivial)); (case aO => exact (by (with_reducible repeat (first | apply Kd.S_alloc | apply Kd.S_drewN | apply Kd.S_drew)); exact Kd.S_mono HO_7.out (fun k_ hk => ⟨trivial, fun e_ => hk.2 e_⟩))); (case aS => exact (bZ HB.out)); (case aL => have := LMc14.out; omega); intro v207 w17 ho hb hg hat; rw [← Ny206.out] at ho; replace HB := aM (hb); have HO208 := aM (ho); clear HO_7 HO205; clear ho hb hg hat))
       repeat (go_quiet (first | ((with_reducible refine gate_dst (N := 55) rfl ?_); refine Kd.R_lit (Kd.int .i64) _ 3 ?hg (N := 55) ?hd (xs := ([x10_1, wrap64 (Int.tdiv (wrap64 ((rd l0 a1) + x10_1)) (wrap64 ((rd l0 a2) + x10_1)))] : List Int)) (inner := [.int .i64 x10_1, .int .i64 (wrap64 (Int.tdiv (wrap64 ((rd l0 a1) + x10_1)) (wrap64 ((rd l0 a2) + x10_1))))]) (ok := fun _ => True) (okp := fun _ => True) ?hr ?hp (fun _ hk => hk) trivial (Below.refl _ _) (Nat.le_refl _) (by simp) ?_; (case hd => rfl); (case hg => rfl); (case hr => first | (go_simp; done) | (go_simp; rfl)); (case hp => exact (Reps.one (show Kd.M (Kd.int .i64) _ _ _ x10_1 [.int .i64 x10_1] from rfl) (Reps.one (show Kd.M (Kd.int .i64) _ _ _ (wrap64 (Int.tdiv (wrap64 ((rd l0 a1) + x10_1)) (wrap64 ((rd l0 a2) + x10_1)))) [.int .i64 (wrap64 (Int.tdiv (wrap64 ((rd l0 a1) + x10_1)) (wrap64 ((rd l0 a2) + x10_1))))] from rfl) (Reps.none _ _)))); intro v204 w15 ho16 hb hg_ hnew_; clear hg_ hnew_; (first | rw [← Ny203.out] at ho16 | (simp only [Int.reduceToNat] at ho16; rw [← Ny203.out] at ho16)); replace HO_7 := aM (Kd.S_elder' (sQ HO_7.out) (Kd.R_base ho16) hb); have HO205 := aM (Kd.R_lower ho16 (bZ HB.out)); replace HB := aM (bS HB.out hb); clear hb ho16; obtain ⟨Ao18, co18, eo18⟩ := Kd.R_slice HO205.out; subst eo18) | ((with_reducible refine gate_builtin (b := .append) (xs := #[.tmp 50, .tmp 56]) rfl ?_); at_builtin; refine Kd.S_append (Kd.slice 3 (Kd.int .i64)) (w0 := w) w.heap.size rfl (.tmp 50) (.tmp 56) 27 24 (.slice none 0 0) 24 rfl Tryz.underlying27 info24 rfl (by decide) (by omega) u7 x7_1 y203 [.slice Ao18 y203.length co18] (fun _ => True) (fun k_ => some k_ = (.slice Ao18 y203.length co18 : Value).ownBlock) rfl rfl ?aP (fun k_ hk_ => ((Kd.R_mono (ok' := fun k_ => ((fun _ => True)) k_ ∧ some k_ ≠ (u7 : Value).ownBlock) (Kd.R_apart' (HO205.out) (Kd.S_typed HO_7.out) (by decide)) (fun k_ hk => ⟨trivial, hk.2⟩))).1 k_ hk_.symm) ?aF ?aO ?aB ?aS ?aL ?_; (case aP => exact Kd.M_row (Kd.R_mono (Kd.R_tight rfl (Kd.R_mono (ok' := fun k_ => ((fun _ => True)) k_ ∧ some k_ ≠ (u7 : Value).ownBlock) (Kd.R_apart' (HO205.out) (Kd.S_typed HO_7.out) (by decide)) (fun k_ hk => ⟨trivial, hk.2⟩))) (fun _ h_ => h_))); (case aB => exact (bE HB.out)); (case aF => exact (fun _ _ => trivial)); (case aO => exact (by (with_reducible repeat (first | apply Kd.S_alloc | apply Kd.S_drewN | apply Kd.S_drew)); exact Kd.S_mono HO_7.out (fun k_ hk => ⟨trivial, fun e_ => hk.2 e_⟩))); (case aS => exact (bZ HB.out)); (case aL => have := LMc14.out; omega); intro v207 w17 ho hb hg hat; rw [← Ny206.out] at ho; replace HB := aM (hb); have HO208 := aM (ho); clear HO_7 HO205; clear ho hb hg hat)); try go_wp2_with (first | ((with_reducible refine gate_dst (N := 55) rfl ?_); refine Kd.R_lit (Kd.int .i64) _ 3 ?hg (N := 55) ?hd (xs := ([x10_1, wrap64 (Int.tdiv (wrap64 ((rd l0 a1) + x10_1)) (wrap64 ((rd l0 a2) + x10_1)))] : List Int)) (inner := [.int .i64 x10_1, .int .i64 (wrap64 (Int.tdiv (wrap64 ((rd l0 a1) + x10_1)) (wrap64 ((rd l0 a2) + x10_1))))]) (ok := fun _ => True) (okp := fun _ => True) ?hr ?hp (fun _ hk => hk) trivial (Below.refl _ _) (Nat.le_refl _) (by simp) ?_; (case hd => rfl); (case hg => rfl); (case hr => first | (go_simp; done) | (go_simp; rfl)); (case hp => exact (Reps.one (show Kd.M (Kd.int .i64) _ _ _ x10_1 [.int .i64 x10_1] from rfl) (Reps.one (show Kd.M (Kd.int .i64) _ _ _ (wrap64 (Int.tdiv (wrap64 ((rd l0 a1) + x10_1)) (wrap64 ((rd l0 a2) + x10_1)))) [.int .i64 (wrap64 (Int.tdiv (wrap64 ((rd l0 a1) + x10_1)) (wrap64 ((rd l0 a2) + x10_1))))] from rfl) (Reps.none _ _)))); intro v204 w15 ho16 hb hg_ hnew_; clear hg_ hnew_; (first | rw [← Ny203.out] at ho16 | (simp only [Int.reduceToNat] at ho16; rw [← Ny203.out] at ho16)); replace HO_7 := aM (Kd.S_elder' (sQ HO_7.out) (Kd.R_base ho16) hb); have HO205 := aM (Kd.R_lower ho16 (bZ HB.out)); replace HB := aM (bS HB.out hb); clear hb ho16; obtain ⟨Ao18, co18, eo18⟩ := Kd.R_slice HO205.out; subst eo18) | ((with_reducible refine gate_builtin (b := .append) (xs := #[.tmp 50, .tmp 56]) rfl ?_); at_builtin; refine Kd.S_append (Kd.slice 3 (Kd.int .i64)) (w0 := w) w.heap.size rfl (.tmp 50) (.tmp 56) 27 24 (.slice none 0 0) 24 rfl Tryz.underlying27 info24 rfl (by decide) (by omega) u7 x7_1 y203 [.slice Ao18 y203.length co18] (fun _ => True) (fun k_ => some k_ = (.slice Ao18 y203.length co18 : Value).ownBlock) rfl rfl ?aP (fun k_ hk_ => ((Kd.R_mono (ok' := fun k_ => ((fun _ => True)) k_ ∧ some k_ ≠ (u7 : Value).ownBlock) (Kd.R_apart' (HO205.out) (Kd.S_typed HO_7.out) (by decide)) (fun k_ hk => ⟨trivial, hk.2⟩))).1 k_ hk_.symm) ?aF ?aO ?aB ?aS ?aL ?_; (case aP => exact Kd.M_row (Kd.R_mono (Kd.R_tight rfl (Kd.R_mono (ok' := fun k_ => ((fun _ => True)) k_ ∧ some k_ ≠ (u7 : Value).ownBlock) (Kd.R_apart' (HO205.out) (Kd.S_typed HO_7.out) (by decide)) (fun k_ hk => ⟨trivial, hk.2⟩))) (fun _ h_ => h_))); (case aB => exact (bE HB.out)); (case aF => exact (fun _ _ => trivial)); (case aO => exact (by (with_reducible repeat (first | apply Kd.S_alloc | apply Kd.S_drewN | apply Kd.S_drew)); exact Kd.S_mono HO_7.out (fun k_ hk => ⟨trivial, fun e_ => hk.2 e_⟩))); (case aS => exact (bZ HB.out)); (case aL => have := LMc14.out; omega); intro v207 w17 ho hb hg hat; rw [← Ny206.out] at ho; replace HB := aM (hb); have HO208 := aM (ho); clear HO_7 HO205; clear ho hb hg hat)))
       go_roundg k1
       case measure => have := HK1.out; omega
       case rel => exact ⟨(y206), (wrap64 (x10_1 + 1)), eqQ, H', ⟨by have := HK1.out; omega⟩, ⟨sQ HO208.out⟩, ⟨bE HB.out⟩⟩
      ·
       rw [if_neg c13] at H
       have c13b0 : decide (2 ≤ (wrap64 (Int.tdiv (wrap64 ((rd l0 a1) + x10_1)) (wrap64 ((rd l0 a2) + x10_1))))) = false := decide_eq_false c13
       clear c13
       have H' := aM H
       clear H
       have p201 : 0 ≤ (a1 : Int) := dA
       have q201 : a1 < (l0.length : Int) := dA
       obtain ⟨ad201, e201, hx201_0⟩ := Kd.at_int HR0.out a1 p201 q201
       cases e201
       replace hx201_0 := (HB.out.cell (World.block_lt_of_cell? w _ hx201_0)).trans hx201_0
       replace p201 := eq_true p201
       replace q201 := eq_true q201
       have p202 : 0 ≤ (a2 : Int) := dA
       have q202 : a2 < (l0.length : Int) := dA
       obtain ⟨ad202, e202, hx202_0⟩ := Kd.at_int HR0.out a2 p202 q202
       obtain rfl : ad201 = ad202 := (by injection e202)
       replace hx202_0 := (HB.out.cell (World.block_lt_of_cell? w _ hx202_0)).trans hx202_0
       replace p202 := eq_true p202
       replace q202 := eq_true q202
       go_wp2
       repeat (go_quiet (fail); try go_wp2)
       go_roundg k1
       case measure => have := HK1.out; omega
       case rel => exact ⟨(x7_1), (wrap64 (x10_1 + 1)), eqQ, H', ⟨by have := HK1.out; omega⟩, ⟨sQ HO_7.out⟩, ⟨bE HB.out⟩⟩
     ·
      rw [if_neg c12] at H
      have c12b0 : ((Int.tmod (wrap64 ((rd l0 a1) + x10_1)) (wrap64 ((rd l0 a2) + x10_1))) == 0) = false := beq_eq_false_iff_ne.mpr c12
      have c12q0 : ((Int.tmod (IntKind.i64.wrap ((rd l0 a1) + x10_1)) (IntKind.i64.wrap ((rd l0 a2) + x10_1))) == 0) = false := by simp only [i64_w]; exact c12b0
      have c12b1 : ((Int.tmod (wrap64 ((rd l0 a1) + x10_1)) (wrap64 ((rd l0 a2) + x10_1))) != 0) = true := bne_iff_ne.mpr c12
      have H' := aM H
      clear H
      have p201 : 0 ≤ (a1 : Int) := dA
      have q201 : a1 < (l0.length : Int) := dA
      obtain ⟨ad201, e201, hx201_0⟩ := Kd.at_int HR0.out a1 p201 q201
      cases e201
      replace hx201_0 := (HB.out.cell (World.block_lt_of_cell? w _ hx201_0)).trans hx201_0
      replace p201 := eq_true p201
      replace q201 := eq_true q201
      have p202 : 0 ≤ (a2 : Int) := dA
      have q202 : a2 < (l0.length : Int) := dA
      obtain ⟨ad202, e202, hx202_0⟩ := Kd.at_int HR0.out a2 p202 q202
      obtain rfl : ad201 = ad202 := (by injection e202)
      replace hx202_0 := (HB.out.cell (World.block_lt_of_cell? w _ hx202_0)).trans hx202_0
      replace p202 := eq_true p202
      replace q202 := eq_true q202
      go_wp2
      repeat (go_quiet (fail); try go_wp2)
      go_roundg k1
      case measure => have := HK1.out; omega
      case rel => exact ⟨(x7_1), (wrap64 (x10_1 + 1)), eqQ, H', ⟨by have := HK1.out; omega⟩, ⟨sQ HO_7.out⟩, ⟨bE HB.out⟩⟩
    ·
     rw [if_neg c10] at H
     have c10b0 : decide (0 < (wrap64 ((rd l0 a2) + x10_1))) = false := decide_eq_false c10
     clear c10
     have H' := aM H
     clear H
     have p201 : 0 ≤ (a1 : Int) := dA
     have q201 : a1 < (l0.length : Int) := dA
     obtain ⟨ad201, e201, hx201_0⟩ := Kd.at_int HR0.out a1 p201 q201
     cases e201
     replace hx201_0 := (HB.out.cell (World.block_lt_of_cell? w _ hx201_0)).trans hx201_0
     replace p201 := eq_true p201
     replace q201 := eq_true q201
     have p202 : 0 ≤ (a2 : Int) := dA
     have q202 : a2 < (l0.length : Int) := dA
     obtain ⟨ad202, e202, hx202_0⟩ := Kd.at_int HR0.out a2 p202 q202
     obtain rfl : ad201 = ad202 := (by injection e202)
     replace hx202_0 := (HB.out.cell (World.block_lt_of_cell? w _ hx202_0)).trans hx202_0
     replace p202 := eq_true p202
     replace q202 := eq_true q202
     go_wp2
     repeat (go_quiet (fail); try go_wp2)
     go_roundg k1
     case measure => have := HK1.out; omega
     case rel => exact ⟨(x7_1), (wrap64 (x10_1 + 1)), eqQ, H', ⟨by have := HK1.out; omega⟩, ⟨sQ HO_7.out⟩, ⟨bE HB.out⟩⟩
   ·
    rw [if_neg c5] at H
    have c5b0 : decide (x10_1 ≤ t200) = false := decide_eq_false c5
    clear c5
    obtain rfl := Option.some.inj H
    go_wp2
    repeat (go_quiet (fail); try go_wp2)
    go_ret
    exact ⟨_, erQ, sQ HO_7.out, bE HB.out⟩

/-! ### spec_AllMultiples: function 7 -/
def spec_AllMultiples.f (k : Nat) (l0 : List Int) (a1 : Int) (a2 : Int) : Option ((List (List Int)) × Bool) := (spec_agTwo.f k l0 a1 a2).bind fun t209 => (if t209 = true then ((spec_agMultiples.f k l0 a1 a2).bind fun t210 => (some (t210, true))) else (some (([] : List (List Int)), false)))
theorem spec_AllMultiples.mono : ∀ a0 a1 a2 k, LeO (spec_AllMultiples.f k a0 a1 a2) (spec_AllMultiples.f (k + 1) a0 a1 a2) := by
 intro a0 a1 a2 k
 unfold spec_AllMultiples.f
 repeat' first
   | (with_reducible exact spec_agMultiples.mono _ _ _ _)
   | (with_reducible exact spec_agTwo.mono _ _ _ _)
   | (with_reducible exact LeO.refl _)
   | (with_reducible exact LeO.none _)
   | (with_reducible refine LeO.ite ?_ ?_)
   | (with_reducible refine LeO.bind ?_ (fun _ => ?_))
set_option maxHeartbeats 8000000 in
set_option maxRecDepth 100000 in
theorem spec_AllMultiples.calls (k : Nat) (A0 : Option Addr) (c0 : Nat) (l0 : List Int) (a1 : Int) (a2 : Int) (r1 : List (List Int)) (r2 : Bool) (w : World) (hr0 : Kd.C (Kd.int .i64) w A0 l0.length l0) (hc0 : l0.length ≤ c0) (h : spec_AllMultiples.f k l0 a1 a2 = some (r1, r2)) :
  Calls Tryz.prog 7 #[.slice A0 l0.length c0, .int .i64 a1, .int .i64 a2] w fun e w' => ∃ v0_ : Value, e = .returned (.tuple #[v0_, .bool r2]) ∧ Kd.S (Kd.slice 3 (Kd.int .i64)) 24 w' w.heap.size (fun _ => True) v0_ r1 ∧ Below w.heap.size w w' := by
 have HR0 := aM hr0
 have HC0 := aM hc0
 clear hr0 hc0
 have HB := aM (Below.refl w.heap.size w)
 have H : ((spec_agTwo.f k l0 a1 a2).bind fun t209 => (if t209 = true then ((spec_agMultiples.f k l0 a1 a2).bind fun t210 => (some (t210, true))) else (some (([] : List (List Int)), false)))) = some (r1, r2) := h
 clear h
 replace H := oB H
 obtain ⟨t209, A40, H⟩ := H
 (try dsimp only at H)
 have A4 := aM A40
 clear A40
 by_cases c5 : t209 = true
 ·
  subst c5
  replace H := (if_pos rfl).symm.trans H
  replace H := oB H
  obtain ⟨t210, A60, H⟩ := H
  (try dsimp only at H)
  have A6 := aM A60
  clear A60
  simp only [Option.some.injEq, Prod.mk.injEq] at H
  obtain ⟨rfl, rfl⟩ := H
  go_enter Tryz.func7, Tryz.ntmps7
  go_wp2_with (first | ((with_reducible refine gate_callee (f := 45) rfl ?_); refine gL 11 Tryz.func45 #[.slice A0 l0.length c0, .int .i64 a1, .int .i64 a2] rfl rfl rfl rfl ?_; (with_reducible refine (spec_agTwo.calls k _ _ l0 a1 a2 true _ ?side1 ?side2 A4.out).mono ?_); (case side1 => exact cQ HR0.out); (case side2 => exact HC0.out); rintro e w' ⟨rfl, ⟨nd, rfl⟩⟩; refine ⟨_, rfl, ?_⟩) | ((with_reducible refine gate_callee (f := 46) rfl ?_); refine gL 16 Tryz.func46 #[.slice A0 l0.length c0, .int .i64 a1, .int .i64 a2] rfl rfl rfl rfl ?_; (with_reducible refine (spec_agMultiples.calls k _ _ l0 a1 a2 t210 _ ?side1 ?side2 A6.out).mono ?_); (case side1 => exact cQ HR0.out); (case side2 => exact HC0.out); rintro e w7 ⟨v211, rfl, ho0, hb⟩; refine ⟨_, rfl, ?_⟩; have HO212 := aM (Kd.S_lower ho0 (bZ HB.out)); replace HB := aM (bS HB.out hb); (try clear hb ho0)))
  go_ret2
  exact ⟨_, erQ, sQ HO212.out, bE HB.out⟩
 ·
  replace c5 := Bool.eq_false_iff.mpr c5
  subst c5
  have H1 : (some (([] : List (List Int)), false)) = some (r1, r2) := by rw [if_neg (show ¬ (false = true) by decide)] at H; exact H
  clear H
  have H := H1
  clear H1
  simp only [Option.some.injEq, Prod.mk.injEq] at H
  obtain ⟨rfl, rfl⟩ := H
  go_enter Tryz.func7, Tryz.ntmps7
  go_wp2_with (first | ((with_reducible refine gate_callee (f := 45) rfl ?_); refine gL 11 Tryz.func45 #[.slice A0 l0.length c0, .int .i64 a1, .int .i64 a2] rfl rfl rfl rfl ?_; (with_reducible refine (spec_agTwo.calls k _ _ l0 a1 a2 false _ ?side1 ?side2 A4.out).mono ?_); (case side1 => exact cQ HR0.out); (case side2 => exact HC0.out); rintro e w' ⟨rfl, ⟨nd, rfl⟩⟩; refine ⟨_, rfl, ?_⟩))
  go_ret2
  exact ⟨_, erQ, by first | exact Kd.S_nil _ _ _ _ _ | exact Kd.N_nil _ _ _ _ _ | exact Kd.V_nil _ _ _ _ _ | exact Kd.Q_nil _ _ _ _ _ | exact Kd.R_nil _ _ _ _ _, bE HB.out⟩

/-! ### impl_divisor: function 82 -/
def impl_divisor.l0 : Nat → Int → Int → Option (Int)
 | 0, _, _ => none
 | k + 1, x0, x1 => if x1 = 0 then (some (mx x0 (wrap64 (-x0)))) else (impl_divisor.l0 k x1 (Int.tmod x0 x1))
def impl_divisor.f (k : Nat) (a0 : Int) (a1 : Int) : Option (Int) := impl_divisor.l0 k a0 a1
theorem impl_divisor.mono_l : ∀ k, (∀ y0 y1, LeO (impl_divisor.l0 k y0 y1) (impl_divisor.l0 (k + 1) y0 y1))
 | 0 => fun _ _ r h => by simp [impl_divisor.l0] at h
 | k + 1 => by
  have ih0 := impl_divisor.mono_l k
  ·
   intro y0 y1
   unfold impl_divisor.l0
   repeat' first
   | (with_reducible exact ih0 _ _)
   | (with_reducible exact LeO.refl _)
   | (with_reducible exact LeO.none _)
   | (with_reducible refine LeO.ite ?_ ?_)
   | (with_reducible refine LeO.bind ?_ (fun _ => ?_))
theorem impl_divisor.mono : ∀ a0 a1 k, LeO (impl_divisor.f k a0 a1) (impl_divisor.f (k + 1) a0 a1) := by
 intro a0 a1 k
 have ih0 := impl_divisor.mono_l k
 unfold impl_divisor.f
 repeat' first
   | (with_reducible exact ih0 _ _)
   | (with_reducible exact LeO.refl _)
   | (with_reducible exact LeO.none _)
   | (with_reducible refine LeO.ite ?_ ?_)
   | (with_reducible refine LeO.bind ?_ (fun _ => ?_))
set_option maxHeartbeats 8000000 in
set_option maxRecDepth 100000 in
theorem impl_divisor.calls (k : Nat) (a0 : Int) (a1 : Int) (r : Int) (w : World) (h : impl_divisor.f k a0 a1 = some r) :
  Calls Tryz.prog 82 #[.int .i64 a0, .int .i64 a1] w fun e w' => e = .returned (.int .i64 r) ∧ Below w.heap.size w w' := by
 have HB := aM (Below.refl w.heap.size w)
 have H : (impl_divisor.l0 k a0 a1) = some r := h
 clear h
 have H' := aM H
 clear H
 go_enter Tryz.func82, Tryz.ntmps82
 go_wp2
 repeat (go_quiet (fail); try go_wp2)
 go_loopg [0, 1] k (fun kq v0 v1 w' => ∃ (x0_1 : Int) (x1_1 : Int), v0 = .int .i64 x0_1 ∧ v1 = .int .i64 x1_1 ∧ Aside0 (impl_divisor.l0 kq x0_1 x1_1 = some r) ∧ Aside0 (kq ≤ k) ∧ Aside0 (Below w.heap.size w w'))
 case atStart => exact ⟨(a0), (a1), eqQ, eqQ, H', ⟨Nat.le_refl _⟩, ⟨bE HB.out⟩⟩
 case round =>
  clear H'
  try clear p2
  obtain ⟨x0_1, x1_1, rfl, rfl, HA, HK1, HB⟩ := hrel
  cases gk with
  | zero => exact absurd HA.out (by simp [impl_divisor.l0])
  | succ k1 =>
   have H := HA.out
   clear HA
   simp only [impl_divisor.l0] at H
   by_cases c3 : x1_1 = 0
   ·
    rw [if_pos c3] at H
    have c3b0 : (x1_1 == 0) = true := beq_iff_eq.mpr c3
    have c3b1 : (x1_1 != 0) = false := bne_eq_false_iff_eq.mpr c3
    clear c3
    obtain ⟨ji4, hji4⟩ : ∃ j_ : Int, (mx x0_1 (wrap64 (-x0_1))) = j_ := ⟨_, rfl⟩
    replace H : (some ji4) = some r := by first | (rw [hji4] at H; exact H) | (simp only [hji4] at H ⊢; exact H)
    have hji4_ : (if x0_1 < (wrap64 (-x0_1)) then (wrap64 (-x0_1)) else x0_1) = ji4 := hji4
    obtain rfl := Option.some.inj H
    go_wp2
    repeat (go_quiet (fail); try go_wp2)
    go_ret
    exact ⟨by first | rfl | (simp [errW_none, errW_some] <;> rfl) | (simp only [← hji4]; first | rfl | (simp [errW_none, errW_some] <;> rfl)) | (simp [*, errW_none, errW_some] <;> rfl), bE HB.out⟩
   ·
    rw [if_neg c3] at H
    have c3b0 : (x1_1 == 0) = false := beq_eq_false_iff_ne.mpr c3
    have c3b1 : (x1_1 != 0) = true := bne_iff_ne.mpr c3
    have H' := aM H
    clear H
    go_wp2
    repeat (go_quiet (fail); try go_wp2)
    go_roundg k1
    case measure => have := HK1.out; omega
    case rel => exact ⟨(x1_1), (Int.tmod x0_1 x1_1), eqQ, eqQ, H', ⟨by have := HK1.out; omega⟩, ⟨bE HB.out⟩⟩

/-! ### impl_lowest: function 49 -/
def impl_lowest.f (k : Nat) (a0 : Int) (a1 : Int) : Option (Int × Int) := (impl_divisor.f k a0 a1).bind fun t213 => (if t213 = 0 then (none) else (some (wrap64 (Int.tdiv a0 t213), wrap64 (Int.tdiv a1 t213))))
theorem impl_lowest.mono : ∀ a0 a1 k, LeO (impl_lowest.f k a0 a1) (impl_lowest.f (k + 1) a0 a1) := by
 intro a0 a1 k
 unfold impl_lowest.f
 repeat' first
   | (with_reducible exact impl_divisor.mono _ _ _)
   | (with_reducible exact LeO.refl _)
   | (with_reducible exact LeO.none _)
   | (with_reducible refine LeO.ite ?_ ?_)
   | (with_reducible refine LeO.bind ?_ (fun _ => ?_))
set_option maxHeartbeats 8000000 in
set_option maxRecDepth 100000 in
theorem impl_lowest.calls (k : Nat) (a0 : Int) (a1 : Int) (r1 : Int) (r2 : Int) (w : World) (h : impl_lowest.f k a0 a1 = some (r1, r2)) :
  Calls Tryz.prog 49 #[.int .i64 a0, .int .i64 a1] w fun e w' => e = .returned (.tuple #[.int .i64 r1, .int .i64 r2]) ∧ Below w.heap.size w w' := by
 have HB := aM (Below.refl w.heap.size w)
 have H : ((impl_divisor.f k a0 a1).bind fun t213 => (if t213 = 0 then (none) else (some (wrap64 (Int.tdiv a0 t213), wrap64 (Int.tdiv a1 t213))))) = some (r1, r2) := h
 clear h
 replace H := oB H
 obtain ⟨t213, A30, H⟩ := H
 (try dsimp only at H)
 have A3 := aM A30
 clear A30
 by_cases c4 : t213 = 0
 case pos =>
  rw [if_pos c4] at H
  exact nS H
 rw [if_neg c4] at H
 have c4b0 : (t213 == 0) = false := beq_eq_false_iff_ne.mpr c4
 have c4b1 : (t213 != 0) = true := bne_iff_ne.mpr c4
 simp only [Option.some.injEq, Prod.mk.injEq] at H
 obtain ⟨rfl, rfl⟩ := H
 go_enter Tryz.func49, Tryz.ntmps49
 go_wp2_with (first | (go_at_call 82; (with_reducible refine (impl_divisor.calls k a0 a1 t213 _ A3.out).mono ?_); rintro e w5 ⟨rfl, hb⟩; replace HB := aM (bS HB.out hb); (try clear hb)))
 repeat (go_quiet (fail); try go_wp2)
 go_ret2
 exact ⟨erQ, bE HB.out⟩

/-! ### impl_TimesOlder: function 8 -/
def impl_TimesOlder.f (k : Nat) (l0 : List Int) (a1 : Int) (a2 : Int) : Option (Int × Int × Bool) := (impl_AreAges.f l0).bind fun t214 => (if t214 = true then ((impl_is.f l0 a1).bind fun t215 => (if t215 = true then ((impl_is.f l0 a2).bind fun t216 => (if t216 = true then (if 0 ≤ a2 then (if a2 < (l0.length : Int) then (if (rd l0 a2) = 0 then (some (0, 0, false)) else (if 0 ≤ a1 then (if a1 < (l0.length : Int) then ((impl_lowest.f k (rd l0 a1) (rd l0 a2)).bind fun bt220 => (some (bt220.1, bt220.2, true))) else (none)) else (none))) else (none)) else (none)) else (some (0, 0, false)))) else (some (0, 0, false)))) else (some (0, 0, false)))
theorem impl_TimesOlder.mono : ∀ a0 a1 a2 k, LeO (impl_TimesOlder.f k a0 a1 a2) (impl_TimesOlder.f (k + 1) a0 a1 a2) := by
 intro a0 a1 a2 k
 unfold impl_TimesOlder.f
 repeat' first
   | (with_reducible exact impl_lowest.mono _ _ _)
   | (with_reducible exact LeO.refl _)
   | (with_reducible exact LeO.none _)
   | (with_reducible refine LeO.ite ?_ ?_)
   | (with_reducible refine LeO.bind ?_ (fun _ => ?_))
def impl_TimesOlder.T3 : Bool × List (List Nat × List Nat) := (true, [([], []), ([], []), ([0, 1], [0, 1]), ([2], [2]), ([], []), ([], []), ([4, 5], [4, 5]), ([6], [6]), ([3, 7], [3, 7]), ([8], [8]), ([9], [9]), ([9], [9]), ([10, 8, 0, 1, 2, 3, 4, 5, 6, 7, 8, 9, 10], [10]), ([11, 12, 0, 1, 2, 3, 4, 5, 6, 7, 8, 9, 10, 11, 12], [11])])
def impl_TimesOlder.B3 : List Nat := [0, 0, 3, 7, 0, 0, 48, 112, 255, 511, 1023, 1023, 2047, 8191]
theorem impl_TimesOlder.tab3 : rtab .any (opsOf Tryz.f8 3) = impl_TimesOlder.T3 := by kernel_rfl
theorem impl_TimesOlder.bits3 : waitsOk impl_TimesOlder.T3.2 impl_TimesOlder.B3 = true := by kernel_rfl
set_option maxHeartbeats 8000000 in
set_option maxRecDepth 100000 in
theorem impl_TimesOlder.calls (k : Nat) (A0 : Option Addr) (c0 : Nat) (l0 : List Int) (a1 : Int) (a2 : Int) (r1 : Int) (r2 : Int) (r3 : Bool) (w : World) (hr0 : Kd.C (Kd.int .i64) w A0 l0.length l0) (hc0 : l0.length ≤ c0) (h : impl_TimesOlder.f k l0 a1 a2 = some (r1, r2, r3)) :
  Calls Tryz.prog 8 #[.slice A0 l0.length c0, .int .i64 a1, .int .i64 a2] w fun e w' => e = .returned (.tuple #[.int .i64 r1, .int .i64 r2, .bool r3]) ∧ Below w.heap.size w w' := by
 have HR0 := aM hr0
 have HC0 := aM hc0
 clear hr0 hc0
 have HB := aM (Below.refl w.heap.size w)
 have H : ((impl_AreAges.f l0).bind fun t214 => (if t214 = true then ((impl_is.f l0 a1).bind fun t215 => (if t215 = true then ((impl_is.f l0 a2).bind fun t216 => (if t216 = true then (if 0 ≤ a2 then (if a2 < (l0.length : Int) then (if (rd l0 a2) = 0 then (some (0, 0, false)) else (if 0 ≤ a1 then (if a1 < (l0.length : Int) then ((impl_lowest.f k (rd l0 a1) (rd l0 a2)).bind fun bt220 => (some (bt220.1, bt220.2, true))) else (none)) else (none))) else (none)) else (none)) else (some (0, 0, false)))) else (some (0, 0, false)))) else (some (0, 0, false)))) = some (r1, r2, r3) := h
 clear h
 replace H := oB H
 obtain ⟨t214, A40, H⟩ := H
 (try dsimp only at H)
 have A4 := aM A40
 clear A40
 by_cases c5 : t214 = true
 ·
  subst c5
  replace H := (if_pos rfl).symm.trans H
  replace H := oB H
  obtain ⟨t215, A60, H⟩ := H
  (try dsimp only at H)
  have A6 := aM A60
  clear A60
  by_cases c7 : t215 = true
  ·
   subst c7
   replace H := (if_pos rfl).symm.trans H
   replace H := oB H
   obtain ⟨t216, A80, H⟩ := H
   (try dsimp only at H)
   have A8 := aM A80
   clear A80
   by_cases c9 : t216 = true
   ·
    subst c9
    replace H := (if_pos rfl).symm.trans H
    by_cases c10 : 0 ≤ a2
    case neg =>
     rw [if_neg c10] at H
     exact nS H
    rw [if_pos c10] at H
    have c10b0 : decide (0 ≤ a2) = true := decide_eq_true c10
    clear c10
    by_cases c11 : a2 < (l0.length : Int)
    case neg =>
     rw [if_neg c11] at H
     exact nS H
    rw [if_pos c11] at H
    have c11b0 : decide (a2 < (l0.length : Int)) = true := decide_eq_true c11
    clear c11
    by_cases c12 : (rd l0 a2) = 0
    ·
     rw [if_pos c12] at H
     have c12b0 : ((rd l0 a2) == 0) = true := beq_iff_eq.mpr c12
     have c12b1 : ((rd l0 a2) != 0) = false := bne_eq_false_iff_eq.mpr c12
     clear c12
     simp only [Option.some.injEq, Prod.mk.injEq] at H
     obtain ⟨rfl, rfl, rfl⟩ := H
     go_enter Tryz.func8, Tryz.ntmps8
     go_wp2_with (first | ((with_reducible refine gate_callee (f := 47) rfl ?_); refine gL 12 Tryz.func47 #[.slice A0 l0.length c0] rfl rfl rfl rfl ?_; (with_reducible refine (impl_AreAges.calls _ _ l0 true _ ?side1 ?side2 A4.out).mono ?_); (case side1 => exact cQ HR0.out); (case side2 => exact HC0.out); rintro e w13 ⟨rfl, hb⟩; refine ⟨_, rfl, ?_⟩; replace HB := aM (bS HB.out hb); (try clear hb)) | (go_at_call 48; (with_reducible refine (impl_is.calls _ _ l0 a1 true _ ?side1 ?side2 A6.out).mono ?_); (case side1 => exact cQ (Kd.C_below HR0.out HB.out)); (case side2 => exact HC0.out); rintro e w' ⟨rfl, ⟨nd, rfl⟩⟩) | (go_at_call 48; (with_reducible refine (impl_is.calls _ _ l0 a2 true _ ?side1 ?side2 A8.out).mono ?_); (case side1 => repeat (first | exact (Kd.C_below HR0.out (bE HB.out)) | (with_reducible refine Kd.C_alloc ?_ _) | (with_reducible refine Kd.C_drewN ?_ _) | (with_reducible refine Kd.C_drew ?_))); (case side2 => exact HC0.out); rintro e w' ⟨rfl, ⟨nd, rfl⟩⟩; have p217 : 0 ≤ (a2 : Int) := dA; have q217 : a2 < (l0.length : Int) := dA; obtain ⟨ad217, e217, hx217_0⟩ := Kd.at_int HR0.out a2 p217 q217; cases e217; replace hx217_0 := (HB.out.cell (World.block_lt_of_cell? w _ hx217_0)).trans hx217_0; replace p217 := eq_true p217; replace q217 := eq_true q217))
     go_ret3
     exact ⟨erQ, bE HB.out⟩
    ·
     rw [if_neg c12] at H
     have c12b0 : ((rd l0 a2) == 0) = false := beq_eq_false_iff_ne.mpr c12
     have c12b1 : ((rd l0 a2) != 0) = true := bne_iff_ne.mpr c12
     by_cases c14 : 0 ≤ a1
     case neg =>
      rw [if_neg c14] at H
      exact nS H
     rw [if_pos c14] at H
     have c14b0 : decide (0 ≤ a1) = true := decide_eq_true c14
     clear c14
     by_cases c15 : a1 < (l0.length : Int)
     case neg =>
      rw [if_neg c15] at H
      exact nS H
     rw [if_pos c15] at H
     have c15b0 : decide (a1 < (l0.length : Int)) = true := decide_eq_true c15
     clear c15
     replace H := oB H
     obtain ⟨⟨t220, t221⟩, A160, H⟩ := H
     (try dsimp only at H)
     have A16 := aM A160
     clear A160
     simp only [Option.some.injEq, Prod.mk.injEq] at H
     obtain ⟨rfl, rfl, rfl⟩ := H
     go_enter Tryz.func8, Tryz.ntmps8
     try go_wp2_with (first | ((with_reducible refine gate_callee (f := 47) rfl ?_); refine gL 12 Tryz.func47 #[.slice A0 l0.length c0] rfl rfl rfl rfl ?_; (with_reducible refine (impl_AreAges.calls _ _ l0 true _ ?side1 ?side2 A4.out).mono ?_); (case side1 => exact cQ HR0.out); (case side2 => exact HC0.out); rintro e w17 ⟨rfl, hb⟩; refine ⟨_, rfl, ?_⟩; replace HB := aM (bS HB.out hb); (try clear hb)) | (go_at_call 48; (with_reducible refine (impl_is.calls _ _ l0 a1 true _ ?side1 ?side2 A6.out).mono ?_); (case side1 => exact cQ (Kd.C_below HR0.out HB.out)); (case side2 => exact HC0.out); rintro e w' ⟨rfl, ⟨nd, rfl⟩⟩) | (go_at_call 48; (with_reducible refine (impl_is.calls _ _ l0 a2 true _ ?side1 ?side2 A8.out).mono ?_); (case side1 => repeat (first | exact (Kd.C_below HR0.out (bE HB.out)) | (with_reducible refine Kd.C_alloc ?_ _) | (with_reducible refine Kd.C_drewN ?_ _) | (with_reducible refine Kd.C_drew ?_))); (case side2 => exact HC0.out); rintro e w' ⟨rfl, ⟨nd, rfl⟩⟩; have p217 : 0 ≤ (a2 : Int) := dA; have q217 : a2 < (l0.length : Int) := dA; obtain ⟨ad217, e217, hx217_0⟩ := Kd.at_int HR0.out a2 p217 q217; cases e217; replace hx217_0 := (HB.out.cell (World.block_lt_of_cell? w _ hx217_0)).trans hx217_0; replace p217 := eq_true p217; replace q217 := eq_true q217))
     (try (rw [drewN_self w17]; generalize hq_ : World.drewN w17 _ = w17; have n0_ : Aside0 (Below w.heap.size w w17) := ⟨by rw [← hq_]; exact (bE HB.out)⟩; clear HB hq_; have HB := n0_; clear n0_))
     have n0_ := aM (below_drew1 HB.out)
     clear HB
     have HB := n0_
     clear n0_
     have p218 : 0 ≤ (a1 : Int) := dA
     have q218 : a1 < (l0.length : Int) := dA
     obtain ⟨ad218, e218, hx218_0⟩ := Kd.at_int HR0.out a1 p218 q218
     have hw218_0 := hx218_0
     obtain rfl : ad217 = ad218 := (by injection e218)
     replace hx218_0 := (HB.out.cell (World.block_lt_of_cell? w _ hx218_0)).trans hx218_0
     replace p218 := eq_true p218
     replace q218 := eq_true q218
     have p219 : 0 ≤ (a2 : Int) := dA
     have q219 : a2 < (l0.length : Int) := dA
     obtain ⟨ad219, e219, hx219_0⟩ := Kd.at_int HR0.out a2 p219 q219
     have hw219_0 := hx219_0
     obtain rfl : ad217 = ad219 := (by injection e219)
     replace hx219_0 := (HB.out.cell (World.block_lt_of_cell? w _ hx219_0)).trans hx219_0
     replace p219 := eq_true p219
     replace q219 := eq_true q219
     refine start_ (n := 14) (S := fun w' => w'.cell? (ad217.add (a1).toNat) = some (.int .i64 (rd l0 a1)) ∧ w'.cell? (ad217.add (a2).toNat) = some (.int .i64 (rd l0 a2))) (ds := []) #[false, false, false, false, false, false, false, false, false, false, false, false, false, false] (by kernel_rfl) rfl rfl ⟨((HB.out.cell (World.block_lt_of_cell? w _ hw218_0)).trans hw218_0), ((HB.out.cell (World.block_lt_of_cell? w _ hw219_0)).trans hw219_0)⟩ (fun hHeld => ?_); refine with_tabW impl_TimesOlder.tab3 impl_TimesOlder.bits3 (fun HT_ HW_ => ?_)
     generalize w17.drew = w18 at HB hx218_0 hx219_0 hHeld ⊢
     refine pure_ (i := 0) (N := some 34) (v := ?_) (a' := ?_) (bm 14 1) rfl rfl (any_of HT_.out (by kernel_rfl)) (fun _ _ _ h => h) (Or.inl ⟨by rfl, ?_⟩) ?_ ?_
     rotate_left
     ·
      intro w'
      go_simp
      with_reducible rfl
     rotate_left
     ·
      simp only [Act.put, List.setIfInBounds_toArray, List.set_cons_zero, List.set_cons_succ, i64_w, i32_w]
      rfl
     refine pure_ (i := 1) (N := some 35) (v := ?_) (a' := ?_) (bm 14 3) rfl rfl (any_of HT_.out (by kernel_rfl)) (fun _ _ _ h => h) (Or.inl ⟨by rfl, ?_⟩) ?_ ?_
     rotate_left
     ·
      intro w'
      go_simp
      with_reducible rfl
     rotate_left
     ·
      simp only [Act.put, List.setIfInBounds_toArray, List.set_cons_zero, List.set_cons_succ, i64_w, i32_w]
      rfl
     refine pure_ (i := 2) (N := some 36) (v := ?_) (a' := ?_) (bm 14 7) rfl rfl (any_of HT_.out (by kernel_rfl)) (fun _ _ _ h => h) (Or.inl ⟨by rfl, ?_⟩) ?_ ?_
     rotate_left
     ·
      intro w'
      go_simp
      with_reducible rfl
     rotate_left
     ·
      simp only [Act.put, List.setIfInBounds_toArray, List.set_cons_zero, List.set_cons_succ, i64_w, i32_w]
      rfl
     refine pure_ (i := 4) (N := some 38) (v := ?_) (a' := ?_) (bm 14 23) rfl rfl (any_of HT_.out (by kernel_rfl)) (fun _ _ _ h => h) (Or.inl ⟨by rfl, ?_⟩) ?_ ?_
     rotate_left
     ·
      intro w'
      go_simp
      with_reducible rfl
     rotate_left
     ·
      simp only [Act.put, List.setIfInBounds_toArray, List.set_cons_zero, List.set_cons_succ, i64_w, i32_w]
      rfl
     refine pure_ (i := 5) (N := some 39) (v := ?_) (a' := ?_) (bm 14 55) rfl rfl (any_of HT_.out (by kernel_rfl)) (fun _ _ _ h => h) (Or.inl ⟨by rfl, ?_⟩) ?_ ?_
     rotate_left
     ·
      intro w'
      go_simp
      with_reducible rfl
     rotate_left
     ·
      simp only [Act.put, List.setIfInBounds_toArray, List.set_cons_zero, List.set_cons_succ, i64_w, i32_w]
      rfl
     refine pure_ (i := 6) (N := some 40) (v := ?_) (a' := ?_) (bm 14 119) rfl rfl (any_of HT_.out (by kernel_rfl)) (fun _ _ _ h => h) (Or.inl ⟨by rfl, ?_⟩) ?_ ?_
     rotate_left
     ·
      intro w'
      go_simp
      with_reducible rfl
     rotate_left
     ·
      simp only [Act.put, List.setIfInBounds_toArray, List.set_cons_zero, List.set_cons_succ, i64_w, i32_w]
      rfl
     refine take_ (i := 3) (N := some 37) (v := ?_) (a' := ?_) (bm 14 127) rfl rfl (take_ofW HT_.out HW_.out (by kernel_rfl)) (fun _ _ _ h => h) (Or.inl ⟨by rfl, ?_⟩) hHeld ?_ ?_
     rotate_left
     ·
      rintro w' ⟨s0, s1⟩
      go_simp
      with_reducible rfl
     rotate_left
     ·
      simp only [Act.put, List.setIfInBounds_toArray, List.set_cons_zero, List.set_cons_succ, i64_w, i32_w]
      rfl
     refine take_ (i := 7) (N := some 41) (v := ?_) (a' := ?_) (bm 14 255) rfl rfl (take_ofW HT_.out HW_.out (by kernel_rfl)) (fun _ _ _ h => h) (Or.inl ⟨by rfl, ?_⟩) hHeld ?_ ?_
     rotate_left
     ·
      rintro w' ⟨s0, s1⟩
      go_simp
      with_reducible rfl
     rotate_left
     ·
      simp only [Act.put, List.setIfInBounds_toArray, List.set_cons_zero, List.set_cons_succ, i64_w, i32_w]
      rfl
     refine one_ (i := 8) (N := some 42) #[true, true, true, true, true, true, true, true, true, false, false, false, false, false] rfl rfl (one_of HT_.out (by kernel_rfl)) (by decide) (fun K hK => ?_)
     refine goes_ Tryz.func49 (by kernel_rfl) rfl #[.int .i64 (rd l0 a1), .int .i64 (rd l0 a2)] (by rfl) rfl rfl (by (try simp only [List.map_toArray, List.map_cons, List.map_nil]); first | done | rfl | (simp only [List.length_drop, List.length_take]; rfl)) ?_
     with_reducible refine (impl_lowest.calls k (rd l0 a1) (rd l0 a2) t220 t221 _ A16.out).mono ?_
     rintro e w19 ⟨rfl, hb⟩
     refine ⟨_, rfl, ?_⟩
     have n0_ := aM (bS HB.out hb)
     clear HB
     have HB := n0_
     clear n0_
     (try clear hb)
     (try clear hb2)
     (try clear hk)
     (try clear hi)
     refine hK.out _ _ ⟨((HB.out.cell (World.block_lt_of_cell? w _ hw218_0)).trans hw218_0), ((HB.out.cell (World.block_lt_of_cell? w _ hw219_0)).trans hw219_0)⟩ (fun hHeld => ?_)
     clear hK K
     refine norm_ (a' := ?_) ?_ ?_
     rotate_left
     ·
      show Act.put _ (some 42) _ = _
      simp only [Act.put, List.setIfInBounds_toArray, List.set_cons_zero, List.set_cons_succ, i64_w, i32_w]
      rfl
     refine pure_ (i := 9) (N := some 33) (v := ?_) (a' := ?_) (bm 14 1023) rfl rfl (any_of HT_.out (by kernel_rfl)) (fun _ _ _ h => h) (Or.inl ⟨by rfl, ?_⟩) ?_ ?_
     rotate_left
     ·
      intro w'
      go_simp
      with_reducible rfl
     rotate_left
     ·
      simp only [Act.put, List.setIfInBounds_toArray, List.set_cons_zero, List.set_cons_succ, i64_w, i32_w]
      rfl
     refine pure_ (i := 10) (N := some 43) (v := ?_) (a' := ?_) (bm 14 2047) rfl rfl (any_of HT_.out (by kernel_rfl)) (fun _ _ _ h => h) (Or.inl ⟨by rfl, ?_⟩) ?_ ?_
     rotate_left
     ·
      intro w'
      go_simp
      with_reducible rfl
     rotate_left
     ·
      simp only [Act.put, List.setIfInBounds_toArray, List.set_cons_zero, List.set_cons_succ, i64_w, i32_w]
      rfl
     refine pure_ (i := 11) (N := some 44) (v := ?_) (a' := ?_) (bm 14 4095) rfl rfl (any_of HT_.out (by kernel_rfl)) (fun _ _ _ h => h) (Or.inl ⟨by rfl, ?_⟩) ?_ ?_
     rotate_left
     ·
      intro w'
      go_simp
      with_reducible rfl
     rotate_left
     ·
      simp only [Act.put, List.setIfInBounds_toArray, List.set_cons_zero, List.set_cons_succ, i64_w, i32_w]
      rfl
     refine pure_ (i := 12) (N := some 9) (v := ?_) (a' := ?_) (bm 14 8191) rfl rfl (any_of HT_.out (by kernel_rfl)) (fun _ _ _ h => h) (Or.inl ⟨by rfl, ?_⟩) ?_ ?_
     rotate_left
     ·
      intro w'
      go_simp
      with_reducible rfl
     rotate_left
     ·
      simp only [Act.put, List.setIfInBounds_toArray, List.set_cons_zero, List.set_cons_succ, i64_w, i32_w]
      rfl
     refine pure_ (i := 13) (N := some 10) (v := ?_) (a' := ?_) (bm 14 16383) rfl rfl (any_of HT_.out (by kernel_rfl)) (fun _ _ _ h => h) (Or.inl ⟨by rfl, ?_⟩) ?_ ?_
     rotate_left
     ·
      intro w'
      go_simp
      with_reducible rfl
     rotate_left
     ·
      simp only [Act.put, List.setIfInBounds_toArray, List.set_cons_zero, List.set_cons_succ, i64_w, i32_w]
      rfl
     refine done_ (done_of HT_.out (by kernel_rfl)) ?_
     try go_wp2
     go_ret3
     exact ⟨erQ, bE HB.out⟩
   ·
    replace c9 := Bool.eq_false_iff.mpr c9
    subst c9
    have H1 : (some (0, 0, false)) = some (r1, r2, r3) := by rw [if_neg (show ¬ (false = true) by decide)] at H; exact H
    clear H
    have H := H1
    clear H1
    simp only [Option.some.injEq, Prod.mk.injEq] at H
    obtain ⟨rfl, rfl, rfl⟩ := H
    go_enter Tryz.func8, Tryz.ntmps8
    go_wp2_with (first | ((with_reducible refine gate_callee (f := 47) rfl ?_); refine gL 12 Tryz.func47 #[.slice A0 l0.length c0] rfl rfl rfl rfl ?_; (with_reducible refine (impl_AreAges.calls _ _ l0 true _ ?side1 ?side2 A4.out).mono ?_); (case side1 => exact cQ HR0.out); (case side2 => exact HC0.out); rintro e w20 ⟨rfl, hb⟩; refine ⟨_, rfl, ?_⟩; replace HB := aM (bS HB.out hb); (try clear hb)) | (go_at_call 48; (with_reducible refine (impl_is.calls _ _ l0 a1 true _ ?side1 ?side2 A6.out).mono ?_); (case side1 => exact cQ (Kd.C_below HR0.out HB.out)); (case side2 => exact HC0.out); rintro e w' ⟨rfl, ⟨nd, rfl⟩⟩) | (go_at_call 48; (with_reducible refine (impl_is.calls _ _ l0 a2 false _ ?side1 ?side2 A8.out).mono ?_); (case side1 => repeat (first | exact (Kd.C_below HR0.out (bE HB.out)) | (with_reducible refine Kd.C_alloc ?_ _) | (with_reducible refine Kd.C_drewN ?_ _) | (with_reducible refine Kd.C_drew ?_))); (case side2 => exact HC0.out); rintro e w' ⟨rfl, ⟨nd, rfl⟩⟩))
    go_ret3
    exact ⟨erQ, bE HB.out⟩
  ·
   replace c7 := Bool.eq_false_iff.mpr c7
   subst c7
   have H1 : (some (0, 0, false)) = some (r1, r2, r3) := by rw [if_neg (show ¬ (false = true) by decide)] at H; exact H
   clear H
   have H := H1
   clear H1
   simp only [Option.some.injEq, Prod.mk.injEq] at H
   obtain ⟨rfl, rfl, rfl⟩ := H
   go_enter Tryz.func8, Tryz.ntmps8
   go_wp2_with (first | ((with_reducible refine gate_callee (f := 47) rfl ?_); refine gL 12 Tryz.func47 #[.slice A0 l0.length c0] rfl rfl rfl rfl ?_; (with_reducible refine (impl_AreAges.calls _ _ l0 true _ ?side1 ?side2 A4.out).mono ?_); (case side1 => exact cQ HR0.out); (case side2 => exact HC0.out); rintro e w21 ⟨rfl, hb⟩; refine ⟨_, rfl, ?_⟩; replace HB := aM (bS HB.out hb); (try clear hb)) | (go_at_call 48; (with_reducible refine (impl_is.calls _ _ l0 a1 false _ ?side1 ?side2 A6.out).mono ?_); (case side1 => exact cQ (Kd.C_below HR0.out HB.out)); (case side2 => exact HC0.out); rintro e w' ⟨rfl, ⟨nd, rfl⟩⟩))
   go_ret3
   exact ⟨erQ, bE HB.out⟩
 ·
  replace c5 := Bool.eq_false_iff.mpr c5
  subst c5
  have H1 : (some (0, 0, false)) = some (r1, r2, r3) := by rw [if_neg (show ¬ (false = true) by decide)] at H; exact H
  clear H
  have H := H1
  clear H1
  simp only [Option.some.injEq, Prod.mk.injEq] at H
  obtain ⟨rfl, rfl, rfl⟩ := H
  go_enter Tryz.func8, Tryz.ntmps8
  go_wp2_with (first | ((with_reducible refine gate_callee (f := 47) rfl ?_); refine gL 12 Tryz.func47 #[.slice A0 l0.length c0] rfl rfl rfl rfl ?_; (with_reducible refine (impl_AreAges.calls _ _ l0 false _ ?side1 ?side2 A4.out).mono ?_); (case side1 => exact cQ HR0.out); (case side2 => exact HC0.out); rintro e w22 ⟨rfl, hb⟩; refine ⟨_, rfl, ?_⟩; replace HB := aM (bS HB.out hb); (try clear hb)))
  go_ret3
  exact ⟨erQ, bE HB.out⟩

end Go.Proofs.YtcfgkpifloghlaaGreatDoor.P
