-- Written by drive.py (wip/ of this repository) over the kit's print: functions, contracts, rows. Lean checks it. -- SQUEEZED
import Derived.Test.YtcfgkpifloghlaaGreatDoorP0
import Derived.Test.YtcfgkpifloghlaaGreatDoorP1
import Derived.Test.YtcfgkpifloghlaaGreatDoorP3
import Derived.Test.YtcfgkpifloghlaaGreatDoorP9
import Derived.Test.YtcfgkpifloghlaaGreatDoorP13
namespace Go.Proofs.YtcfgkpifloghlaaGreatDoor.P
open Go.RowKit Go.Proofs.YtcfgkpifloghlaaGreatDoorW.PrintWords Go.Proofs.YtcfgkpifloghlaaGreatDoorW.PrintLast Go.Proofs.YtcfgkpifloghlaaGreatDoorW.PrintMore
attribute [local go_sem] max2_int min2_int max_two min_two max_three min_three max_four min_four undef_guard   -- for this text's walks alone
set_option linter.unusedVariables false
set_option linter.unusedSimpArgs false

/-! ### spec_l1Cur_spoilt: function 77 -/
mutual
def spec_l1Cur_spoilt.l0 : Nat → ByteArray → ByteArray → Int → List Int → Int → Int → Option (ByteArray × Int × Int)
 | 0, _, _, _, _, _, _ => none
 | k + 1, x1, x2, x7, x1000, x1001, x1002 => if x7 > 0 then (spec_l1Cur_spoilt.j1 k x1 x2 x7 (decide ((x1.size : Int) > 0)) x1000 x1001 x1002) else (spec_l1Cur_spoilt.j1 k x1 x2 x7 false x1000 x1001 x1002)
def spec_l1Cur_spoilt.j1 : Nat → ByteArray → ByteArray → Int → Bool → List Int → Int → Int → Option (ByteArray × Int × Int)
 | 0, _, _, _, _, _, _, _ => none
 | k + 1, x1, x2, x7, x19, x1000, x1001, x1002 => if x19 = true then ((spec_l1Cur_pick.f x1000 x1001 x1002 (x1.size : Int)).bind fun bt491 => ((spec_l1Cur_pick.f x1000 bt491.2.1 bt491.2.2 (x2.size : Int)).bind fun bt494 => (if 0 ≤ bt494.1 then (if bt494.1 < (x2.size : Int) then ((some (([bt x2 bt494.1] : List Int) : List Int)).bind fun y497 => ((spec_l1Cur_pick.f x1000 bt494.2.1 bt494.2.2 3).bind fun bt500 => (if bt500.1 = 0 then (if 0 ≤ bt491.1 then (if bt491.1 ≤ (x1.size : Int) then (if (x1.extract 0 (bt491.1 : Int).toNat).size + (strOfNums y497).size ≤ 9223372036854775807 then (if ((x1.extract 0 (bt491.1 : Int).toNat) ++ (strOfNums y497)).size + (x1.extract (bt491.1 : Int).toNat x1.size).size ≤ 9223372036854775807 then (spec_l1Cur_spoilt.l0 k (((x1.extract 0 (bt491.1 : Int).toNat) ++ (strOfNums y497)) ++ (x1.extract (bt491.1 : Int).toNat x1.size)) x2 (wrap64 (x7 - 1)) x1000 bt500.2.1 bt500.2.2) else (none)) else (none)) else (none)) else (none)) else (if bt500.1 = 1 then (if 0 ≤ bt491.1 then (if bt491.1 ≤ (x1.size : Int) then (if (x1.extract 0 (bt491.1 : Int).toNat).size + (strOfNums y497).size ≤ 9223372036854775807 then (if 0 ≤ (wrap64 (bt491.1 + 1)) then (if (wrap64 (bt491.1 + 1)) ≤ (x1.size : Int) then (if ((x1.extract 0 (bt491.1 : Int).toNat) ++ (strOfNums y497)).size + (x1.extract ((wrap64 (bt491.1 + 1)) : Int).toNat x1.size).size ≤ 9223372036854775807 then (spec_l1Cur_spoilt.l0 k (((x1.extract 0 (bt491.1 : Int).toNat) ++ (strOfNums y497)) ++ (x1.extract ((wrap64 (bt491.1 + 1)) : Int).toNat x1.size)) x2 (wrap64 (x7 - 1)) x1000 bt500.2.1 bt500.2.2) else (none)) else (none)) else (none)) else (none)) else (none)) else (none)) else (if 0 ≤ bt491.1 then (if bt491.1 ≤ (x1.size : Int) then (if 0 ≤ (wrap64 (bt491.1 + 1)) then (if (wrap64 (bt491.1 + 1)) ≤ (x1.size : Int) then (if (x1.extract 0 (bt491.1 : Int).toNat).size + (x1.extract ((wrap64 (bt491.1 + 1)) : Int).toNat x1.size).size ≤ 9223372036854775807 then (spec_l1Cur_spoilt.l0 k ((x1.extract 0 (bt491.1 : Int).toNat) ++ (x1.extract ((wrap64 (bt491.1 + 1)) : Int).toNat x1.size)) x2 (wrap64 (x7 - 1)) x1000 bt500.2.1 bt500.2.2) else (none)) else (none)) else (none)) else (none)) else (none)))))) else (none)) else (none)))) else (some (x1, x1001, x1002))
end
def spec_l1Cur_spoilt.f (k : Nat) (s0_0 : List Int) (s0_1 : Int) (s0_2 : Int) (a1 : ByteArray) (a2 : ByteArray) : Option (ByteArray × Int × Int) := (spec_l1Cur_pick.f s0_0 s0_1 s0_2 2).bind fun bt488 => (spec_l1Cur_spoilt.l0 k a1 a2 (wrap64 (1 + bt488.1)) s0_0 bt488.2.1 bt488.2.2)
theorem spec_l1Cur_spoilt.mono_l : ∀ k, (∀ y0 y1 y2 y3 y4 y5, LeO (spec_l1Cur_spoilt.l0 k y0 y1 y2 y3 y4 y5) (spec_l1Cur_spoilt.l0 (k + 1) y0 y1 y2 y3 y4 y5)) ∧ (∀ y0 y1 y2 y3 y4 y5 y6, LeO (spec_l1Cur_spoilt.j1 k y0 y1 y2 y3 y4 y5 y6) (spec_l1Cur_spoilt.j1 (k + 1) y0 y1 y2 y3 y4 y5 y6))
 | 0 => ⟨fun _ _ _ _ _ _ r h => by simp [spec_l1Cur_spoilt.l0] at h, fun _ _ _ _ _ _ _ r h => by simp [spec_l1Cur_spoilt.j1] at h⟩
 | k + 1 => by
  obtain ⟨ih0, ih1⟩ := spec_l1Cur_spoilt.mono_l k
  refine ⟨?_, ?_⟩
  ·
   intro y0 y1 y2 y3 y4 y5
   unfold spec_l1Cur_spoilt.l0
   repeat' first
   | (with_reducible exact ih0 _ _ _ _ _ _)
   | (with_reducible exact ih1 _ _ _ _ _ _ _)
   | (with_reducible exact LeO.refl _)
   | (with_reducible exact LeO.none _)
   | (with_reducible refine LeO.ite ?_ ?_)
   | (with_reducible refine LeO.bind ?_ (fun _ => ?_))
  ·
   intro y0 y1 y2 y3 y4 y5 y6
   unfold spec_l1Cur_spoilt.j1
   repeat' first
   | (with_reducible exact ih0 _ _ _ _ _ _)
   | (with_reducible exact ih1 _ _ _ _ _ _ _)
   | (with_reducible exact LeO.refl _)
   | (with_reducible exact LeO.none _)
   | (with_reducible refine LeO.ite ?_ ?_)
   | (with_reducible refine LeO.bind ?_ (fun _ => ?_))
theorem spec_l1Cur_spoilt.mono : ∀ a0 a1 a2 a3 a4 k, LeO (spec_l1Cur_spoilt.f k a0 a1 a2 a3 a4) (spec_l1Cur_spoilt.f (k + 1) a0 a1 a2 a3 a4) := by
 intro a0 a1 a2 a3 a4 k
 obtain ⟨ih0, ih1⟩ := spec_l1Cur_spoilt.mono_l k
 unfold spec_l1Cur_spoilt.f
 repeat' first
   | (with_reducible exact ih0 _ _ _ _ _ _)
   | (with_reducible exact ih1 _ _ _ _ _ _ _)
   | (with_reducible exact LeO.refl _)
   | (with_reducible exact LeO.none _)
   | (with_reducible refine LeO.ite ?_ ?_)
   | (with_reducible refine LeO.bind ?_ (fun _ => ?_))
set_option maxHeartbeats 8000000 in
set_option maxRecDepth 100000 in
theorem spec_l1Cur_spoilt.calls (k : Nat) (g : Nat) (s0_0 : List Int) (s0_1 : Int) (s0_2 : Int) (a1 : ByteArray) (a2 : ByteArray) (r1 : ByteArray) (r2 : Int) (r3 : Int) (w0 w : World) (hI : IsS69 w0 w g s0_0 s0_1 s0_2) (hB : Below w0.heap.size w0 w) (h : spec_l1Cur_spoilt.f k s0_0 s0_1 s0_2 a1 a2 = some (r1, r2, r3)) :
  Calls Tryz.prog 77 #[.pointer (some ⟨g, 0, none⟩), .string a1, .string a2] w fun e w' => e = .returned (.string r1) ∧ IsS69 w0 w' g s0_0 r2 r3 ∧ Below w0.heap.size w0 w' ∧ KeepBut w w' g none := by
 have HI0 := aM hI
 have HK := aM (KeepBut.refl w g none)
 have HL := aM hB.size
 clear hI
 have HW0 := aM hB.size
 have HB := aM hB
 clear hB
 have H : ((spec_l1Cur_pick.f s0_0 s0_1 s0_2 2).bind fun bt488 => (spec_l1Cur_spoilt.l0 k a1 a2 (wrap64 (1 + bt488.1)) s0_0 bt488.2.1 bt488.2.2)) = some (r1, r2, r3) := h
 clear h
 replace H := oB H
 obtain ⟨⟨t488, t489, t490⟩, A40, H⟩ := H
 (try dsimp only at H)
 have A4 := aM A40
 clear A40
 have H' := aM H
 clear H
 go_enter Tryz.func77, Tryz.ntmps77
 go_wp2_with (first | (go_at_call 91; (with_reducible refine (spec_l1Cur_pick.calls g s0_0 s0_1 s0_2 2 t488 t489 t490 w0 _ ?side1 ?side2 A4.out).mono ?_); (case side1 => exact iQ HI0.out); (case side2 => exact bI HI0.out HB.out); rintro e w5 ⟨rfl, hi, hb, hk⟩; replace HK := aM (KeepBut.trans (kQ HK.out) hk (.inl rfl)); replace HB := aM (hb); replace HI0 := aM (hi); (try clear hb hk hi)))
 repeat (go_quiet (fail); try go_wp2)
 go_loopg [1, 7] k (fun kq v1 v7 w' => ∃ (x1_1 : ByteArray) (x7_1 : Int) (x1001_1 : Int) (x1002_1 : Int), v1 = .string x1_1 ∧ v7 = .int .i64 x7_1 ∧ Aside0 (spec_l1Cur_spoilt.l0 kq x1_1 a2 x7_1 s0_0 x1001_1 x1002_1 = some (r1, r2, r3)) ∧ Aside0 (kq ≤ k) ∧ Aside0 (IsS69 w0 w' g s0_0 x1001_1 x1002_1) ∧ Aside0 (KeepBut w w' g none) ∧ Aside0 (Below w0.heap.size w0 w'))
 case atStart => exact ⟨(a1), (wrap64 (1 + t488)), (t489), (t490), eqQ, eqQ, H', ⟨Nat.le_refl _⟩, ⟨iQ HI0.out⟩, ⟨kQ HK.out⟩, ⟨bI HI0.out HB.out⟩⟩
 case round =>
  clear H'
  try clear p2
  obtain ⟨x1_1, x7_1, x1001_1, x1002_1, rfl, rfl, HA, HK1, HI0, HK, HB⟩ := hrel
  cases gk with
  | zero => exact absurd HA.out (by simp [spec_l1Cur_spoilt.l0])
  | succ k1 =>
   have H := HA.out
   clear HA
   simp only [spec_l1Cur_spoilt.l0] at H
   have HC6 := aM H
   clear H
   go_upto_region 2 with (fail)
   repeat (go_quiet (fail); go_upto_region 2 with (fail))
   go_cut [19] (fun v19 wc => ∃ (kq : Nat) (x19_5 : Bool), v19 = .bool x19_5 ∧ Aside0 (spec_l1Cur_spoilt.j1 kq x1_1 a2 x7_1 x19_5 s0_0 x1001_1 x1002_1 = some (r1, r2, r3)) ∧ Aside0 (kq ≤ k1) ∧ Aside0 (IsS69 w0 wc g s0_0 x1001_1 x1002_1) ∧ Aside0 (KeepBut w wc g none) ∧ Aside0 (Below w0.heap.size w0 wc))
   case first =>
    have H := HC6.out
    clear HC6
    by_cases c7 : x7_1 > 0
    ·
     rw [if_pos c7] at H
     have c7b0 : decide (0 < x7_1) = true := decide_eq_true c7
     clear c7
     (first | rw [c7b0] | (simp only [i64_w, i32_w]; rw [c7b0]) | skip)
     have H' := aM H
     clear H
     go_wp2
     repeat (go_quiet (fail); try go_wp2)
     go_meet
     case rel => exact ⟨_, (decide ((x1_1.size : Int) > 0)), eqQ, H', ⟨by have := HK1.out; first | omega | exact Nat.le_refl _⟩, ⟨iQ HI0.out⟩, ⟨kQ HK.out⟩, ⟨bI HI0.out HB.out⟩⟩
    ·
     rw [if_neg c7] at H
     have c7b0 : decide (0 < x7_1) = false := decide_eq_false c7
     clear c7
     (first | rw [c7b0] | (simp only [i64_w, i32_w]; rw [c7b0]) | skip)
     have H' := aM H
     clear H
     go_wp2
     repeat (go_quiet (fail); try go_wp2)
     go_meet
     case rel => exact ⟨_, (false), eqQ, H', ⟨by have := HK1.out; first | omega | exact Nat.le_refl _⟩, ⟨iQ HI0.out⟩, ⟨kQ HK.out⟩, ⟨bI HI0.out HB.out⟩⟩
   case rest =>
    clear HC6
    try clear p2
    try clear p6
    try clear c7
    try clear c7b0
    try clear p2
    obtain ⟨kq, x19_5, rfl, HA, HJ5, HI0, HK, HB⟩ := hcut
    cases kq with
    | zero => exact absurd HA.out (by simp [spec_l1Cur_spoilt.j1])
    | succ kj5 =>
     have H := HA.out
     clear HA
     simp only [spec_l1Cur_spoilt.j1] at H
     by_cases c8 : x19_5 = true
     ·
      subst c8
      replace H := (if_pos rfl).symm.trans H
      replace H := oB H
      obtain ⟨⟨t491, t492, t493⟩, A90, H⟩ := H
      (try dsimp only at H)
      have A9 := aM A90
      clear A90
      replace H := oB H
      obtain ⟨⟨t494, t495, t496⟩, A100, H⟩ := H
      (try dsimp only at H)
      have A10 := aM A100
      clear A100
      by_cases c11 : 0 ≤ t494
      case neg =>
       rw [if_neg c11] at H
       exact nS H
      rw [if_pos c11] at H
      have c11b0 : decide (0 ≤ t494) = true := decide_eq_true c11
      clear c11
      by_cases c12 : t494 < (a2.size : Int)
      case neg =>
       rw [if_neg c12] at H
       exact nS H
      rw [if_pos c12] at H
      have c12b0 : decide (t494 < (a2.size : Int)) = true := decide_eq_true c12
      clear c12
      obtain ⟨y497, hy497⟩ : ∃ y_ : List Int, y_ = (([bt a2 t494] : List Int)) := ⟨_, rfl⟩
      replace H : ((spec_l1Cur_pick.f s0_0 t495 t496 3).bind fun bt500 => (if bt500.1 = 0 then (if 0 ≤ t491 then (if t491 ≤ (x1_1.size : Int) then (if (x1_1.extract 0 (t491 : Int).toNat).size + (strOfNums y497).size ≤ 9223372036854775807 then (if ((x1_1.extract 0 (t491 : Int).toNat) ++ (strOfNums y497)).size + (x1_1.extract (t491 : Int).toNat x1_1.size).size ≤ 9223372036854775807 then (spec_l1Cur_spoilt.l0 kj5 (((x1_1.extract 0 (t491 : Int).toNat) ++ (strOfNums y497)) ++ (x1_1.extract (t491 : Int).toNat x1_1.size)) a2 (wrap64 (x7_1 - 1)) s0_0 bt500.2.1 bt500.2.2) else (none)) else (none)) else (none)) else (none)) else (if bt500.1 = 1 then (if 0 ≤ t491 then (if t491 ≤ (x1_1.size : Int) then (if (x1_1.extract 0 (t491 : Int).toNat).size + (strOfNums y497).size ≤ 9223372036854775807 then (if 0 ≤ (wrap64 (t491 + 1)) then (if (wrap64 (t491 + 1)) ≤ (x1_1.size : Int) then (if ((x1_1.extract 0 (t491 : Int).toNat) ++ (strOfNums y497)).size + (x1_1.extract ((wrap64 (t491 + 1)) : Int).toNat x1_1.size).size ≤ 9223372036854775807 then (spec_l1Cur_spoilt.l0 kj5 (((x1_1.extract 0 (t491 : Int).toNat) ++ (strOfNums y497)) ++ (x1_1.extract ((wrap64 (t491 + 1)) : Int).toNat x1_1.size)) a2 (wrap64 (x7_1 - 1)) s0_0 bt500.2.1 bt500.2.2) else (none)) else (none)) else (none)) else (none)) else (none)) else (none)) else (if 0 ≤ t491 then (if t491 ≤ (x1_1.size : Int) then (if 0 ≤ (wrap64 (t491 + 1)) then (if (wrap64 (t491 + 1)) ≤ (x1_1.size : Int) then (if (x1_1.extract 0 (t491 : Int).toNat).size + (x1_1.extract ((wrap64 (t491 + 1)) : Int).toNat x1_1.size).size ≤ 9223372036854775807 then (spec_l1Cur_spoilt.l0 kj5 ((x1_1.extract 0 (t491 : Int).toNat) ++ (x1_1.extract ((wrap64 (t491 + 1)) : Int).toNat x1_1.size)) a2 (wrap64 (x7_1 - 1)) s0_0 bt500.2.1 bt500.2.2) else (none)) else (none)) else (none)) else (none)) else (none))))) = some (r1, r2, r3) := by first | (rw [hy497]; with_reducible exact H) | (have H2_ := (Option.bind_some _ _).symm.trans H; rw [hy497]; with_reducible exact H2_) | (have H2_ := (Option.bind_some _ _).symm.trans H; with_reducible exact H2_) | with_reducible exact H | (rw [hy497]; exact H) | exact H
      have Ny497 := aM hy497
      clear hy497
      replace H := oB H
      obtain ⟨⟨t500, t501, t502⟩, A140, H⟩ := H
      (try dsimp only at H)
      have A14 := aM A140
      clear A140
      by_cases c15 : t500 = 0
      ·
       rw [if_pos c15] at H
       have c15b0 : (t500 == 0) = true := beq_iff_eq.mpr c15
       have c15b1 : (t500 != 0) = false := bne_eq_false_iff_eq.mpr c15
       clear c15
       by_cases c16 : 0 ≤ t491
       case neg =>
        rw [if_neg c16] at H
        exact nS H
       rw [if_pos c16] at H
       have c16b0 := eq_true c16
       have c16b1 : decide (0 ≤ t491) = true := decide_eq_true c16
       clear c16
       by_cases c17 : t491 ≤ (x1_1.size : Int)
       case neg =>
        rw [if_neg c17] at H
        exact nS H
       rw [if_pos c17] at H
       have c17b0 := eq_true c17
       have c17b1 : decide (t491 ≤ (x1_1.size : Int)) = true := decide_eq_true c17
       clear c17
       by_cases c18 : (x1_1.extract 0 (t491 : Int).toNat).size + (strOfNums y497).size ≤ 9223372036854775807
       case neg =>
        rw [if_neg c18] at H
        exact nS H
       rw [if_pos c18] at H
       have c18b0 := eq_true c18
       have c18b1 : decide ((x1_1.extract 0 (t491 : Int).toNat).size + (strOfNums y497).size ≤ 9223372036854775807) = true := decide_eq_true c18
       try have c18b2 : (9223372036854775807 < (x1_1.extract 0 (t491 : Int).toNat).size + (strOfNums y497).size) = False := eq_false (Nat.not_lt.2 c18)
       have c19b0 := eq_true (dA : 0 ≤ t491)
       have c20b0 := eq_true (dA : t491 ≤ (x1_1.size : Int))
       by_cases c21 : ((x1_1.extract 0 (t491 : Int).toNat) ++ (strOfNums y497)).size + (x1_1.extract (t491 : Int).toNat x1_1.size).size ≤ 9223372036854775807
       case neg =>
        rw [if_neg c21] at H
        exact nS H
       rw [if_pos c21] at H
       have c21b0 := eq_true c21
       have c21b1 : decide (((x1_1.extract 0 (t491 : Int).toNat) ++ (strOfNums y497)).size + (x1_1.extract (t491 : Int).toNat x1_1.size).size ≤ 9223372036854775807) = true := decide_eq_true c21
       try have c21b2 : (9223372036854775807 < ((x1_1.extract 0 (t491 : Int).toNat) ++ (strOfNums y497)).size + (x1_1.extract (t491 : Int).toNat x1_1.size).size) = False := eq_false (Nat.not_lt.2 c21)
       have H' := aM H
       clear H
       go_wp2_with (first | (go_at_call 91; (with_reducible refine (spec_l1Cur_pick.calls g s0_0 x1001_1 x1002_1 (x1_1.size : Int) t491 t492 t493 w0 _ ?side1 ?side2 A9.out).mono ?_); (case side1 => exact iQ HI0.out); (case side2 => exact bI HI0.out HB.out); rintro e w22 ⟨rfl, hi, hb, hk⟩; replace HK := aM (KeepBut.trans (kQ HK.out) hk (.inl rfl)); replace HB := aM (hb); replace HI0 := aM (hi); (try clear hb hk hi)) | (go_at_call 91; (with_reducible refine (spec_l1Cur_pick.calls g s0_0 t492 t493 (a2.size : Int) t494 t495 t496 w0 _ ?side1 ?side2 A10.out).mono ?_); (case side1 => exact iQ HI0.out); (case side2 => exact bI HI0.out HB.out); rintro e w23 ⟨rfl, hi, hb, hk⟩; replace HK := aM (KeepBut.trans (kQ HK.out) hk (.inl rfl)); replace HB := aM (hb); replace HI0 := aM (hi); (try clear hb hk hi); have p13 : 0 ≤ (t494 : Int) := dA; have q13 : t494 < (a2.size : Int) := dA; have hx13 := bt_at a2 t494; replace p13 := eq_true p13; replace q13 := eq_true q13) | ((with_reducible refine gate_dst (N := 32) rfl ?_); (try (refine gate_guard (by rfl) ?_; dsimp only)); refine Kd.R_lit (Kd.int .u8) _ 5 ?hg (N := 32) ?hd (xs := ([bt a2 t494] : List Int)) (inner := [.int .u8 (bt a2 t494)]) (ok := fun _ => True) (okp := fun _ => True) ?hr ?hp (fun _ hk => hk) trivial (Below.refl _ _) (Nat.le_refl _) (by simp) ?_; (case hd => rfl); (case hg => rfl); (case hr => first | (go_simp; done) | (go_simp; rfl)); (case hp => exact (Reps.one (show Kd.M (Kd.int .u8) _ _ _ (bt a2 t494) [.int .u8 (bt a2 t494)] from rfl) (Reps.none _ _))); intro v498 w24 ho25 hb hg_ hnew_; clear hg_ hnew_; (first | rw [← Ny497.out] at ho25 | (simp only [Int.reduceToNat] at ho25; rw [← Ny497.out] at ho25)); have HO499 := aM (Kd.R_lower ho25 (keep_size (w := w) (g := g) (row := none) (kQ HK.out))); replace HK := aM (KeepBut.trans (kQ HK.out) (KeepBut.of_below hb g none) (.inl rfl)); replace HB := aM (below_step (bI HI0.out HB.out) hb); replace HI0 := aM (IsS69.below (iQ HI0.out) hb); clear hb ho25; have hcv26 := own_string (P := Tryz.prog) Tryz.underlying22 Tryz.underlying5 Tryz.underlying9 (Kd.own_of_R HO499.out)) | (go_at_call 91; (with_reducible refine (spec_l1Cur_pick.calls g s0_0 t495 t496 3 t500 t501 t502 w0 _ ?side1 ?side2 A14.out).mono ?_); (case side1 => exact iQ HI0.out); (case side2 => exact bI HI0.out HB.out); rintro e w27 ⟨rfl, hi, hb, hk⟩; replace HO499 := aM (Kd.R_mono (Kd.R_keep (IsS69.apart (show IsS69 w0 _ g s0_0 t495 t496 from iQ HI0.out) (rQ HO499.out) (by decide)) hk (fun _ h => h.2)) (fun _ h => h.1)); replace HK := aM (KeepBut.trans (kQ HK.out) hk (.inl rfl)); replace HB := aM (hb); replace HI0 := aM (hi); (try clear hb hk hi)))
       repeat (go_quiet (fail); try go_wp2)
       go_roundg kj5
       case measure => have := HK1.out; have := HJ5.out; omega
       case rel => exact ⟨(((x1_1.extract 0 (t491 : Int).toNat) ++ (strOfNums y497)) ++ (x1_1.extract (t491 : Int).toNat x1_1.size)), (wrap64 (x7_1 - 1)), (t501), (t502), eqQ, eqQ, H', ⟨by have := HK1.out; have := HJ5.out; omega⟩, ⟨iQ HI0.out⟩, ⟨kQ HK.out⟩, ⟨bI HI0.out HB.out⟩⟩
      ·
       rw [if_neg c15] at H
       have c15b0 : (t500 == 0) = false := beq_eq_false_iff_ne.mpr c15
       have c15b1 : (t500 != 0) = true := bne_iff_ne.mpr c15
       by_cases c28 : t500 = 1
       ·
        rw [if_pos c28] at H
        have c28b0 : (t500 == 1) = true := beq_iff_eq.mpr c28
        have c28b1 : (t500 != 1) = false := bne_eq_false_iff_eq.mpr c28
        clear c28
        by_cases c29 : 0 ≤ t491
        case neg =>
         rw [if_neg c29] at H
         exact nS H
        rw [if_pos c29] at H
        have c29b0 := eq_true c29
        have c29b1 : decide (0 ≤ t491) = true := decide_eq_true c29
        clear c29
        by_cases c30 : t491 ≤ (x1_1.size : Int)
        case neg =>
         rw [if_neg c30] at H
         exact nS H
        rw [if_pos c30] at H
        have c30b0 := eq_true c30
        have c30b1 : decide (t491 ≤ (x1_1.size : Int)) = true := decide_eq_true c30
        clear c30
        by_cases c31 : (x1_1.extract 0 (t491 : Int).toNat).size + (strOfNums y497).size ≤ 9223372036854775807
        case neg =>
         rw [if_neg c31] at H
         exact nS H
        rw [if_pos c31] at H
        have c31b0 := eq_true c31
        have c31b1 : decide ((x1_1.extract 0 (t491 : Int).toNat).size + (strOfNums y497).size ≤ 9223372036854775807) = true := decide_eq_true c31
        try have c31b2 : (9223372036854775807 < (x1_1.extract 0 (t491 : Int).toNat).size + (strOfNums y497).size) = False := eq_false (Nat.not_lt.2 c31)
        obtain ⟨ji32, hji32⟩ : ∃ j_ : Int, (wrap64 (t491 + 1)) = j_ := ⟨_, rfl⟩
        replace H : (if 0 ≤ (ji32) then (if (ji32) ≤ (x1_1.size : Int) then (if ((x1_1.extract 0 (t491 : Int).toNat) ++ (strOfNums y497)).size + (x1_1.extract ((ji32) : Int).toNat x1_1.size).size ≤ 9223372036854775807 then (spec_l1Cur_spoilt.l0 kj5 (((x1_1.extract 0 (t491 : Int).toNat) ++ (strOfNums y497)) ++ (x1_1.extract ((ji32) : Int).toNat x1_1.size)) a2 (wrap64 (x7_1 - 1)) s0_0 t501 t502) else (none)) else (none)) else (none)) = some (r1, r2, r3) := by first | (rw [hji32] at H; exact H) | (simp only [hji32] at H ⊢; exact H)
        (try rw [hji32] at A9)
        (try rw [hji32] at A10)
        (try rw [hji32] at A14)
        have hji32w : (IntKind.i64.wrap (t491 + 1)) = ji32 := (i64_w _).trans hji32
        by_cases c33 : 0 ≤ (ji32)
        case neg =>
         rw [if_neg c33] at H
         exact nS H
        rw [if_pos c33] at H
        have c33b0 := eq_true c33
        have c33b1 : decide (0 ≤ (ji32)) = true := decide_eq_true c33
        clear c33
        by_cases c34 : (ji32) ≤ (x1_1.size : Int)
        case neg =>
         rw [if_neg c34] at H
         exact nS H
        rw [if_pos c34] at H
        have c34b0 := eq_true c34
        have c34b1 : decide ((ji32) ≤ (x1_1.size : Int)) = true := decide_eq_true c34
        clear c34
        by_cases c35 : ((x1_1.extract 0 (t491 : Int).toNat) ++ (strOfNums y497)).size + (x1_1.extract ((ji32) : Int).toNat x1_1.size).size ≤ 9223372036854775807
        case neg =>
         rw [if_neg c35] at H
         exact nS H
        rw [if_pos c35] at H
        have c35b0 := eq_true c35
        have c35b1 : decide (((x1_1.extract 0 (t491 : Int).toNat) ++ (strOfNums y497)).size + (x1_1.extract ((ji32) : Int).toNat x1_1.size).size ≤ 9223372036854775807) = true := decide_eq_true c35
        try have c35b2 : (9223372036854775807 < ((x1_1.extract 0 (t491 : Int).toNat) ++ (strOfNums y497)).size + (x1_1.extract ((ji32) : Int).toNat x1_1.size).size) = False := eq_false (Nat.not_lt.2 c35)
        have H' := aM H
        clear H
        go_wp2_with (first | (go_at_call 91; (with_reducible refine (spec_l1Cur_pick.calls g s0_0 x1001_1 x1002_1 (x1_1.size : Int) t491 t492 t493 w0 _ ?side1 ?side2 A9.out).mono ?_); (case side1 => exact iQ HI0.out); (case side2 => exact bI HI0.out HB.out); rintro e w36 ⟨rfl, hi, hb, hk⟩; replace HK := aM (KeepBut.trans (kQ HK.out) hk (.inl rfl)); replace HB := aM (hb); replace HI0 := aM (hi); (try clear hb hk hi)) | (go_at_call 91; (with_reducible refine (spec_l1Cur_pick.calls g s0_0 t492 t493 (a2.size : Int) t494 t495 t496 w0 _ ?side1 ?side2 A10.out).mono ?_); (case side1 => exact iQ HI0.out); (case side2 => exact bI HI0.out HB.out); rintro e w37 ⟨rfl, hi, hb, hk⟩; replace HK := aM (KeepBut.trans (kQ HK.out) hk (.inl rfl)); replace HB := aM (hb); replace HI0 := aM (hi); (try clear hb hk hi); have p13 : 0 ≤ (t494 : Int) := dA; have q13 : t494 < (a2.size : Int) := dA; have hx13 := bt_at a2 t494; replace p13 := eq_true p13; replace q13 := eq_true q13) | ((with_reducible refine gate_dst (N := 32) rfl ?_); (try (refine gate_guard (by rfl) ?_; dsimp only)); refine Kd.R_lit (Kd.int .u8) _ 5 ?hg (N := 32) ?hd (xs := ([bt a2 t494] : List Int)) (inner := [.int .u8 (bt a2 t494)]) (ok := fun _ => True) (okp := fun _ => True) ?hr ?hp (fun _ hk => hk) trivial (Below.refl _ _) (Nat.le_refl _) (by simp) ?_; (case hd => rfl); (case hg => rfl); (case hr => first | (go_simp; done) | (go_simp; rfl)); (case hp => exact (Reps.one (show Kd.M (Kd.int .u8) _ _ _ (bt a2 t494) [.int .u8 (bt a2 t494)] from rfl) (Reps.none _ _))); intro v498 w38 ho39 hb hg_ hnew_; clear hg_ hnew_; (first | rw [← Ny497.out] at ho39 | (simp only [Int.reduceToNat] at ho39; rw [← Ny497.out] at ho39)); have HO499 := aM (Kd.R_lower ho39 (keep_size (w := w) (g := g) (row := none) (kQ HK.out))); replace HK := aM (KeepBut.trans (kQ HK.out) (KeepBut.of_below hb g none) (.inl rfl)); replace HB := aM (below_step (bI HI0.out HB.out) hb); replace HI0 := aM (IsS69.below (iQ HI0.out) hb); clear hb ho39; have hcv40 := own_string (P := Tryz.prog) Tryz.underlying22 Tryz.underlying5 Tryz.underlying9 (Kd.own_of_R HO499.out)) | (go_at_call 91; (with_reducible refine (spec_l1Cur_pick.calls g s0_0 t495 t496 3 t500 t501 t502 w0 _ ?side1 ?side2 A14.out).mono ?_); (case side1 => exact iQ HI0.out); (case side2 => exact bI HI0.out HB.out); rintro e w41 ⟨rfl, hi, hb, hk⟩; replace HO499 := aM (Kd.R_mono (Kd.R_keep (IsS69.apart (show IsS69 w0 _ g s0_0 t495 t496 from iQ HI0.out) (rQ HO499.out) (by decide)) hk (fun _ h => h.2)) (fun _ h => h.1)); replace HK := aM (KeepBut.trans (kQ HK.out) hk (.inl rfl)); replace HB := aM (hb); replace HI0 := aM (hi); (try clear hb hk hi)))
        repeat (go_quiet (fail); try go_wp2)
        go_roundg kj5
        case measure => have := HK1.out; have := HJ5.out; omega
        case rel => exact ⟨(((x1_1.extract 0 (t491 : Int).toNat) ++ (strOfNums y497)) ++ (x1_1.extract ((ji32) : Int).toNat x1_1.size)), (wrap64 (x7_1 - 1)), (t501), (t502), (by first | rfl | (simp; done) | (simp only [← hji32] <;> (first | rfl | simp)) | (simp [*]; done)), eqQ, H', ⟨by have := HK1.out; have := HJ5.out; omega⟩, ⟨iQ HI0.out⟩, ⟨kQ HK.out⟩, ⟨bI HI0.out HB.out⟩⟩
       ·
        rw [if_neg c28] at H
        have c28b0 : (t500 == 1) = false := beq_eq_false_iff_ne.mpr c28
        have c28b1 : (t500 != 1) = true := bne_iff_ne.mpr c28
        by_cases c42 : 0 ≤ t491
        case neg =>
         rw [if_neg c42] at H
         exact nS H
        rw [if_pos c42] at H
        have c42b0 := eq_true c42
        have c42b1 : decide (0 ≤ t491) = true := decide_eq_true c42
        clear c42
        by_cases c43 : t491 ≤ (x1_1.size : Int)
        case neg =>
         rw [if_neg c43] at H
         exact nS H
        rw [if_pos c43] at H
        have c43b0 := eq_true c43
        have c43b1 : decide (t491 ≤ (x1_1.size : Int)) = true := decide_eq_true c43
        clear c43
        obtain ⟨ji44, hji44⟩ : ∃ j_ : Int, (wrap64 (t491 + 1)) = j_ := ⟨_, rfl⟩
        replace H : (if 0 ≤ (ji44) then (if (ji44) ≤ (x1_1.size : Int) then (if (x1_1.extract 0 (t491 : Int).toNat).size + (x1_1.extract ((ji44) : Int).toNat x1_1.size).size ≤ 9223372036854775807 then (spec_l1Cur_spoilt.l0 kj5 ((x1_1.extract 0 (t491 : Int).toNat) ++ (x1_1.extract ((ji44) : Int).toNat x1_1.size)) a2 (wrap64 (x7_1 - 1)) s0_0 t501 t502) else (none)) else (none)) else (none)) = some (r1, r2, r3) := by first | (rw [hji44] at H; exact H) | (simp only [hji44] at H ⊢; exact H)
        (try rw [hji44] at A9)
        (try rw [hji44] at A10)
        (try rw [hji44] at A14)
        have hji44w : (IntKind.i64.wrap (t491 + 1)) = ji44 := (i64_w _).trans hji44
        by_cases c45 : 0 ≤ (ji44)
        case neg =>
         rw [if_neg c45] at H
         exact nS H
        rw [if_pos c45] at H
        have c45b0 := eq_true c45
        have c45b1 : decide (0 ≤ (ji44)) = true := decide_eq_true c45
        clear c45
        by_cases c46 : (ji44) ≤ (x1_1.size : Int)
        case neg =>
         rw [if_neg c46] at H
         exact nS H
        rw [if_pos c46] at H
        have c46b0 := eq_true c46
        have c46b1 : decide ((ji44) ≤ (x1_1.size : Int)) = true := decide_eq_true c46
        clear c46
        by_cases c47 : (x1_1.extract 0 (t491 : Int).toNat).size + (x1_1.extract ((ji44) : Int).toNat x1_1.size).size ≤ 9223372036854775807
        case neg =>
         rw [if_neg c47] at H
         exact nS H
        rw [if_pos c47] at H
        have c47b0 := eq_true c47
        have c47b1 : decide ((x1_1.extract 0 (t491 : Int).toNat).size + (x1_1.extract ((ji44) : Int).toNat x1_1.size).size ≤ 9223372036854775807) = true := decide_eq_true c47
        try have c47b2 : (9223372036854775807 < (x1_1.extract 0 (t491 : Int).toNat).size + (x1_1.extract ((ji44) : Int).toNat x1_1.size).size) = False := eq_false (Nat.not_lt.2 c47)
        have H' := aM H
        clear H
        go_wp2_with (first | (go_at_call 91; (with_reducible refine (spec_l1Cur_pick.calls g s0_0 x1001_1 x1002_1 (x1_1.size : Int) t491 t492 t493 w0 _ ?side1 ?side2 A9.out).mono ?_); (case side1 => exact iQ HI0.out); (case side2 => exact bI HI0.out HB.out); rintro e w48 ⟨rfl, hi, hb, hk⟩; replace HK := aM (KeepBut.trans (kQ HK.out) hk (.inl rfl)); replace HB := aM (hb); replace HI0 := aM (hi); (try clear hb hk hi)) | (go_at_call 91; (with_reducible refine (spec_l1Cur_pick.calls g s0_0 t492 t493 (a2.size : Int) t494 t495 t496 w0 _ ?side1 ?side2 A10.out).mono ?_); (case side1 => exact iQ HI0.out); (case side2 => exact bI HI0.out HB.out); rintro e w49 ⟨rfl, hi, hb, hk⟩; replace HK := aM (KeepBut.trans (kQ HK.out) hk (.inl rfl)); replace HB := aM (hb); replace HI0 := aM (hi); (try clear hb hk hi); have p13 : 0 ≤ (t494 : Int) := dA; have q13 : t494 < (a2.size : Int) := dA; have hx13 := bt_at a2 t494; replace p13 := eq_true p13; replace q13 := eq_true q13) | ((with_reducible refine gate_dst (N := 32) rfl ?_); (try (refine gate_guard (by rfl) ?_; dsimp only)); refine Kd.R_lit (Kd.int .u8) _ 5 ?hg (N := 32) ?hd (xs := ([bt a2 t494] : List Int)) (inner := [.int .u8 (bt a2 t494)]) (ok := fun _ => True) (okp := fun _ => True) ?hr ?hp (fun _ hk => hk) trivial (Below.refl _ _) (Nat.le_refl _) (by simp) ?_; (case hd => rfl); (case hg => rfl); (case hr => first | (go_simp; done) | (go_simp; rfl)); (case hp => exact (Reps.one (show Kd.M (Kd.int .u8) _ _ _ (bt a2 t494) [.int .u8 (bt a2 t494)] from rfl) (Reps.none _ _))); intro v498 w50 ho51 hb hg_ hnew_; clear hg_ hnew_; (first | rw [← Ny497.out] at ho51 | (simp only [Int.reduceToNat] at ho51; rw [← Ny497.out] at ho51)); have HO499 := aM (Kd.R_lower ho51 (keep_size (w := w) (g := g) (row := none) (kQ HK.out))); replace HK := aM (KeepBut.trans (kQ HK.out) (KeepBut.of_below hb g none) (.inl rfl)); replace HB := aM (below_step (bI HI0.out HB.out) hb); replace HI0 := aM (IsS69.below (iQ HI0.out) hb); clear hb ho51; have hcv52 := own_string (P := Tryz.prog) Tryz.underlying22 Tryz.underlying5 Tryz.underlying9 (Kd.own_of_R HO499.out)) | (go_at_call 91; (with_reducible refine (spec_l1Cur_pick.calls g s0_0 t495 t496 3 t500 t501 t502 w0 _ ?side1 ?side2 A14.out).mono ?_); (case side1 => exact iQ HI0.out); (case side2 => exact bI HI0.out HB.out); rintro e w53 ⟨rfl, hi, hb, hk⟩; replace HO499 := aM (Kd.R_mono (Kd.R_keep (IsS69.apart (show IsS69 w0 _ g s0_0 t495 t496 from iQ HI0.out) (rQ HO499.out) (by decide)) hk (fun _ h => h.2)) (fun _ h => h.1)); replace HK := aM (KeepBut.trans (kQ HK.out) hk (.inl rfl)); replace HB := aM (hb); replace HI0 := aM (hi); (try clear hb hk hi)))
        repeat (go_quiet (fail); try go_wp2)
        go_roundg kj5
        case measure => have := HK1.out; have := HJ5.out; omega
        case rel => exact ⟨((x1_1.extract 0 (t491 : Int).toNat) ++ (x1_1.extract ((ji44) : Int).toNat x1_1.size)), (wrap64 (x7_1 - 1)), (t501), (t502), (by first | rfl | (simp; done) | (simp only [← hji44] <;> (first | rfl | simp)) | (simp [*]; done)), eqQ, H', ⟨by have := HK1.out; have := HJ5.out; omega⟩, ⟨iQ HI0.out⟩, ⟨kQ HK.out⟩, ⟨bI HI0.out HB.out⟩⟩
     ·
      replace c8 := Bool.eq_false_iff.mpr c8
      subst c8
      have H1 : (some (x1_1, x1001_1, x1002_1)) = some (r1, r2, r3) := by rw [if_neg (show ¬ (false = true) by decide)] at H; exact H
      clear H
      have H := H1
      clear H1
      simp only [Option.some.injEq, Prod.mk.injEq] at H
      obtain ⟨rfl, rfl, rfl⟩ := H
      go_wp2
      repeat (go_quiet (fail); try go_wp2)
      go_ret
      exact ⟨erQ, iQ HI0.out, bI HI0.out HB.out, kQ HK.out⟩

/-! ### spec_DrawParseAges: function 39 -/
def spec_DrawParseAges.f (k : Nat) (l0 : List Int) : Option (ByteArray) := (spec_l1Cur_sureAges.f k l0 0 0).bind fun bt504 => ((spec_agText.f k bt504.1).bind fun t509 => ((spec_l1Cur_one.f l0 bt504.2.1 bt504.2.2 3).bind fun bt510 => (if bt510.1 = true then ((spec_l1Cur_spoilt.f k l0 bt510.2.1 bt510.2.2 t509 (⟨#[48, 49, 50, 51, 45, 120]⟩ : ByteArray)).bind fun bt513 => (some bt513.1)) else (some t509))))
theorem spec_DrawParseAges.mono : ∀ a0 k, LeO (spec_DrawParseAges.f k a0) (spec_DrawParseAges.f (k + 1) a0) := by
 intro a0 k
 unfold spec_DrawParseAges.f
 repeat' first
   | (with_reducible exact spec_agText.mono _ _)
   | (with_reducible exact spec_l1Cur_spoilt.mono _ _ _ _ _ _)
   | (with_reducible exact spec_l1Cur_sureAges.mono _ _ _ _)
   | (with_reducible exact LeO.refl _)
   | (with_reducible exact LeO.none _)
   | (with_reducible refine LeO.ite ?_ ?_)
   | (with_reducible refine LeO.bind ?_ (fun _ => ?_))
set_option maxHeartbeats 8000000 in
set_option maxRecDepth 100000 in
theorem spec_DrawParseAges.calls (k : Nat) (A0 : Option Addr) (c0 : Nat) (l0 : List Int) (r : ByteArray) (w : World) (hr0 : Kd.C (Kd.int .u8) w A0 l0.length l0) (hc0 : l0.length ≤ c0) (h : spec_DrawParseAges.f k l0 = some r) :
  Calls Tryz.prog 39 #[.slice A0 l0.length c0] w fun e w' => e = .returned (.string r) ∧ Below w.heap.size w w' := by
 have hu69 := Tryz.underlying69
 have HR0 := aM hr0
 have HC0 := aM hc0
 clear hr0 hc0
 have HB := aM (Below.refl w.heap.size w)
 have H : ((spec_l1Cur_sureAges.f k l0 0 0).bind fun bt504 => ((spec_agText.f k bt504.1).bind fun t509 => ((spec_l1Cur_one.f l0 bt504.2.1 bt504.2.2 3).bind fun bt510 => (if bt510.1 = true then ((spec_l1Cur_spoilt.f k l0 bt510.2.1 bt510.2.2 t509 (⟨#[48, 49, 50, 51, 45, 120]⟩ : ByteArray)).bind fun bt513 => (some bt513.1)) else (some t509))))) = some r := h
 clear h
 replace H := oB H
 obtain ⟨⟨t504, t507, t508⟩, A20, H⟩ := H
 (try dsimp only at H)
 have A2 := aM A20
 clear A20
 replace H := oB H
 obtain ⟨t509, A30, H⟩ := H
 (try dsimp only at H)
 have A3 := aM A30
 clear A30
 replace H := oB H
 obtain ⟨⟨t510, t511, t512⟩, A40, H⟩ := H
 (try dsimp only at H)
 have A4 := aM A40
 clear A40
 by_cases c5 : t510 = true
 ·
  subst c5
  replace H := (if_pos rfl).symm.trans H
  replace H := oB H
  obtain ⟨⟨t513, t514, t515⟩, A60, H⟩ := H
  (try dsimp only at H)
  have A6 := aM A60
  clear A60
  obtain rfl := Option.some.inj H
  go_enter Tryz.func39, Tryz.ntmps39
  go_wp2_with (first | ((with_reducible refine gate_dst (N := 7) rfl ?_); refine box_event ?hg (N := 7) ?hd (cs := #[.slice A0 l0.length c0, .int .i64 0, .int .u64 0]) (t := 69) ?hr ?_; (case hd => rfl); (case hg => rfl); (case hr => first | (go_simp; done) | (go_simp; rfl)); intro gb503 hg w7 hbox hb; have HI503 := aM ((⟨_, _, hbox, (by rw [hg]; exact (bZ HB.out) : w.heap.size ≤ gb503), HR0.out⟩ : IsS69 w w7 gb503 l0 0 0)); replace HB := aM (bS HB.out hb); clear hb hbox hg) | ((with_reducible refine gate_callee (f := 75) rfl ?_); refine gL 9 Tryz.func75 #[.pointer (some ⟨gb503, 0, none⟩)] rfl rfl rfl rfl ?_; (with_reducible refine (spec_l1Cur_sureAges.calls k gb503 l0 0 0 t504 t507 t508 w _ ?side1 ?side2 A2.out).mono ?_); (case side1 => exact iQ HI503.out); (case side2 => exact bI HI503.out HB.out); rintro e w8 ⟨v505, rfl, ho0, hi, hb, hk⟩; refine ⟨_, rfl, ?_⟩; have HO506 := aM (Kd.R_lower ho0 (below_size (bI HI503.out HB.out))); replace HB := aM (hb); replace HI503 := aM (hi); (try clear hb hk hi ho0); obtain ⟨Ao9, co9, eo9⟩ := Kd.R_slice HO506.out; subst eo9) | ((with_reducible refine gate_callee (f := 56) rfl ?_); refine gL 10 Tryz.func56 #[.slice Ao9 t504.length co9] rfl rfl rfl rfl ?_; (with_reducible refine (spec_agText.calls k _ _ t504 t509 _ ?side1 ?side2 A3.out).mono ?_); (case side1 => exact cQ ((Kd.R_reads' HO506.out).2.2)); (case side2 => exact (Kd.R_reads' HO506.out).2.1); rintro e w10 ⟨rfl, hb⟩; refine ⟨_, rfl, ?_⟩; replace HO506 := aM (Kd.R_below (rQ HO506.out) hb); replace HB := aM (below_step (bI HI503.out HB.out) hb); replace HI503 := aM (IsS69.below (iQ HI503.out) hb); (try clear hb)) | ((with_reducible refine gate_callee (f := 76) rfl ?_); refine gL 12 Tryz.func76 #[.pointer (some ⟨gb503, 0, none⟩), .int .i64 3] rfl rfl rfl rfl ?_; (with_reducible refine (spec_l1Cur_one.calls gb503 l0 t507 t508 3 true t511 t512 w _ ?side1 ?side2 A4.out).mono ?_); (case side1 => exact iQ HI503.out); (case side2 => exact bI HI503.out HB.out); rintro e w11 ⟨rfl, hi, hb, hk⟩; refine ⟨_, rfl, ?_⟩; replace HO506 := aM (Kd.R_mono (Kd.R_keep (IsS69.apart (show IsS69 w _ gb503 l0 t507 t508 from iQ HI503.out) (rQ HO506.out) (by decide)) hk (fun _ h => h.2)) (fun _ h => h.1)); replace HB := aM (hb); replace HI503 := aM (hi); (try clear hb hk hi)) | ((with_reducible refine gate_callee (f := 77) rfl ?_); refine gL 15 Tryz.func77 #[.pointer (some ⟨gb503, 0, none⟩), .string t509, .string (⟨#[48, 49, 50, 51, 45, 120]⟩ : ByteArray)] rfl rfl rfl rfl ?_; (with_reducible refine (spec_l1Cur_spoilt.calls k gb503 l0 t511 t512 t509 (⟨#[48, 49, 50, 51, 45, 120]⟩ : ByteArray) t513 t514 t515 w _ ?side1 ?side2 A6.out).mono ?_); (case side1 => exact iQ HI503.out); (case side2 => exact bI HI503.out HB.out); rintro e w12 ⟨rfl, hi, hb, hk⟩; refine ⟨_, rfl, ?_⟩; replace HO506 := aM (Kd.R_mono (Kd.R_keep (IsS69.apart (show IsS69 w _ gb503 l0 t511 t512 from iQ HI503.out) (rQ HO506.out) (by decide)) hk (fun _ h => h.2)) (fun _ h => h.1)); replace HB := aM (hb); replace HI503 := aM (hi); (try clear hb hk hi)))
  go_ret
  exact ⟨erQ, bI HI503.out HB.out⟩
 ·
  replace c5 := Bool.eq_false_iff.mpr c5
  subst c5
  have H1 : (some t509) = some r := by rw [if_neg (show ¬ (false = true) by decide)] at H; exact H
  clear H
  have H := H1
  clear H1
  obtain rfl := Option.some.inj H
  go_enter Tryz.func39, Tryz.ntmps39
  go_wp2_with (first | ((with_reducible refine gate_dst (N := 7) rfl ?_); refine box_event ?hg (N := 7) ?hd (cs := #[.slice A0 l0.length c0, .int .i64 0, .int .u64 0]) (t := 69) ?hr ?_; (case hd => rfl); (case hg => rfl); (case hr => first | (go_simp; done) | (go_simp; rfl)); intro gb503 hg w13 hbox hb; have HI503 := aM ((⟨_, _, hbox, (by rw [hg]; exact (bZ HB.out) : w.heap.size ≤ gb503), HR0.out⟩ : IsS69 w w13 gb503 l0 0 0)); replace HB := aM (bS HB.out hb); clear hb hbox hg) | ((with_reducible refine gate_callee (f := 75) rfl ?_); refine gL 9 Tryz.func75 #[.pointer (some ⟨gb503, 0, none⟩)] rfl rfl rfl rfl ?_; (with_reducible refine (spec_l1Cur_sureAges.calls k gb503 l0 0 0 t504 t507 t508 w _ ?side1 ?side2 A2.out).mono ?_); (case side1 => exact iQ HI503.out); (case side2 => exact bI HI503.out HB.out); rintro e w14 ⟨v505, rfl, ho0, hi, hb, hk⟩; refine ⟨_, rfl, ?_⟩; have HO506 := aM (Kd.R_lower ho0 (below_size (bI HI503.out HB.out))); replace HB := aM (hb); replace HI503 := aM (hi); (try clear hb hk hi ho0); obtain ⟨Ao15, co15, eo15⟩ := Kd.R_slice HO506.out; subst eo15) | ((with_reducible refine gate_callee (f := 56) rfl ?_); refine gL 10 Tryz.func56 #[.slice Ao15 t504.length co15] rfl rfl rfl rfl ?_; (with_reducible refine (spec_agText.calls k _ _ t504 t509 _ ?side1 ?side2 A3.out).mono ?_); (case side1 => exact cQ ((Kd.R_reads' HO506.out).2.2)); (case side2 => exact (Kd.R_reads' HO506.out).2.1); rintro e w16 ⟨rfl, hb⟩; refine ⟨_, rfl, ?_⟩; replace HO506 := aM (Kd.R_below (rQ HO506.out) hb); replace HB := aM (below_step (bI HI503.out HB.out) hb); replace HI503 := aM (IsS69.below (iQ HI503.out) hb); (try clear hb)) | ((with_reducible refine gate_callee (f := 76) rfl ?_); refine gL 12 Tryz.func76 #[.pointer (some ⟨gb503, 0, none⟩), .int .i64 3] rfl rfl rfl rfl ?_; (with_reducible refine (spec_l1Cur_one.calls gb503 l0 t507 t508 3 false t511 t512 w _ ?side1 ?side2 A4.out).mono ?_); (case side1 => exact iQ HI503.out); (case side2 => exact bI HI503.out HB.out); rintro e w17 ⟨rfl, hi, hb, hk⟩; refine ⟨_, rfl, ?_⟩; replace HO506 := aM (Kd.R_mono (Kd.R_keep (IsS69.apart (show IsS69 w _ gb503 l0 t507 t508 from iQ HI503.out) (rQ HO506.out) (by decide)) hk (fun _ h => h.2)) (fun _ h => h.1)); replace HB := aM (hb); replace HI503 := aM (hi); (try clear hb hk hi)))
  go_ret
  exact ⟨erQ, bI HI503.out HB.out⟩

/-! ### spec_l1Split: function 94 -/
def spec_l1Split.l0 : Nat → ByteArray → Int → List ByteArray → Int → Int → Option (List ByteArray)
 | 0, _, _, _, _, _ => none
 | k + 1, x0, x1, x5, x6, x7 => if x7 < (x0.size : Int) then (if 0 ≤ x7 then (if (bt x0 x7) = x1 then (if 0 ≤ x6 then (if x6 ≤ x7 then (if x7 ≤ (x0.size : Int) then (if x5.length < 8796093022208 then (spec_l1Split.l0 k x0 x1 (x5 ++ [x0.extract (x6 : Int).toNat (x7 : Int).toNat]) (wrap64 (x7 + 1)) (wrap64 (x7 + 1))) else (none)) else (none)) else (none)) else (none)) else (spec_l1Split.l0 k x0 x1 x5 x6 (wrap64 (x7 + 1)))) else (none)) else (if 0 ≤ x6 then (if x6 ≤ (x0.size : Int) then (if x5.length < 8796093022208 then (some (x5 ++ [x0.extract (x6 : Int).toNat x0.size])) else (none)) else (none)) else (none))
def spec_l1Split.f (k : Nat) (a0 : ByteArray) (a1 : Int) : Option (List ByteArray) := spec_l1Split.l0 k a0 a1 ([] : List ByteArray) 0 0
theorem spec_l1Split.mono_l : ∀ k, (∀ y0 y1 y2 y3 y4, LeO (spec_l1Split.l0 k y0 y1 y2 y3 y4) (spec_l1Split.l0 (k + 1) y0 y1 y2 y3 y4))
 | 0 => fun _ _ _ _ _ r h => by simp [spec_l1Split.l0] at h
 | k + 1 => by
  have ih0 := spec_l1Split.mono_l k
  ·
   intro y0 y1 y2 y3 y4
   unfold spec_l1Split.l0
   repeat' first
   | (with_reducible exact ih0 _ _ _ _ _)
   | (with_reducible exact LeO.refl _)
   | (with_reducible exact LeO.none _)
   | (with_reducible refine LeO.ite ?_ ?_)
   | (with_reducible refine LeO.bind ?_ (fun _ => ?_))
theorem spec_l1Split.mono : ∀ a0 a1 k, LeO (spec_l1Split.f k a0 a1) (spec_l1Split.f (k + 1) a0 a1) := by
 intro a0 a1 k
 have ih0 := spec_l1Split.mono_l k
 unfold spec_l1Split.f
 repeat' first
   | (with_reducible exact ih0 _ _ _ _ _)
   | (with_reducible exact LeO.refl _)
   | (with_reducible exact LeO.none _)
   | (with_reducible refine LeO.ite ?_ ?_)
   | (with_reducible refine LeO.bind ?_ (fun _ => ?_))
set_option maxHeartbeats 8000000 in
set_option maxRecDepth 100000 in
theorem spec_l1Split.calls (k : Nat) (a0 : ByteArray) (a1 : Int) (r : List ByteArray) (w : World) (h : spec_l1Split.f k a0 a1 = some r) :
  Calls Tryz.prog 94 #[.string a0, .int .u8 a1] w fun e w' => ∃ v0_ : Value, e = .returned (v0_) ∧ Kd.R Kd.string 9 w' w.heap.size (fun _ => True) v0_ r ∧ Below w.heap.size w w' := by
 have HB := aM (Below.refl w.heap.size w)
 have H : (spec_l1Split.l0 k a0 a1 ([] : List ByteArray) 0 0) = some r := h
 clear h
 have H' := aM H
 clear H
 go_enter Tryz.func94, Tryz.ntmps94
 go_wp2
 go_loopg [5, 6, 7] k (fun kq v5 v6 v7 w' => ∃ (x5_1 : List ByteArray) (x6_1 : Int) (x7_1 : Int), v6 = .int .i64 x6_1 ∧ v7 = .int .i64 x7_1 ∧ Aside0 (spec_l1Split.l0 kq a0 a1 x5_1 x6_1 x7_1 = some r) ∧ Aside0 (kq ≤ k) ∧ Aside0 (Kd.R Kd.string 9 w' w.heap.size (fun _ => True) v5 x5_1) ∧ Aside0 (Below w.heap.size w w'))
 case atStart => exact ⟨(([] : List ByteArray)), (0), (0), eqQ, eqQ, H', ⟨Nat.le_refl _⟩, ⟨by first | exact Kd.R_nil _ _ _ _ _ | exact Kd.N_nil _ _ _ _ _ | exact Kd.V_nil _ _ _ _ _ | exact Kd.Q_nil _ _ _ _ _ | exact Kd.S_nil _ _ _ _ _⟩, ⟨bE HB.out⟩⟩
 case round =>
  clear H'
  try clear p2
  obtain ⟨x5_1, x6_1, x7_1, rfl, rfl, HA, HK1, HO_5, HB⟩ := hrel
  cases gk with
  | zero => exact absurd HA.out (by simp [spec_l1Split.l0])
  | succ k1 =>
   have H := HA.out
   clear HA
   simp only [spec_l1Split.l0] at H
   by_cases c3 : x7_1 < (a0.size : Int)
   ·
    rw [if_pos c3] at H
    have c3b0 : decide (x7_1 < (a0.size : Int)) = true := decide_eq_true c3
    clear c3
    by_cases c4 : 0 ≤ x7_1
    case neg =>
     rw [if_neg c4] at H
     exact nS H
    rw [if_pos c4] at H
    have c4b0 : decide (0 ≤ x7_1) = true := decide_eq_true c4
    clear c4
    by_cases c6 : (bt a0 x7_1) = a1
    ·
     rw [if_pos c6] at H
     have c6b0 : ((bt a0 x7_1) == a1) = true := beq_iff_eq.mpr c6
     have c6b1 : ((bt a0 x7_1) != a1) = false := bne_eq_false_iff_eq.mpr c6
     clear c6
     by_cases c7 : 0 ≤ x6_1
     case neg =>
      rw [if_neg c7] at H
      exact nS H
     rw [if_pos c7] at H
     have c7b0 := eq_true c7
     have c7b1 : decide (0 ≤ x6_1) = true := decide_eq_true c7
     clear c7
     by_cases c8 : x6_1 ≤ x7_1
     case neg =>
      rw [if_neg c8] at H
      exact nS H
     rw [if_pos c8] at H
     have c8b0 := eq_true c8
     have c8b1 : decide (x6_1 ≤ x7_1) = true := decide_eq_true c8
     clear c8
     by_cases c9 : x7_1 ≤ (a0.size : Int)
     case neg =>
      rw [if_neg c9] at H
      exact nS H
     rw [if_pos c9] at H
     have c9b0 := eq_true c9
     have c9b1 : decide (x7_1 ≤ (a0.size : Int)) = true := decide_eq_true c9
     clear c9
     by_cases c10 : x5_1.length < 8796093022208
     case neg =>
      rw [if_neg c10] at H
      exact nS H
     rw [if_pos c10] at H
     have LMc10 := aM c10
     clear c10
     obtain ⟨y516, hy516⟩ : ∃ y_ : List ByteArray, y_ = (x5_1 ++ [a0.extract (x6_1 : Int).toNat (x7_1 : Int).toNat]) := ⟨_, rfl⟩
     replace H : (spec_l1Split.l0 k1 a0 a1 y516 (wrap64 (x7_1 + 1)) (wrap64 (x7_1 + 1))) = some r := by first | (rw [hy516]; with_reducible exact H) | (have H2_ := (Option.bind_some _ _).symm.trans H; rw [hy516]; with_reducible exact H2_) | (have H2_ := (Option.bind_some _ _).symm.trans H; with_reducible exact H2_) | with_reducible exact H | (rw [hy516]; exact H) | exact H
     have Ny516 := aM hy516
     clear hy516
     have H' := aM H
     clear H
     have p5 : 0 ≤ (x7_1 : Int) := dA
     have q5 : x7_1 < (a0.size : Int) := dA
     have hx5 := bt_at a0 x7_1
     replace p5 := eq_true p5
     replace q5 := eq_true q5
     go_wp2_with (first | ((with_reducible refine gate_builtin (b := .append) (xs := #[.tmp 19, .tmp 24]) rfl ?_); at_builtin; refine Kd.R_append Kd.string (w0 := w) w.heap.size rfl (.tmp 19) (.tmp 24) 78 9 (.string ⟨#[]⟩) 16 rfl Tryz.underlying78 info9 rfl (by decide) (by omega) u5 x5_1 (a0.extract (x6_1 : Int).toNat (x7_1 : Int).toNat) [.string (a0.extract (x6_1 : Int).toNat (x7_1 : Int).toNat)] (fun _ => True) (fun _ => False) rfl rfl ?aP (fun _ hk => hk.elim) ?aF ?aO ?aB ?aS ?aL ?_; (case aP => exact rfl); (case aB => exact (bE HB.out)); (case aF => exact (fun _ _ => trivial)); (case aO => exact (rQ HO_5.out)); (case aS => exact (bZ HB.out)); (case aL => have := LMc10.out; omega); intro v517 w11 ho hb hg hat; rw [← Ny516.out] at ho; replace HB := aM (hb); have HO518 := aM (ho); clear HO_5; clear ho hb hg hat))
     go_roundg k1
     case measure => have := HK1.out; omega
     case rel => exact ⟨(y516), (wrap64 (x7_1 + 1)), (wrap64 (x7_1 + 1)), eqQ, eqQ, H', ⟨by have := HK1.out; omega⟩, ⟨rQ HO518.out⟩, ⟨bE HB.out⟩⟩
    ·
     rw [if_neg c6] at H
     have c6b0 : ((bt a0 x7_1) == a1) = false := beq_eq_false_iff_ne.mpr c6
     have c6b1 : ((bt a0 x7_1) != a1) = true := bne_iff_ne.mpr c6
     have H' := aM H
     clear H
     have p5 : 0 ≤ (x7_1 : Int) := dA
     have q5 : x7_1 < (a0.size : Int) := dA
     have hx5 := bt_at a0 x7_1
     replace p5 := eq_true p5
     replace q5 := eq_true q5
     go_wp2
     go_roundg k1
     case measure => have := HK1.out; omega
     case rel => exact ⟨(x5_1), (x6_1), (wrap64 (x7_1 + 1)), eqQ, eqQ, H', ⟨by have := HK1.out; omega⟩, ⟨rQ HO_5.out⟩, ⟨bE HB.out⟩⟩
   ·
    rw [if_neg c3] at H
    have c3b0 : decide (x7_1 < (a0.size : Int)) = false := decide_eq_false c3
    clear c3
    by_cases c12 : 0 ≤ x6_1
    case neg =>
     rw [if_neg c12] at H
     exact nS H

    rw [if_pos c12] at H
    have c12b0 := eq_true c12
    have c12b1 : decide (0 ≤ x6_1) = true := decide_eq_true c12
    clear c12
    by_cases c13 : x6_1 ≤ (a0.size : Int)
    case neg =>
     rw [if_neg c13] at H
     exact nS H
    rw [if_pos c13] at H
    have c13b0 := eq_true c13
    have c13b1 : decide (x6_1 ≤ (a0.size : Int)) = true := decide_eq_true c13
    clear c13
    by_cases c14 : x5_1.length < 8796093022208
    case neg =>
     rw [if_neg c14] at H
     exact nS H
    rw [if_pos c14] at H
    have LMc14 := aM c14
    clear c14
    obtain ⟨y519, hy519⟩ : ∃ y_ : List ByteArray, y_ = (x5_1 ++ [a0.extract (x6_1 : Int).toNat a0.size]) := ⟨_, rfl⟩
    replace H : (some y519) = some r := by first | (rw [hy519]; with_reducible exact H) | (have H2_ := (Option.bind_some _ _).symm.trans H; rw [hy519]; with_reducible exact H2_) | (have H2_ := (Option.bind_some _ _).symm.trans H; with_reducible exact H2_) | with_reducible exact H | (rw [hy519]; exact H) | exact H
    have Ny519 := aM hy519
    clear hy519
    obtain rfl := Option.some.inj H
    go_wp2_with (first | ((with_reducible refine gate_builtin (b := .append) (xs := #[.tmp 28, .tmp 32]) rfl ?_); at_builtin; refine Kd.R_append Kd.string (w0 := w) w.heap.size rfl (.tmp 28) (.tmp 32) 78 9 (.string ⟨#[]⟩) 16 rfl Tryz.underlying78 info9 rfl (by decide) (by omega) u5 x5_1 (a0.extract (x6_1 : Int).toNat a0.size) [.string (a0.extract (x6_1 : Int).toNat a0.size)] (fun _ => True) (fun _ => False) rfl rfl ?aP (fun _ hk => hk.elim) ?aF ?aO ?aB ?aS ?aL ?_; (case aP => exact rfl); (case aB => exact (bE HB.out)); (case aF => exact (fun _ _ => trivial)); (case aO => exact (rQ HO_5.out)); (case aS => exact (bZ HB.out)); (case aL => have := LMc14.out; omega); intro v520 w15 ho hb hg hat; rw [← Ny519.out] at ho; replace HB := aM (hb); have HO521 := aM (ho); clear HO_5; clear ho hb hg hat))
    go_ret
    exact ⟨_, erQ, rQ HO521.out, bE HB.out⟩
/-! ### spec_l1Read: function 95 -/
mutual
def spec_l1Read.j0 : Nat → ByteArray → Bool → Option (Int)
 | 0, _, _ => none
 | k + 1, x0, x18 => if x18 = true then (some (-1)) else (spec_l1Read.l0 k x0 0 0)
def spec_l1Read.l0 : Nat → ByteArray → Int → Int → Option (Int)
 | 0, _, _, _ => none
 | k + 1, x0, x3, x4 => if x4 < (x0.size : Int) then (if 0 ≤ x4 then (if (bt x0 x4) < 48 then (some (-1)) else (if (bt x0 x4) > 57 then (some (-1)) else (spec_l1Read.l0 k x0 (wrap64 ((wrap64 (10 * x3)) + (((bt x0 x4) - 48) % 256))) (wrap64 (x4 + 1))))) else (none)) else (some x3)
end
def spec_l1Read.f (k : Nat) (a0 : ByteArray) : Option (Int) := (spec_l1In.f (a0.size : Int) 1 6).bind fun t522 => (if t522 = true then (if 0 < (a0.size : Int) then (if (bt a0 0) = 48 then (spec_l1Read.j0 k a0 (decide ((a0.size : Int) > 1))) else (spec_l1Read.j0 k a0 false)) else (none)) else (spec_l1Read.j0 k a0 true))
theorem spec_l1Read.mono_l : ∀ k, (∀ y0 y1, LeO (spec_l1Read.j0 k y0 y1) (spec_l1Read.j0 (k + 1) y0 y1)) ∧ (∀ y0 y1 y2, LeO (spec_l1Read.l0 k y0 y1 y2) (spec_l1Read.l0 (k + 1) y0 y1 y2))
 | 0 => ⟨fun _ _ r h => by simp [spec_l1Read.j0] at h, fun _ _ _ r h => by simp [spec_l1Read.l0] at h⟩
 | k + 1 => by
  obtain ⟨ih0, ih1⟩ := spec_l1Read.mono_l k
  refine ⟨?_, ?_⟩
  ·
   intro y0 y1
   unfold spec_l1Read.j0
   repeat' first
   | (with_reducible exact ih0 _ _)
   | (with_reducible exact ih1 _ _ _)
   | (with_reducible exact LeO.refl _)
   | (with_reducible exact LeO.none _)
   | (with_reducible refine LeO.ite ?_ ?_)
   | (with_reducible refine LeO.bind ?_ (fun _ => ?_))
  ·
   intro y0 y1 y2
   unfold spec_l1Read.l0
   repeat' first
   | (with_reducible exact ih0 _ _)
   | (with_reducible exact ih1 _ _ _)
   | (with_reducible exact LeO.refl _)
   | (with_reducible exact LeO.none _)
   | (with_reducible refine LeO.ite ?_ ?_)
   | (with_reducible refine LeO.bind ?_ (fun _ => ?_))
theorem spec_l1Read.mono : ∀ a0 k, LeO (spec_l1Read.f k a0) (spec_l1Read.f (k + 1) a0) := by
 intro a0 k
 obtain ⟨ih0, ih1⟩ := spec_l1Read.mono_l k
 unfold spec_l1Read.f
 repeat' first
   | (with_reducible exact ih0 _ _)
   | (with_reducible exact ih1 _ _ _)
   | (with_reducible exact LeO.refl _)
   | (with_reducible exact LeO.none _)
   | (with_reducible refine LeO.ite ?_ ?_)
   | (with_reducible refine LeO.bind ?_ (fun _ => ?_))
set_option maxHeartbeats 8000000 in
set_option maxRecDepth 100000 in
theorem spec_l1Read.calls (k : Nat) (a0 : ByteArray) (r : Int) (w : World) (h : spec_l1Read.f k a0 = some r) :
  Calls Tryz.prog 95 #[.string a0] w fun e w' => e = .returned (.int .i64 r) ∧ Drawn0 w w' := by
 have H : ((spec_l1In.f (a0.size : Int) 1 6).bind fun t522 => (if t522 = true then (if 0 < (a0.size : Int) then (if (bt a0 0) = 48 then (spec_l1Read.j0 k a0 (decide ((a0.size : Int) > 1))) else (spec_l1Read.j0 k a0 false)) else (none)) else (spec_l1Read.j0 k a0 true))) = some r := h
 clear h
 have HC2 := aM H
 clear H
 go_enter Tryz.func95, Tryz.ntmps95
 go_upto_region 1 with (fail)
 go_cut [18] (fun v18 wc => ∃ (kq : Nat) (x18_1 : Bool), v18 = .bool x18_1 ∧ Aside0 (spec_l1Read.j0 kq a0 x18_1 = some r) ∧ Aside0 (kq ≤ k) ∧ Drawn0 w wc)
 case first =>
  have H := HC2.out
  clear HC2
  replace H := oB H
  obtain ⟨t522, A30, H⟩ := H
  (try dsimp only at H)
  have A3 := aM A30
  clear A30
  by_cases c4 : t522 = true
  ·
   subst c4
   replace H := (if_pos rfl).symm.trans H
   by_cases c5 : 0 < (a0.size : Int)
   case neg =>
    rw [if_neg c5] at H
    exact nS H
   rw [if_pos c5] at H
   have c5b0 : decide (0 < (a0.size : Int)) = true := decide_eq_true c5
   have c5b1 : decide (0 < a0.size) = true := decide_eq_true (by omega)
   clear c5
   (first | rw [c5b0] | (simp only [i64_w, i32_w]; rw [c5b0]) | skip)
   by_cases c7 : (bt a0 0) = 48
   case neg =>
    rw [if_neg c7] at H
    have c7b0 : ((bt a0 0) == 48) = false := beq_eq_false_iff_ne.mpr c7
    have c7b1 : ((bt a0 0) != 48) = true := bne_iff_ne.mpr c7
    have H' := aM H
    clear H
    go_wp2_with (first | ((with_reducible refine gate_callee (f := 74) rfl ?_); refine gL 7 Tryz.func74 #[.int .i64 (a0.size : Int), .int .i64 1, .int .i64 6] rfl rfl rfl rfl ?_; (with_reducible refine (spec_l1In.calls (a0.size : Int) 1 6 true _ A3.out).mono ?_); rintro e w' ⟨rfl, ⟨nd, rfl⟩⟩; refine ⟨_, rfl, ?_⟩; have p6 : 0 ≤ (0 : Int) := (by omega); have q6 : 0 < a0.size := (by have : (0 : Int) < (a0.size : Int) := dA; omega); have hx6 : ∀ h : 0 < a0.size, ((a0[0]'h).toNat : Int) = bt a0 0 := bt_at a0 0; clear p6; have qi6 : (0 < (a0.size : Int)) = True := eq_true (dA); replace q6 := eq_true q6))
    go_meet
    case rel => exact ⟨_, (false), eqQ, H', ⟨by first | omega | exact Nat.le_refl _⟩, dQ⟩
   rw [if_pos c7] at H
   have c7b0 : ((bt a0 0) == 48) = true := beq_iff_eq.mpr c7
   have c7b1 : ((bt a0 0) != 48) = false := bne_eq_false_iff_eq.mpr c7
   clear c7
   have H' := aM H
   clear H
   go_wp2_with (first | ((with_reducible refine gate_callee (f := 74) rfl ?_); refine gL 7 Tryz.func74 #[.int .i64 (a0.size : Int), .int .i64 1, .int .i64 6] rfl rfl rfl rfl ?_; (with_reducible refine (spec_l1In.calls (a0.size : Int) 1 6 true _ A3.out).mono ?_); rintro e w' ⟨rfl, ⟨nd, rfl⟩⟩; refine ⟨_, rfl, ?_⟩; have p6 : 0 ≤ (0 : Int) := (by omega); have q6 : 0 < a0.size := (by have : (0 : Int) < (a0.size : Int) := dA; omega); have hx6 : ∀ h : 0 < a0.size, ((a0[0]'h).toNat : Int) = bt a0 0 := bt_at a0 0; clear p6; have qi6 : (0 < (a0.size : Int)) = True := eq_true (dA); replace q6 := eq_true q6))
   go_meet
   case rel => exact ⟨_, (decide ((a0.size : Int) > 1)), eqQ, H', ⟨by first | omega | exact Nat.le_refl _⟩, dQ⟩
  ·
   replace c4 := Bool.eq_false_iff.mpr c4
   subst c4
   have H1 : (spec_l1Read.j0 k a0 true) = some r := by rw [if_neg (show ¬ (false = true) by decide)] at H; exact H
   clear H
   have H := H1
   clear H1
   have H' := aM H
   clear H
   go_wp2_with (first | ((with_reducible refine gate_callee (f := 74) rfl ?_); refine gL 7 Tryz.func74 #[.int .i64 (a0.size : Int), .int .i64 1, .int .i64 6] rfl rfl rfl rfl ?_; (with_reducible refine (spec_l1In.calls (a0.size : Int) 1 6 false _ A3.out).mono ?_); rintro e w' ⟨rfl, ⟨nd, rfl⟩⟩; refine ⟨_, rfl, ?_⟩))
   go_meet
   case rel => exact ⟨_, (true), eqQ, H', ⟨by first | omega | exact Nat.le_refl _⟩, dQ⟩
 case rest =>
  clear HC2
  try clear p2
  try clear c4
  try clear c5
  try clear c5b0
  try clear c5b1
  try clear p6
  try clear q6
  try clear hx6
  try clear qi6
  try clear c7
  try clear c7b0
  try clear c7b1
  try clear p6
  try clear q6
  obtain ⟨kq, x18_1, rfl, HA, HJ1, ⟨mc1, rfl⟩⟩ := hcut
  cases kq with
  | zero => exact absurd HA.out (by simp [spec_l1Read.j0])
  | succ kj1 =>
   have H := HA.out
   clear HA
   simp only [spec_l1Read.j0] at H
   by_cases c8 : x18_1 = true
   case pos =>
    subst c8
    replace H := (if_pos rfl).symm.trans H
    obtain rfl := Option.some.inj H
    go_wp2
    go_ret
    exact ⟨by first | rfl | (simp; done) | (simp [*]; done), dQ⟩
   replace c8 := Bool.eq_false_iff.mpr c8
   subst c8
   have H1 : (spec_l1Read.l0 kj1 a0 0 0) = some r := by rw [if_neg (show ¬ (false = true) by decide)] at H; exact H
   clear H
   have H := H1
   clear H1
   have H' := aM H
   clear H
   go_wp2
   go_loopg [3, 4] kj1 (fun kq v3 v4 w' => ∃ (x3_2 : Int) (x4_2 : Int), v3 = .int .i64 x3_2 ∧ v4 = .int .i64 x4_2 ∧ Aside0 (spec_l1Read.l0 kq a0 x3_2 x4_2 = some r) ∧ Aside0 (kq ≤ kj1) ∧ Drawn0 w w')
   case atStart => exact ⟨(0), (0), eqQ, eqQ, H', ⟨Nat.le_refl _⟩, dQ⟩
   case round =>
    clear H'
    try clear c1
    try clear p2
    try clear c4
    try clear c5
    try clear c5b0
    try clear c5b1
    try clear p6
    try clear q6
    try clear hx6
    try clear qi6
    try clear c7
    try clear c7b0
    try clear c7b1
    try clear c8
    try clear p2
    try clear p6
    try clear q6
    obtain ⟨x3_2, x4_2, rfl, rfl, HA, HK2, ⟨m2, rfl⟩⟩ := hrel
    cases gk with
    | zero => exact absurd HA.out (by simp [spec_l1Read.l0])
    | succ k2 =>
     have H := HA.out
     clear HA
     simp only [spec_l1Read.l0] at H
     by_cases c9 : x4_2 < (a0.size : Int)
     case neg =>
      rw [if_neg c9] at H
      have c9b0 : decide (x4_2 < (a0.size : Int)) = false := decide_eq_false c9
      clear c9
      obtain rfl := Option.some.inj H
      go_wp2
      go_ret
      exact ⟨by first | rfl | (simp; done) | (simp [*]; done), dQ⟩

     rw [if_pos c9] at H
     have c9b0 : decide (x4_2 < (a0.size : Int)) = true := decide_eq_true c9
     clear c9
     by_cases c10 : 0 ≤ x4_2
     case neg =>
      rw [if_neg c10] at H
      exact nS H
     rw [if_pos c10] at H
     have c10b0 : decide (0 ≤ x4_2) = true := decide_eq_true c10
     clear c10
     by_cases c12 : (bt a0 x4_2) < 48
     ·
      rw [if_pos c12] at H
      have c12b0 : decide ((bt a0 x4_2) < 48) = true := decide_eq_true c12
      clear c12
      obtain rfl := Option.some.inj H
      have p11 : 0 ≤ (x4_2 : Int) := dA
      have q11 : x4_2 < (a0.size : Int) := dA
      have hx11 := bt_at a0 x4_2
      replace p11 := eq_true p11
      replace q11 := eq_true q11
      go_wp2
      go_ret
      exact ⟨by first | rfl | (simp; done) | (simp [*]; done), dQ⟩
     ·
      rw [if_neg c12] at H
      have c12b0 : decide ((bt a0 x4_2) < 48) = false := decide_eq_false c12
      clear c12
      by_cases c14 : (bt a0 x4_2) > 57
      ·
       rw [if_pos c14] at H
       have c14b0 : decide (57 < (bt a0 x4_2)) = true := decide_eq_true c14
       clear c14
       obtain rfl := Option.some.inj H
       have p11 : 0 ≤ (x4_2 : Int) := dA
       have q11 : x4_2 < (a0.size : Int) := dA
       have hx11 := bt_at a0 x4_2
       replace p11 := eq_true p11
       replace q11 := eq_true q11
       have p13 : 0 ≤ (x4_2 : Int) := dA
       have q13 : x4_2 < (a0.size : Int) := dA
       have hx13 := bt_at a0 x4_2
       replace p13 := eq_true p13
       replace q13 := eq_true q13
       go_wp2
       go_ret
       exact ⟨by first | rfl | (simp; done) | (simp [*]; done), dQ⟩
      ·
       rw [if_neg c14] at H
       have c14b0 : decide (57 < (bt a0 x4_2)) = false := decide_eq_false c14
       clear c14
       have H' := aM H
       clear H
       have p11 : 0 ≤ (x4_2 : Int) := dA
       have q11 : x4_2 < (a0.size : Int) := dA
       have hx11 := bt_at a0 x4_2
       replace p11 := eq_true p11
       replace q11 := eq_true q11
       have p13 : 0 ≤ (x4_2 : Int) := dA
       have q13 : x4_2 < (a0.size : Int) := dA
       have hx13 := bt_at a0 x4_2
       replace p13 := eq_true p13
       replace q13 := eq_true q13
       have p15 : 0 ≤ (x4_2 : Int) := dA
       have q15 : x4_2 < (a0.size : Int) := dA
       have hx15 := bt_at a0 x4_2
       replace p15 := eq_true p15
       replace q15 := eq_true q15
       go_wp2
       go_roundg k2
       case measure => have := HJ1.out; have := HK2.out; omega
       case rel => exact ⟨(wrap64 ((wrap64 (10 * x3_2)) + (((bt a0 x4_2) - 48) % 256))), (wrap64 (x4_2 + 1)), eqQ, eqQ, H', ⟨by have := HJ1.out; have := HK2.out; omega⟩, dQ⟩
end Go.Proofs.YtcfgkpifloghlaaGreatDoor.P
