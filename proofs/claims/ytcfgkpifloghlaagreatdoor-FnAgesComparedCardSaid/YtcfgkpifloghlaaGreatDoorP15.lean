-- Written by drive.py (wip/ of this repository) over the kit's print: functions, contracts, rows. Lean checks it. -- SQUEEZED
import Derived.Test.YtcfgkpifloghlaaGreatDoorP0
import Derived.Test.YtcfgkpifloghlaaGreatDoorP3
import Derived.Test.YtcfgkpifloghlaaGreatDoorP14
namespace Go.Proofs.YtcfgkpifloghlaaGreatDoor.P
open Go.RowKit Go.Proofs.YtcfgkpifloghlaaGreatDoorW.PrintWords Go.Proofs.YtcfgkpifloghlaaGreatDoorW.PrintLast Go.Proofs.YtcfgkpifloghlaaGreatDoorW.PrintMore
attribute [local go_sem] max2_int min2_int max_two min_two max_three min_three max_four min_four undef_guard   -- for this text's walks alone
set_option linter.unusedVariables false
set_option linter.unusedSimpArgs false

/-! ### spec_agParse: function 78 -/
def spec_agParse.l0 : Nat → List Int → List ByteArray → Int → Int → Option (List Int × Bool)
 | 0, _, _, _, _ => none
 | k + 1, x4, x11, x12, x13 => if x13 < x12 then (if 0 ≤ x13 then (if x13 < (x11.length : Int) then ((spec_l1Read.f k (rdOf ByteArray.empty x11 x13)).bind fun t527 => (if x4.length < 17592186044416 then (spec_agParse.l0 k (x4 ++ [t527]) x11 x12 (wrap64 (x13 + 1))) else (none))) else (none)) else (none)) else ((spec_agGood.f k x4).bind fun t531 => (if t531 = true then (some (x4, true)) else (some (([] : List Int), false))))
def spec_agParse.f (k : Nat) (a0 : ByteArray) : Option (List Int × Bool) := if (a0.size : Int) > 31 then (some (([] : List Int), false)) else ((spec_l1Split.f k a0 45).bind fun t523 => (spec_agParse.l0 k ([] : List Int) t523 (t523.length : Int) 0))
theorem spec_agParse.mono_l : ∀ k, (∀ y0 y1 y2 y3, LeO (spec_agParse.l0 k y0 y1 y2 y3) (spec_agParse.l0 (k + 1) y0 y1 y2 y3))
 | 0 => fun _ _ _ _ r h => by simp [spec_agParse.l0] at h
 | k + 1 => by
  have ih0 := spec_agParse.mono_l k
  ·
   intro y0 y1 y2 y3
   unfold spec_agParse.l0
   repeat' first
   | (with_reducible exact ih0 _ _ _ _)
   | (with_reducible exact spec_agGood.mono _ _)
   | (with_reducible exact spec_l1Read.mono _ _)
   | (with_reducible exact spec_l1Split.mono _ _ _)
   | (with_reducible exact LeO.refl _)
   | (with_reducible exact LeO.none _)
   | (with_reducible refine LeO.ite ?_ ?_)
   | (with_reducible refine LeO.bind ?_ (fun _ => ?_))
theorem spec_agParse.mono : ∀ a0 k, LeO (spec_agParse.f k a0) (spec_agParse.f (k + 1) a0) := by
 intro a0 k
 have ih0 := spec_agParse.mono_l k
 unfold spec_agParse.f
 repeat' first
   | (with_reducible exact ih0 _ _ _ _)
   | (with_reducible exact spec_agGood.mono _ _)
   | (with_reducible exact spec_l1Read.mono _ _)
   | (with_reducible exact spec_l1Split.mono _ _ _)
   | (with_reducible exact LeO.refl _)
   | (with_reducible exact LeO.none _)
   | (with_reducible refine LeO.ite ?_ ?_)
   | (with_reducible refine LeO.bind ?_ (fun _ => ?_))
set_option maxHeartbeats 8000000 in
set_option maxRecDepth 100000 in
theorem spec_agParse.calls (k : Nat) (a0 : ByteArray) (r1 : List Int) (r2 : Bool) (w : World) (h : spec_agParse.f k a0 = some (r1, r2)) :
  Calls Tryz.prog 78 #[.string a0] w fun e w' => ∃ v0_ : Value, e = .returned (.tuple #[v0_, .bool r2]) ∧ Kd.R (Kd.int .i64) 3 w' w.heap.size (fun _ => True) v0_ r1 ∧ Below w.heap.size w w' := by
 have HB := aM (Below.refl w.heap.size w)
 have H : (if (a0.size : Int) > 31 then (some (([] : List Int), false)) else ((spec_l1Split.f k a0 45).bind fun t523 => (spec_agParse.l0 k ([] : List Int) t523 (t523.length : Int) 0))) = some (r1, r2) := h
 clear h
 by_cases c2 : (a0.size : Int) > 31
 ·
  rw [if_pos c2] at H
  have c2b0 : decide (31 < (a0.size : Int)) = true := decide_eq_true c2
  have c2b1 : decide (31 < a0.size) = true := decide_eq_true (by omega)
  clear c2
  simp only [Option.some.injEq, Prod.mk.injEq] at H
  obtain ⟨rfl, rfl⟩ := H
  go_enter Tryz.func78, Tryz.ntmps78
  go_wp2
  go_ret2
  exact ⟨_, erQ, by first | exact Kd.R_nil _ _ _ _ _ | exact Kd.N_nil _ _ _ _ _ | exact Kd.V_nil _ _ _ _ _ | exact Kd.Q_nil _ _ _ _ _ | exact Kd.S_nil _ _ _ _ _, bE HB.out⟩
 ·
  rw [if_neg c2] at H
  have c2b0 : decide (31 < (a0.size : Int)) = false := decide_eq_false c2
  have c2b1 : decide (31 < a0.size) = false := decide_eq_false (by omega)
  clear c2
  replace H := oB H
  obtain ⟨t523, A30, H⟩ := H
  (try dsimp only at H)
  have A3 := aM A30
  clear A30
  have H' := aM H
  clear H
  go_enter Tryz.func78, Tryz.ntmps78
  go_wp2_with (first | ((with_reducible refine gate_callee (f := 94) rfl ?_); refine gL 11 Tryz.func94 #[.string a0, .int .u8 45] rfl rfl rfl rfl ?_; (with_reducible refine (spec_l1Split.calls k a0 45 t523 _ A3.out).mono ?_); rintro e w4 ⟨v524, rfl, ho0, hb⟩; refine ⟨_, rfl, ?_⟩; have HO525 := aM (Kd.R_lower ho0 (bZ HB.out)); replace HB := aM (bS HB.out hb); (try clear hb ho0); obtain ⟨Ao5, co5, eo5⟩ := Kd.R_slice HO525.out; subst eo5))
  go_loopg [4, 13] k (fun kq v4 v13 w' => ∃ (x4_1 : List Int) (x13_1 : Int), v13 = .int .i64 x13_1 ∧ Aside0 (spec_agParse.l0 kq x4_1 t523 (t523.length : Int) x13_1 = some (r1, r2)) ∧ Aside0 (kq ≤ k) ∧ Aside0 (Kd.R (Kd.int .i64) 3 w' w.heap.size (fun _ => True) v4 x4_1) ∧ Aside0 (Kd.R Kd.string 9 w' w.heap.size (fun _ => True) (.slice Ao5 t523.length co5) t523) ∧ Aside0 (Below w.heap.size w w'))
  case atStart => exact ⟨(([] : List Int)), (0), eqQ, H', ⟨Nat.le_refl _⟩, ⟨by first | exact Kd.R_nil _ _ _ _ _ | exact Kd.N_nil _ _ _ _ _ | exact Kd.V_nil _ _ _ _ _ | exact Kd.Q_nil _ _ _ _ _ | exact Kd.S_nil _ _ _ _ _⟩, ⟨rQ HO525.out⟩, ⟨bE HB.out⟩⟩
  case round =>
   clear H'
   try clear c2
   try clear c2b0
   try clear c2b1
   try clear p2
   obtain ⟨x4_1, x13_1, rfl, HA, HK1, HO_4, HO_11, HB⟩ := hrel
   cases gk with
   | zero => exact absurd HA.out (by simp [spec_agParse.l0])
   | succ k1 =>
    have H := HA.out
    clear HA
    simp only [spec_agParse.l0] at H
    by_cases c6 : x13_1 < (t523.length : Int)
    ·
     rw [if_pos c6] at H
     have c6b0 : decide (x13_1 < (t523.length : Int)) = true := decide_eq_true c6
     clear c6
     by_cases c7 : 0 ≤ x13_1
     case neg =>
      rw [if_neg c7] at H
      exact nS H
     rw [if_pos c7] at H
     have c7b0 : decide (0 ≤ x13_1) = true := decide_eq_true c7
     clear c7
     by_cases c8 : x13_1 < (t523.length : Int)
     case neg =>
      rw [if_neg c8] at H
      exact nS H
     rw [if_pos c8] at H
     have c8b0 : decide (x13_1 < (t523.length : Int)) = true := decide_eq_true c8
     clear c8
     replace H := oB H
     obtain ⟨t527, A90, H⟩ := H
     (try dsimp only at H)
     have A9 := aM A90
     clear A90
     by_cases c10 : x4_1.length < 17592186044416
     case neg =>
      rw [if_neg c10] at H
      exact nS H
     rw [if_pos c10] at H
     have LMc10 := aM c10
     clear c10
     obtain ⟨y528, hy528⟩ : ∃ y_ : List Int, y_ = (x4_1 ++ [t527]) := ⟨_, rfl⟩
     replace H : (spec_agParse.l0 k1 y528 t523 (t523.length : Int) (wrap64 (x13_1 + 1))) = some (r1, r2) := by first | (rw [hy528]; with_reducible exact H) | (have H2_ := (Option.bind_some _ _).symm.trans H; rw [hy528]; with_reducible exact H2_) | (have H2_ := (Option.bind_some _ _).symm.trans H; with_reducible exact H2_) | with_reducible exact H | (rw [hy528]; exact H) | exact H
     have Ny528 := aM hy528
     clear hy528
     have H' := aM H
     clear H
     have p526 : 0 ≤ (x13_1 : Int) := dA
     have q526 : x13_1 < (t523.length : Int) := dA
     obtain ⟨ad526, e526, hx526_0⟩ := Kd.at_string (Kd.R_reads' HO_11.out).2.2 x13_1 p526 q526
     cases e526
     replace p526 := eq_true p526
     replace q526 := eq_true q526
     go_wp2_with (first | ((with_reducible refine gate_callee (f := 95) rfl ?_); refine gL 19 Tryz.func95 #[.string (rdOf ByteArray.empty t523 x13_1)] rfl rfl rfl rfl ?_; (with_reducible refine (spec_l1Read.calls k1 (rdOf ByteArray.empty t523 x13_1) t527 _ A9.out).mono ?_); rintro e w' ⟨rfl, ⟨nd, rfl⟩⟩; refine ⟨_, rfl, ?_⟩) | ((with_reducible refine gate_builtin (b := .append) (xs := #[.tmp 17, .tmp 20]) rfl ?_); at_builtin; refine Kd.R_append (Kd.int .i64) (w0 := w) w.heap.size rfl (.tmp 17) (.tmp 20) 24 3 (.int .i64 0) 8 rfl Tryz.underlying24 info3 rfl (by decide) (by omega) u4 x4_1 t527 [.int .i64 t527] (fun _ => True) (fun _ => False) rfl rfl ?aP (fun _ hk => hk.elim) ?aF ?aO ?aB ?aS ?aL ?_; (case aP => exact rfl); (case aB => exact (bE HB.out)); (case aF => exact (fun _ _ => trivial)); (case aO => exact (rQ HO_4.out)); (case aS => exact (bZ HB.out)); (case aL => have := LMc10.out; omega); intro v529 w11 ho hb hg hat; rw [← Ny528.out] at ho; replace HO_11 := aM (Kd.R_over' (rQ HO_11.out) (Kd.R_typed (rQ HO_4.out)) (by decide) hg); replace HB := aM (hb); have HO530 := aM (ho); clear HO_4; clear ho hb hg hat))
     go_roundg k1
     case measure => have := HK1.out; omega
     case rel => exact ⟨(y528), (wrap64 (x13_1 + 1)), eqQ, H', ⟨by have := HK1.out; omega⟩, ⟨rQ HO530.out⟩, ⟨rQ HO_11.out⟩, ⟨bE HB.out⟩⟩
    ·
     rw [if_neg c6] at H
     have c6b0 : decide (x13_1 < (t523.length : Int)) = false := decide_eq_false c6
     clear c6
     replace H := oB H
     obtain ⟨t531, A120, H⟩ := H
     (try dsimp only at H)
     have A12 := aM A120
     clear A120
     by_cases c13 : t531 = true
     ·
      subst c13
      replace H := (if_pos rfl).symm.trans H
      simp only [Option.some.injEq, Prod.mk.injEq] at H
      obtain ⟨rfl, rfl⟩ := H
      obtain ⟨Ao14, co14, eo14⟩ := Kd.R_slice HO_4.out
      subst eo14
      go_wp2_with (first | ((with_reducible refine gate_callee (f := 53) rfl ?_); refine gL 24 Tryz.func53 #[.slice Ao14 x4_1.length co14] rfl rfl rfl rfl ?_; (with_reducible refine (spec_agGood.calls k1 _ _ x4_1 true _ ?side1 ?side2 A12.out).mono ?_); (case side1 => exact cQ ((Kd.R_reads' HO_4.out).2.2)); (case side2 => exact (Kd.R_reads' HO_4.out).2.1); rintro e w' ⟨rfl, ⟨nd, rfl⟩⟩; refine ⟨_, rfl, ?_⟩))
      go_ret2
      exact ⟨_, erQ, rQ HO_4.out, bE HB.out⟩
     ·
      replace c13 := Bool.eq_false_iff.mpr c13
      subst c13
      have H1 : (some (([] : List Int), false)) = some (r1, r2) := by rw [if_neg (show ¬ (false = true) by decide)] at H; exact H
      clear H
      have H := H1
      clear H1
      simp only [Option.some.injEq, Prod.mk.injEq] at H
      obtain ⟨rfl, rfl⟩ := H
      obtain ⟨Ao15, co15, eo15⟩ := Kd.R_slice HO_4.out
      subst eo15
      go_wp2_with (first | ((with_reducible refine gate_callee (f := 53) rfl ?_); refine gL 24 Tryz.func53 #[.slice Ao15 x4_1.length co15] rfl rfl rfl rfl ?_; (with_reducible refine (spec_agGood.calls k1 _ _ x4_1 false _ ?side1 ?side2 A12.out).mono ?_); (case side1 => exact cQ ((Kd.R_reads' HO_4.out).2.2)); (case side2 => exact (Kd.R_reads' HO_4.out).2.1); rintro e w' ⟨rfl, ⟨nd, rfl⟩⟩; refine ⟨_, rfl, ?_⟩))
      go_ret2
      exact ⟨_, erQ, by first | exact Kd.R_nil _ _ _ _ _ | exact Kd.N_nil _ _ _ _ _ | exact Kd.V_nil _ _ _ _ _ | exact Kd.Q_nil _ _ _ _ _ | exact Kd.S_nil _ _ _ _ _, bE HB.out⟩

/-! ### spec_ParseAges: function 40 -/
def spec_ParseAges.f (k : Nat) (a0 : ByteArray) : Option (List Int × Bool) := (spec_agParse.f k a0).bind fun bt532 => (some (bt532.1, bt532.2))
theorem spec_ParseAges.mono : ∀ a0 k, LeO (spec_ParseAges.f k a0) (spec_ParseAges.f (k + 1) a0) := by
 intro a0 k
 unfold spec_ParseAges.f
 repeat' first
   | (with_reducible exact spec_agParse.mono _ _)
   | (with_reducible exact LeO.refl _)
   | (with_reducible exact LeO.none _)
   | (with_reducible refine LeO.ite ?_ ?_)
   | (with_reducible refine LeO.bind ?_ (fun _ => ?_))
set_option maxHeartbeats 8000000 in
set_option maxRecDepth 100000 in
theorem spec_ParseAges.calls (k : Nat) (a0 : ByteArray) (r1 : List Int) (r2 : Bool) (w : World) (h : spec_ParseAges.f k a0 = some (r1, r2)) :
  Calls Tryz.prog 40 #[.string a0] w fun e w' => ∃ v0_ : Value, e = .returned (.tuple #[v0_, .bool r2]) ∧ Kd.R (Kd.int .i64) 3 w' w.heap.size (fun _ => True) v0_ r1 ∧ Below w.heap.size w w' := by
 have HB := aM (Below.refl w.heap.size w)
 have H : ((spec_agParse.f k a0).bind fun bt532 => (some (bt532.1, bt532.2))) = some (r1, r2) := h
 clear h
 replace H := oB H
 obtain ⟨⟨t532, t533⟩, A20, H⟩ := H
 (try dsimp only at H)
 have A2 := aM A20
 clear A20
 simp only [Option.some.injEq, Prod.mk.injEq] at H
 obtain ⟨rfl, rfl⟩ := H
 go_enter Tryz.func40, Tryz.ntmps40
 go_wp2_with (first | ((with_reducible refine gate_callee (f := 78) rfl ?_); refine gL 5 Tryz.func78 #[.string a0] rfl rfl rfl rfl ?_; (with_reducible refine (spec_agParse.calls k a0 t532 t533 _ A2.out).mono ?_); rintro e w3 ⟨v534, rfl, ho0, hb⟩; refine ⟨_, rfl, ?_⟩; have HO535 := aM (Kd.R_lower ho0 (bZ HB.out)); replace HB := aM (bS HB.out hb); (try clear hb ho0)))
 go_ret2
 exact ⟨_, erQ, rQ HO535.out, bE HB.out⟩

end Go.Proofs.YtcfgkpifloghlaaGreatDoor.P
