-- Written by drive.py (wip/ of this repository) over the kit's print: functions, contracts, rows. Lean checks it. -- SQUEEZED
import Derived.Test.YtcfgkpifloghlaaGreatDoorP0
import Derived.Test.YtcfgkpifloghlaaGreatDoorP2
import Derived.Test.YtcfgkpifloghlaaGreatDoorP3
import Derived.Test.YtcfgkpifloghlaaGreatDoorP5
namespace Go.Proofs.YtcfgkpifloghlaaGreatDoor.P
open Go.RowKit Go.Proofs.YtcfgkpifloghlaaGreatDoorW.PrintWords Go.Proofs.YtcfgkpifloghlaaGreatDoorW.PrintLast Go.Proofs.YtcfgkpifloghlaaGreatDoorW.PrintMore
attribute [local go_sem] max2_int min2_int max_two min_two max_three min_three max_four min_four undef_guard   -- for this text's walks alone
set_option linter.unusedVariables false
set_option linter.unusedSimpArgs false

/-! ### spec_agOrder: function 54 -/
mutual
def spec_agOrder.l0 : Nat → List Int → List Int → List Int → Int → Int → Option (List Int)
 | 0, _, _, _, _, _ => none
 | k + 1, x0, x3, x8, x9, x10 => if x10 < x9 then (if 0 ≤ x10 then (if x10 < (x8.length : Int) then (spec_agOrder.l1 k x0 x3 x10 (rd x8 x10) 0 x8 x9 x10) else (none)) else (none)) else (some x3)
def spec_agOrder.l1 : Nat → List Int → List Int → Int → Int → Int → List Int → Int → Int → Option (List Int)
 | 0, _, _, _, _, _, _, _, _ => none
 | k + 1, x0, x3, x4, x5, x6, x8, x9, x10 => if x6 < (x3.length : Int) then (if 0 ≤ x6 then (if 0 ≤ (rd x3 x6) then (if (rd x3 x6) < (x0.length : Int) then (if (rd x0 (rd x3 x6)) ≥ x5 then (spec_agOrder.l1 k x0 x3 x4 x5 (wrap64 (x6 + 1)) x8 x9 x10) else (if x6 ≤ (x3.length : Int) then ((spec_l1Own.f (x3.take (x6 : Int).toNat)).bind fun t246 => (if t246.length < 17592186044416 then ((some (t246 ++ [x4] : List Int)).bind fun y249 => ((some (x3.drop (x6 : Int).toNat : List Int)).bind fun y252 => (if y249.length + y252.length < 17592186044416 then (spec_agOrder.l0 k x0 (y249 ++ y252) x8 x9 (wrap64 (x10 + 1))) else (none)))) else (none))) else (none))) else (none)) else (none)) else (none)) else (if 0 ≤ x6 then (if x6 ≤ (x3.length : Int) then ((spec_l1Own.f (x3.take (x6 : Int).toNat)).bind fun t263 => (if t263.length < 17592186044416 then ((some (t263 ++ [x4] : List Int)).bind fun y266 => ((some (x3.drop (x6 : Int).toNat : List Int)).bind fun y269 => (if y266.length + y269.length < 17592186044416 then (spec_agOrder.l0 k x0 (y266 ++ y269) x8 x9 (wrap64 (x10 + 1))) else (none)))) else (none))) else (none)) else (none))
end
def spec_agOrder.f (k : Nat) (l0 : List Int) : Option (List Int) := spec_agOrder.l0 k l0 ([] : List Int) l0 (l0.length : Int) 0
theorem spec_agOrder.mono_l : ∀ k, (∀ y0 y1 y2 y3 y4, LeO (spec_agOrder.l0 k y0 y1 y2 y3 y4) (spec_agOrder.l0 (k + 1) y0 y1 y2 y3 y4)) ∧ (∀ y0 y1 y2 y3 y4 y5 y6 y7, LeO (spec_agOrder.l1 k y0 y1 y2 y3 y4 y5 y6 y7) (spec_agOrder.l1 (k + 1) y0 y1 y2 y3 y4 y5 y6 y7))
 | 0 => ⟨fun _ _ _ _ _ r h => by simp [spec_agOrder.l0] at h, fun _ _ _ _ _ _ _ _ r h => by simp [spec_agOrder.l1] at h⟩
 | k + 1 => by
  obtain ⟨ih0, ih1⟩ := spec_agOrder.mono_l k
  refine ⟨?_, ?_⟩
  ·
   intro y0 y1 y2 y3 y4
   unfold spec_agOrder.l0
   repeat' first
   | (with_reducible exact ih0 _ _ _ _ _)
   | (with_reducible exact ih1 _ _ _ _ _ _ _ _)
   | (with_reducible exact LeO.refl _)
   | (with_reducible exact LeO.none _)
   | (with_reducible refine LeO.ite ?_ ?_)
   | (with_reducible refine LeO.bind ?_ (fun _ => ?_))
  ·
   intro y0 y1 y2 y3 y4 y5 y6 y7
   unfold spec_agOrder.l1
   repeat' first
   | (with_reducible exact ih0 _ _ _ _ _)
   | (with_reducible exact ih1 _ _ _ _ _ _ _ _)
   | (with_reducible exact LeO.refl _)
   | (with_reducible exact LeO.none _)
   | (with_reducible refine LeO.ite ?_ ?_)
   | (with_reducible refine LeO.bind ?_ (fun _ => ?_))
theorem spec_agOrder.mono : ∀ a0 k, LeO (spec_agOrder.f k a0) (spec_agOrder.f (k + 1) a0) := by
 intro a0 k
 obtain ⟨ih0, ih1⟩ := spec_agOrder.mono_l k
 unfold spec_agOrder.f
 repeat' first
   | (with_reducible exact ih0 _ _ _ _ _)
   | (with_reducible exact ih1 _ _ _ _ _ _ _ _)
   | (with_reducible exact LeO.refl _)
   | (with_reducible exact LeO.none _)
   | (with_reducible refine LeO.ite ?_ ?_)
   | (with_reducible refine LeO.bind ?_ (fun _ => ?_))
set_option maxHeartbeats 8000000 in
set_option maxRecDepth 100000 in
theorem spec_agOrder.calls (k : Nat) (A0 : Option Addr) (c0 : Nat) (l0 : List Int) (r : List Int) (w : World) (hr0 : Kd.C (Kd.int .i64) w A0 l0.length l0) (hc0 : l0.length ≤ c0) (h : spec_agOrder.f k l0 = some r) :
  Calls Tryz.prog 54 #[.slice A0 l0.length c0] w fun e w' => ∃ v0_ : Value, e = .returned (v0_) ∧ Kd.R (Kd.int .i64) 3 w' w.heap.size (fun _ => True) v0_ r ∧ Below w.heap.size w w' := by
 have HR0 := aM hr0
 have HC0 := aM hc0
 clear hr0 hc0
 have HB := aM (Below.refl w.heap.size w)
 have H : (spec_agOrder.l0 k l0 ([] : List Int) l0 (l0.length : Int) 0) = some r := h
 clear h
 have H' := aM H
 clear H
 go_enter Tryz.func54, Tryz.ntmps54
 go_wp2
 go_loopg [3, 10] k (fun kq v3 v10 w' => ∃ (x3_1 : List Int) (x10_1 : Int), v10 = .int .i64 x10_1 ∧ Aside0 (spec_agOrder.l0 kq l0 x3_1 l0 (l0.length : Int) x10_1 = some r) ∧ Aside0 (kq ≤ k) ∧ Aside0 (Kd.R (Kd.int .i64) 3 w' w.heap.size (fun _ => True) v3 x3_1) ∧ Aside0 (Below w.heap.size w w'))
 case atStart => exact ⟨(([] : List Int)), (0), eqQ, H', ⟨Nat.le_refl _⟩, ⟨by first | exact Kd.R_nil _ _ _ _ _ | exact Kd.N_nil _ _ _ _ _ | exact Kd.V_nil _ _ _ _ _ | exact Kd.Q_nil _ _ _ _ _ | exact Kd.S_nil _ _ _ _ _⟩, ⟨bE HB.out⟩⟩
 case round =>
  clear H'
  obtain ⟨x3_1, x10_1, rfl, HA, HK1, HO_3, HB⟩ := hrel
  cases gk with
  | zero => exact absurd HA.out (by simp [spec_agOrder.l0])
  | succ k1 =>
   have H := HA.out
   clear HA
   simp only [spec_agOrder.l0] at H
   by_cases c2 : x10_1 < (l0.length : Int)
   case neg =>
    rw [if_neg c2] at H
    have c2b0 : decide (x10_1 < (l0.length : Int)) = false := decide_eq_false c2
    clear c2
    obtain rfl := Option.some.inj H
    go_wp2
    go_ret
    exact ⟨_, erQ, rQ HO_3.out, bE HB.out⟩

   rw [if_pos c2] at H
   have c2b0 : decide (x10_1 < (l0.length : Int)) = true := decide_eq_true c2
   clear c2
   by_cases c3 : 0 ≤ x10_1
   case neg =>
    rw [if_neg c3] at H
    exact nS H
   rw [if_pos c3] at H
   have c3b0 : decide (0 ≤ x10_1) = true := decide_eq_true c3
   clear c3
   by_cases c4 : x10_1 < (l0.length : Int)
   case neg =>
    rw [if_neg c4] at H
    exact nS H
   rw [if_pos c4] at H
   have c4b0 : decide (x10_1 < (l0.length : Int)) = true := decide_eq_true c4
   clear c4
   have H' := aM H
   clear H
   have p239 : 0 ≤ (x10_1 : Int) := dA
   have q239 : x10_1 < (l0.length : Int) := dA
   obtain ⟨ad239, e239, hx239_0⟩ := Kd.at_int HR0.out x10_1 p239 q239
   cases e239
   replace hx239_0 := (HB.out.cell (World.block_lt_of_cell? w _ hx239_0)).trans hx239_0
   replace p239 := eq_true p239
   replace q239 := eq_true q239
   go_wp2
   go_loopg [6] k1 (fun kq v6 w' => ∃ (x6_2 : Int), v6 = .int .i64 x6_2 ∧ Aside0 (spec_agOrder.l1 kq l0 x3_1 x10_1 (rd l0 x10_1) x6_2 l0 (l0.length : Int) x10_1 = some r) ∧ Aside0 (kq ≤ k1) ∧ Aside0 (Kd.R (Kd.int .i64) 3 w' w.heap.size (fun _ => True) u3 x3_1) ∧ Aside0 (Below w.heap.size w w'))
   case atStart => exact ⟨(0), eqQ, H', ⟨Nat.le_refl _⟩, ⟨rQ HO_3.out⟩, ⟨bE HB.out⟩⟩
   case round =>
    clear H'
    try clear c2
    try clear c2b0
    try clear p2
    try clear q2
    try clear hx2
    try clear c3
    try clear c3b0
    try clear c4
    try clear c4b0
    try clear hx239_0
    try clear p239
    try clear q239
    obtain ⟨x6_2, rfl, HA, HK2, HO_3, HB⟩ := hrel
    cases gk with
    | zero => exact absurd HA.out (by simp [spec_agOrder.l1])
    | succ k2 =>
     have H := HA.out
     clear HA
     simp only [spec_agOrder.l1] at H
     by_cases c5 : x6_2 < (x3_1.length : Int)
     ·
      rw [if_pos c5] at H
      have c5b0 : decide (x6_2 < (x3_1.length : Int)) = true := decide_eq_true c5
      clear c5
      by_cases c6 : 0 ≤ x6_2
      case neg =>
       rw [if_neg c6] at H
       exact nS H
      rw [if_pos c6] at H
      have c6b0 : decide (0 ≤ x6_2) = true := decide_eq_true c6
      clear c6
      by_cases c7 : 0 ≤ (rd x3_1 x6_2)
      case neg =>
       rw [if_neg c7] at H
       exact nS H
      rw [if_pos c7] at H
      have c7b0 : decide (0 ≤ (rd x3_1 x6_2)) = true := decide_eq_true c7
      clear c7
      by_cases c8 : (rd x3_1 x6_2) < (l0.length : Int)
      case neg =>
       rw [if_neg c8] at H
       exact nS H
      rw [if_pos c8] at H
      have c8b0 : decide ((rd x3_1 x6_2) < (l0.length : Int)) = true := decide_eq_true c8
      clear c8
      by_cases c9 : (rd l0 (rd x3_1 x6_2)) ≥ (rd l0 x10_1)
      ·
       rw [if_pos c9] at H
       have c9b0 : decide ((rd l0 x10_1) ≤ (rd l0 (rd x3_1 x6_2))) = true := decide_eq_true c9
       clear c9
       have H' := aM H
       clear H
       obtain ⟨Ao10, co10, eo10⟩ := Kd.R_slice HO_3.out
       subst eo10
       have p240 : 0 ≤ (x6_2 : Int) := dA
       have q240 : x6_2 < (x3_1.length : Int) := dA
       obtain ⟨ad240, e240, hx240_0⟩ := Kd.at_int (Kd.R_reads' HO_3.out).2.2 x6_2 p240 q240
       cases e240
       replace p240 := eq_true p240
       replace q240 := eq_true q240
       have p241 : 0 ≤ ((rd x3_1 x6_2) : Int) := dA
       have q241 : (rd x3_1 x6_2) < (l0.length : Int) := dA
       obtain ⟨ad241, e241, hx241_0⟩ := Kd.at_int HR0.out (rd x3_1 x6_2) p241 q241
       obtain rfl : ad239 = ad241 := (by injection e241)
       replace hx241_0 := (HB.out.cell (World.block_lt_of_cell? w _ hx241_0)).trans hx241_0
       replace p241 := eq_true p241
       replace q241 := eq_true q241
       go_wp2
       go_roundg k2
       case measure => have := HK1.out; have := HK2.out; omega
       case rel => exact ⟨(wrap64 (x6_2 + 1)), eqQ, H', ⟨by have := HK1.out; have := HK2.out; omega⟩, ⟨rQ HO_3.out⟩, ⟨bE HB.out⟩⟩
      ·
       rw [if_neg c9] at H
       have c9b0 : decide ((rd l0 x10_1) ≤ (rd l0 (rd x3_1 x6_2))) = false := decide_eq_false c9
       clear c9
       have c11b0 := eq_true (dA : 0 ≤ x6_2)
       by_cases c12 : x6_2 ≤ (x3_1.length : Int)
       case neg =>
        rw [if_neg c12] at H
        exact nS H
       rw [if_pos c12] at H
       have c12b0 := eq_true c12
       have c12b1 : decide (x6_2 ≤ (x3_1.length : Int)) = true := decide_eq_true c12
       clear c12
       obtain ⟨y242, hy242⟩ : ∃ y_ : List Int, y_ = (x3_1.take (x6_2 : Int).toNat) := ⟨_, rfl⟩
       replace H : ((spec_l1Own.f y242).bind fun t246 => (if t246.length < 17592186044416 then ((some (t246 ++ [x10_1] : List Int)).bind fun y249 => ((some (x3_1.drop (x6_2 : Int).toNat : List Int)).bind fun y252 => (if y249.length + y252.length < 17592186044416 then (spec_agOrder.l0 k2 l0 (y249 ++ y252) l0 (l0.length : Int) (wrap64 (x10_1 + 1))) else (none)))) else (none))) = some r := by first | (rw [hy242]; with_reducible exact H) | (have H2_ := (Option.bind_some _ _).symm.trans H; rw [hy242]; with_reducible exact H2_) | (have H2_ := (Option.bind_some _ _).symm.trans H; with_reducible exact H2_) | with_reducible exact H | (rw [hy242]; exact H) | exact H
       have Ny242 := aM hy242
       clear hy242
       replace H := oB H
       obtain ⟨t246, A130, H⟩ := H
       (try dsimp only at H)
       have A13 := aM A130
       clear A130
       by_cases c14 : t246.length < 17592186044416
       case neg =>
        rw [if_neg c14] at H
        exact nS H
       rw [if_pos c14] at H
       have LMc14 := aM c14
       clear c14
       obtain ⟨y249, hy249⟩ : ∃ y_ : List Int, y_ = (t246 ++ [x10_1]) := ⟨_, rfl⟩
       replace H : ((some (x3_1.drop (x6_2 : Int).toNat : List Int)).bind fun y252 => (if y249.length + y252.length < 17592186044416 then (spec_agOrder.l0 k2 l0 (y249 ++ y252) l0 (l0.length : Int) (wrap64 (x10_1 + 1))) else (none))) = some r := by first | (rw [hy249]; with_reducible exact H) | (have H2_ := (Option.bind_some _ _).symm.trans H; rw [hy249]; with_reducible exact H2_) | (have H2_ := (Option.bind_some _ _).symm.trans H; with_reducible exact H2_) | with_reducible exact H | (rw [hy249]; exact H) | exact H
       have Ny249 := aM hy249
       clear hy249
       have c15b0 := eq_true (dA : 0 ≤ x6_2)
       have c16b0 := eq_true (dA : x6_2 ≤ (x3_1.length : Int))
       obtain ⟨y252, hy252⟩ : ∃ y_ : List Int, y_ = (x3_1.drop (x6_2 : Int).toNat) := ⟨_, rfl⟩
       replace H : (if y249.length + y252.length < 17592186044416 then (spec_agOrder.l0 k2 l0 (y249 ++ y252) l0 (l0.length : Int) (wrap64 (x10_1 + 1))) else (none)) = some r := by first | (rw [hy252]; with_reducible exact H) | (have H2_ := (Option.bind_some _ _).symm.trans H; rw [hy252]; with_reducible exact H2_) | (have H2_ := (Option.bind_some _ _).symm.trans H; with_reducible exact H2_) | with_reducible exact H | (rw [hy252]; exact H) | exact H
       have Ny252 := aM hy252
       clear hy252
       by_cases c17 : y249.length + y252.length < 17592186044416
       case neg =>
        rw [if_neg c17] at H
        exact nS H
       rw [if_pos c17] at H
       have LMc17 := aM c17
       clear c17
       obtain ⟨y256, hy256⟩ : ∃ y_ : List Int, y_ = (y249 ++ y252) := ⟨_, rfl⟩
       replace H : (spec_agOrder.l0 k2 l0 y256 l0 (l0.length : Int) (wrap64 (x10_1 + 1))) = some r := by first | (rw [hy256]; with_reducible exact H) | (have H2_ := (Option.bind_some _ _).symm.trans H; rw [hy256]; with_reducible exact H2_) | (have H2_ := (Option.bind_some _ _).symm.trans H; with_reducible exact H2_) | with_reducible exact H | (rw [hy256]; exact H) | exact H
       have Ny256 := aM hy256
       clear hy256
       have H' := aM H
       clear H
       obtain ⟨Ao18, co18, eo18⟩ := Kd.R_slice HO_3.out
       subst eo18
       have p240 : 0 ≤ (x6_2 : Int) := dA
       have q240 : x6_2 < (x3_1.length : Int) := dA
       obtain ⟨ad240, e240, hx240_0⟩ := Kd.at_int (Kd.R_reads' HO_3.out).2.2 x6_2 p240 q240
       cases e240
       replace p240 := eq_true p240
       replace q240 := eq_true q240
       have p241 : 0 ≤ ((rd x3_1 x6_2) : Int) := dA
       have q241 : (rd x3_1 x6_2) < (l0.length : Int) := dA
       obtain ⟨ad241, e241, hx241_0⟩ := Kd.at_int HR0.out (rd x3_1 x6_2) p241 q241
       obtain rfl : ad239 = ad241 := (by injection e241)
       replace hx241_0 := (HB.out.cell (World.block_lt_of_cell? w _ hx241_0)).trans hx241_0
       replace p241 := eq_true p241
       replace q241 := eq_true q241
       have q19 : (x6_2 : Int) ≤ ((x3_1.length : Int) : Int) := dA
       obtain ⟨i019, hi019, _, hsz19, _⟩ := info_parts info3
       have hroom19 : x3_1.length ≤ co18 := (Kd.R_reads' HO_3.out).2.1
       have hC19 : Kd.C (Kd.int .i64) _ (some ad240) x3_1.length x3_1 := (Kd.R_reads' HO_3.out).2.2
       have hcut19 := cut_to (P := Tryz.prog) 24 3 .i64 Tryz.underlying24 hi019 (some ad240) x3_1.length co18 x6_2 (dA) q19 hroom19
       have hr19 := Kd.C_take (m := (x6_2 : Int).toNat) hC19 (by omega)
       have hy19 : y242.length = (x6_2 : Int).toNat := (by rw [Ny242.out, List.length_take]; omega)
       rw [← Ny242.out] at hr19
       rw [← hy19] at hcut19
       have HR245 := aM hr19
       have HC245 := aM (show y242.length ≤ co18 from by omega)
       clear hr19 hC19 hroom19 hi019 hsz19
       have KY19 := aM hy19
       clear hy19
       have KL19 := aM (show (x6_2 : Int).toNat ≤ x3_1.length from by omega)
       replace q19 := eq_true q19
       go_wp2_with (first | ((with_reducible refine gate_callee (f := 73) rfl ?_); refine gL 35 Tryz.func73 #[.slice (some ad240) y242.length co18] rfl rfl rfl rfl ?_; (with_reducible refine (spec_l1Own.calls _ _ y242 t246 _ ?side1 ?side2 A13.out).mono ?_); (case side1 => repeat (first | exact (by repeat (first | (with_reducible exact HR245.out) | (with_reducible refine Kd.C_alloc ?_ _) | (with_reducible refine Kd.C_drewN ?_ _) | (with_reducible refine Kd.C_drew ?_) | exact HR245.out)) | (with_reducible refine Kd.C_alloc ?_ _) | (with_reducible refine Kd.C_drewN ?_ _) | (with_reducible refine Kd.C_drew ?_))); (case side2 => exact HC245.out); rintro e w20 ⟨v247, rfl, ho0, hb⟩; refine ⟨_, rfl, ?_⟩; have HO248 := aM (Kd.R_lower (Kd.R_new' ho0 (Kd.R_lt (rQ HO_3.out))) (bZ HB.out)); replace HO_3 := aM (Kd.R_elder' (rQ HO_3.out) (Kd.R_base ho0) hb); replace HR245 := aM (Kd.C_below (by repeat (first | (with_reducible exact HR245.out) | (with_reducible refine Kd.C_alloc ?_ _) | (with_reducible refine Kd.C_drewN ?_ _) | (with_reducible refine Kd.C_drew ?_) | exact HR245.out)) hb); replace HB := aM (bS HB.out hb); (try clear hb ho0)) | ((with_reducible refine gate_builtin (b := .append) (xs := #[.tmp 35, .tmp 37]) rfl ?_); at_builtin; refine Kd.R_append (Kd.int .i64) (w0 := w) w.heap.size rfl (.tmp 35) (.tmp 37) 24 3 (.int .i64 0) 8 rfl Tryz.underlying24 info3 rfl (by decide) (by omega) v247 t246 x10_1 [.int .i64 x10_1] (fun k_ => some k_ ≠ (.slice (some ad240) x3_1.length co18 : Value).ownBlock) (fun _ => False) rfl rfl ?aP (fun _ hk => hk.elim) ?aF ?aO ?aB ?aS ?aL ?_; (case aP => exact rfl); (case aB => exact (bE HB.out)); (case aF => exact (fun k_ hk => Kd.fresh' (Kd.R_lt (rQ HO_3.out)) k_ hk)); (case aO => exact (by (with_reducible repeat (first | apply Kd.R_alloc | apply Kd.R_drewN | apply Kd.R_drew)); exact Kd.R_mono HO248.out (fun _ hk => hk.2))); (case aS => exact (bZ HB.out)); (case aL => have := LMc14.out; omega); intro v250 w21 ho hb hg hat; rw [← Ny249.out] at ho; replace HB := aM (hb); replace HR245 := aM ((show Kd.C (Kd.int .i64) w21 (some ad240) y242.length y242 from by rw [Ny242.out]; exact Kd.C_take (m := (x6_2 : Int).toNat) ((Kd.R_reads' (Kd.R_after (ok := (fun _ => True)) (rQ HO_3.out) hg hat)).2.2) KL19.out)); replace HO_3 := aM (Kd.R_after (ok := (fun _ => True)) (rQ HO_3.out) hg hat); have HO251 := aM (ho); clear HO248; clear ho hb hg hat; have q22 : (x6_2 : Int) ≤ ((x3_1.length : Int) : Int) := dA; obtain ⟨i022, hi022, _, hsz22, _⟩ := info_parts info3; have hroom22 : x3_1.length ≤ co18 := (Kd.R_reads' HO_3.out).2.1; have hC22 : Kd.C (Kd.int .i64) _ (some ad240) x3_1.length x3_1 := (Kd.R_reads' HO_3.out).2.2; have q022 : (0 : Int) ≤ (x6_2 : Int) := dA; have hcut22 := cut_from (P := Tryz.prog) 24 3 .i64 Tryz.underlying24 hi022 1 hsz22 (some ad240) x3_1.length co18 x6_2 q022 q22; have hr22 := Kd.C_drop (m := (x6_2 : Int).toNat) (c := co18) hC22 (by omega) hroom22; obtain ⟨A22, hA22⟩ : ∃ A1, A1 = (if co18 = (x6_2 : Int).toNat then (some ad240) else ((some ad240) : Option Addr).map (·.add ((x6_2 : Int).toNat * 1))) := ⟨_, rfl⟩; obtain ⟨c22, hc22⟩ : ∃ c1, c1 = co18 - (x6_2 : Int).toNat := ⟨_, rfl⟩; have hy22 : y252.length = x3_1.length - (x6_2 : Int).toNat := (by rw [Ny252.out, List.length_drop] <;> omega); rw [show (x3_1).drop (x6_2 : Int).toNat = y252 from Ny252.out.symm] at hr22; replace hr22 : Kd.C (Kd.int .i64) _ A22 y252.length y252 := (by rw [hA22]; exact hr22); rw [← hy22, ← hA22, ← hc22] at hcut22; have HR255 := aM hr22; have HC255 := aM (show y252.length ≤ c22 from by rw [hy22, hc22]; exact Nat.sub_le_sub_right hroom22 _); clear hr22 hC22 hroom22 hi022 hsz22 hc22; have KY22 := aM hy22; have KA22 := aM hA22; clear hy22 hA22; have KL22 := aM (show (x6_2 : Int).toNat ≤ x3_1.length from by omega); replace q22 := eq_true q22) | ((with_reducible refine gate_builtin (b := .append) (xs := #[.tmp 39, .tmp 42]) rfl ?_); at_builtin; refine Kd.R_append_rows (Kd.int .i64) (w0 := w) w.heap.size rfl (.tmp 39) (.tmp 42) 24 3 (.int .i64 0) 8 rfl Tryz.underlying24 info3 rfl (by decide) (by omega) v250 y249 y252 _ _ _ (fun k_ => some k_ ≠ (.slice (some ad240) x3_1.length co18 : Value).ownBlock) (fun _ => False) rfl rfl ?aO ?aR (fun _ _ h => h) (fun _ h => h.elim) ?aF ?aB ?aS ?aL ?_; (case aR => repeat (first | exact (by repeat (first | (with_reducible exact HR255.out) | (with_reducible refine Kd.C_alloc ?_ _) | (with_reducible refine Kd.C_drewN ?_ _) | (with_reducible refine Kd.C_drew ?_) | exact HR255.out)) | (with_reducible refine Kd.C_alloc ?_ _) | (with_reducible refine Kd.C_drewN ?_ _) | (with_reducible refine Kd.C_drew ?_))); (case aB => exact (bE HB.out)); (case aF => exact (fun k_ hk => Kd.fresh' (Kd.R_lt (rQ HO_3.out)) k_ hk)); (case aO => exact (rQ HO251.out)); (case aS => exact (bZ HB.out)); (case aL => have := LMc17.out; omega); intro v257 w23 ho hb hg hat; rw [← Ny256.out] at ho; replace HB := aM (hb); replace HR245 := aM ((show Kd.C (Kd.int .i64) w23 (some ad240) y242.length y242 from by rw [Ny242.out]; exact Kd.C_take (m := (x6_2 : Int).toNat) ((Kd.R_reads' (Kd.R_after (ok := (fun _ => True)) (rQ HO_3.out) hg hat)).2.2) KL19.out)); replace HR255 := aM ((show Kd.C (Kd.int .i64) w23 A22 y252.length y252 from by rw [Ny252.out, KA22.out]; exact Kd.C_drop (m := (x6_2 : Int).toNat) (c := co18) ((Kd.R_reads' (Kd.R_after (ok := (fun _ => True)) (rQ HO_3.out) hg hat)).2.2) KL22.out ((Kd.R_reads' (Kd.R_after (ok := (fun _ => True)) (rQ HO_3.out) hg hat)).2.1))); replace HO_3 := aM (Kd.R_after (ok := (fun _ => True)) (rQ HO_3.out) hg hat); have HO258 := aM (ho); clear HO251; clear ho hb hg hat))
       go_roundg k2
       case measure => have := HK1.out; have := HK2.out; omega
       case rel => exact ⟨(y256), (wrap64 (x10_1 + 1)), eqQ, H', ⟨by have := HK1.out; have := HK2.out; omega⟩, ⟨by (with_reducible repeat (first | apply Kd.R_alloc | apply Kd.R_drewN | apply Kd.R_drew)); exact Kd.R_mono HO258.out (fun _ hk => trivial)⟩, ⟨bE HB.out⟩⟩
     ·
      rw [if_neg c5] at H
      have c5b0 : decide (x6_2 < (x3_1.length : Int)) = false := decide_eq_false c5
      clear c5
      by_cases c24 : 0 ≤ x6_2
      case neg =>
       rw [if_neg c24] at H
       exact nS H
      rw [if_pos c24] at H
      have c24b0 := eq_true c24
      have c24b1 : decide (0 ≤ x6_2) = true := decide_eq_true c24
      clear c24
      by_cases c25 : x6_2 ≤ (x3_1.length : Int)
      case neg =>
       rw [if_neg c25] at H
       exact nS H
      rw [if_pos c25] at H
      have c25b0 := eq_true c25
      have c25b1 : decide (x6_2 ≤ (x3_1.length : Int)) = true := decide_eq_true c25
      clear c25
      obtain ⟨y259, hy259⟩ : ∃ y_ : List Int, y_ = (x3_1.take (x6_2 : Int).toNat) := ⟨_, rfl⟩
      replace H : ((spec_l1Own.f y259).bind fun t263 => (if t263.length < 17592186044416 then ((some (t263 ++ [x10_1] : List Int)).bind fun y266 => ((some (x3_1.drop (x6_2 : Int).toNat : List Int)).bind fun y269 => (if y266.length + y269.length < 17592186044416 then (spec_agOrder.l0 k2 l0 (y266 ++ y269) l0 (l0.length : Int) (wrap64 (x10_1 + 1))) else (none)))) else (none))) = some r := by first | (rw [hy259]; with_reducible exact H) | (have H2_ := (Option.bind_some _ _).symm.trans H; rw [hy259]; with_reducible exact H2_) | (have H2_ := (Option.bind_some _ _).symm.trans H; with_reducible exact H2_) | with_reducible exact H | (rw [hy259]; exact H) | exact H
      have Ny259 := aM hy259
      clear hy259
      replace H := oB H
      obtain ⟨t263, A260, H⟩ := H
      (try dsimp only at H)
      have A26 := aM A260
      clear A260
      by_cases c27 : t263.length < 17592186044416
      case neg =>
       rw [if_neg c27] at H
       exact nS H
      rw [if_pos c27] at H
      have LMc27 := aM c27
      clear c27
      obtain ⟨y266, hy266⟩ : ∃ y_ : List Int, y_ = (t263 ++ [x10_1]) := ⟨_, rfl⟩
      replace H : ((some (x3_1.drop (x6_2 : Int).toNat : List Int)).bind fun y269 => (if y266.length + y269.length < 17592186044416 then (spec_agOrder.l0 k2 l0 (y266 ++ y269) l0 (l0.length : Int) (wrap64 (x10_1 + 1))) else (none))) = some r := by first | (rw [hy266]; with_reducible exact H) | (have H2_ := (Option.bind_some _ _).symm.trans H; rw [hy266]; with_reducible exact H2_) | (have H2_ := (Option.bind_some _ _).symm.trans H; with_reducible exact H2_) | with_reducible exact H | (rw [hy266]; exact H) | exact H
      have Ny266 := aM hy266
      clear hy266
      have c28b0 := eq_true (dA : 0 ≤ x6_2)
      have c29b0 := eq_true (dA : x6_2 ≤ (x3_1.length : Int))
      obtain ⟨y269, hy269⟩ : ∃ y_ : List Int, y_ = (x3_1.drop (x6_2 : Int).toNat) := ⟨_, rfl⟩
      replace H : (if y266.length + y269.length < 17592186044416 then (spec_agOrder.l0 k2 l0 (y266 ++ y269) l0 (l0.length : Int) (wrap64 (x10_1 + 1))) else (none)) = some r := by first | (rw [hy269]; with_reducible exact H) | (have H2_ := (Option.bind_some _ _).symm.trans H; rw [hy269]; with_reducible exact H2_) | (have H2_ := (Option.bind_some _ _).symm.trans H; with_reducible exact H2_) | with_reducible exact H | (rw [hy269]; exact H) | exact H
      have Ny269 := aM hy269
      clear hy269
      by_cases c30 : y266.length + y269.length < 17592186044416
      case neg =>
       rw [if_neg c30] at H
       exact nS H
      rw [if_pos c30] at H
      have LMc30 := aM c30
      clear c30
      obtain ⟨y273, hy273⟩ : ∃ y_ : List Int, y_ = (y266 ++ y269) := ⟨_, rfl⟩
      replace H : (spec_agOrder.l0 k2 l0 y273 l0 (l0.length : Int) (wrap64 (x10_1 + 1))) = some r := by first | (rw [hy273]; with_reducible exact H) | (have H2_ := (Option.bind_some _ _).symm.trans H; rw [hy273]; with_reducible exact H2_) | (have H2_ := (Option.bind_some _ _).symm.trans H; with_reducible exact H2_) | with_reducible exact H | (rw [hy273]; exact H) | exact H
      have Ny273 := aM hy273
      clear hy273
      have H' := aM H
      clear H
      obtain ⟨Ao31, co31, eo31⟩ := Kd.R_slice HO_3.out
      subst eo31
      have q32 : (x6_2 : Int) ≤ ((x3_1.length : Int) : Int) := dA
      obtain ⟨i032, hi032, _, hsz32, _⟩ := info_parts info3
      have hroom32 : x3_1.length ≤ co31 := (Kd.R_reads' HO_3.out).2.1
      have hC32 : Kd.C (Kd.int .i64) _ Ao31 x3_1.length x3_1 := (Kd.R_reads' HO_3.out).2.2
      have hcut32 := cut_to (P := Tryz.prog) 24 3 .i64 Tryz.underlying24 hi032 Ao31 x3_1.length co31 x6_2 (dA) q32 hroom32
      have hr32 := Kd.C_take (m := (x6_2 : Int).toNat) hC32 (by omega)
      have hy32 : y259.length = (x6_2 : Int).toNat := (by rw [Ny259.out, List.length_take]; omega)
      rw [← Ny259.out] at hr32
      rw [← hy32] at hcut32
      have HR262 := aM hr32
      have HC262 := aM (show y259.length ≤ co31 from by omega)
      clear hr32 hC32 hroom32 hi032 hsz32
      have KY32 := aM hy32
      clear hy32
      have KL32 := aM (show (x6_2 : Int).toNat ≤ x3_1.length from by omega)
      replace q32 := eq_true q32
      go_wp2_with (first | ((with_reducible refine gate_callee (f := 73) rfl ?_); refine gL 35 Tryz.func73 #[.slice Ao31 y259.length co31] rfl rfl rfl rfl ?_; (with_reducible refine (spec_l1Own.calls _ _ y259 t263 _ ?side1 ?side2 A26.out).mono ?_); (case side1 => repeat (first | exact (by repeat (first | (with_reducible exact HR262.out) | (with_reducible refine Kd.C_alloc ?_ _) | (with_reducible refine Kd.C_drewN ?_ _) | (with_reducible refine Kd.C_drew ?_) | exact HR262.out)) | (with_reducible refine Kd.C_alloc ?_ _) | (with_reducible refine Kd.C_drewN ?_ _) | (with_reducible refine Kd.C_drew ?_))); (case side2 => exact HC262.out); rintro e w33 ⟨v264, rfl, ho0, hb⟩; refine ⟨_, rfl, ?_⟩; have HO265 := aM (Kd.R_lower (Kd.R_new' ho0 (Kd.R_lt (rQ HO_3.out))) (bZ HB.out)); replace HO_3 := aM (Kd.R_elder' (rQ HO_3.out) (Kd.R_base ho0) hb); replace HR262 := aM (Kd.C_below (by repeat (first | (with_reducible exact HR262.out) | (with_reducible refine Kd.C_alloc ?_ _) | (with_reducible refine Kd.C_drewN ?_ _) | (with_reducible refine Kd.C_drew ?_) | exact HR262.out)) hb); replace HB := aM (bS HB.out hb); (try clear hb ho0)) | ((with_reducible refine gate_builtin (b := .append) (xs := #[.tmp 35, .tmp 37]) rfl ?_); at_builtin; refine Kd.R_append (Kd.int .i64) (w0 := w) w.heap.size rfl (.tmp 35) (.tmp 37) 24 3 (.int .i64 0) 8 rfl Tryz.underlying24 info3 rfl (by decide) (by omega) v264 t263 x10_1 [.int .i64 x10_1] (fun k_ => some k_ ≠ (.slice Ao31 x3_1.length co31 : Value).ownBlock) (fun _ => False) rfl rfl ?aP (fun _ hk => hk.elim) ?aF ?aO ?aB ?aS ?aL ?_; (case aP => exact rfl); (case aB => exact (bE HB.out)); (case aF => exact (fun k_ hk => Kd.fresh' (Kd.R_lt (rQ HO_3.out)) k_ hk)); (case aO => exact (by (with_reducible repeat (first | apply Kd.R_alloc | apply Kd.R_drewN | apply Kd.R_drew)); exact Kd.R_mono HO265.out (fun _ hk => hk.2))); (case aS => exact (bZ HB.out)); (case aL => have := LMc27.out; omega); intro v267 w34 ho hb hg hat; rw [← Ny266.out] at ho; replace HB := aM (hb); replace HR262 := aM ((show Kd.C (Kd.int .i64) w34 Ao31 y259.length y259 from by rw [Ny259.out]; exact Kd.C_take (m := (x6_2 : Int).toNat) ((Kd.R_reads' (Kd.R_after (ok := (fun _ => True)) (rQ HO_3.out) hg hat)).2.2) KL32.out)); replace HO_3 := aM (Kd.R_after (ok := (fun _ => True)) (rQ HO_3.out) hg hat); have HO268 := aM (ho); clear HO265; clear ho hb hg hat; have q35 : (x6_2 : Int) ≤ ((x3_1.length : Int) : Int) := dA; obtain ⟨i035, hi035, _, hsz35, _⟩ := info_parts info3; have hroom35 : x3_1.length ≤ co31 := (Kd.R_reads' HO_3.out).2.1; have hC35 : Kd.C (Kd.int .i64) _ Ao31 x3_1.length x3_1 := (Kd.R_reads' HO_3.out).2.2; have q035 : (0 : Int) ≤ (x6_2 : Int) := dA; have hcut35 := cut_from (P := Tryz.prog) 24 3 .i64 Tryz.underlying24 hi035 1 hsz35 Ao31 x3_1.length co31 x6_2 q035 q35; have hr35 := Kd.C_drop (m := (x6_2 : Int).toNat) (c := co31) hC35 (by omega) hroom35; obtain ⟨A35, hA35⟩ : ∃ A1, A1 = (if co31 = (x6_2 : Int).toNat then Ao31 else (Ao31 : Option Addr).map (·.add ((x6_2 : Int).toNat * 1))) := ⟨_, rfl⟩; obtain ⟨c35, hc35⟩ : ∃ c1, c1 = co31 - (x6_2 : Int).toNat := ⟨_, rfl⟩; have hy35 : y269.length = x3_1.length - (x6_2 : Int).toNat := (by rw [Ny269.out, List.length_drop] <;> omega); rw [show (x3_1).drop (x6_2 : Int).toNat = y269 from Ny269.out.symm] at hr35; replace hr35 : Kd.C (Kd.int .i64) _ A35 y269.length y269 := (by rw [hA35]; exact hr35); rw [← hy35, ← hA35, ← hc35] at hcut35; have HR272 := aM hr35; have HC272 := aM (show y269.length ≤ c35 from by rw [hy35, hc35]; exact Nat.sub_le_sub_right hroom35 _); clear hr35 hC35 hroom35 hi035 hsz35 hc35; have KY35 := aM hy35; have KA35 := aM hA35; clear hy35 hA35; have KL35 := aM (show (x6_2 : Int).toNat ≤ x3_1.length from by omega); replace q35 := eq_true q35) | ((with_reducible refine gate_builtin (b := .append) (xs := #[.tmp 39, .tmp 42]) rfl ?_); at_builtin; refine Kd.R_append_rows (Kd.int .i64) (w0 := w) w.heap.size rfl (.tmp 39) (.tmp 42) 24 3 (.int .i64 0) 8 rfl Tryz.underlying24 info3 rfl (by decide) (by omega) v267 y266 y269 _ _ _ (fun k_ => some k_ ≠ (.slice Ao31 x3_1.length co31 : Value).ownBlock) (fun _ => False) rfl rfl ?aO ?aR (fun _ _ h => h) (fun _ h => h.elim) ?aF ?aB ?aS ?aL ?_; (case aR => repeat (first | exact (by repeat (first | (with_reducible exact HR272.out) | (with_reducible refine Kd.C_alloc ?_ _) | (with_reducible refine Kd.C_drewN ?_ _) | (with_reducible refine Kd.C_drew ?_) | exact HR272.out)) | (with_reducible refine Kd.C_alloc ?_ _) | (with_reducible refine Kd.C_drewN ?_ _) | (with_reducible refine Kd.C_drew ?_))); (case aB => exact (bE HB.out)); (case aF => exact (fun k_ hk => Kd.fresh' (Kd.R_lt (rQ HO_3.out)) k_ hk)); (case aO => exact (rQ HO268.out)); (case aS => exact (bZ HB.out)); (case aL => have := LMc30.out; omega); intro v274 w36 ho hb hg hat; rw [← Ny273.out] at ho; replace HB := aM (hb); replace HR262 := aM ((show Kd.C (Kd.int .i64) w36 Ao31 y259.length y259 from by rw [Ny259.out]; exact Kd.C_take (m := (x6_2 : Int).toNat) ((Kd.R_reads' (Kd.R_after (ok := (fun _ => True)) (rQ HO_3.out) hg hat)).2.2) KL32.out)); replace HR272 := aM ((show Kd.C (Kd.int .i64) w36 A35 y269.length y269 from by rw [Ny269.out, KA35.out]; exact Kd.C_drop (m := (x6_2 : Int).toNat) (c := co31) ((Kd.R_reads' (Kd.R_after (ok := (fun _ => True)) (rQ HO_3.out) hg hat)).2.2) KL35.out ((Kd.R_reads' (Kd.R_after (ok := (fun _ => True)) (rQ HO_3.out) hg hat)).2.1))); replace HO_3 := aM (Kd.R_after (ok := (fun _ => True)) (rQ HO_3.out) hg hat); have HO275 := aM (ho); clear HO268; clear ho hb hg hat))
      go_roundg k2
      case measure => have := HK1.out; have := HK2.out; omega
      case rel => exact ⟨(y273), (wrap64 (x10_1 + 1)), eqQ, H', ⟨by have := HK1.out; have := HK2.out; omega⟩, ⟨by (with_reducible repeat (first | apply Kd.R_alloc | apply Kd.R_drewN | apply Kd.R_drew)); exact Kd.R_mono HO275.out (fun _ hk => trivial)⟩, ⟨bE HB.out⟩⟩
/-! ### spec_OrderOfAges: function 11 -/
def spec_OrderOfAges.f (k : Nat) (l0 : List Int) : Option (List Int × Bool) := (spec_agGood.f k l0).bind fun t276 => (if t276 = true then ((spec_agOrder.f k l0).bind fun t277 => (some (t277, true))) else (some (([] : List Int), false)))
theorem spec_OrderOfAges.mono : ∀ a0 k, LeO (spec_OrderOfAges.f k a0) (spec_OrderOfAges.f (k + 1) a0) := by
 intro a0 k
 unfold spec_OrderOfAges.f
 repeat' first
   | (with_reducible exact spec_agGood.mono _ _)
   | (with_reducible exact spec_agOrder.mono _ _)
   | (with_reducible exact LeO.refl _)
   | (with_reducible exact LeO.none _)
   | (with_reducible refine LeO.ite ?_ ?_)
   | (with_reducible refine LeO.bind ?_ (fun _ => ?_))
set_option maxHeartbeats 8000000 in
set_option maxRecDepth 100000 in
theorem spec_OrderOfAges.calls (k : Nat) (A0 : Option Addr) (c0 : Nat) (l0 : List Int) (r1 : List Int) (r2 : Bool) (w : World) (hr0 : Kd.C (Kd.int .i64) w A0 l0.length l0) (hc0 : l0.length ≤ c0) (h : spec_OrderOfAges.f k l0 = some (r1, r2)) :
  Calls Tryz.prog 11 #[.slice A0 l0.length c0] w fun e w' => ∃ v0_ : Value, e = .returned (.tuple #[v0_, .bool r2]) ∧ Kd.R (Kd.int .i64) 3 w' w.heap.size (fun _ => True) v0_ r1 ∧ Below w.heap.size w w' := by
 have HR0 := aM hr0
 have HC0 := aM hc0
 clear hr0 hc0
 have HB := aM (Below.refl w.heap.size w)
 have H : ((spec_agGood.f k l0).bind fun t276 => (if t276 = true then ((spec_agOrder.f k l0).bind fun t277 => (some (t277, true))) else (some (([] : List Int), false)))) = some (r1, r2) := h
 clear h
 replace H := oB H
 obtain ⟨t276, A20, H⟩ := H
 (try dsimp only at H)
 have A2 := aM A20
 clear A20
 by_cases c3 : t276 = true
 ·
  subst c3
  replace H := (if_pos rfl).symm.trans H
  replace H := oB H
  obtain ⟨t277, A40, H⟩ := H
  (try dsimp only at H)
  have A4 := aM A40
  clear A40
  simp only [Option.some.injEq, Prod.mk.injEq] at H
  obtain ⟨rfl, rfl⟩ := H
  go_enter Tryz.func11, Tryz.ntmps11
  go_wp2_with (first | ((with_reducible refine gate_callee (f := 53) rfl ?_); refine gL 5 Tryz.func53 #[.slice A0 l0.length c0] rfl rfl rfl rfl ?_; (with_reducible refine (spec_agGood.calls k _ _ l0 true _ ?side1 ?side2 A2.out).mono ?_); (case side1 => exact cQ HR0.out); (case side2 => exact HC0.out); rintro e w' ⟨rfl, ⟨nd, rfl⟩⟩; refine ⟨_, rfl, ?_⟩) | ((with_reducible refine gate_callee (f := 54) rfl ?_); refine gL 8 Tryz.func54 #[.slice A0 l0.length c0] rfl rfl rfl rfl ?_; (with_reducible refine (spec_agOrder.calls k _ _ l0 t277 _ ?side1 ?side2 A4.out).mono ?_); (case side1 => exact cQ HR0.out); (case side2 => exact HC0.out); rintro e w5 ⟨v278, rfl, ho0, hb⟩; refine ⟨_, rfl, ?_⟩; have HO279 := aM (Kd.R_lower ho0 (bZ HB.out)); replace HB := aM (bS HB.out hb); (try clear hb ho0)))
  go_ret2
  exact ⟨_, erQ, rQ HO279.out, bE HB.out⟩
 ·
  replace c3 := Bool.eq_false_iff.mpr c3
  subst c3
  have H1 : (some (([] : List Int), false)) = some (r1, r2) := by rw [if_neg (show ¬ (false = true) by decide)] at H; exact H
  clear H
  have H := H1
  clear H1
  simp only [Option.some.injEq, Prod.mk.injEq] at H
  obtain ⟨rfl, rfl⟩ := H
  go_enter Tryz.func11, Tryz.ntmps11
  go_wp2_with (first | ((with_reducible refine gate_callee (f := 53) rfl ?_); refine gL 5 Tryz.func53 #[.slice A0 l0.length c0] rfl rfl rfl rfl ?_; (with_reducible refine (spec_agGood.calls k _ _ l0 false _ ?side1 ?side2 A2.out).mono ?_); (case side1 => exact cQ HR0.out); (case side2 => exact HC0.out); rintro e w' ⟨rfl, ⟨nd, rfl⟩⟩; refine ⟨_, rfl, ?_⟩))
  go_ret2
  exact ⟨_, erQ, by first | exact Kd.R_nil _ _ _ _ _ | exact Kd.N_nil _ _ _ _ _ | exact Kd.V_nil _ _ _ _ _ | exact Kd.Q_nil _ _ _ _ _ | exact Kd.S_nil _ _ _ _ _, bE HB.out⟩

/-! ### impl_GapsOfAges: function 12 -/
def impl_GapsOfAges.l0 : Nat → List Int → List Int → List Int → Int → Option (List Int × Bool)
 | 0, _, _, _, _ => none
 | k + 1, x0, x4, x5, x6 => if x6 < (x4.length : Int) then (if 0 ≤ (wrap64 (x6 - 1)) then (if (wrap64 (x6 - 1)) < (x4.length : Int) then (if 0 ≤ (rd x4 (wrap64 (x6 - 1))) then (if (rd x4 (wrap64 (x6 - 1))) < (x0.length : Int) then (if 0 ≤ x6 then (if 0 ≤ (rd x4 x6) then (if (rd x4 x6) < (x0.length : Int) then (if x5.length < 17592186044416 then (impl_GapsOfAges.l0 k x0 x4 (x5 ++ [wrap64 ((rd x0 (rd x4 (wrap64 (x6 - 1)))) - (rd x0 (rd x4 x6)))]) (wrap64 (x6 + 1))) else (none)) else (none)) else (none)) else (none)) else (none)) else (none)) else (none)) else (none)) else (some (x5, true))
def impl_GapsOfAges.f (k : Nat) (l0 : List Int) : Option (List Int × Bool) := (impl_AreAges.f l0).bind fun t280 => (if t280 = true then ((impl_order.f l0).bind fun t281 => (impl_GapsOfAges.l0 k l0 t281 (([] : List Int)) 1)) else (some (([] : List Int), false)))
theorem impl_GapsOfAges.mono_l : ∀ k, (∀ y0 y1 y2 y3, LeO (impl_GapsOfAges.l0 k y0 y1 y2 y3) (impl_GapsOfAges.l0 (k + 1) y0 y1 y2 y3))
 | 0 => fun _ _ _ _ r h => by simp [impl_GapsOfAges.l0] at h
 | k + 1 => by
  have ih0 := impl_GapsOfAges.mono_l k
  ·
   intro y0 y1 y2 y3
   unfold impl_GapsOfAges.l0
   repeat' first
   | (with_reducible exact ih0 _ _ _ _)
   | (with_reducible exact LeO.refl _)
   | (with_reducible exact LeO.none _)
   | (with_reducible refine LeO.ite ?_ ?_)
   | (with_reducible refine LeO.bind ?_ (fun _ => ?_))
theorem impl_GapsOfAges.mono : ∀ a0 k, LeO (impl_GapsOfAges.f k a0) (impl_GapsOfAges.f (k + 1) a0) := by
 intro a0 k
 have ih0 := impl_GapsOfAges.mono_l k
 unfold impl_GapsOfAges.f
 repeat' first
   | (with_reducible exact ih0 _ _ _ _)
   | (with_reducible exact LeO.refl _)
   | (with_reducible exact LeO.none _)
   | (with_reducible refine LeO.ite ?_ ?_)
   | (with_reducible refine LeO.bind ?_ (fun _ => ?_))
def impl_GapsOfAges.T7 : Bool × List (List Nat × List Nat) := (true, [([], []), ([], []), ([], []), ([], []), ([3], [3]), ([2, 4], [2, 4]), ([5], [5]), ([1, 6], [1, 6]), ([7], [7]), ([], []), ([], []), ([], []), ([10, 11], [10, 11]), ([12], [12]), ([9, 13], [9, 13]), ([14], [14]), ([8, 15], [8, 15]), ([16], [16]), ([0, 17], [0, 17]), ([18, 18, 0, 1, 2, 3, 4, 5, 6, 7, 8, 9, 10, 11, 12, 13, 14, 15, 16, 17, 18], [0, 18])])
def impl_GapsOfAges.B7 : List Nat := [0, 0, 0, 0, 8, 28, 60, 126, 254, 0, 0, 0, 3072, 7168, 15872, 32256, 65534, 131070, 262143, 524287]
theorem impl_GapsOfAges.tab7 : rtab .any (opsOf Tryz.f12 7) = impl_GapsOfAges.T7 := by kernel_rfl
theorem impl_GapsOfAges.bits7 : waitsOk impl_GapsOfAges.T7.2 impl_GapsOfAges.B7 = true := by kernel_rfl
set_option maxHeartbeats 8000000 in
set_option maxRecDepth 100000 in
theorem impl_GapsOfAges.calls (k : Nat) (A0 : Option Addr) (c0 : Nat) (l0 : List Int) (r1 : List Int) (r2 : Bool) (w : World) (hr0 : Kd.C (Kd.int .i64) w A0 l0.length l0) (hc0 : l0.length ≤ c0) (h : impl_GapsOfAges.f k l0 = some (r1, r2)) :
  Calls Tryz.prog 12 #[.slice A0 l0.length c0] w fun e w' => ∃ v0_ : Value, e = .returned (.tuple #[v0_, .bool r2]) ∧ Kd.R (Kd.int .i64) 3 w' w.heap.size (fun _ => True) v0_ r1 ∧ Below w.heap.size w w' := by
 have HR0 := aM hr0
 have HC0 := aM hc0
 clear hr0 hc0
 have HB := aM (Below.refl w.heap.size w)
 have H : ((impl_AreAges.f l0).bind fun t280 => (if t280 = true then ((impl_order.f l0).bind fun t281 => (impl_GapsOfAges.l0 k l0 t281 (([] : List Int)) 1)) else (some (([] : List Int), false)))) = some (r1, r2) := h
 clear h
 replace H := oB H
 obtain ⟨t280, A20, H⟩ := H
 (try dsimp only at H)
 have A2 := aM A20
 clear A20
 by_cases c3 : t280 = true
 ·
  subst c3
  replace H := (if_pos rfl).symm.trans H
  replace H := oB H
  obtain ⟨t281, A40, H⟩ := H
  (try dsimp only at H)
  have A4 := aM A40
  clear A40
  obtain ⟨y284, hy284⟩ : ∃ y_ : List Int, y_ = (([] : List Int)) := ⟨_, rfl⟩
  replace H : (impl_GapsOfAges.l0 k l0 t281 y284 1) = some (r1, r2) := by first | (rw [hy284]; with_reducible exact H) | (have H2_ := (Option.bind_some _ _).symm.trans H; rw [hy284]; with_reducible exact H2_) | (have H2_ := (Option.bind_some _ _).symm.trans H; with_reducible exact H2_) | with_reducible exact H | (rw [hy284]; exact H) | exact H
  have Ny284 := aM hy284
  clear hy284
  have H' := aM H
  clear H
  go_enter Tryz.func12, Tryz.ntmps12
  go_wp2_with (first | ((with_reducible refine gate_callee (f := 47) rfl ?_); refine gL 8 Tryz.func47 #[.slice A0 l0.length c0] rfl rfl rfl rfl ?_; (with_reducible refine (impl_AreAges.calls _ _ l0 true _ ?side1 ?side2 A2.out).mono ?_); (case side1 => exact cQ HR0.out); (case side2 => exact HC0.out); rintro e w5 ⟨rfl, hb⟩; refine ⟨_, rfl, ?_⟩; replace HB := aM (bS HB.out hb); (try clear hb)) | ((with_reducible refine gate_callee (f := 52) rfl ?_); refine gL 11 Tryz.func52 #[.slice A0 l0.length c0] rfl rfl rfl rfl ?_; (with_reducible refine (impl_order.calls _ _ l0 t281 _ ?side1 ?side2 A4.out).mono ?_); (case side1 => exact cQ (Kd.C_below HR0.out HB.out)); (case side2 => exact HC0.out); rintro e w6 ⟨v282, rfl, ho0, hb⟩; refine ⟨_, rfl, ?_⟩; have HO283 := aM (Kd.R_lower ho0 (bZ HB.out)); replace HB := aM (bS HB.out hb); (try clear hb ho0)) | ((with_reducible refine gate_dst (N := 12) rfl ?_); refine Kd.R_lit (Kd.int .i64) _ 3 ?hg (N := 12) ?hd (xs := ([] : List Int)) (inner := []) (ok := fun _ => True) (okp := fun _ => True) ?hr ?hp (fun _ hk => hk) trivial (Below.refl _ _) (Nat.le_refl _) (by simp) ?_; (case hd => rfl); (case hg => rfl); (case hr => first | (go_simp; done) | (go_simp; rfl)); (case hp => exact (Reps.none _ _)); intro v285 w7 ho8 hb hg_ hnew_; clear hg_ hnew_; (first | rw [← Ny284.out] at ho8 | (simp only [Int.reduceToNat] at ho8; rw [← Ny284.out] at ho8)); have HO286 := aM (Kd.R_lower (Kd.R_new' ho8 (Kd.R_lt (rQ HO283.out))) (bZ HB.out)); replace HO283 := aM (Kd.R_elder' (rQ HO283.out) (Kd.R_base ho8) hb); replace HB := aM (bS HB.out hb); clear hb ho8))
  go_loopg [5, 6] k (fun kq v5 v6 w' => ∃ (x5_1 : List Int) (x6_1 : Int), v6 = .int .i64 x6_1 ∧ Aside0 (impl_GapsOfAges.l0 kq l0 t281 x5_1 x6_1 = some (r1, r2)) ∧ Aside0 (kq ≤ k) ∧ Aside0 (Kd.R (Kd.int .i64) 3 w' w.heap.size (fun k_ => some k_ ≠ (v5 : Value).ownBlock) v282 t281) ∧ Aside0 (Kd.R (Kd.int .i64) 3 w' w.heap.size (fun k_ => some k_ ≠ (v282 : Value).ownBlock) v5 x5_1) ∧ Aside0 (Below w.heap.size w w'))
  case atStart => exact ⟨(y284), (1), eqQ, H', ⟨Nat.le_refl _⟩, ⟨by (with_reducible repeat (first | apply Kd.R_alloc | apply Kd.R_drewN | apply Kd.R_drew)); exact Kd.R_mono HO283.out (fun _ hk => hk.2)⟩, ⟨by (with_reducible repeat (first | apply Kd.R_alloc | apply Kd.R_drewN | apply Kd.R_drew)); exact Kd.R_mono HO286.out (fun _ hk => hk.2)⟩, ⟨bE HB.out⟩⟩
  case round =>
   clear H'
   try clear c1
   try clear p2
   try clear c3
   try clear c4
   try clear c5
   obtain ⟨x5_1, x6_1, rfl, HA, HK1, HO_4, HO_5, HB⟩ := hrel
   cases gk with
   | zero => exact absurd HA.out (by simp [impl_GapsOfAges.l0])
   | succ k1 =>
    have H := HA.out
    clear HA
    simp only [impl_GapsOfAges.l0] at H
    by_cases c9 : x6_1 < (t281.length : Int)
    ·
     rw [if_pos c9] at H
     have c9b0 : decide (x6_1 < (t281.length : Int)) = true := decide_eq_true c9
     clear c9
     obtain ⟨ji10, hji10⟩ : ∃ j_ : Int, (wrap64 (x6_1 - 1)) = j_ := ⟨_, rfl⟩
     replace H : (if 0 ≤ (ji10) then (if (ji10) < (t281.length : Int) then (if 0 ≤ (rd t281 (ji10)) then (if (rd t281 (ji10)) < (l0.length : Int) then (if 0 ≤ x6_1 then (if 0 ≤ (rd t281 x6_1) then (if (rd t281 x6_1) < (l0.length : Int) then (if x5_1.length < 17592186044416 then (impl_GapsOfAges.l0 k1 l0 t281 (x5_1 ++ [wrap64 ((rd l0 (rd t281 (ji10))) - (rd l0 (rd t281 x6_1)))]) (wrap64 (x6_1 + 1))) else (none)) else (none)) else (none)) else (none)) else (none)) else (none)) else (none)) else (none)) = some (r1, r2) := by first | (rw [hji10] at H; exact H) | (simp only [hji10] at H ⊢; exact H)
     have hji10w : (IntKind.i64.wrap (x6_1 - 1)) = ji10 := (i64_w _).trans hji10
     by_cases c11 : 0 ≤ (ji10)
     case neg =>
      rw [if_neg c11] at H
      exact nS H
     rw [if_pos c11] at H
     have c11b0 : decide (0 ≤ (ji10)) = true := decide_eq_true c11
     clear c11
     by_cases c12 : (ji10) < (t281.length : Int)
     case neg =>
      rw [if_neg c12] at H
      exact nS H
     rw [if_pos c12] at H
     have c12b0 : decide ((ji10) < (t281.length : Int)) = true := decide_eq_true c12
     clear c12
     by_cases c13 : 0 ≤ (rd t281 (ji10))
     case neg =>
      rw [if_neg c13] at H
      exact nS H
     rw [if_pos c13] at H
     have c13b0 : decide (0 ≤ (rd t281 (ji10))) = true := decide_eq_true c13
     clear c13
     by_cases c14 : (rd t281 (ji10)) < (l0.length : Int)
     case neg =>
      rw [if_neg c14] at H
      exact nS H
     rw [if_pos c14] at H
     have c14b0 : decide ((rd t281 (ji10)) < (l0.length : Int)) = true := decide_eq_true c14
     clear c14
     by_cases c15 : 0 ≤ x6_1
     case neg =>
      rw [if_neg c15] at H
      exact nS H
     rw [if_pos c15] at H
     have c15b0 : decide (0 ≤ x6_1) = true := decide_eq_true c15
     clear c15
     by_cases c16 : 0 ≤ (rd t281 x6_1)
     case neg =>
      rw [if_neg c16] at H
      exact nS H
     rw [if_pos c16] at H
     have c16b0 : decide (0 ≤ (rd t281 x6_1)) = true := decide_eq_true c16
     clear c16
     by_cases c17 : (rd t281 x6_1) < (l0.length : Int)
     case neg =>
      rw [if_neg c17] at H
      exact nS H
     rw [if_pos c17] at H
     have c17b0 : decide ((rd t281 x6_1) < (l0.length : Int)) = true := decide_eq_true c17
     clear c17
     by_cases c18 : x5_1.length < 17592186044416
     case neg =>
      rw [if_neg c18] at H
      exact nS H
     rw [if_pos c18] at H
     have LMc18 := aM c18
     clear c18
     obtain ⟨y291, hy291⟩ : ∃ y_ : List Int, y_ = (x5_1 ++ [wrap64 ((rd l0 (rd t281 (ji10))) - (rd l0 (rd t281 x6_1)))]) := ⟨_, rfl⟩
     replace H : (impl_GapsOfAges.l0 k1 l0 t281 y291 (wrap64 (x6_1 + 1))) = some (r1, r2) := by first | (rw [hy291]; with_reducible exact H) | (have H2_ := (Option.bind_some _ _).symm.trans H; rw [hy291]; with_reducible exact H2_) | (have H2_ := (Option.bind_some _ _).symm.trans H; with_reducible exact H2_) | with_reducible exact H | (rw [hy291]; exact H) | exact H
     have Ny291 := aM hy291
     clear hy291
     have H' := aM H
     clear H
     obtain ⟨Ao19, co19, eo19⟩ := Kd.R_slice HO_4.out
     subst eo19
     try go_wp2
     have n0_ := aM (Kd.R_drew HO_4.out)
     have n1_ := aM (Kd.R_drew HO_5.out)
     have n2_ := aM (below_drew1 HB.out)
     clear HO_4
     clear HO_5
     clear HB
     have HO_4 := n0_
     have HO_5 := n1_
     have HB := n2_
     clear n0_ n1_ n2_
     have p287 : 0 ≤ ((ji10) : Int) := dA
     have q287 : (ji10) < (t281.length : Int) := dA
     obtain ⟨ad287, e287, hx287_0⟩ := Kd.at_int (Kd.R_reads' HO_4.out).2.2 (ji10) p287 q287
     cases e287
     replace p287 := eq_true p287
     replace q287 := eq_true q287
     have p288 : 0 ≤ ((rd t281 (ji10)) : Int) := dA
     have q288 : (rd t281 (ji10)) < (l0.length : Int) := dA
     obtain ⟨ad288, e288, hx288_0⟩ := Kd.at_int HR0.out (rd t281 (ji10)) p288 q288
     have hw288_0 := hx288_0
     cases e288
     replace hx288_0 := (HB.out.cell (World.block_lt_of_cell? w _ hx288_0)).trans hx288_0
     replace p288 := eq_true p288
     replace q288 := eq_true q288
     have p289 : 0 ≤ (x6_1 : Int) := dA
     have q289 : x6_1 < (t281.length : Int) := dA
     obtain ⟨ad289, e289, hx289_0⟩ := Kd.at_int (Kd.R_reads' HO_4.out).2.2 x6_1 p289 q289
     obtain rfl : ad287 = ad289 := (by injection e289)
     replace p289 := eq_true p289
     replace q289 := eq_true q289
     have p290 : 0 ≤ ((rd t281 x6_1) : Int) := dA
     have q290 : (rd t281 x6_1) < (l0.length : Int) := dA
     obtain ⟨ad290, e290, hx290_0⟩ := Kd.at_int HR0.out (rd t281 x6_1) p290 q290
     have hw290_0 := hx290_0
     obtain rfl : ad288 = ad290 := (by injection e290)
     replace hx290_0 := (HB.out.cell (World.block_lt_of_cell? w _ hx290_0)).trans hx290_0
     replace p290 := eq_true p290
     replace q290 := eq_true q290
     refine start_ (n := 20) (S := fun w' => w'.cell? (ad287.add ((ji10)).toNat) = some (.int .i64 (rd t281 (ji10))) ∧ w'.cell? (ad288.add ((rd t281 (ji10))).toNat) = some (.int .i64 (rd l0 (rd t281 (ji10)))) ∧ w'.cell? (ad287.add (x6_1).toNat) = some (.int .i64 (rd t281 x6_1)) ∧ w'.cell? (ad288.add ((rd t281 x6_1)).toNat) = some (.int .i64 (rd l0 (rd t281 x6_1)))) (ds := [17, 18]) #[false, false, false, false, false, false, false, false, false, false, false, false, false, false, false, false, false, false, false, false] (by kernel_rfl) rfl rfl ⟨hx287_0, ((HB.out.cell (World.block_lt_of_cell? w _ hw288_0)).trans hw288_0), hx289_0, ((HB.out.cell (World.block_lt_of_cell? w _ hw290_0)).trans hw290_0)⟩ (fun hHeld => ?_); refine with_tabW impl_GapsOfAges.tab7 impl_GapsOfAges.bits7 (fun HT_ HW_ => ?_)
     generalize wr.drew = w20 at HO_4 HO_5 HB hx287_0 hx288_0 hx289_0 hx290_0 hHeld ⊢
     refine pure_ (i := 0) (N := some 19) (v := ?_) (a' := ?_) (bm 20 1) rfl rfl (any_of HT_.out (by kernel_rfl)) (fun _ _ _ h => h) (Or.inl ⟨by rfl, ?_⟩) ?_ ?_
     rotate_left
     ·
      intro w'
      go_simp
      with_reducible rfl
     rotate_left
     ·
      simp only [Act.put, List.setIfInBounds_toArray, List.set_cons_zero, List.set_cons_succ, i64_w, i32_w]
      rfl
     refine pure_ (i := 1) (N := some 20) (v := ?_) (a' := ?_) (bm 20 3) rfl rfl (any_of HT_.out (by kernel_rfl)) (fun _ _ _ h => h) (Or.inl ⟨by rfl, ?_⟩) ?_ ?_
     rotate_left
     ·
      intro w'
      go_simp
      with_reducible rfl
     rotate_left
     ·
      simp only [Act.put, List.setIfInBounds_toArray, List.set_cons_zero, List.set_cons_succ, i64_w, i32_w]
      rfl
     refine pure_ (i := 2) (N := some 21) (v := ?_) (a' := ?_) (bm 20 7) rfl rfl (any_of HT_.out (by kernel_rfl)) (fun _ _ _ h => h) (Or.inl ⟨by rfl, ?_⟩) ?_ ?_
     rotate_left
     ·
      intro w'
      go_simp
      with_reducible rfl
     rotate_left
     ·
      simp only [Act.put, List.setIfInBounds_toArray, List.set_cons_zero, List.set_cons_succ, i64_w, i32_w]
      rfl
     refine pure_ (i := 3) (N := some 22) (v := ?_) (a' := ?_) (bm 20 15) rfl rfl (any_of HT_.out (by kernel_rfl)) (fun _ _ _ h => h) (Or.inl ⟨by rfl, ?_⟩) ?_ ?_
     rotate_left
     ·
      intro w'
      go_simp
      with_reducible rfl
     rotate_left
     ·
      simp only [Act.put, List.setIfInBounds_toArray, List.set_cons_zero, List.set_cons_succ, i64_w, i32_w]
      rfl
     refine pure_ (i := 4) (N := some 23) (v := ?_) (a' := ?_) (bm 20 31) rfl rfl (any_of HT_.out (by kernel_rfl)) (fun _ _ _ h => h) (Or.inl ⟨by rfl, ?_⟩) ?_ ?_
     rotate_left
     ·
      intro w'
      go_simp
      with_reducible rfl
     rotate_left
     ·
      simp only [Act.put, List.setIfInBounds_toArray, List.set_cons_zero, List.set_cons_succ, i64_w, i32_w]
      rfl
     refine pure_ (i := 5) (N := some 24) (v := ?_) (a' := ?_) (bm 20 63) rfl rfl (any_of HT_.out (by kernel_rfl)) (fun _ _ _ h => h) (Or.inl ⟨by rfl, ?_⟩) ?_ ?_
     rotate_left
     ·
      intro w'
      go_simp
      with_reducible rfl
     rotate_left
     ·
      simp only [Act.put, List.setIfInBounds_toArray, List.set_cons_zero, List.set_cons_succ, i64_w, i32_w]
      rfl
     refine pure_ (i := 9) (N := some 28) (v := ?_) (a' := ?_) (bm 20 575) rfl rfl (any_of HT_.out (by kernel_rfl)) (fun _ _ _ h => h) (Or.inl ⟨by rfl, ?_⟩) ?_ ?_
     rotate_left
     ·
      intro w'
      go_simp
      with_reducible rfl
     rotate_left
     ·
      simp only [Act.put, List.setIfInBounds_toArray, List.set_cons_zero, List.set_cons_succ, i64_w, i32_w]
      rfl
     refine pure_ (i := 10) (N := some 29) (v := ?_) (a' := ?_) (bm 20 1599) rfl rfl (any_of HT_.out (by kernel_rfl)) (fun _ _ _ h => h) (Or.inl ⟨by rfl, ?_⟩) ?_ ?_
     rotate_left
     ·
      intro w'
      go_simp
      with_reducible rfl
     rotate_left
     ·
      simp only [Act.put, List.setIfInBounds_toArray, List.set_cons_zero, List.set_cons_succ, i64_w, i32_w]
      rfl
     refine pure_ (i := 11) (N := some 30) (v := ?_) (a' := ?_) (bm 20 3647) rfl rfl (any_of HT_.out (by kernel_rfl)) (fun _ _ _ h => h) (Or.inl ⟨by rfl, ?_⟩) ?_ ?_
     rotate_left
     ·
      intro w'
      go_simp
      with_reducible rfl
     rotate_left
     ·
      simp only [Act.put, List.setIfInBounds_toArray, List.set_cons_zero, List.set_cons_succ, i64_w, i32_w]
      rfl
     refine pure_ (i := 12) (N := some 31) (v := ?_) (a' := ?_) (bm 20 7743) rfl rfl (any_of HT_.out (by kernel_rfl)) (fun _ _ _ h => h) (Or.inl ⟨by rfl, ?_⟩) ?_ ?_
     rotate_left
     ·
      intro w'
      go_simp
      with_reducible rfl
     rotate_left
     ·
      simp only [Act.put, List.setIfInBounds_toArray, List.set_cons_zero, List.set_cons_succ, i64_w, i32_w]
      rfl
     refine take_ (i := 6) (N := some 25) (v := ?_) (a' := ?_) (bm 20 7807) rfl rfl (take_ofW HT_.out HW_.out (by kernel_rfl)) (fun _ _ _ h => h) (Or.inl ⟨by rfl, ?_⟩) hHeld ?_ ?_
     rotate_left
     ·
      rintro w' ⟨s0, s1, s2, s3⟩
      go_simp
      with_reducible rfl
     rotate_left
     ·
      simp only [Act.put, List.setIfInBounds_toArray, List.set_cons_zero, List.set_cons_succ, i64_w, i32_w]
      rfl
     refine pure_ (i := 7) (N := some 26) (v := ?_) (a' := ?_) (bm 20 7935) rfl rfl (any_of HT_.out (by kernel_rfl)) (fun _ _ _ h => h) (Or.inl ⟨by rfl, ?_⟩) ?_ ?_
     rotate_left
     ·
      intro w'
      go_simp
      with_reducible rfl
     rotate_left
     ·
      simp only [Act.put, List.setIfInBounds_toArray, List.set_cons_zero, List.set_cons_succ, i64_w, i32_w]
      rfl
     refine take_ (i := 8) (N := some 27) (v := ?_) (a' := ?_) (bm 20 8191) rfl rfl (take_ofW HT_.out HW_.out (by kernel_rfl)) (fun _ _ _ h => h) (Or.inl ⟨by rfl, ?_⟩) hHeld ?_ ?_
     rotate_left
     ·
      rintro w' ⟨s0, s1, s2, s3⟩
      go_simp
      with_reducible rfl
     rotate_left
     ·
      simp only [Act.put, List.setIfInBounds_toArray, List.set_cons_zero, List.set_cons_succ, i64_w, i32_w]
      rfl
     refine take_ (i := 13) (N := some 32) (v := ?_) (a' := ?_) (bm 20 16383) rfl rfl (take_ofW HT_.out HW_.out (by kernel_rfl)) (fun _ _ _ h => h) (Or.inl ⟨by rfl, ?_⟩) hHeld ?_ ?_
     rotate_left
     ·
      rintro w' ⟨s0, s1, s2, s3⟩
      go_simp
      with_reducible rfl
     rotate_left
     ·
      simp only [Act.put, List.setIfInBounds_toArray, List.set_cons_zero, List.set_cons_succ, i64_w, i32_w]
      rfl
     refine pure_ (i := 14) (N := some 33) (v := ?_) (a' := ?_) (bm 20 32767) rfl rfl (any_of HT_.out (by kernel_rfl)) (fun _ _ _ h => h) (Or.inl ⟨by rfl, ?_⟩) ?_ ?_
     rotate_left
     ·
      intro w'
      go_simp
      with_reducible rfl
     rotate_left
     ·
      simp only [Act.put, List.setIfInBounds_toArray, List.set_cons_zero, List.set_cons_succ, i64_w, i32_w]
      rfl
     refine take_ (i := 15) (N := some 34) (v := ?_) (a' := ?_) (bm 20 65535) rfl rfl (take_ofW HT_.out HW_.out (by kernel_rfl)) (fun _ _ _ h => h) (Or.inl ⟨by rfl, ?_⟩) hHeld ?_ ?_
     rotate_left
     ·
      rintro w' ⟨s0, s1, s2, s3⟩
      go_simp
      with_reducible rfl
     rotate_left
     ·
      simp only [Act.put, List.setIfInBounds_toArray, List.set_cons_zero, List.set_cons_succ, i64_w, i32_w]
      rfl
     refine pure_ (i := 16) (N := some 35) (v := ?_) (a' := ?_) (bm 20 131071) rfl rfl (any_of HT_.out (by kernel_rfl)) (fun _ _ _ h => h) (Or.inl ⟨by rfl, ?_⟩) ?_ ?_
     rotate_left
     ·
      intro w'
      go_simp
      with_reducible rfl
     rotate_left
     ·
      simp only [Act.put, List.setIfInBounds_toArray, List.set_cons_zero, List.set_cons_succ, i64_w, i32_w]
      rfl
     refine last_ (i := 17) (N := some 36) #[true, true, true, true, true, true, true, true, true, true, true, true, true, true, true, true, true, true, false, false] rfl rfl (one_of HT_.out (by kernel_rfl)) (by decide) (fun K hK => ?_)
     refine value_ (w1 := ?_) (v := ?_) (by rfl) rfl ?_ ?_
     rotate_left 2
     ·
      go_simp
      constructor
      ·
       rfl
      ·
       rfl
     refine hK.out _ _ ?_
     clear hK K
     refine norm_ (a' := ?_) ?_ ?_
     rotate_left
     ·
      show Act.put _ (some 36) _ = _
      simp only [Act.put, List.setIfInBounds_toArray, List.set_cons_zero, List.set_cons_succ, i64_w, i32_w]
      rfl
     refine last_ (i := 18) (N := some 37) #[true, true, true, true, true, true, true, true, true, true, true, true, true, true, true, true, true, true, true, false] rfl rfl (one_of HT_.out (by kernel_rfl)) (by decide) (fun K hK => ?_)
     refine Kd.R_append_step (Kd.int .i64) (w0 := w) w.heap.size (by rfl) (.tmp 19) (.tmp 36) 24 3 (.int .i64 0) 8 rfl Tryz.underlying24 info3 rfl (by decide) (by omega) u5 x5_1 (wrap64 ((rd l0 (rd t281 (ji10))) - (rd l0 (rd t281 x6_1)))) [.int .i64 (wrap64 ((rd l0 (rd t281 (ji10))) - (rd l0 (rd t281 x6_1))))] (fun k_ => some k_ ≠ (.slice (some ad287) t281.length co19 : Value).ownBlock) (fun _ => False) rfl rfl ?aP (fun _ hk => hk.elim) ?aF ?aO ?aB ?aS ?aL ?_
     (case aP => exact rfl)
     (case aB => exact (bE HB.out))
     (case aF => exact (fun k_ hk => Kd.fresh' (Kd.R_lt (rQ HO_4.out)) k_ hk))
     (case aO => exact (rQ HO_5.out))
     (case aS => exact (bZ HB.out))
     (case aL => have := LMc18.out; omega)
     intro v292 w21 ho hb hg hat
     rw [← Ny291.out] at ho
     have n0_ := aM (Kd.R_after (ok := (fun _ => True)) (by (with_reducible repeat (first | apply Kd.R_alloc | apply Kd.R_drewN | apply Kd.R_drew)); exact Kd.R_mono HO_4.out (fun _ hk => ⟨trivial, hk⟩)) hg hat)
     have n1_ := aM (hb)
     have n2_ := aM (ho)
     clear HO_4
     clear HB
     clear HO_5
     have HO_4 := n0_
     have HB := n1_
     have HO293 := n2_
     clear n0_ n1_ n2_
     clear ho hb hg hat
     refine hK.out _ _ ?_
     clear hK K
     refine norm_ (a' := ?_) ?_ ?_
     rotate_left
     ·
      show Act.put _ (some 37) _ = _
      simp only [Act.put, List.setIfInBounds_toArray, List.set_cons_zero, List.set_cons_succ, i64_w, i32_w]
      rfl
     refine pure_ (i := 19) (N := some 5) (v := ?_) (a' := ?_) (bm 20 1048575) rfl rfl (any_of HT_.out (by kernel_rfl)) (fun _ _ _ h => h) (Or.inl ⟨by rfl, ?_⟩) ?_ ?_
     rotate_left
     ·
      intro w'
      go_simp
      with_reducible rfl
     rotate_left
     ·
      simp only [Act.put, List.setIfInBounds_toArray, List.set_cons_zero, List.set_cons_succ, i64_w, i32_w]
      rfl
     refine done_ (done_of HT_.out (by kernel_rfl)) ?_
     try go_wp2
     go_roundg k1
     case measure => have := HK1.out; omega
     case rel => exact ⟨(y291), (wrap64 (x6_1 + 1)), eqQ, H', ⟨by have := HK1.out; omega⟩, ⟨by (with_reducible repeat (first | apply Kd.R_alloc | apply Kd.R_drewN | apply Kd.R_drew)); exact Kd.R_mono HO_4.out (fun _ hk => hk.2)⟩, ⟨rQ HO293.out⟩, ⟨bE HB.out⟩⟩
    ·
     rw [if_neg c9] at H
     have c9b0 : decide (x6_1 < (t281.length : Int)) = false := decide_eq_false c9
     clear c9
     simp only [Option.some.injEq, Prod.mk.injEq] at H
     obtain ⟨rfl, rfl⟩ := H
     obtain ⟨Ao22, co22, eo22⟩ := Kd.R_slice HO_4.out
     subst eo22
     go_wp2
     go_ret2
     exact ⟨_, erQ, by (with_reducible repeat (first | apply Kd.R_alloc | apply Kd.R_drewN | apply Kd.R_drew)); exact Kd.R_mono HO_5.out (fun _ hk => trivial), bE HB.out⟩
 ·
  replace c3 := Bool.eq_false_iff.mpr c3
  subst c3
  have H1 : (some (([] : List Int), false)) = some (r1, r2) := by rw [if_neg (show ¬ (false = true) by decide)] at H; exact H
  clear H
  have H := H1
  clear H1
  simp only [Option.some.injEq, Prod.mk.injEq] at H
  obtain ⟨rfl, rfl⟩ := H
  go_enter Tryz.func12, Tryz.ntmps12
  go_wp2_with (first | ((with_reducible refine gate_callee (f := 47) rfl ?_); refine gL 8 Tryz.func47 #[.slice A0 l0.length c0] rfl rfl rfl rfl ?_; (with_reducible refine (impl_AreAges.calls _ _ l0 false _ ?side1 ?side2 A2.out).mono ?_); (case side1 => exact cQ HR0.out); (case side2 => exact HC0.out); rintro e w23 ⟨rfl, hb⟩; refine ⟨_, rfl, ?_⟩; replace HB := aM (bS HB.out hb); (try clear hb)))
  go_ret2
  exact ⟨_, erQ, by first | exact Kd.R_nil _ _ _ _ _ | exact Kd.N_nil _ _ _ _ _ | exact Kd.V_nil _ _ _ _ _ | exact Kd.Q_nil _ _ _ _ _ | exact Kd.S_nil _ _ _ _ _, bE HB.out⟩

end Go.Proofs.YtcfgkpifloghlaaGreatDoor.P
