-- Written by drive.py (wip/ of this repository) over the kit's print: functions, contracts, rows. Lean checks it. -- SQUEEZED
import Derived.Test.YtcfgkpifloghlaaGreatDoorP16
namespace Go.Proofs.YtcfgkpifloghlaaGreatDoor.P
open Go.RowKit Go.Proofs.YtcfgkpifloghlaaGreatDoorW.PrintWords Go.Proofs.YtcfgkpifloghlaaGreatDoorW.PrintLast Go.Proofs.YtcfgkpifloghlaaGreatDoorW.PrintMore
attribute [local go_sem] max2_int min2_int max_two min_two max_three min_three max_four min_four undef_guard   -- for this text's walks alone
set_option linter.unusedVariables false
set_option maxHeartbeats 800000000
set_option maxRecDepth 100000
set_option linter.unusedSimpArgs false

theorem laws_FnAgesCompared.tj11 (HT_j12 : laws_FnAgesCompared.Tj12) : laws_FnAgesCompared.Tj11 := by
 intro kq A0 c0 l0 A1 c1 l1 r w wc t678 t679 t682 t683 t694 t698 t699 t706 t707 t708 kj246 Ao259 Ao253 co259 co253 v700 v709 F c_ hc_ HR0 HC0 HR1 HC1 HT HA HJ283 HO_63 HO_73 HO_75 HO_80 HB hF e_63 e_64 e_65 e_66 e_73 e_75 e_76 e_79 e_80 e_81
 obtain ⟨s, rfl⟩ := laws_FnAgesCompared.frm_of hF
 replace e_63 := Option.some.inj (show some (s 63) = _ from e_63)
 replace e_64 := Option.some.inj (show some (s 64) = _ from e_64)
 replace e_65 := Option.some.inj (show some (s 65) = _ from e_65)
 replace e_66 := Option.some.inj (show some (s 66) = _ from e_66)
 replace e_73 := Option.some.inj (show some (s 73) = _ from e_73)
 replace e_75 := Option.some.inj (show some (s 75) = _ from e_75)
 replace e_76 := Option.some.inj (show some (s 76) = _ from e_76)
 replace e_79 := Option.some.inj (show some (s 79) = _ from e_79)
 replace e_80 := Option.some.inj (show some (s 80) = _ from e_80)
 replace e_81 := Option.some.inj (show some (s 81) = _ from e_81)
 unfold laws_FnAgesCompared.frm
 rw [e_63, e_64, e_65, e_66, e_73, e_75, e_76, e_79, e_80, e_81]
 clear hF e_63 e_64 e_65 e_66 e_73 e_75 e_76 e_79 e_80 e_81
 obtain rfl := Option.some.inj ((show some _ = some c_ from hc_))
 cases kq with
 | zero => exact absurd HA.out (by simp [laws_FnAgesCompared.j11])
 | succ kj283 =>
  have H := HA.out
  clear HA
  simp only [laws_FnAgesCompared.j11] at H
  have HC296 := aM H
  clear H
  go_upto_if 775 with (fail)
  repeat (go_quiet (fail); go_upto_if 775 with (fail))
  go_cut [] from 9999 (fun wc => ∃ (kq : Nat), Aside0 (laws_FnAgesCompared.j12 kq t694 t698 t699 t706 t707 t708 = some r) ∧ Aside0 (kq ≤ kj283) ∧ Aside0 (Kd.R (Kd.int .i64) 3 wc w.heap.size (fun k_ => some k_ ≠ (v700 : Value).ownBlock ∧ some k_ ≠ (v709 : Value).ownBlock) (.slice Ao259 t694.length co259) t694) ∧ Aside0 (Kd.R (Kd.int .i64) 3 wc w.heap.size (fun k_ => some k_ ≠ ((.slice Ao259 t694.length co259) : Value).ownBlock ∧ some k_ ≠ (v709 : Value).ownBlock) v700 t698) ∧ Aside0 (Kd.R (Kd.int .i64) 3 wc w.heap.size (fun k_ => some k_ ≠ ((.slice Ao259 t694.length co259) : Value).ownBlock ∧ some k_ ≠ (v700 : Value).ownBlock) v709 t707) ∧ Aside0 (Below w.heap.size w wc))
  case first =>
   have H := HC296.out
   clear HC296
   by_cases c297 : t683 = true
   ·
    subst c297
    replace H := (if_pos rfl).symm.trans H
    replace H := oB H
    obtain ⟨⟨t725, t726⟩, A2980, H⟩ := H
    (try dsimp only at H)
    have A298 := aM A2980
    clear A2980
    by_cases c299 : t726 = true
    case neg =>
     replace c299 := Bool.eq_false_iff.mpr c299
     subst c299
     have H1 : (none) = some r := by rw [if_neg (show ¬ (false = true) by decide)] at H; exact H
     clear H
     have H := H1
     clear H1
     exact nS H
    subst c299
    replace H := (if_pos rfl).symm.trans H
    by_cases c300 : 0 ≤ t679
    case neg =>
     rw [if_neg c300] at H
     exact nS H
    rw [if_pos c300] at H
    have c300b0 : decide (0 ≤ t679) = true := decide_eq_true c300
    clear c300
    (first | rw [c300b0] | (simp only [i64_w, i32_w]; rw [c300b0]) | skip)
    by_cases c301 : t679 < (t725.length : Int)
    case neg =>
     rw [if_neg c301] at H
     exact nS H
    rw [if_pos c301] at H
    have c301b0 : decide (t679 < (t725.length : Int)) = true := decide_eq_true c301
    clear c301
    replace H := oB H
    obtain ⟨t730, A3020, H⟩ := H
    (try dsimp only at H)
    have A302 := aM A3020
    clear A3020
    by_cases c303 : (wrap64 (2 * (rd t725 t679))) = t730
    case neg =>
     rw [if_neg c303] at H
     exact nS H
    rw [if_pos c303] at H
    have c303b0 : ((wrap64 (2 * (rd t725 t679))) == t730) = true := beq_iff_eq.mpr c303
    have c303q0 : ((IntKind.i64.wrap (2 * (rd t725 t679))) == t730) = true := by simp only [i64_w]; exact c303b0
    have c303b1 : ((wrap64 (2 * (rd t725 t679))) != t730) = false := bne_eq_false_iff_eq.mpr c303
    clear c303
    have H' := aM H
    clear H
    go_wp2_with (first | (go_at_call 22; (with_reducible refine (impl_AgesIn.calls kj283 _ _ t678 t682 t725 true _ ?side1 ?side2 A298.out).mono ?_); (case side1 => exact cQ ((Kd.R_reads' HO_63.out).2.2)); (case side2 => exact (Kd.R_reads' HO_63.out).2.1); rintro e w304 ⟨v727, rfl, ho0, hb⟩; have HO728 := aM (Kd.R_lower (Kd.R_new' (Kd.R_new' (Kd.R_new' (Kd.R_new' ho0 (Kd.R_lt (rQ HO_63.out))) (Kd.R_lt (rQ HO_73.out))) (Kd.R_lt (rQ HO_75.out))) (Kd.R_lt (rQ HO_80.out))) (bZ HB.out)); replace HO_63 := aM (Kd.R_elder' (rQ HO_63.out) (Kd.R_base ho0) hb); replace HO_73 := aM (Kd.R_elder' (rQ HO_73.out) (Kd.R_base ho0) hb); replace HO_75 := aM (Kd.R_elder' (rQ HO_75.out) (Kd.R_base ho0) hb); replace HO_80 := aM (Kd.R_elder' (rQ HO_80.out) (Kd.R_base ho0) hb); replace HB := aM (bS HB.out hb); (try clear hb ho0); obtain ⟨Ao305, co305, eo305⟩ := Kd.R_slice HO728.out; subst eo305; have p729 : 0 ≤ (t679 : Int) := dA; have q729 : t679 < (t725.length : Int) := dA; obtain ⟨ad729, e729, hx729_0⟩ := Kd.at_int (Kd.R_reads' HO728.out).2.2 t679 p729 q729; cases e729; replace p729 := eq_true p729; replace q729 := eq_true q729) | (go_at_call 27; (with_reducible refine (laws_gSum.calls kj283 _ _ t725 t730 _ ?side1 ?side2 A302.out).mono ?_); (case side1 => exact cQ ((Kd.R_reads' HO728.out).2.2)); (case side2 => exact (Kd.R_reads' HO728.out).2.1); rintro e w' ⟨rfl, ⟨nd, rfl⟩⟩; (try first | exact q1 | exact q2)))
    repeat (go_quiet (first | (go_at_call 22; (with_reducible refine (impl_AgesIn.calls kj283 _ _ t678 t682 t725 true _ ?side1 ?side2 A298.out).mono ?_); (case side1 => exact cQ ((Kd.R_reads' HO_63.out).2.2)); (case side2 => exact (Kd.R_reads' HO_63.out).2.1); rintro e w304 ⟨v727, rfl, ho0, hb⟩; have HO728 := aM (Kd.R_lower (Kd.R_new' (Kd.R_new' (Kd.R_new' (Kd.R_new' ho0 (Kd.R_lt (rQ HO_63.out))) (Kd.R_lt (rQ HO_73.out))) (Kd.R_lt (rQ HO_75.out))) (Kd.R_lt (rQ HO_80.out))) (bZ HB.out)); replace HO_63 := aM (Kd.R_elder' (rQ HO_63.out) (Kd.R_base ho0) hb); replace HO_73 := aM (Kd.R_elder' (rQ HO_73.out) (Kd.R_base ho0) hb); replace HO_75 := aM (Kd.R_elder' (rQ HO_75.out) (Kd.R_base ho0) hb); replace HO_80 := aM (Kd.R_elder' (rQ HO_80.out) (Kd.R_base ho0) hb); replace HB := aM (bS HB.out hb); (try clear hb ho0); obtain ⟨Ao305, co305, eo305⟩ := Kd.R_slice HO728.out; subst eo305; have p729 : 0 ≤ (t679 : Int) := dA; have q729 : t679 < (t725.length : Int) := dA; obtain ⟨ad729, e729, hx729_0⟩ := Kd.at_int (Kd.R_reads' HO728.out).2.2 t679 p729 q729; cases e729; replace p729 := eq_true p729; replace q729 := eq_true q729) | (go_at_call 27; (with_reducible refine (laws_gSum.calls kj283 _ _ t725 t730 _ ?side1 ?side2 A302.out).mono ?_); (case side1 => exact cQ ((Kd.R_reads' HO728.out).2.2)); (case side2 => exact (Kd.R_reads' HO728.out).2.1); rintro e w' ⟨rfl, ⟨nd, rfl⟩⟩; (try first | exact q1 | exact q2))); try go_wp2_with (first | (go_at_call 22; (with_reducible refine (impl_AgesIn.calls kj283 _ _ t678 t682 t725 true _ ?side1 ?side2 A298.out).mono ?_); (case side1 => exact cQ ((Kd.R_reads' HO_63.out).2.2)); (case side2 => exact (Kd.R_reads' HO_63.out).2.1); rintro e w304 ⟨v727, rfl, ho0, hb⟩; have HO728 := aM (Kd.R_lower (Kd.R_new' (Kd.R_new' (Kd.R_new' (Kd.R_new' ho0 (Kd.R_lt (rQ HO_63.out))) (Kd.R_lt (rQ HO_73.out))) (Kd.R_lt (rQ HO_75.out))) (Kd.R_lt (rQ HO_80.out))) (bZ HB.out)); replace HO_63 := aM (Kd.R_elder' (rQ HO_63.out) (Kd.R_base ho0) hb); replace HO_73 := aM (Kd.R_elder' (rQ HO_73.out) (Kd.R_base ho0) hb); replace HO_75 := aM (Kd.R_elder' (rQ HO_75.out) (Kd.R_base ho0) hb); replace HO_80 := aM (Kd.R_elder' (rQ HO_80.out) (Kd.R_base ho0) hb); replace HB := aM (bS HB.out hb); (try clear hb ho0); obtain ⟨Ao305, co305, eo305⟩ := Kd.R_slice HO728.out; subst eo305; have p729 : 0 ≤ (t679 : Int) := dA; have q729 : t679 < (t725.length : Int) := dA; obtain ⟨ad729, e729, hx729_0⟩ := Kd.at_int (Kd.R_reads' HO728.out).2.2 t679 p729 q729; cases e729; replace p729 := eq_true p729; replace q729 := eq_true q729) | (go_at_call 27; (with_reducible refine (laws_gSum.calls kj283 _ _ t725 t730 _ ?side1 ?side2 A302.out).mono ?_); (case side1 => exact cQ ((Kd.R_reads' HO728.out).2.2)); (case side2 => exact (Kd.R_reads' HO728.out).2.1); rintro e w' ⟨rfl, ⟨nd, rfl⟩⟩; (try first | exact q1 | exact q2))))
    go_meet
    case rel => exact ⟨_, H', ⟨by have := HJ283.out; first | omega | exact Nat.le_refl _⟩, ⟨by (with_reducible repeat (first | apply Kd.R_alloc | apply Kd.R_drewN | apply Kd.R_drew)); exact Kd.R_mono HO_73.out (fun _ hk => ⟨hk.1.2.1, hk.1.2.2⟩)⟩, ⟨by (with_reducible repeat (first | apply Kd.R_alloc | apply Kd.R_drewN | apply Kd.R_drew)); exact Kd.R_mono HO_75.out (fun _ hk => ⟨hk.1.2.1, hk.1.2.2⟩)⟩, ⟨by (with_reducible repeat (first | apply Kd.R_alloc | apply Kd.R_drewN | apply Kd.R_drew)); exact Kd.R_mono HO_80.out (fun _ hk => ⟨hk.1.2.1, hk.1.2.2⟩)⟩, ⟨bE HB.out⟩⟩
   ·
    replace c297 := Bool.eq_false_iff.mpr c297
    subst c297
    have H1 : (laws_FnAgesCompared.j12 kj283 t694 t698 t699 t706 t707 t708) = some r := by rw [if_neg (show ¬ (false = true) by decide)] at H; exact H
    clear H
    have H := H1
    clear H1
    have H' := aM H
    clear H
    go_wp2
    repeat (go_quiet (fail); try go_wp2)
    go_meet
    case rel => exact ⟨_, H', ⟨by have := HJ283.out; first | omega | exact Nat.le_refl _⟩, ⟨by (with_reducible repeat (first | apply Kd.R_alloc | apply Kd.R_drewN | apply Kd.R_drew)); exact Kd.R_mono HO_73.out (fun _ hk => ⟨hk.2.1, hk.2.2⟩)⟩, ⟨by (with_reducible repeat (first | apply Kd.R_alloc | apply Kd.R_drewN | apply Kd.R_drew)); exact Kd.R_mono HO_75.out (fun _ hk => ⟨hk.2.1, hk.2.2⟩)⟩, ⟨by (with_reducible repeat (first | apply Kd.R_alloc | apply Kd.R_drewN | apply Kd.R_drew)); exact Kd.R_mono HO_80.out (fun _ hk => ⟨hk.2.1, hk.2.2⟩)⟩, ⟨bE HB.out⟩⟩
  case rest =>
   clear HC296
   obtain ⟨kq, HA, HJ295, HO_73, HO_75, HO_80, HB⟩ := hcut
   go_step
   exact HT_j12 kq A0 c0 l0 A1 c1 l1 r w wc t694 t698 t699 t706 t707 t708 kj283 Ao259 co259 v700 v709 _ _ (by kernel_rfl) HR0 HC0 HR1 HC1 HT HA HJ295 HO_73 HO_75 HO_80 HB (by kernel_rfl) rfl rfl rfl rfl rfl rfl
end Go.Proofs.YtcfgkpifloghlaaGreatDoor.P
