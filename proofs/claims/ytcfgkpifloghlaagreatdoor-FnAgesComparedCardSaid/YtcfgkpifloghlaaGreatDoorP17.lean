-- Written by drive.py (wip/ of this repository) over the kit's print: functions, contracts, rows. Lean checks it. -- SQUEEZED
import Derived.Test.YtcfgkpifloghlaaGreatDoorP16
namespace Go.Proofs.YtcfgkpifloghlaaGreatDoor.P
open Go.RowKit Go.Proofs.YtcfgkpifloghlaaGreatDoorW.PrintWords Go.Proofs.YtcfgkpifloghlaaGreatDoorW.PrintLast Go.Proofs.YtcfgkpifloghlaaGreatDoorW.PrintMore
attribute [local go_sem] max2_int min2_int max_two min_two max_three min_three max_four min_four undef_guard   -- for this text's walks alone
set_option linter.unusedVariables false
set_option maxHeartbeats 800000000
set_option maxRecDepth 100000
set_option linter.unusedSimpArgs false

theorem laws_FnAgesCompared.tj12 : laws_FnAgesCompared.Tj12 := by
 intro kq A0 c0 l0 A1 c1 l1 r w wc t694 t698 t699 t706 t707 t708 kj283 Ao259 co259 v700 v709 F c_ hc_ HR0 HC0 HR1 HC1 HT HA HJ295 HO_73 HO_75 HO_80 HB hF e_73 e_75 e_76 e_79 e_80 e_81
 obtain ⟨s, rfl⟩ := laws_FnAgesCompared.frm_of hF
 replace e_73 := Option.some.inj (show some (s 73) = _ from e_73)
 replace e_75 := Option.some.inj (show some (s 75) = _ from e_75)
 replace e_76 := Option.some.inj (show some (s 76) = _ from e_76)
 replace e_79 := Option.some.inj (show some (s 79) = _ from e_79)
 replace e_80 := Option.some.inj (show some (s 80) = _ from e_80)
 replace e_81 := Option.some.inj (show some (s 81) = _ from e_81)
 unfold laws_FnAgesCompared.frm
 rw [e_73, e_75, e_76, e_79, e_80, e_81]
 clear hF e_73 e_75 e_76 e_79 e_80 e_81
 obtain rfl := Option.some.inj ((show some _ = some c_ from hc_))
 cases kq with
 | zero => exact absurd HA.out (by simp [laws_FnAgesCompared.j12])
 | succ kj295 =>
  have H := HA.out
  clear HA
  simp only [laws_FnAgesCompared.j12] at H
  by_cases c306 : t699 = true
  ·
   subst c306
   replace H := (if_pos rfl).symm.trans H
   replace H := oB H
   obtain ⟨⟨t731, t732⟩, A3070, H⟩ := H
   (try dsimp only at H)
   have A307 := aM A3070
   clear A3070
   have HC308 := aM H
   clear H
   obtain ⟨Ao309, co309, eo309⟩ := Kd.R_slice HO_75.out
   subst eo309
   go_upto_region 86 with (first | (go_at_call 34; (with_reducible refine (impl_DropAge.calls _ _ t698 (t694.length : Int) t731 t732 _ ?side1 ?side2 A307.out).mono ?_); (case side1 => exact cQ ((Kd.R_reads' HO_75.out).2.2)); (case side2 => exact (Kd.R_reads' HO_75.out).2.1); rintro e w310 ⟨v733, rfl, ho0, hb⟩; have HO734 := aM (Kd.R_lower (Kd.R_new' (Kd.R_new' (Kd.R_new' ho0 (Kd.R_lt (rQ HO_73.out))) (Kd.R_lt (rQ HO_75.out))) (Kd.R_lt (rQ HO_80.out))) (bZ HB.out)); replace HO_73 := aM (Kd.R_elder' (rQ HO_73.out) (Kd.R_base ho0) hb); replace HO_75 := aM (Kd.R_elder' (rQ HO_75.out) (Kd.R_base ho0) hb); replace HO_80 := aM (Kd.R_elder' (rQ HO_80.out) (Kd.R_base ho0) hb); replace HB := aM (bS HB.out hb); (try clear hb ho0)))
   repeat (go_quiet (fail); try go_wp2)
   (try simp only [Act.put, List.setIfInBounds_toArray, List.set_cons_zero, List.set_cons_succ])
   go_cut [809] from 9999 (fun v809_s wc => ∃ (kq : Nat) (x809_307 : Bool), v809_s = .bool x809_307 ∧ Aside0 (laws_FnAgesCompared.j13 kq t706 t707 t708 x809_307 = some r) ∧ Aside0 (kq ≤ kj295) ∧ Aside0 (Kd.R (Kd.int .i64) 3 wc w.heap.size (fun _ => True) v709 t707) ∧ Aside0 (Below w.heap.size w wc))
   case first =>
    have H := HC308.out
    clear HC308
    by_cases c311 : t732 = true
    case neg =>
     replace c311 := Bool.eq_false_iff.mpr c311
     subst c311
     have H1 : (none) = some r := by rw [if_neg (show ¬ (false = true) by decide)] at H; exact H
     clear H
     have H := H1
     clear H1
     exact nS H
    subst c311
    replace H := (if_pos rfl).symm.trans H
    replace H := oB H
    obtain ⟨t735, A3120, H⟩ := H
    (try dsimp only at H)
    have A312 := aM A3120
    clear A3120
    have H' := aM H
    clear H
    obtain ⟨Ao313, co313, eo313⟩ := Kd.R_slice HO734.out
    subst eo313
    go_wp2_with (first | (go_at_call 21; (with_reducible refine (laws_gSame.calls kj295 _ _ t731 _ _ t694 t735 _ ?side1 ?side2 ?side3 ?side4 A312.out).mono ?_); (case side1 => exact cQ ((Kd.R_reads' HO734.out).2.2)); (case side2 => exact (Kd.R_reads' HO734.out).2.1); (case side3 => exact cQ ((Kd.R_reads' HO_73.out).2.2)); (case side4 => exact (Kd.R_reads' HO_73.out).2.1); rintro e w' ⟨rfl, ⟨nd, rfl⟩⟩; (try first | exact q1 | exact q2)))
    repeat (go_quiet (fail); try go_wp2)
    go_meet
    case rel => exact ⟨_, (!t735), eqQ, H', ⟨by have := HJ295.out; first | omega | exact Nat.le_refl _⟩, ⟨by (with_reducible repeat (first | apply Kd.R_alloc | apply Kd.R_drewN | apply Kd.R_drew)); exact Kd.R_mono HO_80.out (fun _ hk => trivial)⟩, ⟨bE HB.out⟩⟩
   case rest =>
    clear HC308
    (try clear c306)
    obtain ⟨kq, x809_307, rfl, HA, HJ307, HO_80, HB⟩ := hcut
    cases kq with
    | zero => exact absurd HA.out (by simp [laws_FnAgesCompared.j13])
    | succ kj307 =>
     have H := HA.out
     clear HA
     simp only [laws_FnAgesCompared.j13] at H
     by_cases c314 : x809_307 = true
     case pos =>
      subst c314
      replace H := (if_pos rfl).symm.trans H
      exact nS H
     replace c314 := Bool.eq_false_iff.mpr c314
     subst c314
     have H1 : (if t708 = true then ((impl_AgesText.f kj307 t707).bind fun bt736 => (if bt736.2 = true then (some (bt736.1.toList == t706.toList)) else (none))) else (some true)) = some r := by rw [if_neg (show ¬ (false = true) by decide)] at H; exact H
     clear H
     have H := H1
     clear H1
     by_cases c315 : t708 = true
     ·
      subst c315
      replace H := (if_pos rfl).symm.trans H
      replace H := oB H
      obtain ⟨⟨t736, t737⟩, A3160, H⟩ := H
      (try dsimp only at H)
      have A316 := aM A3160
      clear A3160
      by_cases c317 : t737 = true
      case neg =>
       replace c317 := Bool.eq_false_iff.mpr c317
       subst c317
       have H1 : (none) = some r := by rw [if_neg (show ¬ (false = true) by decide)] at H; exact H
       clear H
       have H := H1
       clear H1
       exact nS H
      subst c317
      replace H := (if_pos rfl).symm.trans H
      obtain rfl := Option.some.inj H
      obtain ⟨Ao318, co318, eo318⟩ := Kd.R_slice HO_80.out
      subst eo318
      go_wp2_with (first | (go_at_call 16; (with_reducible refine (impl_AgesText.calls kj307 _ _ t707 t736 true _ ?side1 ?side2 (tabs12_at HT.out (by repeat (first | (with_reducible first | exact HB.out | apply below_alloc | apply pw_below_drewN | apply below_drew1 | exact Below.refl _ _) | exact HB.out))) A316.out).mono ?_); (case side1 => exact cQ ((Kd.R_reads' HO_80.out).2.2)); (case side2 => exact (Kd.R_reads' HO_80.out).2.1); rintro e w319 ⟨rfl, hb⟩; replace HO_80 := aM (Kd.R_below (rQ HO_80.out) hb); replace HB := aM (bS HB.out hb); (try clear hb)))
      repeat (go_quiet (fail); try go_wp2)
      go_ret
      exact ⟨erQ, bE HB.out⟩
     ·
      replace c315 := Bool.eq_false_iff.mpr c315
      subst c315
      have H1 : (some true) = some r := by rw [if_neg (show ¬ (false = true) by decide)] at H; exact H
      clear H
      have H := H1
      clear H1
      obtain rfl := Option.some.inj H
      go_wp2
      repeat (go_quiet (fail); try go_wp2)
      go_ret
      exact ⟨erQ, bE HB.out⟩
  ·
   replace c306 := Bool.eq_false_iff.mpr c306
   subst c306
   have H1 : (if t708 = true then ((impl_AgesText.f kj295 t707).bind fun bt738 => (if bt738.2 = true then (some (bt738.1.toList == t706.toList)) else (none))) else (some true)) = some r := by rw [if_neg (show ¬ (false = true) by decide)] at H; exact H
   clear H
   have H := H1
   clear H1
   by_cases c320 : t708 = true
   ·
    subst c320
    replace H := (if_pos rfl).symm.trans H
    replace H := oB H
    obtain ⟨⟨t738, t739⟩, A3210, H⟩ := H
    (try dsimp only at H)
    have A321 := aM A3210
    clear A3210
    by_cases c322 : t739 = true
    case neg =>
     replace c322 := Bool.eq_false_iff.mpr c322
     subst c322
     have H1 : (none) = some r := by rw [if_neg (show ¬ (false = true) by decide)] at H; exact H
     clear H
     have H := H1
     clear H1
     exact nS H
    subst c322
    replace H := (if_pos rfl).symm.trans H
    obtain rfl := Option.some.inj H
    obtain ⟨Ao323, co323, eo323⟩ := Kd.R_slice HO_80.out
    subst eo323
    go_wp2_with (first | (go_at_call 16; (with_reducible refine (impl_AgesText.calls kj295 _ _ t707 t738 true _ ?side1 ?side2 (tabs12_at HT.out (by repeat (first | (with_reducible first | exact HB.out | apply below_alloc | apply pw_below_drewN | apply below_drew1 | exact Below.refl _ _) | exact HB.out))) A321.out).mono ?_); (case side1 => exact cQ ((Kd.R_reads' HO_80.out).2.2)); (case side2 => exact (Kd.R_reads' HO_80.out).2.1); rintro e w324 ⟨rfl, hb⟩; replace HO_73 := aM (Kd.R_below (rQ HO_73.out) hb); replace HO_75 := aM (Kd.R_below (rQ HO_75.out) hb); replace HO_80 := aM (Kd.R_below (rQ HO_80.out) hb); replace HB := aM (bS HB.out hb); (try clear hb)))
    repeat (go_quiet (fail); try go_wp2)
    go_ret
    exact ⟨erQ, bE HB.out⟩
   ·
    replace c320 := Bool.eq_false_iff.mpr c320
    subst c320
    have H1 : (some true) = some r := by rw [if_neg (show ¬ (false = true) by decide)] at H; exact H
    clear H
    have H := H1
    clear H1
    obtain rfl := Option.some.inj H
    go_wp2
    repeat (go_quiet (fail); try go_wp2)
    go_ret
    exact ⟨erQ, bE HB.out⟩
end Go.Proofs.YtcfgkpifloghlaaGreatDoor.P
