-- Written by drive.py (wip/ of this repository) over the kit's print: functions, contracts, rows. Lean checks it. -- SQUEEZED
import Derived.Test.YtcfgkpifloghlaaGreatDoorP16
namespace Go.Proofs.YtcfgkpifloghlaaGreatDoor.P
open Go.RowKit Go.Proofs.YtcfgkpifloghlaaGreatDoorW.PrintWords Go.Proofs.YtcfgkpifloghlaaGreatDoorW.PrintLast Go.Proofs.YtcfgkpifloghlaaGreatDoorW.PrintMore
attribute [local go_sem] max2_int min2_int max_two min_two max_three min_three max_four min_four undef_guard   -- for this text's walks alone
set_option linter.unusedVariables false
set_option maxHeartbeats 800000000
set_option maxRecDepth 100000
set_option linter.unusedSimpArgs false

theorem laws_FnAgesCompared.tj2 (HT_j9 : laws_FnAgesCompared.Tj9) : laws_FnAgesCompared.Tj2 := by
 intro kq A0 c0 l0 A1 c1 l1 r w wc t537 t538 t539 t550 t551 t552 t556 t557 t564 t572 t580 t584 t585 kj19 Ao22 co22 v558 v566 v574 F c_ hc_ HR0 HC0 HR1 HC1 HT HA HJ95 HO_5 HO_18 HO_22 HO_26 HB hF e_1 e_5 e_6 e_7 e_12 e_13 e_14 e_18 e_19 e_22 e_26 e_30 e_34 e_35
 obtain ⟨s, rfl⟩ := laws_FnAgesCompared.frm_of hF
 replace e_1 := Option.some.inj (show some (s 1) = _ from e_1)
 replace e_5 := Option.some.inj (show some (s 5) = _ from e_5)
 replace e_6 := Option.some.inj (show some (s 6) = _ from e_6)
 replace e_7 := Option.some.inj (show some (s 7) = _ from e_7)
 replace e_12 := Option.some.inj (show some (s 12) = _ from e_12)
 replace e_13 := Option.some.inj (show some (s 13) = _ from e_13)
 replace e_14 := Option.some.inj (show some (s 14) = _ from e_14)
 replace e_18 := Option.some.inj (show some (s 18) = _ from e_18)
 replace e_19 := Option.some.inj (show some (s 19) = _ from e_19)
 replace e_22 := Option.some.inj (show some (s 22) = _ from e_22)
 replace e_26 := Option.some.inj (show some (s 26) = _ from e_26)
 replace e_30 := Option.some.inj (show some (s 30) = _ from e_30)
 replace e_34 := Option.some.inj (show some (s 34) = _ from e_34)
 replace e_35 := Option.some.inj (show some (s 35) = _ from e_35)
 unfold laws_FnAgesCompared.frm
 rw [e_1, e_5, e_6, e_7, e_12, e_13, e_14, e_18, e_19, e_22, e_26, e_30, e_34, e_35]
 clear hF e_1 e_5 e_6 e_7 e_12 e_13 e_14 e_18 e_19 e_22 e_26 e_30 e_34 e_35
 obtain rfl := Option.some.inj ((show some _ = some c_ from hc_))
 cases kq with
 | zero => exact absurd HA.out (by simp [laws_FnAgesCompared.j2])
 | succ kj95 =>
  have H := HA.out
  clear HA
  simp only [laws_FnAgesCompared.j2] at H
  have HC149 := aM H
  clear H
  go_upto_region 33 with (fail)
  repeat (go_quiet (fail); go_upto_region 33 with (fail))
  go_cut [422] from 9999 (fun v422_s wc => ∃ (kq : Nat) (x422_148 : Bool), v422_s = .bool x422_148 ∧ Aside0 (laws_FnAgesCompared.j3 kq l1 t537 t556 t557 t564 t572 t580 t584 t585 x422_148 = some r) ∧ Aside0 (kq ≤ kj95) ∧ Aside0 (Kd.R (Kd.int .i64) 3 wc w.heap.size (fun k_ => some k_ ≠ (v558 : Value).ownBlock ∧ some k_ ≠ (v566 : Value).ownBlock) (.slice Ao22 t537.length co22) t537) ∧ Aside0 (Kd.R (Kd.int .i64) 3 wc w.heap.size (fun k_ => some k_ ≠ ((.slice Ao22 t537.length co22) : Value).ownBlock ∧ some k_ ≠ (v566 : Value).ownBlock) v558 t556) ∧ Aside0 (Kd.R (Kd.int .i64) 3 wc w.heap.size (fun k_ => some k_ ≠ ((.slice Ao22 t537.length co22) : Value).ownBlock ∧ some k_ ≠ (v558 : Value).ownBlock) v566 t564) ∧ Aside0 (Kd.S (Kd.slice 3 (Kd.int .i64)) 24 wc w.heap.size (fun k_ => some k_ ≠ ((.slice Ao22 t537.length co22) : Value).ownBlock ∧ some k_ ≠ (v558 : Value).ownBlock ∧ some k_ ≠ (v566 : Value).ownBlock) v574 t572) ∧ Aside0 (Below w.heap.size w wc))
  case first =>
   as_aux_lemma =>
    have H := HC149.out
    clear HC149
    by_cases c150 : t552 = true
    ·
     subst c150
     replace H := (if_pos rfl).symm.trans H
     replace H := oB H
     obtain ⟨t628, A1510, H⟩ := H
     (try dsimp only at H)
     have A151 := aM A1510
     clear A1510
     by_cases c152 : t628 = true
     case neg =>
      replace c152 := Bool.eq_false_iff.mpr c152
      subst c152
      have H1 : (none) = some r := by rw [if_neg (show ¬ (false = true) by decide)] at H; exact H
      clear H
      have H := H1
      clear H1
      exact nS H
     subst c152
     replace H := (if_pos rfl).symm.trans H
     by_cases c153 : 0 ≤ t539
     case neg =>
      rw [if_neg c153] at H
      exact nS H
     rw [if_pos c153] at H
     have c153b0 : decide (0 ≤ t539) = true := decide_eq_true c153
     clear c153
     (first | rw [c153b0] | (simp only [i64_w, i32_w]; rw [c153b0]) | skip)
     by_cases c154 : t539 < (t537.length : Int)
     case neg =>
      rw [if_neg c154] at H
      exact nS H
     rw [if_pos c154] at H
     have c154b0 : decide (t539 < (t537.length : Int)) = true := decide_eq_true c154
     clear c154
     by_cases c155 : 0 ≤ t538
     case neg =>
      rw [if_neg c155] at H
      exact nS H
     rw [if_pos c155] at H
     have c155b0 : decide (0 ≤ t538) = true := decide_eq_true c155
     clear c155
     by_cases c156 : t538 < (t537.length : Int)
     case neg =>
      rw [if_neg c156] at H
      exact nS H
     rw [if_pos c156] at H
     have c156b0 : decide (t538 < (t537.length : Int)) = true := decide_eq_true c156
     clear c156
     have H' := aM H
     clear H
     have p629 : 0 ≤ (t539 : Int) := dA
     have q629 : t539 < (t537.length : Int) := dA
     obtain ⟨ad629, e629, hx629_0⟩ := Kd.at_int (Kd.R_reads' HO_5.out).2.2 t539 p629 q629
     cases e629
     replace p629 := eq_true p629
     replace q629 := eq_true q629
     have p630 : 0 ≤ (t538 : Int) := dA
     have q630 : t538 < (t537.length : Int) := dA
     obtain ⟨ad630, e630, hx630_0⟩ := Kd.at_int (Kd.R_reads' HO_5.out).2.2 t538 p630 q630
     obtain rfl : ad629 = ad630 := (by injection e630)
     replace p630 := eq_true p630
     replace q630 := eq_true q630
     (repeat' (first | go_values | go_skip | go_guarded | go_step | go_upon | go_back))
     repeat (go_quiet (first | (go_at_call 24; (with_reducible refine (laws_gLow.calls kj95 t550 t551 true _ A151.out).mono ?_); rintro e w' ⟨rfl, ⟨nd, rfl⟩⟩; (try first | exact q1 | exact q2))); try (repeat' (first | go_values | go_skip | go_guarded | go_step | go_upon | go_back)))
     go_meet
     case rel => exact ⟨_, (((wrap64 (t550 * (rd t537 t539))) != (wrap64 ((rd t537 t538) * t551)))), eqQ, H', ⟨by have := HJ95.out; first | omega | exact Nat.le_refl _⟩, ⟨rQ HO_5.out⟩, ⟨rQ HO_18.out⟩, ⟨rQ HO_22.out⟩, ⟨sQ HO_26.out⟩, ⟨bE HB.out⟩⟩
    ·
     replace c150 := Bool.eq_false_iff.mpr c150
     subst c150
     have H1 : (laws_FnAgesCompared.j3 kj95 l1 t537 t556 t557 t564 t572 t580 t584 t585 false) = some r := by rw [if_neg (show ¬ (false = true) by decide)] at H; exact H
     clear H
     have H := H1
     clear H1
     have H' := aM H
     clear H
     go_wp2
     repeat (go_quiet (fail); try go_wp2)
     go_meet
     case rel => exact ⟨_, (false), eqQ, H', ⟨by have := HJ95.out; first | omega | exact Nat.le_refl _⟩, ⟨rQ HO_5.out⟩, ⟨rQ HO_18.out⟩, ⟨rQ HO_22.out⟩, ⟨sQ HO_26.out⟩, ⟨bE HB.out⟩⟩
  case rest =>
   as_aux_lemma =>
    clear HC149
    obtain ⟨kq, x422_148, rfl, HA, HJ148, HO_5, HO_18, HO_22, HO_26, HB⟩ := hcut
    cases kq with
    | zero => exact absurd HA.out (by simp [laws_FnAgesCompared.j3])
    | succ kj148 =>
     have H := HA.out
     clear HA
     simp only [laws_FnAgesCompared.j3] at H
     by_cases c157 : x422_148 = true
     case pos =>
      subst c157
      replace H := (if_pos rfl).symm.trans H
      exact nS H
     replace c157 := Bool.eq_false_iff.mpr c157
     subst c157
     have H1 : (if t557 = true then ((impl_ParseAges.f kj148 t580).bind fun bt631 => (if (t556.length : Int) = (t537.length : Int) then (if (t564.length : Int) = (wrap64 ((t537.length : Int) - 1)) then ((laws_gPairs.f kj148 t572).bind fun t635 => (if t635 = true then ((laws_gLow.f kj148 t584 t585).bind fun t636 => (if t636 = true then ((laws_gSum.f kj148 t537).bind fun t637 => (if (wrap64 (t584 * (t537.length : Int))) = (wrap64 (t637 * t585)) then (if bt631.2 = true then ((laws_gSame.f kj148 bt631.1 t537).bind fun t638 => (laws_FnAgesCompared.j4 kj148 l1 t537 t556 t564 t572 (!t638))) else (none)) else (none))) else (none))) else (none))) else (none)) else (none))) else (laws_FnAgesCompared.j9 kj148 l1)) = some r := by rw [if_neg (show ¬ (false = true) by decide)] at H; exact H
     clear H
     have H := H1
     clear H1
     have HC158 := aM H
     clear H
     go_upto_if 423 with (fail)
     repeat (go_quiet (fail); go_upto_if 423 with (fail))
     go_cut [] from 9999 (fun wc => ∃ (kq : Nat), Aside0 (laws_FnAgesCompared.j9 kq l1 = some r) ∧ Aside0 (kq ≤ kj148) ∧ Aside0 (Below w.heap.size w wc))
     case first =>
      as_aux_lemma =>
       have H := HC158.out
       clear HC158
       by_cases c159 : t557 = true
       ·
        subst c159
        replace H := (if_pos rfl).symm.trans H
        replace H := oB H
        obtain ⟨⟨t631, t632⟩, A1600, H⟩ := H
        (try dsimp only at H)
        have A160 := aM A1600
        clear A1600
        have HC161 := aM H
        clear H
        go_upto_region 37 with (first | (go_at_call 25; (with_reducible refine (impl_ParseAges.calls kj148 t580 t631 t632 _ (tabs2_at HT.out (by repeat (first | (with_reducible first | exact HB.out | apply below_alloc | apply pw_below_drewN | apply below_drew1 | exact Below.refl _ _) | exact HB.out))) A160.out).mono ?_); rintro e w162 ⟨v633, rfl, ho0, hb⟩; replace HO_26 := aM (Kd.S_elder' (sQ HO_26.out) (Kd.R_base ho0) hb); have HO634 := aM (Kd.R_lower (Kd.R_new' (Kd.R_new' (Kd.R_new' ho0 (Kd.R_lt (rQ HO_5.out))) (Kd.R_lt (rQ HO_18.out))) (Kd.R_lt (rQ HO_22.out))) (bZ HB.out)); replace HO_5 := aM (Kd.R_elder' (rQ HO_5.out) (Kd.R_base ho0) hb); replace HO_18 := aM (Kd.R_elder' (rQ HO_18.out) (Kd.R_base ho0) hb); replace HO_22 := aM (Kd.R_elder' (rQ HO_22.out) (Kd.R_base ho0) hb); replace HB := aM (bS HB.out hb); (try clear hb ho0)))
        repeat (go_quiet (fail); try go_wp2)
        (try simp only [Act.put, List.setIfInBounds_toArray, List.set_cons_zero, List.set_cons_succ])
        go_cut [473] from 9999 (fun v473_s wc => ∃ (kq : Nat) (x473_160 : Bool), v473_s = .bool x473_160 ∧ Aside0 (laws_FnAgesCompared.j4 kq l1 t537 t556 t564 t572 x473_160 = some r) ∧ Aside0 (kq ≤ kj148) ∧ Aside0 (Kd.R (Kd.int .i64) 3 wc w.heap.size (fun k_ => some k_ ≠ (v558 : Value).ownBlock ∧ some k_ ≠ (v566 : Value).ownBlock) (.slice Ao22 t537.length co22) t537) ∧ Aside0 (Kd.R (Kd.int .i64) 3 wc w.heap.size (fun k_ => some k_ ≠ ((.slice Ao22 t537.length co22) : Value).ownBlock ∧ some k_ ≠ (v566 : Value).ownBlock) v558 t556) ∧ Aside0 (Kd.R (Kd.int .i64) 3 wc w.heap.size (fun k_ => some k_ ≠ ((.slice Ao22 t537.length co22) : Value).ownBlock ∧ some k_ ≠ (v558 : Value).ownBlock) v566 t564) ∧ Aside0 (Kd.S (Kd.slice 3 (Kd.int .i64)) 24 wc w.heap.size (fun k_ => some k_ ≠ ((.slice Ao22 t537.length co22) : Value).ownBlock ∧ some k_ ≠ (v558 : Value).ownBlock ∧ some k_ ≠ (v566 : Value).ownBlock) v574 t572) ∧ Aside0 (Below w.heap.size w wc))
        case first =>
         as_aux_lemma =>
          have H := HC161.out
          clear HC161
          by_cases c163 : (t556.length : Int) = (t537.length : Int)
          case neg =>
           rw [if_neg c163] at H
           exact nS H
          rw [if_pos c163] at H
          have c163b0 : ((t556.length : Int) == (t537.length : Int)) = true := beq_iff_eq.mpr c163
          have c163b1 : ((t556.length : Int) != (t537.length : Int)) = false := bne_eq_false_iff_eq.mpr c163
          have c163b2 : (t556.length == t537.length) = true := by first | simpa using c163 | (simp at c163 ⊢; omega)
          clear c163
          (first | rw [c163b0] | (simp only [i64_w, i32_w]; rw [c163b0]) | skip)
          by_cases c164 : (t564.length : Int) = (wrap64 ((t537.length : Int) - 1))
          case neg =>
           rw [if_neg c164] at H
           exact nS H
          rw [if_pos c164] at H
          have c164b0 : ((t564.length : Int) == (wrap64 ((t537.length : Int) - 1))) = true := beq_iff_eq.mpr c164
          have c164q0 : ((t564.length : Int) == (IntKind.i64.wrap ((t537.length : Int) - 1))) = true := by simp only [i64_w]; exact c164b0
          have c164b1 : ((t564.length : Int) != (wrap64 ((t537.length : Int) - 1))) = false := bne_eq_false_iff_eq.mpr c164
          clear c164
          replace H := oB H
          obtain ⟨t635, A1650, H⟩ := H
          (try dsimp only at H)
          have A165 := aM A1650
          clear A1650
          by_cases c166 : t635 = true
          case neg =>
           replace c166 := Bool.eq_false_iff.mpr c166
           subst c166
           have H1 : (none) = some r := by rw [if_neg (show ¬ (false = true) by decide)] at H; exact H
           clear H
           have H := H1
           clear H1
           exact nS H
          subst c166
          replace H := (if_pos rfl).symm.trans H
          replace H := oB H
          obtain ⟨t636, A1670, H⟩ := H
          (try dsimp only at H)
          have A167 := aM A1670
          clear A1670
          by_cases c168 : t636 = true
          case neg =>
           replace c168 := Bool.eq_false_iff.mpr c168
           subst c168
           have H1 : (none) = some r := by rw [if_neg (show ¬ (false = true) by decide)] at H; exact H
           clear H
           have H := H1
           clear H1
           exact nS H
          subst c168
          replace H := (if_pos rfl).symm.trans H
          replace H := oB H
          obtain ⟨t637, A1690, H⟩ := H
          (try dsimp only at H)
          have A169 := aM A1690
          clear A1690
          by_cases c170 : (wrap64 (t584 * (t537.length : Int))) = (wrap64 (t637 * t585))
          case neg =>
           rw [if_neg c170] at H
           exact nS H
          rw [if_pos c170] at H
          have c170b0 : ((wrap64 (t584 * (t537.length : Int))) == (wrap64 (t637 * t585))) = true := beq_iff_eq.mpr c170
          have c170q0 : ((IntKind.i64.wrap (t584 * (t537.length : Int))) == (IntKind.i64.wrap (t637 * t585))) = true := by simp only [i64_w]; exact c170b0
          have c170b1 : ((wrap64 (t584 * (t537.length : Int))) != (wrap64 (t637 * t585))) = false := bne_eq_false_iff_eq.mpr c170
          clear c170
          by_cases c171 : t632 = true
          case neg =>
           replace c171 := Bool.eq_false_iff.mpr c171
           subst c171
           have H1 : (none) = some r := by rw [if_neg (show ¬ (false = true) by decide)] at H; exact H
           clear H
           have H := H1
           clear H1
           exact nS H
          subst c171
          replace H := (if_pos rfl).symm.trans H
          replace H := oB H
          obtain ⟨t638, A1720, H⟩ := H
          (try dsimp only at H)
          have A172 := aM A1720
          clear A1720
          have H' := aM H
          clear H
          obtain ⟨Ao173, co173, eo173⟩ := Kd.R_slice HO_18.out
          subst eo173
          obtain ⟨Ao174, co174, eo174⟩ := Kd.R_slice HO_22.out
          subst eo174
          obtain ⟨Ao175, co175, eo175⟩ := Kd.S_slice HO_26.out
          subst eo175
          go_wp2_with (first | (go_at_call 26; (with_reducible refine (laws_gPairs.calls kj148 _ _ t572 true _ ?side1 ?side2 A165.out).mono ?_); (case side1 => exact cQ ((Kd.S_reads' HO_26.out).2.2)); (case side2 => exact (Kd.S_reads' HO_26.out).2.1); rintro e w' ⟨rfl, ⟨nd, rfl⟩⟩; (try first | exact q1 | exact q2)) | (go_at_call 24; (with_reducible refine (laws_gLow.calls kj148 t584 t585 true _ A167.out).mono ?_); rintro e w' ⟨rfl, ⟨nd, rfl⟩⟩; (try first | exact q1 | exact q2)) | (go_at_call 27; (with_reducible refine (laws_gSum.calls kj148 _ _ t537 t637 _ ?side1 ?side2 A169.out).mono ?_); (case side1 => exact cQ ((Kd.R_reads' HO_5.out).2.2)); (case side2 => exact (Kd.R_reads' HO_5.out).2.1); rintro e w' ⟨rfl, ⟨nd, rfl⟩⟩; (try first | exact q1 | exact q2); obtain ⟨Ao176, co176, eo176⟩ := Kd.R_slice HO634.out; subst eo176) | (go_at_call 21; (with_reducible refine (laws_gSame.calls kj148 _ _ t631 _ _ t537 t638 _ ?side1 ?side2 ?side3 ?side4 A172.out).mono ?_); (case side1 => exact cQ ((Kd.R_reads' HO634.out).2.2)); (case side2 => exact (Kd.R_reads' HO634.out).2.1); (case side3 => exact cQ ((Kd.R_reads' HO_5.out).2.2)); (case side4 => exact (Kd.R_reads' HO_5.out).2.1); rintro e w' ⟨rfl, ⟨nd, rfl⟩⟩; (try first | exact q1 | exact q2)))
          repeat (go_quiet (fail); try go_wp2)
          go_meet
          case rel => exact ⟨_, (!t638), eqQ, H', ⟨by have := HJ95.out; have := HJ148.out; first | omega | exact Nat.le_refl _⟩, ⟨by (with_reducible repeat (first | apply Kd.R_alloc | apply Kd.R_drewN | apply Kd.R_drew)); exact Kd.R_mono HO_5.out (fun _ hk => ⟨hk.1.1, hk.1.2⟩)⟩, ⟨by (with_reducible repeat (first | apply Kd.R_alloc | apply Kd.R_drewN | apply Kd.R_drew)); exact Kd.R_mono HO_18.out (fun _ hk => ⟨hk.1.1, hk.1.2⟩)⟩, ⟨by (with_reducible repeat (first | apply Kd.R_alloc | apply Kd.R_drewN | apply Kd.R_drew)); exact Kd.R_mono HO_22.out (fun _ hk => ⟨hk.1.1, hk.1.2⟩)⟩, ⟨by (with_reducible repeat (first | apply Kd.S_alloc | apply Kd.S_drewN | apply Kd.S_drew)); exact Kd.S_mono HO_26.out (fun _ hk => ⟨hk.1.1, ⟨hk.1.2.1, hk.1.2.2⟩⟩)⟩, ⟨bE HB.out⟩⟩
        case rest =>
         as_aux_lemma =>
          clear HC161
          (try clear c157); (try clear c159)
          obtain ⟨kq, x473_160, rfl, HA, HJ160, HO_5, HO_18, HO_22, HO_26, HB⟩ := hcut
          cases kq with
          | zero => exact absurd HA.out (by simp [laws_FnAgesCompared.j4])
          | succ kj160 =>
           have H := HA.out
           clear HA
           simp only [laws_FnAgesCompared.j4] at H
           by_cases c177 : x473_160 = true
           case pos =>
            subst c177
            replace H := (if_pos rfl).symm.trans H
            exact nS H
           replace c177 := Bool.eq_false_iff.mpr c177
           subst c177
           have H1 : (laws_FnAgesCompared.l1 kj160 l1 t537 t556 t564 t572 0 t556 (t556.length : Int) 0) = some r := by rw [if_neg (show ¬ (false = true) by decide)] at H; exact H
           clear H
           have H := H1
           clear H1
           have H' := aM H
           clear H
           obtain ⟨Ao178, co178, eo178⟩ := Kd.R_slice HO_18.out
           subst eo178
           go_wp2
           repeat (go_quiet (fail); try go_wp2)
           go_loopg [48, 476] kj160 (fun kq v48_s v476_s w' => ∃ (x48_5 : Int) (x476_5 : Int), v48_s = .int .i64 x48_5 ∧ v476_s = .int .i64 x476_5 ∧ Aside0 (laws_FnAgesCompared.l1 kq l1 t537 t556 t564 t572 x48_5 t556 (t556.length : Int) x476_5 = some r) ∧ Aside0 (kq ≤ kj160) ∧ Aside0 (Kd.R (Kd.int .i64) 3 w' w.heap.size (fun k_ => some k_ ≠ ((.slice Ao178 t556.length co178) : Value).ownBlock ∧ some k_ ≠ (v566 : Value).ownBlock ∧ some k_ ≠ ((.slice Ao178 t556.length co178) : Value).ownBlock) (.slice Ao22 t537.length co22) t537) ∧ Aside0 (Kd.R (Kd.int .i64) 3 w' w.heap.size (fun k_ => some k_ ≠ ((.slice Ao22 t537.length co22) : Value).ownBlock ∧ some k_ ≠ (v566 : Value).ownBlock) (.slice Ao178 t556.length co178) t556) ∧ Aside0 (Kd.R (Kd.int .i64) 3 w' w.heap.size (fun k_ => some k_ ≠ ((.slice Ao22 t537.length co22) : Value).ownBlock ∧ some k_ ≠ ((.slice Ao178 t556.length co178) : Value).ownBlock ∧ some k_ ≠ ((.slice Ao178 t556.length co178) : Value).ownBlock) v566 t564) ∧ Aside0 (Kd.S (Kd.slice 3 (Kd.int .i64)) 24 w' w.heap.size (fun k_ => some k_ ≠ ((.slice Ao22 t537.length co22) : Value).ownBlock ∧ some k_ ≠ ((.slice Ao178 t556.length co178) : Value).ownBlock ∧ some k_ ≠ (v566 : Value).ownBlock ∧ some k_ ≠ ((.slice Ao178 t556.length co178) : Value).ownBlock) v574 t572) ∧ Aside0 (Kd.R (Kd.int .i64) 3 w' w.heap.size (fun k_ => some k_ ≠ ((.slice Ao22 t537.length co22) : Value).ownBlock ∧ some k_ ≠ (v566 : Value).ownBlock) (.slice Ao178 t556.length co178) t556) ∧ Aside0 (Below w.heap.size w w'))
           case atStart => exact ⟨(0), (0), eqQ, eqQ, H', ⟨Nat.le_refl _⟩, ⟨by (with_reducible repeat (first | apply Kd.R_alloc | apply Kd.R_drewN | apply Kd.R_drew)); exact Kd.R_mono HO_5.out (fun _ hk => ⟨hk.1, ⟨hk.2, hk.1⟩⟩)⟩, ⟨rQ HO_18.out⟩, ⟨by (with_reducible repeat (first | apply Kd.R_alloc | apply Kd.R_drewN | apply Kd.R_drew)); exact Kd.R_mono HO_22.out (fun _ hk => ⟨hk.1, ⟨hk.2, hk.2⟩⟩)⟩, ⟨by (with_reducible repeat (first | apply Kd.S_alloc | apply Kd.S_drewN | apply Kd.S_drew)); exact Kd.S_mono HO_26.out (fun _ hk => ⟨hk.1, ⟨hk.2.1, ⟨hk.2.2, hk.2.1⟩⟩⟩)⟩, ⟨rQ HO_18.out⟩, ⟨bE HB.out⟩⟩
           case round =>
            as_aux_lemma =>
             clear H'
             (try clear c177)
             obtain ⟨x48_5, x476_5, rfl, rfl, HA, HK5, HO_5, HO_18, HO_22, HO_26, HO_474, HB⟩ := hrel
             cases gk with
             | zero => exact absurd HA.out (by simp [laws_FnAgesCompared.l1])
             | succ k5 =>
              have H := HA.out
              clear HA
              simp only [laws_FnAgesCompared.l1] at H
              by_cases c179 : x476_5 < (t556.length : Int)
              ·
               rw [if_pos c179] at H
               have c179b0 : decide (x476_5 < (t556.length : Int)) = true := decide_eq_true c179
               clear c179
               by_cases c180 : 0 ≤ x476_5
               case neg =>
                rw [if_neg c180] at H
                exact nS H
               rw [if_pos c180] at H
               have c180b0 : decide (0 ≤ x476_5) = true := decide_eq_true c180
               clear c180
               by_cases c181 : x476_5 < (t556.length : Int)
               case neg =>
                rw [if_neg c181] at H
                exact nS H
               rw [if_pos c181] at H
               have c181b0 : decide (x476_5 < (t556.length : Int)) = true := decide_eq_true c181
               clear c181
               have HC182 := aM H
               clear H
               have p639 : 0 ≤ (x476_5 : Int) := dA
               have q639 : x476_5 < (t556.length : Int) := dA
               obtain ⟨ad639, e639, hx639_0⟩ := Kd.at_int (Kd.R_reads' HO_474.out).2.2 x476_5 p639 q639
               cases e639
               replace p639 := eq_true p639
               replace q639 := eq_true q639
               go_upto_region 43 with (fail)
               repeat (go_quiet (fail); go_upto_region 43 with (fail))
               go_cut [545] from 9999 (fun v545_s wc => ∃ (kq : Nat) (x545_181 : Bool), v545_s = .bool x545_181 ∧ Aside0 (laws_FnAgesCompared.j6 kq l1 t537 t556 t564 t572 x48_5 x476_5 (rd t556 x476_5) t556 (t556.length : Int) x476_5 x545_181 = some r) ∧ Aside0 (kq ≤ k5) ∧ Aside0 (Kd.R (Kd.int .i64) 3 wc w.heap.size (fun k_ => some k_ ≠ ((.slice (some ad639) t556.length co178) : Value).ownBlock ∧ some k_ ≠ (v566 : Value).ownBlock ∧ some k_ ≠ ((.slice (some ad639) t556.length co178) : Value).ownBlock) (.slice Ao22 t537.length co22) t537) ∧ Aside0 (Kd.R (Kd.int .i64) 3 wc w.heap.size (fun k_ => some k_ ≠ ((.slice Ao22 t537.length co22) : Value).ownBlock ∧ some k_ ≠ (v566 : Value).ownBlock) (.slice (some ad639) t556.length co178) t556) ∧ Aside0 (Kd.R (Kd.int .i64) 3 wc w.heap.size (fun k_ => some k_ ≠ ((.slice Ao22 t537.length co22) : Value).ownBlock ∧ some k_ ≠ ((.slice (some ad639) t556.length co178) : Value).ownBlock ∧ some k_ ≠ ((.slice (some ad639) t556.length co178) : Value).ownBlock) v566 t564) ∧ Aside0 (Kd.S (Kd.slice 3 (Kd.int .i64)) 24 wc w.heap.size (fun k_ => some k_ ≠ ((.slice Ao22 t537.length co22) : Value).ownBlock ∧ some k_ ≠ ((.slice (some ad639) t556.length co178) : Value).ownBlock ∧ some k_ ≠ (v566 : Value).ownBlock ∧ some k_ ≠ ((.slice (some ad639) t556.length co178) : Value).ownBlock) v574 t572) ∧ Aside0 (Kd.R (Kd.int .i64) 3 wc w.heap.size (fun k_ => some k_ ≠ ((.slice Ao22 t537.length co22) : Value).ownBlock ∧ some k_ ≠ (v566 : Value).ownBlock) (.slice (some ad639) t556.length co178) t556) ∧ Aside0 (Below w.heap.size w wc))
               case first =>
                as_aux_lemma =>
                 dsimp only [List.append]
                 have H := HC182.out
                 clear HC182
                 by_cases c183 : (rd t556 x476_5) < 0
                 case pos =>
                  rw [if_pos c183] at H
                  exact nS H
                 rw [if_neg c183] at H
                 have c183b0 : decide ((rd t556 x476_5) < 0) = false := decide_eq_false c183
                 clear c183
                 (first | rw [c183b0] | (simp only [i64_w, i32_w]; rw [c183b0]) | skip)
                 by_cases c184 : (rd t556 x476_5) ≥ (t537.length : Int)
                 case pos =>
                  rw [if_pos c184] at H
                  exact nS H
                 rw [if_neg c184] at H
                 have c184b0 : decide ((t537.length : Int) ≤ (rd t556 x476_5)) = false := decide_eq_false c184
                 clear c184
                 have c185b0 := eq_true (dA : 0 ≤ x476_5)
                 by_cases c186 : x476_5 ≤ (t556.length : Int)
                 case neg =>
                  rw [if_neg c186] at H
                  exact nS H
                 rw [if_pos c186] at H
                 have c186b0 := eq_true c186
                 have c186b1 : decide (x476_5 ≤ (t556.length : Int)) = true := decide_eq_true c186
                 clear c186
                 obtain ⟨y640, hy640⟩ : ∃ y_ : List Int, y_ = (t556.take (x476_5 : Int).toNat) := ⟨_, rfl⟩
                 replace H : ((laws_gHas.f k5 y640 (rd t556 x476_5)).bind fun t644 => (if t644 = true then (none) else (if x476_5 > 0 then (if 0 ≤ (wrap64 (x476_5 - 1)) then (if (wrap64 (x476_5 - 1)) < (t564.length : Int) then (if (wrap64 (x476_5 - 1)) < (t556.length : Int) then (if 0 ≤ (rd t556 (wrap64 (x476_5 - 1))) then (if (rd t556 (wrap64 (x476_5 - 1))) < (t537.length : Int) then (if 0 ≤ (rd t556 x476_5) then (if (rd t556 x476_5) < (t537.length : Int) then (if (rd t564 (wrap64 (x476_5 - 1))) = (wrap64 ((rd t537 (rd t556 (wrap64 (x476_5 - 1)))) - (rd t537 (rd t556 x476_5)))) then (if (rd t564 (wrap64 (x476_5 - 1))) < 0 then (none) else (if (rd t564 (wrap64 (x476_5 - 1))) = 0 then (laws_FnAgesCompared.j6 k5 l1 t537 t556 t564 t572 x48_5 x476_5 (rd t556 x476_5) t556 (t556.length : Int) x476_5 (decide ((rd t556 (wrap64 (x476_5 - 1))) > (rd t556 x476_5)))) else (laws_FnAgesCompared.j6 k5 l1 t537 t556 t564 t572 x48_5 x476_5 (rd t556 x476_5) t556 (t556.length : Int) x476_5 false))) else (none)) else (none)) else (none)) else (none)) else (none)) else (none)) else (none)) else (none)) else (laws_FnAgesCompared.j6 k5 l1 t537 t556 t564 t572 x48_5 x476_5 (rd t556 x476_5) t556 (t556.length : Int) x476_5 false)))) = some r := by first | (rw [hy640]; with_reducible exact H) | (have H2_ := (Option.bind_some _ _).symm.trans H; rw [hy640]; with_reducible exact H2_) | (have H2_ := (Option.bind_some _ _).symm.trans H; with_reducible exact H2_) | with_reducible exact H | (rw [hy640]; exact H) | exact H
                 have Ny640 := aM hy640
                 clear hy640
                 replace H := oB H
                 obtain ⟨t644, A1870, H⟩ := H
                 (try dsimp only at H)
                 have A187 := aM A1870
                 clear A1870
                 by_cases c188 : t644 = true
                 case pos =>
                  subst c188
                  replace H := (if_pos rfl).symm.trans H
                  exact nS H
                 replace c188 := Bool.eq_false_iff.mpr c188
                 subst c188
                 have H1 : (if x476_5 > 0 then (if 0 ≤ (wrap64 (x476_5 - 1)) then (if (wrap64 (x476_5 - 1)) < (t564.length : Int) then (if (wrap64 (x476_5 - 1)) < (t556.length : Int) then (if 0 ≤ (rd t556 (wrap64 (x476_5 - 1))) then (if (rd t556 (wrap64 (x476_5 - 1))) < (t537.length : Int) then (if 0 ≤ (rd t556 x476_5) then (if (rd t556 x476_5) < (t537.length : Int) then (if (rd t564 (wrap64 (x476_5 - 1))) = (wrap64 ((rd t537 (rd t556 (wrap64 (x476_5 - 1)))) - (rd t537 (rd t556 x476_5)))) then (if (rd t564 (wrap64 (x476_5 - 1))) < 0 then (none) else (if (rd t564 (wrap64 (x476_5 - 1))) = 0 then (laws_FnAgesCompared.j6 k5 l1 t537 t556 t564 t572 x48_5 x476_5 (rd t556 x476_5) t556 (t556.length : Int) x476_5 (decide ((rd t556 (wrap64 (x476_5 - 1))) > (rd t556 x476_5)))) else (laws_FnAgesCompared.j6 k5 l1 t537 t556 t564 t572 x48_5 x476_5 (rd t556 x476_5) t556 (t556.length : Int) x476_5 false))) else (none)) else (none)) else (none)) else (none)) else (none)) else (none)) else (none)) else (none)) else (laws_FnAgesCompared.j6 k5 l1 t537 t556 t564 t572 x48_5 x476_5 (rd t556 x476_5) t556 (t556.length : Int) x476_5 false)) = some r := by rw [if_neg (show ¬ (false = true) by decide)] at H; exact H
                 clear H
                 have H := H1
                 clear H1
                 by_cases c189 : x476_5 > 0
                 ·
                  rw [if_pos c189] at H
                  have c189b0 : decide (0 < x476_5) = true := decide_eq_true c189
                  clear c189
                  obtain ⟨ji190, hji190⟩ : ∃ j_ : Int, (wrap64 (x476_5 - 1)) = j_ := ⟨_, rfl⟩
                  replace H : (if 0 ≤ (ji190) then (if (ji190) < (t564.length : Int) then (if (ji190) < (t556.length : Int) then (if 0 ≤ (rd t556 (ji190)) then (if (rd t556 (ji190)) < (t537.length : Int) then (if 0 ≤ (rd t556 x476_5) then (if (rd t556 x476_5) < (t537.length : Int) then (if (rd t564 (ji190)) = (wrap64 ((rd t537 (rd t556 (ji190))) - (rd t537 (rd t556 x476_5)))) then (if (rd t564 (ji190)) < 0 then (none) else (if (rd t564 (ji190)) = 0 then (laws_FnAgesCompared.j6 k5 l1 t537 t556 t564 t572 x48_5 x476_5 (rd t556 x476_5) t556 (t556.length : Int) x476_5 (decide ((rd t556 (ji190)) > (rd t556 x476_5)))) else (laws_FnAgesCompared.j6 k5 l1 t537 t556 t564 t572 x48_5 x476_5 (rd t556 x476_5) t556 (t556.length : Int) x476_5 false))) else (none)) else (none)) else (none)) else (none)) else (none)) else (none)) else (none)) else (none)) = some r := by first | (rw [hji190] at H; exact H) | (simp only [hji190] at H ⊢; exact H)
                  (try rw [hji190] at A187)
                  have hji190w : (IntKind.i64.wrap (x476_5 - 1)) = ji190 := (i64_w _).trans hji190
                  by_cases c191 : 0 ≤ (ji190)
                  case neg =>
                   rw [if_neg c191] at H
                   exact nS H
                  rw [if_pos c191] at H
                  have c191b0 : decide (0 ≤ (ji190)) = true := decide_eq_true c191
                  clear c191
                  by_cases c192 : (ji190) < (t564.length : Int)
                  case neg =>
                   rw [if_neg c192] at H
                   exact nS H
                  rw [if_pos c192] at H
                  have c192b0 : decide ((ji190) < (t564.length : Int)) = true := decide_eq_true c192
                  clear c192
                  by_cases c193 : (ji190) < (t556.length : Int)
                  case neg =>
                   rw [if_neg c193] at H
                   exact nS H
                  rw [if_pos c193] at H
                  have c193b0 : decide ((ji190) < (t556.length : Int)) = true := decide_eq_true c193
                  clear c193
                  by_cases c194 : 0 ≤ (rd t556 (ji190))
                  case neg =>
                   rw [if_neg c194] at H
                   exact nS H
                  rw [if_pos c194] at H
                  have c194b0 : decide (0 ≤ (rd t556 (ji190))) = true := decide_eq_true c194
                  clear c194
                  by_cases c195 : (rd t556 (ji190)) < (t537.length : Int)
                  case neg =>
                   rw [if_neg c195] at H
                   exact nS H
                  rw [if_pos c195] at H
                  have c195b0 : decide ((rd t556 (ji190)) < (t537.length : Int)) = true := decide_eq_true c195
                  clear c195
                  by_cases c196 : 0 ≤ (rd t556 x476_5)
                  case neg =>
                   rw [if_neg c196] at H
                   exact nS H
                  rw [if_pos c196] at H
                  have c196b0 : decide (0 ≤ (rd t556 x476_5)) = true := decide_eq_true c196
                  clear c196
                  by_cases c197 : (rd t556 x476_5) < (t537.length : Int)
                  case neg =>
                   rw [if_neg c197] at H
                   exact nS H
                  rw [if_pos c197] at H
                  have c197b0 : decide ((rd t556 x476_5) < (t537.length : Int)) = true := decide_eq_true c197
                  clear c197
                  by_cases c198 : (rd t564 (ji190)) = (wrap64 ((rd t537 (rd t556 (ji190))) - (rd t537 (rd t556 x476_5))))
                  case neg =>
                   rw [if_neg c198] at H
                   exact nS H
                  rw [if_pos c198] at H
                  have c198b0 : ((rd t564 (ji190)) == (wrap64 ((rd t537 (rd t556 (ji190))) - (rd t537 (rd t556 x476_5))))) = true := beq_iff_eq.mpr c198
                  have c198q0 : ((rd t564 (ji190)) == (IntKind.i64.wrap ((rd t537 (rd t556 (ji190))) - (rd t537 (rd t556 x476_5))))) = true := by simp only [i64_w]; exact c198b0
                  have c198b1 : ((rd t564 (ji190)) != (wrap64 ((rd t537 (rd t556 (ji190))) - (rd t537 (rd t556 x476_5))))) = false := bne_eq_false_iff_eq.mpr c198
                  clear c198
                  by_cases c199 : (rd t564 (ji190)) < 0
                  case pos =>
                   rw [if_pos c199] at H
                   exact nS H
                  rw [if_neg c199] at H
                  have c199b0 : decide ((rd t564 (ji190)) < 0) = false := decide_eq_false c199
                  clear c199
                  by_cases c200 : (rd t564 (ji190)) = 0
                  ·
                   rw [if_pos c200] at H
                   have c200b0 : ((rd t564 (ji190)) == 0) = true := beq_iff_eq.mpr c200
                   have c200b1 : ((rd t564 (ji190)) != 0) = false := bne_eq_false_iff_eq.mpr c200
                   clear c200
                   have H' := aM H
                   clear H
                   have q201 : (x476_5 : Int) ≤ ((t556.length : Int) : Int) := dA
                   obtain ⟨i0201, hi0201, _, hsz201, _⟩ := info_parts info3
                   have hroom201 : t556.length ≤ co178 := (Kd.R_reads' HO_18.out).2.1
                   have hC201 : Kd.C (Kd.int .i64) _ (some ad639) t556.length t556 := (Kd.R_reads' HO_18.out).2.2
                   have hcut201 := cut_to (P := Tryz.prog) 24 3 .i64 Tryz.underlying24 hi0201 (some ad639) t556.length co178 x476_5 (dA) q201 hroom201
                   have hr201 := Kd.C_take (m := (x476_5 : Int).toNat) hC201 (by omega)
                   have hy201 : y640.length = (x476_5 : Int).toNat := (by rw [Ny640.out, List.length_take]; omega)
                   rw [← Ny640.out] at hr201
                   rw [← hy201] at hcut201
                   have HR643 := aM hr201
                   have HC643 := aM (show y640.length ≤ co178 from by omega)
                   clear hr201 hC201 hroom201 hi0201 hsz201
                   have KY201 := aM hy201
                   clear hy201
                   have KL201 := aM (show (x476_5 : Int).toNat ≤ t556.length from by omega)
                   replace q201 := eq_true q201
                   obtain ⟨Ao202, co202, eo202⟩ := Kd.R_slice HO_22.out
                   subst eo202
                   have p645 : 0 ≤ ((ji190) : Int) := dA
                   have q645 : (ji190) < (t564.length : Int) := dA
                   obtain ⟨ad645, e645, hx645_0⟩ := Kd.at_int (Kd.R_reads' HO_22.out).2.2 (ji190) p645 q645
                   cases e645
                   replace p645 := eq_true p645
                   replace q645 := eq_true q645
                   have p646 : 0 ≤ ((ji190) : Int) := dA
                   have q646 : (ji190) < (t556.length : Int) := dA
                   obtain ⟨ad646, e646, hx646_0⟩ := Kd.at_int (Kd.R_reads' HO_18.out).2.2 (ji190) p646 q646
                   obtain rfl : ad639 = ad646 := (by injection e646)
                   replace p646 := eq_true p646
                   replace q646 := eq_true q646
                   have p647 : 0 ≤ ((rd t556 (ji190)) : Int) := dA
                   have q647 : (rd t556 (ji190)) < (t537.length : Int) := dA
                   obtain ⟨ad647, e647, hx647_0⟩ := Kd.at_int (Kd.R_reads' HO_5.out).2.2 (rd t556 (ji190)) p647 q647
                   cases e647
                   replace p647 := eq_true p647
                   replace q647 := eq_true q647
                   have p648 : 0 ≤ ((rd t556 x476_5) : Int) := dA
                   have q648 : (rd t556 x476_5) < (t537.length : Int) := dA
                   obtain ⟨ad648, e648, hx648_0⟩ := Kd.at_int (Kd.R_reads' HO_5.out).2.2 (rd t556 x476_5) p648 q648
                   obtain rfl : ad647 = ad648 := (by injection e648)
                   replace p648 := eq_true p648
                   replace q648 := eq_true q648
                   have p649 : 0 ≤ ((ji190) : Int) := dA
                   have q649 : (ji190) < (t564.length : Int) := dA
                   obtain ⟨ad649, e649, hx649_0⟩ := Kd.at_int (Kd.R_reads' HO_22.out).2.2 (ji190) p649 q649
                   obtain rfl : ad645 = ad649 := (by injection e649)
                   replace p649 := eq_true p649
                   replace q649 := eq_true q649
                   have p650 : 0 ≤ ((ji190) : Int) := dA
                   have q650 : (ji190) < (t564.length : Int) := dA
                   obtain ⟨ad650, e650, hx650_0⟩ := Kd.at_int (Kd.R_reads' HO_22.out).2.2 (ji190) p650 q650
                   obtain rfl : ad645 = ad650 := (by injection e650)
                   replace p650 := eq_true p650
                   replace q650 := eq_true q650
                   have p651 : 0 ≤ ((ji190) : Int) := dA
                   have q651 : (ji190) < (t556.length : Int) := dA
                   obtain ⟨ad651, e651, hx651_0⟩ := Kd.at_int (Kd.R_reads' HO_18.out).2.2 (ji190) p651 q651
                   obtain rfl : ad639 = ad651 := (by injection e651)
                   replace p651 := eq_true p651
                   replace q651 := eq_true q651
                   (repeat' (first | go_values | go_skip | go_guarded | go_step | go_upon | go_back))
                   repeat (go_quiet (first | (go_at_call 28; (with_reducible refine (laws_gHas.calls k5 _ _ y640 (rd t556 x476_5) false _ ?side1 ?side2 A187.out).mono ?_); (case side1 => repeat (first | exact (cQ HR643.out) | (with_reducible refine Kd.C_alloc ?_ _) | (with_reducible refine Kd.C_drewN ?_ _) | (with_reducible refine Kd.C_drew ?_))); (case side2 => exact HC643.out); rintro e w' ⟨rfl, ⟨nd, rfl⟩⟩; (try first | exact q1 | exact q2))); try (repeat' (first | go_values | go_skip | go_guarded | go_step | go_upon | go_back)))
                   go_meet
                   case rel => exact ⟨_, (decide ((rd t556 (ji190)) > (rd t556 x476_5))), (by first | rfl | (simp; done) | (simp only [← hji190] <;> (first | rfl | simp)) | (simp [*]; done)), H', ⟨by have := HJ95.out; have := HJ148.out; have := HJ160.out; have := HK5.out; first | omega | exact Nat.le_refl _⟩, ⟨rQ HO_5.out⟩, ⟨rQ HO_18.out⟩, ⟨rQ HO_22.out⟩, ⟨sQ HO_26.out⟩, ⟨rQ HO_474.out⟩, ⟨bE HB.out⟩⟩
                  ·
                   rw [if_neg c200] at H
                   have c200b0 : ((rd t564 (ji190)) == 0) = false := beq_eq_false_iff_ne.mpr c200
                   have c200b1 : ((rd t564 (ji190)) != 0) = true := bne_iff_ne.mpr c200
                   have H' := aM H
                   clear H
                   have q203 : (x476_5 : Int) ≤ ((t556.length : Int) : Int) := dA
                   obtain ⟨i0203, hi0203, _, hsz203, _⟩ := info_parts info3
                   have hroom203 : t556.length ≤ co178 := (Kd.R_reads' HO_18.out).2.1
                   have hC203 : Kd.C (Kd.int .i64) _ (some ad639) t556.length t556 := (Kd.R_reads' HO_18.out).2.2
                   have hcut203 := cut_to (P := Tryz.prog) 24 3 .i64 Tryz.underlying24 hi0203 (some ad639) t556.length co178 x476_5 (dA) q203 hroom203
                   have hr203 := Kd.C_take (m := (x476_5 : Int).toNat) hC203 (by omega)
                   have hy203 : y640.length = (x476_5 : Int).toNat := (by rw [Ny640.out, List.length_take]; omega)
                   rw [← Ny640.out] at hr203
                   rw [← hy203] at hcut203
                   have HR643 := aM hr203
                   have HC643 := aM (show y640.length ≤ co178 from by omega)
                   clear hr203 hC203 hroom203 hi0203 hsz203
                   have KY203 := aM hy203
                   clear hy203
                   have KL203 := aM (show (x476_5 : Int).toNat ≤ t556.length from by omega)
                   replace q203 := eq_true q203
                   obtain ⟨Ao204, co204, eo204⟩ := Kd.R_slice HO_22.out
                   subst eo204
                   have p645 : 0 ≤ ((ji190) : Int) := dA
                   have q645 : (ji190) < (t564.length : Int) := dA
                   obtain ⟨ad645, e645, hx645_0⟩ := Kd.at_int (Kd.R_reads' HO_22.out).2.2 (ji190) p645 q645
                   cases e645
                   replace p645 := eq_true p645
                   replace q645 := eq_true q645
                   have p646 : 0 ≤ ((ji190) : Int) := dA
                   have q646 : (ji190) < (t556.length : Int) := dA
                   obtain ⟨ad646, e646, hx646_0⟩ := Kd.at_int (Kd.R_reads' HO_18.out).2.2 (ji190) p646 q646
                   obtain rfl : ad639 = ad646 := (by injection e646)
                   replace p646 := eq_true p646
                   replace q646 := eq_true q646
                   have p647 : 0 ≤ ((rd t556 (ji190)) : Int) := dA
                   have q647 : (rd t556 (ji190)) < (t537.length : Int) := dA
                   obtain ⟨ad647, e647, hx647_0⟩ := Kd.at_int (Kd.R_reads' HO_5.out).2.2 (rd t556 (ji190)) p647 q647
                   cases e647
                   replace p647 := eq_true p647
                   replace q647 := eq_true q647
                   have p648 : 0 ≤ ((rd t556 x476_5) : Int) := dA
                   have q648 : (rd t556 x476_5) < (t537.length : Int) := dA
                   obtain ⟨ad648, e648, hx648_0⟩ := Kd.at_int (Kd.R_reads' HO_5.out).2.2 (rd t556 x476_5) p648 q648
                   obtain rfl : ad647 = ad648 := (by injection e648)
                   replace p648 := eq_true p648
                   replace q648 := eq_true q648
                   have p649 : 0 ≤ ((ji190) : Int) := dA
                   have q649 : (ji190) < (t564.length : Int) := dA
                   obtain ⟨ad649, e649, hx649_0⟩ := Kd.at_int (Kd.R_reads' HO_22.out).2.2 (ji190) p649 q649
                   obtain rfl : ad645 = ad649 := (by injection e649)
                   replace p649 := eq_true p649
                   replace q649 := eq_true q649
                   have p650 : 0 ≤ ((ji190) : Int) := dA
                   have q650 : (ji190) < (t564.length : Int) := dA
                   obtain ⟨ad650, e650, hx650_0⟩ := Kd.at_int (Kd.R_reads' HO_22.out).2.2 (ji190) p650 q650
                   obtain rfl : ad645 = ad650 := (by injection e650)
                   replace p650 := eq_true p650
                   replace q650 := eq_true q650
                   (repeat' (first | go_values | go_skip | go_guarded | go_step | go_upon | go_back))
                   repeat (go_quiet (first | (go_at_call 28; (with_reducible refine (laws_gHas.calls k5 _ _ y640 (rd t556 x476_5) false _ ?side1 ?side2 A187.out).mono ?_); (case side1 => repeat (first | exact (cQ HR643.out) | (with_reducible refine Kd.C_alloc ?_ _) | (with_reducible refine Kd.C_drewN ?_ _) | (with_reducible refine Kd.C_drew ?_))); (case side2 => exact HC643.out); rintro e w' ⟨rfl, ⟨nd, rfl⟩⟩; (try first | exact q1 | exact q2))); try (repeat' (first | go_values | go_skip | go_guarded | go_step | go_upon | go_back)))
                   go_meet
                   case rel => exact ⟨_, (false), eqQ, H', ⟨by have := HJ95.out; have := HJ148.out; have := HJ160.out; have := HK5.out; first | omega | exact Nat.le_refl _⟩, ⟨rQ HO_5.out⟩, ⟨rQ HO_18.out⟩, ⟨rQ HO_22.out⟩, ⟨sQ HO_26.out⟩, ⟨rQ HO_474.out⟩, ⟨bE HB.out⟩⟩
                 ·
                  rw [if_neg c189] at H
                  have c189b0 : decide (0 < x476_5) = false := decide_eq_false c189
                  clear c189
                  have H' := aM H
                  clear H
                  have q205 : (x476_5 : Int) ≤ ((t556.length : Int) : Int) := dA
                  obtain ⟨i0205, hi0205, _, hsz205, _⟩ := info_parts info3
                  have hroom205 : t556.length ≤ co178 := (Kd.R_reads' HO_18.out).2.1
                  have hC205 : Kd.C (Kd.int .i64) _ (some ad639) t556.length t556 := (Kd.R_reads' HO_18.out).2.2
                  have hcut205 := cut_to (P := Tryz.prog) 24 3 .i64 Tryz.underlying24 hi0205 (some ad639) t556.length co178 x476_5 (dA) q205 hroom205
                  have hr205 := Kd.C_take (m := (x476_5 : Int).toNat) hC205 (by omega)
                  have hy205 : y640.length = (x476_5 : Int).toNat := (by rw [Ny640.out, List.length_take]; omega)
                  rw [← Ny640.out] at hr205
                  rw [← hy205] at hcut205
                  have HR643 := aM hr205
                  have HC643 := aM (show y640.length ≤ co178 from by omega)
                  clear hr205 hC205 hroom205 hi0205 hsz205
                  have KY205 := aM hy205
                  clear hy205
                  have KL205 := aM (show (x476_5 : Int).toNat ≤ t556.length from by omega)
                  replace q205 := eq_true q205
                  (repeat' (first | go_values | go_skip | go_guarded | go_step | go_upon | go_back))
                  repeat (go_quiet (first | (go_at_call 28; (with_reducible refine (laws_gHas.calls k5 _ _ y640 (rd t556 x476_5) false _ ?side1 ?side2 A187.out).mono ?_); (case side1 => repeat (first | exact (cQ HR643.out) | (with_reducible refine Kd.C_alloc ?_ _) | (with_reducible refine Kd.C_drewN ?_ _) | (with_reducible refine Kd.C_drew ?_))); (case side2 => exact HC643.out); rintro e w' ⟨rfl, ⟨nd, rfl⟩⟩; (try first | exact q1 | exact q2))); try (repeat' (first | go_values | go_skip | go_guarded | go_step | go_upon | go_back)))
                  go_meet
                  case rel => exact ⟨_, (false), eqQ, H', ⟨by have := HJ95.out; have := HJ148.out; have := HJ160.out; have := HK5.out; first | omega | exact Nat.le_refl _⟩, ⟨rQ HO_5.out⟩, ⟨rQ HO_18.out⟩, ⟨rQ HO_22.out⟩, ⟨sQ HO_26.out⟩, ⟨rQ HO_474.out⟩, ⟨bE HB.out⟩⟩
               case rest =>
                as_aux_lemma =>
                 clear HC182
                 (try clear c179); (try clear c179b0); (try clear c180); (try clear c180b0); (try clear c181); (try clear c181b0); (try clear hx639_0); (try clear p639); (try clear q639)
                 obtain ⟨kq, x545_181, rfl, HA, HJ181, HO_5, HO_18, HO_22, HO_26, HO_474, HB⟩ := hcut
                 cases kq with
                 | zero => exact absurd HA.out (by simp [laws_FnAgesCompared.j6])
                 | succ kj181 =>
                  have H := HA.out
                  clear HA
                  simp only [laws_FnAgesCompared.j6] at H
                  by_cases c206 : x545_181 = true
                  case pos =>
                   subst c206
                   replace H := (if_pos rfl).symm.trans H
                   exact nS H
                  replace c206 := Bool.eq_false_iff.mpr c206
                  subst c206
                  have H1 : (if 0 ≤ x476_5 then (if x476_5 ≤ (t556.length : Int) then ((some (t556.take (x476_5 : Int).toNat : List Int)).bind fun y652 => (laws_FnAgesCompared.l2 kj181 l1 t537 t556 t564 t572 x48_5 (rd t556 x476_5) t556 (t556.length : Int) x476_5 y652 (y652.length : Int) 0)) else (none)) else (none)) = some r := by rw [if_neg (show ¬ (false = true) by decide)] at H; exact H
                  clear H
                  have H := H1
                  clear H1
                  by_cases c207 : 0 ≤ x476_5
                  case neg =>
                   rw [if_neg c207] at H
                   exact nS H
                  rw [if_pos c207] at H
                  have c207b0 := eq_true c207
                  have c207b1 : decide (0 ≤ x476_5) = true := decide_eq_true c207
                  clear c207
                  by_cases c208 : x476_5 ≤ (t556.length : Int)
                  case neg =>
                   rw [if_neg c208] at H
                   exact nS H
                  rw [if_pos c208] at H
                  have c208b0 := eq_true c208
                  have c208b1 : decide (x476_5 ≤ (t556.length : Int)) = true := decide_eq_true c208
                  clear c208
                  obtain ⟨y652, hy652⟩ : ∃ y_ : List Int, y_ = (t556.take (x476_5 : Int).toNat) := ⟨_, rfl⟩
                  replace H : (laws_FnAgesCompared.l2 kj181 l1 t537 t556 t564 t572 x48_5 (rd t556 x476_5) t556 (t556.length : Int) x476_5 y652 (y652.length : Int) 0) = some r := by first | (rw [hy652]; with_reducible exact H) | (have H2_ := (Option.bind_some _ _).symm.trans H; rw [hy652]; with_reducible exact H2_) | (have H2_ := (Option.bind_some _ _).symm.trans H; with_reducible exact H2_) | with_reducible exact H | (rw [hy652]; exact H) | exact H
                  have Ny652 := aM hy652
                  clear hy652
                  have H' := aM H
                  clear H
                  have q209 : (x476_5 : Int) ≤ ((t556.length : Int) : Int) := dA
                  obtain ⟨i0209, hi0209, _, hsz209, _⟩ := info_parts info3
                  have hroom209 : t556.length ≤ co178 := (Kd.R_reads' HO_18.out).2.1
                  have hC209 : Kd.C (Kd.int .i64) _ (some ad639) t556.length t556 := (Kd.R_reads' HO_18.out).2.2
                  have hcut209 := cut_to (P := Tryz.prog) 24 3 .i64 Tryz.underlying24 hi0209 (some ad639) t556.length co178 x476_5 (dA) q209 hroom209
                  have hr209 := Kd.C_take (m := (x476_5 : Int).toNat) hC209 (by omega)
                  have hy209 : y652.length = (x476_5 : Int).toNat := (by rw [Ny652.out, List.length_take]; omega)
                  rw [← Ny652.out] at hr209
                  rw [← hy209] at hcut209
                  have HR655 := aM hr209
                  have HC655 := aM (show y652.length ≤ co178 from by omega)
                  clear hr209 hC209 hroom209 hi0209 hsz209
                  have KY209 := aM hy209
                  clear hy209
                  have KL209 := aM (show (x476_5 : Int).toNat ≤ t556.length from by omega)
                  replace q209 := eq_true q209
                  go_wp2
                  repeat (go_quiet (fail); try go_wp2)
                  go_loopg [48, 550] kj181 (fun kq v48_s v550_s w' => ∃ (x48_7 : Int) (x550_7 : Int), v48_s = .int .i64 x48_7 ∧ v550_s = .int .i64 x550_7 ∧ Aside0 (laws_FnAgesCompared.l2 kq l1 t537 t556 t564 t572 x48_7 (rd t556 x476_5) t556 (t556.length : Int) x476_5 y652 (y652.length : Int) x550_7 = some r) ∧ Aside0 (kq ≤ kj181) ∧ Aside0 (Kd.R (Kd.int .i64) 3 w' w.heap.size (fun k_ => some k_ ≠ ((.slice (some ad639) t556.length co178) : Value).ownBlock ∧ some k_ ≠ (v566 : Value).ownBlock ∧ some k_ ≠ ((.slice (some ad639) t556.length co178) : Value).ownBlock) (.slice Ao22 t537.length co22) t537) ∧ Aside0 (Kd.R (Kd.int .i64) 3 w' w.heap.size (fun k_ => some k_ ≠ ((.slice Ao22 t537.length co22) : Value).ownBlock ∧ some k_ ≠ (v566 : Value).ownBlock) (.slice (some ad639) t556.length co178) t556) ∧ Aside0 (Kd.R (Kd.int .i64) 3 w' w.heap.size (fun k_ => some k_ ≠ ((.slice Ao22 t537.length co22) : Value).ownBlock ∧ some k_ ≠ ((.slice (some ad639) t556.length co178) : Value).ownBlock ∧ some k_ ≠ ((.slice (some ad639) t556.length co178) : Value).ownBlock) v566 t564) ∧ Aside0 (Kd.S (Kd.slice 3 (Kd.int .i64)) 24 w' w.heap.size (fun k_ => some k_ ≠ ((.slice Ao22 t537.length co22) : Value).ownBlock ∧ some k_ ≠ ((.slice (some ad639) t556.length co178) : Value).ownBlock ∧ some k_ ≠ (v566 : Value).ownBlock ∧ some k_ ≠ ((.slice (some ad639) t556.length co178) : Value).ownBlock) v574 t572) ∧ Aside0 (Kd.R (Kd.int .i64) 3 w' w.heap.size (fun k_ => some k_ ≠ ((.slice Ao22 t537.length co22) : Value).ownBlock ∧ some k_ ≠ (v566 : Value).ownBlock) (.slice (some ad639) t556.length co178) t556) ∧ Aside0 (Kd.C (Kd.int .i64) w' (some ad639) y652.length y652) ∧ Aside0 (Below w.heap.size w w'))
                  case atStart => exact ⟨(x48_5), (0), eqQ, eqQ, H', ⟨Nat.le_refl _⟩, ⟨rQ HO_5.out⟩, ⟨rQ HO_18.out⟩, ⟨rQ HO_22.out⟩, ⟨sQ HO_26.out⟩, ⟨rQ HO_474.out⟩, ⟨by repeat (first | (with_reducible exact HR655.out) | (with_reducible refine Kd.C_alloc ?_ _) | (with_reducible refine Kd.C_drewN ?_ _) | (with_reducible refine Kd.C_drew ?_) | exact HR655.out)⟩, ⟨bE HB.out⟩⟩
                  case round =>
                   as_aux_lemma =>
                    clear H'
                    (try clear c206); (try clear c207); (try clear c207b0); (try clear c207b1); (try clear c208); (try clear c208b0); (try clear c208b1); (try clear q209)
                    obtain ⟨x48_7, x550_7, rfl, rfl, HA, HK7, HO_5, HO_18, HO_22, HO_26, HO_474, HR655, HB⟩ := hrel
                    cases gk with
                    | zero => exact absurd HA.out (by simp [laws_FnAgesCompared.l2])
                    | succ k7 =>
                     have H := HA.out
                     clear HA
                     simp only [laws_FnAgesCompared.l2] at H
                     by_cases c210 : x550_7 < (y652.length : Int)
                     ·
                      rw [if_pos c210] at H
                      have c210b0 : decide (x550_7 < (y652.length : Int)) = true := decide_eq_true c210
                      clear c210
                      by_cases c211 : 0 ≤ x550_7
                      case neg =>
                       rw [if_neg c211] at H
                       exact nS H
                      rw [if_pos c211] at H
                      have c211b0 : decide (0 ≤ x550_7) = true := decide_eq_true c211
                      clear c211
                      by_cases c212 : x550_7 < (y652.length : Int)
                      case neg =>
                       rw [if_neg c212] at H
                       exact nS H
                      rw [if_pos c212] at H
                      have c212b0 : decide (x550_7 < (y652.length : Int)) = true := decide_eq_true c212
                      clear c212
                      by_cases c213 : 0 ≤ (rd y652 x550_7)
                      case neg =>
                       rw [if_neg c213] at H
                       exact nS H
                      rw [if_pos c213] at H
                      have c213b0 : decide (0 ≤ (rd y652 x550_7)) = true := decide_eq_true c213
                      clear c213
                      by_cases c214 : (rd y652 x550_7) < (t537.length : Int)
                      case neg =>
                       rw [if_neg c214] at H
                       exact nS H
                      rw [if_pos c214] at H
                      have c214b0 : decide ((rd y652 x550_7) < (t537.length : Int)) = true := decide_eq_true c214
                      clear c214
                      by_cases c215 : 0 ≤ (rd t556 x476_5)
                      case neg =>
                       rw [if_neg c215] at H
                       exact nS H
                      rw [if_pos c215] at H
                      have c215b0 : decide (0 ≤ (rd t556 x476_5)) = true := decide_eq_true c215
                      clear c215
                      by_cases c216 : (rd t556 x476_5) < (t537.length : Int)
                      case neg =>
                       rw [if_neg c216] at H
                       exact nS H
                      rw [if_pos c216] at H
                      have c216b0 : decide ((rd t556 x476_5) < (t537.length : Int)) = true := decide_eq_true c216
                      clear c216
                      by_cases c217 : (rd t537 (rd y652 x550_7)) = (rd t537 (rd t556 x476_5))
                      ·
                       rw [if_pos c217] at H
                       have c217b0 : ((rd t537 (rd y652 x550_7)) == (rd t537 (rd t556 x476_5))) = true := beq_iff_eq.mpr c217
                       have c217b1 : ((rd t537 (rd y652 x550_7)) != (rd t537 (rd t556 x476_5))) = false := bne_eq_false_iff_eq.mpr c217
                       clear c217
                       have H' := aM H
                       clear H
                       have p656 : 0 ≤ (x550_7 : Int) := dA
                       have q656 : x550_7 < (y652.length : Int) := dA
                       obtain ⟨ad656, e656, hx656_0⟩ := Kd.at_int HR655.out x550_7 p656 q656
                       obtain rfl : ad639 = ad656 := (by injection e656)
                       try replace hx656_0 := (HB.out.cell (World.block_lt_of_cell? w _ hx656_0)).trans hx656_0
                       replace p656 := eq_true p656
                       replace q656 := eq_true q656
                       have p657 : 0 ≤ ((rd y652 x550_7) : Int) := dA
                       have q657 : (rd y652 x550_7) < (t537.length : Int) := dA
                       obtain ⟨ad657, e657, hx657_0⟩ := Kd.at_int (Kd.R_reads' HO_5.out).2.2 (rd y652 x550_7) p657 q657
                       cases e657
                       replace p657 := eq_true p657
                       replace q657 := eq_true q657
                       have p658 : 0 ≤ ((rd t556 x476_5) : Int) := dA
                       have q658 : (rd t556 x476_5) < (t537.length : Int) := dA
                       obtain ⟨ad658, e658, hx658_0⟩ := Kd.at_int (Kd.R_reads' HO_5.out).2.2 (rd t556 x476_5) p658 q658
                       obtain rfl : ad657 = ad658 := (by injection e658)
                       replace p658 := eq_true p658
                       replace q658 := eq_true q658
                       go_wp2
                       repeat (go_quiet (fail); try go_wp2)
                       go_roundg k7
                       case measure => have := HJ95.out; have := HJ148.out; have := HJ160.out; have := HK5.out; have := HJ181.out; have := HK7.out; omega
                       case rel => exact ⟨(wrap64 (x48_7 + 1)), (wrap64 (x550_7 + 1)), eqQ, eqQ, H', ⟨by have := HJ95.out; have := HJ148.out; have := HJ160.out; have := HK5.out; have := HJ181.out; have := HK7.out; omega⟩, ⟨rQ HO_5.out⟩, ⟨rQ HO_18.out⟩, ⟨rQ HO_22.out⟩, ⟨sQ HO_26.out⟩, ⟨rQ HO_474.out⟩, ⟨by repeat (first | (with_reducible exact HR655.out) | (with_reducible refine Kd.C_alloc ?_ _) | (with_reducible refine Kd.C_drewN ?_ _) | (with_reducible refine Kd.C_drew ?_) | exact HR655.out)⟩, ⟨bE HB.out⟩⟩
                      ·
                       rw [if_neg c217] at H
                       have c217b0 : ((rd t537 (rd y652 x550_7)) == (rd t537 (rd t556 x476_5))) = false := beq_eq_false_iff_ne.mpr c217
                       have c217b1 : ((rd t537 (rd y652 x550_7)) != (rd t537 (rd t556 x476_5))) = true := bne_iff_ne.mpr c217
                       have H' := aM H
                       clear H
                       have p656 : 0 ≤ (x550_7 : Int) := dA
                       have q656 : x550_7 < (y652.length : Int) := dA
                       obtain ⟨ad656, e656, hx656_0⟩ := Kd.at_int HR655.out x550_7 p656 q656
                       obtain rfl : ad639 = ad656 := (by injection e656)
                       try replace hx656_0 := (HB.out.cell (World.block_lt_of_cell? w _ hx656_0)).trans hx656_0
                       replace p656 := eq_true p656
                       replace q656 := eq_true q656
                       have p657 : 0 ≤ ((rd y652 x550_7) : Int) := dA
                       have q657 : (rd y652 x550_7) < (t537.length : Int) := dA
                       obtain ⟨ad657, e657, hx657_0⟩ := Kd.at_int (Kd.R_reads' HO_5.out).2.2 (rd y652 x550_7) p657 q657
                       cases e657
                       replace p657 := eq_true p657
                       replace q657 := eq_true q657
                       have p658 : 0 ≤ ((rd t556 x476_5) : Int) := dA
                       have q658 : (rd t556 x476_5) < (t537.length : Int) := dA
                       obtain ⟨ad658, e658, hx658_0⟩ := Kd.at_int (Kd.R_reads' HO_5.out).2.2 (rd t556 x476_5) p658 q658
                       obtain rfl : ad657 = ad658 := (by injection e658)
                       replace p658 := eq_true p658
                       replace q658 := eq_true q658
                       go_wp2
                       repeat (go_quiet (fail); try go_wp2)
                       go_roundg k7
                       case measure => have := HJ95.out; have := HJ148.out; have := HJ160.out; have := HK5.out; have := HJ181.out; have := HK7.out; omega
                       case rel => exact ⟨(x48_7), (wrap64 (x550_7 + 1)), eqQ, eqQ, H', ⟨by have := HJ95.out; have := HJ148.out; have := HJ160.out; have := HK5.out; have := HJ181.out; have := HK7.out; omega⟩, ⟨rQ HO_5.out⟩, ⟨rQ HO_18.out⟩, ⟨rQ HO_22.out⟩, ⟨sQ HO_26.out⟩, ⟨rQ HO_474.out⟩, ⟨by repeat (first | (with_reducible exact HR655.out) | (with_reducible refine Kd.C_alloc ?_ _) | (with_reducible refine Kd.C_drewN ?_ _) | (with_reducible refine Kd.C_drew ?_) | exact HR655.out)⟩, ⟨bE HB.out⟩⟩
                     ·
                      rw [if_neg c210] at H
                      have c210b0 : decide (x550_7 < (y652.length : Int)) = false := decide_eq_false c210
                      clear c210
                      have H' := aM H
                      clear H
                      go_wp2
                      repeat (go_quiet (fail); try go_wp2)
                      go_roundg k7
                      case measure => have := HJ95.out; have := HJ148.out; have := HJ160.out; have := HK5.out; have := HJ181.out; have := HK7.out; omega
                      case rel => exact ⟨(x48_7), (wrap64 (x476_5 + 1)), eqQ, eqQ, H', ⟨by have := HJ95.out; have := HJ148.out; have := HJ160.out; have := HK5.out; have := HJ181.out; have := HK7.out; omega⟩, ⟨rQ HO_5.out⟩, ⟨rQ HO_18.out⟩, ⟨rQ HO_22.out⟩, ⟨sQ HO_26.out⟩, ⟨rQ HO_474.out⟩, ⟨bE HB.out⟩⟩
              ·
               rw [if_neg c179] at H
               have c179b0 : decide (x476_5 < (t556.length : Int)) = false := decide_eq_false c179
               clear c179
               have H' := aM H
               clear H
               obtain ⟨Ao218, co218, eo218⟩ := Kd.S_slice HO_26.out
               subst eo218
               go_wp2
               repeat (go_quiet (fail); try go_wp2)
               go_loopg [569] k5 (fun kq v569_s w' => ∃ (x569_6 : Int), v569_s = .int .i64 x569_6 ∧ Aside0 (laws_FnAgesCompared.l3 kq l1 t537 t572 x48_5 t572 (t572.length : Int) x569_6 = some r) ∧ Aside0 (kq ≤ k5) ∧ Aside0 (Kd.R (Kd.int .i64) 3 w' w.heap.size (fun _ => True) (.slice Ao22 t537.length co22) t537) ∧ Aside0 (Kd.S (Kd.slice 3 (Kd.int .i64)) 24 w' w.heap.size (fun k_ => some k_ ≠ ((.slice Ao22 t537.length co22) : Value).ownBlock) (.slice Ao218 t572.length co218) t572) ∧ Aside0 (Kd.S (Kd.slice 3 (Kd.int .i64)) 24 w' w.heap.size (fun k_ => some k_ ≠ ((.slice Ao22 t537.length co22) : Value).ownBlock) (.slice Ao218 t572.length co218) t572) ∧ Aside0 (Below w.heap.size w w'))
               case atStart => exact ⟨(0), eqQ, H', ⟨Nat.le_refl _⟩, ⟨by (with_reducible repeat (first | apply Kd.R_alloc | apply Kd.R_drewN | apply Kd.R_drew)); exact Kd.R_mono HO_5.out (fun _ hk => trivial)⟩, ⟨by (with_reducible repeat (first | apply Kd.S_alloc | apply Kd.S_drewN | apply Kd.S_drew)); exact Kd.S_mono HO_26.out (fun _ hk => hk.1)⟩, ⟨by (with_reducible repeat (first | apply Kd.S_alloc | apply Kd.S_drewN | apply Kd.S_drew)); exact Kd.S_mono HO_26.out (fun _ hk => hk.1)⟩, ⟨bE HB.out⟩⟩
               case round =>
                as_aux_lemma =>
                 clear H'
                 (try clear c179b0)
                 obtain ⟨x569_6, rfl, HA, HK6, HO_5, HO_26, HO_567, HB⟩ := hrel
                 cases gk with
                 | zero => exact absurd HA.out (by simp [laws_FnAgesCompared.l3])
                 | succ k6 =>
                  have H := HA.out
                  clear HA
                  simp only [laws_FnAgesCompared.l3] at H
                  by_cases c219 : x569_6 < (t572.length : Int)
                  ·
                   rw [if_pos c219] at H
                   have c219b0 : decide (x569_6 < (t572.length : Int)) = true := decide_eq_true c219
                   clear c219
                   by_cases c220 : 0 ≤ x569_6
                   case neg =>
                    rw [if_neg c220] at H
                    exact nS H
                   rw [if_pos c220] at H
                   have c220b0 : decide (0 ≤ x569_6) = true := decide_eq_true c220
                   clear c220
                   by_cases c221 : x569_6 < (t572.length : Int)
                   case neg =>
                    rw [if_neg c221] at H
                    exact nS H
                   rw [if_pos c221] at H
                   have c221b0 : decide (x569_6 < (t572.length : Int)) = true := decide_eq_true c221
                   clear c221
                   by_cases c222 : 0 < ((rd_L2 t572 x569_6).length : Int)
                   case neg =>
                    rw [if_neg c222] at H
                    exact nS H
                   rw [if_pos c222] at H
                   have c222b0 : decide (0 < ((rd_L2 t572 x569_6).length : Int)) = true := decide_eq_true c222
                   have c222b1 : decide (0 < (rd_L2 t572 x569_6).length) = true := decide_eq_true (by omega)
                   clear c222
                   by_cases c223 : (rd (rd_L2 t572 x569_6) 0) < 0
                   case pos =>
                    rw [if_pos c223] at H
                    exact nS H
                   rw [if_neg c223] at H
                   have c223b0 : decide ((rd (rd_L2 t572 x569_6) 0) < 0) = false := decide_eq_false c223
                   clear c223
                   by_cases c224 : 1 < ((rd_L2 t572 x569_6).length : Int)
                   case neg =>
                    rw [if_neg c224] at H
                    exact nS H
                   rw [if_pos c224] at H
                   have c224b0 : decide (1 < ((rd_L2 t572 x569_6).length : Int)) = true := decide_eq_true c224
                   have c224b1 : decide (1 < (rd_L2 t572 x569_6).length) = true := decide_eq_true (by omega)
                   clear c224
                   by_cases c225 : (rd (rd_L2 t572 x569_6) 0) ≥ (rd (rd_L2 t572 x569_6) 1)
                   case pos =>
                    rw [if_pos c225] at H
                    exact nS H
                   rw [if_neg c225] at H
                   have c225b0 : decide ((rd (rd_L2 t572 x569_6) 1) ≤ (rd (rd_L2 t572 x569_6) 0)) = false := decide_eq_false c225
                   clear c225
                   by_cases c226 : (rd (rd_L2 t572 x569_6) 1) ≥ (t537.length : Int)
                   case pos =>
                    rw [if_pos c226] at H
                    exact nS H
                   rw [if_neg c226] at H
                   have c226b0 : decide ((t537.length : Int) ≤ (rd (rd_L2 t572 x569_6) 1)) = false := decide_eq_false c226
                   clear c226
                   by_cases c227 : 0 ≤ (rd (rd_L2 t572 x569_6) 0)
                   case neg =>
                    rw [if_neg c227] at H
                    exact nS H
                   rw [if_pos c227] at H
                   have c227b0 : decide (0 ≤ (rd (rd_L2 t572 x569_6) 0)) = true := decide_eq_true c227
                   clear c227
                   by_cases c228 : (rd (rd_L2 t572 x569_6) 0) < (t537.length : Int)
                   case neg =>
                    rw [if_neg c228] at H
                    exact nS H
                   rw [if_pos c228] at H
                   have c228b0 : decide ((rd (rd_L2 t572 x569_6) 0) < (t537.length : Int)) = true := decide_eq_true c228
                   clear c228
                   by_cases c229 : 0 ≤ (rd (rd_L2 t572 x569_6) 1)
                   case neg =>
                    rw [if_neg c229] at H
                    exact nS H
                   rw [if_pos c229] at H
                   have c229b0 : decide (0 ≤ (rd (rd_L2 t572 x569_6) 1)) = true := decide_eq_true c229
                   clear c229
                   by_cases c230 : (rd (rd_L2 t572 x569_6) 1) < (t537.length : Int)
                   case neg =>
                    rw [if_neg c230] at H
                    exact nS H
                   rw [if_pos c230] at H
                   have c230b0 : decide ((rd (rd_L2 t572 x569_6) 1) < (t537.length : Int)) = true := decide_eq_true c230
                   clear c230
                   by_cases c231 : (rd t537 (rd (rd_L2 t572 x569_6) 0)) = (rd t537 (rd (rd_L2 t572 x569_6) 1))
                   case neg =>
                    rw [if_neg c231] at H
                    exact nS H
                   rw [if_pos c231] at H
                   have c231b0 : ((rd t537 (rd (rd_L2 t572 x569_6) 0)) == (rd t537 (rd (rd_L2 t572 x569_6) 1))) = true := beq_iff_eq.mpr c231
                   have c231b1 : ((rd t537 (rd (rd_L2 t572 x569_6) 0)) != (rd t537 (rd (rd_L2 t572 x569_6) 1))) = false := bne_eq_false_iff_eq.mpr c231
                   clear c231
                   have H' := aM H
                   clear H
                   have p659 : 0 ≤ (x569_6 : Int) := dA
                   have q659 : x569_6 < (t572.length : Int) := dA
                   obtain ⟨ad659, A659_0, c659_0, e659, hx659_0, hl659_0, hi659_0⟩ := at_L2 (Kd.S_reads' HO_567.out).2.2 x569_6 p659 q659
                   cases e659
                   obtain ⟨ce659, hce659, hMe659, hcc659⟩ := Kd.S_get HO_567.out [] x569_6 p659 (by first | exact q659 | exact dA | (have e_ := (Kd.S_reads' HO_567.out).1; omega))
                   obtain ⟨ve659_0, rfl, ge659_0⟩ := hMe659
                   have hv659_0 := hcc659 0 _ rfl
                   rw [Nat.add_zero, show ((Kd.slice 3 (Kd.int .i64))).sz = 1 from rfl, Nat.mul_one] at hv659_0
                   replace hv659_0 := Option.some.inj (hv659_0.symm.trans hx659_0)
                   rw [hv659_0] at ge659_0
                   have HL659_0 := aM (show Kd.R (Kd.int .i64) 3 _ _ _ _ (rd_L2 t572 x569_6) from ge659_0)
                   clear hv659_0 ge659_0
                   clear hcc659 hce659
                   have HR659_0 := aM hi659_0
                   have HC659_0 := aM hl659_0
                   clear hi659_0 hl659_0
                   replace p659 := eq_true p659
                   replace q659 := eq_true q659
                   have p660 : 0 ≤ (0 : Int) := (by omega)
                   have q660 : 0 < ((rd_L2 t572 x569_6).length : Int) := dA
                   obtain ⟨ad660, e660, hx660_0⟩ := Kd.at_int (cQ HR659_0.out) 0 p660 q660
                   cases e660
                   have qi660 : (0 < (rd_L2 t572 x569_6).length) = True := eq_true (by omega)
                   (try rw [show ((0 : Int)).toNat = 0 from rfl] at hx660_0)
                   (try rw [Addr.add_zero'] at hx660_0)
                   replace p660 := eq_true p660
                   replace q660 := eq_true q660
                   have p661 : 0 ≤ (0 : Int) := (by omega)
                   have q661 : 0 < ((rd_L2 t572 x569_6).length : Int) := dA
                   obtain ⟨ad661, e661, hx661_0⟩ := Kd.at_int (cQ HR659_0.out) 0 p661 q661
                   obtain rfl : ad660 = ad661 := (by injection e661)
                   have qi661 : (0 < (rd_L2 t572 x569_6).length) = True := eq_true (by omega)
                   (try rw [show ((0 : Int)).toNat = 0 from rfl] at hx661_0)
                   (try rw [Addr.add_zero'] at hx661_0)
                   replace p661 := eq_true p661
                   replace q661 := eq_true q661
                   have p662 : 0 ≤ (1 : Int) := (by omega)
                   have q662 : 1 < ((rd_L2 t572 x569_6).length : Int) := dA
                   obtain ⟨ad662, e662, hx662_0⟩ := Kd.at_int (cQ HR659_0.out) 1 p662 q662
                   obtain rfl : ad660 = ad662 := (by injection e662)
                   (try simp only [show (1 : Int).toNat = 1 from rfl, Nat.reduceMul, Nat.reduceEqDiff, Go.Addr.add, ↓reduceIte] at hx662_0)
                   have qi662 : (1 < (rd_L2 t572 x569_6).length) = True := eq_true (by omega)
                   (try rw [show ((1 : Int)).toNat = 1 from rfl] at hx662_0)
                   replace p662 := eq_true p662
                   replace q662 := eq_true q662
                   have p663 : 0 ≤ (1 : Int) := (by omega)
                   have q663 : 1 < ((rd_L2 t572 x569_6).length : Int) := dA
                   obtain ⟨ad663, e663, hx663_0⟩ := Kd.at_int (cQ HR659_0.out) 1 p663 q663
                   obtain rfl : ad660 = ad663 := (by injection e663)
                   (try simp only [show (1 : Int).toNat = 1 from rfl, Nat.reduceMul, Nat.reduceEqDiff, Go.Addr.add, ↓reduceIte] at hx663_0)
                   have qi663 : (1 < (rd_L2 t572 x569_6).length) = True := eq_true (by omega)
                   (try rw [show ((1 : Int)).toNat = 1 from rfl] at hx663_0)
                   replace p663 := eq_true p663
                   replace q663 := eq_true q663
                   have p664 : 0 ≤ (0 : Int) := (by omega)
                   have q664 : 0 < ((rd_L2 t572 x569_6).length : Int) := dA
                   obtain ⟨ad664, e664, hx664_0⟩ := Kd.at_int (cQ HR659_0.out) 0 p664 q664
                   obtain rfl : ad660 = ad664 := (by injection e664)
                   have qi664 : (0 < (rd_L2 t572 x569_6).length) = True := eq_true (by omega)
                   (try rw [show ((0 : Int)).toNat = 0 from rfl] at hx664_0)
                   (try rw [Addr.add_zero'] at hx664_0)
                   replace p664 := eq_true p664
                   replace q664 := eq_true q664
                   have p665 : 0 ≤ ((rd (rd_L2 t572 x569_6) 0) : Int) := dA
                   have q665 : (rd (rd_L2 t572 x569_6) 0) < (t537.length : Int) := dA
                   obtain ⟨ad665, e665, hx665_0⟩ := Kd.at_int (Kd.R_reads' HO_5.out).2.2 (rd (rd_L2 t572 x569_6) 0) p665 q665
                   cases e665
                   replace p665 := eq_true p665
                   replace q665 := eq_true q665
                   have p666 : 0 ≤ (1 : Int) := (by omega)
                   have q666 : 1 < ((rd_L2 t572 x569_6).length : Int) := dA
                   obtain ⟨ad666, e666, hx666_0⟩ := Kd.at_int (cQ HR659_0.out) 1 p666 q666
                   obtain rfl : ad660 = ad666 := (by injection e666)
                   (try simp only [show (1 : Int).toNat = 1 from rfl, Nat.reduceMul, Nat.reduceEqDiff, Go.Addr.add, ↓reduceIte] at hx666_0)
                   have qi666 : (1 < (rd_L2 t572 x569_6).length) = True := eq_true (by omega)
                   (try rw [show ((1 : Int)).toNat = 1 from rfl] at hx666_0)
                   replace p666 := eq_true p666
                   replace q666 := eq_true q666
                   have p667 : 0 ≤ ((rd (rd_L2 t572 x569_6) 1) : Int) := dA
                   have q667 : (rd (rd_L2 t572 x569_6) 1) < (t537.length : Int) := dA
                   obtain ⟨ad667, e667, hx667_0⟩ := Kd.at_int (Kd.R_reads' HO_5.out).2.2 (rd (rd_L2 t572 x569_6) 1) p667 q667
                   obtain rfl : ad665 = ad667 := (by injection e667)
                   replace p667 := eq_true p667
                   replace q667 := eq_true q667
                   go_wp2
                   repeat (go_quiet (fail); try go_wp2)
                   go_roundg k6
                   case measure => have := HJ95.out; have := HJ148.out; have := HJ160.out; have := HK5.out; have := HK6.out; omega
                   case rel => exact ⟨(wrap64 (x569_6 + 1)), eqQ, H', ⟨by have := HJ95.out; have := HJ148.out; have := HJ160.out; have := HK5.out; have := HK6.out; omega⟩, ⟨rQ HO_5.out⟩, ⟨sQ HO_26.out⟩, ⟨sQ HO_567.out⟩, ⟨bE HB.out⟩⟩
                  ·
                   rw [if_neg c219] at H
                   have c219b0 : decide (x569_6 < (t572.length : Int)) = false := decide_eq_false c219
                   clear c219
                   by_cases c232 : x48_5 = (t572.length : Int)
                   case neg =>
                    rw [if_neg c232] at H
                    exact nS H
                   rw [if_pos c232] at H
                   have c232b0 : (x48_5 == (t572.length : Int)) = true := beq_iff_eq.mpr c232
                   have c232b1 : (x48_5 != (t572.length : Int)) = false := bne_eq_false_iff_eq.mpr c232
                   clear c232
                   have H' := aM H
                   clear H
                   go_wp2
                   repeat (go_quiet (fail); try go_wp2)
                   go_meet
                   case rel => exact ⟨_, H', ⟨by have := HJ95.out; have := HJ148.out; have := HJ160.out; have := HK5.out; have := HK6.out; first | omega | exact Nat.le_refl _⟩, ⟨bE HB.out⟩⟩
       ·
        replace c159 := Bool.eq_false_iff.mpr c159
        subst c159
        have H1 : (laws_FnAgesCompared.j9 kj148 l1) = some r := by rw [if_neg (show ¬ (false = true) by decide)] at H; exact H
        clear H
        have H := H1
        clear H1
        have H' := aM H
        clear H
        go_wp2
        repeat (go_quiet (fail); try go_wp2)
        go_meet
        case rel => exact ⟨_, H', ⟨by have := HJ95.out; have := HJ148.out; first | omega | exact Nat.le_refl _⟩, ⟨bE HB.out⟩⟩
     case rest =>
      as_aux_lemma =>
       clear HC158
       obtain ⟨kq, HA, HJ157, HB⟩ := hcut
       go_step
       exact HT_j9 kq A0 c0 l0 A1 c1 l1 r w wc kj148 _ _ (by kernel_rfl) HR0 HC0 HR1 HC1 HT HA HJ157 HB (by kernel_rfl) rfl
end Go.Proofs.YtcfgkpifloghlaaGreatDoor.P
