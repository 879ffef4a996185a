-- Written by drive.py (wip/ of this repository) over the kit's print: functions, contracts, rows. Lean checks it. -- SQUEEZED
import Derived.Test.YtcfgkpifloghlaaGreatDoorP16
namespace Go.Proofs.YtcfgkpifloghlaaGreatDoor.P
open Go.RowKit Go.Proofs.YtcfgkpifloghlaaGreatDoorW.PrintWords Go.Proofs.YtcfgkpifloghlaaGreatDoorW.PrintLast Go.Proofs.YtcfgkpifloghlaaGreatDoorW.PrintMore
attribute [local go_sem] max2_int min2_int max_two min_two max_three min_three max_four min_four undef_guard   -- for this text's walks alone
set_option linter.unusedVariables false
set_option maxHeartbeats 800000000
set_option maxRecDepth 100000
set_option linter.unusedSimpArgs false

theorem laws_FnAgesCompared.tj9 (HT_j11 : laws_FnAgesCompared.Tj11) : laws_FnAgesCompared.Tj9 := by
 intro kq A0 c0 l0 A1 c1 l1 r w wc kj148 F c_ hc_ HR0 HC0 HR1 HC1 HT HA HJ157 HB hF e_1
 obtain ⟨s, rfl⟩ := laws_FnAgesCompared.frm_of hF
 replace e_1 := Option.some.inj (show some (s 1) = _ from e_1)
 unfold laws_FnAgesCompared.frm
 rw [e_1]
 clear hF e_1
 obtain rfl := Option.some.inj ((show some _ = some c_ from hc_))
 cases kq with
 | zero => exact absurd HA.out (by simp [laws_FnAgesCompared.j9])
 | succ kj157 =>
  have H := HA.out
  clear HA
  simp only [laws_FnAgesCompared.j9] at H
  replace H := oB H
  obtain ⟨⟨t668, t669, t670, t671⟩, A2330, H⟩ := H
  (try dsimp only at H)
  have A233 := aM A2330
  clear A2330
  replace H := oB H
  obtain ⟨⟨t674, t675⟩, A2340, H⟩ := H
  (try dsimp only at H)
  have A234 := aM A2340
  clear A2340
  replace H := oB H
  obtain ⟨⟨t676, t677⟩, A2350, H⟩ := H
  (try dsimp only at H)
  have A235 := aM A2350
  clear A2350
  replace H := oB H
  obtain ⟨⟨t678, t679⟩, A2360, H⟩ := H
  (try dsimp only at H)
  have A236 := aM A2360
  clear A2360
  replace H := oB H
  obtain ⟨⟨t682, t683⟩, A2370, H⟩ := H
  (try dsimp only at H)
  have A237 := aM A2370
  clear A2370
  replace H := oB H
  obtain ⟨⟨t684, t685⟩, A2380, H⟩ := H
  (try dsimp only at H)
  have A238 := aM A2380
  clear A2380
  replace H := oB H
  obtain ⟨⟨t686, t687⟩, A2390, H⟩ := H
  (try dsimp only at H)
  have A239 := aM A2390
  clear A2390
  replace H := oB H
  obtain ⟨⟨t690, t691⟩, A2400, H⟩ := H
  (try dsimp only at H)
  have A240 := aM A2400
  clear A2400
  replace H := oB H
  obtain ⟨⟨t694, t695⟩, A2410, H⟩ := H
  (try dsimp only at H)
  have A241 := aM A2410
  clear A2410
  replace H := oB H
  obtain ⟨⟨t698, t699⟩, A2420, H⟩ := H
  (try dsimp only at H)
  have A242 := aM A2420
  clear A2420
  replace H := oB H
  obtain ⟨⟨t702, t703⟩, A2430, H⟩ := H
  (try dsimp only at H)
  have A243 := aM A2430
  clear A2430
  replace H := oB H
  obtain ⟨t706, A2440, H⟩ := H
  (try dsimp only at H)
  have A244 := aM A2440
  clear A2440
  replace H := oB H
  obtain ⟨⟨t707, t708⟩, A2450, H⟩ := H
  (try dsimp only at H)
  have A245 := aM A2450
  clear A2450
  replace H := oB H
  obtain ⟨⟨t711, t712⟩, A2460, H⟩ := H
  (try dsimp only at H)
  have A246 := aM A2460
  clear A2460
  have HC247 := aM H
  clear H
  go_upto_region 74 with (first | (go_at_call 29; (with_reducible refine (spec_DrawYearsOfMultiple.calls kj157 _ _ l1 t668 t669 t670 t671 _ ?side1 ?side2 A233.out).mono ?_); (case side1 => exact cQ (Kd.C_below HR1.out HB.out)); (case side2 => exact HC1.out); rintro e w248 ⟨v672, rfl, ho0, hb⟩; have HO673 := aM (Kd.R_lower ho0 (bZ HB.out)); replace HB := aM (bS HB.out hb); (try clear hb ho0); obtain ⟨Ao249, co249, eo249⟩ := Kd.R_slice HO673.out; subst eo249) | (go_at_call 23; (with_reducible refine (impl_YearsOfMultiple.calls kj157 _ _ t668 t669 t670 t671 t674 t675 _ ?side1 ?side2 A234.out).mono ?_); (case side1 => exact cQ ((Kd.R_reads' HO673.out).2.2)); (case side2 => exact (Kd.R_reads' HO673.out).2.1); rintro e w250 ⟨rfl, hb⟩; replace HO673 := aM (Kd.R_below (rQ HO673.out) hb); replace HB := aM (bS HB.out hb); (try clear hb)) | (go_at_call 30; (with_reducible refine (spec_YearsOfMultiple.calls kj157 _ _ t668 t669 t670 t671 t676 t677 _ ?side1 ?side2 A235.out).mono ?_); (case side1 => exact cQ ((Kd.R_reads' HO673.out).2.2)); (case side2 => exact (Kd.R_reads' HO673.out).2.1); rintro e w251 ⟨rfl, hb⟩; replace HO673 := aM (Kd.R_below (rQ HO673.out) hb); replace HB := aM (bS HB.out hb); (try clear hb)) | (go_at_call 31; (with_reducible refine (spec_DrawYearsAsSum.calls kj157 _ _ l1 t678 t679 _ ?side1 ?side2 A236.out).mono ?_); (case side1 => exact cQ (Kd.C_below HR1.out HB.out)); (case side2 => exact HC1.out); rintro e w252 ⟨v680, rfl, ho0, hb⟩; have HO681 := aM (Kd.R_lower (Kd.R_new' ho0 (Kd.R_lt (rQ HO673.out))) (bZ HB.out)); replace HO673 := aM (Kd.R_elder' (rQ HO673.out) (Kd.R_base ho0) hb); replace HB := aM (bS HB.out hb); (try clear hb ho0); obtain ⟨Ao253, co253, eo253⟩ := Kd.R_slice HO681.out; subst eo253) | (go_at_call 32; (with_reducible refine (impl_YearsAsSum.calls kj157 _ _ t678 t679 t682 t683 _ ?side1 ?side2 A237.out).mono ?_); (case side1 => exact cQ ((Kd.R_reads' HO681.out).2.2)); (case side2 => exact (Kd.R_reads' HO681.out).2.1); rintro e w254 ⟨rfl, hb⟩; replace HO673 := aM (Kd.R_below (rQ HO673.out) hb); replace HO681 := aM (Kd.R_below (rQ HO681.out) hb); replace HB := aM (bS HB.out hb); (try clear hb)) | (go_at_call 33; (with_reducible refine (spec_YearsAsSum.calls kj157 _ _ t678 t679 t684 t685 _ ?side1 ?side2 A238.out).mono ?_); (case side1 => exact cQ ((Kd.R_reads' HO681.out).2.2)); (case side2 => exact (Kd.R_reads' HO681.out).2.1); rintro e w255 ⟨rfl, hb⟩; replace HO673 := aM (Kd.R_below (rQ HO673.out) hb); replace HO681 := aM (Kd.R_below (rQ HO681.out) hb); replace HB := aM (bS HB.out hb); (try clear hb)) | (go_at_call 34; (with_reducible refine (impl_DropAge.calls _ _ t678 t679 t686 t687 _ ?side1 ?side2 A239.out).mono ?_); (case side1 => exact cQ ((Kd.R_reads' HO681.out).2.2)); (case side2 => exact (Kd.R_reads' HO681.out).2.1); rintro e w256 ⟨v688, rfl, ho0, hb⟩; have HO689 := aM (Kd.R_lower (Kd.R_new' (Kd.R_new' ho0 (Kd.R_lt (rQ HO673.out))) (Kd.R_lt (rQ HO681.out))) (bZ HB.out)); replace HO673 := aM (Kd.R_elder' (rQ HO673.out) (Kd.R_base ho0) hb); replace HO681 := aM (Kd.R_elder' (rQ HO681.out) (Kd.R_base ho0) hb); replace HB := aM (bS HB.out hb); (try clear hb ho0)) | (go_at_call 35; (with_reducible refine (spec_DropAge.calls kj157 _ _ t678 t679 t690 t691 _ ?side1 ?side2 A240.out).mono ?_); (case side1 => exact cQ ((Kd.R_reads' HO681.out).2.2)); (case side2 => exact (Kd.R_reads' HO681.out).2.1); rintro e w257 ⟨v692, rfl, ho0, hb⟩; have HO693 := aM (Kd.R_lower (Kd.R_new' (Kd.R_new' (Kd.R_new' ho0 (Kd.R_lt (rQ HO673.out))) (Kd.R_lt (rQ HO681.out))) (Kd.R_lt (rQ HO689.out))) (bZ HB.out)); replace HO673 := aM (Kd.R_elder' (rQ HO673.out) (Kd.R_base ho0) hb); replace HO681 := aM (Kd.R_elder' (rQ HO681.out) (Kd.R_base ho0) hb); replace HO689 := aM (Kd.R_elder' (rQ HO689.out) (Kd.R_base ho0) hb); replace HB := aM (bS HB.out hb); (try clear hb ho0)) | (go_at_call 36; (with_reducible refine (spec_DrawAddAge.calls kj157 _ _ l1 t694 t695 _ ?side1 ?side2 A241.out).mono ?_); (case side1 => exact cQ (Kd.C_below HR1.out HB.out)); (case side2 => exact HC1.out); rintro e w258 ⟨v696, rfl, ho0, hb⟩; have HO697 := aM (Kd.R_lower (Kd.R_new' (Kd.R_new' (Kd.R_new' (Kd.R_new' ho0 (Kd.R_lt (rQ HO673.out))) (Kd.R_lt (rQ HO681.out))) (Kd.R_lt (rQ HO689.out))) (Kd.R_lt (rQ HO693.out))) (bZ HB.out)); replace HO673 := aM (Kd.R_elder' (rQ HO673.out) (Kd.R_base ho0) hb); replace HO681 := aM (Kd.R_elder' (rQ HO681.out) (Kd.R_base ho0) hb); replace HO689 := aM (Kd.R_elder' (rQ HO689.out) (Kd.R_base ho0) hb); replace HO693 := aM (Kd.R_elder' (rQ HO693.out) (Kd.R_base ho0) hb); replace HB := aM (bS HB.out hb); (try clear hb ho0); obtain ⟨Ao259, co259, eo259⟩ := Kd.R_slice HO697.out; subst eo259) | (go_at_call 37; (with_reducible refine (impl_AddAge.calls _ _ t694 t695 t698 t699 _ ?side1 ?side2 A242.out).mono ?_); (case side1 => exact cQ ((Kd.R_reads' HO697.out).2.2)); (case side2 => exact (Kd.R_reads' HO697.out).2.1); rintro e w260 ⟨v700, rfl, ho0, hb⟩; have HO701 := aM (Kd.R_lower (Kd.R_new' (Kd.R_new' (Kd.R_new' (Kd.R_new' (Kd.R_new' ho0 (Kd.R_lt (rQ HO673.out))) (Kd.R_lt (rQ HO681.out))) (Kd.R_lt (rQ HO689.out))) (Kd.R_lt (rQ HO693.out))) (Kd.R_lt (rQ HO697.out))) (bZ HB.out)); replace HO673 := aM (Kd.R_elder' (rQ HO673.out) (Kd.R_base ho0) hb); replace HO681 := aM (Kd.R_elder' (rQ HO681.out) (Kd.R_base ho0) hb); replace HO689 := aM (Kd.R_elder' (rQ HO689.out) (Kd.R_base ho0) hb); replace HO693 := aM (Kd.R_elder' (rQ HO693.out) (Kd.R_base ho0) hb); replace HO697 := aM (Kd.R_elder' (rQ HO697.out) (Kd.R_base ho0) hb); replace HB := aM (bS HB.out hb); (try clear hb ho0)) | (go_at_call 38; (with_reducible refine (spec_AddAge.calls kj157 _ _ t694 t695 t702 t703 _ ?side1 ?side2 A243.out).mono ?_); (case side1 => exact cQ ((Kd.R_reads' HO697.out).2.2)); (case side2 => exact (Kd.R_reads' HO697.out).2.1); rintro e w261 ⟨v704, rfl, ho0, hb⟩; have HO705 := aM (Kd.R_lower (Kd.R_new' (Kd.R_new' (Kd.R_new' (Kd.R_new' (Kd.R_new' (Kd.R_new' ho0 (Kd.R_lt (rQ HO673.out))) (Kd.R_lt (rQ HO681.out))) (Kd.R_lt (rQ HO689.out))) (Kd.R_lt (rQ HO693.out))) (Kd.R_lt (rQ HO697.out))) (Kd.R_lt (rQ HO701.out))) (bZ HB.out)); replace HO673 := aM (Kd.R_elder' (rQ HO673.out) (Kd.R_base ho0) hb); replace HO681 := aM (Kd.R_elder' (rQ HO681.out) (Kd.R_base ho0) hb); replace HO689 := aM (Kd.R_elder' (rQ HO689.out) (Kd.R_base ho0) hb); replace HO693 := aM (Kd.R_elder' (rQ HO693.out) (Kd.R_base ho0) hb); replace HO697 := aM (Kd.R_elder' (rQ HO697.out) (Kd.R_base ho0) hb); replace HO701 := aM (Kd.R_elder' (rQ HO701.out) (Kd.R_base ho0) hb); replace HB := aM (bS HB.out hb); (try clear hb ho0)) | (go_at_call 39; (with_reducible refine (spec_DrawParseAges.calls kj157 _ _ l1 t706 _ ?side1 ?side2 A244.out).mono ?_); (case side1 => exact cQ (Kd.C_below HR1.out HB.out)); (case side2 => exact HC1.out); rintro e w262 ⟨rfl, hb⟩; replace HO673 := aM (Kd.R_below (rQ HO673.out) hb); replace HO681 := aM (Kd.R_below (rQ HO681.out) hb); replace HO689 := aM (Kd.R_below (rQ HO689.out) hb); replace HO693 := aM (Kd.R_below (rQ HO693.out) hb); replace HO697 := aM (Kd.R_below (rQ HO697.out) hb); replace HO701 := aM (Kd.R_below (rQ HO701.out) hb); replace HO705 := aM (Kd.R_below (rQ HO705.out) hb); replace HB := aM (bS HB.out hb); (try clear hb)) | (go_at_call 25; (with_reducible refine (impl_ParseAges.calls kj157 t706 t707 t708 _ (tabs2_at HT.out (by repeat (first | (with_reducible first | exact HB.out | apply below_alloc | apply pw_below_drewN | apply below_drew1 | exact Below.refl _ _) | exact HB.out))) A245.out).mono ?_); rintro e w263 ⟨v709, rfl, ho0, hb⟩; have HO710 := aM (Kd.R_lower (Kd.R_new' (Kd.R_new' (Kd.R_new' (Kd.R_new' (Kd.R_new' (Kd.R_new' (Kd.R_new' ho0 (Kd.R_lt (rQ HO673.out))) (Kd.R_lt (rQ HO681.out))) (Kd.R_lt (rQ HO689.out))) (Kd.R_lt (rQ HO693.out))) (Kd.R_lt (rQ HO697.out))) (Kd.R_lt (rQ HO701.out))) (Kd.R_lt (rQ HO705.out))) (bZ HB.out)); replace HO673 := aM (Kd.R_elder' (rQ HO673.out) (Kd.R_base ho0) hb); replace HO681 := aM (Kd.R_elder' (rQ HO681.out) (Kd.R_base ho0) hb); replace HO689 := aM (Kd.R_elder' (rQ HO689.out) (Kd.R_base ho0) hb); replace HO693 := aM (Kd.R_elder' (rQ HO693.out) (Kd.R_base ho0) hb); replace HO697 := aM (Kd.R_elder' (rQ HO697.out) (Kd.R_base ho0) hb); replace HO701 := aM (Kd.R_elder' (rQ HO701.out) (Kd.R_base ho0) hb); replace HO705 := aM (Kd.R_elder' (rQ HO705.out) (Kd.R_base ho0) hb); replace HB := aM (bS HB.out hb); (try clear hb ho0)) | (go_at_call 40; (with_reducible refine (spec_ParseAges.calls kj157 t706 t711 t712 _ A246.out).mono ?_); rintro e w264 ⟨v713, rfl, ho0, hb⟩; have HO714 := aM (Kd.R_lower (Kd.R_new' (Kd.R_new' (Kd.R_new' (Kd.R_new' (Kd.R_new' (Kd.R_new' (Kd.R_new' (Kd.R_new' ho0 (Kd.R_lt (rQ HO673.out))) (Kd.R_lt (rQ HO681.out))) (Kd.R_lt (rQ HO689.out))) (Kd.R_lt (rQ HO693.out))) (Kd.R_lt (rQ HO697.out))) (Kd.R_lt (rQ HO701.out))) (Kd.R_lt (rQ HO705.out))) (Kd.R_lt (rQ HO710.out))) (bZ HB.out)); replace HO673 := aM (Kd.R_elder' (rQ HO673.out) (Kd.R_base ho0) hb); replace HO681 := aM (Kd.R_elder' (rQ HO681.out) (Kd.R_base ho0) hb); replace HO689 := aM (Kd.R_elder' (rQ HO689.out) (Kd.R_base ho0) hb); replace HO693 := aM (Kd.R_elder' (rQ HO693.out) (Kd.R_base ho0) hb); replace HO697 := aM (Kd.R_elder' (rQ HO697.out) (Kd.R_base ho0) hb); replace HO701 := aM (Kd.R_elder' (rQ HO701.out) (Kd.R_base ho0) hb); replace HO705 := aM (Kd.R_elder' (rQ HO705.out) (Kd.R_base ho0) hb); replace HO710 := aM (Kd.R_elder' (rQ HO710.out) (Kd.R_base ho0) hb); replace HB := aM (bS HB.out hb); (try clear hb ho0)))
  repeat (go_quiet (fail); try go_wp2)
  (try simp only [Act.put, List.setIfInBounds_toArray, List.set_cons_zero, List.set_cons_succ])
  go_cut [745] from 9999 (fun v745_s wc => ∃ (kq : Nat) (x745_246 : Bool), v745_s = .bool x745_246 ∧ Aside0 (laws_FnAgesCompared.j10 kq t668 t669 t670 t671 t674 t675 t678 t679 t682 t683 t694 t698 t699 t706 t707 t708 x745_246 = some r) ∧ Aside0 (kq ≤ kj157) ∧ Aside0 (Kd.R (Kd.int .i64) 3 wc w.heap.size (fun k_ => some k_ ≠ ((.slice Ao253 t678.length co253) : Value).ownBlock ∧ some k_ ≠ ((.slice Ao259 t694.length co259) : Value).ownBlock ∧ some k_ ≠ (v700 : Value).ownBlock ∧ some k_ ≠ (v709 : Value).ownBlock) (.slice Ao249 t668.length co249) t668) ∧ Aside0 (Kd.R (Kd.int .i64) 3 wc w.heap.size (fun k_ => some k_ ≠ ((.slice Ao249 t668.length co249) : Value).ownBlock ∧ some k_ ≠ ((.slice Ao259 t694.length co259) : Value).ownBlock ∧ some k_ ≠ (v700 : Value).ownBlock ∧ some k_ ≠ (v709 : Value).ownBlock) (.slice Ao253 t678.length co253) t678) ∧ Aside0 (Kd.R (Kd.int .i64) 3 wc w.heap.size (fun k_ => some k_ ≠ ((.slice Ao249 t668.length co249) : Value).ownBlock ∧ some k_ ≠ ((.slice Ao253 t678.length co253) : Value).ownBlock ∧ some k_ ≠ (v700 : Value).ownBlock ∧ some k_ ≠ (v709 : Value).ownBlock) (.slice Ao259 t694.length co259) t694) ∧ Aside0 (Kd.R (Kd.int .i64) 3 wc w.heap.size (fun k_ => some k_ ≠ ((.slice Ao249 t668.length co249) : Value).ownBlock ∧ some k_ ≠ ((.slice Ao253 t678.length co253) : Value).ownBlock ∧ some k_ ≠ ((.slice Ao259 t694.length co259) : Value).ownBlock ∧ some k_ ≠ (v709 : Value).ownBlock) v700 t698) ∧ Aside0 (Kd.R (Kd.int .i64) 3 wc w.heap.size (fun k_ => some k_ ≠ ((.slice Ao249 t668.length co249) : Value).ownBlock ∧ some k_ ≠ ((.slice Ao253 t678.length co253) : Value).ownBlock ∧ some k_ ≠ ((.slice Ao259 t694.length co259) : Value).ownBlock ∧ some k_ ≠ (v700 : Value).ownBlock) v709 t707) ∧ Aside0 (Below w.heap.size w wc))
  case first =>
   have H := HC247.out
   clear HC247
   by_cases c265 : (t675 != t677) = true
   case pos =>
    rw [if_pos c265] at H
    exact nS H
   rw [if_neg c265] at H
   have c265b0 : (t675 != t677) = false := by simpa using c265
   (try (have c265b1 : decide (t675 = t677) = true := by simpa using c265))
   (try (have c265b2 : (t675 == t677) = true := by simpa using c265))
   clear c265
   (first | rw [c265b0] | (simp only [i64_w, i32_w]; rw [c265b0]) | skip)
   by_cases c266 : t674 = t676
   case neg =>
    rw [if_neg c266] at H
    exact nS H
   rw [if_pos c266] at H
   have c266b0 : (t674 == t676) = true := beq_iff_eq.mpr c266
   have c266b1 : (t674 != t676) = false := bne_eq_false_iff_eq.mpr c266
   clear c266
   by_cases c267 : (t683 != t685) = true
   case pos =>
    rw [if_pos c267] at H
    exact nS H
   rw [if_neg c267] at H
   have c267b0 : (t683 != t685) = false := by simpa using c267
   (try (have c267b1 : decide (t683 = t685) = true := by simpa using c267))
   (try (have c267b2 : (t683 == t685) = true := by simpa using c267))
   clear c267
   by_cases c268 : t682 = t684
   case neg =>
    rw [if_neg c268] at H
    exact nS H
   rw [if_pos c268] at H
   have c268b0 : (t682 == t684) = true := beq_iff_eq.mpr c268
   have c268b1 : (t682 != t684) = false := bne_eq_false_iff_eq.mpr c268
   clear c268
   by_cases c269 : (t687 != t691) = true
   case pos =>
    rw [if_pos c269] at H
    exact nS H
   rw [if_neg c269] at H
   have c269b0 : (t687 != t691) = false := by simpa using c269
   (try (have c269b1 : decide (t687 = t691) = true := by simpa using c269))
   (try (have c269b2 : (t687 == t691) = true := by simpa using c269))
   clear c269
   replace H := oB H
   obtain ⟨t715, A2700, H⟩ := H
   (try dsimp only at H)
   have A270 := aM A2700
   clear A2700
   by_cases c271 : t715 = true
   case neg =>
    replace c271 := Bool.eq_false_iff.mpr c271
    subst c271
    have H1 : (none) = some r := by rw [if_neg (show ¬ (false = true) by decide)] at H; exact H
    clear H
    have H := H1
    clear H1
    exact nS H
   subst c271
   replace H := (if_pos rfl).symm.trans H
   by_cases c272 : (t699 != t703) = true
   case pos =>
    rw [if_pos c272] at H
    exact nS H
   rw [if_neg c272] at H
   have c272b0 : (t699 != t703) = false := by simpa using c272
   (try (have c272b1 : decide (t699 = t703) = true := by simpa using c272))
   (try (have c272b2 : (t699 == t703) = true := by simpa using c272))
   clear c272
   replace H := oB H
   obtain ⟨t716, A2730, H⟩ := H
   (try dsimp only at H)
   have A273 := aM A2730
   clear A2730
   by_cases c274 : t716 = true
   case neg =>
    replace c274 := Bool.eq_false_iff.mpr c274
    subst c274
    have H1 : (none) = some r := by rw [if_neg (show ¬ (false = true) by decide)] at H; exact H
    clear H
    have H := H1
    clear H1
    exact nS H
   subst c274
   replace H := (if_pos rfl).symm.trans H
   by_cases c275 : (t708 != t712) = true
   case pos =>
    rw [if_pos c275] at H
    exact nS H
   rw [if_neg c275] at H
   have c275b0 : (t708 != t712) = false := by simpa using c275
   (try (have c275b1 : decide (t708 = t712) = true := by simpa using c275))
   (try (have c275b2 : (t708 == t712) = true := by simpa using c275))
   clear c275
   replace H := oB H
   obtain ⟨t717, A2760, H⟩ := H
   (try dsimp only at H)
   have A276 := aM A2760
   clear A2760
   have H' := aM H
   clear H
   obtain ⟨Ao277, co277, eo277⟩ := Kd.R_slice HO689.out
   subst eo277
   obtain ⟨Ao278, co278, eo278⟩ := Kd.R_slice HO693.out
   subst eo278
   go_wp2_with (first | (go_at_call 21; (with_reducible refine (laws_gSame.calls kj157 _ _ t686 _ _ t690 true _ ?side1 ?side2 ?side3 ?side4 A270.out).mono ?_); (case side1 => exact cQ ((Kd.R_reads' HO689.out).2.2)); (case side2 => exact (Kd.R_reads' HO689.out).2.1); (case side3 => exact cQ ((Kd.R_reads' HO693.out).2.2)); (case side4 => exact (Kd.R_reads' HO693.out).2.1); rintro e w' ⟨rfl, ⟨nd, rfl⟩⟩; (try first | exact q1 | exact q2); obtain ⟨Ao279, co279, eo279⟩ := Kd.R_slice HO701.out; subst eo279; obtain ⟨Ao280, co280, eo280⟩ := Kd.R_slice HO705.out; subst eo280) | (go_at_call 21; (with_reducible refine (laws_gSame.calls kj157 _ _ t698 _ _ t702 true _ ?side1 ?side2 ?side3 ?side4 A273.out).mono ?_); (case side1 => exact cQ ((Kd.R_reads' HO701.out).2.2)); (case side2 => exact (Kd.R_reads' HO701.out).2.1); (case side3 => exact cQ ((Kd.R_reads' HO705.out).2.2)); (case side4 => exact (Kd.R_reads' HO705.out).2.1); rintro e w' ⟨rfl, ⟨nd, rfl⟩⟩; (try first | exact q1 | exact q2); obtain ⟨Ao281, co281, eo281⟩ := Kd.R_slice HO710.out; subst eo281; obtain ⟨Ao282, co282, eo282⟩ := Kd.R_slice HO714.out; subst eo282) | (go_at_call 21; (with_reducible refine (laws_gSame.calls kj157 _ _ t707 _ _ t711 t717 _ ?side1 ?side2 ?side3 ?side4 A276.out).mono ?_); (case side1 => exact cQ ((Kd.R_reads' HO710.out).2.2)); (case side2 => exact (Kd.R_reads' HO710.out).2.1); (case side3 => exact cQ ((Kd.R_reads' HO714.out).2.2)); (case side4 => exact (Kd.R_reads' HO714.out).2.1); rintro e w' ⟨rfl, ⟨nd, rfl⟩⟩; (try first | exact q1 | exact q2)))
   repeat (go_quiet (fail); try go_wp2)
   go_meet
   case rel => exact ⟨_, (!t717), eqQ, H', ⟨by have := HJ157.out; first | omega | exact Nat.le_refl _⟩, ⟨by (with_reducible repeat (first | apply Kd.R_alloc | apply Kd.R_drewN | apply Kd.R_drew)); exact Kd.R_mono HO673.out (fun _ hk => ⟨hk.1.1.1.1.1.1.1.2, ⟨hk.1.1.1.1.2, ⟨hk.1.1.1.2, hk.1.2⟩⟩⟩)⟩, ⟨by (with_reducible repeat (first | apply Kd.R_alloc | apply Kd.R_drewN | apply Kd.R_drew)); exact Kd.R_mono HO681.out (fun _ hk => ⟨hk.1.1.1.1.1.1.1.2, ⟨hk.1.1.1.1.2, ⟨hk.1.1.1.2, hk.1.2⟩⟩⟩)⟩, ⟨by (with_reducible repeat (first | apply Kd.R_alloc | apply Kd.R_drewN | apply Kd.R_drew)); exact Kd.R_mono HO697.out (fun _ hk => ⟨hk.1.1.1.1.1.1.1.2, ⟨hk.1.1.1.1.1.1.2, ⟨hk.1.1.1.2, hk.1.2⟩⟩⟩)⟩, ⟨by (with_reducible repeat (first | apply Kd.R_alloc | apply Kd.R_drewN | apply Kd.R_drew)); exact Kd.R_mono HO701.out (fun _ hk => ⟨hk.1.1.1.1.1.1.1.2, ⟨hk.1.1.1.1.1.1.2, ⟨hk.1.1.1.2, hk.1.2⟩⟩⟩)⟩, ⟨by (with_reducible repeat (first | apply Kd.R_alloc | apply Kd.R_drewN | apply Kd.R_drew)); exact Kd.R_mono HO710.out (fun _ hk => ⟨hk.1.1.1.1.1.1.1.2, ⟨hk.1.1.1.1.1.1.2, ⟨hk.1.1.1.2, hk.1.1.2⟩⟩⟩)⟩, ⟨bE HB.out⟩⟩
  case rest =>
   clear HC247
   obtain ⟨kq, x745_246, rfl, HA, HJ246, HO_55, HO_63, HO_73, HO_75, HO_80, HB⟩ := hcut
   cases kq with
   | zero => exact absurd HA.out (by simp [laws_FnAgesCompared.j10])
   | succ kj246 =>
    have H := HA.out
    clear HA
    simp only [laws_FnAgesCompared.j10] at H
    by_cases c283 : x745_246 = true
    case pos =>
     subst c283
     replace H := (if_pos rfl).symm.trans H
     exact nS H
    replace c283 := Bool.eq_false_iff.mpr c283
    subst c283
    have H1 : (if t675 = true then ((impl_AgesIn.f kj246 t668 t674).bind fun bt718 => (if bt718.2 = true then (if 0 ≤ t670 then (if t670 < (bt718.1.length : Int) then (if (rd bt718.1 t670) < 1 then (none) else (if 0 ≤ t669 then (if t669 < (bt718.1.length : Int) then (if (rd bt718.1 t669) = (wrap64 (t671 * (rd bt718.1 t670))) then (laws_FnAgesCompared.j11 kj246 t678 t679 t682 t683 t694 t698 t699 t706 t707 t708) else (none)) else (none)) else (none))) else (none)) else (none)) else (none))) else (laws_FnAgesCompared.j11 kj246 t678 t679 t682 t683 t694 t698 t699 t706 t707 t708)) = some r := by rw [if_neg (show ¬ (false = true) by decide)] at H; exact H
    clear H
    have H := H1
    clear H1
    have HC284 := aM H
    clear H
    go_upto_if 746 with (fail)
    repeat (go_quiet (fail); go_upto_if 746 with (fail))
    go_cut [] from 9999 (fun wc => ∃ (kq : Nat), Aside0 (laws_FnAgesCompared.j11 kq t678 t679 t682 t683 t694 t698 t699 t706 t707 t708 = some r) ∧ Aside0 (kq ≤ kj246) ∧ Aside0 (Kd.R (Kd.int .i64) 3 wc w.heap.size (fun k_ => some k_ ≠ ((.slice Ao259 t694.length co259) : Value).ownBlock ∧ some k_ ≠ (v700 : Value).ownBlock ∧ some k_ ≠ (v709 : Value).ownBlock) (.slice Ao253 t678.length co253) t678) ∧ Aside0 (Kd.R (Kd.int .i64) 3 wc w.heap.size (fun k_ => some k_ ≠ ((.slice Ao253 t678.length co253) : Value).ownBlock ∧ some k_ ≠ (v700 : Value).ownBlock ∧ some k_ ≠ (v709 : Value).ownBlock) (.slice Ao259 t694.length co259) t694) ∧ Aside0 (Kd.R (Kd.int .i64) 3 wc w.heap.size (fun k_ => some k_ ≠ ((.slice Ao253 t678.length co253) : Value).ownBlock ∧ some k_ ≠ ((.slice Ao259 t694.length co259) : Value).ownBlock ∧ some k_ ≠ (v709 : Value).ownBlock) v700 t698) ∧ Aside0 (Kd.R (Kd.int .i64) 3 wc w.heap.size (fun k_ => some k_ ≠ ((.slice Ao253 t678.length co253) : Value).ownBlock ∧ some k_ ≠ ((.slice Ao259 t694.length co259) : Value).ownBlock ∧ some k_ ≠ (v700 : Value).ownBlock) v709 t707) ∧ Aside0 (Below w.heap.size w wc))
    case first =>
     have H := HC284.out
     clear HC284
     by_cases c285 : t675 = true
     ·
      subst c285
      replace H := (if_pos rfl).symm.trans H
      replace H := oB H
      obtain ⟨⟨t718, t719⟩, A2860, H⟩ := H
      (try dsimp only at H)
      have A286 := aM A2860
      clear A2860
      by_cases c287 : t719 = true
      case neg =>
       replace c287 := Bool.eq_false_iff.mpr c287
       subst c287
       have H1 : (none) = some r := by rw [if_neg (show ¬ (false = true) by decide)] at H; exact H
       clear H
       have H := H1
       clear H1
       exact nS H
      subst c287
      replace H := (if_pos rfl).symm.trans H
      by_cases c288 : 0 ≤ t670
      case neg =>
       rw [if_neg c288] at H
       exact nS H
      rw [if_pos c288] at H
      have c288b0 : decide (0 ≤ t670) = true := decide_eq_true c288
      clear c288
      (first | rw [c288b0] | (simp only [i64_w, i32_w]; rw [c288b0]) | skip)
      by_cases c289 : t670 < (t718.length : Int)
      case neg =>
       rw [if_neg c289] at H
       exact nS H
      rw [if_pos c289] at H
      have c289b0 : decide (t670 < (t718.length : Int)) = true := decide_eq_true c289
      clear c289
      by_cases c290 : (rd t718 t670) < 1
      case pos =>
       rw [if_pos c290] at H
       exact nS H
      rw [if_neg c290] at H
      have c290b0 : decide ((rd t718 t670) < 1) = false := decide_eq_false c290
      clear c290
      by_cases c291 : 0 ≤ t669
      case neg =>
       rw [if_neg c291] at H
       exact nS H
      rw [if_pos c291] at H
      have c291b0 : decide (0 ≤ t669) = true := decide_eq_true c291
      clear c291
      by_cases c292 : t669 < (t718.length : Int)
      case neg =>
       rw [if_neg c292] at H
       exact nS H
      rw [if_pos c292] at H
      have c292b0 : decide (t669 < (t718.length : Int)) = true := decide_eq_true c292
      clear c292
      by_cases c293 : (rd t718 t669) = (wrap64 (t671 * (rd t718 t670)))
      case neg =>
       rw [if_neg c293] at H
       exact nS H
      rw [if_pos c293] at H
      have c293b0 : ((rd t718 t669) == (wrap64 (t671 * (rd t718 t670)))) = true := beq_iff_eq.mpr c293
      have c293q0 : ((rd t718 t669) == (IntKind.i64.wrap (t671 * (rd t718 t670)))) = true := by simp only [i64_w]; exact c293b0
      have c293b1 : ((rd t718 t669) != (wrap64 (t671 * (rd t718 t670)))) = false := bne_eq_false_iff_eq.mpr c293
      clear c293
      have H' := aM H
      clear H
      go_wp2_with (first | (go_at_call 22; (with_reducible refine (impl_AgesIn.calls kj246 _ _ t668 t674 t718 true _ ?side1 ?side2 A286.out).mono ?_); (case side1 => exact cQ ((Kd.R_reads' HO_55.out).2.2)); (case side2 => exact (Kd.R_reads' HO_55.out).2.1); rintro e w294 ⟨v720, rfl, ho0, hb⟩; have HO721 := aM (Kd.R_lower (Kd.R_new' (Kd.R_new' (Kd.R_new' (Kd.R_new' (Kd.R_new' ho0 (Kd.R_lt (rQ HO_55.out))) (Kd.R_lt (rQ HO_63.out))) (Kd.R_lt (rQ HO_73.out))) (Kd.R_lt (rQ HO_75.out))) (Kd.R_lt (rQ HO_80.out))) (bZ HB.out)); replace HO_55 := aM (Kd.R_elder' (rQ HO_55.out) (Kd.R_base ho0) hb); replace HO_63 := aM (Kd.R_elder' (rQ HO_63.out) (Kd.R_base ho0) hb); replace HO_73 := aM (Kd.R_elder' (rQ HO_73.out) (Kd.R_base ho0) hb); replace HO_75 := aM (Kd.R_elder' (rQ HO_75.out) (Kd.R_base ho0) hb); replace HO_80 := aM (Kd.R_elder' (rQ HO_80.out) (Kd.R_base ho0) hb); replace HB := aM (bS HB.out hb); (try clear hb ho0); obtain ⟨Ao295, co295, eo295⟩ := Kd.R_slice HO721.out; subst eo295; have p722 : 0 ≤ (t670 : Int) := dA; have q722 : t670 < (t718.length : Int) := dA; obtain ⟨ad722, e722, hx722_0⟩ := Kd.at_int (Kd.R_reads' HO721.out).2.2 t670 p722 q722; cases e722; replace p722 := eq_true p722; replace q722 := eq_true q722; have p723 : 0 ≤ (t669 : Int) := dA; have q723 : t669 < (t718.length : Int) := dA; obtain ⟨ad723, e723, hx723_0⟩ := Kd.at_int (Kd.R_reads' HO721.out).2.2 t669 p723 q723; obtain rfl : ad722 = ad723 := (by injection e723); replace p723 := eq_true p723; replace q723 := eq_true q723; have p724 : 0 ≤ (t670 : Int) := dA; have q724 : t670 < (t718.length : Int) := dA; obtain ⟨ad724, e724, hx724_0⟩ := Kd.at_int (Kd.R_reads' HO721.out).2.2 t670 p724 q724; obtain rfl : ad722 = ad724 := (by injection e724); replace p724 := eq_true p724; replace q724 := eq_true q724))
      repeat (go_quiet (fail); try go_wp2)
      go_meet
      case rel => exact ⟨_, H', ⟨by have := HJ157.out; have := HJ246.out; first | omega | exact Nat.le_refl _⟩, ⟨by (with_reducible repeat (first | apply Kd.R_alloc | apply Kd.R_drewN | apply Kd.R_drew)); exact Kd.R_mono HO_63.out (fun _ hk => ⟨hk.1.2.1, ⟨hk.1.2.2.1, hk.1.2.2.2⟩⟩)⟩, ⟨by (with_reducible repeat (first | apply Kd.R_alloc | apply Kd.R_drewN | apply Kd.R_drew)); exact Kd.R_mono HO_73.out (fun _ hk => ⟨hk.1.2.1, ⟨hk.1.2.2.1, hk.1.2.2.2⟩⟩)⟩, ⟨by (with_reducible repeat (first | apply Kd.R_alloc | apply Kd.R_drewN | apply Kd.R_drew)); exact Kd.R_mono HO_75.out (fun _ hk => ⟨hk.1.2.1, ⟨hk.1.2.2.1, hk.1.2.2.2⟩⟩)⟩, ⟨by (with_reducible repeat (first | apply Kd.R_alloc | apply Kd.R_drewN | apply Kd.R_drew)); exact Kd.R_mono HO_80.out (fun _ hk => ⟨hk.1.2.1, ⟨hk.1.2.2.1, hk.1.2.2.2⟩⟩)⟩, ⟨bE HB.out⟩⟩
     ·
      replace c285 := Bool.eq_false_iff.mpr c285
      subst c285
      have H1 : (laws_FnAgesCompared.j11 kj246 t678 t679 t682 t683 t694 t698 t699 t706 t707 t708) = some r := by rw [if_neg (show ¬ (false = true) by decide)] at H; exact H
      clear H
      have H := H1
      clear H1
      have H' := aM H
      clear H
      go_wp2
      repeat (go_quiet (fail); try go_wp2)
      go_meet
      case rel => exact ⟨_, H', ⟨by have := HJ157.out; have := HJ246.out; first | omega | exact Nat.le_refl _⟩, ⟨by (with_reducible repeat (first | apply Kd.R_alloc | apply Kd.R_drewN | apply Kd.R_drew)); exact Kd.R_mono HO_63.out (fun _ hk => ⟨hk.2.1, ⟨hk.2.2.1, hk.2.2.2⟩⟩)⟩, ⟨by (with_reducible repeat (first | apply Kd.R_alloc | apply Kd.R_drewN | apply Kd.R_drew)); exact Kd.R_mono HO_73.out (fun _ hk => ⟨hk.2.1, ⟨hk.2.2.1, hk.2.2.2⟩⟩)⟩, ⟨by (with_reducible repeat (first | apply Kd.R_alloc | apply Kd.R_drewN | apply Kd.R_drew)); exact Kd.R_mono HO_75.out (fun _ hk => ⟨hk.2.1, ⟨hk.2.2.1, hk.2.2.2⟩⟩)⟩, ⟨by (with_reducible repeat (first | apply Kd.R_alloc | apply Kd.R_drewN | apply Kd.R_drew)); exact Kd.R_mono HO_80.out (fun _ hk => ⟨hk.2.1, ⟨hk.2.2.1, hk.2.2.2⟩⟩)⟩, ⟨bE HB.out⟩⟩
    case rest =>
     clear HC284
     (try clear c283)
     obtain ⟨kq, HA, HJ283, HO_63, HO_73, HO_75, HO_80, HB⟩ := hcut
     go_step
     exact HT_j11 kq A0 c0 l0 A1 c1 l1 r w wc t678 t679 t682 t683 t694 t698 t699 t706 t707 t708 kj246 Ao259 Ao253 co259 co253 v700 v709 _ _ (by kernel_rfl) HR0 HC0 HR1 HC1 HT HA HJ283 HO_63 HO_73 HO_75 HO_80 HB (by kernel_rfl) rfl rfl rfl rfl rfl rfl rfl rfl rfl rfl
end Go.Proofs.YtcfgkpifloghlaaGreatDoor.P
