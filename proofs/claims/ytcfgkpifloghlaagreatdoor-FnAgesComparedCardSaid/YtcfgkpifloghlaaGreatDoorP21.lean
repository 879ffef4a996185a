-- Written by drive.py (wip/ of this repository) over the kit's print: functions, contracts, rows. Lean checks it. -- SQUEEZED
import Derived.Test.YtcfgkpifloghlaaGreatDoorP16
namespace Go.Proofs.YtcfgkpifloghlaaGreatDoor.P
open Go.RowKit Go.Proofs.YtcfgkpifloghlaaGreatDoorW.PrintWords Go.Proofs.YtcfgkpifloghlaaGreatDoorW.PrintLast Go.Proofs.YtcfgkpifloghlaaGreatDoorW.PrintMore
attribute [local go_sem] max2_int min2_int max_two min_two max_three min_three max_four min_four undef_guard   -- for this text's walks alone
set_option linter.unusedVariables false
set_option maxHeartbeats 800000000
set_option maxRecDepth 100000
set_option linter.unusedSimpArgs false

theorem laws_FnAgesCompared.calls0 (HT_j2 : laws_FnAgesCompared.Tj2) (k : Nat) (A0 : Option Addr) (c0 : Nat) (l0 : List Int) (A1 : Option Addr) (c1 : Nat) (l1 : List Int) (r : Bool) (w : World) (hr0 : Kd.C (Kd.int .u8) w A0 l0.length l0) (hc0 : l0.length ≤ c0) (hr1 : Kd.C (Kd.int .u8) w A1 l1.length l1) (hc1 : l1.length ≤ c1) (hT : Tabs2 w) (h : laws_FnAgesCompared.f k l0 l1 = some r) :
  Calls Tryz.prog 3 #[.slice A0 l0.length c0, .slice A1 l1.length c1] w fun e w' => e = .returned (.bool r) ∧ Below w.heap.size w w' := by
 have HT := aM hT
 clear hT
 have HR0 := aM hr0
 have HC0 := aM hc0
 clear hr0 hc0
 have HR1 := aM hr1
 have HC1 := aM hc1
 clear hr1 hc1
 have HB := aM (Below.refl w.heap.size w)
 have H : ((laws_big.f l0 l1).bind fun t536 => (if t536 = true then (some true) else ((spec_DrawAllMultiples.f k l0).bind fun bt537 => ((impl_AllMultiples.f k bt537.1 bt537.2.1 bt537.2.2).bind fun bt542 => ((spec_AllMultiples.f k bt537.1 bt537.2.1 bt537.2.2).bind fun bt546 => ((impl_TimesOlder.f k bt537.1 bt537.2.1 bt537.2.2).bind fun bt550 => ((spec_TimesOlder.f k bt537.1 bt537.2.1 bt537.2.2).bind fun bt553 => ((impl_OrderOfAges.f bt537.1).bind fun bt556 => ((spec_OrderOfAges.f k bt537.1).bind fun bt560 => ((impl_GapsOfAges.f k bt537.1).bind fun bt564 => ((spec_GapsOfAges.f k bt537.1).bind fun bt568 => ((impl_AlikePairs.f k bt537.1).bind fun bt572 => ((spec_AlikePairs.f k bt537.1).bind fun bt576 => ((impl_AgesText.f k bt537.1).bind fun bt580 => ((spec_AgesText.f k bt537.1).bind fun bt582 => ((impl_MeanAge.f k bt537.1).bind fun bt584 => ((spec_MeanAge.f k bt537.1).bind fun bt587 => (if (bt542.2 != bt546.2) = true then (none) else ((laws_gRows.f k bt542.1 bt546.1).bind fun t590 => (if t590 = true then (if (bt550.2.2 != bt553.2.2) = true then (none) else (if bt550.1 = bt553.1 then (if bt550.2.1 = bt553.2.1 then (if (bt556.2 != bt560.2) = true then (none) else ((laws_gSame.f k bt556.1 bt560.1).bind fun t591 => (if t591 = true then (if (bt564.2 != bt568.2) = true then (none) else ((laws_gSame.f k bt564.1 bt568.1).bind fun t592 => (if t592 = true then (if (bt572.2 != bt576.2) = true then (none) else ((laws_gRows.f k bt572.1 bt576.1).bind fun t593 => (if t593 = true then (if (bt580.2 != bt582.2) = true then (none) else (if bt580.1.toList = bt582.1.toList then (if (bt584.2.2 != bt587.2.2) = true then (none) else (if bt584.1 = bt587.1 then (if bt584.2.1 = bt587.2.1 then (if (bt564.2 != bt556.2) = true then (none) else (if (bt572.2 != bt556.2) = true then (none) else (if (bt580.2 != bt556.2) = true then (none) else (if (bt584.2.2 != bt556.2) = true then (none) else (if bt542.2 = true then (if bt556.2 = true then (if bt550.2.2 = true then (laws_FnAgesCompared.j0 k l1 bt537.1 bt537.2.1 bt537.2.2 bt542.1 bt542.2 bt550.1 bt550.2.1 bt550.2.2 bt556.1 bt556.2 bt564.1 bt572.1 bt580.1 bt584.1 bt584.2.1 (!bt556.2)) else (laws_FnAgesCompared.j0 k l1 bt537.1 bt537.2.1 bt537.2.2 bt542.1 bt542.2 bt550.1 bt550.2.1 bt550.2.2 bt556.1 bt556.2 bt564.1 bt572.1 bt580.1 bt584.1 bt584.2.1 false)) else (none)) else (if bt550.2.2 = true then (laws_FnAgesCompared.j0 k l1 bt537.1 bt537.2.1 bt537.2.2 bt542.1 bt542.2 bt550.1 bt550.2.1 bt550.2.2 bt556.1 bt556.2 bt564.1 bt572.1 bt580.1 bt584.1 bt584.2.1 (!bt556.2)) else (laws_FnAgesCompared.j0 k l1 bt537.1 bt537.2.1 bt537.2.2 bt542.1 bt542.2 bt550.1 bt550.2.1 bt550.2.2 bt556.1 bt556.2 bt564.1 bt572.1 bt580.1 bt584.1 bt584.2.1 false))))))) else (none)) else (none))) else (none))) else (none)))) else (none)))) else (none)))) else (none)) else (none))) else (none))))))))))))))))))))) = some r := h
 clear h
 replace H := oB H
 obtain ⟨t536, A30, H⟩ := H
 (try dsimp only at H)
 have A3 := aM A30
 clear A30
 by_cases c4 : t536 = true
 case pos =>
  subst c4
  replace H := (if_pos rfl).symm.trans H
  obtain rfl := Option.some.inj H
  go_enter Tryz.func3, Tryz.ntmps3
  go_wp2_with (first | (go_at_call 4; (with_reducible refine (laws_big.calls _ _ l0 _ _ l1 true _ ?side1 ?side2 ?side3 ?side4 A3.out).mono ?_); (case side1 => exact cQ HR0.out); (case side2 => exact HC0.out); (case side3 => exact cQ HR1.out); (case side4 => exact HC1.out); rintro e w' ⟨rfl, ⟨nd, rfl⟩⟩; (try first | exact q1 | exact q2)))
  repeat (go_quiet (fail); try go_wp2)
  go_ret
  exact ⟨erQ, bE HB.out⟩
 replace c4 := Bool.eq_false_iff.mpr c4
 subst c4
 have H1 : ((spec_DrawAllMultiples.f k l0).bind fun bt537 => ((impl_AllMultiples.f k bt537.1 bt537.2.1 bt537.2.2).bind fun bt542 => ((spec_AllMultiples.f k bt537.1 bt537.2.1 bt537.2.2).bind fun bt546 => ((impl_TimesOlder.f k bt537.1 bt537.2.1 bt537.2.2).bind fun bt550 => ((spec_TimesOlder.f k bt537.1 bt537.2.1 bt537.2.2).bind fun bt553 => ((impl_OrderOfAges.f bt537.1).bind fun bt556 => ((spec_OrderOfAges.f k bt537.1).bind fun bt560 => ((impl_GapsOfAges.f k bt537.1).bind fun bt564 => ((spec_GapsOfAges.f k bt537.1).bind fun bt568 => ((impl_AlikePairs.f k bt537.1).bind fun bt572 => ((spec_AlikePairs.f k bt537.1).bind fun bt576 => ((impl_AgesText.f k bt537.1).bind fun bt580 => ((spec_AgesText.f k bt537.1).bind fun bt582 => ((impl_MeanAge.f k bt537.1).bind fun bt584 => ((spec_MeanAge.f k bt537.1).bind fun bt587 => (if (bt542.2 != bt546.2) = true then (none) else ((laws_gRows.f k bt542.1 bt546.1).bind fun t590 => (if t590 = true then (if (bt550.2.2 != bt553.2.2) = true then (none) else (if bt550.1 = bt553.1 then (if bt550.2.1 = bt553.2.1 then (if (bt556.2 != bt560.2) = true then (none) else ((laws_gSame.f k bt556.1 bt560.1).bind fun t591 => (if t591 = true then (if (bt564.2 != bt568.2) = true then (none) else ((laws_gSame.f k bt564.1 bt568.1).bind fun t592 => (if t592 = true then (if (bt572.2 != bt576.2) = true then (none) else ((laws_gRows.f k bt572.1 bt576.1).bind fun t593 => (if t593 = true then (if (bt580.2 != bt582.2) = true then (none) else (if bt580.1.toList = bt582.1.toList then (if (bt584.2.2 != bt587.2.2) = true then (none) else (if bt584.1 = bt587.1 then (if bt584.2.1 = bt587.2.1 then (if (bt564.2 != bt556.2) = true then (none) else (if (bt572.2 != bt556.2) = true then (none) else (if (bt580.2 != bt556.2) = true then (none) else (if (bt584.2.2 != bt556.2) = true then (none) else (if bt542.2 = true then (if bt556.2 = true then (if bt550.2.2 = true then (laws_FnAgesCompared.j0 k l1 bt537.1 bt537.2.1 bt537.2.2 bt542.1 bt542.2 bt550.1 bt550.2.1 bt550.2.2 bt556.1 bt556.2 bt564.1 bt572.1 bt580.1 bt584.1 bt584.2.1 (!bt556.2)) else (laws_FnAgesCompared.j0 k l1 bt537.1 bt537.2.1 bt537.2.2 bt542.1 bt542.2 bt550.1 bt550.2.1 bt550.2.2 bt556.1 bt556.2 bt564.1 bt572.1 bt580.1 bt584.1 bt584.2.1 false)) else (none)) else (if bt550.2.2 = true then (laws_FnAgesCompared.j0 k l1 bt537.1 bt537.2.1 bt537.2.2 bt542.1 bt542.2 bt550.1 bt550.2.1 bt550.2.2 bt556.1 bt556.2 bt564.1 bt572.1 bt580.1 bt584.1 bt584.2.1 (!bt556.2)) else (laws_FnAgesCompared.j0 k l1 bt537.1 bt537.2.1 bt537.2.2 bt542.1 bt542.2 bt550.1 bt550.2.1 bt550.2.2 bt556.1 bt556.2 bt564.1 bt572.1 bt580.1 bt584.1 bt584.2.1 false))))))) else (none)) else (none))) else (none))) else (none)))) else (none)))) else (none)))) else (none)) else (none))) else (none))))))))))))))))))) = some r := by rw [if_neg (show ¬ (false = true) by decide)] at H; exact H
 clear H
 have H := H1
 clear H1
 replace H := oB H
 obtain ⟨⟨t537, t538, t539⟩, A50, H⟩ := H
 (try dsimp only at H)
 have A5 := aM A50
 clear A50
 replace H := oB H
 obtain ⟨⟨t542, t543⟩, A60, H⟩ := H
 (try dsimp only at H)
 have A6 := aM A60
 clear A60
 replace H := oB H
 obtain ⟨⟨t546, t547⟩, A70, H⟩ := H
 (try dsimp only at H)
 have A7 := aM A70
 clear A70
 replace H := oB H
 obtain ⟨⟨t550, t551, t552⟩, A80, H⟩ := H
 (try dsimp only at H)
 have A8 := aM A80
 clear A80
 replace H := oB H
 obtain ⟨⟨t553, t554, t555⟩, A90, H⟩ := H
 (try dsimp only at H)
 have A9 := aM A90
 clear A90
 replace H := oB H
 obtain ⟨⟨t556, t557⟩, A100, H⟩ := H
 (try dsimp only at H)
 have A10 := aM A100
 clear A100
 replace H := oB H
 obtain ⟨⟨t560, t561⟩, A110, H⟩ := H
 (try dsimp only at H)
 have A11 := aM A110
 clear A110
 replace H := oB H
 obtain ⟨⟨t564, t565⟩, A120, H⟩ := H
 (try dsimp only at H)
 have A12 := aM A120
 clear A120
 replace H := oB H
 obtain ⟨⟨t568, t569⟩, A130, H⟩ := H
 (try dsimp only at H)
 have A13 := aM A130
 clear A130
 replace H := oB H
 obtain ⟨⟨t572, t573⟩, A140, H⟩ := H
 (try dsimp only at H)
 have A14 := aM A140
 clear A140
 replace H := oB H
 obtain ⟨⟨t576, t577⟩, A150, H⟩ := H
 (try dsimp only at H)
 have A15 := aM A150
 clear A150
 replace H := oB H
 obtain ⟨⟨t580, t581⟩, A160, H⟩ := H
 (try dsimp only at H)
 have A16 := aM A160
 clear A160
 replace H := oB H
 obtain ⟨⟨t582, t583⟩, A170, H⟩ := H
 (try dsimp only at H)
 have A17 := aM A170
 clear A170
 replace H := oB H
 obtain ⟨⟨t584, t585, t586⟩, A180, H⟩ := H
 (try dsimp only at H)
 have A18 := aM A180
 clear A180
 replace H := oB H
 obtain ⟨⟨t587, t588, t589⟩, A190, H⟩ := H
 (try dsimp only at H)
 have A19 := aM A190
 clear A190
 have HC20 := aM H
 clear H
 go_enter Tryz.func3, Tryz.ntmps3
 go_upto_region 18 with (first | (go_at_call 4; (with_reducible refine (laws_big.calls _ _ l0 _ _ l1 false _ ?side1 ?side2 ?side3 ?side4 A3.out).mono ?_); (case side1 => exact cQ HR0.out); (case side2 => exact HC0.out); (case side3 => exact cQ HR1.out); (case side4 => exact HC1.out); rintro e w' ⟨rfl, ⟨nd, rfl⟩⟩; (try first | exact q1 | exact q2)) | (go_at_call 5; (with_reducible refine (spec_DrawAllMultiples.calls k _ _ l0 t537 t538 t539 _ ?side1 ?side2 A5.out).mono ?_); (case side1 => exact cQ HR0.out); (case side2 => exact HC0.out); rintro e w21 ⟨v540, rfl, ho0, hb⟩; have HO541 := aM (Kd.R_lower ho0 (bZ HB.out)); replace HB := aM (bS HB.out hb); (try clear hb ho0); obtain ⟨Ao22, co22, eo22⟩ := Kd.R_slice HO541.out; subst eo22) | (go_at_call 6; (with_reducible refine (impl_AllMultiples.calls k _ _ t537 t538 t539 t542 t543 _ ?side1 ?side2 A6.out).mono ?_); (case side1 => exact cQ ((Kd.R_reads' HO541.out).2.2)); (case side2 => exact (Kd.R_reads' HO541.out).2.1); rintro e w23 ⟨v544, rfl, ho0, hb⟩; have HO545 := aM (Kd.S_lower (Kd.S_new' ho0 (Kd.R_lt (rQ HO541.out))) (bZ HB.out)); replace HO541 := aM (Kd.R_below (rQ HO541.out) hb); replace HB := aM (bS HB.out hb); (try clear hb ho0)) | (go_at_call 7; (with_reducible refine (spec_AllMultiples.calls k _ _ t537 t538 t539 t546 t547 _ ?side1 ?side2 A7.out).mono ?_); (case side1 => exact cQ ((Kd.R_reads' HO541.out).2.2)); (case side2 => exact (Kd.R_reads' HO541.out).2.1); rintro e w24 ⟨v548, rfl, ho0, hb⟩; have HO549 := aM (Kd.S_lower (Kd.S_new' (Kd.S_new' ho0 (Kd.R_lt (rQ HO541.out))) (Kd.S_lt (sQ HO545.out))) (bZ HB.out)); replace HO541 := aM (Kd.R_below (rQ HO541.out) hb); replace HO545 := aM (Kd.S_elder' (sQ HO545.out) (Kd.S_base ho0) hb); replace HB := aM (bS HB.out hb); (try clear hb ho0)) | (go_at_call 8; (with_reducible refine (impl_TimesOlder.calls k _ _ t537 t538 t539 t550 t551 t552 _ ?side1 ?side2 A8.out).mono ?_); (case side1 => exact cQ ((Kd.R_reads' HO541.out).2.2)); (case side2 => exact (Kd.R_reads' HO541.out).2.1); rintro e w25 ⟨rfl, hb⟩; replace HO541 := aM (Kd.R_below (rQ HO541.out) hb); replace HO545 := aM (Kd.S_below (sQ HO545.out) hb); replace HO549 := aM (Kd.S_below (sQ HO549.out) hb); replace HB := aM (bS HB.out hb); (try clear hb)) | (go_at_call 9; (with_reducible refine (spec_TimesOlder.calls k _ _ t537 t538 t539 t553 t554 t555 _ ?side1 ?side2 A9.out).mono ?_); (case side1 => exact cQ ((Kd.R_reads' HO541.out).2.2)); (case side2 => exact (Kd.R_reads' HO541.out).2.1); rintro e w' ⟨rfl, ⟨nd, rfl⟩⟩; (try first | exact q1 | exact q2)) | (go_at_call 10; (with_reducible refine (impl_OrderOfAges.calls _ _ t537 t556 t557 _ ?side1 ?side2 A10.out).mono ?_); (case side1 => exact cQ ((Kd.R_reads' HO541.out).2.2)); (case side2 => exact (Kd.R_reads' HO541.out).2.1); rintro e w26 ⟨v558, rfl, ho0, hb⟩; replace HO545 := aM (Kd.S_elder' (sQ HO545.out) (Kd.R_base ho0) hb); replace HO549 := aM (Kd.S_elder' (sQ HO549.out) (Kd.R_base ho0) hb); have HO559 := aM (Kd.R_lower (Kd.R_new' ho0 (Kd.R_lt (rQ HO541.out))) (bZ HB.out)); replace HO541 := aM (Kd.R_elder' (rQ HO541.out) (Kd.R_base ho0) hb); replace HB := aM (bS HB.out hb); (try clear hb ho0)) | (go_at_call 11; (with_reducible refine (spec_OrderOfAges.calls k _ _ t537 t560 t561 _ ?side1 ?side2 A11.out).mono ?_); (case side1 => exact cQ ((Kd.R_reads' HO541.out).2.2)); (case side2 => exact (Kd.R_reads' HO541.out).2.1); rintro e w27 ⟨v562, rfl, ho0, hb⟩; replace HO545 := aM (Kd.S_elder' (sQ HO545.out) (Kd.R_base ho0) hb); replace HO549 := aM (Kd.S_elder' (sQ HO549.out) (Kd.R_base ho0) hb); have HO563 := aM (Kd.R_lower (Kd.R_new' (Kd.R_new' ho0 (Kd.R_lt (rQ HO541.out))) (Kd.R_lt (rQ HO559.out))) (bZ HB.out)); replace HO541 := aM (Kd.R_elder' (rQ HO541.out) (Kd.R_base ho0) hb); replace HO559 := aM (Kd.R_elder' (rQ HO559.out) (Kd.R_base ho0) hb); replace HB := aM (bS HB.out hb); (try clear hb ho0)) | (go_at_call 12; (with_reducible refine (impl_GapsOfAges.calls k _ _ t537 t564 t565 _ ?side1 ?side2 A12.out).mono ?_); (case side1 => exact cQ ((Kd.R_reads' HO541.out).2.2)); (case side2 => exact (Kd.R_reads' HO541.out).2.1); rintro e w28 ⟨v566, rfl, ho0, hb⟩; replace HO545 := aM (Kd.S_elder' (sQ HO545.out) (Kd.R_base ho0) hb); replace HO549 := aM (Kd.S_elder' (sQ HO549.out) (Kd.R_base ho0) hb); have HO567 := aM (Kd.R_lower (Kd.R_new' (Kd.R_new' (Kd.R_new' ho0 (Kd.R_lt (rQ HO541.out))) (Kd.R_lt (rQ HO559.out))) (Kd.R_lt (rQ HO563.out))) (bZ HB.out)); replace HO541 := aM (Kd.R_elder' (rQ HO541.out) (Kd.R_base ho0) hb); replace HO559 := aM (Kd.R_elder' (rQ HO559.out) (Kd.R_base ho0) hb); replace HO563 := aM (Kd.R_elder' (rQ HO563.out) (Kd.R_base ho0) hb); replace HB := aM (bS HB.out hb); (try clear hb ho0)) | (go_at_call 13; (with_reducible refine (spec_GapsOfAges.calls k _ _ t537 t568 t569 _ ?side1 ?side2 A13.out).mono ?_); (case side1 => exact cQ ((Kd.R_reads' HO541.out).2.2)); (case side2 => exact (Kd.R_reads' HO541.out).2.1); rintro e w29 ⟨v570, rfl, ho0, hb⟩; replace HO545 := aM (Kd.S_elder' (sQ HO545.out) (Kd.R_base ho0) hb); replace HO549 := aM (Kd.S_elder' (sQ HO549.out) (Kd.R_base ho0) hb); have HO571 := aM (Kd.R_lower (Kd.R_new' (Kd.R_new' (Kd.R_new' (Kd.R_new' ho0 (Kd.R_lt (rQ HO541.out))) (Kd.R_lt (rQ HO559.out))) (Kd.R_lt (rQ HO563.out))) (Kd.R_lt (rQ HO567.out))) (bZ HB.out)); replace HO541 := aM (Kd.R_elder' (rQ HO541.out) (Kd.R_base ho0) hb); replace HO559 := aM (Kd.R_elder' (rQ HO559.out) (Kd.R_base ho0) hb); replace HO563 := aM (Kd.R_elder' (rQ HO563.out) (Kd.R_base ho0) hb); replace HO567 := aM (Kd.R_elder' (rQ HO567.out) (Kd.R_base ho0) hb); replace HB := aM (bS HB.out hb); (try clear hb ho0)) | (go_at_call 14; (with_reducible refine (impl_AlikePairs.calls k _ _ t537 t572 t573 _ ?side1 ?side2 A14.out).mono ?_); (case side1 => exact cQ ((Kd.R_reads' HO541.out).2.2)); (case side2 => exact (Kd.R_reads' HO541.out).2.1); rintro e w30 ⟨v574, rfl, ho0, hb⟩; have HO575 := aM (Kd.S_lower (Kd.S_new' (Kd.S_new' (Kd.S_new' (Kd.S_new' (Kd.S_new' (Kd.S_new' (Kd.S_new' ho0 (Kd.R_lt (rQ HO541.out))) (Kd.S_lt (sQ HO545.out))) (Kd.S_lt (sQ HO549.out))) (Kd.R_lt (rQ HO559.out))) (Kd.R_lt (rQ HO563.out))) (Kd.R_lt (rQ HO567.out))) (Kd.R_lt (rQ HO571.out))) (bZ HB.out)); replace HO541 := aM (Kd.R_below (rQ HO541.out) hb); replace HO545 := aM (Kd.S_elder' (sQ HO545.out) (Kd.S_base ho0) hb); replace HO549 := aM (Kd.S_elder' (sQ HO549.out) (Kd.S_base ho0) hb); replace HO559 := aM (Kd.R_below (rQ HO559.out) hb); replace HO563 := aM (Kd.R_below (rQ HO563.out) hb); replace HO567 := aM (Kd.R_below (rQ HO567.out) hb); replace HO571 := aM (Kd.R_below (rQ HO571.out) hb); replace HB := aM (bS HB.out hb); (try clear hb ho0)) | (go_at_call 15; (with_reducible refine (spec_AlikePairs.calls k _ _ t537 t576 t577 _ ?side1 ?side2 A15.out).mono ?_); (case side1 => exact cQ ((Kd.R_reads' HO541.out).2.2)); (case side2 => exact (Kd.R_reads' HO541.out).2.1); rintro e w31 ⟨v578, rfl, ho0, hb⟩; have HO579 := aM (Kd.S_lower (Kd.S_new' (Kd.S_new' (Kd.S_new' (Kd.S_new' (Kd.S_new' (Kd.S_new' (Kd.S_new' (Kd.S_new' ho0 (Kd.R_lt (rQ HO541.out))) (Kd.S_lt (sQ HO545.out))) (Kd.S_lt (sQ HO549.out))) (Kd.R_lt (rQ HO559.out))) (Kd.R_lt (rQ HO563.out))) (Kd.R_lt (rQ HO567.out))) (Kd.R_lt (rQ HO571.out))) (Kd.S_lt (sQ HO575.out))) (bZ HB.out)); replace HO541 := aM (Kd.R_below (rQ HO541.out) hb); replace HO545 := aM (Kd.S_elder' (sQ HO545.out) (Kd.S_base ho0) hb); replace HO549 := aM (Kd.S_elder' (sQ HO549.out) (Kd.S_base ho0) hb); replace HO559 := aM (Kd.R_below (rQ HO559.out) hb); replace HO563 := aM (Kd.R_below (rQ HO563.out) hb); replace HO567 := aM (Kd.R_below (rQ HO567.out) hb); replace HO571 := aM (Kd.R_below (rQ HO571.out) hb); replace HO575 := aM (Kd.S_elder' (sQ HO575.out) (Kd.S_base ho0) hb); replace HB := aM (bS HB.out hb); (try clear hb ho0)) | (go_at_call 16; (with_reducible refine (impl_AgesText.calls k _ _ t537 t580 t581 _ ?side1 ?side2 (tabs12_at HT.out (by repeat (first | (with_reducible first | exact HB.out | apply below_alloc | apply pw_below_drewN | apply below_drew1 | exact Below.refl _ _) | exact HB.out))) A16.out).mono ?_); (case side1 => exact cQ ((Kd.R_reads' HO541.out).2.2)); (case side2 => exact (Kd.R_reads' HO541.out).2.1); rintro e w32 ⟨rfl, hb⟩; replace HO541 := aM (Kd.R_below (rQ HO541.out) hb); replace HO545 := aM (Kd.S_below (sQ HO545.out) hb); replace HO549 := aM (Kd.S_below (sQ HO549.out) hb); replace HO559 := aM (Kd.R_below (rQ HO559.out) hb); replace HO563 := aM (Kd.R_below (rQ HO563.out) hb); replace HO567 := aM (Kd.R_below (rQ HO567.out) hb); replace HO571 := aM (Kd.R_below (rQ HO571.out) hb); replace HO575 := aM (Kd.S_below (sQ HO575.out) hb); replace HO579 := aM (Kd.S_below (sQ HO579.out) hb); replace HB := aM (bS HB.out hb); (try clear hb)) | (go_at_call 17; (with_reducible refine (spec_AgesText.calls k _ _ t537 t582 t583 _ ?side1 ?side2 A17.out).mono ?_); (case side1 => exact cQ ((Kd.R_reads' HO541.out).2.2)); (case side2 => exact (Kd.R_reads' HO541.out).2.1); rintro e w33 ⟨rfl, hb⟩; replace HO541 := aM (Kd.R_below (rQ HO541.out) hb); replace HO545 := aM (Kd.S_below (sQ HO545.out) hb); replace HO549 := aM (Kd.S_below (sQ HO549.out) hb); replace HO559 := aM (Kd.R_below (rQ HO559.out) hb); replace HO563 := aM (Kd.R_below (rQ HO563.out) hb); replace HO567 := aM (Kd.R_below (rQ HO567.out) hb); replace HO571 := aM (Kd.R_below (rQ HO571.out) hb); replace HO575 := aM (Kd.S_below (sQ HO575.out) hb); replace HO579 := aM (Kd.S_below (sQ HO579.out) hb); replace HB := aM (bS HB.out hb); (try clear hb)) | (go_at_call 18; (with_reducible refine (impl_MeanAge.calls k _ _ t537 t584 t585 t586 _ ?side1 ?side2 A18.out).mono ?_); (case side1 => exact cQ ((Kd.R_reads' HO541.out).2.2)); (case side2 => exact (Kd.R_reads' HO541.out).2.1); rintro e w34 ⟨rfl, hb⟩; replace HO541 := aM (Kd.R_below (rQ HO541.out) hb); replace HO545 := aM (Kd.S_below (sQ HO545.out) hb); replace HO549 := aM (Kd.S_below (sQ HO549.out) hb); replace HO559 := aM (Kd.R_below (rQ HO559.out) hb); replace HO563 := aM (Kd.R_below (rQ HO563.out) hb); replace HO567 := aM (Kd.R_below (rQ HO567.out) hb); replace HO571 := aM (Kd.R_below (rQ HO571.out) hb); replace HO575 := aM (Kd.S_below (sQ HO575.out) hb); replace HO579 := aM (Kd.S_below (sQ HO579.out) hb); replace HB := aM (bS HB.out hb); (try clear hb)) | (go_at_call 19; (with_reducible refine (spec_MeanAge.calls k _ _ t537 t587 t588 t589 _ ?side1 ?side2 A19.out).mono ?_); (case side1 => exact cQ ((Kd.R_reads' HO541.out).2.2)); (case side2 => exact (Kd.R_reads' HO541.out).2.1); rintro e w' ⟨rfl, ⟨nd, rfl⟩⟩; (try first | exact q1 | exact q2)))
 repeat (go_quiet (fail); try go_wp2)
 (try simp only [Act.put, List.setIfInBounds_toArray, List.set_cons_zero, List.set_cons_succ])
 go_cut [298] from 9999 (fun v298_s wc => ∃ (kq : Nat) (x298_19 : Bool), v298_s = .bool x298_19 ∧ Aside0 (laws_FnAgesCompared.j0 kq l1 t537 t538 t539 t542 t543 t550 t551 t552 t556 t557 t564 t572 t580 t584 t585 x298_19 = some r) ∧ Aside0 (kq ≤ k) ∧ Aside0 (Kd.R (Kd.int .i64) 3 wc w.heap.size (fun k_ => some k_ ≠ (v558 : Value).ownBlock ∧ some k_ ≠ (v566 : Value).ownBlock) (.slice Ao22 t537.length co22) t537) ∧ Aside0 (Kd.S (Kd.slice 3 (Kd.int .i64)) 24 wc w.heap.size (fun k_ => some k_ ≠ ((.slice Ao22 t537.length co22) : Value).ownBlock ∧ some k_ ≠ (v558 : Value).ownBlock ∧ some k_ ≠ (v566 : Value).ownBlock ∧ some k_ ≠ (v574 : Value).ownBlock) v544 t542) ∧ Aside0 (Kd.R (Kd.int .i64) 3 wc w.heap.size (fun k_ => some k_ ≠ ((.slice Ao22 t537.length co22) : Value).ownBlock ∧ some k_ ≠ (v566 : Value).ownBlock) v558 t556) ∧ Aside0 (Kd.R (Kd.int .i64) 3 wc w.heap.size (fun k_ => some k_ ≠ ((.slice Ao22 t537.length co22) : Value).ownBlock ∧ some k_ ≠ (v558 : Value).ownBlock) v566 t564) ∧ Aside0 (Kd.S (Kd.slice 3 (Kd.int .i64)) 24 wc w.heap.size (fun k_ => some k_ ≠ ((.slice Ao22 t537.length co22) : Value).ownBlock ∧ some k_ ≠ (v544 : Value).ownBlock ∧ some k_ ≠ (v558 : Value).ownBlock ∧ some k_ ≠ (v566 : Value).ownBlock) v574 t572) ∧ Aside0 (Below w.heap.size w wc))
 case first =>
  as_aux_lemma =>
   dsimp only [List.append]
   have H := HC20.out
   clear HC20
   by_cases c35 : (t543 != t547) = true
   case pos =>
    rw [if_pos c35] at H
    exact nS H
   rw [if_neg c35] at H
   have c35b0 : (t543 != t547) = false := by simpa using c35
   (try (have c35b1 : decide (t543 = t547) = true := by simpa using c35))
   (try (have c35b2 : (t543 == t547) = true := by simpa using c35))
   clear c35
   (first | rw [c35b0] | (simp only [i64_w, i32_w]; rw [c35b0]) | skip)
   replace H := oB H
   obtain ⟨t590, A360, H⟩ := H
   (try dsimp only at H)
   have A36 := aM A360
   clear A360
   by_cases c37 : t590 = true
   case neg =>
    replace c37 := Bool.eq_false_iff.mpr c37
    subst c37
    have H1 : (none) = some r := by rw [if_neg (show ¬ (false = true) by decide)] at H; exact H
    clear H
    have H := H1
    clear H1
    exact nS H
   subst c37
   replace H := (if_pos rfl).symm.trans H
   by_cases c38 : (t552 != t555) = true
   case pos =>
    rw [if_pos c38] at H
    exact nS H
   rw [if_neg c38] at H
   have c38b0 : (t552 != t555) = false := by simpa using c38
   (try (have c38b1 : decide (t552 = t555) = true := by simpa using c38))
   (try (have c38b2 : (t552 == t555) = true := by simpa using c38))
   clear c38
   by_cases c39 : t550 = t553
   case neg =>
    rw [if_neg c39] at H
    exact nS H
   rw [if_pos c39] at H
   have c39b0 : (t550 == t553) = true := beq_iff_eq.mpr c39
   have c39b1 : (t550 != t553) = false := bne_eq_false_iff_eq.mpr c39
   clear c39
   by_cases c40 : t551 = t554
   case neg =>
    rw [if_neg c40] at H
    exact nS H
   rw [if_pos c40] at H
   have c40b0 : (t551 == t554) = true := beq_iff_eq.mpr c40
   have c40b1 : (t551 != t554) = false := bne_eq_false_iff_eq.mpr c40
   clear c40
   by_cases c41 : (t557 != t561) = true
   case pos =>
    rw [if_pos c41] at H
    exact nS H
   rw [if_neg c41] at H
   have c41b0 : (t557 != t561) = false := by simpa using c41
   (try (have c41b1 : decide (t557 = t561) = true := by simpa using c41))
   (try (have c41b2 : (t557 == t561) = true := by simpa using c41))
   clear c41
   replace H := oB H
   obtain ⟨t591, A420, H⟩ := H
   (try dsimp only at H)
   have A42 := aM A420
   clear A420
   by_cases c43 : t591 = true
   case neg =>
    replace c43 := Bool.eq_false_iff.mpr c43
    subst c43
    have H1 : (none) = some r := by rw [if_neg (show ¬ (false = true) by decide)] at H; exact H
    clear H
    have H := H1
    clear H1
    exact nS H
   subst c43
   replace H := (if_pos rfl).symm.trans H
   by_cases c44 : (t565 != t569) = true
   case pos =>
    rw [if_pos c44] at H
    exact nS H
   rw [if_neg c44] at H
   have c44b0 : (t565 != t569) = false := by simpa using c44
   (try (have c44b1 : decide (t565 = t569) = true := by simpa using c44))
   (try (have c44b2 : (t565 == t569) = true := by simpa using c44))
   clear c44
   replace H := oB H
   obtain ⟨t592, A450, H⟩ := H
   (try dsimp only at H)
   have A45 := aM A450
   clear A450
   by_cases c46 : t592 = true
   case neg =>
    replace c46 := Bool.eq_false_iff.mpr c46
    subst c46
    have H1 : (none) = some r := by rw [if_neg (show ¬ (false = true) by decide)] at H; exact H
    clear H
    have H := H1
    clear H1
    exact nS H
   subst c46
   replace H := (if_pos rfl).symm.trans H
   by_cases c47 : (t573 != t577) = true
   case pos =>
    rw [if_pos c47] at H
    exact nS H
   rw [if_neg c47] at H
   have c47b0 : (t573 != t577) = false := by simpa using c47
   (try (have c47b1 : decide (t573 = t577) = true := by simpa using c47))
   (try (have c47b2 : (t573 == t577) = true := by simpa using c47))
   clear c47
   replace H := oB H
   obtain ⟨t593, A480, H⟩ := H
   (try dsimp only at H)
   have A48 := aM A480
   clear A480
   by_cases c49 : t593 = true
   case neg =>
    replace c49 := Bool.eq_false_iff.mpr c49
    subst c49
    have H1 : (none) = some r := by rw [if_neg (show ¬ (false = true) by decide)] at H; exact H
    clear H
    have H := H1
    clear H1
    exact nS H
   subst c49
   replace H := (if_pos rfl).symm.trans H
   by_cases c50 : (t581 != t583) = true
   case pos =>
    rw [if_pos c50] at H
    exact nS H
   rw [if_neg c50] at H
   have c50b0 : (t581 != t583) = false := by simpa using c50
   (try (have c50b1 : decide (t581 = t583) = true := by simpa using c50))
   (try (have c50b2 : (t581 == t583) = true := by simpa using c50))
   clear c50
   by_cases c51 : t580.toList = t582.toList
   case neg =>
    rw [if_neg c51] at H
    exact nS H
   rw [if_pos c51] at H
   have c51b0 : (t580.toList == t582.toList) = true := beq_iff_eq.mpr c51
   have c51b1 : (t580.toList != t582.toList) = false := bne_eq_false_iff_eq.mpr c51
   clear c51
   by_cases c52 : (t586 != t589) = true
   case pos =>
    rw [if_pos c52] at H
    exact nS H
   rw [if_neg c52] at H
   have c52b0 : (t586 != t589) = false := by simpa using c52
   (try (have c52b1 : decide (t586 = t589) = true := by simpa using c52))
   (try (have c52b2 : (t586 == t589) = true := by simpa using c52))
   clear c52
   by_cases c53 : t584 = t587
   case neg =>
    rw [if_neg c53] at H
    exact nS H
   rw [if_pos c53] at H
   have c53b0 : (t584 == t587) = true := beq_iff_eq.mpr c53
   have c53b1 : (t584 != t587) = false := bne_eq_false_iff_eq.mpr c53
   clear c53
   by_cases c54 : t585 = t588
   case neg =>
    rw [if_neg c54] at H
    exact nS H
   rw [if_pos c54] at H
   have c54b0 : (t585 == t588) = true := beq_iff_eq.mpr c54
   have c54b1 : (t585 != t588) = false := bne_eq_false_iff_eq.mpr c54
   clear c54
   by_cases c55 : (t565 != t557) = true
   case pos =>
    rw [if_pos c55] at H
    exact nS H
   rw [if_neg c55] at H
   have c55b0 : (t565 != t557) = false := by simpa using c55
   (try (have c55b1 : decide (t565 = t557) = true := by simpa using c55))
   (try (have c55b2 : (t565 == t557) = true := by simpa using c55))
   clear c55
   by_cases c56 : (t573 != t557) = true
   case pos =>
    rw [if_pos c56] at H
    exact nS H
   rw [if_neg c56] at H
   have c56b0 : (t573 != t557) = false := by simpa using c56
   (try (have c56b1 : decide (t573 = t557) = true := by simpa using c56))
   (try (have c56b2 : (t573 == t557) = true := by simpa using c56))
   clear c56
   by_cases c57 : (t581 != t557) = true
   case pos =>
    rw [if_pos c57] at H
    exact nS H
   rw [if_neg c57] at H
   have c57b0 : (t581 != t557) = false := by simpa using c57
   (try (have c57b1 : decide (t581 = t557) = true := by simpa using c57))
   (try (have c57b2 : (t581 == t557) = true := by simpa using c57))
   clear c57
   by_cases c58 : (t586 != t557) = true
   case pos =>
    rw [if_pos c58] at H
    exact nS H
   rw [if_neg c58] at H
   have c58b0 : (t586 != t557) = false := by simpa using c58
   (try (have c58b1 : decide (t586 = t557) = true := by simpa using c58))
   (try (have c58b2 : (t586 == t557) = true := by simpa using c58))
   clear c58
   by_cases c59 : t543 = true
   ·
    subst c59
    replace H := (if_pos rfl).symm.trans H
    by_cases c60 : t557 = true
    case neg =>
     replace c60 := Bool.eq_false_iff.mpr c60
     subst c60
     have H1 : (none) = some r := by rw [if_neg (show ¬ (false = true) by decide)] at H; exact H
     clear H
     have H := H1
     clear H1
     exact nS H
    subst c60
    replace H := (if_pos rfl).symm.trans H
    by_cases c61 : t552 = true
    ·
     as_aux_lemma =>
      subst c61
      replace H := (if_pos rfl).symm.trans H
      have H' := aM H
      clear H
      obtain ⟨Ao62, co62, eo62⟩ := Kd.S_slice HO545.out
      subst eo62
      obtain ⟨Ao63, co63, eo63⟩ := Kd.S_slice HO549.out
      subst eo63
      go_wp2_with (first | (go_at_call 20; (with_reducible refine (laws_gRows.calls k _ _ t542 _ _ t546 true _ ?side1 ?side2 ?side3 ?side4 A36.out).mono ?_); (case side1 => exact cQ ((Kd.S_reads' HO545.out).2.2)); (case side2 => exact (Kd.S_reads' HO545.out).2.1); (case side3 => exact cQ ((Kd.S_reads' HO549.out).2.2)); (case side4 => exact (Kd.S_reads' HO549.out).2.1); rintro e w' ⟨rfl, ⟨nd, rfl⟩⟩; (try first | exact q1 | exact q2); obtain ⟨Ao64, co64, eo64⟩ := Kd.R_slice HO559.out; subst eo64; obtain ⟨Ao65, co65, eo65⟩ := Kd.R_slice HO563.out; subst eo65) | (go_at_call 21; (with_reducible refine (laws_gSame.calls k _ _ t556 _ _ t560 true _ ?side1 ?side2 ?side3 ?side4 A42.out).mono ?_); (case side1 => exact cQ ((Kd.R_reads' HO559.out).2.2)); (case side2 => exact (Kd.R_reads' HO559.out).2.1); (case side3 => exact cQ ((Kd.R_reads' HO563.out).2.2)); (case side4 => exact (Kd.R_reads' HO563.out).2.1); rintro e w' ⟨rfl, ⟨nd, rfl⟩⟩; (try first | exact q1 | exact q2); obtain ⟨Ao66, co66, eo66⟩ := Kd.R_slice HO567.out; subst eo66; obtain ⟨Ao67, co67, eo67⟩ := Kd.R_slice HO571.out; subst eo67) | (go_at_call 21; (with_reducible refine (laws_gSame.calls k _ _ t564 _ _ t568 true _ ?side1 ?side2 ?side3 ?side4 A45.out).mono ?_); (case side1 => exact cQ ((Kd.R_reads' HO567.out).2.2)); (case side2 => exact (Kd.R_reads' HO567.out).2.1); (case side3 => exact cQ ((Kd.R_reads' HO571.out).2.2)); (case side4 => exact (Kd.R_reads' HO571.out).2.1); rintro e w' ⟨rfl, ⟨nd, rfl⟩⟩; (try first | exact q1 | exact q2); obtain ⟨Ao68, co68, eo68⟩ := Kd.S_slice HO575.out; subst eo68; obtain ⟨Ao69, co69, eo69⟩ := Kd.S_slice HO579.out; subst eo69) | (go_at_call 20; (with_reducible refine (laws_gRows.calls k _ _ t572 _ _ t576 true _ ?side1 ?side2 ?side3 ?side4 A48.out).mono ?_); (case side1 => exact cQ ((Kd.S_reads' HO575.out).2.2)); (case side2 => exact (Kd.S_reads' HO575.out).2.1); (case side3 => exact cQ ((Kd.S_reads' HO579.out).2.2)); (case side4 => exact (Kd.S_reads' HO579.out).2.1); rintro e w' ⟨rfl, ⟨nd, rfl⟩⟩; (try first | exact q1 | exact q2)))
      repeat (go_quiet (fail); try go_wp2)
      go_meet
      case rel => exact ⟨_, (!true), eqQ, H', ⟨by first | omega | exact Nat.le_refl _⟩, ⟨by (with_reducible repeat (first | apply Kd.R_alloc | apply Kd.R_drewN | apply Kd.R_drew)); exact Kd.R_mono HO541.out (fun _ hk => ⟨hk.1.1.1.2, hk.1.2⟩)⟩, ⟨by (with_reducible repeat (first | apply Kd.S_alloc | apply Kd.S_drewN | apply Kd.S_drew)); exact Kd.S_mono HO545.out (fun _ hk => ⟨hk.1.1.1.1.1.1.1.2, ⟨hk.1.1.1.1.1.2, ⟨hk.1.1.1.2, hk.1.2⟩⟩⟩)⟩, ⟨by (with_reducible repeat (first | apply Kd.R_alloc | apply Kd.R_drewN | apply Kd.R_drew)); exact Kd.R_mono HO559.out (fun _ hk => ⟨hk.1.1.1.2, hk.1.2⟩)⟩, ⟨by (with_reducible repeat (first | apply Kd.R_alloc | apply Kd.R_drewN | apply Kd.R_drew)); exact Kd.R_mono HO567.out (fun _ hk => ⟨hk.1.1.1.2, hk.1.1.2⟩)⟩, ⟨by (with_reducible repeat (first | apply Kd.S_alloc | apply Kd.S_drewN | apply Kd.S_drew)); exact Kd.S_mono HO575.out (fun _ hk => ⟨hk.1.1.1.1.1.1.1.2, ⟨hk.1.1.1.1.1.1.2, ⟨hk.1.1.1.1.2, hk.1.1.2⟩⟩⟩)⟩, ⟨bE HB.out⟩⟩
    ·
     as_aux_lemma =>
      replace c61 := Bool.eq_false_iff.mpr c61
      subst c61
      have H1 : (laws_FnAgesCompared.j0 k l1 t537 t538 t539 t542 true t550 t551 false t556 true t564 t572 t580 t584 t585 false) = some r := by rw [if_neg (show ¬ (false = true) by decide)] at H; exact H
      clear H
      have H := H1
      clear H1
      have H' := aM H
      clear H
      obtain ⟨Ao70, co70, eo70⟩ := Kd.S_slice HO545.out
      subst eo70
      obtain ⟨Ao71, co71, eo71⟩ := Kd.S_slice HO549.out
      subst eo71
      go_wp2_with (first | (go_at_call 20; (with_reducible refine (laws_gRows.calls k _ _ t542 _ _ t546 true _ ?side1 ?side2 ?side3 ?side4 A36.out).mono ?_); (case side1 => exact cQ ((Kd.S_reads' HO545.out).2.2)); (case side2 => exact (Kd.S_reads' HO545.out).2.1); (case side3 => exact cQ ((Kd.S_reads' HO549.out).2.2)); (case side4 => exact (Kd.S_reads' HO549.out).2.1); rintro e w' ⟨rfl, ⟨nd, rfl⟩⟩; (try first | exact q1 | exact q2); obtain ⟨Ao72, co72, eo72⟩ := Kd.R_slice HO559.out; subst eo72; obtain ⟨Ao73, co73, eo73⟩ := Kd.R_slice HO563.out; subst eo73) | (go_at_call 21; (with_reducible refine (laws_gSame.calls k _ _ t556 _ _ t560 true _ ?side1 ?side2 ?side3 ?side4 A42.out).mono ?_); (case side1 => exact cQ ((Kd.R_reads' HO559.out).2.2)); (case side2 => exact (Kd.R_reads' HO559.out).2.1); (case side3 => exact cQ ((Kd.R_reads' HO563.out).2.2)); (case side4 => exact (Kd.R_reads' HO563.out).2.1); rintro e w' ⟨rfl, ⟨nd, rfl⟩⟩; (try first | exact q1 | exact q2); obtain ⟨Ao74, co74, eo74⟩ := Kd.R_slice HO567.out; subst eo74; obtain ⟨Ao75, co75, eo75⟩ := Kd.R_slice HO571.out; subst eo75) | (go_at_call 21; (with_reducible refine (laws_gSame.calls k _ _ t564 _ _ t568 true _ ?side1 ?side2 ?side3 ?side4 A45.out).mono ?_); (case side1 => exact cQ ((Kd.R_reads' HO567.out).2.2)); (case side2 => exact (Kd.R_reads' HO567.out).2.1); (case side3 => exact cQ ((Kd.R_reads' HO571.out).2.2)); (case side4 => exact (Kd.R_reads' HO571.out).2.1); rintro e w' ⟨rfl, ⟨nd, rfl⟩⟩; (try first | exact q1 | exact q2); obtain ⟨Ao76, co76, eo76⟩ := Kd.S_slice HO575.out; subst eo76; obtain ⟨Ao77, co77, eo77⟩ := Kd.S_slice HO579.out; subst eo77) | (go_at_call 20; (with_reducible refine (laws_gRows.calls k _ _ t572 _ _ t576 true _ ?side1 ?side2 ?side3 ?side4 A48.out).mono ?_); (case side1 => exact cQ ((Kd.S_reads' HO575.out).2.2)); (case side2 => exact (Kd.S_reads' HO575.out).2.1); (case side3 => exact cQ ((Kd.S_reads' HO579.out).2.2)); (case side4 => exact (Kd.S_reads' HO579.out).2.1); rintro e w' ⟨rfl, ⟨nd, rfl⟩⟩; (try first | exact q1 | exact q2)))
      repeat (go_quiet (fail); try go_wp2)
      go_meet
      case rel => exact ⟨_, (false), eqQ, H', ⟨by first | omega | exact Nat.le_refl _⟩, ⟨by (with_reducible repeat (first | apply Kd.R_alloc | apply Kd.R_drewN | apply Kd.R_drew)); exact Kd.R_mono HO541.out (fun _ hk => ⟨hk.1.1.1.2, hk.1.2⟩)⟩, ⟨by (with_reducible repeat (first | apply Kd.S_alloc | apply Kd.S_drewN | apply Kd.S_drew)); exact Kd.S_mono HO545.out (fun _ hk => ⟨hk.1.1.1.1.1.1.1.2, ⟨hk.1.1.1.1.1.2, ⟨hk.1.1.1.2, hk.1.2⟩⟩⟩)⟩, ⟨by (with_reducible repeat (first | apply Kd.R_alloc | apply Kd.R_drewN | apply Kd.R_drew)); exact Kd.R_mono HO559.out (fun _ hk => ⟨hk.1.1.1.2, hk.1.2⟩)⟩, ⟨by (with_reducible repeat (first | apply Kd.R_alloc | apply Kd.R_drewN | apply Kd.R_drew)); exact Kd.R_mono HO567.out (fun _ hk => ⟨hk.1.1.1.2, hk.1.1.2⟩)⟩, ⟨by (with_reducible repeat (first | apply Kd.S_alloc | apply Kd.S_drewN | apply Kd.S_drew)); exact Kd.S_mono HO575.out (fun _ hk => ⟨hk.1.1.1.1.1.1.1.2, ⟨hk.1.1.1.1.1.1.2, ⟨hk.1.1.1.1.2, hk.1.1.2⟩⟩⟩)⟩, ⟨bE HB.out⟩⟩
   ·
    replace c59 := Bool.eq_false_iff.mpr c59
    subst c59
    have H1 : (if t552 = true then (laws_FnAgesCompared.j0 k l1 t537 t538 t539 t542 false t550 t551 t552 t556 t557 t564 t572 t580 t584 t585 (!t557)) else (laws_FnAgesCompared.j0 k l1 t537 t538 t539 t542 false t550 t551 t552 t556 t557 t564 t572 t580 t584 t585 false)) = some r := by rw [if_neg (show ¬ (false = true) by decide)] at H; exact H
    clear H
    have H := H1
    clear H1
    by_cases c78 : t552 = true
    ·
     as_aux_lemma =>
      subst c78
      replace H := (if_pos rfl).symm.trans H
      have H' := aM H
      clear H
      obtain ⟨Ao79, co79, eo79⟩ := Kd.S_slice HO545.out
      subst eo79
      obtain ⟨Ao80, co80, eo80⟩ := Kd.S_slice HO549.out
      subst eo80
      go_wp2_with (first | (go_at_call 20; (with_reducible refine (laws_gRows.calls k _ _ t542 _ _ t546 true _ ?side1 ?side2 ?side3 ?side4 A36.out).mono ?_); (case side1 => exact cQ ((Kd.S_reads' HO545.out).2.2)); (case side2 => exact (Kd.S_reads' HO545.out).2.1); (case side3 => exact cQ ((Kd.S_reads' HO549.out).2.2)); (case side4 => exact (Kd.S_reads' HO549.out).2.1); rintro e w' ⟨rfl, ⟨nd, rfl⟩⟩; (try first | exact q1 | exact q2); obtain ⟨Ao81, co81, eo81⟩ := Kd.R_slice HO559.out; subst eo81; obtain ⟨Ao82, co82, eo82⟩ := Kd.R_slice HO563.out; subst eo82) | (go_at_call 21; (with_reducible refine (laws_gSame.calls k _ _ t556 _ _ t560 true _ ?side1 ?side2 ?side3 ?side4 A42.out).mono ?_); (case side1 => exact cQ ((Kd.R_reads' HO559.out).2.2)); (case side2 => exact (Kd.R_reads' HO559.out).2.1); (case side3 => exact cQ ((Kd.R_reads' HO563.out).2.2)); (case side4 => exact (Kd.R_reads' HO563.out).2.1); rintro e w' ⟨rfl, ⟨nd, rfl⟩⟩; (try first | exact q1 | exact q2); obtain ⟨Ao83, co83, eo83⟩ := Kd.R_slice HO567.out; subst eo83; obtain ⟨Ao84, co84, eo84⟩ := Kd.R_slice HO571.out; subst eo84) | (go_at_call 21; (with_reducible refine (laws_gSame.calls k _ _ t564 _ _ t568 true _ ?side1 ?side2 ?side3 ?side4 A45.out).mono ?_); (case side1 => exact cQ ((Kd.R_reads' HO567.out).2.2)); (case side2 => exact (Kd.R_reads' HO567.out).2.1); (case side3 => exact cQ ((Kd.R_reads' HO571.out).2.2)); (case side4 => exact (Kd.R_reads' HO571.out).2.1); rintro e w' ⟨rfl, ⟨nd, rfl⟩⟩; (try first | exact q1 | exact q2); obtain ⟨Ao85, co85, eo85⟩ := Kd.S_slice HO575.out; subst eo85; obtain ⟨Ao86, co86, eo86⟩ := Kd.S_slice HO579.out; subst eo86) | (go_at_call 20; (with_reducible refine (laws_gRows.calls k _ _ t572 _ _ t576 true _ ?side1 ?side2 ?side3 ?side4 A48.out).mono ?_); (case side1 => exact cQ ((Kd.S_reads' HO575.out).2.2)); (case side2 => exact (Kd.S_reads' HO575.out).2.1); (case side3 => exact cQ ((Kd.S_reads' HO579.out).2.2)); (case side4 => exact (Kd.S_reads' HO579.out).2.1); rintro e w' ⟨rfl, ⟨nd, rfl⟩⟩; (try first | exact q1 | exact q2)))
      repeat (go_quiet (fail); try go_wp2)
      go_meet
      case rel => exact ⟨_, (!t557), eqQ, H', ⟨by first | omega | exact Nat.le_refl _⟩, ⟨by (with_reducible repeat (first | apply Kd.R_alloc | apply Kd.R_drewN | apply Kd.R_drew)); exact Kd.R_mono HO541.out (fun _ hk => ⟨hk.1.1.1.2, hk.1.2⟩)⟩, ⟨by (with_reducible repeat (first | apply Kd.S_alloc | apply Kd.S_drewN | apply Kd.S_drew)); exact Kd.S_mono HO545.out (fun _ hk => ⟨hk.1.1.1.1.1.1.1.2, ⟨hk.1.1.1.1.1.2, ⟨hk.1.1.1.2, hk.1.2⟩⟩⟩)⟩, ⟨by (with_reducible repeat (first | apply Kd.R_alloc | apply Kd.R_drewN | apply Kd.R_drew)); exact Kd.R_mono HO559.out (fun _ hk => ⟨hk.1.1.1.2, hk.1.2⟩)⟩, ⟨by (with_reducible repeat (first | apply Kd.R_alloc | apply Kd.R_drewN | apply Kd.R_drew)); exact Kd.R_mono HO567.out (fun _ hk => ⟨hk.1.1.1.2, hk.1.1.2⟩)⟩, ⟨by (with_reducible repeat (first | apply Kd.S_alloc | apply Kd.S_drewN | apply Kd.S_drew)); exact Kd.S_mono HO575.out (fun _ hk => ⟨hk.1.1.1.1.1.1.1.2, ⟨hk.1.1.1.1.1.1.2, ⟨hk.1.1.1.1.2, hk.1.1.2⟩⟩⟩)⟩, ⟨bE HB.out⟩⟩
    ·
     as_aux_lemma =>
      replace c78 := Bool.eq_false_iff.mpr c78
      subst c78
      have H1 : (laws_FnAgesCompared.j0 k l1 t537 t538 t539 t542 false t550 t551 false t556 t557 t564 t572 t580 t584 t585 false) = some r := by rw [if_neg (show ¬ (false = true) by decide)] at H; exact H
      clear H
      have H := H1
      clear H1
      have H' := aM H
      clear H
      obtain ⟨Ao87, co87, eo87⟩ := Kd.S_slice HO545.out
      subst eo87
      obtain ⟨Ao88, co88, eo88⟩ := Kd.S_slice HO549.out
      subst eo88
      go_wp2_with (first | (go_at_call 20; (with_reducible refine (laws_gRows.calls k _ _ t542 _ _ t546 true _ ?side1 ?side2 ?side3 ?side4 A36.out).mono ?_); (case side1 => exact cQ ((Kd.S_reads' HO545.out).2.2)); (case side2 => exact (Kd.S_reads' HO545.out).2.1); (case side3 => exact cQ ((Kd.S_reads' HO549.out).2.2)); (case side4 => exact (Kd.S_reads' HO549.out).2.1); rintro e w' ⟨rfl, ⟨nd, rfl⟩⟩; (try first | exact q1 | exact q2); obtain ⟨Ao89, co89, eo89⟩ := Kd.R_slice HO559.out; subst eo89; obtain ⟨Ao90, co90, eo90⟩ := Kd.R_slice HO563.out; subst eo90) | (go_at_call 21; (with_reducible refine (laws_gSame.calls k _ _ t556 _ _ t560 true _ ?side1 ?side2 ?side3 ?side4 A42.out).mono ?_); (case side1 => exact cQ ((Kd.R_reads' HO559.out).2.2)); (case side2 => exact (Kd.R_reads' HO559.out).2.1); (case side3 => exact cQ ((Kd.R_reads' HO563.out).2.2)); (case side4 => exact (Kd.R_reads' HO563.out).2.1); rintro e w' ⟨rfl, ⟨nd, rfl⟩⟩; (try first | exact q1 | exact q2); obtain ⟨Ao91, co91, eo91⟩ := Kd.R_slice HO567.out; subst eo91; obtain ⟨Ao92, co92, eo92⟩ := Kd.R_slice HO571.out; subst eo92) | (go_at_call 21; (with_reducible refine (laws_gSame.calls k _ _ t564 _ _ t568 true _ ?side1 ?side2 ?side3 ?side4 A45.out).mono ?_); (case side1 => exact cQ ((Kd.R_reads' HO567.out).2.2)); (case side2 => exact (Kd.R_reads' HO567.out).2.1); (case side3 => exact cQ ((Kd.R_reads' HO571.out).2.2)); (case side4 => exact (Kd.R_reads' HO571.out).2.1); rintro e w' ⟨rfl, ⟨nd, rfl⟩⟩; (try first | exact q1 | exact q2); obtain ⟨Ao93, co93, eo93⟩ := Kd.S_slice HO575.out; subst eo93; obtain ⟨Ao94, co94, eo94⟩ := Kd.S_slice HO579.out; subst eo94) | (go_at_call 20; (with_reducible refine (laws_gRows.calls k _ _ t572 _ _ t576 true _ ?side1 ?side2 ?side3 ?side4 A48.out).mono ?_); (case side1 => exact cQ ((Kd.S_reads' HO575.out).2.2)); (case side2 => exact (Kd.S_reads' HO575.out).2.1); (case side3 => exact cQ ((Kd.S_reads' HO579.out).2.2)); (case side4 => exact (Kd.S_reads' HO579.out).2.1); rintro e w' ⟨rfl, ⟨nd, rfl⟩⟩; (try first | exact q1 | exact q2)))
      repeat (go_quiet (fail); try go_wp2)
      go_meet
      case rel => exact ⟨_, (false), eqQ, H', ⟨by first | omega | exact Nat.le_refl _⟩, ⟨by (with_reducible repeat (first | apply Kd.R_alloc | apply Kd.R_drewN | apply Kd.R_drew)); exact Kd.R_mono HO541.out (fun _ hk => ⟨hk.1.1.1.2, hk.1.2⟩)⟩, ⟨by (with_reducible repeat (first | apply Kd.S_alloc | apply Kd.S_drewN | apply Kd.S_drew)); exact Kd.S_mono HO545.out (fun _ hk => ⟨hk.1.1.1.1.1.1.1.2, ⟨hk.1.1.1.1.1.2, ⟨hk.1.1.1.2, hk.1.2⟩⟩⟩)⟩, ⟨by (with_reducible repeat (first | apply Kd.R_alloc | apply Kd.R_drewN | apply Kd.R_drew)); exact Kd.R_mono HO559.out (fun _ hk => ⟨hk.1.1.1.2, hk.1.2⟩)⟩, ⟨by (with_reducible repeat (first | apply Kd.R_alloc | apply Kd.R_drewN | apply Kd.R_drew)); exact Kd.R_mono HO567.out (fun _ hk => ⟨hk.1.1.1.2, hk.1.1.2⟩)⟩, ⟨by (with_reducible repeat (first | apply Kd.S_alloc | apply Kd.S_drewN | apply Kd.S_drew)); exact Kd.S_mono HO575.out (fun _ hk => ⟨hk.1.1.1.1.1.1.1.2, ⟨hk.1.1.1.1.1.1.2, ⟨hk.1.1.1.1.2, hk.1.1.2⟩⟩⟩)⟩, ⟨bE HB.out⟩⟩
 case rest =>
  as_aux_lemma =>
   clear HC20
   (try clear c1); (try clear c4)
   obtain ⟨kq, x298_19, rfl, HA, HJ19, HO_5, HO_8, HO_18, HO_22, HO_26, HB⟩ := hcut
   cases kq with
   | zero => exact absurd HA.out (by simp [laws_FnAgesCompared.j0])
   | succ kj19 =>
    have H := HA.out
    clear HA
    simp only [laws_FnAgesCompared.j0] at H
    by_cases c95 : x298_19 = true
    case pos =>
     subst c95
     replace H := (if_pos rfl).symm.trans H
     exact nS H
    replace c95 := Bool.eq_false_iff.mpr c95
    subst c95
    have H1 : (if t543 = true then (laws_FnAgesCompared.l0 kj19 l1 t537 t538 t539 t542 t550 t551 t552 t556 t557 t564 t572 t580 t584 t585 t542 (t542.length : Int) 0) else (laws_FnAgesCompared.j2 kj19 l1 t537 t538 t539 t550 t551 t552 t556 t557 t564 t572 t580 t584 t585)) = some r := by rw [if_neg (show ¬ (false = true) by decide)] at H; exact H
    clear H
    have H := H1
    clear H1
    have HC96 := aM H
    clear H
    go_upto_if 299 with (fail)
    repeat (go_quiet (fail); go_upto_if 299 with (fail))
    go_cut [] from 9999 (fun wc => ∃ (kq : Nat), Aside0 (laws_FnAgesCompared.j2 kq l1 t537 t538 t539 t550 t551 t552 t556 t557 t564 t572 t580 t584 t585 = some r) ∧ Aside0 (kq ≤ kj19) ∧ Aside0 (Kd.R (Kd.int .i64) 3 wc w.heap.size (fun k_ => some k_ ≠ (v558 : Value).ownBlock ∧ some k_ ≠ (v566 : Value).ownBlock) (.slice Ao22 t537.length co22) t537) ∧ Aside0 (Kd.R (Kd.int .i64) 3 wc w.heap.size (fun k_ => some k_ ≠ ((.slice Ao22 t537.length co22) : Value).ownBlock ∧ some k_ ≠ (v566 : Value).ownBlock) v558 t556) ∧ Aside0 (Kd.R (Kd.int .i64) 3 wc w.heap.size (fun k_ => some k_ ≠ ((.slice Ao22 t537.length co22) : Value).ownBlock ∧ some k_ ≠ (v558 : Value).ownBlock) v566 t564) ∧ Aside0 (Kd.S (Kd.slice 3 (Kd.int .i64)) 24 wc w.heap.size (fun k_ => some k_ ≠ ((.slice Ao22 t537.length co22) : Value).ownBlock ∧ some k_ ≠ (v558 : Value).ownBlock ∧ some k_ ≠ (v566 : Value).ownBlock) v574 t572) ∧ Aside0 (Below w.heap.size w wc))
    case first =>
     as_aux_lemma =>
      have H := HC96.out
      clear HC96
      by_cases c97 : t543 = true
      ·
       as_aux_lemma =>
        subst c97
        replace H := (if_pos rfl).symm.trans H
        have H' := aM H
        clear H
        obtain ⟨Ao98, co98, eo98⟩ := Kd.S_slice HO_8.out
        subst eo98
        go_wp2
        repeat (go_quiet (fail); try go_wp2)
        go_loopg [302] kj19 (fun kq v302_s w' => ∃ (x302_2 : Int), v302_s = .int .i64 x302_2 ∧ Aside0 (laws_FnAgesCompared.l0 kq l1 t537 t538 t539 t542 t550 t551 t552 t556 t557 t564 t572 t580 t584 t585 t542 (t542.length : Int) x302_2 = some r) ∧ Aside0 (kq ≤ kj19) ∧ Aside0 (Kd.R (Kd.int .i64) 3 w' w.heap.size (fun k_ => some k_ ≠ (v558 : Value).ownBlock ∧ some k_ ≠ (v566 : Value).ownBlock) (.slice Ao22 t537.length co22) t537) ∧ Aside0 (Kd.S (Kd.slice 3 (Kd.int .i64)) 24 w' w.heap.size (fun k_ => some k_ ≠ ((.slice Ao22 t537.length co22) : Value).ownBlock ∧ some k_ ≠ (v558 : Value).ownBlock ∧ some k_ ≠ (v566 : Value).ownBlock ∧ some k_ ≠ (v574 : Value).ownBlock) (.slice Ao98 t542.length co98) t542) ∧ Aside0 (Kd.R (Kd.int .i64) 3 w' w.heap.size (fun k_ => some k_ ≠ ((.slice Ao22 t537.length co22) : Value).ownBlock ∧ some k_ ≠ (v566 : Value).ownBlock) v558 t556) ∧ Aside0 (Kd.R (Kd.int .i64) 3 w' w.heap.size (fun k_ => some k_ ≠ ((.slice Ao22 t537.length co22) : Value).ownBlock ∧ some k_ ≠ (v558 : Value).ownBlock) v566 t564) ∧ Aside0 (Kd.S (Kd.slice 3 (Kd.int .i64)) 24 w' w.heap.size (fun k_ => some k_ ≠ ((.slice Ao22 t537.length co22) : Value).ownBlock ∧ some k_ ≠ ((.slice Ao98 t542.length co98) : Value).ownBlock ∧ some k_ ≠ (v558 : Value).ownBlock ∧ some k_ ≠ (v566 : Value).ownBlock ∧ some k_ ≠ ((.slice Ao98 t542.length co98) : Value).ownBlock) v574 t572) ∧ Aside0 (Kd.S (Kd.slice 3 (Kd.int .i64)) 24 w' w.heap.size (fun k_ => some k_ ≠ ((.slice Ao22 t537.length co22) : Value).ownBlock ∧ some k_ ≠ (v558 : Value).ownBlock ∧ some k_ ≠ (v566 : Value).ownBlock ∧ some k_ ≠ (v574 : Value).ownBlock) (.slice Ao98 t542.length co98) t542) ∧ Aside0 (Below w.heap.size w w'))
        case atStart => exact ⟨(0), eqQ, H', ⟨Nat.le_refl _⟩, ⟨rQ HO_5.out⟩, ⟨sQ HO_8.out⟩, ⟨rQ HO_18.out⟩, ⟨rQ HO_22.out⟩, ⟨by (with_reducible repeat (first | apply Kd.S_alloc | apply Kd.S_drewN | apply Kd.S_drew)); exact Kd.S_mono HO_26.out (fun _ hk => ⟨hk.1, ⟨hk.2.1, ⟨hk.2.2.1, ⟨hk.2.2.2, hk.2.1⟩⟩⟩⟩)⟩, ⟨sQ HO_8.out⟩, ⟨bE HB.out⟩⟩
        case round =>
         as_aux_lemma =>
          clear H'
          (try clear c95); (try clear c97)
          obtain ⟨x302_2, rfl, HA, HK2, HO_5, HO_8, HO_18, HO_22, HO_26, HO_300, HB⟩ := hrel
          cases gk with
          | zero => exact absurd HA.out (by simp [laws_FnAgesCompared.l0])
          | succ k2 =>
           have H := HA.out
           clear HA
           simp only [laws_FnAgesCompared.l0] at H
           by_cases c99 : x302_2 < (t542.length : Int)
           ·
            rw [if_pos c99] at H
            have c99b0 : decide (x302_2 < (t542.length : Int)) = true := decide_eq_true c99
            clear c99
            (first | rw [c99b0] | (simp only [i64_w, i32_w]; rw [c99b0]) | skip)
            by_cases c100 : 0 ≤ x302_2
            case neg =>
             rw [if_neg c100] at H
             exact nS H
            rw [if_pos c100] at H
            have c100b0 : decide (0 ≤ x302_2) = true := decide_eq_true c100
            clear c100
            by_cases c101 : x302_2 < (t542.length : Int)
            case neg =>
             rw [if_neg c101] at H
             exact nS H
            rw [if_pos c101] at H
            have c101b0 : decide (x302_2 < (t542.length : Int)) = true := decide_eq_true c101
            clear c101
            by_cases c102 : ((rd_L2 t542 x302_2).length : Int) = 2
            case neg =>
             rw [if_neg c102] at H
             exact nS H
            rw [if_pos c102] at H
            have c102b0 : (((rd_L2 t542 x302_2).length : Int) == 2) = true := beq_iff_eq.mpr c102
            have c102b1 : (((rd_L2 t542 x302_2).length : Int) != 2) = false := bne_eq_false_iff_eq.mpr c102
            clear c102
            by_cases c103 : x302_2 > 0
            ·
             as_aux_lemma =>
              rw [if_pos c103] at H
              have c103b0 : decide (0 < x302_2) = true := decide_eq_true c103
              clear c103
              obtain ⟨ji104, hji104⟩ : ∃ j_ : Int, (wrap64 (x302_2 - 1)) = j_ := ⟨_, rfl⟩
              replace H : (if 0 ≤ (ji104) then (if (ji104) < (t542.length : Int) then (if 0 < ((rd_L2 t542 (ji104)).length : Int) then (if 0 < ((rd_L2 t542 x302_2).length : Int) then (if (rd (rd_L2 t542 (ji104)) 0) ≥ (rd (rd_L2 t542 x302_2) 0) then (none) else (if 1 < ((rd_L2 t542 x302_2).length : Int) then (if (rd (rd_L2 t542 x302_2) 1) < 2 then (none) else ((impl_AgesIn.f k2 t537 (rd (rd_L2 t542 x302_2) 0)).bind fun bt602 => ((impl_YearsOfMultiple.f k2 t537 t538 t539 (rd (rd_L2 t542 x302_2) 1)).bind fun bt607 => (if bt602.2 = true then (if 0 ≤ t539 then (if t539 < (bt602.1.length : Int) then (if (rd bt602.1 t539) < 1 then (none) else (if 0 ≤ t538 then (if t538 < (bt602.1.length : Int) then (if (rd bt602.1 t538) = (wrap64 ((rd (rd_L2 t542 x302_2) 1) * (rd bt602.1 t539))) then (if bt607.2 = true then (if bt607.1 = (rd (rd_L2 t542 x302_2) 0) then (laws_FnAgesCompared.l0 k2 l1 t537 t538 t539 t542 t550 t551 t552 t556 t557 t564 t572 t580 t584 t585 t542 (t542.length : Int) (wrap64 (x302_2 + 1))) else (none)) else (none)) else (none)) else (none)) else (none))) else (none)) else (none)) else (none))))) else (none))) else (none)) else (none)) else (none)) else (none)) = some r := by first | (rw [hji104] at H; exact H) | (simp only [hji104] at H ⊢; exact H)
              have hji104w : (IntKind.i64.wrap (x302_2 - 1)) = ji104 := (i64_w _).trans hji104
              by_cases c105 : 0 ≤ (ji104)
              case neg =>
               rw [if_neg c105] at H
               exact nS H
              rw [if_pos c105] at H
              have c105b0 : decide (0 ≤ (ji104)) = true := decide_eq_true c105
              clear c105
              by_cases c106 : (ji104) < (t542.length : Int)
              case neg =>
               rw [if_neg c106] at H
               exact nS H
              rw [if_pos c106] at H
              have c106b0 : decide ((ji104) < (t542.length : Int)) = true := decide_eq_true c106
              clear c106
              by_cases c107 : 0 < ((rd_L2 t542 (ji104)).length : Int)
              case neg =>
               rw [if_neg c107] at H
               exact nS H
              rw [if_pos c107] at H
              have c107b0 : decide (0 < ((rd_L2 t542 (ji104)).length : Int)) = true := decide_eq_true c107
              have c107b1 : decide (0 < (rd_L2 t542 (ji104)).length) = true := decide_eq_true (by omega)
              clear c107
              by_cases c108 : 0 < ((rd_L2 t542 x302_2).length : Int)
              case neg =>
               rw [if_neg c108] at H
               exact nS H
              rw [if_pos c108] at H
              have c108b0 : decide (0 < ((rd_L2 t542 x302_2).length : Int)) = true := decide_eq_true c108
              have c108b1 : decide (0 < (rd_L2 t542 x302_2).length) = true := decide_eq_true (by omega)
              clear c108
              by_cases c109 : (rd (rd_L2 t542 (ji104)) 0) ≥ (rd (rd_L2 t542 x302_2) 0)
              case pos =>
               rw [if_pos c109] at H
               exact nS H
              rw [if_neg c109] at H
              have c109b0 : decide ((rd (rd_L2 t542 x302_2) 0) ≤ (rd (rd_L2 t542 (ji104)) 0)) = false := decide_eq_false c109
              clear c109
              by_cases c110 : 1 < ((rd_L2 t542 x302_2).length : Int)
              case neg =>
               rw [if_neg c110] at H
               exact nS H
              rw [if_pos c110] at H
              have c110b0 : decide (1 < ((rd_L2 t542 x302_2).length : Int)) = true := decide_eq_true c110
              have c110b1 : decide (1 < (rd_L2 t542 x302_2).length) = true := decide_eq_true (by omega)
              clear c110
              by_cases c111 : (rd (rd_L2 t542 x302_2) 1) < 2
              case pos =>
               rw [if_pos c111] at H
               exact nS H
              rw [if_neg c111] at H
              have c111b0 : decide ((rd (rd_L2 t542 x302_2) 1) < 2) = false := decide_eq_false c111
              clear c111
              replace H := oB H
              obtain ⟨⟨t602, t603⟩, A1120, H⟩ := H
              (try dsimp only at H)
              have A112 := aM A1120
              clear A1120
              replace H := oB H
              obtain ⟨⟨t607, t608⟩, A1130, H⟩ := H
              (try dsimp only at H)
              have A113 := aM A1130
              clear A1130
              by_cases c114 : t603 = true
              case neg =>
               replace c114 := Bool.eq_false_iff.mpr c114
               subst c114
               have H1 : (none) = some r := by rw [if_neg (show ¬ (false = true) by decide)] at H; exact H
               clear H
               have H := H1
               clear H1
               exact nS H
              subst c114
              replace H := (if_pos rfl).symm.trans H
              by_cases c115 : 0 ≤ t539
              case neg =>
               rw [if_neg c115] at H
               exact nS H
              rw [if_pos c115] at H
              have c115b0 : decide (0 ≤ t539) = true := decide_eq_true c115
              clear c115
              by_cases c116 : t539 < (t602.length : Int)
              case neg =>
               rw [if_neg c116] at H
               exact nS H
              rw [if_pos c116] at H
              have c116b0 : decide (t539 < (t602.length : Int)) = true := decide_eq_true c116
              clear c116
              by_cases c117 : (rd t602 t539) < 1
              case pos =>
               rw [if_pos c117] at H
               exact nS H
              rw [if_neg c117] at H
              have c117b0 : decide ((rd t602 t539) < 1) = false := decide_eq_false c117
              clear c117
              by_cases c118 : 0 ≤ t538
              case neg =>
               rw [if_neg c118] at H
               exact nS H
              rw [if_pos c118] at H
              have c118b0 : decide (0 ≤ t538) = true := decide_eq_true c118
              clear c118
              by_cases c119 : t538 < (t602.length : Int)
              case neg =>
               rw [if_neg c119] at H
               exact nS H
              rw [if_pos c119] at H
              have c119b0 : decide (t538 < (t602.length : Int)) = true := decide_eq_true c119
              clear c119
              by_cases c120 : (rd t602 t538) = (wrap64 ((rd (rd_L2 t542 x302_2) 1) * (rd t602 t539)))
              case neg =>
               rw [if_neg c120] at H
               exact nS H
              rw [if_pos c120] at H
              have c120b0 : ((rd t602 t538) == (wrap64 ((rd (rd_L2 t542 x302_2) 1) * (rd t602 t539)))) = true := beq_iff_eq.mpr c120
              have c120q0 : ((rd t602 t538) == (IntKind.i64.wrap ((rd (rd_L2 t542 x302_2) 1) * (rd t602 t539)))) = true := by simp only [i64_w]; exact c120b0
              have c120b1 : ((rd t602 t538) != (wrap64 ((rd (rd_L2 t542 x302_2) 1) * (rd t602 t539)))) = false := bne_eq_false_iff_eq.mpr c120
              clear c120
              by_cases c121 : t608 = true
              case neg =>
               replace c121 := Bool.eq_false_iff.mpr c121
               subst c121
               have H1 : (none) = some r := by rw [if_neg (show ¬ (false = true) by decide)] at H; exact H
               clear H
               have H := H1
               clear H1
               exact nS H
              subst c121
              replace H := (if_pos rfl).symm.trans H
              by_cases c122 : t607 = (rd (rd_L2 t542 x302_2) 0)
              case neg =>
               rw [if_neg c122] at H
               exact nS H
              rw [if_pos c122] at H
              have c122b0 : (t607 == (rd (rd_L2 t542 x302_2) 0)) = true := beq_iff_eq.mpr c122
              have c122b1 : (t607 != (rd (rd_L2 t542 x302_2) 0)) = false := bne_eq_false_iff_eq.mpr c122
              clear c122
              have H' := aM H
              clear H
              have p596 : 0 ≤ (x302_2 : Int) := dA
              have q596 : x302_2 < (t542.length : Int) := dA
              obtain ⟨ad596, A596_0, c596_0, e596, hx596_0, hl596_0, hi596_0⟩ := at_L2 (Kd.S_reads' HO_300.out).2.2 x302_2 p596 q596
              cases e596
              obtain ⟨ce596, hce596, hMe596, hcc596⟩ := Kd.S_get HO_300.out [] x302_2 p596 (by first | exact q596 | exact dA | (have e_ := (Kd.S_reads' HO_300.out).1; omega))
              obtain ⟨ve596_0, rfl, ge596_0⟩ := hMe596
              have hv596_0 := hcc596 0 _ rfl
              rw [Nat.add_zero, show ((Kd.slice 3 (Kd.int .i64))).sz = 1 from rfl, Nat.mul_one] at hv596_0
              replace hv596_0 := Option.some.inj (hv596_0.symm.trans hx596_0)
              rw [hv596_0] at ge596_0
              have HL596_0 := aM (show Kd.R (Kd.int .i64) 3 _ _ _ _ (rd_L2 t542 x302_2) from ge596_0)
              clear hv596_0 ge596_0
              clear hcc596 hce596
              have HR596_0 := aM hi596_0
              have HC596_0 := aM hl596_0
              clear hi596_0 hl596_0
              replace p596 := eq_true p596
              replace q596 := eq_true q596
              have p597 : 0 ≤ ((ji104) : Int) := dA
              have q597 : (ji104) < (t542.length : Int) := dA
              obtain ⟨ad597, A597_0, c597_0, e597, hx597_0, hl597_0, hi597_0⟩ := at_L2 (Kd.S_reads' HO_8.out).2.2 (ji104) p597 q597
              obtain rfl : ad596 = ad597 := (by injection e597)
              obtain ⟨ce597, hce597, hMe597, hcc597⟩ := Kd.S_get HO_8.out [] (ji104) p597 (by first | exact q597 | exact dA | (have e_ := (Kd.S_reads' HO_8.out).1; omega))
              obtain ⟨ve597_0, rfl, ge597_0⟩ := hMe597
              have hv597_0 := hcc597 0 _ rfl
              rw [Nat.add_zero, show ((Kd.slice 3 (Kd.int .i64))).sz = 1 from rfl, Nat.mul_one] at hv597_0
              replace hv597_0 := Option.some.inj (hv597_0.symm.trans hx597_0)
              rw [hv597_0] at ge597_0
              have HL597_0 := aM (show Kd.R (Kd.int .i64) 3 _ _ _ _ (rd_L2 t542 (ji104)) from ge597_0)
              clear hv597_0 ge597_0
              clear hcc597 hce597
              have HR597_0 := aM hi597_0
              have HC597_0 := aM hl597_0
              clear hi597_0 hl597_0
              replace p597 := eq_true p597
              replace q597 := eq_true q597
              have p598 : 0 ≤ (0 : Int) := (by omega)
              have q598 : 0 < ((rd_L2 t542 (ji104)).length : Int) := dA
              obtain ⟨ad598, e598, hx598_0⟩ := Kd.at_int (cQ HR597_0.out) 0 p598 q598
              cases e598
              have qi598 : (0 < (rd_L2 t542 (ji104)).length) = True := eq_true (by omega)
              (try rw [show ((0 : Int)).toNat = 0 from rfl] at hx598_0)
              (try rw [Addr.add_zero'] at hx598_0)
              replace p598 := eq_true p598
              replace q598 := eq_true q598
              have p599 : 0 ≤ (0 : Int) := (by omega)
              have q599 : 0 < ((rd_L2 t542 x302_2).length : Int) := dA
              obtain ⟨ad599, e599, hx599_0⟩ := Kd.at_int (cQ HR596_0.out) 0 p599 q599
              cases e599
              have qi599 : (0 < (rd_L2 t542 x302_2).length) = True := eq_true (by omega)
              (try rw [show ((0 : Int)).toNat = 0 from rfl] at hx599_0)
              (try rw [Addr.add_zero'] at hx599_0)
              replace p599 := eq_true p599
              replace q599 := eq_true q599
              have p600 : 0 ≤ (1 : Int) := (by omega)
              have q600 : 1 < ((rd_L2 t542 x302_2).length : Int) := dA
              obtain ⟨ad600, e600, hx600_0⟩ := Kd.at_int (cQ HR596_0.out) 1 p600 q600
              obtain rfl : ad599 = ad600 := (by injection e600)
              (try simp only [show (1 : Int).toNat = 1 from rfl, Nat.reduceMul, Nat.reduceEqDiff, Go.Addr.add, ↓reduceIte] at hx600_0)
              have qi600 : (1 < (rd_L2 t542 x302_2).length) = True := eq_true (by omega)
              (try rw [show ((1 : Int)).toNat = 1 from rfl] at hx600_0)
              replace p600 := eq_true p600
              replace q600 := eq_true q600
              have p601 : 0 ≤ (0 : Int) := (by omega)
              have q601 : 0 < ((rd_L2 t542 x302_2).length : Int) := dA
              obtain ⟨ad601, e601, hx601_0⟩ := Kd.at_int (cQ HR596_0.out) 0 p601 q601
              obtain rfl : ad599 = ad601 := (by injection e601)
              have qi601 : (0 < (rd_L2 t542 x302_2).length) = True := eq_true (by omega)
              (try rw [show ((0 : Int)).toNat = 0 from rfl] at hx601_0)
              (try rw [Addr.add_zero'] at hx601_0)
              replace p601 := eq_true p601
              replace q601 := eq_true q601
              go_wp2_with (first | (go_at_call 22; (with_reducible refine (impl_AgesIn.calls k2 _ _ t537 (rd (rd_L2 t542 x302_2) 0) t602 true _ ?side1 ?side2 A112.out).mono ?_); (case side1 => exact cQ ((Kd.R_reads' HO_5.out).2.2)); (case side2 => exact (Kd.R_reads' HO_5.out).2.1); rintro e w123 ⟨v604, rfl, ho0, hb⟩; replace HO_8 := aM (Kd.S_elder' (sQ HO_8.out) (Kd.R_base ho0) hb); replace HO_26 := aM (Kd.S_elder' (sQ HO_26.out) (Kd.R_base ho0) hb); replace HO_300 := aM (Kd.S_elder' (sQ HO_300.out) (Kd.R_base ho0) hb); have HO605 := aM (Kd.R_lower (Kd.R_new' (Kd.R_new' (Kd.R_new' (Kd.R_new' (Kd.R_new' ho0 (Kd.R_lt (rQ HO_5.out))) (Kd.R_lt (rQ HO_18.out))) (Kd.R_lt (rQ HO_22.out))) (Kd.R_lt (rQ HL596_0.out))) (Kd.R_lt (rQ HL597_0.out))) (bZ HB.out)); replace HO_5 := aM (Kd.R_elder' (rQ HO_5.out) (Kd.R_base ho0) hb); replace HO_18 := aM (Kd.R_elder' (rQ HO_18.out) (Kd.R_base ho0) hb); replace HO_22 := aM (Kd.R_elder' (rQ HO_22.out) (Kd.R_base ho0) hb); replace HL596_0 := aM (Kd.R_elder' (rQ HL596_0.out) (Kd.R_base ho0) hb); replace HL597_0 := aM (Kd.R_elder' (rQ HL597_0.out) (Kd.R_base ho0) hb); replace HR596_0 := aM (Kd.C_below (cQ HR596_0.out) hb); replace HR597_0 := aM (Kd.C_below (cQ HR597_0.out) hb); replace HB := aM (bS HB.out hb); (try clear hb ho0); have p606 : 0 ≤ (1 : Int) := (by omega); have q606 : 1 < ((rd_L2 t542 x302_2).length : Int) := dA; obtain ⟨ad606, e606, hx606_0⟩ := Kd.at_int (cQ HR596_0.out) 1 p606 q606; obtain rfl : ad599 = ad606 := (by injection e606); (try simp only [show (1 : Int).toNat = 1 from rfl, Nat.reduceMul, Nat.reduceEqDiff, Go.Addr.add, ↓reduceIte] at hx606_0); have qi606 : (1 < (rd_L2 t542 x302_2).length) = True := eq_true (by omega); (try rw [show ((1 : Int)).toNat = 1 from rfl] at hx606_0); replace p606 := eq_true p606; replace q606 := eq_true q606) | (go_at_call 23; (with_reducible refine (impl_YearsOfMultiple.calls k2 _ _ t537 t538 t539 (rd (rd_L2 t542 x302_2) 1) t607 true _ ?side1 ?side2 A113.out).mono ?_); (case side1 => exact cQ ((Kd.R_reads' HO_5.out).2.2)); (case side2 => exact (Kd.R_reads' HO_5.out).2.1); rintro e w124 ⟨rfl, hb⟩; replace HO_5 := aM (Kd.R_below (rQ HO_5.out) hb); replace HO_8 := aM (Kd.S_below (sQ HO_8.out) hb); replace HO_18 := aM (Kd.R_below (rQ HO_18.out) hb); replace HO_22 := aM (Kd.R_below (rQ HO_22.out) hb); replace HO_26 := aM (Kd.S_below (sQ HO_26.out) hb); replace HO_300 := aM (Kd.S_below (sQ HO_300.out) hb); replace HL596_0 := aM (Kd.R_below (rQ HL596_0.out) hb); replace HL597_0 := aM (Kd.R_below (rQ HL597_0.out) hb); replace HO605 := aM (Kd.R_below (rQ HO605.out) hb); replace HR596_0 := aM (Kd.C_below (cQ HR596_0.out) hb); replace HR597_0 := aM (Kd.C_below (cQ HR597_0.out) hb); replace HB := aM (bS HB.out hb); (try clear hb); obtain ⟨Ao125, co125, eo125⟩ := Kd.R_slice HO605.out; subst eo125; have p609 : 0 ≤ (t539 : Int) := dA; have q609 : t539 < (t602.length : Int) := dA; obtain ⟨ad609, e609, hx609_0⟩ := Kd.at_int (Kd.R_reads' HO605.out).2.2 t539 p609 q609; cases e609; replace p609 := eq_true p609; replace q609 := eq_true q609; have p610 : 0 ≤ (t538 : Int) := dA; have q610 : t538 < (t602.length : Int) := dA; obtain ⟨ad610, e610, hx610_0⟩ := Kd.at_int (Kd.R_reads' HO605.out).2.2 t538 p610 q610; obtain rfl : ad609 = ad610 := (by injection e610); replace p610 := eq_true p610; replace q610 := eq_true q610; have p611 : 0 ≤ (1 : Int) := (by omega); have q611 : 1 < ((rd_L2 t542 x302_2).length : Int) := dA; obtain ⟨ad611, e611, hx611_0⟩ := Kd.at_int (cQ HR596_0.out) 1 p611 q611; obtain rfl : ad599 = ad611 := (by injection e611); (try simp only [show (1 : Int).toNat = 1 from rfl, Nat.reduceMul, Nat.reduceEqDiff, Go.Addr.add, ↓reduceIte] at hx611_0); have qi611 : (1 < (rd_L2 t542 x302_2).length) = True := eq_true (by omega); (try rw [show ((1 : Int)).toNat = 1 from rfl] at hx611_0); replace p611 := eq_true p611; replace q611 := eq_true q611; have p612 : 0 ≤ (t539 : Int) := dA; have q612 : t539 < (t602.length : Int) := dA; obtain ⟨ad612, e612, hx612_0⟩ := Kd.at_int (Kd.R_reads' HO605.out).2.2 t539 p612 q612; obtain rfl : ad609 = ad612 := (by injection e612); replace p612 := eq_true p612; replace q612 := eq_true q612; have p613 : 0 ≤ (0 : Int) := (by omega); have q613 : 0 < ((rd_L2 t542 x302_2).length : Int) := dA; obtain ⟨ad613, e613, hx613_0⟩ := Kd.at_int (cQ HR596_0.out) 0 p613 q613; obtain rfl : ad599 = ad613 := (by injection e613); have qi613 : (0 < (rd_L2 t542 x302_2).length) = True := eq_true (by omega); (try rw [show ((0 : Int)).toNat = 0 from rfl] at hx613_0); (try rw [Addr.add_zero'] at hx613_0); replace p613 := eq_true p613; replace q613 := eq_true q613))
              repeat (go_quiet (first | (go_at_call 22; (with_reducible refine (impl_AgesIn.calls k2 _ _ t537 (rd (rd_L2 t542 x302_2) 0) t602 true _ ?side1 ?side2 A112.out).mono ?_); (case side1 => exact cQ ((Kd.R_reads' HO_5.out).2.2)); (case side2 => exact (Kd.R_reads' HO_5.out).2.1); rintro e w123 ⟨v604, rfl, ho0, hb⟩; replace HO_8 := aM (Kd.S_elder' (sQ HO_8.out) (Kd.R_base ho0) hb); replace HO_26 := aM (Kd.S_elder' (sQ HO_26.out) (Kd.R_base ho0) hb); replace HO_300 := aM (Kd.S_elder' (sQ HO_300.out) (Kd.R_base ho0) hb); have HO605 := aM (Kd.R_lower (Kd.R_new' (Kd.R_new' (Kd.R_new' (Kd.R_new' (Kd.R_new' ho0 (Kd.R_lt (rQ HO_5.out))) (Kd.R_lt (rQ HO_18.out))) (Kd.R_lt (rQ HO_22.out))) (Kd.R_lt (rQ HL596_0.out))) (Kd.R_lt (rQ HL597_0.out))) (bZ HB.out)); replace HO_5 := aM (Kd.R_elder' (rQ HO_5.out) (Kd.R_base ho0) hb); replace HO_18 := aM (Kd.R_elder' (rQ HO_18.out) (Kd.R_base ho0) hb); replace HO_22 := aM (Kd.R_elder' (rQ HO_22.out) (Kd.R_base ho0) hb); replace HL596_0 := aM (Kd.R_elder' (rQ HL596_0.out) (Kd.R_base ho0) hb); replace HL597_0 := aM (Kd.R_elder' (rQ HL597_0.out) (Kd.R_base ho0) hb); replace HR596_0 := aM (Kd.C_below (cQ HR596_0.out) hb); replace HR597_0 := aM (Kd.C_below (cQ HR597_0.out) hb); replace HB := aM (bS HB.out hb); (try clear hb ho0); have p606 : 0 ≤ (1 : Int) := (by omega); have q606 : 1 < ((rd_L2 t542 x302_2).length : Int) := dA; obtain ⟨ad606, e606, hx606_0⟩ := Kd.at_int (cQ HR596_0.out) 1 p606 q606; obtain rfl : ad599 = ad606 := (by injection e606); (try simp only [show (1 : Int).toNat = 1 from rfl, Nat.reduceMul, Nat.reduceEqDiff, Go.Addr.add, ↓reduceIte] at hx606_0); have qi606 : (1 < (rd_L2 t542 x302_2).length) = True := eq_true (by omega); (try rw [show ((1 : Int)).toNat = 1 from rfl] at hx606_0); replace p606 := eq_true p606; replace q606 := eq_true q606) | (go_at_call 23; (with_reducible refine (impl_YearsOfMultiple.calls k2 _ _ t537 t538 t539 (rd (rd_L2 t542 x302_2) 1) t607 true _ ?side1 ?side2 A113.out).mono ?_); (case side1 => exact cQ ((Kd.R_reads' HO_5.out).2.2)); (case side2 => exact (Kd.R_reads' HO_5.out).2.1); rintro e w124 ⟨rfl, hb⟩; replace HO_5 := aM (Kd.R_below (rQ HO_5.out) hb); replace HO_8 := aM (Kd.S_below (sQ HO_8.out) hb); replace HO_18 := aM (Kd.R_below (rQ HO_18.out) hb); replace HO_22 := aM (Kd.R_below (rQ HO_22.out) hb); replace HO_26 := aM (Kd.S_below (sQ HO_26.out) hb); replace HO_300 := aM (Kd.S_below (sQ HO_300.out) hb); replace HL596_0 := aM (Kd.R_below (rQ HL596_0.out) hb); replace HL597_0 := aM (Kd.R_below (rQ HL597_0.out) hb); replace HO605 := aM (Kd.R_below (rQ HO605.out) hb); replace HR596_0 := aM (Kd.C_below (cQ HR596_0.out) hb); replace HR597_0 := aM (Kd.C_below (cQ HR597_0.out) hb); replace HB := aM (bS HB.out hb); (try clear hb); obtain ⟨Ao125, co125, eo125⟩ := Kd.R_slice HO605.out; subst eo125; have p609 : 0 ≤ (t539 : Int) := dA; have q609 : t539 < (t602.length : Int) := dA; obtain ⟨ad609, e609, hx609_0⟩ := Kd.at_int (Kd.R_reads' HO605.out).2.2 t539 p609 q609; cases e609; replace p609 := eq_true p609; replace q609 := eq_true q609; have p610 : 0 ≤ (t538 : Int) := dA; have q610 : t538 < (t602.length : Int) := dA; obtain ⟨ad610, e610, hx610_0⟩ := Kd.at_int (Kd.R_reads' HO605.out).2.2 t538 p610 q610; obtain rfl : ad609 = ad610 := (by injection e610); replace p610 := eq_true p610; replace q610 := eq_true q610; have p611 : 0 ≤ (1 : Int) := (by omega); have q611 : 1 < ((rd_L2 t542 x302_2).length : Int) := dA; obtain ⟨ad611, e611, hx611_0⟩ := Kd.at_int (cQ HR596_0.out) 1 p611 q611; obtain rfl : ad599 = ad611 := (by injection e611); (try simp only [show (1 : Int).toNat = 1 from rfl, Nat.reduceMul, Nat.reduceEqDiff, Go.Addr.add, ↓reduceIte] at hx611_0); have qi611 : (1 < (rd_L2 t542 x302_2).length) = True := eq_true (by omega); (try rw [show ((1 : Int)).toNat = 1 from rfl] at hx611_0); replace p611 := eq_true p611; replace q611 := eq_true q611; have p612 : 0 ≤ (t539 : Int) := dA; have q612 : t539 < (t602.length : Int) := dA; obtain ⟨ad612, e612, hx612_0⟩ := Kd.at_int (Kd.R_reads' HO605.out).2.2 t539 p612 q612; obtain rfl : ad609 = ad612 := (by injection e612); replace p612 := eq_true p612; replace q612 := eq_true q612; have p613 : 0 ≤ (0 : Int) := (by omega); have q613 : 0 < ((rd_L2 t542 x302_2).length : Int) := dA; obtain ⟨ad613, e613, hx613_0⟩ := Kd.at_int (cQ HR596_0.out) 0 p613 q613; obtain rfl : ad599 = ad613 := (by injection e613); have qi613 : (0 < (rd_L2 t542 x302_2).length) = True := eq_true (by omega); (try rw [show ((0 : Int)).toNat = 0 from rfl] at hx613_0); (try rw [Addr.add_zero'] at hx613_0); replace p613 := eq_true p613; replace q613 := eq_true q613)); try go_wp2_with (first | (go_at_call 22; (with_reducible refine (impl_AgesIn.calls k2 _ _ t537 (rd (rd_L2 t542 x302_2) 0) t602 true _ ?side1 ?side2 A112.out).mono ?_); (case side1 => exact cQ ((Kd.R_reads' HO_5.out).2.2)); (case side2 => exact (Kd.R_reads' HO_5.out).2.1); rintro e w123 ⟨v604, rfl, ho0, hb⟩; replace HO_8 := aM (Kd.S_elder' (sQ HO_8.out) (Kd.R_base ho0) hb); replace HO_26 := aM (Kd.S_elder' (sQ HO_26.out) (Kd.R_base ho0) hb); replace HO_300 := aM (Kd.S_elder' (sQ HO_300.out) (Kd.R_base ho0) hb); have HO605 := aM (Kd.R_lower (Kd.R_new' (Kd.R_new' (Kd.R_new' (Kd.R_new' (Kd.R_new' ho0 (Kd.R_lt (rQ HO_5.out))) (Kd.R_lt (rQ HO_18.out))) (Kd.R_lt (rQ HO_22.out))) (Kd.R_lt (rQ HL596_0.out))) (Kd.R_lt (rQ HL597_0.out))) (bZ HB.out)); replace HO_5 := aM (Kd.R_elder' (rQ HO_5.out) (Kd.R_base ho0) hb); replace HO_18 := aM (Kd.R_elder' (rQ HO_18.out) (Kd.R_base ho0) hb); replace HO_22 := aM (Kd.R_elder' (rQ HO_22.out) (Kd.R_base ho0) hb); replace HL596_0 := aM (Kd.R_elder' (rQ HL596_0.out) (Kd.R_base ho0) hb); replace HL597_0 := aM (Kd.R_elder' (rQ HL597_0.out) (Kd.R_base ho0) hb); replace HR596_0 := aM (Kd.C_below (cQ HR596_0.out) hb); replace HR597_0 := aM (Kd.C_below (cQ HR597_0.out) hb); replace HB := aM (bS HB.out hb); (try clear hb ho0); have p606 : 0 ≤ (1 : Int) := (by omega); have q606 : 1 < ((rd_L2 t542 x302_2).length : Int) := dA; obtain ⟨ad606, e606, hx606_0⟩ := Kd.at_int (cQ HR596_0.out) 1 p606 q606; obtain rfl : ad599 = ad606 := (by injection e606); (try simp only [show (1 : Int).toNat = 1 from rfl, Nat.reduceMul, Nat.reduceEqDiff, Go.Addr.add, ↓reduceIte] at hx606_0); have qi606 : (1 < (rd_L2 t542 x302_2).length) = True := eq_true (by omega); (try rw [show ((1 : Int)).toNat = 1 from rfl] at hx606_0); replace p606 := eq_true p606; replace q606 := eq_true q606) | (go_at_call 23; (with_reducible refine (impl_YearsOfMultiple.calls k2 _ _ t537 t538 t539 (rd (rd_L2 t542 x302_2) 1) t607 true _ ?side1 ?side2 A113.out).mono ?_); (case side1 => exact cQ ((Kd.R_reads' HO_5.out).2.2)); (case side2 => exact (Kd.R_reads' HO_5.out).2.1); rintro e w124 ⟨rfl, hb⟩; replace HO_5 := aM (Kd.R_below (rQ HO_5.out) hb); replace HO_8 := aM (Kd.S_below (sQ HO_8.out) hb); replace HO_18 := aM (Kd.R_below (rQ HO_18.out) hb); replace HO_22 := aM (Kd.R_below (rQ HO_22.out) hb); replace HO_26 := aM (Kd.S_below (sQ HO_26.out) hb); replace HO_300 := aM (Kd.S_below (sQ HO_300.out) hb); replace HL596_0 := aM (Kd.R_below (rQ HL596_0.out) hb); replace HL597_0 := aM (Kd.R_below (rQ HL597_0.out) hb); replace HO605 := aM (Kd.R_below (rQ HO605.out) hb); replace HR596_0 := aM (Kd.C_below (cQ HR596_0.out) hb); replace HR597_0 := aM (Kd.C_below (cQ HR597_0.out) hb); replace HB := aM (bS HB.out hb); (try clear hb); obtain ⟨Ao125, co125, eo125⟩ := Kd.R_slice HO605.out; subst eo125; have p609 : 0 ≤ (t539 : Int) := dA; have q609 : t539 < (t602.length : Int) := dA; obtain ⟨ad609, e609, hx609_0⟩ := Kd.at_int (Kd.R_reads' HO605.out).2.2 t539 p609 q609; cases e609; replace p609 := eq_true p609; replace q609 := eq_true q609; have p610 : 0 ≤ (t538 : Int) := dA; have q610 : t538 < (t602.length : Int) := dA; obtain ⟨ad610, e610, hx610_0⟩ := Kd.at_int (Kd.R_reads' HO605.out).2.2 t538 p610 q610; obtain rfl : ad609 = ad610 := (by injection e610); replace p610 := eq_true p610; replace q610 := eq_true q610; have p611 : 0 ≤ (1 : Int) := (by omega); have q611 : 1 < ((rd_L2 t542 x302_2).length : Int) := dA; obtain ⟨ad611, e611, hx611_0⟩ := Kd.at_int (cQ HR596_0.out) 1 p611 q611; obtain rfl : ad599 = ad611 := (by injection e611); (try simp only [show (1 : Int).toNat = 1 from rfl, Nat.reduceMul, Nat.reduceEqDiff, Go.Addr.add, ↓reduceIte] at hx611_0); have qi611 : (1 < (rd_L2 t542 x302_2).length) = True := eq_true (by omega); (try rw [show ((1 : Int)).toNat = 1 from rfl] at hx611_0); replace p611 := eq_true p611; replace q611 := eq_true q611; have p612 : 0 ≤ (t539 : Int) := dA; have q612 : t539 < (t602.length : Int) := dA; obtain ⟨ad612, e612, hx612_0⟩ := Kd.at_int (Kd.R_reads' HO605.out).2.2 t539 p612 q612; obtain rfl : ad609 = ad612 := (by injection e612); replace p612 := eq_true p612; replace q612 := eq_true q612; have p613 : 0 ≤ (0 : Int) := (by omega); have q613 : 0 < ((rd_L2 t542 x302_2).length : Int) := dA; obtain ⟨ad613, e613, hx613_0⟩ := Kd.at_int (cQ HR596_0.out) 0 p613 q613; obtain rfl : ad599 = ad613 := (by injection e613); have qi613 : (0 < (rd_L2 t542 x302_2).length) = True := eq_true (by omega); (try rw [show ((0 : Int)).toNat = 0 from rfl] at hx613_0); (try rw [Addr.add_zero'] at hx613_0); replace p613 := eq_true p613; replace q613 := eq_true q613)))
              go_roundg k2
              case measure => have := HJ19.out; have := HK2.out; omega
              case rel => exact ⟨(wrap64 (x302_2 + 1)), eqQ, H', ⟨by have := HJ19.out; have := HK2.out; omega⟩, ⟨by (with_reducible repeat (first | apply Kd.R_alloc | apply Kd.R_drewN | apply Kd.R_drew)); exact Kd.R_mono HO_5.out (fun _ hk => ⟨hk.1.1, hk.1.2⟩)⟩, ⟨by (with_reducible repeat (first | apply Kd.S_alloc | apply Kd.S_drewN | apply Kd.S_drew)); exact Kd.S_mono HO_8.out (fun _ hk => ⟨hk.1.1, ⟨hk.1.2.1, ⟨hk.1.2.2.1, hk.1.2.2.2⟩⟩⟩)⟩, ⟨by (with_reducible repeat (first | apply Kd.R_alloc | apply Kd.R_drewN | apply Kd.R_drew)); exact Kd.R_mono HO_18.out (fun _ hk => ⟨hk.1.1, hk.1.2⟩)⟩, ⟨by (with_reducible repeat (first | apply Kd.R_alloc | apply Kd.R_drewN | apply Kd.R_drew)); exact Kd.R_mono HO_22.out (fun _ hk => ⟨hk.1.1, hk.1.2⟩)⟩, ⟨by (with_reducible repeat (first | apply Kd.S_alloc | apply Kd.S_drewN | apply Kd.S_drew)); exact Kd.S_mono HO_26.out (fun _ hk => ⟨hk.1.1, ⟨hk.1.2.1, ⟨hk.1.2.2.1, ⟨hk.1.2.2.2.1, hk.1.2.2.2.2⟩⟩⟩⟩)⟩, ⟨by (with_reducible repeat (first | apply Kd.S_alloc | apply Kd.S_drewN | apply Kd.S_drew)); exact Kd.S_mono HO_300.out (fun _ hk => ⟨hk.1.1, ⟨hk.1.2.1, ⟨hk.1.2.2.1, hk.1.2.2.2⟩⟩⟩)⟩, ⟨bE HB.out⟩⟩
            ·
             as_aux_lemma =>
              rw [if_neg c103] at H
              have c103b0 : decide (0 < x302_2) = false := decide_eq_false c103
              clear c103
              by_cases c126 : 1 < ((rd_L2 t542 x302_2).length : Int)
              case neg =>
               rw [if_neg c126] at H
               exact nS H
              rw [if_pos c126] at H
              have c126b0 : decide (1 < ((rd_L2 t542 x302_2).length : Int)) = true := decide_eq_true c126
              have c126b1 : decide (1 < (rd_L2 t542 x302_2).length) = true := decide_eq_true (by omega)
              clear c126
              by_cases c127 : (rd (rd_L2 t542 x302_2) 1) < 2
              case pos =>
               rw [if_pos c127] at H
               exact nS H
              rw [if_neg c127] at H
              have c127b0 : decide ((rd (rd_L2 t542 x302_2) 1) < 2) = false := decide_eq_false c127
              clear c127
              by_cases c128 : 0 < ((rd_L2 t542 x302_2).length : Int)
              case neg =>
               rw [if_neg c128] at H
               exact nS H
              rw [if_pos c128] at H
              have c128b0 : decide (0 < ((rd_L2 t542 x302_2).length : Int)) = true := decide_eq_true c128
              have c128b1 : decide (0 < (rd_L2 t542 x302_2).length) = true := decide_eq_true (by omega)
              clear c128
              replace H := oB H
              obtain ⟨⟨t616, t617⟩, A1290, H⟩ := H
              (try dsimp only at H)
              have A129 := aM A1290
              clear A1290
              replace H := oB H
              obtain ⟨⟨t621, t622⟩, A1300, H⟩ := H
              (try dsimp only at H)
              have A130 := aM A1300
              clear A1300
              by_cases c131 : t617 = true
              case neg =>
               replace c131 := Bool.eq_false_iff.mpr c131
               subst c131
               have H1 : (none) = some r := by rw [if_neg (show ¬ (false = true) by decide)] at H; exact H
               clear H
               have H := H1
               clear H1
               exact nS H
              subst c131
              replace H := (if_pos rfl).symm.trans H
              by_cases c132 : 0 ≤ t539
              case neg =>
               rw [if_neg c132] at H
               exact nS H
              rw [if_pos c132] at H
              have c132b0 : decide (0 ≤ t539) = true := decide_eq_true c132
              clear c132
              by_cases c133 : t539 < (t616.length : Int)
              case neg =>
               rw [if_neg c133] at H
               exact nS H
              rw [if_pos c133] at H
              have c133b0 : decide (t539 < (t616.length : Int)) = true := decide_eq_true c133
              clear c133
              by_cases c134 : (rd t616 t539) < 1
              case pos =>
               rw [if_pos c134] at H
               exact nS H
              rw [if_neg c134] at H
              have c134b0 : decide ((rd t616 t539) < 1) = false := decide_eq_false c134
              clear c134
              by_cases c135 : 0 ≤ t538
              case neg =>
               rw [if_neg c135] at H
               exact nS H
              rw [if_pos c135] at H
              have c135b0 : decide (0 ≤ t538) = true := decide_eq_true c135
              clear c135
              by_cases c136 : t538 < (t616.length : Int)
              case neg =>
               rw [if_neg c136] at H
               exact nS H
              rw [if_pos c136] at H
              have c136b0 : decide (t538 < (t616.length : Int)) = true := decide_eq_true c136
              clear c136
              by_cases c137 : (rd t616 t538) = (wrap64 ((rd (rd_L2 t542 x302_2) 1) * (rd t616 t539)))
              case neg =>
               rw [if_neg c137] at H
               exact nS H
              rw [if_pos c137] at H
              have c137b0 : ((rd t616 t538) == (wrap64 ((rd (rd_L2 t542 x302_2) 1) * (rd t616 t539)))) = true := beq_iff_eq.mpr c137
              have c137q0 : ((rd t616 t538) == (IntKind.i64.wrap ((rd (rd_L2 t542 x302_2) 1) * (rd t616 t539)))) = true := by simp only [i64_w]; exact c137b0
              have c137b1 : ((rd t616 t538) != (wrap64 ((rd (rd_L2 t542 x302_2) 1) * (rd t616 t539)))) = false := bne_eq_false_iff_eq.mpr c137
              clear c137
              by_cases c138 : t622 = true
              case neg =>
               replace c138 := Bool.eq_false_iff.mpr c138
               subst c138
               have H1 : (none) = some r := by rw [if_neg (show ¬ (false = true) by decide)] at H; exact H
               clear H
               have H := H1
               clear H1
               exact nS H
              subst c138
              replace H := (if_pos rfl).symm.trans H
              by_cases c139 : t621 = (rd (rd_L2 t542 x302_2) 0)
              case neg =>
               rw [if_neg c139] at H
               exact nS H
              rw [if_pos c139] at H
              have c139b0 : (t621 == (rd (rd_L2 t542 x302_2) 0)) = true := beq_iff_eq.mpr c139
              have c139b1 : (t621 != (rd (rd_L2 t542 x302_2) 0)) = false := bne_eq_false_iff_eq.mpr c139
              clear c139
              have H' := aM H
              clear H
              have p596 : 0 ≤ (x302_2 : Int) := dA
              have q596 : x302_2 < (t542.length : Int) := dA
              obtain ⟨ad596, A596_0, c596_0, e596, hx596_0, hl596_0, hi596_0⟩ := at_L2 (Kd.S_reads' HO_300.out).2.2 x302_2 p596 q596
              cases e596
              obtain ⟨ce596, hce596, hMe596, hcc596⟩ := Kd.S_get HO_300.out [] x302_2 p596 (by first | exact q596 | exact dA | (have e_ := (Kd.S_reads' HO_300.out).1; omega))
              obtain ⟨ve596_0, rfl, ge596_0⟩ := hMe596
              have hv596_0 := hcc596 0 _ rfl
              rw [Nat.add_zero, show ((Kd.slice 3 (Kd.int .i64))).sz = 1 from rfl, Nat.mul_one] at hv596_0
              replace hv596_0 := Option.some.inj (hv596_0.symm.trans hx596_0)
              rw [hv596_0] at ge596_0
              have HL596_0 := aM (show Kd.R (Kd.int .i64) 3 _ _ _ _ (rd_L2 t542 x302_2) from ge596_0)
              clear hv596_0 ge596_0
              clear hcc596 hce596
              have HR596_0 := aM hi596_0
              have HC596_0 := aM hl596_0
              clear hi596_0 hl596_0
              replace p596 := eq_true p596
              replace q596 := eq_true q596
              have p614 : 0 ≤ (1 : Int) := (by omega)
              have q614 : 1 < ((rd_L2 t542 x302_2).length : Int) := dA
              obtain ⟨ad614, e614, hx614_0⟩ := Kd.at_int (cQ HR596_0.out) 1 p614 q614
              cases e614
              (try simp only [show (1 : Int).toNat = 1 from rfl, Nat.reduceMul, Nat.reduceEqDiff, Go.Addr.add, ↓reduceIte] at hx614_0)
              have qi614 : (1 < (rd_L2 t542 x302_2).length) = True := eq_true (by omega)
              (try rw [show ((1 : Int)).toNat = 1 from rfl] at hx614_0)
              replace p614 := eq_true p614
              replace q614 := eq_true q614
              have p615 : 0 ≤ (0 : Int) := (by omega)
              have q615 : 0 < ((rd_L2 t542 x302_2).length : Int) := dA
              obtain ⟨ad615, e615, hx615_0⟩ := Kd.at_int (cQ HR596_0.out) 0 p615 q615
              obtain rfl : ad614 = ad615 := (by injection e615)
              have qi615 : (0 < (rd_L2 t542 x302_2).length) = True := eq_true (by omega)
              (try rw [show ((0 : Int)).toNat = 0 from rfl] at hx615_0)
              (try rw [Addr.add_zero'] at hx615_0)
              replace p615 := eq_true p615
              replace q615 := eq_true q615
              go_wp2_with (first | (go_at_call 22; (with_reducible refine (impl_AgesIn.calls k2 _ _ t537 (rd (rd_L2 t542 x302_2) 0) t616 true _ ?side1 ?side2 A129.out).mono ?_); (case side1 => exact cQ ((Kd.R_reads' HO_5.out).2.2)); (case side2 => exact (Kd.R_reads' HO_5.out).2.1); rintro e w140 ⟨v618, rfl, ho0, hb⟩; replace HO_8 := aM (Kd.S_elder' (sQ HO_8.out) (Kd.R_base ho0) hb); replace HO_26 := aM (Kd.S_elder' (sQ HO_26.out) (Kd.R_base ho0) hb); replace HO_300 := aM (Kd.S_elder' (sQ HO_300.out) (Kd.R_base ho0) hb); have HO619 := aM (Kd.R_lower (Kd.R_new' (Kd.R_new' (Kd.R_new' (Kd.R_new' ho0 (Kd.R_lt (rQ HO_5.out))) (Kd.R_lt (rQ HO_18.out))) (Kd.R_lt (rQ HO_22.out))) (Kd.R_lt (rQ HL596_0.out))) (bZ HB.out)); replace HO_5 := aM (Kd.R_elder' (rQ HO_5.out) (Kd.R_base ho0) hb); replace HO_18 := aM (Kd.R_elder' (rQ HO_18.out) (Kd.R_base ho0) hb); replace HO_22 := aM (Kd.R_elder' (rQ HO_22.out) (Kd.R_base ho0) hb); replace HL596_0 := aM (Kd.R_elder' (rQ HL596_0.out) (Kd.R_base ho0) hb); replace HR596_0 := aM (Kd.C_below (cQ HR596_0.out) hb); replace HB := aM (bS HB.out hb); (try clear hb ho0); have p620 : 0 ≤ (1 : Int) := (by omega); have q620 : 1 < ((rd_L2 t542 x302_2).length : Int) := dA; obtain ⟨ad620, e620, hx620_0⟩ := Kd.at_int (cQ HR596_0.out) 1 p620 q620; obtain rfl : ad614 = ad620 := (by injection e620); (try simp only [show (1 : Int).toNat = 1 from rfl, Nat.reduceMul, Nat.reduceEqDiff, Go.Addr.add, ↓reduceIte] at hx620_0); have qi620 : (1 < (rd_L2 t542 x302_2).length) = True := eq_true (by omega); (try rw [show ((1 : Int)).toNat = 1 from rfl] at hx620_0); replace p620 := eq_true p620; replace q620 := eq_true q620) | (go_at_call 23; (with_reducible refine (impl_YearsOfMultiple.calls k2 _ _ t537 t538 t539 (rd (rd_L2 t542 x302_2) 1) t621 true _ ?side1 ?side2 A130.out).mono ?_); (case side1 => exact cQ ((Kd.R_reads' HO_5.out).2.2)); (case side2 => exact (Kd.R_reads' HO_5.out).2.1); rintro e w141 ⟨rfl, hb⟩; replace HO_5 := aM (Kd.R_below (rQ HO_5.out) hb); replace HO_8 := aM (Kd.S_below (sQ HO_8.out) hb); replace HO_18 := aM (Kd.R_below (rQ HO_18.out) hb); replace HO_22 := aM (Kd.R_below (rQ HO_22.out) hb); replace HO_26 := aM (Kd.S_below (sQ HO_26.out) hb); replace HO_300 := aM (Kd.S_below (sQ HO_300.out) hb); replace HL596_0 := aM (Kd.R_below (rQ HL596_0.out) hb); replace HO619 := aM (Kd.R_below (rQ HO619.out) hb); replace HR596_0 := aM (Kd.C_below (cQ HR596_0.out) hb); replace HB := aM (bS HB.out hb); (try clear hb); obtain ⟨Ao142, co142, eo142⟩ := Kd.R_slice HO619.out; subst eo142; have p623 : 0 ≤ (t539 : Int) := dA; have q623 : t539 < (t616.length : Int) := dA; obtain ⟨ad623, e623, hx623_0⟩ := Kd.at_int (Kd.R_reads' HO619.out).2.2 t539 p623 q623; cases e623; replace p623 := eq_true p623; replace q623 := eq_true q623; have p624 : 0 ≤ (t538 : Int) := dA; have q624 : t538 < (t616.length : Int) := dA; obtain ⟨ad624, e624, hx624_0⟩ := Kd.at_int (Kd.R_reads' HO619.out).2.2 t538 p624 q624; obtain rfl : ad623 = ad624 := (by injection e624); replace p624 := eq_true p624; replace q624 := eq_true q624; have p625 : 0 ≤ (1 : Int) := (by omega); have q625 : 1 < ((rd_L2 t542 x302_2).length : Int) := dA; obtain ⟨ad625, e625, hx625_0⟩ := Kd.at_int (cQ HR596_0.out) 1 p625 q625; obtain rfl : ad614 = ad625 := (by injection e625); (try simp only [show (1 : Int).toNat = 1 from rfl, Nat.reduceMul, Nat.reduceEqDiff, Go.Addr.add, ↓reduceIte] at hx625_0); have qi625 : (1 < (rd_L2 t542 x302_2).length) = True := eq_true (by omega); (try rw [show ((1 : Int)).toNat = 1 from rfl] at hx625_0); replace p625 := eq_true p625; replace q625 := eq_true q625; have p626 : 0 ≤ (t539 : Int) := dA; have q626 : t539 < (t616.length : Int) := dA; obtain ⟨ad626, e626, hx626_0⟩ := Kd.at_int (Kd.R_reads' HO619.out).2.2 t539 p626 q626; obtain rfl : ad623 = ad626 := (by injection e626); replace p626 := eq_true p626; replace q626 := eq_true q626; have p627 : 0 ≤ (0 : Int) := (by omega); have q627 : 0 < ((rd_L2 t542 x302_2).length : Int) := dA; obtain ⟨ad627, e627, hx627_0⟩ := Kd.at_int (cQ HR596_0.out) 0 p627 q627; obtain rfl : ad614 = ad627 := (by injection e627); have qi627 : (0 < (rd_L2 t542 x302_2).length) = True := eq_true (by omega); (try rw [show ((0 : Int)).toNat = 0 from rfl] at hx627_0); (try rw [Addr.add_zero'] at hx627_0); replace p627 := eq_true p627; replace q627 := eq_true q627))
              repeat (go_quiet (first | (go_at_call 22; (with_reducible refine (impl_AgesIn.calls k2 _ _ t537 (rd (rd_L2 t542 x302_2) 0) t616 true _ ?side1 ?side2 A129.out).mono ?_); (case side1 => exact cQ ((Kd.R_reads' HO_5.out).2.2)); (case side2 => exact (Kd.R_reads' HO_5.out).2.1); rintro e w140 ⟨v618, rfl, ho0, hb⟩; replace HO_8 := aM (Kd.S_elder' (sQ HO_8.out) (Kd.R_base ho0) hb); replace HO_26 := aM (Kd.S_elder' (sQ HO_26.out) (Kd.R_base ho0) hb); replace HO_300 := aM (Kd.S_elder' (sQ HO_300.out) (Kd.R_base ho0) hb); have HO619 := aM (Kd.R_lower (Kd.R_new' (Kd.R_new' (Kd.R_new' (Kd.R_new' ho0 (Kd.R_lt (rQ HO_5.out))) (Kd.R_lt (rQ HO_18.out))) (Kd.R_lt (rQ HO_22.out))) (Kd.R_lt (rQ HL596_0.out))) (bZ HB.out)); replace HO_5 := aM (Kd.R_elder' (rQ HO_5.out) (Kd.R_base ho0) hb); replace HO_18 := aM (Kd.R_elder' (rQ HO_18.out) (Kd.R_base ho0) hb); replace HO_22 := aM (Kd.R_elder' (rQ HO_22.out) (Kd.R_base ho0) hb); replace HL596_0 := aM (Kd.R_elder' (rQ HL596_0.out) (Kd.R_base ho0) hb); replace HR596_0 := aM (Kd.C_below (cQ HR596_0.out) hb); replace HB := aM (bS HB.out hb); (try clear hb ho0); have p620 : 0 ≤ (1 : Int) := (by omega); have q620 : 1 < ((rd_L2 t542 x302_2).length : Int) := dA; obtain ⟨ad620, e620, hx620_0⟩ := Kd.at_int (cQ HR596_0.out) 1 p620 q620; obtain rfl : ad614 = ad620 := (by injection e620); (try simp only [show (1 : Int).toNat = 1 from rfl, Nat.reduceMul, Nat.reduceEqDiff, Go.Addr.add, ↓reduceIte] at hx620_0); have qi620 : (1 < (rd_L2 t542 x302_2).length) = True := eq_true (by omega); (try rw [show ((1 : Int)).toNat = 1 from rfl] at hx620_0); replace p620 := eq_true p620; replace q620 := eq_true q620) | (go_at_call 23; (with_reducible refine (impl_YearsOfMultiple.calls k2 _ _ t537 t538 t539 (rd (rd_L2 t542 x302_2) 1) t621 true _ ?side1 ?side2 A130.out).mono ?_); (case side1 => exact cQ ((Kd.R_reads' HO_5.out).2.2)); (case side2 => exact (Kd.R_reads' HO_5.out).2.1); rintro e w141 ⟨rfl, hb⟩; replace HO_5 := aM (Kd.R_below (rQ HO_5.out) hb); replace HO_8 := aM (Kd.S_below (sQ HO_8.out) hb); replace HO_18 := aM (Kd.R_below (rQ HO_18.out) hb); replace HO_22 := aM (Kd.R_below (rQ HO_22.out) hb); replace HO_26 := aM (Kd.S_below (sQ HO_26.out) hb); replace HO_300 := aM (Kd.S_below (sQ HO_300.out) hb); replace HL596_0 := aM (Kd.R_below (rQ HL596_0.out) hb); replace HO619 := aM (Kd.R_below (rQ HO619.out) hb); replace HR596_0 := aM (Kd.C_below (cQ HR596_0.out) hb); replace HB := aM (bS HB.out hb); (try clear hb); obtain ⟨Ao142, co142, eo142⟩ := Kd.R_slice HO619.out; subst eo142; have p623 : 0 ≤ (t539 : Int) := dA; have q623 : t539 < (t616.length : Int) := dA; obtain ⟨ad623, e623, hx623_0⟩ := Kd.at_int (Kd.R_reads' HO619.out).2.2 t539 p623 q623; cases e623; replace p623 := eq_true p623; replace q623 := eq_true q623; have p624 : 0 ≤ (t538 : Int) := dA; have q624 : t538 < (t616.length : Int) := dA; obtain ⟨ad624, e624, hx624_0⟩ := Kd.at_int (Kd.R_reads' HO619.out).2.2 t538 p624 q624; obtain rfl : ad623 = ad624 := (by injection e624); replace p624 := eq_true p624; replace q624 := eq_true q624; have p625 : 0 ≤ (1 : Int) := (by omega); have q625 : 1 < ((rd_L2 t542 x302_2).length : Int) := dA; obtain ⟨ad625, e625, hx625_0⟩ := Kd.at_int (cQ HR596_0.out) 1 p625 q625; obtain rfl : ad614 = ad625 := (by injection e625); (try simp only [show (1 : Int).toNat = 1 from rfl, Nat.reduceMul, Nat.reduceEqDiff, Go.Addr.add, ↓reduceIte] at hx625_0); have qi625 : (1 < (rd_L2 t542 x302_2).length) = True := eq_true (by omega); (try rw [show ((1 : Int)).toNat = 1 from rfl] at hx625_0); replace p625 := eq_true p625; replace q625 := eq_true q625; have p626 : 0 ≤ (t539 : Int) := dA; have q626 : t539 < (t616.length : Int) := dA; obtain ⟨ad626, e626, hx626_0⟩ := Kd.at_int (Kd.R_reads' HO619.out).2.2 t539 p626 q626; obtain rfl : ad623 = ad626 := (by injection e626); replace p626 := eq_true p626; replace q626 := eq_true q626; have p627 : 0 ≤ (0 : Int) := (by omega); have q627 : 0 < ((rd_L2 t542 x302_2).length : Int) := dA; obtain ⟨ad627, e627, hx627_0⟩ := Kd.at_int (cQ HR596_0.out) 0 p627 q627; obtain rfl : ad614 = ad627 := (by injection e627); have qi627 : (0 < (rd_L2 t542 x302_2).length) = True := eq_true (by omega); (try rw [show ((0 : Int)).toNat = 0 from rfl] at hx627_0); (try rw [Addr.add_zero'] at hx627_0); replace p627 := eq_true p627; replace q627 := eq_true q627)); try go_wp2_with (first | (go_at_call 22; (with_reducible refine (impl_AgesIn.calls k2 _ _ t537 (rd (rd_L2 t542 x302_2) 0) t616 true _ ?side1 ?side2 A129.out).mono ?_); (case side1 => exact cQ ((Kd.R_reads' HO_5.out).2.2)); (case side2 => exact (Kd.R_reads' HO_5.out).2.1); rintro e w140 ⟨v618, rfl, ho0, hb⟩; replace HO_8 := aM (Kd.S_elder' (sQ HO_8.out) (Kd.R_base ho0) hb); replace HO_26 := aM (Kd.S_elder' (sQ HO_26.out) (Kd.R_base ho0) hb); replace HO_300 := aM (Kd.S_elder' (sQ HO_300.out) (Kd.R_base ho0) hb); have HO619 := aM (Kd.R_lower (Kd.R_new' (Kd.R_new' (Kd.R_new' (Kd.R_new' ho0 (Kd.R_lt (rQ HO_5.out))) (Kd.R_lt (rQ HO_18.out))) (Kd.R_lt (rQ HO_22.out))) (Kd.R_lt (rQ HL596_0.out))) (bZ HB.out)); replace HO_5 := aM (Kd.R_elder' (rQ HO_5.out) (Kd.R_base ho0) hb); replace HO_18 := aM (Kd.R_elder' (rQ HO_18.out) (Kd.R_base ho0) hb); replace HO_22 := aM (Kd.R_elder' (rQ HO_22.out) (Kd.R_base ho0) hb); replace HL596_0 := aM (Kd.R_elder' (rQ HL596_0.out) (Kd.R_base ho0) hb); replace HR596_0 := aM (Kd.C_below (cQ HR596_0.out) hb); replace HB := aM (bS HB.out hb); (try clear hb ho0); have p620 : 0 ≤ (1 : Int) := (by omega); have q620 : 1 < ((rd_L2 t542 x302_2).length : Int) := dA; obtain ⟨ad620, e620, hx620_0⟩ := Kd.at_int (cQ HR596_0.out) 1 p620 q620; obtain rfl : ad614 = ad620 := (by injection e620); (try simp only [show (1 : Int).toNat = 1 from rfl, Nat.reduceMul, Nat.reduceEqDiff, Go.Addr.add, ↓reduceIte] at hx620_0); have qi620 : (1 < (rd_L2 t542 x302_2).length) = True := eq_true (by omega); (try rw [show ((1 : Int)).toNat = 1 from rfl] at hx620_0); replace p620 := eq_true p620; replace q620 := eq_true q620) | (go_at_call 23; (with_reducible refine (impl_YearsOfMultiple.calls k2 _ _ t537 t538 t539 (rd (rd_L2 t542 x302_2) 1) t621 true _ ?side1 ?side2 A130.out).mono ?_); (case side1 => exact cQ ((Kd.R_reads' HO_5.out).2.2)); (case side2 => exact (Kd.R_reads' HO_5.out).2.1); rintro e w141 ⟨rfl, hb⟩; replace HO_5 := aM (Kd.R_below (rQ HO_5.out) hb); replace HO_8 := aM (Kd.S_below (sQ HO_8.out) hb); replace HO_18 := aM (Kd.R_below (rQ HO_18.out) hb); replace HO_22 := aM (Kd.R_below (rQ HO_22.out) hb); replace HO_26 := aM (Kd.S_below (sQ HO_26.out) hb); replace HO_300 := aM (Kd.S_below (sQ HO_300.out) hb); replace HL596_0 := aM (Kd.R_below (rQ HL596_0.out) hb); replace HO619 := aM (Kd.R_below (rQ HO619.out) hb); replace HR596_0 := aM (Kd.C_below (cQ HR596_0.out) hb); replace HB := aM (bS HB.out hb); (try clear hb); obtain ⟨Ao142, co142, eo142⟩ := Kd.R_slice HO619.out; subst eo142; have p623 : 0 ≤ (t539 : Int) := dA; have q623 : t539 < (t616.length : Int) := dA; obtain ⟨ad623, e623, hx623_0⟩ := Kd.at_int (Kd.R_reads' HO619.out).2.2 t539 p623 q623; cases e623; replace p623 := eq_true p623; replace q623 := eq_true q623; have p624 : 0 ≤ (t538 : Int) := dA; have q624 : t538 < (t616.length : Int) := dA; obtain ⟨ad624, e624, hx624_0⟩ := Kd.at_int (Kd.R_reads' HO619.out).2.2 t538 p624 q624; obtain rfl : ad623 = ad624 := (by injection e624); replace p624 := eq_true p624; replace q624 := eq_true q624; have p625 : 0 ≤ (1 : Int) := (by omega); have q625 : 1 < ((rd_L2 t542 x302_2).length : Int) := dA; obtain ⟨ad625, e625, hx625_0⟩ := Kd.at_int (cQ HR596_0.out) 1 p625 q625; obtain rfl : ad614 = ad625 := (by injection e625); (try simp only [show (1 : Int).toNat = 1 from rfl, Nat.reduceMul, Nat.reduceEqDiff, Go.Addr.add, ↓reduceIte] at hx625_0); have qi625 : (1 < (rd_L2 t542 x302_2).length) = True := eq_true (by omega); (try rw [show ((1 : Int)).toNat = 1 from rfl] at hx625_0); replace p625 := eq_true p625; replace q625 := eq_true q625; have p626 : 0 ≤ (t539 : Int) := dA; have q626 : t539 < (t616.length : Int) := dA; obtain ⟨ad626, e626, hx626_0⟩ := Kd.at_int (Kd.R_reads' HO619.out).2.2 t539 p626 q626; obtain rfl : ad623 = ad626 := (by injection e626); replace p626 := eq_true p626; replace q626 := eq_true q626; have p627 : 0 ≤ (0 : Int) := (by omega); have q627 : 0 < ((rd_L2 t542 x302_2).length : Int) := dA; obtain ⟨ad627, e627, hx627_0⟩ := Kd.at_int (cQ HR596_0.out) 0 p627 q627; obtain rfl : ad614 = ad627 := (by injection e627); have qi627 : (0 < (rd_L2 t542 x302_2).length) = True := eq_true (by omega); (try rw [show ((0 : Int)).toNat = 0 from rfl] at hx627_0); (try rw [Addr.add_zero'] at hx627_0); replace p627 := eq_true p627; replace q627 := eq_true q627)))
              go_roundg k2
              case measure => have := HJ19.out; have := HK2.out; omega
              case rel => exact ⟨(wrap64 (x302_2 + 1)), eqQ, H', ⟨by have := HJ19.out; have := HK2.out; omega⟩, ⟨by (with_reducible repeat (first | apply Kd.R_alloc | apply Kd.R_drewN | apply Kd.R_drew)); exact Kd.R_mono HO_5.out (fun _ hk => ⟨hk.1.1, hk.1.2⟩)⟩, ⟨by (with_reducible repeat (first | apply Kd.S_alloc | apply Kd.S_drewN | apply Kd.S_drew)); exact Kd.S_mono HO_8.out (fun _ hk => ⟨hk.1.1, ⟨hk.1.2.1, ⟨hk.1.2.2.1, hk.1.2.2.2⟩⟩⟩)⟩, ⟨by (with_reducible repeat (first | apply Kd.R_alloc | apply Kd.R_drewN | apply Kd.R_drew)); exact Kd.R_mono HO_18.out (fun _ hk => ⟨hk.1.1, hk.1.2⟩)⟩, ⟨by (with_reducible repeat (first | apply Kd.R_alloc | apply Kd.R_drewN | apply Kd.R_drew)); exact Kd.R_mono HO_22.out (fun _ hk => ⟨hk.1.1, hk.1.2⟩)⟩, ⟨by (with_reducible repeat (first | apply Kd.S_alloc | apply Kd.S_drewN | apply Kd.S_drew)); exact Kd.S_mono HO_26.out (fun _ hk => ⟨hk.1.1, ⟨hk.1.2.1, ⟨hk.1.2.2.1, ⟨hk.1.2.2.2.1, hk.1.2.2.2.2⟩⟩⟩⟩)⟩, ⟨by (with_reducible repeat (first | apply Kd.S_alloc | apply Kd.S_drewN | apply Kd.S_drew)); exact Kd.S_mono HO_300.out (fun _ hk => ⟨hk.1.1, ⟨hk.1.2.1, ⟨hk.1.2.2.1, hk.1.2.2.2⟩⟩⟩)⟩, ⟨bE HB.out⟩⟩
           ·
            rw [if_neg c99] at H
            have c99b0 : decide (x302_2 < (t542.length : Int)) = false := decide_eq_false c99
            clear c99
            (first | rw [c99b0] | (simp only [i64_w, i32_w]; rw [c99b0]) | skip)
            by_cases c143 : 0 ≤ t538
            case neg =>
             rw [if_neg c143] at H
             exact nS H
            rw [if_pos c143] at H
            have c143b0 : decide (0 ≤ t538) = true := decide_eq_true c143
            clear c143
            by_cases c144 : t538 < (t537.length : Int)
            case neg =>
             rw [if_neg c144] at H
             exact nS H
            rw [if_pos c144] at H
            have c144b0 : decide (t538 < (t537.length : Int)) = true := decide_eq_true c144
            clear c144
            by_cases c145 : 0 ≤ t539
            case neg =>
             rw [if_neg c145] at H
             exact nS H
            rw [if_pos c145] at H
            have c145b0 : decide (0 ≤ t539) = true := decide_eq_true c145
            clear c145
            by_cases c146 : t539 < (t537.length : Int)
            case neg =>
             rw [if_neg c146] at H
             exact nS H
            rw [if_pos c146] at H
            have c146b0 : decide (t539 < (t537.length : Int)) = true := decide_eq_true c146
            clear c146
            by_cases c147 : (rd t537 t538) ≤ (rd t537 t539)
            ·
             as_aux_lemma =>
              rw [if_pos c147] at H
              have c147b0 : decide ((rd t537 t538) ≤ (rd t537 t539)) = true := decide_eq_true c147
              clear c147
              by_cases c148 : (t542.length : Int) = 0
              case neg =>
               rw [if_neg c148] at H
               exact nS H
              rw [if_pos c148] at H
              have c148b0 : ((t542.length : Int) == 0) = true := beq_iff_eq.mpr c148
              have c148b1 : ((t542.length : Int) != 0) = false := bne_eq_false_iff_eq.mpr c148
              clear c148
              have H' := aM H
              clear H
              have p594 : 0 ≤ (t538 : Int) := dA
              have q594 : t538 < (t537.length : Int) := dA
              obtain ⟨ad594, e594, hx594_0⟩ := Kd.at_int (Kd.R_reads' HO_5.out).2.2 t538 p594 q594
              cases e594
              replace p594 := eq_true p594
              replace q594 := eq_true q594
              have p595 : 0 ≤ (t539 : Int) := dA
              have q595 : t539 < (t537.length : Int) := dA
              obtain ⟨ad595, e595, hx595_0⟩ := Kd.at_int (Kd.R_reads' HO_5.out).2.2 t539 p595 q595
              obtain rfl : ad594 = ad595 := (by injection e595)
              replace p595 := eq_true p595
              replace q595 := eq_true q595
              go_wp2
              repeat (go_quiet (fail); try go_wp2)
              go_meet
              case rel => exact ⟨_, H', ⟨by have := HJ19.out; have := HK2.out; first | omega | exact Nat.le_refl _⟩, ⟨rQ HO_5.out⟩, ⟨rQ HO_18.out⟩, ⟨rQ HO_22.out⟩, ⟨by (with_reducible repeat (first | apply Kd.S_alloc | apply Kd.S_drewN | apply Kd.S_drew)); exact Kd.S_mono HO_26.out (fun _ hk => ⟨hk.1, ⟨hk.2.2.1, hk.2.2.2.1⟩⟩)⟩, ⟨bE HB.out⟩⟩
            ·
             as_aux_lemma =>
              rw [if_neg c147] at H
              have c147b0 : decide ((rd t537 t538) ≤ (rd t537 t539)) = false := decide_eq_false c147
              clear c147
              have H' := aM H
              clear H
              have p594 : 0 ≤ (t538 : Int) := dA
              have q594 : t538 < (t537.length : Int) := dA
              obtain ⟨ad594, e594, hx594_0⟩ := Kd.at_int (Kd.R_reads' HO_5.out).2.2 t538 p594 q594
              cases e594
              replace p594 := eq_true p594
              replace q594 := eq_true q594
              have p595 : 0 ≤ (t539 : Int) := dA
              have q595 : t539 < (t537.length : Int) := dA
              obtain ⟨ad595, e595, hx595_0⟩ := Kd.at_int (Kd.R_reads' HO_5.out).2.2 t539 p595 q595
              obtain rfl : ad594 = ad595 := (by injection e595)
              replace p595 := eq_true p595
              replace q595 := eq_true q595
              go_wp2
              repeat (go_quiet (fail); try go_wp2)
              go_meet
              case rel => exact ⟨_, H', ⟨by have := HJ19.out; have := HK2.out; first | omega | exact Nat.le_refl _⟩, ⟨rQ HO_5.out⟩, ⟨rQ HO_18.out⟩, ⟨rQ HO_22.out⟩, ⟨by (with_reducible repeat (first | apply Kd.S_alloc | apply Kd.S_drewN | apply Kd.S_drew)); exact Kd.S_mono HO_26.out (fun _ hk => ⟨hk.1, ⟨hk.2.2.1, hk.2.2.2.1⟩⟩)⟩, ⟨bE HB.out⟩⟩
      ·
       as_aux_lemma =>
        replace c97 := Bool.eq_false_iff.mpr c97
        subst c97
        have H1 : (laws_FnAgesCompared.j2 kj19 l1 t537 t538 t539 t550 t551 t552 t556 t557 t564 t572 t580 t584 t585) = some r := by rw [if_neg (show ¬ (false = true) by decide)] at H; exact H
        clear H
        have H := H1
        clear H1
        have H' := aM H
        clear H
        go_wp2
        repeat (go_quiet (fail); try go_wp2)
        go_meet
        case rel => exact ⟨_, H', ⟨by have := HJ19.out; first | omega | exact Nat.le_refl _⟩, ⟨rQ HO_5.out⟩, ⟨rQ HO_18.out⟩, ⟨rQ HO_22.out⟩, ⟨by (with_reducible repeat (first | apply Kd.S_alloc | apply Kd.S_drewN | apply Kd.S_drew)); exact Kd.S_mono HO_26.out (fun _ hk => ⟨hk.1, ⟨hk.2.2.1, hk.2.2.2⟩⟩)⟩, ⟨bE HB.out⟩⟩
    case rest =>
     as_aux_lemma =>
      clear HC96
      obtain ⟨kq, HA, HJ95, HO_5, HO_18, HO_22, HO_26, HB⟩ := hcut
      go_step
      exact HT_j2 kq A0 c0 l0 A1 c1 l1 r w wc t537 t538 t539 t550 t551 t552 t556 t557 t564 t572 t580 t584 t585 kj19 Ao22 co22 v558 v566 v574 _ _ (by kernel_rfl) HR0 HC0 HR1 HC1 HT HA HJ95 HO_5 HO_18 HO_22 HO_26 HB (by kernel_rfl) rfl rfl rfl rfl rfl rfl rfl rfl rfl rfl rfl rfl rfl rfl
end Go.Proofs.YtcfgkpifloghlaaGreatDoor.P
