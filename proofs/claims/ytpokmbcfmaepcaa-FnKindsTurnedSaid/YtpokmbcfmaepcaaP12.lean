-- Written by drive.py (wip/ of this repository) over the kit's print: functions, contracts, rows. Lean checks it.
import Derived.Test.YtpokmbcfmaepcaaP8
namespace Go.Proofs.Ytpokmbcfmaepcaa.P
open Go.RowKit Go.Proofs.YtpokmbcfmaepcaaW.PrintWords Go.Proofs.YtpokmbcfmaepcaaW.PrintLast Go.Proofs.YtpokmbcfmaepcaaW.PrintMore
attribute [local go_sem] max2_int min2_int max_two min_two max_three min_three max_four min_four undef_guard   -- for this text's walks alone
set_option linter.unusedVariables false
set_option linter.unusedSimpArgs false

set_option maxHeartbeats 800000000 in
set_option maxRecDepth 100000 in
theorem laws_FnKindsTurned.tj9 (HT_j12 : laws_FnKindsTurned.Tj12) : laws_FnKindsTurned.Tj9 := by
 intro kq A0 c0 l0 A1 c1 l1 r w wc t463 t464 t465 t472 t473 t474 t477 t478 t485 t489 t490 t491 t492 t499 t500 t501 t502 t503 kj93 v479 v493 v504 v466 s_0 s_1 s_2 s_3 s_4 s_5 s_6 s_7 s_8 s_9 s_10 s_11 s_12 s_13 s_14 s_15 s_16 s_17 s_18 s_19 s_20 s_21 s_22 s_23 s_24 s_25 s_26 s_27 s_28 s_29 s_30 s_31 s_32 s_33 s_34 s_35 s_36 s_37 s_38 s_39 s_40 s_41 s_42 s_46 s_47 s_51 s_52 s_55 s_56 s_58 s_59 s_60 s_65 s_66 s_72 s_73 s_74 s_75 s_76 s_77 s_78 s_79 s_80 s_81 s_82 s_83 s_84 s_85 s_86 s_87 s_88 s_89 s_90 s_91 s_92 s_93 s_94 s_95 s_96 s_97 s_98 s_99 s_100 s_101 s_102 s_103 s_104 s_105 s_106 s_107 s_108 s_109 s_110 s_111 s_112 s_113 s_114 s_115 s_116 s_117 s_118 s_119 s_120 s_121 s_122 s_123 s_124 s_125 s_126 s_127 s_128 s_129 s_130 s_131 s_132 s_133 s_134 s_135 s_136 s_137 s_138 s_139 s_140 s_141 s_142 s_143 s_144 s_145 s_146 s_147 s_148 s_149 s_150 s_151 s_152 s_153 s_154 s_155 s_156 s_157 s_158 s_159 s_160 s_161 s_162 s_163 s_164 s_165 s_166 s_167 s_168 s_169 s_170 s_171 s_172 s_173 s_174 s_175 s_176 s_177 s_178 s_179 s_180 s_181 s_182 s_183 s_184 s_185 s_186 s_187 s_188 s_189 s_190 s_191 s_192 s_193 s_194 s_195 s_196 s_197 s_198 s_199 s_200 s_201 s_202 s_203 s_204 s_205 s_206 s_207 s_208 s_209 s_210 s_211 s_212 s_213 s_214 s_215 s_216 s_217 s_218 s_219 s_220 s_221 s_222 s_223 s_224 s_225 s_226 s_227 s_228 s_229 s_230 s_231 s_232 s_233 s_234 s_235 s_236 s_237 s_238 s_239 s_240 s_241 s_242 s_243 s_244 s_245 s_246 s_247 s_248 s_249 s_250 s_251 s_252 s_253 s_254 s_255 s_256 s_257 s_258 s_259 s_260 s_261 s_262 s_263 s_264 s_265 s_266 s_267 s_268 s_269 s_270 s_271 s_272 s_273 s_274 s_275 s_276 s_277 s_278 s_279 s_280 s_281 s_282 s_283 s_284 s_285 s_286 s_287 s_288 s_289 s_290 s_291 s_292 s_293 s_294 s_295 s_296 s_297 s_298 s_299 s_300 s_301 s_302 s_303 s_304 s_305 s_306 s_307 s_308 s_309 s_310 s_311 s_312 s_313 s_314 s_315 s_316 s_317 s_318 s_319 s_320 s_321 s_322 s_323 s_324 s_325 s_326 s_327 s_328 s_329 s_330 s_331 s_332 s_333 s_334 s_335 s_336 s_337 s_338 s_339 s_340 s_341 s_342 s_343 s_344 s_345 s_346 s_347 s_348 s_349 s_350 s_351 s_352 s_353 s_354 s_355 s_356 s_357 s_358 s_359 s_360 s_361 s_362 s_363 s_364 s_365 s_366 s_367 s_368 s_369 s_370 s_371 s_372 s_373 s_374 s_375 s_376 s_377 s_378 s_379 s_380 s_381 s_382 s_383 s_384 s_385 s_386 s_387 s_388 s_389 s_390 s_391 s_392 s_393 s_394 s_395 s_396 s_397 s_398 s_399 s_400 s_401 s_402 s_403 s_404 s_405 s_406 s_407 s_408 s_409 s_410 s_411 s_412 s_413 s_414 s_415 s_416 s_417 s_418 s_419 s_420 s_421 s_422 s_423 s_424 s_425 s_426 s_427 s_428 s_429 s_430 s_431 s_432 s_433 s_434 s_435 s_436 s_437 s_438 s_439 s_440 s_441 s_442 s_443 s_444 s_445 s_446 s_447 s_448 s_449 s_450 s_451 s_452 s_453 s_454 s_455 s_456 s_457 s_458 s_459 s_460 s_461 s_462 s_463 s_464 s_465 s_466 s_467 s_468 s_469 s_470 s_471 s_472 s_473 s_474 s_475 s_476 s_477 s_478 s_479 s_480 s_481 s_482 s_483 s_484 s_485 s_486 s_487 s_488 s_489 s_490 s_491 s_492 s_493 s_494 s_495 s_496 s_497 s_498 s_499 s_500 s_501 s_502 s_503 s_504 s_505 s_506 s_507 s_508 s_509 s_510 s_511 s_512 s_513 s_514 s_515 s_516 s_517 s_518 s_519 s_520 s_521 s_522 s_523 s_524 s_525 s_526 s_527 s_528 s_529 s_530 s_531 s_532 s_533 s_534 s_535 s_536 s_537 s_538 s_539 s_540 s_541 s_542 s_543 s_544 s_545 s_546 s_547 s_548 s_549 s_550 s_551 s_552 s_553 s_554 s_555 s_556 s_557 s_558 s_559 s_560 s_561 s_562 s_563 s_564 s_565 s_566 s_567 s_568 s_569 s_570 s_571 s_572 s_573 s_574 s_575 s_576 s_577 s_578 s_579 s_580 s_581 s_582 s_583 s_584 s_585 s_586 s_587 s_588 s_589 s_590 s_591 s_592 s_593 s_594 s_595 s_596 s_597 s_598 s_599 s_600 s_601 s_602 s_603 s_604 s_605 s_606 s_607 s_608 s_609 s_610 s_611 s_612 s_613 s_614 s_615 s_616 s_617 s_618 s_619 s_620 s_621 s_622 s_623 s_624 s_625 s_626 s_627 s_628 s_629 s_630 s_631 s_632 s_633 s_634 s_635 s_636 s_637 s_638 s_639 s_640 s_641 s_642 s_643 s_644 s_645 s_646 c_ hc_ HR0 HC0 HR1 HC1 HA HJ166 HO_44 HO_53 HO_63 HO_70 HB
 obtain rfl := Option.some.inj ((show some _ = some c_ from hc_))
 cases kq with
 | zero => exact absurd HA.out (by simp [laws_FnKindsTurned.j9])
 | succ kj166 =>
  have H := HA.out
  clear HA
  simp only [laws_FnKindsTurned.j9] at H
  have HC176 := Aside0.mk H
  clear H
  go_upto_if 491 with (fail)
  go_cut [] from 9999 (fun wc => ∃ (kq : Nat), Aside0 (laws_FnKindsTurned.j12 kq t472 t473 t474 t477 t478 t485 t489 t490 t491 t492 t499 t500 t501 t502 t503 = some r) ∧ Aside0 (kq ≤ kj166) ∧ Aside0 (Kd.R (Kd.int .i64) 3 wc w.heap.size (fun k_ => some k_ ≠ (v493 : Value).ownBlock ∧ some k_ ≠ (v504 : Value).ownBlock) v479 t477) ∧ Aside0 (Kd.R (Kd.int .i64) 3 wc w.heap.size (fun k_ => some k_ ≠ (v479 : Value).ownBlock ∧ some k_ ≠ (v504 : Value).ownBlock) v493 t491) ∧ Aside0 (Kd.R (Kd.int .i64) 3 wc w.heap.size (fun k_ => some k_ ≠ (v479 : Value).ownBlock ∧ some k_ ≠ (v493 : Value).ownBlock) v504 t502) ∧ Aside0 (Below w.heap.size w wc))
  case first =>
   have H := HC176.out
   clear HC176
   by_cases c177 : t465 = true
   ·
    subst c177
    replace H := (if_pos rfl).symm.trans H
    have HC178 := Aside0.mk H
    clear H
    go_upto_region 66 with (fail)
    go_cut [504] from 9999 (fun v504_s wc => ∃ (kq : Nat) (x504_177 : Bool), v504_s = .bool x504_177 ∧ Aside0 (laws_FnKindsTurned.j10 kq t463 t464 t472 t473 t474 t477 t478 t485 t489 t490 t491 t492 t499 t500 t501 t502 t503 x504_177 = some r) ∧ Aside0 (kq ≤ kj166) ∧ Aside0 (Kd.R (Kd.int .i64) 3 wc w.heap.size (fun k_ => some k_ ≠ (v479 : Value).ownBlock ∧ some k_ ≠ (v493 : Value).ownBlock ∧ some k_ ≠ (v504 : Value).ownBlock) v466 t464) ∧ Aside0 (Kd.R (Kd.int .i64) 3 wc w.heap.size (fun k_ => some k_ ≠ (v466 : Value).ownBlock ∧ some k_ ≠ (v493 : Value).ownBlock ∧ some k_ ≠ (v504 : Value).ownBlock) v479 t477) ∧ Aside0 (Kd.R (Kd.int .i64) 3 wc w.heap.size (fun k_ => some k_ ≠ (v466 : Value).ownBlock ∧ some k_ ≠ (v479 : Value).ownBlock ∧ some k_ ≠ (v504 : Value).ownBlock) v493 t491) ∧ Aside0 (Kd.R (Kd.int .i64) 3 wc w.heap.size (fun k_ => some k_ ≠ (v466 : Value).ownBlock ∧ some k_ ≠ (v479 : Value).ownBlock ∧ some k_ ≠ (v493 : Value).ownBlock) v504 t502) ∧ Aside0 (Below w.heap.size w wc))
    case first =>
     have H := HC178.out
     clear HC178
     replace H := Option.bind_eq_some_iff.mp H
     obtain ⟨t516, A1790, H⟩ := H
     (try dsimp only at H)
     have A179 := Aside0.mk A1790
     clear A1790
     by_cases c180 : t516 = true
     ·
      subst c180
      replace H := (if_pos rfl).symm.trans H
      by_cases c181 : (Int.tmod t463 9) = 0
      ·
       rw [if_pos c181] at H
       have c181b0 : ((Int.tmod t463 9) == 0) = true := beq_iff_eq.mpr c181
       have c181b1 : ((Int.tmod t463 9) != 0) = false := bne_eq_false_iff_eq.mpr c181
       clear c181
       (first | rw [c181b0] | (simp only [i64_w, i32_w]; rw [c181b0]) | skip)
       have H' := Aside0.mk H
       clear H
       obtain ⟨Ao182, co182, eo182⟩ := Kd.R_slice HO_44.out
       subst eo182
       go_wp2_with (first | ((with_reducible refine gate_callee (f := 13) rfl ?_); refine goesL_ (some 493) rfl rfl Try.func13 (by kernel_rfl) rfl #[.slice Ao182 t464.length co182] rfl (by (try simp only [List.map_toArray, List.map_cons, List.map_nil]); first | done | rfl | (simp only [List.length_drop, List.length_take]; rfl)) ?_; (with_reducible refine (laws_qRises.calls kj166 _ _ t464 true _ ?side1 ?side2 A179.out).mono ?_); (case side1 => repeat (first | exact (Kd.R_reads' HO_44.out).2.2 | (with_reducible refine Kd.C_alloc ?_ _) | (with_reducible refine Kd.C_drewN ?_ _) | (with_reducible refine Kd.C_drew ?_))); (case side2 => exact (Kd.R_reads' HO_44.out).2.1); rintro e w' ⟨rfl, ⟨nd, rfl⟩⟩; refine ⟨_, rfl, ?_⟩))
       go_meet
       case rel => exact ⟨_, (false), (by first | rfl | (simp; done) | (simp [*]; done)), H', ⟨by have := HJ166.out; first | omega | exact Nat.le_refl _⟩, ⟨by (with_reducible repeat (first | apply Kd.R_alloc | apply Kd.R_drewN | apply Kd.R_drew)); exact HO_44.out⟩, ⟨by (with_reducible repeat (first | apply Kd.R_alloc | apply Kd.R_drewN | apply Kd.R_drew)); exact HO_53.out⟩, ⟨by (with_reducible repeat (first | apply Kd.R_alloc | apply Kd.R_drewN | apply Kd.R_drew)); exact HO_63.out⟩, ⟨by (with_reducible repeat (first | apply Kd.R_alloc | apply Kd.R_drewN | apply Kd.R_drew)); exact HO_70.out⟩, ⟨by repeat (first | (with_reducible first | exact HB.out | apply below_alloc | apply pw_below_drewN | apply below_drew1) | exact HB.out)⟩⟩
      ·
       rw [if_neg c181] at H
       have c181b0 : ((Int.tmod t463 9) == 0) = false := beq_eq_false_iff_ne.mpr c181
       have c181b1 : ((Int.tmod t463 9) != 0) = true := bne_iff_ne.mpr c181
       (first | rw [c181b0] | (simp only [i64_w, i32_w]; rw [c181b0]) | skip)
       have H' := Aside0.mk H
       clear H
       obtain ⟨Ao183, co183, eo183⟩ := Kd.R_slice HO_44.out
       subst eo183
       go_wp2_with (first | ((with_reducible refine gate_callee (f := 13) rfl ?_); refine goesL_ (some 493) rfl rfl Try.func13 (by kernel_rfl) rfl #[.slice Ao183 t464.length co183] rfl (by (try simp only [List.map_toArray, List.map_cons, List.map_nil]); first | done | rfl | (simp only [List.length_drop, List.length_take]; rfl)) ?_; (with_reducible refine (laws_qRises.calls kj166 _ _ t464 true _ ?side1 ?side2 A179.out).mono ?_); (case side1 => repeat (first | exact (Kd.R_reads' HO_44.out).2.2 | (with_reducible refine Kd.C_alloc ?_ _) | (with_reducible refine Kd.C_drewN ?_ _) | (with_reducible refine Kd.C_drew ?_))); (case side2 => exact (Kd.R_reads' HO_44.out).2.1); rintro e w' ⟨rfl, ⟨nd, rfl⟩⟩; refine ⟨_, rfl, ?_⟩))
       go_meet
       case rel => exact ⟨_, (((t464.length : Int) != 0)), (by first | rfl | (simp; done) | (simp [*]; done)), H', ⟨by have := HJ166.out; first | omega | exact Nat.le_refl _⟩, ⟨by (with_reducible repeat (first | apply Kd.R_alloc | apply Kd.R_drewN | apply Kd.R_drew)); exact HO_44.out⟩, ⟨by (with_reducible repeat (first | apply Kd.R_alloc | apply Kd.R_drewN | apply Kd.R_drew)); exact HO_53.out⟩, ⟨by (with_reducible repeat (first | apply Kd.R_alloc | apply Kd.R_drewN | apply Kd.R_drew)); exact HO_63.out⟩, ⟨by (with_reducible repeat (first | apply Kd.R_alloc | apply Kd.R_drewN | apply Kd.R_drew)); exact HO_70.out⟩, ⟨by repeat (first | (with_reducible first | exact HB.out | apply below_alloc | apply pw_below_drewN | apply below_drew1) | exact HB.out)⟩⟩
     ·
      replace c180 := Bool.eq_false_iff.mpr c180
      subst c180
      have H1 : (none) = some r := by rw [if_neg (show ¬ (false = true) by decide)] at H; exact H
      clear H
      have H := H1
      clear H1
      exact absurd H (by simp)
    case rest =>
     clear HC178
     (try clear c177)
     obtain ⟨kq, x504_177, rfl, HA, HJ177, HO_44, HO_53, HO_63, HO_70, HB⟩ := hcut
     cases kq with
     | zero => exact absurd HA.out (by simp [laws_FnKindsTurned.j10])
     | succ kj177 =>
      have H := HA.out
      clear HA
      simp only [laws_FnKindsTurned.j10] at H
      by_cases c184 : x504_177 = true
      ·
       subst c184
       replace H := (if_pos rfl).symm.trans H
       exact absurd H (by simp)
      ·
       replace c184 := Bool.eq_false_iff.mpr c184
       subst c184
       have H1 : (laws_FnKindsTurned.l3 kj177 t463 t472 t473 t474 t477 t478 t485 t489 t490 t491 t492 t499 t500 t501 t502 t503 t464 (t464.length : Int) 0) = some r := by rw [if_neg (show ¬ (false = true) by decide)] at H; exact H
       clear H
       have H := H1
       clear H1
       have H' := Aside0.mk H
       clear H
       obtain ⟨Ao185, co185, eo185⟩ := Kd.R_slice HO_44.out
       subst eo185
       go_wp2
       go_loopg [507] kj177 (fun kq v507_s w' => ∃ (x507_7 : Int), v507_s = .int .i64 x507_7 ∧ Aside0 (laws_FnKindsTurned.l3 kq t463 t472 t473 t474 t477 t478 t485 t489 t490 t491 t492 t499 t500 t501 t502 t503 t464 (t464.length : Int) x507_7 = some r) ∧ Aside0 (kq ≤ kj177) ∧ Aside0 (Kd.R (Kd.int .i64) 3 w' w.heap.size (fun k_ => some k_ ≠ (v493 : Value).ownBlock ∧ some k_ ≠ (v504 : Value).ownBlock ∧ some k_ ≠ ((.slice Ao185 t464.length co185) : Value).ownBlock) v479 t477) ∧ Aside0 (Kd.R (Kd.int .i64) 3 w' w.heap.size (fun k_ => some k_ ≠ (v479 : Value).ownBlock ∧ some k_ ≠ (v504 : Value).ownBlock ∧ some k_ ≠ ((.slice Ao185 t464.length co185) : Value).ownBlock) v493 t491) ∧ Aside0 (Kd.R (Kd.int .i64) 3 w' w.heap.size (fun k_ => some k_ ≠ (v479 : Value).ownBlock ∧ some k_ ≠ (v493 : Value).ownBlock ∧ some k_ ≠ ((.slice Ao185 t464.length co185) : Value).ownBlock) v504 t502) ∧ Aside0 (Kd.R (Kd.int .i64) 3 w' w.heap.size (fun k_ => some k_ ≠ (v479 : Value).ownBlock ∧ some k_ ≠ (v493 : Value).ownBlock ∧ some k_ ≠ (v504 : Value).ownBlock) (.slice Ao185 t464.length co185) t464) ∧ Aside0 (Below w.heap.size w w'))
       case atStart => exact ⟨(0), (by first | rfl | (simp; done) | (simp [*]; done)), H', ⟨Nat.le_refl _⟩, ⟨by (with_reducible repeat (first | apply Kd.R_alloc | apply Kd.R_drewN | apply Kd.R_drew)); exact Kd.R_mono HO_53.out (fun _ hk => ⟨hk.2.1, ⟨hk.2.2, hk.1⟩⟩)⟩, ⟨by (with_reducible repeat (first | apply Kd.R_alloc | apply Kd.R_drewN | apply Kd.R_drew)); exact Kd.R_mono HO_63.out (fun _ hk => ⟨hk.2.1, ⟨hk.2.2, hk.1⟩⟩)⟩, ⟨by (with_reducible repeat (first | apply Kd.R_alloc | apply Kd.R_drewN | apply Kd.R_drew)); exact Kd.R_mono HO_70.out (fun _ hk => ⟨hk.2.1, ⟨hk.2.2, hk.1⟩⟩)⟩, ⟨by (with_reducible repeat (first | apply Kd.R_alloc | apply Kd.R_drewN | apply Kd.R_drew)); exact HO_44.out⟩, ⟨by repeat (first | (with_reducible first | exact HB.out | apply below_alloc | apply pw_below_drewN | apply below_drew1) | exact HB.out)⟩⟩
       case round =>
        clear H'
        (try clear c184)
        obtain ⟨x507_7, rfl, HA, HK7, HO_53, HO_63, HO_70, HO_505, HB⟩ := hrel
        cases gk with
        | zero => exact absurd HA.out (by simp [laws_FnKindsTurned.l3])
        | succ k7 =>
         have H := HA.out
         clear HA
         simp only [laws_FnKindsTurned.l3] at H
         by_cases c186 : x507_7 < (t464.length : Int)
         ·
          rw [if_pos c186] at H
          have c186b0 : decide (x507_7 < (t464.length : Int)) = true := decide_eq_true c186
          clear c186
          by_cases c187 : 0 ≤ x507_7
          ·
           rw [if_pos c187] at H
           have c187b0 : decide (0 ≤ x507_7) = true := decide_eq_true c187
           clear c187
           by_cases c188 : x507_7 < (t464.length : Int)
           ·
            rw [if_pos c188] at H
            have c188b0 : decide (x507_7 < (t464.length : Int)) = true := decide_eq_true c188
            clear c188
            replace H := Option.bind_eq_some_iff.mp H
            obtain ⟨⟨t518, t519⟩, A1890, H⟩ := H
            (try dsimp only at H)
            have A189 := Aside0.mk A1890
            clear A1890
            by_cases c190 : t519 = true
            ·
             subst c190
             replace H := (if_pos rfl).symm.trans H
             by_cases c191 : t518 = (wrap64 ((rd t464 x507_7) + t463))
             ·
              rw [if_pos c191] at H
              have c191b0 : (t518 == (wrap64 ((rd t464 x507_7) + t463))) = true := beq_iff_eq.mpr c191
              have c191b1 : (t518 != (wrap64 ((rd t464 x507_7) + t463))) = false := bne_eq_false_iff_eq.mpr c191
              clear c191
              have H' := Aside0.mk H
              clear H
              have p517 : 0 ≤ (x507_7 : Int) := of_decide_eq_true (by first | (with_reducible assumption) | assumption)
              have q517 : x507_7 < (t464.length : Int) := of_decide_eq_true (by first | (with_reducible assumption) | assumption)
              obtain ⟨ad517, e517, hx517_0⟩ := Kd.at_int (Kd.R_reads' HO_505.out).2.2 x507_7 p517 q517
              cases e517
              replace p517 := eq_true p517
              replace q517 := eq_true q517
              go_wp2_with (first | ((with_reducible refine gate_callee (f := 14) rfl ?_); refine goesL_ (some 513) rfl rfl Try.func14 (by kernel_rfl) rfl #[.int .i64 (rd t464 x507_7)] rfl (by (try simp only [List.map_toArray, List.map_cons, List.map_nil]); first | done | rfl | (simp only [List.length_drop, List.length_take]; rfl)) ?_; (with_reducible refine (impl_TurnedAge.calls (rd t464 x507_7) t518 true _ A189.out).mono ?_); rintro e w' ⟨rfl, ⟨nd, rfl⟩⟩; refine ⟨_, rfl, ?_⟩))
              go_roundg k7
              case measure => have := HJ166.out; have := HJ177.out; have := HK7.out; omega
              case rel => exact ⟨(wrap64 (x507_7 + 1)), (by first | rfl | (simp; done) | (simp [*]; done)), H', ⟨by have := HJ166.out; have := HJ177.out; have := HK7.out; omega⟩, ⟨by (with_reducible repeat (first | apply Kd.R_alloc | apply Kd.R_drewN | apply Kd.R_drew)); exact HO_53.out⟩, ⟨by (with_reducible repeat (first | apply Kd.R_alloc | apply Kd.R_drewN | apply Kd.R_drew)); exact HO_63.out⟩, ⟨by (with_reducible repeat (first | apply Kd.R_alloc | apply Kd.R_drewN | apply Kd.R_drew)); exact HO_70.out⟩, ⟨by (with_reducible repeat (first | apply Kd.R_alloc | apply Kd.R_drewN | apply Kd.R_drew)); exact HO_505.out⟩, ⟨by repeat (first | (with_reducible first | exact HB.out | apply below_alloc | apply pw_below_drewN | apply below_drew1) | exact HB.out)⟩⟩
             ·
              rw [if_neg c191] at H
              exact absurd H (by simp)
            ·
             replace c190 := Bool.eq_false_iff.mpr c190
             subst c190
             have H1 : (none) = some r := by rw [if_neg (show ¬ (false = true) by decide)] at H; exact H
             clear H
             have H := H1
             clear H1
             exact absurd H (by simp)
           ·
            rw [if_neg c188] at H
            exact absurd H (by simp)
          ·
           rw [if_neg c187] at H
           exact absurd H (by simp)
         ·
          rw [if_neg c186] at H
          have c186b0 : decide (x507_7 < (t464.length : Int)) = false := decide_eq_false c186
          clear c186
          have H' := Aside0.mk H
          clear H
          go_wp2
          go_meet
          case rel => exact ⟨_, H', ⟨by have := HJ166.out; have := HJ177.out; have := HK7.out; first | omega | exact Nat.le_refl _⟩, ⟨by (with_reducible repeat (first | apply Kd.R_alloc | apply Kd.R_drewN | apply Kd.R_drew)); exact Kd.R_mono HO_53.out (fun _ hk => ⟨hk.1, hk.2.1⟩)⟩, ⟨by (with_reducible repeat (first | apply Kd.R_alloc | apply Kd.R_drewN | apply Kd.R_drew)); exact Kd.R_mono HO_63.out (fun _ hk => ⟨hk.1, hk.2.1⟩)⟩, ⟨by (with_reducible repeat (first | apply Kd.R_alloc | apply Kd.R_drewN | apply Kd.R_drew)); exact Kd.R_mono HO_70.out (fun _ hk => ⟨hk.1, hk.2.1⟩)⟩, ⟨by repeat (first | (with_reducible first | exact HB.out | apply below_alloc | apply pw_below_drewN | apply below_drew1) | exact HB.out)⟩⟩
   ·
    replace c177 := Bool.eq_false_iff.mpr c177
    subst c177
    have H1 : (laws_FnKindsTurned.j12 kj166 t472 t473 t474 t477 t478 t485 t489 t490 t491 t492 t499 t500 t501 t502 t503) = some r := by rw [if_neg (show ¬ (false = true) by decide)] at H; exact H
    clear H
    have H := H1
    clear H1
    have H' := Aside0.mk H
    clear H
    go_wp2
    go_meet
    case rel => exact ⟨_, H', ⟨by have := HJ166.out; first | omega | exact Nat.le_refl _⟩, ⟨by (with_reducible repeat (first | apply Kd.R_alloc | apply Kd.R_drewN | apply Kd.R_drew)); exact Kd.R_mono HO_53.out (fun _ hk => ⟨hk.2.1, hk.2.2⟩)⟩, ⟨by (with_reducible repeat (first | apply Kd.R_alloc | apply Kd.R_drewN | apply Kd.R_drew)); exact Kd.R_mono HO_63.out (fun _ hk => ⟨hk.2.1, hk.2.2⟩)⟩, ⟨by (with_reducible repeat (first | apply Kd.R_alloc | apply Kd.R_drewN | apply Kd.R_drew)); exact Kd.R_mono HO_70.out (fun _ hk => ⟨hk.2.1, hk.2.2⟩)⟩, ⟨by repeat (first | (with_reducible first | exact HB.out | apply below_alloc | apply pw_below_drewN | apply below_drew1) | exact HB.out)⟩⟩
  case rest =>
   clear HC176
   obtain ⟨kq, HA, HJ175, HO_53, HO_63, HO_70, HB⟩ := hcut
   go_step
   exact HT_j12 kq A0 c0 l0 A1 c1 l1 r w wc t472 t473 t474 t477 t478 t485 t489 t490 t491 t492 t499 t500 t501 t502 t503 kj166 v493 v504 v479 _ _ _ _ _ _ _ _ _ _ _ _ _ _ _ _ _ _ _ _ _ _ _ _ _ _ _ _ _ _ _ _ _ _ _ _ _ _ _ _ _ _ _ _ _ _ _ _ _ _ _ _ _ _ _ _ _ _ _ _ _ _ _ _ _ _ _ _ _ _ _ _ _ _ _ _ _ _ _ _ _ _ _ _ _ _ _ _ _ _ _ _ _ _ _ _ _ _ _ _ _ _ _ _ _ _ _ _ _ _ _ _ _ _ _ _ _ _ _ _ _ _ _ _ _ _ _ _ _ _ _ _ _ _ _ _ _ _ _ _ _ _ _ _ _ _ _ _ _ _ _ _ _ _ _ _ _ _ _ _ _ _ _ _ _ _ _ _ _ _ _ _ _ _ _ _ _ _ _ _ _ _ _ _ _ _ _ _ _ _ _ _ _ _ _ _ _ _ _ _ _ _ _ _ _ _ _ _ _ _ _ _ _ _ _ _ _ _ _ _ _ _ _ _ _ _ _ _ _ _ _ _ _ _ _ _ _ _ _ _ _ _ _ _ _ _ _ _ _ _ _ _ _ _ _ _ _ _ _ _ _ _ _ _ _ _ _ _ _ _ _ _ _ _ _ _ _ _ _ _ _ _ _ _ _ _ _ _ _ _ _ _ _ _ _ _ _ _ _ _ _ _ _ _ _ _ _ _ _ _ _ _ _ _ _ _ _ _ _ _ _ _ _ _ _ _ _ _ _ _ _ _ _ _ _ _ _ _ _ _ _ _ _ _ _ _ _ _ _ _ _ _ _ _ _ _ _ _ _ _ _ _ _ _ _ _ _ _ _ _ _ _ _ _ _ _ _ _ _ _ _ _ _ _ _ _ _ _ _ _ _ _ _ _ _ _ _ _ _ _ _ _ _ _ _ _ _ _ _ _ _ _ _ _ _ _ _ _ _ _ _ _ _ _ _ _ _ _ _ _ _ _ _ _ _ _ _ _ _ _ _ _ _ _ _ _ _ _ _ _ _ _ _ _ _ _ _ _ _ _ _ _ _ _ _ _ _ _ _ _ _ _ _ _ _ _ _ _ _ _ _ _ _ _ _ _ _ _ _ _ _ _ _ _ _ _ _ _ _ _ _ _ _ _ _ _ _ _ _ _ _ _ _ _ _ _ _ _ _ _ _ _ _ _ _ _ _ _ _ _ _ _ _ _ _ _ _ _ _ _ _ _ _ _ _ _ _ _ _ _ _ _ _ _ _ _ _ _ _ _ _ _ _ _ _ _ _ _ _ _ _ _ _ _ _ _ _ _ _ _ _ _ _ _ _ _ _ _ _ _ _ _ _ _ _ _ _ _ _ _ _ _ _ _ _ _ _ _ _ _ _ _ _ _ _ _ _ _ _ _ _ _ _ _ _ _ _ _ _ _ _ _ _ (by kernel_rfl) HR0 HC0 HR1 HC1 HA HJ175 HO_53 HO_63 HO_70 HB
end Go.Proofs.Ytpokmbcfmaepcaa.P
