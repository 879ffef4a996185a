-- Written by drive.py (wip/ of this repository) over the kit's print: functions, contracts, rows. Lean checks it.
import Derived.Test.YtmkjopglibgleaaP10
namespace Go.Proofs.Ytmkjopglibgleaa.P
open Go.RowKit Go.Proofs.YtmkjopglibgleaaW.PrintWords Go.Proofs.YtmkjopglibgleaaW.PrintLast Go.Proofs.YtmkjopglibgleaaW.PrintMore
attribute [local go_sem] max2_int min2_int max_two min_two max_three min_three max_four min_four undef_guard   -- for this text's walks alone
set_option linter.unusedVariables false
set_option linter.unusedSimpArgs false

set_option maxHeartbeats 800000000 in
set_option maxRecDepth 100000 in
theorem laws_FnKindsTold.tj4 (HT_j7 : laws_FnKindsTold.Tj7) : laws_FnKindsTold.Tj4 := by
 intro kq A0 c0 l0 A1 c1 l1 r w wc t364 t365 t368 t369 t376 t377 t382 t390 kj17 Ao20 co20 v370 v384 v392 s_0 s_2 s_3 s_4 s_9 s_10 s_13 s_14 s_15 s_16 s_18 s_19 s_20 s_22 s_23 s_24 s_25 s_26 s_27 s_28 s_29 s_30 s_31 s_32 s_33 s_34 s_35 s_36 s_37 s_38 s_39 s_40 s_41 s_42 s_43 s_44 s_45 s_46 s_47 s_48 s_49 s_50 s_51 s_52 s_53 s_54 s_55 s_56 s_57 s_58 s_59 s_60 s_61 s_62 s_63 s_64 s_65 s_66 s_67 s_68 s_69 s_70 s_71 s_72 s_73 s_74 s_75 s_76 s_77 s_78 s_79 s_80 s_81 s_82 s_83 s_84 s_85 s_86 s_87 s_88 s_89 s_90 s_91 s_92 s_93 s_94 s_95 s_96 s_97 s_98 s_99 s_100 s_101 s_102 s_103 s_104 s_105 s_106 s_107 s_108 s_109 s_110 s_111 s_112 s_113 s_114 s_115 s_116 s_117 s_118 s_119 s_120 s_121 s_122 s_123 s_124 s_125 s_126 s_127 s_128 s_129 s_130 s_131 s_132 s_133 s_134 s_135 s_136 s_137 s_138 s_139 s_140 s_141 s_142 s_143 s_144 s_145 s_146 s_147 s_148 s_149 s_150 s_151 s_152 s_153 s_154 s_155 s_156 s_157 s_158 s_159 s_160 s_161 s_162 s_163 s_164 s_165 s_166 s_167 s_168 s_169 s_170 s_171 s_172 s_173 s_174 s_175 s_176 s_177 s_178 s_179 s_180 s_181 s_182 s_183 s_184 s_185 s_186 s_187 s_188 s_189 s_190 s_191 s_192 s_193 s_194 s_195 s_196 s_197 s_198 s_199 s_200 s_201 s_202 s_203 s_204 s_205 s_206 s_207 s_208 s_209 s_210 s_211 s_212 s_213 s_214 s_215 s_216 s_217 s_218 s_219 s_220 s_221 s_222 s_223 s_224 s_225 s_226 s_227 s_228 s_229 s_230 s_231 s_232 s_233 s_234 s_235 s_236 s_237 s_238 s_239 s_240 s_241 s_242 s_243 s_244 s_245 s_246 s_247 s_248 s_249 s_250 s_251 s_252 s_253 s_254 s_255 s_256 s_257 s_258 s_259 s_260 s_261 s_262 s_263 s_264 s_265 s_266 s_267 s_268 s_269 s_270 s_271 s_272 s_273 s_274 s_275 s_276 s_277 s_278 s_279 s_280 s_281 s_282 s_283 s_284 s_285 s_286 s_287 s_288 s_289 s_290 s_291 s_292 s_293 s_294 s_295 s_296 s_297 s_298 s_299 s_300 s_301 s_302 s_303 s_304 s_305 s_306 s_307 s_308 s_309 s_310 s_311 s_312 s_313 s_314 s_315 s_316 s_317 s_318 s_319 s_320 s_321 s_322 s_323 s_324 s_325 s_326 s_327 s_328 s_329 s_330 s_331 s_332 s_333 s_334 s_335 s_336 s_337 s_338 s_339 s_340 s_341 s_342 s_343 s_344 s_345 s_346 s_347 s_348 s_349 s_350 s_351 s_352 s_353 s_354 s_355 s_356 s_357 s_358 s_359 s_360 s_361 s_362 s_363 s_364 s_365 s_366 s_367 s_368 s_369 s_370 s_371 s_372 s_373 s_374 s_375 s_376 s_377 s_378 s_379 s_380 s_381 s_382 s_383 s_384 s_385 s_386 s_387 s_388 s_389 s_390 s_391 s_392 s_393 s_394 s_395 s_396 s_397 s_398 s_399 s_400 s_401 s_402 s_403 s_404 s_405 s_406 s_407 s_408 s_409 s_410 s_411 s_412 s_413 s_414 s_415 s_416 s_417 s_418 s_419 s_420 s_421 s_422 s_423 s_424 s_425 s_426 s_427 s_428 s_429 s_430 s_431 s_432 s_433 s_434 s_435 s_436 s_437 s_438 s_439 s_440 s_441 s_442 s_443 s_444 s_445 s_446 s_447 s_448 s_449 s_450 s_451 s_452 s_453 s_454 s_455 s_456 s_457 s_458 s_459 s_460 s_461 s_462 s_463 s_464 s_465 s_466 s_467 s_468 s_469 s_470 s_471 s_472 s_473 s_474 s_475 s_476 s_477 s_478 s_479 s_480 s_481 s_482 s_483 s_484 s_485 s_486 s_487 s_488 s_489 s_490 s_491 s_492 s_493 s_494 s_495 s_496 s_497 s_498 s_499 s_500 s_501 s_502 s_503 s_504 s_505 s_506 s_507 s_508 s_509 s_510 s_511 s_512 s_513 s_514 s_515 s_516 s_517 s_518 s_519 s_520 s_521 s_522 s_523 s_524 s_525 s_526 s_527 s_528 s_529 s_530 s_531 s_532 s_533 s_534 s_535 s_536 s_537 s_538 s_539 s_540 s_541 s_542 s_543 s_544 s_545 s_546 s_547 s_548 s_549 s_550 s_551 s_552 s_553 s_554 s_555 s_556 s_557 s_558 s_559 s_560 s_561 s_562 s_563 s_564 s_565 s_566 s_567 s_568 s_569 s_570 s_571 s_572 s_573 s_574 s_575 s_576 s_577 s_578 s_579 s_580 s_581 s_582 s_583 s_584 s_585 s_586 s_587 s_588 s_589 s_590 s_591 s_592 s_593 s_594 s_595 s_596 s_597 s_598 s_599 s_600 s_601 s_602 s_603 s_604 s_605 s_606 s_607 s_608 s_609 s_610 s_611 s_612 s_613 s_614 c_ hc_ HR0 HC0 HR1 HC1 HA HJ71 HO_5 HO_7 HO_17 HO_21 HB
 obtain rfl := Option.some.inj ((show some _ = some c_ from hc_))
 cases kq with
 | zero => exact absurd HA.out (by simp [laws_FnKindsTold.j4])
 | succ kj71 =>
  have H := HA.out
  clear HA
  simp only [laws_FnKindsTold.j4] at H
  have HC107 := Aside0.mk H
  clear H
  go_upto_if 370 with (fail)
  repeat (go_quiet (fail); go_upto_if 370 with (fail))
  go_cut [] from 9999 (fun wc => ∃ (kq : Nat), Aside0 (laws_FnKindsTold.j7 kq l1 = some r) ∧ Aside0 (kq ≤ kj71) ∧ Aside0 (Below w.heap.size w wc))
  case first =>
   have H := HC107.out
   clear HC107
   by_cases c108 : t369 = true
   ·
    subst c108
    replace H := (if_pos rfl).symm.trans H
    replace H := Option.bind_eq_some_iff.mp H
    obtain ⟨⟨t429, t430, t431⟩, A1090, H⟩ := H
    (try dsimp only at H)
    have A109 := Aside0.mk A1090
    clear A1090
    have HC110 := Aside0.mk H
    clear H
    go_upto_region 42 with (first | (go_at_call 24; (with_reducible refine (impl_YearsRange.calls _ _ t364 t429 t430 t431 _ ?side1 ?side2 A109.out).mono ?_); (case side1 => repeat (first | exact (Kd.R_reads' HO_5.out).2.2 | (with_reducible refine Kd.C_alloc ?_ _) | (with_reducible refine Kd.C_drewN ?_ _) | (with_reducible refine Kd.C_drew ?_))); (case side2 => exact (Kd.R_reads' HO_5.out).2.1); rintro e w111 ⟨rfl, hb⟩; have n0_ := Aside0.mk (Kd.R_below (by (with_reducible repeat (first | apply Kd.R_alloc | apply Kd.R_drewN | apply Kd.R_drew)); exact HO_5.out) hb); have n1_ := Aside0.mk (Kd.R_below (by (with_reducible repeat (first | apply Kd.R_alloc | apply Kd.R_drewN | apply Kd.R_drew)); exact HO_7.out) hb); have n2_ := Aside0.mk (Kd.R_below (by (with_reducible repeat (first | apply Kd.R_alloc | apply Kd.R_drewN | apply Kd.R_drew)); exact HO_17.out) hb); have n3_ := Aside0.mk (Kd.R_below (by (with_reducible repeat (first | apply Kd.R_alloc | apply Kd.R_drewN | apply Kd.R_drew)); exact HO_21.out) hb); have n4_ := Aside0.mk (below_step (by repeat (first | (with_reducible first | exact HB.out | apply below_alloc | apply pw_below_drewN | apply below_drew1) | exact HB.out)) hb); clear HO_5; clear HO_7; clear HO_17; clear HO_21; clear HB; have HO_5 := n0_; have HO_7 := n1_; have HO_17 := n2_; have HO_21 := n3_; have HB := n4_; clear n0_ n1_ n2_ n3_ n4_; (try clear hb); (try clear hb2); (try clear hk); (try clear hi)))
    repeat (go_quiet (first | (go_at_call 24; (with_reducible refine (impl_YearsRange.calls _ _ t364 t429 t430 t431 _ ?side1 ?side2 A109.out).mono ?_); (case side1 => repeat (first | exact (Kd.R_reads' HO_5.out).2.2 | (with_reducible refine Kd.C_alloc ?_ _) | (with_reducible refine Kd.C_drewN ?_ _) | (with_reducible refine Kd.C_drew ?_))); (case side2 => exact (Kd.R_reads' HO_5.out).2.1); rintro e w111 ⟨rfl, hb⟩; have n0_ := Aside0.mk (Kd.R_below (by (with_reducible repeat (first | apply Kd.R_alloc | apply Kd.R_drewN | apply Kd.R_drew)); exact HO_5.out) hb); have n1_ := Aside0.mk (Kd.R_below (by (with_reducible repeat (first | apply Kd.R_alloc | apply Kd.R_drewN | apply Kd.R_drew)); exact HO_7.out) hb); have n2_ := Aside0.mk (Kd.R_below (by (with_reducible repeat (first | apply Kd.R_alloc | apply Kd.R_drewN | apply Kd.R_drew)); exact HO_17.out) hb); have n3_ := Aside0.mk (Kd.R_below (by (with_reducible repeat (first | apply Kd.R_alloc | apply Kd.R_drewN | apply Kd.R_drew)); exact HO_21.out) hb); have n4_ := Aside0.mk (below_step (by repeat (first | (with_reducible first | exact HB.out | apply below_alloc | apply pw_below_drewN | apply below_drew1) | exact HB.out)) hb); clear HO_5; clear HO_7; clear HO_17; clear HO_21; clear HB; have HO_5 := n0_; have HO_7 := n1_; have HO_17 := n2_; have HO_21 := n3_; have HB := n4_; clear n0_ n1_ n2_ n3_ n4_; (try clear hb); (try clear hb2); (try clear hk); (try clear hi))); go_upto_region 42 with (first | (go_at_call 24; (with_reducible refine (impl_YearsRange.calls _ _ t364 t429 t430 t431 _ ?side1 ?side2 A109.out).mono ?_); (case side1 => repeat (first | exact (Kd.R_reads' HO_5.out).2.2 | (with_reducible refine Kd.C_alloc ?_ _) | (with_reducible refine Kd.C_drewN ?_ _) | (with_reducible refine Kd.C_drew ?_))); (case side2 => exact (Kd.R_reads' HO_5.out).2.1); rintro e w111 ⟨rfl, hb⟩; have n0_ := Aside0.mk (Kd.R_below (by (with_reducible repeat (first | apply Kd.R_alloc | apply Kd.R_drewN | apply Kd.R_drew)); exact HO_5.out) hb); have n1_ := Aside0.mk (Kd.R_below (by (with_reducible repeat (first | apply Kd.R_alloc | apply Kd.R_drewN | apply Kd.R_drew)); exact HO_7.out) hb); have n2_ := Aside0.mk (Kd.R_below (by (with_reducible repeat (first | apply Kd.R_alloc | apply Kd.R_drewN | apply Kd.R_drew)); exact HO_17.out) hb); have n3_ := Aside0.mk (Kd.R_below (by (with_reducible repeat (first | apply Kd.R_alloc | apply Kd.R_drewN | apply Kd.R_drew)); exact HO_21.out) hb); have n4_ := Aside0.mk (below_step (by repeat (first | (with_reducible first | exact HB.out | apply below_alloc | apply pw_below_drewN | apply below_drew1) | exact HB.out)) hb); clear HO_5; clear HO_7; clear HO_17; clear HO_21; clear HB; have HO_5 := n0_; have HO_7 := n1_; have HO_17 := n2_; have HO_21 := n3_; have HB := n4_; clear n0_ n1_ n2_ n3_ n4_; (try clear hb); (try clear hb2); (try clear hk); (try clear hi))))
    (try simp only [Act.put, List.setIfInBounds_toArray, List.set_cons_zero, List.set_cons_succ])
    go_cut [408] from 9999 (fun v408_s wc => ∃ (kq : Nat) (x408_109 : Bool), v408_s = .bool x408_109 ∧ Aside0 (laws_FnKindsTold.j5 kq l1 t364 t365 t368 t376 t377 t390 t429 t430 x408_109 = some r) ∧ Aside0 (kq ≤ kj71) ∧ Aside0 (Kd.R (Kd.int .i64) 3 wc w.heap.size (fun k_ => some k_ ≠ (v370 : Value).ownBlock ∧ some k_ ≠ (v392 : Value).ownBlock) (.slice Ao20 t364.length co20) t364) ∧ Aside0 (Kd.R (Kd.int .i64) 3 wc w.heap.size (fun k_ => some k_ ≠ ((.slice Ao20 t364.length co20) : Value).ownBlock ∧ some k_ ≠ (v392 : Value).ownBlock) v370 t368) ∧ Aside0 (Kd.R (Kd.int .i64) 3 wc w.heap.size (fun k_ => some k_ ≠ ((.slice Ao20 t364.length co20) : Value).ownBlock ∧ some k_ ≠ (v370 : Value).ownBlock) v392 t390) ∧ Aside0 (Below w.heap.size w wc))
    case first =>
     have H := HC110.out
     clear HC110
     by_cases c112 : t431 = true
     ·
      subst c112
      replace H := (if_pos rfl).symm.trans H
      replace H := Option.bind_eq_some_iff.mp H
      obtain ⟨t432, A1130, H⟩ := H
      (try dsimp only at H)
      have A113 := Aside0.mk A1130
      clear A1130
      by_cases c114 : t432 = true
      ·
       subst c114
       replace H := (if_pos rfl).symm.trans H
       replace H := Option.bind_eq_some_iff.mp H
       obtain ⟨t433, A1150, H⟩ := H
       (try dsimp only at H)
       have A115 := Aside0.mk A1150
       clear A1150
       by_cases c116 : t433 = true
       ·
        subst c116
        replace H := (if_pos rfl).symm.trans H
        by_cases c117 : t377 < 0
        ·
         rw [if_pos c117] at H
         exact absurd H (by simp)
        ·
         rw [if_neg c117] at H
         have c117b0 : decide (t377 < 0) = false := decide_eq_false c117
         clear c117
         (first | rw [c117b0] | (simp only [i64_w, i32_w]; rw [c117b0]) | skip)
         by_cases c118 : t377 > (t364.length : Int)
         ·
          rw [if_pos c118] at H
          exact absurd H (by simp)
         ·
          rw [if_neg c118] at H
          have c118b0 : decide ((t364.length : Int) < t377) = false := decide_eq_false c118
          clear c118
          have H' := Aside0.mk H
          clear H
          obtain ⟨Ao119, co119, eo119⟩ := Kd.R_slice HO_7.out
          subst eo119
          go_wp2_with (first | (go_at_call 23; (with_reducible refine (laws_qRises.calls kj71 _ _ t368 true _ ?side1 ?side2 A113.out).mono ?_); (case side1 => repeat (first | exact (Kd.R_reads' HO_7.out).2.2 | (with_reducible refine Kd.C_alloc ?_ _) | (with_reducible refine Kd.C_drewN ?_ _) | (with_reducible refine Kd.C_drew ?_))); (case side2 => exact (Kd.R_reads' HO_7.out).2.1); rintro e w' ⟨rfl, ⟨nd, rfl⟩⟩; (try first | exact ⟨rfl, _, World.drewN_drewN _ _ _⟩ | exact ⟨rfl, _, Eq.trans (World.drewN_drewN _ _ _) (congrArg (World.drewN _) (Nat.add_assoc _ _ _))⟩); obtain ⟨Ao120, co120, eo120⟩ := Kd.R_slice HO_17.out; subst eo120) | (go_at_call 23; (with_reducible refine (laws_qRises.calls kj71 _ _ t382 true _ ?side1 ?side2 A115.out).mono ?_); (case side1 => repeat (first | exact (Kd.R_reads' HO_17.out).2.2 | (with_reducible refine Kd.C_alloc ?_ _) | (with_reducible refine Kd.C_drewN ?_ _) | (with_reducible refine Kd.C_drew ?_))); (case side2 => exact (Kd.R_reads' HO_17.out).2.1); rintro e w' ⟨rfl, ⟨nd, rfl⟩⟩; (try first | exact ⟨rfl, _, World.drewN_drewN _ _ _⟩ | exact ⟨rfl, _, Eq.trans (World.drewN_drewN _ _ _) (congrArg (World.drewN _) (Nat.add_assoc _ _ _))⟩)))
          repeat (go_quiet (first | (go_at_call 23; (with_reducible refine (laws_qRises.calls kj71 _ _ t368 true _ ?side1 ?side2 A113.out).mono ?_); (case side1 => repeat (first | exact (Kd.R_reads' HO_7.out).2.2 | (with_reducible refine Kd.C_alloc ?_ _) | (with_reducible refine Kd.C_drewN ?_ _) | (with_reducible refine Kd.C_drew ?_))); (case side2 => exact (Kd.R_reads' HO_7.out).2.1); rintro e w' ⟨rfl, ⟨nd, rfl⟩⟩; (try first | exact ⟨rfl, _, World.drewN_drewN _ _ _⟩ | exact ⟨rfl, _, Eq.trans (World.drewN_drewN _ _ _) (congrArg (World.drewN _) (Nat.add_assoc _ _ _))⟩); obtain ⟨Ao120, co120, eo120⟩ := Kd.R_slice HO_17.out; subst eo120) | (go_at_call 23; (with_reducible refine (laws_qRises.calls kj71 _ _ t382 true _ ?side1 ?side2 A115.out).mono ?_); (case side1 => repeat (first | exact (Kd.R_reads' HO_17.out).2.2 | (with_reducible refine Kd.C_alloc ?_ _) | (with_reducible refine Kd.C_drewN ?_ _) | (with_reducible refine Kd.C_drew ?_))); (case side2 => exact (Kd.R_reads' HO_17.out).2.1); rintro e w' ⟨rfl, ⟨nd, rfl⟩⟩; (try first | exact ⟨rfl, _, World.drewN_drewN _ _ _⟩ | exact ⟨rfl, _, Eq.trans (World.drewN_drewN _ _ _) (congrArg (World.drewN _) (Nat.add_assoc _ _ _))⟩))); try go_wp2_with (first | (go_at_call 23; (with_reducible refine (laws_qRises.calls kj71 _ _ t368 true _ ?side1 ?side2 A113.out).mono ?_); (case side1 => repeat (first | exact (Kd.R_reads' HO_7.out).2.2 | (with_reducible refine Kd.C_alloc ?_ _) | (with_reducible refine Kd.C_drewN ?_ _) | (with_reducible refine Kd.C_drew ?_))); (case side2 => exact (Kd.R_reads' HO_7.out).2.1); rintro e w' ⟨rfl, ⟨nd, rfl⟩⟩; (try first | exact ⟨rfl, _, World.drewN_drewN _ _ _⟩ | exact ⟨rfl, _, Eq.trans (World.drewN_drewN _ _ _) (congrArg (World.drewN _) (Nat.add_assoc _ _ _))⟩); obtain ⟨Ao120, co120, eo120⟩ := Kd.R_slice HO_17.out; subst eo120) | (go_at_call 23; (with_reducible refine (laws_qRises.calls kj71 _ _ t382 true _ ?side1 ?side2 A115.out).mono ?_); (case side1 => repeat (first | exact (Kd.R_reads' HO_17.out).2.2 | (with_reducible refine Kd.C_alloc ?_ _) | (with_reducible refine Kd.C_drewN ?_ _) | (with_reducible refine Kd.C_drew ?_))); (case side2 => exact (Kd.R_reads' HO_17.out).2.1); rintro e w' ⟨rfl, ⟨nd, rfl⟩⟩; (try first | exact ⟨rfl, _, World.drewN_drewN _ _ _⟩ | exact ⟨rfl, _, Eq.trans (World.drewN_drewN _ _ _) (congrArg (World.drewN _) (Nat.add_assoc _ _ _))⟩))))
          go_meet
          case rel => exact ⟨_, (((t377 == (t364.length : Int)) != (decide ((t368.length : Int) > 0)))), (by first | rfl | (simp; done) | (simp [bne]; done) | (simp [*]; done)), H', ⟨by have := HJ71.out; first | omega | exact Nat.le_refl _⟩, ⟨by (with_reducible repeat (first | apply Kd.R_alloc | apply Kd.R_drewN | apply Kd.R_drew)); exact Kd.R_mono HO_5.out (fun _ hk => ⟨hk.1, hk.2.2⟩)⟩, ⟨by (with_reducible repeat (first | apply Kd.R_alloc | apply Kd.R_drewN | apply Kd.R_drew)); exact Kd.R_mono HO_7.out (fun _ hk => ⟨hk.1, hk.2.2⟩)⟩, ⟨by (with_reducible repeat (first | apply Kd.R_alloc | apply Kd.R_drewN | apply Kd.R_drew)); exact Kd.R_mono HO_21.out (fun _ hk => ⟨hk.1, hk.2.1⟩)⟩, ⟨by repeat (first | (with_reducible first | exact HB.out | apply below_alloc | apply pw_below_drewN | apply below_drew1) | exact HB.out)⟩⟩
       ·
        replace c116 := Bool.eq_false_iff.mpr c116
        subst c116
        have H1 : (none) = some r := by rw [if_neg (show ¬ (false = true) by decide)] at H; exact H
        clear H
        have H := H1
        clear H1
        exact absurd H (by simp)
      ·
       replace c114 := Bool.eq_false_iff.mpr c114
       subst c114
       have H1 : (none) = some r := by rw [if_neg (show ¬ (false = true) by decide)] at H; exact H
       clear H
       have H := H1
       clear H1
       exact absurd H (by simp)
     ·
      replace c112 := Bool.eq_false_iff.mpr c112
      subst c112
      have H1 : (none) = some r := by rw [if_neg (show ¬ (false = true) by decide)] at H; exact H
      clear H
      have H := H1
      clear H1
      exact absurd H (by simp)
    case rest =>
     clear HC110
     (try clear c108)
     obtain ⟨kq, x408_109, rfl, HA, HJ109, HO_5, HO_7, HO_21, HB⟩ := hcut
     cases kq with
     | zero => exact absurd HA.out (by simp [laws_FnKindsTold.j5])
     | succ kj109 =>
      have H := HA.out
      clear HA
      simp only [laws_FnKindsTold.j5] at H
      by_cases c121 : x408_109 = true
      ·
       subst c121
       replace H := (if_pos rfl).symm.trans H
       exact absurd H (by simp)
      ·
       replace c121 := Bool.eq_false_iff.mpr c121
       subst c121
       have H1 : (laws_FnKindsTold.l2 kj109 l1 t364 t365 t368 t376 t377 t390 t430 t429) = some r := by rw [if_neg (show ¬ (false = true) by decide)] at H; exact H
       clear H
       have H := H1
       clear H1
       have H' := Aside0.mk H
       clear H
       go_wp2
       repeat (go_quiet (fail); try go_wp2)
       go_loopg [49] kj109 (fun kq v49_s w' => ∃ (x49_4 : Int), v49_s = .int .i64 x49_4 ∧ Aside0 (laws_FnKindsTold.l2 kq l1 t364 t365 t368 t376 t377 t390 t430 x49_4 = some r) ∧ Aside0 (kq ≤ kj109) ∧ Aside0 (Kd.R (Kd.int .i64) 3 w' w.heap.size (fun k_ => some k_ ≠ (v370 : Value).ownBlock ∧ some k_ ≠ (v392 : Value).ownBlock) (.slice Ao20 t364.length co20) t364) ∧ Aside0 (Kd.R (Kd.int .i64) 3 w' w.heap.size (fun k_ => some k_ ≠ ((.slice Ao20 t364.length co20) : Value).ownBlock ∧ some k_ ≠ (v392 : Value).ownBlock) v370 t368) ∧ Aside0 (Kd.R (Kd.int .i64) 3 w' w.heap.size (fun k_ => some k_ ≠ ((.slice Ao20 t364.length co20) : Value).ownBlock ∧ some k_ ≠ (v370 : Value).ownBlock) v392 t390) ∧ Aside0 (Below w.heap.size w w'))
       case atStart => exact ⟨(t429), (by first | rfl | (simp; done) | (simp [*]; done)), H', ⟨Nat.le_refl _⟩, ⟨by (with_reducible repeat (first | apply Kd.R_alloc | apply Kd.R_drewN | apply Kd.R_drew)); exact HO_5.out⟩, ⟨by (with_reducible repeat (first | apply Kd.R_alloc | apply Kd.R_drewN | apply Kd.R_drew)); exact HO_7.out⟩, ⟨by (with_reducible repeat (first | apply Kd.R_alloc | apply Kd.R_drewN | apply Kd.R_drew)); exact HO_21.out⟩, ⟨by repeat (first | (with_reducible first | exact HB.out | apply below_alloc | apply pw_below_drewN | apply below_drew1) | exact HB.out)⟩⟩
       case round =>
        clear H'
        (try clear c121)
        obtain ⟨x49_4, rfl, HA, HK4, HO_5, HO_7, HO_21, HB⟩ := hrel
        cases gk with
        | zero => exact absurd HA.out (by simp [laws_FnKindsTold.l2])
        | succ k4 =>
         have H := HA.out
         clear HA
         simp only [laws_FnKindsTold.l2] at H
         by_cases c122 : x49_4 ≤ t430
         ·
          rw [if_pos c122] at H
          have c122b0 : decide (x49_4 ≤ t430) = true := decide_eq_true c122
          clear c122
          replace H := Option.bind_eq_some_iff.mp H
          obtain ⟨⟨t436, t437⟩, A1230, H⟩ := H
          (try dsimp only at H)
          have A123 := Aside0.mk A1230
          clear A1230
          by_cases c124 : t437 = true
          ·
           subst c124
           replace H := (if_pos rfl).symm.trans H
           by_cases c125 : t436 > t377
           ·
            rw [if_pos c125] at H
            exact absurd H (by simp)
           ·
            rw [if_neg c125] at H
            have c125b0 : decide (t377 < t436) = false := decide_eq_false c125
            clear c125
            by_cases c126 : t436 = t377
            ·
             rw [if_pos c126] at H
             have c126b0 : (t436 == t377) = true := beq_iff_eq.mpr c126
             have c126b1 : (t436 != t377) = false := bne_eq_false_iff_eq.mpr c126
             clear c126
             by_cases c127 : x49_4 < t376
             ·
              rw [if_pos c127] at H
              exact absurd H (by simp)
             ·
              rw [if_neg c127] at H
              have c127b0 : decide (x49_4 < t376) = false := decide_eq_false c127
              clear c127
              by_cases c128 : x49_4 = t376
              ·
               rw [if_pos c128] at H
               have c128b0 : (x49_4 == t376) = true := beq_iff_eq.mpr c128
               have c128b1 : (x49_4 != t376) = false := bne_eq_false_iff_eq.mpr c128
               clear c128
               replace H := Option.bind_eq_some_iff.mp H
               obtain ⟨t438, A1290, H⟩ := H
               (try dsimp only at H)
               have A129 := Aside0.mk A1290
               clear A1290
               by_cases c130 : (t438 != (t436 == (t364.length : Int))) = true
               ·
                rw [if_pos c130] at H
                exact absurd H (by simp)
               ·
                rw [if_neg c130] at H
                have c130b0 : (t438 != (t436 == (t364.length : Int))) = false := by simpa using c130
                (try (have c130b1 : decide (t438 = (t436 == (t364.length : Int))) = true := by simpa using c130))
                (try (have c130b2 : (t438 == (t436 == (t364.length : Int))) = true := by simpa using c130))
                clear c130
                have H' := Aside0.mk H
                clear H
                go_wp2_with (first | (go_at_call 25; (with_reducible refine (impl_CountOfKind.calls k4 _ _ t364 x49_4 t365 t436 true _ ?side1 ?side2 A123.out).mono ?_); (case side1 => repeat (first | exact (Kd.R_reads' HO_5.out).2.2 | (with_reducible refine Kd.C_alloc ?_ _) | (with_reducible refine Kd.C_drewN ?_ _) | (with_reducible refine Kd.C_drew ?_))); (case side2 => exact (Kd.R_reads' HO_5.out).2.1); rintro e w131 ⟨rfl, hb⟩; have n0_ := Aside0.mk (Kd.R_below (by (with_reducible repeat (first | apply Kd.R_alloc | apply Kd.R_drewN | apply Kd.R_drew)); exact HO_5.out) hb); have n1_ := Aside0.mk (Kd.R_below (by (with_reducible repeat (first | apply Kd.R_alloc | apply Kd.R_drewN | apply Kd.R_drew)); exact HO_7.out) hb); have n2_ := Aside0.mk (Kd.R_below (by (with_reducible repeat (first | apply Kd.R_alloc | apply Kd.R_drewN | apply Kd.R_drew)); exact HO_21.out) hb); have n3_ := Aside0.mk (below_step (by repeat (first | (with_reducible first | exact HB.out | apply below_alloc | apply pw_below_drewN | apply below_drew1) | exact HB.out)) hb); clear HO_5; clear HO_7; clear HO_21; clear HB; have HO_5 := n0_; have HO_7 := n1_; have HO_21 := n2_; have HB := n3_; clear n0_ n1_ n2_ n3_; (try clear hb); (try clear hb2); (try clear hk); (try clear hi); obtain ⟨Ao132, co132, eo132⟩ := Kd.R_slice HO_7.out; subst eo132) | (go_at_call 21; (with_reducible refine (laws_qHas.calls k4 _ _ t368 x49_4 t438 _ ?side1 ?side2 A129.out).mono ?_); (case side1 => repeat (first | exact (Kd.R_reads' HO_7.out).2.2 | (with_reducible refine Kd.C_alloc ?_ _) | (with_reducible refine Kd.C_drewN ?_ _) | (with_reducible refine Kd.C_drew ?_))); (case side2 => exact (Kd.R_reads' HO_7.out).2.1); rintro e w' ⟨rfl, ⟨nd, rfl⟩⟩; (try first | exact ⟨rfl, _, World.drewN_drewN _ _ _⟩ | exact ⟨rfl, _, Eq.trans (World.drewN_drewN _ _ _) (congrArg (World.drewN _) (Nat.add_assoc _ _ _))⟩)))
                repeat (go_quiet (first | (go_at_call 25; (with_reducible refine (impl_CountOfKind.calls k4 _ _ t364 x49_4 t365 t436 true _ ?side1 ?side2 A123.out).mono ?_); (case side1 => repeat (first | exact (Kd.R_reads' HO_5.out).2.2 | (with_reducible refine Kd.C_alloc ?_ _) | (with_reducible refine Kd.C_drewN ?_ _) | (with_reducible refine Kd.C_drew ?_))); (case side2 => exact (Kd.R_reads' HO_5.out).2.1); rintro e w131 ⟨rfl, hb⟩; have n0_ := Aside0.mk (Kd.R_below (by (with_reducible repeat (first | apply Kd.R_alloc | apply Kd.R_drewN | apply Kd.R_drew)); exact HO_5.out) hb); have n1_ := Aside0.mk (Kd.R_below (by (with_reducible repeat (first | apply Kd.R_alloc | apply Kd.R_drewN | apply Kd.R_drew)); exact HO_7.out) hb); have n2_ := Aside0.mk (Kd.R_below (by (with_reducible repeat (first | apply Kd.R_alloc | apply Kd.R_drewN | apply Kd.R_drew)); exact HO_21.out) hb); have n3_ := Aside0.mk (below_step (by repeat (first | (with_reducible first | exact HB.out | apply below_alloc | apply pw_below_drewN | apply below_drew1) | exact HB.out)) hb); clear HO_5; clear HO_7; clear HO_21; clear HB; have HO_5 := n0_; have HO_7 := n1_; have HO_21 := n2_; have HB := n3_; clear n0_ n1_ n2_ n3_; (try clear hb); (try clear hb2); (try clear hk); (try clear hi); obtain ⟨Ao132, co132, eo132⟩ := Kd.R_slice HO_7.out; subst eo132) | (go_at_call 21; (with_reducible refine (laws_qHas.calls k4 _ _ t368 x49_4 t438 _ ?side1 ?side2 A129.out).mono ?_); (case side1 => repeat (first | exact (Kd.R_reads' HO_7.out).2.2 | (with_reducible refine Kd.C_alloc ?_ _) | (with_reducible refine Kd.C_drewN ?_ _) | (with_reducible refine Kd.C_drew ?_))); (case side2 => exact (Kd.R_reads' HO_7.out).2.1); rintro e w' ⟨rfl, ⟨nd, rfl⟩⟩; (try first | exact ⟨rfl, _, World.drewN_drewN _ _ _⟩ | exact ⟨rfl, _, Eq.trans (World.drewN_drewN _ _ _) (congrArg (World.drewN _) (Nat.add_assoc _ _ _))⟩))); try go_wp2_with (first | (go_at_call 25; (with_reducible refine (impl_CountOfKind.calls k4 _ _ t364 x49_4 t365 t436 true _ ?side1 ?side2 A123.out).mono ?_); (case side1 => repeat (first | exact (Kd.R_reads' HO_5.out).2.2 | (with_reducible refine Kd.C_alloc ?_ _) | (with_reducible refine Kd.C_drewN ?_ _) | (with_reducible refine Kd.C_drew ?_))); (case side2 => exact (Kd.R_reads' HO_5.out).2.1); rintro e w131 ⟨rfl, hb⟩; have n0_ := Aside0.mk (Kd.R_below (by (with_reducible repeat (first | apply Kd.R_alloc | apply Kd.R_drewN | apply Kd.R_drew)); exact HO_5.out) hb); have n1_ := Aside0.mk (Kd.R_below (by (with_reducible repeat (first | apply Kd.R_alloc | apply Kd.R_drewN | apply Kd.R_drew)); exact HO_7.out) hb); have n2_ := Aside0.mk (Kd.R_below (by (with_reducible repeat (first | apply Kd.R_alloc | apply Kd.R_drewN | apply Kd.R_drew)); exact HO_21.out) hb); have n3_ := Aside0.mk (below_step (by repeat (first | (with_reducible first | exact HB.out | apply below_alloc | apply pw_below_drewN | apply below_drew1) | exact HB.out)) hb); clear HO_5; clear HO_7; clear HO_21; clear HB; have HO_5 := n0_; have HO_7 := n1_; have HO_21 := n2_; have HB := n3_; clear n0_ n1_ n2_ n3_; (try clear hb); (try clear hb2); (try clear hk); (try clear hi); obtain ⟨Ao132, co132, eo132⟩ := Kd.R_slice HO_7.out; subst eo132) | (go_at_call 21; (with_reducible refine (laws_qHas.calls k4 _ _ t368 x49_4 t438 _ ?side1 ?side2 A129.out).mono ?_); (case side1 => repeat (first | exact (Kd.R_reads' HO_7.out).2.2 | (with_reducible refine Kd.C_alloc ?_ _) | (with_reducible refine Kd.C_drewN ?_ _) | (with_reducible refine Kd.C_drew ?_))); (case side2 => exact (Kd.R_reads' HO_7.out).2.1); rintro e w' ⟨rfl, ⟨nd, rfl⟩⟩; (try first | exact ⟨rfl, _, World.drewN_drewN _ _ _⟩ | exact ⟨rfl, _, Eq.trans (World.drewN_drewN _ _ _) (congrArg (World.drewN _) (Nat.add_assoc _ _ _))⟩))))
                go_roundg k4
                case measure => have := HJ71.out; have := HJ109.out; have := HK4.out; omega
                case rel => exact ⟨(wrap64 (x49_4 + 1)), (by first | rfl | (simp; done) | (simp [*]; done)), H', ⟨by have := HJ71.out; have := HJ109.out; have := HK4.out; omega⟩, ⟨by (with_reducible repeat (first | apply Kd.R_alloc | apply Kd.R_drewN | apply Kd.R_drew)); exact HO_5.out⟩, ⟨by (with_reducible repeat (first | apply Kd.R_alloc | apply Kd.R_drewN | apply Kd.R_drew)); exact HO_7.out⟩, ⟨by (with_reducible repeat (first | apply Kd.R_alloc | apply Kd.R_drewN | apply Kd.R_drew)); exact HO_21.out⟩, ⟨by repeat (first | (with_reducible first | exact HB.out | apply below_alloc | apply pw_below_drewN | apply below_drew1) | exact HB.out)⟩⟩
              ·
               rw [if_neg c128] at H
               have c128b0 : (x49_4 == t376) = false := beq_eq_false_iff_ne.mpr c128
               have c128b1 : (x49_4 != t376) = true := bne_iff_ne.mpr c128
               replace H := Option.bind_eq_some_iff.mp H
               obtain ⟨t439, A1330, H⟩ := H
               (try dsimp only at H)
               have A133 := Aside0.mk A1330
               clear A1330
               by_cases c134 : (t439 != (t436 == (t364.length : Int))) = true
               ·
                rw [if_pos c134] at H
                exact absurd H (by simp)
               ·
                rw [if_neg c134] at H
                have c134b0 : (t439 != (t436 == (t364.length : Int))) = false := by simpa using c134
                (try (have c134b1 : decide (t439 = (t436 == (t364.length : Int))) = true := by simpa using c134))
                (try (have c134b2 : (t439 == (t436 == (t364.length : Int))) = true := by simpa using c134))
                clear c134
                have H' := Aside0.mk H
                clear H
                go_wp2_with (first | (go_at_call 25; (with_reducible refine (impl_CountOfKind.calls k4 _ _ t364 x49_4 t365 t436 true _ ?side1 ?side2 A123.out).mono ?_); (case side1 => repeat (first | exact (Kd.R_reads' HO_5.out).2.2 | (with_reducible refine Kd.C_alloc ?_ _) | (with_reducible refine Kd.C_drewN ?_ _) | (with_reducible refine Kd.C_drew ?_))); (case side2 => exact (Kd.R_reads' HO_5.out).2.1); rintro e w135 ⟨rfl, hb⟩; have n0_ := Aside0.mk (Kd.R_below (by (with_reducible repeat (first | apply Kd.R_alloc | apply Kd.R_drewN | apply Kd.R_drew)); exact HO_5.out) hb); have n1_ := Aside0.mk (Kd.R_below (by (with_reducible repeat (first | apply Kd.R_alloc | apply Kd.R_drewN | apply Kd.R_drew)); exact HO_7.out) hb); have n2_ := Aside0.mk (Kd.R_below (by (with_reducible repeat (first | apply Kd.R_alloc | apply Kd.R_drewN | apply Kd.R_drew)); exact HO_21.out) hb); have n3_ := Aside0.mk (below_step (by repeat (first | (with_reducible first | exact HB.out | apply below_alloc | apply pw_below_drewN | apply below_drew1) | exact HB.out)) hb); clear HO_5; clear HO_7; clear HO_21; clear HB; have HO_5 := n0_; have HO_7 := n1_; have HO_21 := n2_; have HB := n3_; clear n0_ n1_ n2_ n3_; (try clear hb); (try clear hb2); (try clear hk); (try clear hi); obtain ⟨Ao136, co136, eo136⟩ := Kd.R_slice HO_7.out; subst eo136) | (go_at_call 21; (with_reducible refine (laws_qHas.calls k4 _ _ t368 x49_4 t439 _ ?side1 ?side2 A133.out).mono ?_); (case side1 => repeat (first | exact (Kd.R_reads' HO_7.out).2.2 | (with_reducible refine Kd.C_alloc ?_ _) | (with_reducible refine Kd.C_drewN ?_ _) | (with_reducible refine Kd.C_drew ?_))); (case side2 => exact (Kd.R_reads' HO_7.out).2.1); rintro e w' ⟨rfl, ⟨nd, rfl⟩⟩; (try first | exact ⟨rfl, _, World.drewN_drewN _ _ _⟩ | exact ⟨rfl, _, Eq.trans (World.drewN_drewN _ _ _) (congrArg (World.drewN _) (Nat.add_assoc _ _ _))⟩)))
                repeat (go_quiet (first | (go_at_call 25; (with_reducible refine (impl_CountOfKind.calls k4 _ _ t364 x49_4 t365 t436 true _ ?side1 ?side2 A123.out).mono ?_); (case side1 => repeat (first | exact (Kd.R_reads' HO_5.out).2.2 | (with_reducible refine Kd.C_alloc ?_ _) | (with_reducible refine Kd.C_drewN ?_ _) | (with_reducible refine Kd.C_drew ?_))); (case side2 => exact (Kd.R_reads' HO_5.out).2.1); rintro e w135 ⟨rfl, hb⟩; have n0_ := Aside0.mk (Kd.R_below (by (with_reducible repeat (first | apply Kd.R_alloc | apply Kd.R_drewN | apply Kd.R_drew)); exact HO_5.out) hb); have n1_ := Aside0.mk (Kd.R_below (by (with_reducible repeat (first | apply Kd.R_alloc | apply Kd.R_drewN | apply Kd.R_drew)); exact HO_7.out) hb); have n2_ := Aside0.mk (Kd.R_below (by (with_reducible repeat (first | apply Kd.R_alloc | apply Kd.R_drewN | apply Kd.R_drew)); exact HO_21.out) hb); have n3_ := Aside0.mk (below_step (by repeat (first | (with_reducible first | exact HB.out | apply below_alloc | apply pw_below_drewN | apply below_drew1) | exact HB.out)) hb); clear HO_5; clear HO_7; clear HO_21; clear HB; have HO_5 := n0_; have HO_7 := n1_; have HO_21 := n2_; have HB := n3_; clear n0_ n1_ n2_ n3_; (try clear hb); (try clear hb2); (try clear hk); (try clear hi); obtain ⟨Ao136, co136, eo136⟩ := Kd.R_slice HO_7.out; subst eo136) | (go_at_call 21; (with_reducible refine (laws_qHas.calls k4 _ _ t368 x49_4 t439 _ ?side1 ?side2 A133.out).mono ?_); (case side1 => repeat (first | exact (Kd.R_reads' HO_7.out).2.2 | (with_reducible refine Kd.C_alloc ?_ _) | (with_reducible refine Kd.C_drewN ?_ _) | (with_reducible refine Kd.C_drew ?_))); (case side2 => exact (Kd.R_reads' HO_7.out).2.1); rintro e w' ⟨rfl, ⟨nd, rfl⟩⟩; (try first | exact ⟨rfl, _, World.drewN_drewN _ _ _⟩ | exact ⟨rfl, _, Eq.trans (World.drewN_drewN _ _ _) (congrArg (World.drewN _) (Nat.add_assoc _ _ _))⟩))); try go_wp2_with (first | (go_at_call 25; (with_reducible refine (impl_CountOfKind.calls k4 _ _ t364 x49_4 t365 t436 true _ ?side1 ?side2 A123.out).mono ?_); (case side1 => repeat (first | exact (Kd.R_reads' HO_5.out).2.2 | (with_reducible refine Kd.C_alloc ?_ _) | (with_reducible refine Kd.C_drewN ?_ _) | (with_reducible refine Kd.C_drew ?_))); (case side2 => exact (Kd.R_reads' HO_5.out).2.1); rintro e w135 ⟨rfl, hb⟩; have n0_ := Aside0.mk (Kd.R_below (by (with_reducible repeat (first | apply Kd.R_alloc | apply Kd.R_drewN | apply Kd.R_drew)); exact HO_5.out) hb); have n1_ := Aside0.mk (Kd.R_below (by (with_reducible repeat (first | apply Kd.R_alloc | apply Kd.R_drewN | apply Kd.R_drew)); exact HO_7.out) hb); have n2_ := Aside0.mk (Kd.R_below (by (with_reducible repeat (first | apply Kd.R_alloc | apply Kd.R_drewN | apply Kd.R_drew)); exact HO_21.out) hb); have n3_ := Aside0.mk (below_step (by repeat (first | (with_reducible first | exact HB.out | apply below_alloc | apply pw_below_drewN | apply below_drew1) | exact HB.out)) hb); clear HO_5; clear HO_7; clear HO_21; clear HB; have HO_5 := n0_; have HO_7 := n1_; have HO_21 := n2_; have HB := n3_; clear n0_ n1_ n2_ n3_; (try clear hb); (try clear hb2); (try clear hk); (try clear hi); obtain ⟨Ao136, co136, eo136⟩ := Kd.R_slice HO_7.out; subst eo136) | (go_at_call 21; (with_reducible refine (laws_qHas.calls k4 _ _ t368 x49_4 t439 _ ?side1 ?side2 A133.out).mono ?_); (case side1 => repeat (first | exact (Kd.R_reads' HO_7.out).2.2 | (with_reducible refine Kd.C_alloc ?_ _) | (with_reducible refine Kd.C_drewN ?_ _) | (with_reducible refine Kd.C_drew ?_))); (case side2 => exact (Kd.R_reads' HO_7.out).2.1); rintro e w' ⟨rfl, ⟨nd, rfl⟩⟩; (try first | exact ⟨rfl, _, World.drewN_drewN _ _ _⟩ | exact ⟨rfl, _, Eq.trans (World.drewN_drewN _ _ _) (congrArg (World.drewN _) (Nat.add_assoc _ _ _))⟩))))
                go_roundg k4
                case measure => have := HJ71.out; have := HJ109.out; have := HK4.out; omega
                case rel => exact ⟨(wrap64 (x49_4 + 1)), (by first | rfl | (simp; done) | (simp [*]; done)), H', ⟨by have := HJ71.out; have := HJ109.out; have := HK4.out; omega⟩, ⟨by (with_reducible repeat (first | apply Kd.R_alloc | apply Kd.R_drewN | apply Kd.R_drew)); exact HO_5.out⟩, ⟨by (with_reducible repeat (first | apply Kd.R_alloc | apply Kd.R_drewN | apply Kd.R_drew)); exact HO_7.out⟩, ⟨by (with_reducible repeat (first | apply Kd.R_alloc | apply Kd.R_drewN | apply Kd.R_drew)); exact HO_21.out⟩, ⟨by repeat (first | (with_reducible first | exact HB.out | apply below_alloc | apply pw_below_drewN | apply below_drew1) | exact HB.out)⟩⟩
            ·
             rw [if_neg c126] at H
             have c126b0 : (t436 == t377) = false := beq_eq_false_iff_ne.mpr c126
             have c126b1 : (t436 != t377) = true := bne_iff_ne.mpr c126
             by_cases c137 : x49_4 = t376
             ·
              rw [if_pos c137] at H
              exact absurd H (by simp)
             ·
              rw [if_neg c137] at H
              have c137b0 : (x49_4 == t376) = false := beq_eq_false_iff_ne.mpr c137
              have c137b1 : (x49_4 != t376) = true := bne_iff_ne.mpr c137
              replace H := Option.bind_eq_some_iff.mp H
              obtain ⟨t440, A1380, H⟩ := H
              (try dsimp only at H)
              have A138 := Aside0.mk A1380
              clear A1380
              by_cases c139 : (t440 != (t436 == (t364.length : Int))) = true
              ·
               rw [if_pos c139] at H
               exact absurd H (by simp)
              ·
               rw [if_neg c139] at H
               have c139b0 : (t440 != (t436 == (t364.length : Int))) = false := by simpa using c139
               (try (have c139b1 : decide (t440 = (t436 == (t364.length : Int))) = true := by simpa using c139))
               (try (have c139b2 : (t440 == (t436 == (t364.length : Int))) = true := by simpa using c139))
               clear c139
               have H' := Aside0.mk H
               clear H
               go_wp2_with (first | (go_at_call 25; (with_reducible refine (impl_CountOfKind.calls k4 _ _ t364 x49_4 t365 t436 true _ ?side1 ?side2 A123.out).mono ?_); (case side1 => repeat (first | exact (Kd.R_reads' HO_5.out).2.2 | (with_reducible refine Kd.C_alloc ?_ _) | (with_reducible refine Kd.C_drewN ?_ _) | (with_reducible refine Kd.C_drew ?_))); (case side2 => exact (Kd.R_reads' HO_5.out).2.1); rintro e w140 ⟨rfl, hb⟩; have n0_ := Aside0.mk (Kd.R_below (by (with_reducible repeat (first | apply Kd.R_alloc | apply Kd.R_drewN | apply Kd.R_drew)); exact HO_5.out) hb); have n1_ := Aside0.mk (Kd.R_below (by (with_reducible repeat (first | apply Kd.R_alloc | apply Kd.R_drewN | apply Kd.R_drew)); exact HO_7.out) hb); have n2_ := Aside0.mk (Kd.R_below (by (with_reducible repeat (first | apply Kd.R_alloc | apply Kd.R_drewN | apply Kd.R_drew)); exact HO_21.out) hb); have n3_ := Aside0.mk (below_step (by repeat (first | (with_reducible first | exact HB.out | apply below_alloc | apply pw_below_drewN | apply below_drew1) | exact HB.out)) hb); clear HO_5; clear HO_7; clear HO_21; clear HB; have HO_5 := n0_; have HO_7 := n1_; have HO_21 := n2_; have HB := n3_; clear n0_ n1_ n2_ n3_; (try clear hb); (try clear hb2); (try clear hk); (try clear hi); obtain ⟨Ao141, co141, eo141⟩ := Kd.R_slice HO_7.out; subst eo141) | (go_at_call 21; (with_reducible refine (laws_qHas.calls k4 _ _ t368 x49_4 t440 _ ?side1 ?side2 A138.out).mono ?_); (case side1 => repeat (first | exact (Kd.R_reads' HO_7.out).2.2 | (with_reducible refine Kd.C_alloc ?_ _) | (with_reducible refine Kd.C_drewN ?_ _) | (with_reducible refine Kd.C_drew ?_))); (case side2 => exact (Kd.R_reads' HO_7.out).2.1); rintro e w' ⟨rfl, ⟨nd, rfl⟩⟩; (try first | exact ⟨rfl, _, World.drewN_drewN _ _ _⟩ | exact ⟨rfl, _, Eq.trans (World.drewN_drewN _ _ _) (congrArg (World.drewN _) (Nat.add_assoc _ _ _))⟩)))
               repeat (go_quiet (first | (go_at_call 25; (with_reducible refine (impl_CountOfKind.calls k4 _ _ t364 x49_4 t365 t436 true _ ?side1 ?side2 A123.out).mono ?_); (case side1 => repeat (first | exact (Kd.R_reads' HO_5.out).2.2 | (with_reducible refine Kd.C_alloc ?_ _) | (with_reducible refine Kd.C_drewN ?_ _) | (with_reducible refine Kd.C_drew ?_))); (case side2 => exact (Kd.R_reads' HO_5.out).2.1); rintro e w140 ⟨rfl, hb⟩; have n0_ := Aside0.mk (Kd.R_below (by (with_reducible repeat (first | apply Kd.R_alloc | apply Kd.R_drewN | apply Kd.R_drew)); exact HO_5.out) hb); have n1_ := Aside0.mk (Kd.R_below (by (with_reducible repeat (first | apply Kd.R_alloc | apply Kd.R_drewN | apply Kd.R_drew)); exact HO_7.out) hb); have n2_ := Aside0.mk (Kd.R_below (by (with_reducible repeat (first | apply Kd.R_alloc | apply Kd.R_drewN | apply Kd.R_drew)); exact HO_21.out) hb); have n3_ := Aside0.mk (below_step (by repeat (first | (with_reducible first | exact HB.out | apply below_alloc | apply pw_below_drewN | apply below_drew1) | exact HB.out)) hb); clear HO_5; clear HO_7; clear HO_21; clear HB; have HO_5 := n0_; have HO_7 := n1_; have HO_21 := n2_; have HB := n3_; clear n0_ n1_ n2_ n3_; (try clear hb); (try clear hb2); (try clear hk); (try clear hi); obtain ⟨Ao141, co141, eo141⟩ := Kd.R_slice HO_7.out; subst eo141) | (go_at_call 21; (with_reducible refine (laws_qHas.calls k4 _ _ t368 x49_4 t440 _ ?side1 ?side2 A138.out).mono ?_); (case side1 => repeat (first | exact (Kd.R_reads' HO_7.out).2.2 | (with_reducible refine Kd.C_alloc ?_ _) | (with_reducible refine Kd.C_drewN ?_ _) | (with_reducible refine Kd.C_drew ?_))); (case side2 => exact (Kd.R_reads' HO_7.out).2.1); rintro e w' ⟨rfl, ⟨nd, rfl⟩⟩; (try first | exact ⟨rfl, _, World.drewN_drewN _ _ _⟩ | exact ⟨rfl, _, Eq.trans (World.drewN_drewN _ _ _) (congrArg (World.drewN _) (Nat.add_assoc _ _ _))⟩))); try go_wp2_with (first | (go_at_call 25; (with_reducible refine (impl_CountOfKind.calls k4 _ _ t364 x49_4 t365 t436 true _ ?side1 ?side2 A123.out).mono ?_); (case side1 => repeat (first | exact (Kd.R_reads' HO_5.out).2.2 | (with_reducible refine Kd.C_alloc ?_ _) | (with_reducible refine Kd.C_drewN ?_ _) | (with_reducible refine Kd.C_drew ?_))); (case side2 => exact (Kd.R_reads' HO_5.out).2.1); rintro e w140 ⟨rfl, hb⟩; have n0_ := Aside0.mk (Kd.R_below (by (with_reducible repeat (first | apply Kd.R_alloc | apply Kd.R_drewN | apply Kd.R_drew)); exact HO_5.out) hb); have n1_ := Aside0.mk (Kd.R_below (by (with_reducible repeat (first | apply Kd.R_alloc | apply Kd.R_drewN | apply Kd.R_drew)); exact HO_7.out) hb); have n2_ := Aside0.mk (Kd.R_below (by (with_reducible repeat (first | apply Kd.R_alloc | apply Kd.R_drewN | apply Kd.R_drew)); exact HO_21.out) hb); have n3_ := Aside0.mk (below_step (by repeat (first | (with_reducible first | exact HB.out | apply below_alloc | apply pw_below_drewN | apply below_drew1) | exact HB.out)) hb); clear HO_5; clear HO_7; clear HO_21; clear HB; have HO_5 := n0_; have HO_7 := n1_; have HO_21 := n2_; have HB := n3_; clear n0_ n1_ n2_ n3_; (try clear hb); (try clear hb2); (try clear hk); (try clear hi); obtain ⟨Ao141, co141, eo141⟩ := Kd.R_slice HO_7.out; subst eo141) | (go_at_call 21; (with_reducible refine (laws_qHas.calls k4 _ _ t368 x49_4 t440 _ ?side1 ?side2 A138.out).mono ?_); (case side1 => repeat (first | exact (Kd.R_reads' HO_7.out).2.2 | (with_reducible refine Kd.C_alloc ?_ _) | (with_reducible refine Kd.C_drewN ?_ _) | (with_reducible refine Kd.C_drew ?_))); (case side2 => exact (Kd.R_reads' HO_7.out).2.1); rintro e w' ⟨rfl, ⟨nd, rfl⟩⟩; (try first | exact ⟨rfl, _, World.drewN_drewN _ _ _⟩ | exact ⟨rfl, _, Eq.trans (World.drewN_drewN _ _ _) (congrArg (World.drewN _) (Nat.add_assoc _ _ _))⟩))))
               go_roundg k4
               case measure => have := HJ71.out; have := HJ109.out; have := HK4.out; omega
               case rel => exact ⟨(wrap64 (x49_4 + 1)), (by first | rfl | (simp; done) | (simp [*]; done)), H', ⟨by have := HJ71.out; have := HJ109.out; have := HK4.out; omega⟩, ⟨by (with_reducible repeat (first | apply Kd.R_alloc | apply Kd.R_drewN | apply Kd.R_drew)); exact HO_5.out⟩, ⟨by (with_reducible repeat (first | apply Kd.R_alloc | apply Kd.R_drewN | apply Kd.R_drew)); exact HO_7.out⟩, ⟨by (with_reducible repeat (first | apply Kd.R_alloc | apply Kd.R_drewN | apply Kd.R_drew)); exact HO_21.out⟩, ⟨by repeat (first | (with_reducible first | exact HB.out | apply below_alloc | apply pw_below_drewN | apply below_drew1) | exact HB.out)⟩⟩
          ·
           replace c124 := Bool.eq_false_iff.mpr c124
           subst c124
           have H1 : (none) = some r := by rw [if_neg (show ¬ (false = true) by decide)] at H; exact H
           clear H
           have H := H1
           clear H1
           exact absurd H (by simp)
         ·
          rw [if_neg c122] at H
          have c122b0 : decide (x49_4 ≤ t430) = false := decide_eq_false c122
          clear c122
          replace H := Option.bind_eq_some_iff.mp H
          obtain ⟨⟨t434, t435⟩, A1420, H⟩ := H
          (try dsimp only at H)
          have A142 := Aside0.mk A1420
          clear A1420
          by_cases c143 : t435 = true
          ·
           subst c143
           replace H := (if_pos rfl).symm.trans H
           by_cases c144 : t434 = (t390.length : Int)
           ·
            rw [if_pos c144] at H
            have c144b0 : (t434 == (t390.length : Int)) = true := beq_iff_eq.mpr c144
            have c144b1 : (t434 != (t390.length : Int)) = false := bne_eq_false_iff_eq.mpr c144
            clear c144
            have H' := Aside0.mk H
            clear H
            go_wp2_with (first | (go_at_call 25; (with_reducible refine (impl_CountOfKind.calls k4 _ _ t364 0 t365 t434 true _ ?side1 ?side2 A142.out).mono ?_); (case side1 => repeat (first | exact (Kd.R_reads' HO_5.out).2.2 | (with_reducible refine Kd.C_alloc ?_ _) | (with_reducible refine Kd.C_drewN ?_ _) | (with_reducible refine Kd.C_drew ?_))); (case side2 => exact (Kd.R_reads' HO_5.out).2.1); rintro e w145 ⟨rfl, hb⟩; have n0_ := Aside0.mk (Kd.R_below (by (with_reducible repeat (first | apply Kd.R_alloc | apply Kd.R_drewN | apply Kd.R_drew)); exact HO_5.out) hb); have n1_ := Aside0.mk (Kd.R_below (by (with_reducible repeat (first | apply Kd.R_alloc | apply Kd.R_drewN | apply Kd.R_drew)); exact HO_7.out) hb); have n2_ := Aside0.mk (Kd.R_below (by (with_reducible repeat (first | apply Kd.R_alloc | apply Kd.R_drewN | apply Kd.R_drew)); exact HO_21.out) hb); have n3_ := Aside0.mk (below_step (by repeat (first | (with_reducible first | exact HB.out | apply below_alloc | apply pw_below_drewN | apply below_drew1) | exact HB.out)) hb); clear HO_5; clear HO_7; clear HO_21; clear HB; have HO_5 := n0_; have HO_7 := n1_; have HO_21 := n2_; have HB := n3_; clear n0_ n1_ n2_ n3_; (try clear hb); (try clear hb2); (try clear hk); (try clear hi); obtain ⟨Ao146, co146, eo146⟩ := Kd.R_slice HO_21.out; subst eo146))
            repeat (go_quiet (first | (go_at_call 25; (with_reducible refine (impl_CountOfKind.calls k4 _ _ t364 0 t365 t434 true _ ?side1 ?side2 A142.out).mono ?_); (case side1 => repeat (first | exact (Kd.R_reads' HO_5.out).2.2 | (with_reducible refine Kd.C_alloc ?_ _) | (with_reducible refine Kd.C_drewN ?_ _) | (with_reducible refine Kd.C_drew ?_))); (case side2 => exact (Kd.R_reads' HO_5.out).2.1); rintro e w145 ⟨rfl, hb⟩; have n0_ := Aside0.mk (Kd.R_below (by (with_reducible repeat (first | apply Kd.R_alloc | apply Kd.R_drewN | apply Kd.R_drew)); exact HO_5.out) hb); have n1_ := Aside0.mk (Kd.R_below (by (with_reducible repeat (first | apply Kd.R_alloc | apply Kd.R_drewN | apply Kd.R_drew)); exact HO_7.out) hb); have n2_ := Aside0.mk (Kd.R_below (by (with_reducible repeat (first | apply Kd.R_alloc | apply Kd.R_drewN | apply Kd.R_drew)); exact HO_21.out) hb); have n3_ := Aside0.mk (below_step (by repeat (first | (with_reducible first | exact HB.out | apply below_alloc | apply pw_below_drewN | apply below_drew1) | exact HB.out)) hb); clear HO_5; clear HO_7; clear HO_21; clear HB; have HO_5 := n0_; have HO_7 := n1_; have HO_21 := n2_; have HB := n3_; clear n0_ n1_ n2_ n3_; (try clear hb); (try clear hb2); (try clear hk); (try clear hi); obtain ⟨Ao146, co146, eo146⟩ := Kd.R_slice HO_21.out; subst eo146)); try go_wp2_with (first | (go_at_call 25; (with_reducible refine (impl_CountOfKind.calls k4 _ _ t364 0 t365 t434 true _ ?side1 ?side2 A142.out).mono ?_); (case side1 => repeat (first | exact (Kd.R_reads' HO_5.out).2.2 | (with_reducible refine Kd.C_alloc ?_ _) | (with_reducible refine Kd.C_drewN ?_ _) | (with_reducible refine Kd.C_drew ?_))); (case side2 => exact (Kd.R_reads' HO_5.out).2.1); rintro e w145 ⟨rfl, hb⟩; have n0_ := Aside0.mk (Kd.R_below (by (with_reducible repeat (first | apply Kd.R_alloc | apply Kd.R_drewN | apply Kd.R_drew)); exact HO_5.out) hb); have n1_ := Aside0.mk (Kd.R_below (by (with_reducible repeat (first | apply Kd.R_alloc | apply Kd.R_drewN | apply Kd.R_drew)); exact HO_7.out) hb); have n2_ := Aside0.mk (Kd.R_below (by (with_reducible repeat (first | apply Kd.R_alloc | apply Kd.R_drewN | apply Kd.R_drew)); exact HO_21.out) hb); have n3_ := Aside0.mk (below_step (by repeat (first | (with_reducible first | exact HB.out | apply below_alloc | apply pw_below_drewN | apply below_drew1) | exact HB.out)) hb); clear HO_5; clear HO_7; clear HO_21; clear HB; have HO_5 := n0_; have HO_7 := n1_; have HO_21 := n2_; have HB := n3_; clear n0_ n1_ n2_ n3_; (try clear hb); (try clear hb2); (try clear hk); (try clear hi); obtain ⟨Ao146, co146, eo146⟩ := Kd.R_slice HO_21.out; subst eo146)))
            go_meet
            case rel => exact ⟨_, H', ⟨by have := HJ71.out; have := HJ109.out; have := HK4.out; first | omega | exact Nat.le_refl _⟩, ⟨by repeat (first | (with_reducible first | exact HB.out | apply below_alloc | apply pw_below_drewN | apply below_drew1) | exact HB.out)⟩⟩
           ·
            rw [if_neg c144] at H
            exact absurd H (by simp)
          ·
           replace c143 := Bool.eq_false_iff.mpr c143
           subst c143
           have H1 : (none) = some r := by rw [if_neg (show ¬ (false = true) by decide)] at H; exact H
           clear H
           have H := H1
           clear H1
           exact absurd H (by simp)
   ·
    replace c108 := Bool.eq_false_iff.mpr c108
    subst c108
    have H1 : (laws_FnKindsTold.j7 kj71 l1) = some r := by rw [if_neg (show ¬ (false = true) by decide)] at H; exact H
    clear H
    have H := H1
    clear H1
    have H' := Aside0.mk H
    clear H
    go_wp2
    repeat (go_quiet (fail); try go_wp2)
    go_meet
    case rel => exact ⟨_, H', ⟨by have := HJ71.out; first | omega | exact Nat.le_refl _⟩, ⟨by repeat (first | (with_reducible first | exact HB.out | apply below_alloc | apply pw_below_drewN | apply below_drew1) | exact HB.out)⟩⟩
  case rest =>
   clear HC107
   obtain ⟨kq, HA, HJ106, HB⟩ := hcut
   go_step
   exact HT_j7 kq A0 c0 l0 A1 c1 l1 r w wc kj71 _ _ _ _ _ _ _ _ _ _ _ _ _ _ _ _ _ _ _ _ _ _ _ _ _ _ _ _ _ _ _ _ _ _ _ _ _ _ _ _ _ _ _ _ _ _ _ _ _ _ _ _ _ _ _ _ _ _ _ _ _ _ _ _ _ _ _ _ _ _ _ _ _ _ _ _ _ _ _ _ _ _ _ _ _ _ _ _ _ _ _ _ _ _ _ _ _ _ _ _ _ _ _ _ _ _ _ _ _ _ _ _ _ _ _ _ _ _ _ _ _ _ _ _ _ _ _ _ _ _ _ _ _ _ _ _ _ _ _ _ _ _ _ _ _ _ _ _ _ _ _ _ _ _ _ _ _ _ _ _ _ _ _ _ _ _ _ _ _ _ _ _ _ _ _ _ _ _ _ _ _ _ _ _ _ _ _ _ _ _ _ _ _ _ _ _ _ _ _ _ _ _ _ _ _ _ _ _ _ _ _ _ _ _ _ _ _ _ _ _ _ _ _ _ _ _ _ _ _ _ _ _ _ _ _ _ _ _ _ _ _ _ _ _ _ _ _ _ _ _ _ _ _ _ _ _ _ _ _ _ _ _ _ _ _ _ _ _ _ _ _ _ _ _ _ _ _ _ _ _ _ _ _ _ _ _ _ _ _ _ _ _ _ _ _ _ _ _ _ _ _ _ _ _ _ _ _ _ _ _ _ _ _ _ _ _ _ _ _ _ _ _ _ _ _ _ _ _ _ _ _ _ _ _ _ _ _ _ _ _ _ _ _ _ _ _ _ _ _ _ _ _ _ _ _ _ _ _ _ _ _ _ _ _ _ _ _ _ _ _ _ _ _ _ _ _ _ _ _ _ _ _ _ _ _ _ _ _ _ _ _ _ _ _ _ _ _ _ _ _ _ _ _ _ _ _ _ _ _ _ _ _ _ _ _ _ _ _ _ _ _ _ _ _ _ _ _ _ _ _ _ _ _ _ _ _ _ _ _ _ _ _ _ _ _ _ _ _ _ _ _ _ _ _ _ _ _ _ _ _ _ _ _ _ _ _ _ _ _ _ _ _ _ _ _ _ _ _ _ _ _ _ _ _ _ _ _ _ _ _ _ _ _ _ _ _ _ _ _ _ _ _ _ _ _ _ _ _ _ _ _ _ _ _ _ _ _ _ _ _ _ _ _ _ _ _ _ _ _ _ _ _ _ _ _ _ _ _ _ _ _ _ _ _ _ _ _ _ _ _ _ _ _ _ _ _ _ _ _ _ _ _ _ _ _ _ _ _ _ _ _ _ _ _ _ _ _ _ _ _ _ _ _ _ _ _ _ _ _ _ _ _ _ _ _ _ _ _ _ _ _ _ _ _ _ _ _ _ _ _ _ _ _ _ _ (by kernel_rfl) HR0 HC0 HR1 HC1 HA HJ106 HB
end Go.Proofs.Ytmkjopglibgleaa.P
