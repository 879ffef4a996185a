-- Written by drive.py (wip/ of this repository) over the kit's print: functions, contracts, rows. Lean checks it.
import Derived.Test.YtmkjopglibgleaaP10
namespace Go.Proofs.Ytmkjopglibgleaa.P
open Go.RowKit Go.Proofs.YtmkjopglibgleaaW.PrintWords Go.Proofs.YtmkjopglibgleaaW.PrintLast Go.Proofs.YtmkjopglibgleaaW.PrintMore
attribute [local go_sem] max2_int min2_int max_two min_two max_three min_three max_four min_four undef_guard   -- for this text's walks alone
set_option linter.unusedVariables false
set_option linter.unusedSimpArgs false

set_option maxHeartbeats 800000000 in
set_option maxRecDepth 100000 in
theorem laws_FnKindsTold.tj7 : laws_FnKindsTold.Tj7 := by
 intro kq A0 c0 l0 A1 c1 l1 r w wc kj71 s_0 s_2 s_3 s_4 s_5 s_6 s_7 s_8 s_9 s_10 s_11 s_12 s_13 s_14 s_15 s_16 s_17 s_18 s_19 s_20 s_21 s_22 s_23 s_24 s_25 s_26 s_27 s_28 s_29 s_30 s_31 s_32 s_33 s_34 s_35 s_36 s_37 s_38 s_39 s_40 s_41 s_42 s_43 s_44 s_45 s_46 s_47 s_48 s_49 s_50 s_51 s_52 s_53 s_54 s_55 s_56 s_57 s_58 s_59 s_60 s_61 s_62 s_63 s_64 s_65 s_66 s_67 s_68 s_69 s_70 s_71 s_72 s_73 s_74 s_75 s_76 s_77 s_78 s_79 s_80 s_81 s_82 s_83 s_84 s_85 s_86 s_87 s_88 s_89 s_90 s_91 s_92 s_93 s_94 s_95 s_96 s_97 s_98 s_99 s_100 s_101 s_102 s_103 s_104 s_105 s_106 s_107 s_108 s_109 s_110 s_111 s_112 s_113 s_114 s_115 s_116 s_117 s_118 s_119 s_120 s_121 s_122 s_123 s_124 s_125 s_126 s_127 s_128 s_129 s_130 s_131 s_132 s_133 s_134 s_135 s_136 s_137 s_138 s_139 s_140 s_141 s_142 s_143 s_144 s_145 s_146 s_147 s_148 s_149 s_150 s_151 s_152 s_153 s_154 s_155 s_156 s_157 s_158 s_159 s_160 s_161 s_162 s_163 s_164 s_165 s_166 s_167 s_168 s_169 s_170 s_171 s_172 s_173 s_174 s_175 s_176 s_177 s_178 s_179 s_180 s_181 s_182 s_183 s_184 s_185 s_186 s_187 s_188 s_189 s_190 s_191 s_192 s_193 s_194 s_195 s_196 s_197 s_198 s_199 s_200 s_201 s_202 s_203 s_204 s_205 s_206 s_207 s_208 s_209 s_210 s_211 s_212 s_213 s_214 s_215 s_216 s_217 s_218 s_219 s_220 s_221 s_222 s_223 s_224 s_225 s_226 s_227 s_228 s_229 s_230 s_231 s_232 s_233 s_234 s_235 s_236 s_237 s_238 s_239 s_240 s_241 s_242 s_243 s_244 s_245 s_246 s_247 s_248 s_249 s_250 s_251 s_252 s_253 s_254 s_255 s_256 s_257 s_258 s_259 s_260 s_261 s_262 s_263 s_264 s_265 s_266 s_267 s_268 s_269 s_270 s_271 s_272 s_273 s_274 s_275 s_276 s_277 s_278 s_279 s_280 s_281 s_282 s_283 s_284 s_285 s_286 s_287 s_288 s_289 s_290 s_291 s_292 s_293 s_294 s_295 s_296 s_297 s_298 s_299 s_300 s_301 s_302 s_303 s_304 s_305 s_306 s_307 s_308 s_309 s_310 s_311 s_312 s_313 s_314 s_315 s_316 s_317 s_318 s_319 s_320 s_321 s_322 s_323 s_324 s_325 s_326 s_327 s_328 s_329 s_330 s_331 s_332 s_333 s_334 s_335 s_336 s_337 s_338 s_339 s_340 s_341 s_342 s_343 s_344 s_345 s_346 s_347 s_348 s_349 s_350 s_351 s_352 s_353 s_354 s_355 s_356 s_357 s_358 s_359 s_360 s_361 s_362 s_363 s_364 s_365 s_366 s_367 s_368 s_369 s_370 s_371 s_372 s_373 s_374 s_375 s_376 s_377 s_378 s_379 s_380 s_381 s_382 s_383 s_384 s_385 s_386 s_387 s_388 s_389 s_390 s_391 s_392 s_393 s_394 s_395 s_396 s_397 s_398 s_399 s_400 s_401 s_402 s_403 s_404 s_405 s_406 s_407 s_408 s_409 s_410 s_411 s_412 s_413 s_414 s_415 s_416 s_417 s_418 s_419 s_420 s_421 s_422 s_423 s_424 s_425 s_426 s_427 s_428 s_429 s_430 s_431 s_432 s_433 s_434 s_435 s_436 s_437 s_438 s_439 s_440 s_441 s_442 s_443 s_444 s_445 s_446 s_447 s_448 s_449 s_450 s_451 s_452 s_453 s_454 s_455 s_456 s_457 s_458 s_459 s_460 s_461 s_462 s_463 s_464 s_465 s_466 s_467 s_468 s_469 s_470 s_471 s_472 s_473 s_474 s_475 s_476 s_477 s_478 s_479 s_480 s_481 s_482 s_483 s_484 s_485 s_486 s_487 s_488 s_489 s_490 s_491 s_492 s_493 s_494 s_495 s_496 s_497 s_498 s_499 s_500 s_501 s_502 s_503 s_504 s_505 s_506 s_507 s_508 s_509 s_510 s_511 s_512 s_513 s_514 s_515 s_516 s_517 s_518 s_519 s_520 s_521 s_522 s_523 s_524 s_525 s_526 s_527 s_528 s_529 s_530 s_531 s_532 s_533 s_534 s_535 s_536 s_537 s_538 s_539 s_540 s_541 s_542 s_543 s_544 s_545 s_546 s_547 s_548 s_549 s_550 s_551 s_552 s_553 s_554 s_555 s_556 s_557 s_558 s_559 s_560 s_561 s_562 s_563 s_564 s_565 s_566 s_567 s_568 s_569 s_570 s_571 s_572 s_573 s_574 s_575 s_576 s_577 s_578 s_579 s_580 s_581 s_582 s_583 s_584 s_585 s_586 s_587 s_588 s_589 s_590 s_591 s_592 s_593 s_594 s_595 s_596 s_597 s_598 s_599 s_600 s_601 s_602 s_603 s_604 s_605 s_606 s_607 s_608 s_609 s_610 s_611 s_612 s_613 s_614 c_ hc_ HR0 HC0 HR1 HC1 HA HJ106 HB
 obtain rfl := Option.some.inj ((show some _ = some c_ from hc_))
 cases kq with
 | zero => exact absurd HA.out (by simp [laws_FnKindsTold.j7])
 | succ kj106 =>
  have H := HA.out
  clear HA
  simp only [laws_FnKindsTold.j7] at H
  replace H := Option.bind_eq_some_iff.mp H
  obtain ⟨⟨t441, t442⟩, A1470, H⟩ := H
  (try dsimp only at H)
  have A147 := Aside0.mk A1470
  clear A1470
  replace H := Option.bind_eq_some_iff.mp H
  obtain ⟨⟨t443, t444⟩, A1480, H⟩ := H
  (try dsimp only at H)
  have A148 := Aside0.mk A1480
  clear A1480
  replace H := Option.bind_eq_some_iff.mp H
  obtain ⟨⟨t445, t446⟩, A1490, H⟩ := H
  (try dsimp only at H)
  have A149 := Aside0.mk A1490
  clear A1490
  replace H := Option.bind_eq_some_iff.mp H
  obtain ⟨⟨t447, t448⟩, A1500, H⟩ := H
  (try dsimp only at H)
  have A150 := Aside0.mk A1500
  clear A1500
  replace H := Option.bind_eq_some_iff.mp H
  obtain ⟨⟨t449, t450⟩, A1510, H⟩ := H
  (try dsimp only at H)
  have A151 := Aside0.mk A1510
  clear A1510
  replace H := Option.bind_eq_some_iff.mp H
  obtain ⟨t451, A1520, H⟩ := H
  (try dsimp only at H)
  have A152 := Aside0.mk A1520
  clear A1520
  replace H := Option.bind_eq_some_iff.mp H
  obtain ⟨⟨t452, t453⟩, A1530, H⟩ := H
  (try dsimp only at H)
  have A153 := Aside0.mk A1530
  clear A1530
  replace H := Option.bind_eq_some_iff.mp H
  obtain ⟨⟨t454, t455⟩, A1540, H⟩ := H
  (try dsimp only at H)
  have A154 := Aside0.mk A1540
  clear A1540
  replace H := Option.bind_eq_some_iff.mp H
  obtain ⟨⟨t456, t457, t458⟩, A1550, H⟩ := H
  (try dsimp only at H)
  have A155 := Aside0.mk A1550
  clear A1550
  replace H := Option.bind_eq_some_iff.mp H
  obtain ⟨⟨t461, t462⟩, A1560, H⟩ := H
  (try dsimp only at H)
  have A156 := Aside0.mk A1560
  clear A1560
  replace H := Option.bind_eq_some_iff.mp H
  obtain ⟨⟨t463, t464⟩, A1570, H⟩ := H
  (try dsimp only at H)
  have A157 := Aside0.mk A1570
  clear A1570
  have HC158 := Aside0.mk H
  clear H
  go_upto_region 64 with (first | (go_at_call 26; (with_reducible refine (spec_DrawNextOfKind.calls _ _ l1 t441 t442 _ ?side1 ?side2 A147.out).mono ?_); (case side1 => repeat (first | exact (Kd.C_below HR1.out HB.out) | (with_reducible refine Kd.C_alloc ?_ _) | (with_reducible refine Kd.C_drewN ?_ _) | (with_reducible refine Kd.C_drew ?_))); (case side2 => exact HC1.out); rintro e w159 ⟨rfl, hb⟩; have n0_ := Aside0.mk (below_step (by repeat (first | (with_reducible first | exact HB.out | apply below_alloc | apply pw_below_drewN | apply below_drew1) | exact HB.out)) hb); clear HB; have HB := n0_; clear n0_; (try clear hb); (try clear hb2); (try clear hk); (try clear hi)) | (go_at_call 22; (with_reducible refine (impl_NextOfKind.calls kj106 t441 t442 t443 t444 _ A148.out).mono ?_); rintro e w160 ⟨rfl, hb⟩; have n0_ := Aside0.mk (below_step (by repeat (first | (with_reducible first | exact HB.out | apply below_alloc | apply pw_below_drewN | apply below_drew1) | exact HB.out)) hb); clear HB; have HB := n0_; clear n0_; (try clear hb); (try clear hb2); (try clear hk); (try clear hi)) | (go_at_call 27; (with_reducible refine (spec_NextOfKind.calls kj106 t441 t442 t445 t446 _ A149.out).mono ?_); rintro e w161 ⟨rfl, hb⟩; have n0_ := Aside0.mk (below_step (by repeat (first | (with_reducible first | exact HB.out | apply below_alloc | apply pw_below_drewN | apply below_drew1) | exact HB.out)) hb); clear HB; have HB := n0_; clear n0_; (try clear hb); (try clear hb2); (try clear hk); (try clear hi)) | (go_at_call 19; (with_reducible refine (impl_IsKind.calls kj106 t441 t442 t447 t448 _ A150.out).mono ?_); rintro e w' ⟨rfl, ⟨nd, rfl⟩⟩; (try first | exact ⟨rfl, _, World.drewN_drewN _ _ _⟩ | exact ⟨rfl, _, Eq.trans (World.drewN_drewN _ _ _) (congrArg (World.drewN _) (Nat.add_assoc _ _ _))⟩)) | (go_at_call 28; (with_reducible refine (spec_IsKind.calls kj106 t441 t442 t449 t450 _ A151.out).mono ?_); rintro e w' ⟨rfl, ⟨nd, rfl⟩⟩; (try first | exact ⟨rfl, _, World.drewN_drewN _ _ _⟩ | exact ⟨rfl, _, Eq.trans (World.drewN_drewN _ _ _) (congrArg (World.drewN _) (Nat.add_assoc _ _ _))⟩)) | (go_at_call 29; (with_reducible refine (spec_DrawKindsOf.calls _ _ l1 t451 _ ?side1 ?side2 A152.out).mono ?_); (case side1 => repeat (first | exact (Kd.C_below HR1.out (by repeat (first | (with_reducible first | exact HB.out | apply below_alloc | apply pw_below_drewN | apply below_drew1) | exact HB.out))) | (with_reducible refine Kd.C_alloc ?_ _) | (with_reducible refine Kd.C_drewN ?_ _) | (with_reducible refine Kd.C_drew ?_))); (case side2 => exact HC1.out); rintro e w162 ⟨rfl, hb⟩; have n0_ := Aside0.mk (below_step (by repeat (first | (with_reducible first | exact HB.out | apply below_alloc | apply pw_below_drewN | apply below_drew1) | exact HB.out)) hb); clear HB; have HB := n0_; clear n0_; (try clear hb); (try clear hb2); (try clear hk); (try clear hi)) | (go_at_call 20; (with_reducible refine (impl_KindsOf.calls kj106 t451 t452 t453 _ A153.out).mono ?_); rintro e w163 ⟨rfl, hb⟩; have n0_ := Aside0.mk (below_step (by repeat (first | (with_reducible first | exact HB.out | apply below_alloc | apply pw_below_drewN | apply below_drew1) | exact HB.out)) hb); clear HB; have HB := n0_; clear n0_; (try clear hb); (try clear hb2); (try clear hk); (try clear hi)) | (go_at_call 30; (with_reducible refine (spec_KindsOf.calls kj106 t451 t454 t455 _ A154.out).mono ?_); rintro e w' ⟨rfl, ⟨nd, rfl⟩⟩; (try first | exact ⟨rfl, _, World.drewN_drewN _ _ _⟩ | exact ⟨rfl, _, Eq.trans (World.drewN_drewN _ _ _) (congrArg (World.drewN _) (Nat.add_assoc _ _ _))⟩)) | (go_at_call 31; (with_reducible refine (spec_DrawCountOfKind.calls kj106 _ _ l1 t456 t457 t458 _ ?side1 ?side2 A155.out).mono ?_); (case side1 => repeat (first | exact (Kd.C_below HR1.out (by repeat (first | (with_reducible first | exact HB.out | apply below_alloc | apply pw_below_drewN | apply below_drew1) | exact HB.out))) | (with_reducible refine Kd.C_alloc ?_ _) | (with_reducible refine Kd.C_drewN ?_ _) | (with_reducible refine Kd.C_drew ?_))); (case side2 => exact HC1.out); rintro e w164 ⟨v459, rfl, ho0, hb⟩; have n0_ := Aside0.mk (Kd.R_lower ho0 (below_size (by repeat (first | (with_reducible first | exact HB.out | apply below_alloc | apply pw_below_drewN | apply below_drew1) | exact HB.out)))); have n1_ := Aside0.mk (below_step (by repeat (first | (with_reducible first | exact HB.out | apply below_alloc | apply pw_below_drewN | apply below_drew1) | exact HB.out)) hb); clear HB; have HO460 := n0_; have HB := n1_; clear n0_ n1_; (try clear hb); (try clear hb2); (try clear hk); (try clear hi); (try clear ho0); obtain ⟨Ao165, co165, eo165⟩ := Kd.R_slice HO460.out; subst eo165) | (go_at_call 25; (with_reducible refine (impl_CountOfKind.calls kj106 _ _ t456 t457 t458 t461 t462 _ ?side1 ?side2 A156.out).mono ?_); (case side1 => repeat (first | exact (Kd.R_reads' HO460.out).2.2 | (with_reducible refine Kd.C_alloc ?_ _) | (with_reducible refine Kd.C_drewN ?_ _) | (with_reducible refine Kd.C_drew ?_))); (case side2 => exact (Kd.R_reads' HO460.out).2.1); rintro e w166 ⟨rfl, hb⟩; have n0_ := Aside0.mk (Kd.R_below (by (with_reducible repeat (first | apply Kd.R_alloc | apply Kd.R_drewN | apply Kd.R_drew)); exact HO460.out) hb); have n1_ := Aside0.mk (below_step (by repeat (first | (with_reducible first | exact HB.out | apply below_alloc | apply pw_below_drewN | apply below_drew1) | exact HB.out)) hb); clear HO460; clear HB; have HO460 := n0_; have HB := n1_; clear n0_ n1_; (try clear hb); (try clear hb2); (try clear hk); (try clear hi)) | (go_at_call 32; (with_reducible refine (spec_CountOfKind.calls kj106 _ _ t456 t457 t458 t463 t464 _ ?side1 ?side2 A157.out).mono ?_); (case side1 => repeat (first | exact (Kd.R_reads' HO460.out).2.2 | (with_reducible refine Kd.C_alloc ?_ _) | (with_reducible refine Kd.C_drewN ?_ _) | (with_reducible refine Kd.C_drew ?_))); (case side2 => exact (Kd.R_reads' HO460.out).2.1); rintro e w' ⟨rfl, ⟨nd, rfl⟩⟩; (try first | exact ⟨rfl, _, World.drewN_drewN _ _ _⟩ | exact ⟨rfl, _, Eq.trans (World.drewN_drewN _ _ _) (congrArg (World.drewN _) (Nat.add_assoc _ _ _))⟩)))
  repeat (go_quiet (first | (go_at_call 26; (with_reducible refine (spec_DrawNextOfKind.calls _ _ l1 t441 t442 _ ?side1 ?side2 A147.out).mono ?_); (case side1 => repeat (first | exact (Kd.C_below HR1.out HB.out) | (with_reducible refine Kd.C_alloc ?_ _) | (with_reducible refine Kd.C_drewN ?_ _) | (with_reducible refine Kd.C_drew ?_))); (case side2 => exact HC1.out); rintro e w159 ⟨rfl, hb⟩; have n0_ := Aside0.mk (below_step (by repeat (first | (with_reducible first | exact HB.out | apply below_alloc | apply pw_below_drewN | apply below_drew1) | exact HB.out)) hb); clear HB; have HB := n0_; clear n0_; (try clear hb); (try clear hb2); (try clear hk); (try clear hi)) | (go_at_call 22; (with_reducible refine (impl_NextOfKind.calls kj106 t441 t442 t443 t444 _ A148.out).mono ?_); rintro e w160 ⟨rfl, hb⟩; have n0_ := Aside0.mk (below_step (by repeat (first | (with_reducible first | exact HB.out | apply below_alloc | apply pw_below_drewN | apply below_drew1) | exact HB.out)) hb); clear HB; have HB := n0_; clear n0_; (try clear hb); (try clear hb2); (try clear hk); (try clear hi)) | (go_at_call 27; (with_reducible refine (spec_NextOfKind.calls kj106 t441 t442 t445 t446 _ A149.out).mono ?_); rintro e w161 ⟨rfl, hb⟩; have n0_ := Aside0.mk (below_step (by repeat (first | (with_reducible first | exact HB.out | apply below_alloc | apply pw_below_drewN | apply below_drew1) | exact HB.out)) hb); clear HB; have HB := n0_; clear n0_; (try clear hb); (try clear hb2); (try clear hk); (try clear hi)) | (go_at_call 19; (with_reducible refine (impl_IsKind.calls kj106 t441 t442 t447 t448 _ A150.out).mono ?_); rintro e w' ⟨rfl, ⟨nd, rfl⟩⟩; (try first | exact ⟨rfl, _, World.drewN_drewN _ _ _⟩ | exact ⟨rfl, _, Eq.trans (World.drewN_drewN _ _ _) (congrArg (World.drewN _) (Nat.add_assoc _ _ _))⟩)) | (go_at_call 28; (with_reducible refine (spec_IsKind.calls kj106 t441 t442 t449 t450 _ A151.out).mono ?_); rintro e w' ⟨rfl, ⟨nd, rfl⟩⟩; (try first | exact ⟨rfl, _, World.drewN_drewN _ _ _⟩ | exact ⟨rfl, _, Eq.trans (World.drewN_drewN _ _ _) (congrArg (World.drewN _) (Nat.add_assoc _ _ _))⟩)) | (go_at_call 29; (with_reducible refine (spec_DrawKindsOf.calls _ _ l1 t451 _ ?side1 ?side2 A152.out).mono ?_); (case side1 => repeat (first | exact (Kd.C_below HR1.out (by repeat (first | (with_reducible first | exact HB.out | apply below_alloc | apply pw_below_drewN | apply below_drew1) | exact HB.out))) | (with_reducible refine Kd.C_alloc ?_ _) | (with_reducible refine Kd.C_drewN ?_ _) | (with_reducible refine Kd.C_drew ?_))); (case side2 => exact HC1.out); rintro e w162 ⟨rfl, hb⟩; have n0_ := Aside0.mk (below_step (by repeat (first | (with_reducible first | exact HB.out | apply below_alloc | apply pw_below_drewN | apply below_drew1) | exact HB.out)) hb); clear HB; have HB := n0_; clear n0_; (try clear hb); (try clear hb2); (try clear hk); (try clear hi)) | (go_at_call 20; (with_reducible refine (impl_KindsOf.calls kj106 t451 t452 t453 _ A153.out).mono ?_); rintro e w163 ⟨rfl, hb⟩; have n0_ := Aside0.mk (below_step (by repeat (first | (with_reducible first | exact HB.out | apply below_alloc | apply pw_below_drewN | apply below_drew1) | exact HB.out)) hb); clear HB; have HB := n0_; clear n0_; (try clear hb); (try clear hb2); (try clear hk); (try clear hi)) | (go_at_call 30; (with_reducible refine (spec_KindsOf.calls kj106 t451 t454 t455 _ A154.out).mono ?_); rintro e w' ⟨rfl, ⟨nd, rfl⟩⟩; (try first | exact ⟨rfl, _, World.drewN_drewN _ _ _⟩ | exact ⟨rfl, _, Eq.trans (World.drewN_drewN _ _ _) (congrArg (World.drewN _) (Nat.add_assoc _ _ _))⟩)) | (go_at_call 31; (with_reducible refine (spec_DrawCountOfKind.calls kj106 _ _ l1 t456 t457 t458 _ ?side1 ?side2 A155.out).mono ?_); (case side1 => repeat (first | exact (Kd.C_below HR1.out (by repeat (first | (with_reducible first | exact HB.out | apply below_alloc | apply pw_below_drewN | apply below_drew1) | exact HB.out))) | (with_reducible refine Kd.C_alloc ?_ _) | (with_reducible refine Kd.C_drewN ?_ _) | (with_reducible refine Kd.C_drew ?_))); (case side2 => exact HC1.out); rintro e w164 ⟨v459, rfl, ho0, hb⟩; have n0_ := Aside0.mk (Kd.R_lower ho0 (below_size (by repeat (first | (with_reducible first | exact HB.out | apply below_alloc | apply pw_below_drewN | apply below_drew1) | exact HB.out)))); have n1_ := Aside0.mk (below_step (by repeat (first | (with_reducible first | exact HB.out | apply below_alloc | apply pw_below_drewN | apply below_drew1) | exact HB.out)) hb); clear HB; have HO460 := n0_; have HB := n1_; clear n0_ n1_; (try clear hb); (try clear hb2); (try clear hk); (try clear hi); (try clear ho0); obtain ⟨Ao165, co165, eo165⟩ := Kd.R_slice HO460.out; subst eo165) | (go_at_call 25; (with_reducible refine (impl_CountOfKind.calls kj106 _ _ t456 t457 t458 t461 t462 _ ?side1 ?side2 A156.out).mono ?_); (case side1 => repeat (first | exact (Kd.R_reads' HO460.out).2.2 | (with_reducible refine Kd.C_alloc ?_ _) | (with_reducible refine Kd.C_drewN ?_ _) | (with_reducible refine Kd.C_drew ?_))); (case side2 => exact (Kd.R_reads' HO460.out).2.1); rintro e w166 ⟨rfl, hb⟩; have n0_ := Aside0.mk (Kd.R_below (by (with_reducible repeat (first | apply Kd.R_alloc | apply Kd.R_drewN | apply Kd.R_drew)); exact HO460.out) hb); have n1_ := Aside0.mk (below_step (by repeat (first | (with_reducible first | exact HB.out | apply below_alloc | apply pw_below_drewN | apply below_drew1) | exact HB.out)) hb); clear HO460; clear HB; have HO460 := n0_; have HB := n1_; clear n0_ n1_; (try clear hb); (try clear hb2); (try clear hk); (try clear hi)) | (go_at_call 32; (with_reducible refine (spec_CountOfKind.calls kj106 _ _ t456 t457 t458 t463 t464 _ ?side1 ?side2 A157.out).mono ?_); (case side1 => repeat (first | exact (Kd.R_reads' HO460.out).2.2 | (with_reducible refine Kd.C_alloc ?_ _) | (with_reducible refine Kd.C_drewN ?_ _) | (with_reducible refine Kd.C_drew ?_))); (case side2 => exact (Kd.R_reads' HO460.out).2.1); rintro e w' ⟨rfl, ⟨nd, rfl⟩⟩; (try first | exact ⟨rfl, _, World.drewN_drewN _ _ _⟩ | exact ⟨rfl, _, Eq.trans (World.drewN_drewN _ _ _) (congrArg (World.drewN _) (Nat.add_assoc _ _ _))⟩))); go_upto_region 64 with (first | (go_at_call 26; (with_reducible refine (spec_DrawNextOfKind.calls _ _ l1 t441 t442 _ ?side1 ?side2 A147.out).mono ?_); (case side1 => repeat (first | exact (Kd.C_below HR1.out HB.out) | (with_reducible refine Kd.C_alloc ?_ _) | (with_reducible refine Kd.C_drewN ?_ _) | (with_reducible refine Kd.C_drew ?_))); (case side2 => exact HC1.out); rintro e w159 ⟨rfl, hb⟩; have n0_ := Aside0.mk (below_step (by repeat (first | (with_reducible first | exact HB.out | apply below_alloc | apply pw_below_drewN | apply below_drew1) | exact HB.out)) hb); clear HB; have HB := n0_; clear n0_; (try clear hb); (try clear hb2); (try clear hk); (try clear hi)) | (go_at_call 22; (with_reducible refine (impl_NextOfKind.calls kj106 t441 t442 t443 t444 _ A148.out).mono ?_); rintro e w160 ⟨rfl, hb⟩; have n0_ := Aside0.mk (below_step (by repeat (first | (with_reducible first | exact HB.out | apply below_alloc | apply pw_below_drewN | apply below_drew1) | exact HB.out)) hb); clear HB; have HB := n0_; clear n0_; (try clear hb); (try clear hb2); (try clear hk); (try clear hi)) | (go_at_call 27; (with_reducible refine (spec_NextOfKind.calls kj106 t441 t442 t445 t446 _ A149.out).mono ?_); rintro e w161 ⟨rfl, hb⟩; have n0_ := Aside0.mk (below_step (by repeat (first | (with_reducible first | exact HB.out | apply below_alloc | apply pw_below_drewN | apply below_drew1) | exact HB.out)) hb); clear HB; have HB := n0_; clear n0_; (try clear hb); (try clear hb2); (try clear hk); (try clear hi)) | (go_at_call 19; (with_reducible refine (impl_IsKind.calls kj106 t441 t442 t447 t448 _ A150.out).mono ?_); rintro e w' ⟨rfl, ⟨nd, rfl⟩⟩; (try first | exact ⟨rfl, _, World.drewN_drewN _ _ _⟩ | exact ⟨rfl, _, Eq.trans (World.drewN_drewN _ _ _) (congrArg (World.drewN _) (Nat.add_assoc _ _ _))⟩)) | (go_at_call 28; (with_reducible refine (spec_IsKind.calls kj106 t441 t442 t449 t450 _ A151.out).mono ?_); rintro e w' ⟨rfl, ⟨nd, rfl⟩⟩; (try first | exact ⟨rfl, _, World.drewN_drewN _ _ _⟩ | exact ⟨rfl, _, Eq.trans (World.drewN_drewN _ _ _) (congrArg (World.drewN _) (Nat.add_assoc _ _ _))⟩)) | (go_at_call 29; (with_reducible refine (spec_DrawKindsOf.calls _ _ l1 t451 _ ?side1 ?side2 A152.out).mono ?_); (case side1 => repeat (first | exact (Kd.C_below HR1.out (by repeat (first | (with_reducible first | exact HB.out | apply below_alloc | apply pw_below_drewN | apply below_drew1) | exact HB.out))) | (with_reducible refine Kd.C_alloc ?_ _) | (with_reducible refine Kd.C_drewN ?_ _) | (with_reducible refine Kd.C_drew ?_))); (case side2 => exact HC1.out); rintro e w162 ⟨rfl, hb⟩; have n0_ := Aside0.mk (below_step (by repeat (first | (with_reducible first | exact HB.out | apply below_alloc | apply pw_below_drewN | apply below_drew1) | exact HB.out)) hb); clear HB; have HB := n0_; clear n0_; (try clear hb); (try clear hb2); (try clear hk); (try clear hi)) | (go_at_call 20; (with_reducible refine (impl_KindsOf.calls kj106 t451 t452 t453 _ A153.out).mono ?_); rintro e w163 ⟨rfl, hb⟩; have n0_ := Aside0.mk (below_step (by repeat (first | (with_reducible first | exact HB.out | apply below_alloc | apply pw_below_drewN | apply below_drew1) | exact HB.out)) hb); clear HB; have HB := n0_; clear n0_; (try clear hb); (try clear hb2); (try clear hk); (try clear hi)) | (go_at_call 30; (with_reducible refine (spec_KindsOf.calls kj106 t451 t454 t455 _ A154.out).mono ?_); rintro e w' ⟨rfl, ⟨nd, rfl⟩⟩; (try first | exact ⟨rfl, _, World.drewN_drewN _ _ _⟩ | exact ⟨rfl, _, Eq.trans (World.drewN_drewN _ _ _) (congrArg (World.drewN _) (Nat.add_assoc _ _ _))⟩)) | (go_at_call 31; (with_reducible refine (spec_DrawCountOfKind.calls kj106 _ _ l1 t456 t457 t458 _ ?side1 ?side2 A155.out).mono ?_); (case side1 => repeat (first | exact (Kd.C_below HR1.out (by repeat (first | (with_reducible first | exact HB.out | apply below_alloc | apply pw_below_drewN | apply below_drew1) | exact HB.out))) | (with_reducible refine Kd.C_alloc ?_ _) | (with_reducible refine Kd.C_drewN ?_ _) | (with_reducible refine Kd.C_drew ?_))); (case side2 => exact HC1.out); rintro e w164 ⟨v459, rfl, ho0, hb⟩; have n0_ := Aside0.mk (Kd.R_lower ho0 (below_size (by repeat (first | (with_reducible first | exact HB.out | apply below_alloc | apply pw_below_drewN | apply below_drew1) | exact HB.out)))); have n1_ := Aside0.mk (below_step (by repeat (first | (with_reducible first | exact HB.out | apply below_alloc | apply pw_below_drewN | apply below_drew1) | exact HB.out)) hb); clear HB; have HO460 := n0_; have HB := n1_; clear n0_ n1_; (try clear hb); (try clear hb2); (try clear hk); (try clear hi); (try clear ho0); obtain ⟨Ao165, co165, eo165⟩ := Kd.R_slice HO460.out; subst eo165) | (go_at_call 25; (with_reducible refine (impl_CountOfKind.calls kj106 _ _ t456 t457 t458 t461 t462 _ ?side1 ?side2 A156.out).mono ?_); (case side1 => repeat (first | exact (Kd.R_reads' HO460.out).2.2 | (with_reducible refine Kd.C_alloc ?_ _) | (with_reducible refine Kd.C_drewN ?_ _) | (with_reducible refine Kd.C_drew ?_))); (case side2 => exact (Kd.R_reads' HO460.out).2.1); rintro e w166 ⟨rfl, hb⟩; have n0_ := Aside0.mk (Kd.R_below (by (with_reducible repeat (first | apply Kd.R_alloc | apply Kd.R_drewN | apply Kd.R_drew)); exact HO460.out) hb); have n1_ := Aside0.mk (below_step (by repeat (first | (with_reducible first | exact HB.out | apply below_alloc | apply pw_below_drewN | apply below_drew1) | exact HB.out)) hb); clear HO460; clear HB; have HO460 := n0_; have HB := n1_; clear n0_ n1_; (try clear hb); (try clear hb2); (try clear hk); (try clear hi)) | (go_at_call 32; (with_reducible refine (spec_CountOfKind.calls kj106 _ _ t456 t457 t458 t463 t464 _ ?side1 ?side2 A157.out).mono ?_); (case side1 => repeat (first | exact (Kd.R_reads' HO460.out).2.2 | (with_reducible refine Kd.C_alloc ?_ _) | (with_reducible refine Kd.C_drewN ?_ _) | (with_reducible refine Kd.C_drew ?_))); (case side2 => exact (Kd.R_reads' HO460.out).2.1); rintro e w' ⟨rfl, ⟨nd, rfl⟩⟩; (try first | exact ⟨rfl, _, World.drewN_drewN _ _ _⟩ | exact ⟨rfl, _, Eq.trans (World.drewN_drewN _ _ _) (congrArg (World.drewN _) (Nat.add_assoc _ _ _))⟩))))
  (try simp only [Act.put, List.setIfInBounds_toArray, List.set_cons_zero, List.set_cons_succ])
  go_cut [578] from 9999 (fun v578_s wc => ∃ (kq : Nat) (x578_157 : Bool), v578_s = .bool x578_157 ∧ Aside0 (laws_FnKindsTold.j8 kq t441 t442 t443 t444 x578_157 = some r) ∧ Aside0 (kq ≤ kj106) ∧ Aside0 (Below w.heap.size w wc))
  case first =>
   have H := HC158.out
   clear HC158
   by_cases c167 : (t444 != t446) = true
   ·
    rw [if_pos c167] at H
    exact absurd H (by simp)
   ·
    rw [if_neg c167] at H
    have c167b0 : (t444 != t446) = false := by simpa using c167
    (try (have c167b1 : decide (t444 = t446) = true := by simpa using c167))
    (try (have c167b2 : (t444 == t446) = true := by simpa using c167))
    clear c167
    (first | rw [c167b0] | (simp only [i64_w, i32_w]; rw [c167b0]) | skip)
    by_cases c168 : t443 = t445
    ·
     rw [if_pos c168] at H
     have c168b0 : (t443 == t445) = true := beq_iff_eq.mpr c168
     have c168b1 : (t443 != t445) = false := bne_eq_false_iff_eq.mpr c168
     clear c168
     by_cases c169 : (t448 != t450) = true
     ·
      rw [if_pos c169] at H
      exact absurd H (by simp)
     ·
      rw [if_neg c169] at H
      have c169b0 : (t448 != t450) = false := by simpa using c169
      (try (have c169b1 : decide (t448 = t450) = true := by simpa using c169))
      (try (have c169b2 : (t448 == t450) = true := by simpa using c169))
      clear c169
      by_cases c170 : (t447 != t449) = true
      ·
       rw [if_pos c170] at H
       exact absurd H (by simp)
      ·
       rw [if_neg c170] at H
       have c170b0 : (t447 != t449) = false := by simpa using c170
       (try (have c170b1 : decide (t447 = t449) = true := by simpa using c170))
       (try (have c170b2 : (t447 == t449) = true := by simpa using c170))
       clear c170
       by_cases c171 : (t453 != t455) = true
       ·
        rw [if_pos c171] at H
        exact absurd H (by simp)
       ·
        rw [if_neg c171] at H
        have c171b0 : (t453 != t455) = false := by simpa using c171
        (try (have c171b1 : decide (t453 = t455) = true := by simpa using c171))
        (try (have c171b2 : (t453 == t455) = true := by simpa using c171))
        clear c171
        by_cases c172 : t452.toList = t454.toList
        ·
         rw [if_pos c172] at H
         have c172b0 : (t452.toList == t454.toList) = true := beq_iff_eq.mpr c172
         have c172b1 : (t452.toList != t454.toList) = false := bne_eq_false_iff_eq.mpr c172
         clear c172
         by_cases c173 : (t462 != t464) = true
         ·
          rw [if_pos c173] at H
          exact absurd H (by simp)
         ·
          rw [if_neg c173] at H
          have c173b0 : (t462 != t464) = false := by simpa using c173
          (try (have c173b1 : decide (t462 = t464) = true := by simpa using c173))
          (try (have c173b2 : (t462 == t464) = true := by simpa using c173))
          clear c173
          by_cases c174 : t461 = t463
          ·
           rw [if_pos c174] at H
           have c174b0 : (t461 == t463) = true := beq_iff_eq.mpr c174
           have c174b1 : (t461 != t463) = false := bne_eq_false_iff_eq.mpr c174
           clear c174
           by_cases c175 : t444 = true
           ·
            subst c175
            replace H := (if_pos rfl).symm.trans H
            have H' := Aside0.mk H
            clear H
            go_wp2
            repeat (go_quiet (fail); try go_wp2)
            go_meet
            case rel => exact ⟨_, (!t448), (by first | rfl | (simp; done) | (simp [*]; done)), H', ⟨by have := HJ106.out; first | omega | exact Nat.le_refl _⟩, ⟨by repeat (first | (with_reducible first | exact HB.out | apply below_alloc | apply pw_below_drewN | apply below_drew1) | exact HB.out)⟩⟩
           ·
            replace c175 := Bool.eq_false_iff.mpr c175
            subst c175
            have H1 : (laws_FnKindsTold.j8 kj106 t441 t442 t443 false false) = some r := by rw [if_neg (show ¬ (false = true) by decide)] at H; exact H
            clear H
            have H := H1
            clear H1
            have H' := Aside0.mk H
            clear H
            go_wp2
            repeat (go_quiet (fail); try go_wp2)
            go_meet
            case rel => exact ⟨_, (false), (by first | rfl | (simp; done) | (simp [*]; done)), H', ⟨by have := HJ106.out; first | omega | exact Nat.le_refl _⟩, ⟨by repeat (first | (with_reducible first | exact HB.out | apply below_alloc | apply pw_below_drewN | apply below_drew1) | exact HB.out)⟩⟩
          ·
           rw [if_neg c174] at H
           exact absurd H (by simp)
        ·
         rw [if_neg c172] at H
         exact absurd H (by simp)
    ·
     rw [if_neg c168] at H
     exact absurd H (by simp)
  case rest =>
   clear HC158
   obtain ⟨kq, x578_157, rfl, HA, HJ157, HB⟩ := hcut
   cases kq with
   | zero => exact absurd HA.out (by simp [laws_FnKindsTold.j8])
   | succ kj157 =>
    have H := HA.out
    clear HA
    simp only [laws_FnKindsTold.j8] at H
    by_cases c176 : x578_157 = true
    ·
     subst c176
     replace H := (if_pos rfl).symm.trans H
     exact absurd H (by simp)
    ·
     replace c176 := Bool.eq_false_iff.mpr c176
     subst c176
     have H1 : (if t444 = true then ((impl_IsKind.f kj157 t443 t442).bind fun bt465 => (if t443 ≤ t441 then (none) else (if bt465.2 = true then (laws_FnKindsTold.j9 kj157 t441 t442 t443 (!bt465.1)) else (none)))) else (some true)) = some r := by rw [if_neg (show ¬ (false = true) by decide)] at H; exact H
     clear H
     have H := H1
     clear H1
     by_cases c177 : t444 = true
     ·
      subst c177
      replace H := (if_pos rfl).symm.trans H
      replace H := Option.bind_eq_some_iff.mp H
      obtain ⟨⟨t465, t466⟩, A1780, H⟩ := H
      (try dsimp only at H)
      have A178 := Aside0.mk A1780
      clear A1780
      have HC179 := Aside0.mk H
      clear H
      go_upto_region 68 with (first | (go_at_call 19; (with_reducible refine (impl_IsKind.calls kj157 t443 t442 t465 t466 _ A178.out).mono ?_); rintro e w' ⟨rfl, ⟨nd, rfl⟩⟩; (try first | exact ⟨rfl, _, World.drewN_drewN _ _ _⟩ | exact ⟨rfl, _, Eq.trans (World.drewN_drewN _ _ _) (congrArg (World.drewN _) (Nat.add_assoc _ _ _))⟩)))
      repeat (go_quiet (first | (go_at_call 19; (with_reducible refine (impl_IsKind.calls kj157 t443 t442 t465 t466 _ A178.out).mono ?_); rintro e w' ⟨rfl, ⟨nd, rfl⟩⟩; (try first | exact ⟨rfl, _, World.drewN_drewN _ _ _⟩ | exact ⟨rfl, _, Eq.trans (World.drewN_drewN _ _ _) (congrArg (World.drewN _) (Nat.add_assoc _ _ _))⟩))); go_upto_region 68 with (first | (go_at_call 19; (with_reducible refine (impl_IsKind.calls kj157 t443 t442 t465 t466 _ A178.out).mono ?_); rintro e w' ⟨rfl, ⟨nd, rfl⟩⟩; (try first | exact ⟨rfl, _, World.drewN_drewN _ _ _⟩ | exact ⟨rfl, _, Eq.trans (World.drewN_drewN _ _ _) (congrArg (World.drewN _) (Nat.add_assoc _ _ _))⟩))))
      (try simp only [Act.put, List.setIfInBounds_toArray, List.set_cons_zero, List.set_cons_succ])
      go_cut [596] from 9999 (fun v596_s wc => ∃ (kq : Nat) (x596_178 : Bool), v596_s = .bool x596_178 ∧ Aside0 (laws_FnKindsTold.j9 kq t441 t442 t443 x596_178 = some r) ∧ Aside0 (kq ≤ kj157) ∧ Aside0 (Below w.heap.size w wc))
      case first =>
       have H := HC179.out
       clear HC179
       by_cases c180 : t443 ≤ t441
       ·
        rw [if_pos c180] at H
        exact absurd H (by simp)
       ·
        rw [if_neg c180] at H
        have c180b0 : decide (t443 ≤ t441) = false := decide_eq_false c180
        clear c180
        (first | rw [c180b0] | (simp only [i64_w, i32_w]; rw [c180b0]) | skip)
        by_cases c181 : t466 = true
        ·
         subst c181
         replace H := (if_pos rfl).symm.trans H
         have H' := Aside0.mk H
         clear H
         go_wp2
         repeat (go_quiet (fail); try go_wp2)
         go_meet
         case rel => exact ⟨_, (!t465), (by first | rfl | (simp; done) | (simp [*]; done)), H', ⟨by have := HJ106.out; have := HJ157.out; first | omega | exact Nat.le_refl _⟩, ⟨by repeat (first | (with_reducible first | exact HB.out | apply below_alloc | apply pw_below_drewN | apply below_drew1) | exact HB.out)⟩⟩
        ·
         replace c181 := Bool.eq_false_iff.mpr c181
         subst c181
         have H1 : (none) = some r := by rw [if_neg (show ¬ (false = true) by decide)] at H; exact H
         clear H
         have H := H1
         clear H1
         exact absurd H (by simp)
      case rest =>
       clear HC179
       (try clear c176); (try clear c177)
       obtain ⟨kq, x596_178, rfl, HA, HJ178, HB⟩ := hcut
       cases kq with
       | zero => exact absurd HA.out (by simp [laws_FnKindsTold.j9])
       | succ kj178 =>
        have H := HA.out
        clear HA
        simp only [laws_FnKindsTold.j9] at H
        by_cases c182 : x596_178 = true
        ·
         subst c182
         replace H := (if_pos rfl).symm.trans H
         exact absurd H (by simp)
        ·
         replace c182 := Bool.eq_false_iff.mpr c182
         subst c182
         have H1 : (laws_FnKindsTold.l3 kj178 t442 t443 (wrap64 (t441 + 1))) = some r := by rw [if_neg (show ¬ (false = true) by decide)] at H; exact H
         clear H
         have H := H1
         clear H1
         have H' := Aside0.mk H
         clear H
         go_wp2
         repeat (go_quiet (fail); try go_wp2)
         go_loopg [78] kj178 (fun kq v78_s w' => ∃ (x78_6 : Int), v78_s = .int .i64 x78_6 ∧ Aside0 (laws_FnKindsTold.l3 kq t442 t443 x78_6 = some r) ∧ Aside0 (kq ≤ kj178) ∧ Aside0 (Below w.heap.size w w'))
         case atStart => exact ⟨(wrap64 (t441 + 1)), (by first | rfl | (simp; done) | (simp [*]; done)), H', ⟨Nat.le_refl _⟩, ⟨by repeat (first | (with_reducible first | exact HB.out | apply below_alloc | apply pw_below_drewN | apply below_drew1) | exact HB.out)⟩⟩
         case round =>
          clear H'
          (try clear c182)
          obtain ⟨x78_6, rfl, HA, HK6, HB⟩ := hrel
          cases gk with
          | zero => exact absurd HA.out (by simp [laws_FnKindsTold.l3])
          | succ k6 =>
           have H := HA.out
           clear HA
           simp only [laws_FnKindsTold.l3] at H
           by_cases c183 : x78_6 < t443
           ·
            rw [if_pos c183] at H
            have c183b0 : decide (x78_6 < t443) = true := decide_eq_true c183
            clear c183
            replace H := Option.bind_eq_some_iff.mp H
            obtain ⟨⟨t467, t468⟩, A1840, H⟩ := H
            (try dsimp only at H)
            have A184 := Aside0.mk A1840
            clear A1840
            by_cases c185 : t468 = true
            ·
             subst c185
             replace H := (if_pos rfl).symm.trans H
             by_cases c186 : t467 = true
             ·
              subst c186
              replace H := (if_pos rfl).symm.trans H
              exact absurd H (by simp)
             ·
              replace c186 := Bool.eq_false_iff.mpr c186
              subst c186
              have H1 : (laws_FnKindsTold.l3 k6 t442 t443 (wrap64 (x78_6 + 1))) = some r := by rw [if_neg (show ¬ (false = true) by decide)] at H; exact H
              clear H
              have H := H1
              clear H1
              have H' := Aside0.mk H
              clear H
              go_wp2_with (first | (go_at_call 19; (with_reducible refine (impl_IsKind.calls k6 x78_6 t442 false true _ A184.out).mono ?_); rintro e w' ⟨rfl, ⟨nd, rfl⟩⟩; (try first | exact ⟨rfl, _, World.drewN_drewN _ _ _⟩ | exact ⟨rfl, _, Eq.trans (World.drewN_drewN _ _ _) (congrArg (World.drewN _) (Nat.add_assoc _ _ _))⟩)))
              repeat (go_quiet (first | (go_at_call 19; (with_reducible refine (impl_IsKind.calls k6 x78_6 t442 false true _ A184.out).mono ?_); rintro e w' ⟨rfl, ⟨nd, rfl⟩⟩; (try first | exact ⟨rfl, _, World.drewN_drewN _ _ _⟩ | exact ⟨rfl, _, Eq.trans (World.drewN_drewN _ _ _) (congrArg (World.drewN _) (Nat.add_assoc _ _ _))⟩))); try go_wp2_with (first | (go_at_call 19; (with_reducible refine (impl_IsKind.calls k6 x78_6 t442 false true _ A184.out).mono ?_); rintro e w' ⟨rfl, ⟨nd, rfl⟩⟩; (try first | exact ⟨rfl, _, World.drewN_drewN _ _ _⟩ | exact ⟨rfl, _, Eq.trans (World.drewN_drewN _ _ _) (congrArg (World.drewN _) (Nat.add_assoc _ _ _))⟩))))
              go_roundg k6
              case measure => have := HJ106.out; have := HJ157.out; have := HJ178.out; have := HK6.out; omega
              case rel => exact ⟨(wrap64 (x78_6 + 1)), (by first | rfl | (simp; done) | (simp [*]; done)), H', ⟨by have := HJ106.out; have := HJ157.out; have := HJ178.out; have := HK6.out; omega⟩, ⟨by repeat (first | (with_reducible first | exact HB.out | apply below_alloc | apply pw_below_drewN | apply below_drew1) | exact HB.out)⟩⟩
            ·
             replace c185 := Bool.eq_false_iff.mpr c185
             subst c185
             have H1 : (none) = some r := by rw [if_neg (show ¬ (false = true) by decide)] at H; exact H
             clear H
             have H := H1
             clear H1
             exact absurd H (by simp)
           ·
            rw [if_neg c183] at H
            have c183b0 : decide (x78_6 < t443) = false := decide_eq_false c183
            clear c183
            obtain rfl := Option.some.inj H
            go_wp2
            repeat (go_quiet (fail); try go_wp2)
            go_ret
            exact ⟨by first | rfl | (simp [errW_none, errW_some] <;> rfl) | (simp [*, errW_none, errW_some] <;> rfl), by repeat (first | (with_reducible first | exact HB.out | apply below_alloc | apply pw_below_drewN | apply below_drew1) | exact HB.out)⟩
     ·
      replace c177 := Bool.eq_false_iff.mpr c177
      subst c177
      have H1 : (some true) = some r := by rw [if_neg (show ¬ (false = true) by decide)] at H; exact H
      clear H
      have H := H1
      clear H1
      obtain rfl := Option.some.inj H
      go_wp2
      repeat (go_quiet (fail); try go_wp2)
      go_ret
      exact ⟨by first | rfl | (simp [errW_none, errW_some] <;> rfl) | (simp [*, errW_none, errW_some] <;> rfl), by repeat (first | (with_reducible first | exact HB.out | apply below_alloc | apply pw_below_drewN | apply below_drew1) | exact HB.out)⟩
end Go.Proofs.Ytmkjopglibgleaa.P
