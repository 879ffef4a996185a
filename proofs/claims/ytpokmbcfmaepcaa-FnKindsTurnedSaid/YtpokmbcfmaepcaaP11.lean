-- Written by drive.py (wip/ of this repository) over the kit's print: functions, contracts, rows. Lean checks it.
import Derived.Test.YtpokmbcfmaepcaaP8
namespace Go.Proofs.Ytpokmbcfmaepcaa.P
open Go.RowKit Go.Proofs.YtpokmbcfmaepcaaW.PrintWords Go.Proofs.YtpokmbcfmaepcaaW.PrintLast Go.Proofs.YtpokmbcfmaepcaaW.PrintMore
attribute [local go_sem] max2_int min2_int max_two min_two max_three min_three max_four min_four undef_guard   -- for this text's walks alone
set_option linter.unusedVariables false
set_option linter.unusedSimpArgs false

set_option maxHeartbeats 800000000 in
set_option maxRecDepth 100000 in
theorem laws_FnKindsTurned.tj12 (HT_j16 : laws_FnKindsTurned.Tj16) : laws_FnKindsTurned.Tj12 := by
 intro kq A0 c0 l0 A1 c1 l1 r w wc t472 t473 t474 t477 t478 t485 t489 t490 t491 t492 t499 t500 t501 t502 t503 kj166 v493 v504 v479 s_0 s_1 s_2 s_3 s_4 s_5 s_6 s_7 s_8 s_9 s_10 s_11 s_12 s_13 s_14 s_15 s_16 s_17 s_18 s_19 s_20 s_21 s_22 s_23 s_24 s_25 s_26 s_27 s_28 s_29 s_30 s_31 s_32 s_33 s_34 s_35 s_36 s_37 s_38 s_39 s_40 s_41 s_42 s_43 s_44 s_45 s_46 s_47 s_51 s_52 s_55 s_56 s_58 s_59 s_60 s_65 s_66 s_72 s_73 s_74 s_75 s_76 s_77 s_78 s_79 s_80 s_81 s_82 s_83 s_84 s_85 s_86 s_87 s_88 s_89 s_90 s_91 s_92 s_93 s_94 s_95 s_96 s_97 s_98 s_99 s_100 s_101 s_102 s_103 s_104 s_105 s_106 s_107 s_108 s_109 s_110 s_111 s_112 s_113 s_114 s_115 s_116 s_117 s_118 s_119 s_120 s_121 s_122 s_123 s_124 s_125 s_126 s_127 s_128 s_129 s_130 s_131 s_132 s_133 s_134 s_135 s_136 s_137 s_138 s_139 s_140 s_141 s_142 s_143 s_144 s_145 s_146 s_147 s_148 s_149 s_150 s_151 s_152 s_153 s_154 s_155 s_156 s_157 s_158 s_159 s_160 s_161 s_162 s_163 s_164 s_165 s_166 s_167 s_168 s_169 s_170 s_171 s_172 s_173 s_174 s_175 s_176 s_177 s_178 s_179 s_180 s_181 s_182 s_183 s_184 s_185 s_186 s_187 s_188 s_189 s_190 s_191 s_192 s_193 s_194 s_195 s_196 s_197 s_198 s_199 s_200 s_201 s_202 s_203 s_204 s_205 s_206 s_207 s_208 s_209 s_210 s_211 s_212 s_213 s_214 s_215 s_216 s_217 s_218 s_219 s_220 s_221 s_222 s_223 s_224 s_225 s_226 s_227 s_228 s_229 s_230 s_231 s_232 s_233 s_234 s_235 s_236 s_237 s_238 s_239 s_240 s_241 s_242 s_243 s_244 s_245 s_246 s_247 s_248 s_249 s_250 s_251 s_252 s_253 s_254 s_255 s_256 s_257 s_258 s_259 s_260 s_261 s_262 s_263 s_264 s_265 s_266 s_267 s_268 s_269 s_270 s_271 s_272 s_273 s_274 s_275 s_276 s_277 s_278 s_279 s_280 s_281 s_282 s_283 s_284 s_285 s_286 s_287 s_288 s_289 s_290 s_291 s_292 s_293 s_294 s_295 s_296 s_297 s_298 s_299 s_300 s_301 s_302 s_303 s_304 s_305 s_306 s_307 s_308 s_309 s_310 s_311 s_312 s_313 s_314 s_315 s_316 s_317 s_318 s_319 s_320 s_321 s_322 s_323 s_324 s_325 s_326 s_327 s_328 s_329 s_330 s_331 s_332 s_333 s_334 s_335 s_336 s_337 s_338 s_339 s_340 s_341 s_342 s_343 s_344 s_345 s_346 s_347 s_348 s_349 s_350 s_351 s_352 s_353 s_354 s_355 s_356 s_357 s_358 s_359 s_360 s_361 s_362 s_363 s_364 s_365 s_366 s_367 s_368 s_369 s_370 s_371 s_372 s_373 s_374 s_375 s_376 s_377 s_378 s_379 s_380 s_381 s_382 s_383 s_384 s_385 s_386 s_387 s_388 s_389 s_390 s_391 s_392 s_393 s_394 s_395 s_396 s_397 s_398 s_399 s_400 s_401 s_402 s_403 s_404 s_405 s_406 s_407 s_408 s_409 s_410 s_411 s_412 s_413 s_414 s_415 s_416 s_417 s_418 s_419 s_420 s_421 s_422 s_423 s_424 s_425 s_426 s_427 s_428 s_429 s_430 s_431 s_432 s_433 s_434 s_435 s_436 s_437 s_438 s_439 s_440 s_441 s_442 s_443 s_444 s_445 s_446 s_447 s_448 s_449 s_450 s_451 s_452 s_453 s_454 s_455 s_456 s_457 s_458 s_459 s_460 s_461 s_462 s_463 s_464 s_465 s_466 s_467 s_468 s_469 s_470 s_471 s_472 s_473 s_474 s_475 s_476 s_477 s_478 s_479 s_480 s_481 s_482 s_483 s_484 s_485 s_486 s_487 s_488 s_489 s_490 s_491 s_492 s_493 s_494 s_495 s_496 s_497 s_498 s_499 s_500 s_501 s_502 s_503 s_504 s_505 s_506 s_507 s_508 s_509 s_510 s_511 s_512 s_513 s_514 s_515 s_516 s_517 s_518 s_519 s_520 s_521 s_522 s_523 s_524 s_525 s_526 s_527 s_528 s_529 s_530 s_531 s_532 s_533 s_534 s_535 s_536 s_537 s_538 s_539 s_540 s_541 s_542 s_543 s_544 s_545 s_546 s_547 s_548 s_549 s_550 s_551 s_552 s_553 s_554 s_555 s_556 s_557 s_558 s_559 s_560 s_561 s_562 s_563 s_564 s_565 s_566 s_567 s_568 s_569 s_570 s_571 s_572 s_573 s_574 s_575 s_576 s_577 s_578 s_579 s_580 s_581 s_582 s_583 s_584 s_585 s_586 s_587 s_588 s_589 s_590 s_591 s_592 s_593 s_594 s_595 s_596 s_597 s_598 s_599 s_600 s_601 s_602 s_603 s_604 s_605 s_606 s_607 s_608 s_609 s_610 s_611 s_612 s_613 s_614 s_615 s_616 s_617 s_618 s_619 s_620 s_621 s_622 s_623 s_624 s_625 s_626 s_627 s_628 s_629 s_630 s_631 s_632 s_633 s_634 s_635 s_636 s_637 s_638 s_639 s_640 s_641 s_642 s_643 s_644 s_645 s_646 c_ hc_ HR0 HC0 HR1 HC1 HA HJ175 HO_53 HO_63 HO_70 HB
 obtain rfl := Option.some.inj ((show some _ = some c_ from hc_))
 cases kq with
 | zero => exact absurd HA.out (by simp [laws_FnKindsTurned.j12])
 | succ kj175 =>
  have H := HA.out
  clear HA
  simp only [laws_FnKindsTurned.j12] at H
  have HC192 := Aside0.mk H
  clear H
  go_upto_region 75 with (fail)
  go_cut [539] from 9999 (fun v539_s wc => ∃ (kq : Nat) (x539_191 : Bool), v539_s = .bool x539_191 ∧ Aside0 (laws_FnKindsTurned.j13 kq t472 t477 t478 t485 t489 t490 t491 t492 t499 t500 t501 t502 t503 x539_191 = some r) ∧ Aside0 (kq ≤ kj175) ∧ Aside0 (Kd.R (Kd.int .i64) 3 wc w.heap.size (fun k_ => some k_ ≠ (v493 : Value).ownBlock ∧ some k_ ≠ (v504 : Value).ownBlock) v479 t477) ∧ Aside0 (Kd.R (Kd.int .i64) 3 wc w.heap.size (fun k_ => some k_ ≠ (v479 : Value).ownBlock ∧ some k_ ≠ (v504 : Value).ownBlock) v493 t491) ∧ Aside0 (Kd.R (Kd.int .i64) 3 wc w.heap.size (fun k_ => some k_ ≠ (v479 : Value).ownBlock ∧ some k_ ≠ (v493 : Value).ownBlock) v504 t502) ∧ Aside0 (Below w.heap.size w wc))
  case first =>
   have H := HC192.out
   clear HC192
   by_cases c193 : t474 = true
   ·
    subst c193
    replace H := (if_pos rfl).symm.trans H
    by_cases c194 : (wrap64 ((wrap64 (t473 * t473)) - t473)) = t472
    ·
     rw [if_pos c194] at H
     have c194b0 : ((wrap64 ((wrap64 (t473 * t473)) - t473)) == t472) = true := beq_iff_eq.mpr c194
     have c194b1 : ((wrap64 ((wrap64 (t473 * t473)) - t473)) != t472) = false := bne_eq_false_iff_eq.mpr c194
     clear c194
     (first | rw [c194b0] | (simp only [i64_w, i32_w]; rw [c194b0]) | skip)
     have H' := Aside0.mk H
     clear H
     go_wp2
     go_meet
     case rel => exact ⟨_, (decide (t473 < 2)), (by first | rfl | (simp; done) | (simp [*]; done)), H', ⟨by have := HJ175.out; first | omega | exact Nat.le_refl _⟩, ⟨by (with_reducible repeat (first | apply Kd.R_alloc | apply Kd.R_drewN | apply Kd.R_drew)); exact HO_53.out⟩, ⟨by (with_reducible repeat (first | apply Kd.R_alloc | apply Kd.R_drewN | apply Kd.R_drew)); exact HO_63.out⟩, ⟨by (with_reducible repeat (first | apply Kd.R_alloc | apply Kd.R_drewN | apply Kd.R_drew)); exact HO_70.out⟩, ⟨by repeat (first | (with_reducible first | exact HB.out | apply below_alloc | apply pw_below_drewN | apply below_drew1) | exact HB.out)⟩⟩
    ·
     rw [if_neg c194] at H
     exact absurd H (by simp)
   ·
    replace c193 := Bool.eq_false_iff.mpr c193
    subst c193
    have H1 : (laws_FnKindsTurned.j13 kj175 t472 t477 t478 t485 t489 t490 t491 t492 t499 t500 t501 t502 t503 false) = some r := by rw [if_neg (show ¬ (false = true) by decide)] at H; exact H
    clear H
    have H := H1
    clear H1
    have H' := Aside0.mk H
    clear H
    go_wp2
    go_meet
    case rel => exact ⟨_, (false), (by first | rfl | (simp; done) | (simp [*]; done)), H', ⟨by have := HJ175.out; first | omega | exact Nat.le_refl _⟩, ⟨by (with_reducible repeat (first | apply Kd.R_alloc | apply Kd.R_drewN | apply Kd.R_drew)); exact HO_53.out⟩, ⟨by (with_reducible repeat (first | apply Kd.R_alloc | apply Kd.R_drewN | apply Kd.R_drew)); exact HO_63.out⟩, ⟨by (with_reducible repeat (first | apply Kd.R_alloc | apply Kd.R_drewN | apply Kd.R_drew)); exact HO_70.out⟩, ⟨by repeat (first | (with_reducible first | exact HB.out | apply below_alloc | apply pw_below_drewN | apply below_drew1) | exact HB.out)⟩⟩
  case rest =>
   clear HC192
   obtain ⟨kq, x539_191, rfl, HA, HJ191, HO_53, HO_63, HO_70, HB⟩ := hcut
   cases kq with
   | zero => exact absurd HA.out (by simp [laws_FnKindsTurned.j13])
   | succ kj191 =>
    have H := HA.out
    clear HA
    simp only [laws_FnKindsTurned.j13] at H
    by_cases c195 : x539_191 = true
    ·
     subst c195
     replace H := (if_pos rfl).symm.trans H
     exact absurd H (by simp)
    ·
     replace c195 := Bool.eq_false_iff.mpr c195
     subst c195
     have H1 : (if t478 = true then ((laws_qRises.f kj191 t477).bind fun t520 => (if t520 = true then (laws_FnKindsTurned.j14 kj191 t472 t477 t489 t490 t491 t492 t499 t500 t501 t502 t503 ((wrap64 (t485 - t472)) != (Int.tmod t472 100))) else (none))) else (laws_FnKindsTurned.j16 kj191 t489 t490 t491 t492 t499 t500 t501 t502 t503)) = some r := by rw [if_neg (show ¬ (false = true) by decide)] at H; exact H
     clear H
     have H := H1
     clear H1
     have HC196 := Aside0.mk H
     clear H
     go_upto_if 540 with (fail)
     go_cut [] from 9999 (fun wc => ∃ (kq : Nat), Aside0 (laws_FnKindsTurned.j16 kq t489 t490 t491 t492 t499 t500 t501 t502 t503 = some r) ∧ Aside0 (kq ≤ kj191) ∧ Aside0 (Kd.R (Kd.int .i64) 3 wc w.heap.size (fun k_ => some k_ ≠ (v504 : Value).ownBlock) v493 t491) ∧ Aside0 (Kd.R (Kd.int .i64) 3 wc w.heap.size (fun k_ => some k_ ≠ (v493 : Value).ownBlock) v504 t502) ∧ Aside0 (Below w.heap.size w wc))
     case first =>
      have H := HC196.out
      clear HC196
      by_cases c197 : t478 = true
      ·
       subst c197
       replace H := (if_pos rfl).symm.trans H
       have HC198 := Aside0.mk H
       clear H
       go_upto_region 78 with (fail)
       go_cut [551] from 9999 (fun v551_s wc => ∃ (kq : Nat) (x551_197 : Bool), v551_s = .bool x551_197 ∧ Aside0 (laws_FnKindsTurned.j14 kq t472 t477 t489 t490 t491 t492 t499 t500 t501 t502 t503 x551_197 = some r) ∧ Aside0 (kq ≤ kj191) ∧ Aside0 (Kd.R (Kd.int .i64) 3 wc w.heap.size (fun k_ => some k_ ≠ (v493 : Value).ownBlock ∧ some k_ ≠ (v504 : Value).ownBlock) v479 t477) ∧ Aside0 (Kd.R (Kd.int .i64) 3 wc w.heap.size (fun k_ => some k_ ≠ (v479 : Value).ownBlock ∧ some k_ ≠ (v504 : Value).ownBlock) v493 t491) ∧ Aside0 (Kd.R (Kd.int .i64) 3 wc w.heap.size (fun k_ => some k_ ≠ (v479 : Value).ownBlock ∧ some k_ ≠ (v493 : Value).ownBlock) v504 t502) ∧ Aside0 (Below w.heap.size w wc))
       case first =>
        have H := HC198.out
        clear HC198
        replace H := Option.bind_eq_some_iff.mp H
        obtain ⟨t520, A1990, H⟩ := H
        (try dsimp only at H)
        have A199 := Aside0.mk A1990
        clear A1990
        by_cases c200 : t520 = true
        ·
         subst c200
         replace H := (if_pos rfl).symm.trans H
         have H' := Aside0.mk H
         clear H
         obtain ⟨Ao201, co201, eo201⟩ := Kd.R_slice HO_53.out
         subst eo201
         go_wp2_with (first | ((with_reducible refine gate_callee (f := 13) rfl ?_); refine goesL_ (some 542) rfl rfl Try.func13 (by kernel_rfl) rfl #[.slice Ao201 t477.length co201] rfl (by (try simp only [List.map_toArray, List.map_cons, List.map_nil]); first | done | rfl | (simp only [List.length_drop, List.length_take]; rfl)) ?_; (with_reducible refine (laws_qRises.calls kj191 _ _ t477 true _ ?side1 ?side2 A199.out).mono ?_); (case side1 => repeat (first | exact (Kd.R_reads' HO_53.out).2.2 | (with_reducible refine Kd.C_alloc ?_ _) | (with_reducible refine Kd.C_drewN ?_ _) | (with_reducible refine Kd.C_drew ?_))); (case side2 => exact (Kd.R_reads' HO_53.out).2.1); rintro e w' ⟨rfl, ⟨nd, rfl⟩⟩; refine ⟨_, rfl, ?_⟩))
         go_meet
         case rel => exact ⟨_, (((wrap64 (t485 - t472)) != (Int.tmod t472 100))), (by first | rfl | (simp; done) | (simp [*]; done)), H', ⟨by have := HJ175.out; have := HJ191.out; first | omega | exact Nat.le_refl _⟩, ⟨by (with_reducible repeat (first | apply Kd.R_alloc | apply Kd.R_drewN | apply Kd.R_drew)); exact HO_53.out⟩, ⟨by (with_reducible repeat (first | apply Kd.R_alloc | apply Kd.R_drewN | apply Kd.R_drew)); exact HO_63.out⟩, ⟨by (with_reducible repeat (first | apply Kd.R_alloc | apply Kd.R_drewN | apply Kd.R_drew)); exact HO_70.out⟩, ⟨by repeat (first | (with_reducible first | exact HB.out | apply below_alloc | apply pw_below_drewN | apply below_drew1) | exact HB.out)⟩⟩
        ·
         replace c200 := Bool.eq_false_iff.mpr c200
         subst c200
         have H1 : (none) = some r := by rw [if_neg (show ¬ (false = true) by decide)] at H; exact H
         clear H
         have H := H1
         clear H1
         exact absurd H (by simp)
       case rest =>
        clear HC198
        (try clear c195); (try clear c197)
        obtain ⟨kq, x551_197, rfl, HA, HJ197, HO_53, HO_63, HO_70, HB⟩ := hcut
        cases kq with
        | zero => exact absurd HA.out (by simp [laws_FnKindsTurned.j14])
        | succ kj197 =>
         have H := HA.out
         clear HA
         simp only [laws_FnKindsTurned.j14] at H
         by_cases c202 : x551_197 = true
         ·
          subst c202
          replace H := (if_pos rfl).symm.trans H
          exact absurd H (by simp)
         ·
          replace c202 := Bool.eq_false_iff.mpr c202
          subst c202
          have H1 : (laws_FnKindsTurned.l4 kj197 t472 t489 t490 t491 t492 t499 t500 t501 t502 t503 t477 (t477.length : Int) 0) = some r := by rw [if_neg (show ¬ (false = true) by decide)] at H; exact H
          clear H
          have H := H1
          clear H1
          have H' := Aside0.mk H
          clear H
          obtain ⟨Ao203, co203, eo203⟩ := Kd.R_slice HO_53.out
          subst eo203
          go_wp2
          go_loopg [554] kj197 (fun kq v554_s w' => ∃ (x554_9 : Int), v554_s = .int .i64 x554_9 ∧ Aside0 (laws_FnKindsTurned.l4 kq t472 t489 t490 t491 t492 t499 t500 t501 t502 t503 t477 (t477.length : Int) x554_9 = some r) ∧ Aside0 (kq ≤ kj197) ∧ Aside0 (Kd.R (Kd.int .i64) 3 w' w.heap.size (fun k_ => some k_ ≠ (v504 : Value).ownBlock ∧ some k_ ≠ ((.slice Ao203 t477.length co203) : Value).ownBlock) v493 t491) ∧ Aside0 (Kd.R (Kd.int .i64) 3 w' w.heap.size (fun k_ => some k_ ≠ (v493 : Value).ownBlock ∧ some k_ ≠ ((.slice Ao203 t477.length co203) : Value).ownBlock) v504 t502) ∧ Aside0 (Kd.R (Kd.int .i64) 3 w' w.heap.size (fun k_ => some k_ ≠ (v493 : Value).ownBlock ∧ some k_ ≠ (v504 : Value).ownBlock) (.slice Ao203 t477.length co203) t477) ∧ Aside0 (Below w.heap.size w w'))
          case atStart => exact ⟨(0), (by first | rfl | (simp; done) | (simp [*]; done)), H', ⟨Nat.le_refl _⟩, ⟨by (with_reducible repeat (first | apply Kd.R_alloc | apply Kd.R_drewN | apply Kd.R_drew)); exact Kd.R_mono HO_63.out (fun _ hk => ⟨hk.2, hk.1⟩)⟩, ⟨by (with_reducible repeat (first | apply Kd.R_alloc | apply Kd.R_drewN | apply Kd.R_drew)); exact Kd.R_mono HO_70.out (fun _ hk => ⟨hk.2, hk.1⟩)⟩, ⟨by (with_reducible repeat (first | apply Kd.R_alloc | apply Kd.R_drewN | apply Kd.R_drew)); exact HO_53.out⟩, ⟨by repeat (first | (with_reducible first | exact HB.out | apply below_alloc | apply pw_below_drewN | apply below_drew1) | exact HB.out)⟩⟩
          case round =>
           clear H'
           (try clear c202)
           obtain ⟨x554_9, rfl, HA, HK9, HO_63, HO_70, HO_552, HB⟩ := hrel
           cases gk with
           | zero => exact absurd HA.out (by simp [laws_FnKindsTurned.l4])
           | succ k9 =>
            have H := HA.out
            clear HA
            simp only [laws_FnKindsTurned.l4] at H
            by_cases c204 : x554_9 < (t477.length : Int)
            ·
             rw [if_pos c204] at H
             have c204b0 : decide (x554_9 < (t477.length : Int)) = true := decide_eq_true c204
             clear c204
             by_cases c205 : 0 ≤ x554_9
             ·
              rw [if_pos c205] at H
              have c205b0 : decide (0 ≤ x554_9) = true := decide_eq_true c205
              clear c205
              by_cases c206 : x554_9 < (t477.length : Int)
              ·
               rw [if_pos c206] at H
               have c206b0 : decide (x554_9 < (t477.length : Int)) = true := decide_eq_true c206
               clear c206
               by_cases c207 : (wrap64 ((rd t477 x554_9) - t472)) = (wrap64 ((wrap64 ((wrap64 ((Int.tmod (rd t477 x554_9) 10) + (Int.tmod (wrap64 (Int.tdiv (rd t477 x554_9) 10)) 10))) + (Int.tmod (wrap64 (Int.tdiv (rd t477 x554_9) 100)) 10))) + (wrap64 (Int.tdiv (rd t477 x554_9) 1000))))
               ·
                rw [if_pos c207] at H
                have c207b0 : ((wrap64 ((rd t477 x554_9) - t472)) == (wrap64 ((wrap64 ((wrap64 ((Int.tmod (rd t477 x554_9) 10) + (Int.tmod (wrap64 (Int.tdiv (rd t477 x554_9) 10)) 10))) + (Int.tmod (wrap64 (Int.tdiv (rd t477 x554_9) 100)) 10))) + (wrap64 (Int.tdiv (rd t477 x554_9) 1000))))) = true := beq_iff_eq.mpr c207
                have c207b1 : ((wrap64 ((rd t477 x554_9) - t472)) != (wrap64 ((wrap64 ((wrap64 ((Int.tmod (rd t477 x554_9) 10) + (Int.tmod (wrap64 (Int.tdiv (rd t477 x554_9) 10)) 10))) + (Int.tmod (wrap64 (Int.tdiv (rd t477 x554_9) 100)) 10))) + (wrap64 (Int.tdiv (rd t477 x554_9) 1000))))) = false := bne_eq_false_iff_eq.mpr c207
                clear c207
                have H' := Aside0.mk H
                clear H
                have p521 : 0 ≤ (x554_9 : Int) := of_decide_eq_true (by first | (with_reducible assumption) | assumption)
                have q521 : x554_9 < (t477.length : Int) := of_decide_eq_true (by first | (with_reducible assumption) | assumption)
                obtain ⟨ad521, e521, hx521_0⟩ := Kd.at_int (Kd.R_reads' HO_552.out).2.2 x554_9 p521 q521
                cases e521
                replace p521 := eq_true p521
                replace q521 := eq_true q521
                go_wp2
                go_roundg k9
                case measure => have := HJ175.out; have := HJ191.out; have := HJ197.out; have := HK9.out; omega
                case rel => exact ⟨(wrap64 (x554_9 + 1)), (by first | rfl | (simp; done) | (simp [*]; done)), H', ⟨by have := HJ175.out; have := HJ191.out; have := HJ197.out; have := HK9.out; omega⟩, ⟨by (with_reducible repeat (first | apply Kd.R_alloc | apply Kd.R_drewN | apply Kd.R_drew)); exact HO_63.out⟩, ⟨by (with_reducible repeat (first | apply Kd.R_alloc | apply Kd.R_drewN | apply Kd.R_drew)); exact HO_70.out⟩, ⟨by (with_reducible repeat (first | apply Kd.R_alloc | apply Kd.R_drewN | apply Kd.R_drew)); exact HO_552.out⟩, ⟨by repeat (first | (with_reducible first | exact HB.out | apply below_alloc | apply pw_below_drewN | apply below_drew1) | exact HB.out)⟩⟩
               ·
                rw [if_neg c207] at H
                exact absurd H (by simp)
              ·
               rw [if_neg c206] at H
               exact absurd H (by simp)
             ·
              rw [if_neg c205] at H
              exact absurd H (by simp)
            ·
             rw [if_neg c204] at H
             have c204b0 : decide (x554_9 < (t477.length : Int)) = false := decide_eq_false c204
             clear c204
             have H' := Aside0.mk H
             clear H
             go_wp2
             go_meet
             case rel => exact ⟨_, H', ⟨by have := HJ175.out; have := HJ191.out; have := HJ197.out; have := HK9.out; first | omega | exact Nat.le_refl _⟩, ⟨by (with_reducible repeat (first | apply Kd.R_alloc | apply Kd.R_drewN | apply Kd.R_drew)); exact Kd.R_mono HO_63.out (fun _ hk => hk.1)⟩, ⟨by (with_reducible repeat (first | apply Kd.R_alloc | apply Kd.R_drewN | apply Kd.R_drew)); exact Kd.R_mono HO_70.out (fun _ hk => hk.1)⟩, ⟨by repeat (first | (with_reducible first | exact HB.out | apply below_alloc | apply pw_below_drewN | apply below_drew1) | exact HB.out)⟩⟩
      ·
       replace c197 := Bool.eq_false_iff.mpr c197
       subst c197
       have H1 : (laws_FnKindsTurned.j16 kj191 t489 t490 t491 t492 t499 t500 t501 t502 t503) = some r := by rw [if_neg (show ¬ (false = true) by decide)] at H; exact H
       clear H
       have H := H1
       clear H1
       have H' := Aside0.mk H
       clear H
       go_wp2
       go_meet
       case rel => exact ⟨_, H', ⟨by have := HJ175.out; have := HJ191.out; first | omega | exact Nat.le_refl _⟩, ⟨by (with_reducible repeat (first | apply Kd.R_alloc | apply Kd.R_drewN | apply Kd.R_drew)); exact Kd.R_mono HO_63.out (fun _ hk => hk.2)⟩, ⟨by (with_reducible repeat (first | apply Kd.R_alloc | apply Kd.R_drewN | apply Kd.R_drew)); exact Kd.R_mono HO_70.out (fun _ hk => hk.2)⟩, ⟨by repeat (first | (with_reducible first | exact HB.out | apply below_alloc | apply pw_below_drewN | apply below_drew1) | exact HB.out)⟩⟩
     case rest =>
      clear HC196
      obtain ⟨kq, HA, HJ195, HO_63, HO_70, HB⟩ := hcut
      go_step
      exact HT_j16 kq A0 c0 l0 A1 c1 l1 r w wc t489 t490 t491 t492 t499 t500 t501 t502 t503 kj191 v504 v493 _ _ _ _ _ _ _ _ _ _ _ _ _ _ _ _ _ _ _ _ _ _ _ _ _ _ _ _ _ _ _ _ _ _ _ _ _ _ _ _ _ _ _ _ _ _ _ _ _ _ _ _ _ _ _ _ _ _ _ _ _ _ _ _ _ _ _ _ _ _ _ _ _ _ _ _ _ _ _ _ _ _ _ _ _ _ _ _ _ _ _ _ _ _ _ _ _ _ _ _ _ _ _ _ _ _ _ _ _ _ _ _ _ _ _ _ _ _ _ _ _ _ _ _ _ _ _ _ _ _ _ _ _ _ _ _ _ _ _ _ _ _ _ _ _ _ _ _ _ _ _ _ _ _ _ _ _ _ _ _ _ _ _ _ _ _ _ _ _ _ _ _ _ _ _ _ _ _ _ _ _ _ _ _ _ _ _ _ _ _ _ _ _ _ _ _ _ _ _ _ _ _ _ _ _ _ _ _ _ _ _ _ _ _ _ _ _ _ _ _ _ _ _ _ _ _ _ _ _ _ _ _ _ _ _ _ _ _ _ _ _ _ _ _ _ _ _ _ _ _ _ _ _ _ _ _ _ _ _ _ _ _ _ _ _ _ _ _ _ _ _ _ _ _ _ _ _ _ _ _ _ _ _ _ _ _ _ _ _ _ _ _ _ _ _ _ _ _ _ _ _ _ _ _ _ _ _ _ _ _ _ _ _ _ _ _ _ _ _ _ _ _ _ _ _ _ _ _ _ _ _ _ _ _ _ _ _ _ _ _ _ _ _ _ _ _ _ _ _ _ _ _ _ _ _ _ _ _ _ _ _ _ _ _ _ _ _ _ _ _ _ _ _ _ _ _ _ _ _ _ _ _ _ _ _ _ _ _ _ _ _ _ _ _ _ _ _ _ _ _ _ _ _ _ _ _ _ _ _ _ _ _ _ _ _ _ _ _ _ _ _ _ _ _ _ _ _ _ _ _ _ _ _ _ _ _ _ _ _ _ _ _ _ _ _ _ _ _ _ _ _ _ _ _ _ _ _ _ _ _ _ _ _ _ _ _ _ _ _ _ _ _ _ _ _ _ _ _ _ _ _ _ _ _ _ _ _ _ _ _ _ _ _ _ _ _ _ _ _ _ _ _ _ _ _ _ _ _ _ _ _ _ _ _ _ _ _ _ _ _ _ _ _ _ _ _ _ _ _ _ _ _ _ _ _ _ _ _ _ _ _ _ _ _ _ _ _ _ _ _ _ _ _ _ _ _ _ _ _ _ _ _ _ _ _ _ _ _ _ _ _ _ _ _ _ _ _ _ _ _ _ _ _ _ _ _ _ _ _ _ _ _ _ _ _ _ _ _ _ _ _ _ _ _ _ _ _ _ _ _ _ _ _ _ _ _ _ _ _ _ _ _ _ _ _ _ _ _ _ _ _ _ _ _ _ _ _ _ _ (by kernel_rfl) HR0 HC0 HR1 HC1 HA HJ195 HO_63 HO_70 HB
end Go.Proofs.Ytpokmbcfmaepcaa.P
