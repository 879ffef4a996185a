-- Written by drive.py (wip/ of this repository) over the kit's print: functions, contracts, rows. Lean checks it. -- SQUEEZED
import Derived.Test.YtcfgkpifloghlaaGreatDoorP0
import Derived.Test.YtcfgkpifloghlaaGreatDoorP1
namespace Go.Proofs.YtcfgkpifloghlaaGreatDoor.P
open Go.RowKit Go.Proofs.YtcfgkpifloghlaaGreatDoorW.PrintWords Go.Proofs.YtcfgkpifloghlaaGreatDoorW.PrintLast Go.Proofs.YtcfgkpifloghlaaGreatDoorW.PrintMore
attribute [local go_sem] max2_int min2_int max_two min_two max_three min_three max_four min_four undef_guard   -- for this text's walks alone
set_option linter.unusedVariables false
set_option linter.unusedSimpArgs false

/-! ### slices_ContainsFunc_int_int: function 98 -/
set_option maxHeartbeats 1000000 in
theorem slices_ContainsFunc.calls (p : Int → Bool) (g : Nat) (lb : Array Value) (eg : ∀ args w, (callFunc g args).run Tryz.prog w = .ok (.enter g args) w) (A0 : Option Addr) (c0 : Nat) (l0 : List Int) (w : World)
  (hp : PredQ Tryz.prog g lb p w) (hr0 : Kd.C (Kd.int .i64) w A0 l0.length l0) (hc0 : l0.length ≤ c0) :
  Calls Tryz.prog 98 #[.slice A0 l0.length c0, .func (.func g) #[] lb] w fun e w' => e = .returned (.bool (l0.any p)) ∧ Drawn0 w w' := by
 have hcon := slices_IndexFunc.calls p g lb eg A0 c0 l0 w hp hr0 hc0
 have hany := idxOf_any p l0 0 (Int.le_refl _)
 clear hp hr0 hc0
 generalize idxOf p l0 0 = r at hcon hany
 generalize l0.any p = b at hany
 have e1 : decide (0 ≤ r) = b := by
  cases b
  ·
   exact decide_eq_false (fun h => by simpa using hany.mp h)
  ·
   exact decide_eq_true (hany.mpr rfl)
 have HE := aM e1
 clear e1 hany
 go_enter Tryz.func98, Tryz.ntmps98
 go_wp2_with (go_at_call 108; refine hcon.mono ?_; rintro e w' ⟨rfl, ⟨nd, rfl⟩⟩)
 go_ret
 exact ⟨by rw [← HE.out]; first | rfl | (simp; done), dQ⟩
/-! ### impl_areBetween_1: function 99 -/
set_option maxHeartbeats 1000000 in
theorem impl_areBetween_lit.calls (lo hi : Int) (b1 b2 : Nat) (w : World) (h1 : b1 < w.heap.size) (h2 : b2 < w.heap.size) (k1 : w.cell? ⟨b1, 0, none⟩ = some (.int .i64 lo)) (k2 : w.cell? ⟨b2, 0, none⟩ = some (.int .i64 hi)) :
  PredQ Tryz.prog 99 #[.pointer (some ⟨b1, 0, none⟩), .pointer (some ⟨b2, 0, none⟩)] (fun x => !decide (lo ≤ x ∧ x ≤ hi)) w := fun W x hb => by
 have c1 : W.cell? ⟨b1, 0, none⟩ = some (.int .i64 lo) := (hb.cell (p := ⟨b1, 0, none⟩) h1).trans k1
 have c2 : W.cell? ⟨b2, 0, none⟩ = some (.int .i64 hi) := (hb.cell (p := ⟨b2, 0, none⟩) h2).trans k2
 clear hb k1 k2 h1 h2
 have hcon := fun W' => impl_between.calls x lo hi (decide (lo ≤ x ∧ x ≤ hi)) W' (by
  unfold impl_between.f
  split
  ·
   rename_i h; simp [h]
  ·
   rename_i h; simp; omega)
 show Calls Tryz.prog 99 #[.int .i64 x, .pointer (some ⟨b1, 0, none⟩), .pointer (some ⟨b2, 0, none⟩)] W fun e w' => e = .returned (.bool (!decide (lo ≤ x ∧ x ≤ hi))) ∧ Drawn0 W w'
 generalize decide (lo ≤ x ∧ x ≤ hi) = b at hcon ⊢
 go_enter Tryz.func99, Tryz.ntmps99
 go_wp2_with (go_at_call 80; refine (hcon _).mono ?_; rintro e w' ⟨rfl, ⟨nd, rfl⟩⟩)
 go_ret
 exact ⟨by first | rfl | simp, dQ⟩

/-! ### impl_areBetween: function 81 -/
def impl_areBetween.f (l0 : List Int) (a1 : Int) (a2 : Int) : Option (Bool) := some (!l0.any fun x => !decide (a1 ≤ x ∧ x ≤ a2))
set_option maxHeartbeats 1000000 in
theorem impl_areBetween.calls (A0 : Option Addr) (c0 : Nat) (l0 : List Int) (a1 : Int) (a2 : Int) (r : Bool) (w : World) (hr0 : Kd.C (Kd.int .i64) w A0 l0.length l0) (hc0 : l0.length ≤ c0) (h : impl_areBetween.f l0 a1 a2 = some r) :
  Calls Tryz.prog 81 #[.slice A0 l0.length c0, .int .i64 a1, .int .i64 a2] w fun e w' => e = .returned (.bool r) ∧ Below w.heap.size w w' := by
 obtain rfl := Option.some.inj h
 have eg : ∀ args w, (callFunc 99 args).run Tryz.prog w = .ok (.enter 99 args) w := enters_of Tryz.func99 (by kernel_rfl) rfl
 have HB := aM (((Below.refl w.heap.size w).alloc (Nat.le_refl _) (.cells #[.int .i64 a1] 3)).alloc (by simp) (.cells #[.int .i64 a2] 3))
 have hcon := slices_ContainsFunc.calls (fun x => !decide (a1 ≤ x ∧ x ≤ a2)) 99 #[.pointer (some ⟨w.heap.size, 0, none⟩), .pointer (some ⟨w.heap.size + 1, 0, none⟩)] eg A0 c0 l0 ((w.alloc (.cells #[.int .i64 a1] 3)).alloc (.cells #[.int .i64 a2] 3))
  (impl_areBetween_lit.calls a1 a2 w.heap.size (w.heap.size + 1) _ (by simp; omega) (by simp) (by simp) (by simp)) (Kd.C_below hr0 HB.out) hc0
 clear hr0 hc0 h
 generalize (l0.any fun x => !decide (a1 ≤ x ∧ x ≤ a2)) = b at hcon
 go_enter Tryz.func81, Tryz.ntmps81
 go_wp2_with (go_at_call 98; refine hcon.mono ?_; rintro e w' ⟨rfl, ⟨nd, rfl⟩⟩)
 go_ret
 exact ⟨rfl, pw_below_drewN HB.out nd⟩

/-! ### impl_AreAges: function 47 -/
def impl_AreAges.f (l0 : List Int) : Option (Bool) := (impl_between.f (l0.length : Int) 1 8).bind fun t171 => (if t171 = true then ((impl_areBetween.f l0 0 120).bind fun t172 => (some t172)) else (some false))
set_option maxHeartbeats 8000000 in
set_option maxRecDepth 100000 in
theorem impl_AreAges.calls (A0 : Option Addr) (c0 : Nat) (l0 : List Int) (r : Bool) (w : World) (hr0 : Kd.C (Kd.int .i64) w A0 l0.length l0) (hc0 : l0.length ≤ c0) (h : impl_AreAges.f l0 = some r) :
  Calls Tryz.prog 47 #[.slice A0 l0.length c0] w fun e w' => e = .returned (.bool r) ∧ Below w.heap.size w w' := by
 have HR0 := aM hr0
 have HC0 := aM hc0
 clear hr0 hc0
 have HB := aM (Below.refl w.heap.size w)
 have H : ((impl_between.f (l0.length : Int) 1 8).bind fun t171 => (if t171 = true then ((impl_areBetween.f l0 0 120).bind fun t172 => (some t172)) else (some false))) = some r := h
 clear h
 replace H := oB H
 obtain ⟨t171, A20, H⟩ := H
 (try dsimp only at H)
 have A2 := aM A20
 clear A20
 by_cases c3 : t171 = true
 ·
  subst c3
  replace H := (if_pos rfl).symm.trans H
  replace H := oB H
  obtain ⟨t172, A40, H⟩ := H
  (try dsimp only at H)
  have A4 := aM A40
  clear A40
  obtain rfl := Option.some.inj H
  go_enter Tryz.func47, Tryz.ntmps47
  go_wp2_with (first | ((with_reducible refine gate_callee (f := 80) rfl ?_); refine gL 5 Tryz.func80 #[.int .i64 (l0.length : Int), .int .i64 1, .int .i64 8] rfl rfl rfl rfl ?_; (with_reducible refine (impl_between.calls (l0.length : Int) 1 8 true _ A2.out).mono ?_); rintro e w' ⟨rfl, ⟨nd, rfl⟩⟩; refine ⟨_, rfl, ?_⟩) | (go_at_call 81; (with_reducible refine (impl_areBetween.calls _ _ l0 0 120 t172 _ ?side1 ?side2 A4.out).mono ?_); (case side1 => exact cQ HR0.out); (case side2 => exact HC0.out); rintro e w5 ⟨rfl, hb⟩; replace HB := aM (bS HB.out hb); (try clear hb)))
  go_ret
  exact ⟨erQ, bE HB.out⟩
 ·
  replace c3 := Bool.eq_false_iff.mpr c3
  subst c3
  have H1 : (some false) = some r := by rw [if_neg (show ¬ (false = true) by decide)] at H; exact H
  clear H
  have H := H1
  clear H1
  obtain rfl := Option.some.inj H
  go_enter Tryz.func47, Tryz.ntmps47
  go_wp2_with (first | ((with_reducible refine gate_callee (f := 80) rfl ?_); refine gL 5 Tryz.func80 #[.int .i64 (l0.length : Int), .int .i64 1, .int .i64 8] rfl rfl rfl rfl ?_; (with_reducible refine (impl_between.calls (l0.length : Int) 1 8 false _ A2.out).mono ?_); rintro e w' ⟨rfl, ⟨nd, rfl⟩⟩; refine ⟨_, rfl, ?_⟩))
  go_ret
  exact ⟨erQ, bE HB.out⟩

/-! ### impl_is: function 48 -/
def impl_is.f (l0 : List Int) (a1 : Int) : Option (Bool) := (impl_between.f a1 0 (wrap64 ((l0.length : Int) - 1))).bind fun t173 => (some t173)
set_option maxHeartbeats 8000000 in
set_option maxRecDepth 100000 in
theorem impl_is.calls (A0 : Option Addr) (c0 : Nat) (l0 : List Int) (a1 : Int) (r : Bool) (w : World) (hr0 : Kd.C (Kd.int .i64) w A0 l0.length l0) (hc0 : l0.length ≤ c0) (h : impl_is.f l0 a1 = some r) :
  Calls Tryz.prog 48 #[.slice A0 l0.length c0, .int .i64 a1] w fun e w' => e = .returned (.bool r) ∧ Drawn0 w w' := by
 have HR0 := aM hr0
 have HC0 := aM hc0
 clear hr0 hc0
 have H : ((impl_between.f a1 0 (wrap64 ((l0.length : Int) - 1))).bind fun t173 => (some t173)) = some r := h
 clear h
 replace H := oB H
 obtain ⟨t173, A30, H⟩ := H
 (try dsimp only at H)
 have A3 := aM A30
 clear A30
 obtain rfl := Option.some.inj H
 go_enter Tryz.func48, Tryz.ntmps48
 go_wp2_with (first | ((with_reducible refine gate_callee (f := 80) rfl ?_); refine gL 9 Tryz.func80 #[.int .i64 a1, .int .i64 0, .int .i64 (wrap64 ((l0.length : Int) - 1))] rfl rfl rfl rfl ?_; (with_reducible refine (impl_between.calls a1 0 (wrap64 ((l0.length : Int) - 1)) t173 _ A3.out).mono ?_); rintro e w' ⟨rfl, ⟨nd, rfl⟩⟩; refine ⟨_, rfl, ?_⟩))
 go_ret
 exact ⟨by first | rfl | (simp; done) | (simp [*]; done), dQ⟩

/-! ### impl_areTwo: function 42 -/
def impl_areTwo.f (l0 : List Int) (a1 : Int) (a2 : Int) : Option (Bool) := (impl_AreAges.f l0).bind fun t174 => (if t174 = true then ((impl_is.f l0 a1).bind fun t175 => (if t175 = true then ((impl_is.f l0 a2).bind fun t176 => (if t176 = true then (some (a1 != a2)) else (some false))) else (some false))) else (some false))
set_option maxHeartbeats 8000000 in
set_option maxRecDepth 100000 in
theorem impl_areTwo.calls (A0 : Option Addr) (c0 : Nat) (l0 : List Int) (a1 : Int) (a2 : Int) (r : Bool) (w : World) (hr0 : Kd.C (Kd.int .i64) w A0 l0.length l0) (hc0 : l0.length ≤ c0) (h : impl_areTwo.f l0 a1 a2 = some r) :
  Calls Tryz.prog 42 #[.slice A0 l0.length c0, .int .i64 a1, .int .i64 a2] w fun e w' => e = .returned (.bool r) ∧ Below w.heap.size w w' := by
 have HR0 := aM hr0
 have HC0 := aM hc0
 clear hr0 hc0
 have HB := aM (Below.refl w.heap.size w)
 have H : ((impl_AreAges.f l0).bind fun t174 => (if t174 = true then ((impl_is.f l0 a1).bind fun t175 => (if t175 = true then ((impl_is.f l0 a2).bind fun t176 => (if t176 = true then (some (a1 != a2)) else (some false))) else (some false))) else (some false))) = some r := h
 clear h
 replace H := oB H
 obtain ⟨t174, A40, H⟩ := H
 (try dsimp only at H)
 have A4 := aM A40
 clear A40
 by_cases c5 : t174 = true
 ·
  subst c5
  replace H := (if_pos rfl).symm.trans H
  replace H := oB H
  obtain ⟨t175, A60, H⟩ := H
  (try dsimp only at H)
  have A6 := aM A60
  clear A60
  by_cases c7 : t175 = true
  ·
   subst c7
   replace H := (if_pos rfl).symm.trans H
   replace H := oB H
   obtain ⟨t176, A80, H⟩ := H
   (try dsimp only at H)
   have A8 := aM A80
   clear A80
   by_cases c9 : t176 = true
   case pos =>
    subst c9
    replace H := (if_pos rfl).symm.trans H
    obtain rfl := Option.some.inj H
    go_enter Tryz.func42, Tryz.ntmps42
    go_wp2_with (first | ((with_reducible refine gate_callee (f := 47) rfl ?_); refine gL 8 Tryz.func47 #[.slice A0 l0.length c0] rfl rfl rfl rfl ?_; (with_reducible refine (impl_AreAges.calls _ _ l0 true _ ?side1 ?side2 A4.out).mono ?_); (case side1 => exact cQ HR0.out); (case side2 => exact HC0.out); rintro e w10 ⟨rfl, hb⟩; refine ⟨_, rfl, ?_⟩; replace HB := aM (bS HB.out hb); (try clear hb)) | (go_at_call 48; (with_reducible refine (impl_is.calls _ _ l0 a1 true _ ?side1 ?side2 A6.out).mono ?_); (case side1 => exact cQ (Kd.C_below HR0.out HB.out)); (case side2 => exact HC0.out); rintro e w' ⟨rfl, ⟨nd, rfl⟩⟩) | (go_at_call 48; (with_reducible refine (impl_is.calls _ _ l0 a2 true _ ?side1 ?side2 A8.out).mono ?_); (case side1 => repeat (first | exact (Kd.C_below HR0.out (bE HB.out)) | (with_reducible refine Kd.C_alloc ?_ _) | (with_reducible refine Kd.C_drewN ?_ _) | (with_reducible refine Kd.C_drew ?_))); (case side2 => exact HC0.out); rintro e w' ⟨rfl, ⟨nd, rfl⟩⟩))
    go_ret
    exact ⟨erQ, bE HB.out⟩
   replace c9 := Bool.eq_false_iff.mpr c9
   subst c9
   have H1 : (some false) = some r := by rw [if_neg (show ¬ (false = true) by decide)] at H; exact H
   clear H
   have H := H1
   clear H1
   obtain rfl := Option.some.inj H
   go_enter Tryz.func42, Tryz.ntmps42
   go_wp2_with (first | ((with_reducible refine gate_callee (f := 47) rfl ?_); refine gL 8 Tryz.func47 #[.slice A0 l0.length c0] rfl rfl rfl rfl ?_; (with_reducible refine (impl_AreAges.calls _ _ l0 true _ ?side1 ?side2 A4.out).mono ?_); (case side1 => exact cQ HR0.out); (case side2 => exact HC0.out); rintro e w11 ⟨rfl, hb⟩; refine ⟨_, rfl, ?_⟩; replace HB := aM (bS HB.out hb); (try clear hb)) | (go_at_call 48; (with_reducible refine (impl_is.calls _ _ l0 a1 true _ ?side1 ?side2 A6.out).mono ?_); (case side1 => exact cQ (Kd.C_below HR0.out HB.out)); (case side2 => exact HC0.out); rintro e w' ⟨rfl, ⟨nd, rfl⟩⟩) | (go_at_call 48; (with_reducible refine (impl_is.calls _ _ l0 a2 false _ ?side1 ?side2 A8.out).mono ?_); (case side1 => repeat (first | exact (Kd.C_below HR0.out (bE HB.out)) | (with_reducible refine Kd.C_alloc ?_ _) | (with_reducible refine Kd.C_drewN ?_ _) | (with_reducible refine Kd.C_drew ?_))); (case side2 => exact HC0.out); rintro e w' ⟨rfl, ⟨nd, rfl⟩⟩))
   go_ret
   exact ⟨erQ, bE HB.out⟩
  ·
   replace c7 := Bool.eq_false_iff.mpr c7
   subst c7
   have H1 : (some false) = some r := by rw [if_neg (show ¬ (false = true) by decide)] at H; exact H
   clear H
   have H := H1
   clear H1
   obtain rfl := Option.some.inj H
   go_enter Tryz.func42, Tryz.ntmps42
   go_wp2_with (first | ((with_reducible refine gate_callee (f := 47) rfl ?_); refine gL 8 Tryz.func47 #[.slice A0 l0.length c0] rfl rfl rfl rfl ?_; (with_reducible refine (impl_AreAges.calls _ _ l0 true _ ?side1 ?side2 A4.out).mono ?_); (case side1 => exact cQ HR0.out); (case side2 => exact HC0.out); rintro e w12 ⟨rfl, hb⟩; refine ⟨_, rfl, ?_⟩; replace HB := aM (bS HB.out hb); (try clear hb)) | (go_at_call 48; (with_reducible refine (impl_is.calls _ _ l0 a1 false _ ?side1 ?side2 A6.out).mono ?_); (case side1 => exact cQ (Kd.C_below HR0.out HB.out)); (case side2 => exact HC0.out); rintro e w' ⟨rfl, ⟨nd, rfl⟩⟩))
   go_ret
   exact ⟨erQ, bE HB.out⟩
 ·
  replace c5 := Bool.eq_false_iff.mpr c5
  subst c5
  have H1 : (some false) = some r := by rw [if_neg (show ¬ (false = true) by decide)] at H; exact H
  clear H
  have H := H1
  clear H1
  obtain rfl := Option.some.inj H
  go_enter Tryz.func42, Tryz.ntmps42
  go_wp2_with (first | ((with_reducible refine gate_callee (f := 47) rfl ?_); refine gL 8 Tryz.func47 #[.slice A0 l0.length c0] rfl rfl rfl rfl ?_; (with_reducible refine (impl_AreAges.calls _ _ l0 false _ ?side1 ?side2 A4.out).mono ?_); (case side1 => exact cQ HR0.out); (case side2 => exact HC0.out); rintro e w13 ⟨rfl, hb⟩; refine ⟨_, rfl, ?_⟩; replace HB := aM (bS HB.out hb); (try clear hb)))
  go_ret
  exact ⟨erQ, bE HB.out⟩

/-! ### impl_inYears: function 60 -/
def impl_inYears.l0 : Nat → Int → List Int → List Int → Int → Int → Option (List Int)
 | 0, _, _, _, _, _ => none
 | k + 1, x1, x5, x9, x10, x11 => if x11 < x10 then (if 0 ≤ x11 then (if x11 < (x9.length : Int) then (if x5.length < 17592186044416 then (impl_inYears.l0 k x1 (x5 ++ [wrap64 ((rd x9 x11) + x1)]) x9 x10 (wrap64 (x11 + 1))) else (none)) else (none)) else (none)) else (some x5)
def impl_inYears.f (k : Nat) (l0 : List Int) (a1 : Int) : Option (List Int) := impl_inYears.l0 k a1 (([] : List Int)) l0 (l0.length : Int) 0
theorem impl_inYears.mono_l : ∀ k, (∀ y0 y1 y2 y3 y4, LeO (impl_inYears.l0 k y0 y1 y2 y3 y4) (impl_inYears.l0 (k + 1) y0 y1 y2 y3 y4))
 | 0 => fun _ _ _ _ _ r h => by simp [impl_inYears.l0] at h
 | k + 1 => by
  have ih0 := impl_inYears.mono_l k
  ·
   intro y0 y1 y2 y3 y4
   unfold impl_inYears.l0
   repeat' first
   | (with_reducible exact ih0 _ _ _ _ _)
   | (with_reducible exact LeO.refl _)
   | (with_reducible exact LeO.none _)
   | (with_reducible refine LeO.ite ?_ ?_)
   | (with_reducible refine LeO.bind ?_ (fun _ => ?_))
theorem impl_inYears.mono : ∀ a0 a1 k, LeO (impl_inYears.f k a0 a1) (impl_inYears.f (k + 1) a0 a1) := by
 intro a0 a1 k
 have ih0 := impl_inYears.mono_l k
 unfold impl_inYears.f
 repeat' first
   | (with_reducible exact ih0 _ _ _ _ _)
   | (with_reducible exact LeO.refl _)
   | (with_reducible exact LeO.none _)
   | (with_reducible refine LeO.ite ?_ ?_)
   | (with_reducible refine LeO.bind ?_ (fun _ => ?_))
set_option maxHeartbeats 8000000 in
set_option maxRecDepth 100000 in
theorem impl_inYears.calls (k : Nat) (A0 : Option Addr) (c0 : Nat) (l0 : List Int) (a1 : Int) (r : List Int) (w : World) (hr0 : Kd.C (Kd.int .i64) w A0 l0.length l0) (hc0 : l0.length ≤ c0) (h : impl_inYears.f k l0 a1 = some r) :
  Calls Tryz.prog 60 #[.slice A0 l0.length c0, .int .i64 a1] w fun e w' => ∃ v0_ : Value, e = .returned (v0_) ∧ Kd.R (Kd.int .i64) 3 w' w.heap.size (fun _ => True) v0_ r ∧ Below w.heap.size w w' := by
 have HR0 := aM hr0
 have HC0 := aM hc0
 clear hr0 hc0
 have HB := aM (Below.refl w.heap.size w)
 have H : (impl_inYears.l0 k a1 (([] : List Int)) l0 (l0.length : Int) 0) = some r := h
 clear h
 obtain ⟨y177, hy177⟩ : ∃ y_ : List Int, y_ = (([] : List Int)) := ⟨_, rfl⟩
 replace H : (impl_inYears.l0 k a1 y177 l0 (l0.length : Int) 0) = some r := by first | (rw [hy177]; with_reducible exact H) | (have H2_ := (Option.bind_some _ _).symm.trans H; rw [hy177]; with_reducible exact H2_) | (have H2_ := (Option.bind_some _ _).symm.trans H; with_reducible exact H2_) | with_reducible exact H | (rw [hy177]; exact H) | exact H
 have Ny177 := aM hy177
 clear hy177
 have H' := aM H
 clear H
 go_enter Tryz.func60, Tryz.ntmps60
 go_wp2_with (first | ((with_reducible refine gate_dst (N := 8) rfl ?_); refine Kd.R_lit (Kd.int .i64) _ 3 ?hg (N := 8) ?hd (xs := ([] : List Int)) (inner := []) (ok := fun _ => True) (okp := fun _ => True) ?hr ?hp (fun _ hk => hk) trivial (Below.refl _ _) (Nat.le_refl _) (by simp) ?_; (case hd => rfl); (case hg => rfl); (case hr => first | (go_simp; done) | (go_simp; rfl)); (case hp => exact (Reps.none _ _)); intro v178 w3 ho4 hb hg_ hnew_; clear hg_ hnew_; (first | rw [← Ny177.out] at ho4 | (simp only [Int.reduceToNat] at ho4; rw [← Ny177.out] at ho4)); have HO179 := aM (Kd.R_lower ho4 (bZ HB.out)); replace HB := aM (bS HB.out hb); clear hb ho4))
 go_loopg [5, 11] k (fun kq v5 v11 w' => ∃ (x5_1 : List Int) (x11_1 : Int), v11 = .int .i64 x11_1 ∧ Aside0 (impl_inYears.l0 kq a1 x5_1 l0 (l0.length : Int) x11_1 = some r) ∧ Aside0 (kq ≤ k) ∧ Aside0 (Kd.R (Kd.int .i64) 3 w' w.heap.size (fun _ => True) v5 x5_1) ∧ Aside0 (Below w.heap.size w w'))
 case atStart => exact ⟨(y177), (0), eqQ, H', ⟨Nat.le_refl _⟩, ⟨rQ HO179.out⟩, ⟨bE HB.out⟩⟩
 case round =>
  clear H'
  try clear p2
  obtain ⟨x5_1, x11_1, rfl, HA, HK1, HO_5, HB⟩ := hrel
  cases gk with
  | zero => exact absurd HA.out (by simp [impl_inYears.l0])
  | succ k1 =>
   have H := HA.out
   clear HA
   simp only [impl_inYears.l0] at H
   by_cases c5 : x11_1 < (l0.length : Int)
   case neg =>
    rw [if_neg c5] at H
    have c5b0 : decide (x11_1 < (l0.length : Int)) = false := decide_eq_false c5
    clear c5
    obtain rfl := Option.some.inj H
    go_wp2
    go_ret
    exact ⟨_, erQ, rQ HO_5.out, bE HB.out⟩

   rw [if_pos c5] at H
   have c5b0 : decide (x11_1 < (l0.length : Int)) = true := decide_eq_true c5
   clear c5
   by_cases c6 : 0 ≤ x11_1
   case neg =>
    rw [if_neg c6] at H
    exact nS H
   rw [if_pos c6] at H
   have c6b0 : decide (0 ≤ x11_1) = true := decide_eq_true c6
   clear c6
   by_cases c7 : x11_1 < (l0.length : Int)
   case neg =>
    rw [if_neg c7] at H
    exact nS H
   rw [if_pos c7] at H
   have c7b0 : decide (x11_1 < (l0.length : Int)) = true := decide_eq_true c7
   clear c7
   by_cases c8 : x5_1.length < 17592186044416
   case neg =>
    rw [if_neg c8] at H
    exact nS H
   rw [if_pos c8] at H
   have LMc8 := aM c8
   clear c8
   obtain ⟨y181, hy181⟩ : ∃ y_ : List Int, y_ = (x5_1 ++ [wrap64 ((rd l0 x11_1) + a1)]) := ⟨_, rfl⟩
   replace H : (impl_inYears.l0 k1 a1 y181 l0 (l0.length : Int) (wrap64 (x11_1 + 1))) = some r := by first | (rw [hy181]; with_reducible exact H) | (have H2_ := (Option.bind_some _ _).symm.trans H; rw [hy181]; with_reducible exact H2_) | (have H2_ := (Option.bind_some _ _).symm.trans H; with_reducible exact H2_) | with_reducible exact H | (rw [hy181]; exact H) | exact H
   have Ny181 := aM hy181
   clear hy181
   have H' := aM H
   clear H
   have p180 : 0 ≤ (x11_1 : Int) := dA
   have q180 : x11_1 < (l0.length : Int) := dA
   obtain ⟨ad180, e180, hx180_0⟩ := Kd.at_int HR0.out x11_1 p180 q180
   cases e180
   replace hx180_0 := (HB.out.cell (World.block_lt_of_cell? w _ hx180_0)).trans hx180_0
   replace p180 := eq_true p180
   replace q180 := eq_true q180
   go_wp2_with (first | ((with_reducible refine gate_builtin (b := .append) (xs := #[.tmp 15, .tmp 19]) rfl ?_); at_builtin; refine Kd.R_append (Kd.int .i64) (w0 := w) w.heap.size rfl (.tmp 15) (.tmp 19) 24 3 (.int .i64 0) 8 rfl Tryz.underlying24 info3 rfl (by decide) (by omega) u5 x5_1 (wrap64 ((rd l0 x11_1) + a1)) [.int .i64 (wrap64 ((rd l0 x11_1) + a1))] (fun _ => True) (fun _ => False) rfl rfl ?aP (fun _ hk => hk.elim) ?aF ?aO ?aB ?aS ?aL ?_; (case aP => exact rfl); (case aB => exact (bE HB.out)); (case aF => exact (fun _ _ => trivial)); (case aO => exact (rQ HO_5.out)); (case aS => exact (bZ HB.out)); (case aL => have := LMc8.out; omega); intro v182 w9 ho hb hg hat; rw [← Ny181.out] at ho; replace HB := aM (hb); have HO183 := aM (ho); clear HO_5; clear ho hb hg hat))
   go_roundg k1
   case measure => have := HK1.out; omega
   case rel => exact ⟨(y181), (wrap64 (x11_1 + 1)), eqQ, H', ⟨by have := HK1.out; omega⟩, ⟨rQ HO183.out⟩, ⟨bE HB.out⟩⟩
/-! ### slices_Min_int_int: function 96 -/
/-- The least of a number and those behind it. -/
def minFrom : List Int → Int → Int
 | [], m => m
 | x :: xs, m => minFrom xs (if x < m then x else m)
def slices_Min_int_int.f (l0 : List Int) : Option (Int) := if 0 < l0.length then some (minFrom (l0.drop 1) (rd l0 0)) else none
set_option maxHeartbeats 1000000 in
theorem slices_Min_int_int.calls (A0 : Option Addr) (c0 : Nat) (l0 : List Int) (r : Int) (w : World) (hr0 : Kd.C (Kd.int .i64) w A0 l0.length l0) (hc0 : l0.length ≤ c0) (h : slices_Min_int_int.f l0 = some r) :
  Calls Tryz.prog 96 #[.slice A0 l0.length c0] w fun e w' => e = .returned (.int .i64 r) ∧ Drawn0 w w' := by
 unfold slices_Min_int_int.f at h
 have hpos : 0 < l0.length := by
  by_cases q : 0 < l0.length
  case pos =>
   exact q
  rw [if_neg q] at h; cases h
 rw [if_pos hpos] at h
 have hr := Option.some.inj h
 clear h
 have HRr := aM hr
 clear hr
 have HR0 := aM hr0
 have HC0 := aM hc0
 have HN : l0.length ≤ 9223372036854775807 := (Kd.reads_of_C (enc := Value.int .i64) (d := (0 : Int)) (h1 := fun _ => rfl) hr0).2.1
 clear hr0 hc0
 obtain ⟨ad, e104, hx104⟩ := Kd.at_int HR0.out 0 (by omega) (by omega)
 cases e104
 have hx0 : w.cell? ad = some (.int .i64 (rd l0 0)) := by
  have := hx104
  rw [show ((0 : Int)).toNat = 0 from rfl, Addr.add_zero'] at this
  exact this
 clear hx104
 have c1b0 : decide ((l0.length : Int) < 1) = false := decide_eq_false (by omega)
 have p0 := eq_true (show (0 : Int) < (l0.length : Int) by omega)
 generalize hm : rd l0 0 = m0 at hx0
 have HM := aM hm
 clear hm
 go_enter Tryz.func96, Tryz.ntmps96
 go_wp2
 go_loopg [3, 4] l0.length (fun gg s3 s4 wr => ∃ (kk : Nat) (m : Int), 1 ≤ kk ∧ kk ≤ l0.length ∧ l0.length - kk ≤ gg ∧ s3 = .int .i64 m ∧ s4 = .int .i64 kk ∧ Drawn0 w wr ∧ Aside0 (minFrom (l0.drop kk) m = r))
 case atStart => exact ⟨1, m0, Nat.le_refl _, by omega, by omega, rfl, rfl, dQ, ⟨by rw [← HM.out]; exact HRr.out⟩⟩
 case round =>
  obtain ⟨kk, m, hk1, hkk, hg, rfl, rfl, ⟨m1, rfl⟩, HA⟩ := hrel
  by_cases hlt : kk < l0.length
  ·
   have c3b0 : decide ((kk : Int) < (l0.length : Int)) = true := decide_eq_true (by omega)
   have hdrop : l0.drop kk = rd l0 kk :: l0.drop (kk + 1) := by
    rw [List.drop_eq_getElem_cons hlt]
    simp [rd, List.getD_eq_getElem?_getD, List.getElem?_eq_getElem hlt]
   obtain ⟨ad', e104, hx104⟩ := Kd.at_int HR0.out (kk : Int) (by omega) (by omega)
   cases e104
   rw [Int.toNat_natCast] at hx104
   have p104 := eq_true (show 0 ≤ (kk : Int) by omega)
   have q104 := eq_true (show (kk : Int) < (l0.length : Int) by omega)
   generalize hy : rd l0 kk = y at hdrop hx104
   clear hy
   have HD := aM hdrop
   clear hdrop
   by_cases hc : y < m
   ·
    have hcb : decide (y < m) = true := decide_eq_true hc
    have HCc := aM hc
    have hc' := eq_true hc
    clear hc
    go_wp2
    go_roundg (l0.length - (kk + 1))
    case measure => omega
    case rel =>
     refine ⟨kk + 1, y, by omega, by omega, by omega, by first | rfl | (simp; done) | (simp [*]; done), by go_num, dQ, ⟨?_⟩⟩
     have h2 := HA.out
     rw [HD.out] at h2
     simp only [minFrom] at h2
     rw [if_pos (by have := HCc.out; omega)] at h2
     exact h2
   ·
    have hcb : decide (y < m) = false := decide_eq_false hc
    have HCc := aM hc
    have hc' := eq_false hc
    clear hc
    go_wp2
    go_roundg (l0.length - (kk + 1))
    case measure => omega
    case rel =>
     refine ⟨kk + 1, m, by omega, by omega, by omega, by first | rfl | (simp; done) | (simp [*]; done), by go_num, dQ, ⟨?_⟩⟩
     have h2 := HA.out
     rw [HD.out] at h2
     simp only [minFrom] at h2
     rw [if_neg (by have := HCc.out; omega)] at h2
     exact h2
  ·
   have c3b0 : decide ((kk : Int) < (l0.length : Int)) = false := decide_eq_false (by omega)
   have hltz : ¬ (kk : Int) < (l0.length : Int) := by omega
   go_wp2
   go_ret
   refine ⟨?_, dQ⟩
   have h2 := HA.out
   rw [List.drop_of_length_le (by omega)] at h2
   simp only [minFrom] at h2
   rw [← h2]; first | rfl | (simp; done)

/-! ### slices_Max_int_int: function 97 -/
/-- The greatest of a number and those behind it. -/
def maxFrom : List Int → Int → Int
 | [], m => m
 | x :: xs, m => maxFrom xs (if m < x then x else m)
def slices_Max_int_int.f (l0 : List Int) : Option (Int) := if 0 < l0.length then some (maxFrom (l0.drop 1) (rd l0 0)) else none
set_option maxHeartbeats 1000000 in
theorem slices_Max_int_int.calls (A0 : Option Addr) (c0 : Nat) (l0 : List Int) (r : Int) (w : World) (hr0 : Kd.C (Kd.int .i64) w A0 l0.length l0) (hc0 : l0.length ≤ c0) (h : slices_Max_int_int.f l0 = some r) :
  Calls Tryz.prog 97 #[.slice A0 l0.length c0] w fun e w' => e = .returned (.int .i64 r) ∧ Drawn0 w w' := by
 unfold slices_Max_int_int.f at h
 have hpos : 0 < l0.length := by
  by_cases q : 0 < l0.length
  case pos =>
   exact q
  rw [if_neg q] at h; cases h
 rw [if_pos hpos] at h
 have hr := Option.some.inj h
 clear h
 have HRr := aM hr
 clear hr
 have HR0 := aM hr0
 have HC0 := aM hc0
 have HN : l0.length ≤ 9223372036854775807 := (Kd.reads_of_C (enc := Value.int .i64) (d := (0 : Int)) (h1 := fun _ => rfl) hr0).2.1
 clear hr0 hc0
 obtain ⟨ad, e104, hx104⟩ := Kd.at_int HR0.out 0 (by omega) (by omega)
 cases e104
 have hx0 : w.cell? ad = some (.int .i64 (rd l0 0)) := by
  have := hx104
  rw [show ((0 : Int)).toNat = 0 from rfl, Addr.add_zero'] at this
  exact this
 clear hx104
 have c1b0 : decide ((l0.length : Int) < 1) = false := decide_eq_false (by omega)
 have p0 := eq_true (show (0 : Int) < (l0.length : Int) by omega)
 generalize hm : rd l0 0 = m0 at hx0
 have HM := aM hm
 clear hm
 go_enter Tryz.func97, Tryz.ntmps97
 go_wp2
 go_loopg [3, 4] l0.length (fun gg s3 s4 wr => ∃ (kk : Nat) (m : Int), 1 ≤ kk ∧ kk ≤ l0.length ∧ l0.length - kk ≤ gg ∧ s3 = .int .i64 m ∧ s4 = .int .i64 kk ∧ Drawn0 w wr ∧ Aside0 (maxFrom (l0.drop kk) m = r))
 case atStart => exact ⟨1, m0, Nat.le_refl _, by omega, by omega, rfl, rfl, dQ, ⟨by rw [← HM.out]; exact HRr.out⟩⟩
 case round =>
  obtain ⟨kk, m, hk1, hkk, hg, rfl, rfl, ⟨m1, rfl⟩, HA⟩ := hrel
  by_cases hlt : kk < l0.length
  ·
   have c3b0 : decide ((kk : Int) < (l0.length : Int)) = true := decide_eq_true (by omega)
   have hdrop : l0.drop kk = rd l0 kk :: l0.drop (kk + 1) := by
    rw [List.drop_eq_getElem_cons hlt]
    simp [rd, List.getD_eq_getElem?_getD, List.getElem?_eq_getElem hlt]
   obtain ⟨ad', e104, hx104⟩ := Kd.at_int HR0.out (kk : Int) (by omega) (by omega)
   cases e104
   rw [Int.toNat_natCast] at hx104
   have p104 := eq_true (show 0 ≤ (kk : Int) by omega)
   have q104 := eq_true (show (kk : Int) < (l0.length : Int) by omega)
   generalize hy : rd l0 kk = y at hdrop hx104
   clear hy
   have HD := aM hdrop
   clear hdrop
   by_cases hc : m < y
   ·
    have hcb : decide (m < y) = true := decide_eq_true hc
    have HCc := aM hc
    have hc' := eq_true hc
    clear hc
    go_wp2
    go_roundg (l0.length - (kk + 1))
    case measure => omega
    case rel =>
     refine ⟨kk + 1, y, by omega, by omega, by omega, by first | rfl | (simp; done) | (simp [*]; done), by go_num, dQ, ⟨?_⟩⟩
     have h2 := HA.out
     rw [HD.out] at h2
     simp only [maxFrom] at h2
     rw [if_pos (by have := HCc.out; omega)] at h2
     exact h2
   ·
    have hcb : decide (m < y) = false := decide_eq_false hc
    have HCc := aM hc
    have hc' := eq_false hc
    clear hc
    go_wp2
    go_roundg (l0.length - (kk + 1))
    case measure => omega
    case rel =>
     refine ⟨kk + 1, m, by omega, by omega, by omega, by first | rfl | (simp; done) | (simp [*]; done), by go_num, dQ, ⟨?_⟩⟩
     have h2 := HA.out
     rw [HD.out] at h2
     simp only [maxFrom] at h2
     rw [if_neg (by have := HCc.out; omega)] at h2
     exact h2
  ·
   have c3b0 : decide ((kk : Int) < (l0.length : Int)) = false := decide_eq_false (by omega)
   have hltz : ¬ (kk : Int) < (l0.length : Int) := by omega
   go_wp2
   go_ret
   refine ⟨?_, dQ⟩
   have h2 := HA.out
   rw [List.drop_of_length_le (by omega)] at h2
   simp only [maxFrom] at h2
   rw [← h2]; first | rfl | (simp; done)

/-! ### impl_fitYears: function 79 -/
def impl_fitYears.f (l0 : List Int) : Option (Int × Int) := (slices_Min_int_int.f l0).bind fun t184 => ((slices_Max_int_int.f l0).bind fun t185 => (some (wrap64 (-t184), wrap64 (120 - t185))))
set_option maxHeartbeats 8000000 in
set_option maxRecDepth 100000 in
theorem impl_fitYears.calls (A0 : Option Addr) (c0 : Nat) (l0 : List Int) (r1 : Int) (r2 : Int) (w : World) (hr0 : Kd.C (Kd.int .i64) w A0 l0.length l0) (hc0 : l0.length ≤ c0) (h : impl_fitYears.f l0 = some (r1, r2)) :
  Calls Tryz.prog 79 #[.slice A0 l0.length c0] w fun e w' => e = .returned (.tuple #[.int .i64 r1, .int .i64 r2]) ∧ Drawn0 w w' := by
 have HR0 := aM hr0
 have HC0 := aM hc0
 clear hr0 hc0
 have H : ((slices_Min_int_int.f l0).bind fun t184 => ((slices_Max_int_int.f l0).bind fun t185 => (some (wrap64 (-t184), wrap64 (120 - t185))))) = some (r1, r2) := h
 clear h
 replace H := oB H
 obtain ⟨t184, A20, H⟩ := H
 (try dsimp only at H)
 have A2 := aM A20
 clear A20
 replace H := oB H
 obtain ⟨t185, A30, H⟩ := H
 (try dsimp only at H)
 have A3 := aM A30
 clear A30
 simp only [Option.some.injEq, Prod.mk.injEq] at H
 obtain ⟨rfl, rfl⟩ := H
 go_enter Tryz.func79, Tryz.ntmps79
 go_wp2_with (first | ((with_reducible refine gate_callee (f := 96) rfl ?_); refine gL 5 Tryz.func96 #[.slice A0 l0.length c0] rfl rfl rfl rfl ?_; (with_reducible refine (slices_Min_int_int.calls _ _ l0 t184 _ ?side1 ?side2 A2.out).mono ?_); (case side1 => exact cQ HR0.out); (case side2 => exact HC0.out); rintro e w' ⟨rfl, ⟨nd, rfl⟩⟩; refine ⟨_, rfl, ?_⟩) | ((with_reducible refine gate_callee (f := 97) rfl ?_); refine gL 8 Tryz.func97 #[.slice A0 l0.length c0] rfl rfl rfl rfl ?_; (with_reducible refine (slices_Max_int_int.calls _ _ l0 t185 _ ?side1 ?side2 A3.out).mono ?_); (case side1 => exact cQ HR0.out); (case side2 => exact HC0.out); rintro e w' ⟨rfl, ⟨nd, rfl⟩⟩; refine ⟨_, rfl, ?_⟩))
 go_ret2
 exact ⟨by first | rfl | (simp; done) | (simp [*]; done), dQ⟩

/-! ### impl_allYears: function 43 -/
/-- What is asked of a function value that looks at a list: in every later world it tells what p tells; it may lay memory. -/
def PredL (P : Program) (g : Nat) (lb : Array Value) (p : Nat → List Int → Option Bool) (w : World) : Prop :=
 ∀ (W : World) (A : Option Addr) (c : Nat) (m : List Int) (k : Nat) (b : Bool), Below w.heap.size w W → Kd.C (Kd.int .i64) W A m.length m → m.length ≤ c → p k m = some b →
  Calls P g (#[.slice A m.length c] ++ lb) W fun e w' => e = .returned (.bool b) ∧ Below W.heap.size W w'
def MonoP (p : Nat → List Int → Option Bool) : Prop := ∀ m k, LeO (p k m) (p (k + 1) m)
def allY.l0 (p : Nat → List Int → Option Bool) : Nat → List Int → List Int → Int → Int → Option (List Int)
 | 0, _, _, _, _ => none
 | k + 1, l, acc, hi, y => if y ≤ hi then (impl_inYears.f k l y).bind fun m => (p k m).bind fun b => if b = true then (if acc.length < 17592186044416 then allY.l0 p k l (acc ++ [y]) hi (wrap64 (y + 1)) else none) else allY.l0 p k l acc hi (wrap64 (y + 1)) else some acc
def allY.f (p : Nat → List Int → Option Bool) (k : Nat) (l : List Int) : Option (List Int) := (impl_fitYears.f l).bind fun q => allY.l0 p k l [] q.2 q.1
theorem allY.mono_l (p : Nat → List Int → Option Bool) (hp : MonoP p) (l : List Int) (hi : Int) : ∀ k acc y, LeO (allY.l0 p k l acc hi y) (allY.l0 p (k + 1) l acc hi y)
 | 0, _, y => LeO.none _
 | k + 1, acc, y => by
  rw [allY.l0, allY.l0]
  exact LeO.ite (LeO.bind (impl_inYears.mono _ _ _) fun m => LeO.bind (hp _ _) fun b => LeO.ite (LeO.ite (allY.mono_l p hp l hi k _ _) (LeO.refl _)) (allY.mono_l p hp l hi k _ _)) (LeO.refl _)
theorem allY.mono (p : Nat → List Int → Option Bool) (hp : MonoP p) (l : List Int) (k : Nat) : LeO (allY.f p k l) (allY.f p (k + 1) l) :=
 LeO.bind (LeO.refl _) fun q => allY.mono_l p hp l q.2 k [] q.1
/-- allYears where the function value keeps a state of its own and tells false: I holds of the state in each world; what is but made leaves it. -/
def allYS.l0 {α : Type} (step : Nat → List Int → α → Option α) : Nat → List Int → α → Int → Int → Option α
 | 0, _, _, _, _ => none
 | k + 1, l, s, hi, y => if y ≤ hi then (impl_inYears.f k l y).bind fun m => (step k m s).bind fun s2 => allYS.l0 step k l s2 hi (wrap64 (y + 1)) else some s
def allYS.f {α : Type} (step : Nat → List Int → α → Option α) (k : Nat) (l : List Int) (s : α) : Option α := (impl_fitYears.f l).bind fun q => allYS.l0 step k l s q.2 q.1
set_option maxHeartbeats 4000000 in
set_option maxRecDepth 100000 in
theorem impl_allYearsS.calls {α : Type} (I : World → α → Prop) (step : Nat → List Int → α → Option α) (g : Nat) (lb : Array Value) (k : Nat) (A0 : Option Addr) (c0 : Nat) (l0 : List Int) (s r : α) (w0 w : World)
  (hIb : ∀ (W W' : World) (s : α), I W s → Below W.heap.size W W' → I W' s)
  (hp : ∀ (W : World) (A : Option Addr) (c : Nat) (m : List Int) (k : Nat) (s s' : α), Below w0.heap.size w0 W → I W s → Kd.C (Kd.int .i64) W A m.length m → m.length ≤ c → step k m s = some s' →
   Calls Tryz.prog g (#[.slice A m.length c] ++ lb) W fun e w' => e = .returned (.bool false) ∧ I w' s' ∧ Below w0.heap.size w0 w')
  (eg : ∀ args w, (callFunc g args).run Tryz.prog w = .ok (.enter g args) w) (hr0 : Kd.C (Kd.int .i64) w0 A0 l0.length l0) (hc0 : l0.length ≤ c0) (hB : Below w0.heap.size w0 w) (hI : I w s) (h : allYS.f step k l0 s = some r) :
  Calls Tryz.prog 43 #[.slice A0 l0.length c0, .func (.func g) #[] lb] w fun e w' => (∃ v0_ : Value, e = .returned (v0_)) ∧ I w' r ∧ Below w0.heap.size w0 w' := by
 have HP := aM hp
 have HIB := aM hIb
 have HR0 := aM hr0
 have HC0 := aM hc0
 have HB := aM hB
 have HI := aM hI
 clear hp hIb hr0 hc0 hB hI
 have H : ((impl_fitYears.f l0).bind fun q => allYS.l0 step k l0 s q.2 q.1) = some r := h
 clear h
 replace H := oB H
 obtain ⟨⟨lo, hi⟩, A20, H⟩ := H
 have A2 := aM A20
 have H' := aM (show allYS.l0 step k l0 s hi lo = some r from H)
 clear A20 H
 go_enter Tryz.func43, Tryz.ntmps43
 go_wp2_with (first | ((with_reducible refine gate_dst (N := 9) rfl ?_); refine Kd.R_lit (Kd.int .i64) _ 3 ?hg (N := 9) ?hd (xs := ([] : List Int)) (inner := []) (ok := fun _ => True) (okp := fun _ => True) ?hr ?hp (fun _ hk => hk) trivial (Below.refl _ _) (Nat.le_refl _) (by simp) ?_; (case hd => rfl); (case hg => rfl); (case hr => first | (go_simp; done) | (go_simp; rfl)); (case hp => exact (Reps.none _ _)); intro v145 w3 ho4 hb hg_ hnew_; clear hg_ hnew_ ho4; replace HI := aM (HIB.out _ _ _ HI.out hb); replace HB := aM (below_step HB.out hb); clear hb) | ((with_reducible refine gate_callee (f := 79) rfl ?_); refine goesL_ _ rfl rfl Tryz.func79 (by kernel_rfl) rfl #[.slice A0 l0.length c0] rfl (by (try simp only [List.map_toArray, List.map_cons, List.map_nil]); first | done | rfl) ?_; (with_reducible refine (impl_fitYears.calls _ _ l0 lo hi _ (Kd.C_below HR0.out HB.out) HC0.out A2.out).mono ?_); rintro e w' ⟨rfl, ⟨nd, rfl⟩⟩; refine ⟨_, rfl, ?_⟩; replace HI := aM (HIB.out _ _ _ HI.out (pw_below_drewN (Below.refl _ _) nd)); replace HB := aM (pw_below_drewN HB.out nd)))
 go_loopg [5, 8] k (fun kq _ v8 wr => ∃ (s1 : α) (y : Int), v8 = .int .i64 y ∧ Aside0 (allYS.l0 step kq l0 s1 hi y = some r) ∧ Aside0 (kq ≤ k) ∧ Aside0 (I wr s1) ∧ Aside0 (Below w0.heap.size w0 wr))
 case atStart => exact ⟨s, lo, rfl, H', ⟨Nat.le_refl _⟩, HI, HB⟩
 case round =>
  clear H' HI HB
  obtain ⟨s1, y, rfl, HA, HK1, HI, HB⟩ := hrel
  cases gk with
  | zero => exact absurd HA.out (by simp [allYS.l0])
  | succ k1 =>
   have H := HA.out
   clear HA
   simp only [allYS.l0] at H
   by_cases c3 : y ≤ hi
   case neg =>
    rw [if_neg c3] at H
    have c3b0 : decide (y ≤ hi) = false := decide_eq_false c3
    clear c3
    obtain rfl := Option.some.inj H
    go_wp2
    go_ret
    exact ⟨⟨_, rfl⟩, HI.out, HB.out⟩

   rw [if_pos c3] at H
   have c3b0 : decide (y ≤ hi) = true := decide_eq_true c3
   clear c3
   replace H := oB H
   obtain ⟨m, A30, H⟩ := H
   have A3 := aM A30
   replace H := oB H
   obtain ⟨s2, A40, H⟩ := H
   have A4 := aM A40
   have HE := aM (show allYS.l0 step k1 l0 s2 hi (wrap64 (y + 1)) = some r from H)
   clear A30 A40 H
   go_wp2_with (first | (go_at_call 60; (with_reducible refine (impl_inYears.calls k1 _ _ l0 y m _ (Kd.C_below HR0.out HB.out) HC0.out A3.out).mono ?_); rintro e w1 ⟨v1, rfl, ho, hb⟩; obtain ⟨A1, c1, rfl, hc1, hC1⟩ := Kd.R_reads ho; have HC1 := aM hc1; have HR1 := aM hC1; clear hc1 hC1 ho; replace HI := aM (HIB.out _ _ _ HI.out hb); replace HB := aM (below_step HB.out hb); clear hb) | ((with_reducible refine (HP.out _ _ _ m k1 s1 s2 HB.out HI.out HR1.out HC1.out A4.out).mono ?_); rintro e w2 ⟨rfl, hi2, hb⟩; clear HI HB; have HI := aM hi2; have HB := aM hb; clear hi2 hb))
   go_roundg k1
   case measure => have := HK1.out; omega
   case rel => exact ⟨s2, wrap64 (y + 1), by first | rfl | (simp; done), HE, ⟨by have := HK1.out; omega⟩, HI, HB⟩
end Go.Proofs.YtcfgkpifloghlaaGreatDoor.P
