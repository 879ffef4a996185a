-- Written by drive.py (wip/ of this repository) over the kit's print: functions, contracts, rows. Lean checks it. -- SQUEEZED
import Derived.Test.YtcfgkpifloghlaaGreatDoorP0
import Derived.Test.YtcfgkpifloghlaaGreatDoorP1
import Derived.Test.YtcfgkpifloghlaaGreatDoorP2
import Derived.Test.YtcfgkpifloghlaaGreatDoorP8
namespace Go.Proofs.YtcfgkpifloghlaaGreatDoor.P
open Go.RowKit Go.Proofs.YtcfgkpifloghlaaGreatDoorW.PrintWords Go.Proofs.YtcfgkpifloghlaaGreatDoorW.PrintLast Go.Proofs.YtcfgkpifloghlaaGreatDoorW.PrintMore
attribute [local go_sem] max2_int min2_int max_two min_two max_three min_three max_four min_four undef_guard   -- for this text's walks alone
set_option linter.unusedVariables false
set_option linter.unusedSimpArgs false

/-! ### impl_isFit: function 59 -/
def impl_isFit.f (l0 : List Int) (a1 : Int) : Option (Bool) := (impl_fitYears.f l0).bind fun bt364 => ((impl_between.f a1 bt364.1 bt364.2).bind fun t366 => (some t366))
set_option maxHeartbeats 8000000 in
set_option maxRecDepth 100000 in
theorem impl_isFit.calls (A0 : Option Addr) (c0 : Nat) (l0 : List Int) (a1 : Int) (r : Bool) (w : World) (hr0 : Kd.C (Kd.int .i64) w A0 l0.length l0) (hc0 : l0.length ≤ c0) (h : impl_isFit.f l0 a1 = some r) :
  Calls Tryz.prog 59 #[.slice A0 l0.length c0, .int .i64 a1] w fun e w' => e = .returned (.bool r) ∧ Drawn0 w w' := by
 have HR0 := aM hr0
 have HC0 := aM hc0
 clear hr0 hc0
 have H : ((impl_fitYears.f l0).bind fun bt364 => ((impl_between.f a1 bt364.1 bt364.2).bind fun t366 => (some t366))) = some r := h
 clear h
 replace H := oB H
 obtain ⟨⟨t364, t365⟩, A30, H⟩ := H
 (try dsimp only at H)
 have A3 := aM A30
 clear A30
 replace H := oB H
 obtain ⟨t366, A40, H⟩ := H
 (try dsimp only at H)
 have A4 := aM A40
 clear A40
 obtain rfl := Option.some.inj H
 go_enter Tryz.func59, Tryz.ntmps59
 go_wp2_with (first | ((with_reducible refine gate_callee (f := 79) rfl ?_); refine gL 9 Tryz.func79 #[.slice A0 l0.length c0] rfl rfl rfl rfl ?_; (with_reducible refine (impl_fitYears.calls _ _ l0 t364 t365 _ ?side1 ?side2 A3.out).mono ?_); (case side1 => exact cQ HR0.out); (case side2 => exact HC0.out); rintro e w' ⟨rfl, ⟨nd, rfl⟩⟩; refine ⟨_, rfl, ?_⟩) | ((with_reducible refine gate_callee (f := 80) rfl ?_); refine gL 15 Tryz.func80 #[.int .i64 a1, .int .i64 t364, .int .i64 t365] rfl rfl rfl rfl ?_; (with_reducible refine (impl_between.calls a1 t364 t365 t366 _ A4.out).mono ?_); rintro e w' ⟨rfl, ⟨nd, rfl⟩⟩; refine ⟨_, rfl, ?_⟩))
 go_ret
 exact ⟨by first | rfl | (simp; done) | (simp [*]; done), dQ⟩

/-! ### impl_AgesIn: function 22 -/
def impl_AgesIn.f (k : Nat) (l0 : List Int) (a1 : Int) : Option (List Int × Bool) := (impl_AreAges.f l0).bind fun t367 => (if t367 = true then ((impl_isFit.f l0 a1).bind fun t368 => (if t368 = true then ((impl_inYears.f k l0 a1).bind fun t369 => (some (t369, true))) else (some (([] : List Int), false)))) else (some (([] : List Int), false)))
theorem impl_AgesIn.mono : ∀ a0 a1 k, LeO (impl_AgesIn.f k a0 a1) (impl_AgesIn.f (k + 1) a0 a1) := by
 intro a0 a1 k
 unfold impl_AgesIn.f
 repeat' first
   | (with_reducible exact impl_inYears.mono _ _ _)
   | (with_reducible exact LeO.refl _)
   | (with_reducible exact LeO.none _)
   | (with_reducible refine LeO.ite ?_ ?_)
   | (with_reducible refine LeO.bind ?_ (fun _ => ?_))
set_option maxHeartbeats 8000000 in
set_option maxRecDepth 100000 in
theorem impl_AgesIn.calls (k : Nat) (A0 : Option Addr) (c0 : Nat) (l0 : List Int) (a1 : Int) (r1 : List Int) (r2 : Bool) (w : World) (hr0 : Kd.C (Kd.int .i64) w A0 l0.length l0) (hc0 : l0.length ≤ c0) (h : impl_AgesIn.f k l0 a1 = some (r1, r2)) :
  Calls Tryz.prog 22 #[.slice A0 l0.length c0, .int .i64 a1] w fun e w' => ∃ v0_ : Value, e = .returned (.tuple #[v0_, .bool r2]) ∧ Kd.R (Kd.int .i64) 3 w' w.heap.size (fun _ => True) v0_ r1 ∧ Below w.heap.size w w' := by
 have HR0 := aM hr0
 have HC0 := aM hc0
 clear hr0 hc0
 have HB := aM (Below.refl w.heap.size w)
 have H : ((impl_AreAges.f l0).bind fun t367 => (if t367 = true then ((impl_isFit.f l0 a1).bind fun t368 => (if t368 = true then ((impl_inYears.f k l0 a1).bind fun t369 => (some (t369, true))) else (some (([] : List Int), false)))) else (some (([] : List Int), false)))) = some (r1, r2) := h
 clear h
 replace H := oB H
 obtain ⟨t367, A30, H⟩ := H
 (try dsimp only at H)
 have A3 := aM A30
 clear A30
 by_cases c4 : t367 = true
 ·
  subst c4
  replace H := (if_pos rfl).symm.trans H
  replace H := oB H
  obtain ⟨t368, A50, H⟩ := H
  (try dsimp only at H)
  have A5 := aM A50
  clear A50
  by_cases c6 : t368 = true
  ·
   subst c6
   replace H := (if_pos rfl).symm.trans H
   replace H := oB H
   obtain ⟨t369, A70, H⟩ := H
   (try dsimp only at H)
   have A7 := aM A70
   clear A70
   simp only [Option.some.injEq, Prod.mk.injEq] at H
   obtain ⟨rfl, rfl⟩ := H
   go_enter Tryz.func22, Tryz.ntmps22
   go_wp2_with (first | ((with_reducible refine gate_callee (f := 47) rfl ?_); refine gL 7 Tryz.func47 #[.slice A0 l0.length c0] rfl rfl rfl rfl ?_; (with_reducible refine (impl_AreAges.calls _ _ l0 true _ ?side1 ?side2 A3.out).mono ?_); (case side1 => exact cQ HR0.out); (case side2 => exact HC0.out); rintro e w8 ⟨rfl, hb⟩; refine ⟨_, rfl, ?_⟩; replace HB := aM (bS HB.out hb); (try clear hb)) | (go_at_call 59; (with_reducible refine (impl_isFit.calls _ _ l0 a1 true _ ?side1 ?side2 A5.out).mono ?_); (case side1 => exact cQ (Kd.C_below HR0.out HB.out)); (case side2 => exact HC0.out); rintro e w' ⟨rfl, ⟨nd, rfl⟩⟩) | ((with_reducible refine gate_callee (f := 60) rfl ?_); refine gL 17 Tryz.func60 #[.slice A0 l0.length c0, .int .i64 a1] rfl rfl rfl rfl ?_; (with_reducible refine (impl_inYears.calls k _ _ l0 a1 t369 _ ?side1 ?side2 A7.out).mono ?_); (case side1 => repeat (first | exact (Kd.C_below HR0.out (bE HB.out)) | (with_reducible refine Kd.C_alloc ?_ _) | (with_reducible refine Kd.C_drewN ?_ _) | (with_reducible refine Kd.C_drew ?_))); (case side2 => exact HC0.out); rintro e w9 ⟨v370, rfl, ho0, hb⟩; refine ⟨_, rfl, ?_⟩; have HO371 := aM (Kd.R_lower ho0 (bZ HB.out)); replace HB := aM (bS HB.out hb); (try clear hb ho0)))
   go_ret2
   exact ⟨_, erQ, rQ HO371.out, bE HB.out⟩
  ·
   replace c6 := Bool.eq_false_iff.mpr c6
   subst c6
   have H1 : (some (([] : List Int), false)) = some (r1, r2) := by rw [if_neg (show ¬ (false = true) by decide)] at H; exact H
   clear H
   have H := H1
   clear H1
   simp only [Option.some.injEq, Prod.mk.injEq] at H
   obtain ⟨rfl, rfl⟩ := H
   go_enter Tryz.func22, Tryz.ntmps22
   go_wp2_with (first | ((with_reducible refine gate_callee (f := 47) rfl ?_); refine gL 7 Tryz.func47 #[.slice A0 l0.length c0] rfl rfl rfl rfl ?_; (with_reducible refine (impl_AreAges.calls _ _ l0 true _ ?side1 ?side2 A3.out).mono ?_); (case side1 => exact cQ HR0.out); (case side2 => exact HC0.out); rintro e w10 ⟨rfl, hb⟩; refine ⟨_, rfl, ?_⟩; replace HB := aM (bS HB.out hb); (try clear hb)) | (go_at_call 59; (with_reducible refine (impl_isFit.calls _ _ l0 a1 false _ ?side1 ?side2 A5.out).mono ?_); (case side1 => exact cQ (Kd.C_below HR0.out HB.out)); (case side2 => exact HC0.out); rintro e w' ⟨rfl, ⟨nd, rfl⟩⟩))
   go_ret2
   exact ⟨_, erQ, by first | exact Kd.R_nil _ _ _ _ _ | exact Kd.N_nil _ _ _ _ _ | exact Kd.V_nil _ _ _ _ _ | exact Kd.Q_nil _ _ _ _ _ | exact Kd.S_nil _ _ _ _ _, bE HB.out⟩
 ·
  replace c4 := Bool.eq_false_iff.mpr c4
  subst c4
  have H1 : (some (([] : List Int), false)) = some (r1, r2) := by rw [if_neg (show ¬ (false = true) by decide)] at H; exact H
  clear H
  have H := H1
  clear H1
  simp only [Option.some.injEq, Prod.mk.injEq] at H
  obtain ⟨rfl, rfl⟩ := H
  go_enter Tryz.func22, Tryz.ntmps22
  go_wp2_with (first | ((with_reducible refine gate_callee (f := 47) rfl ?_); refine gL 7 Tryz.func47 #[.slice A0 l0.length c0] rfl rfl rfl rfl ?_; (with_reducible refine (impl_AreAges.calls _ _ l0 false _ ?side1 ?side2 A3.out).mono ?_); (case side1 => exact cQ HR0.out); (case side2 => exact HC0.out); rintro e w11 ⟨rfl, hb⟩; refine ⟨_, rfl, ?_⟩; replace HB := aM (bS HB.out hb); (try clear hb)))
  go_ret2
  exact ⟨_, erQ, by first | exact Kd.R_nil _ _ _ _ _ | exact Kd.N_nil _ _ _ _ _ | exact Kd.V_nil _ _ _ _ _ | exact Kd.Q_nil _ _ _ _ _ | exact Kd.S_nil _ _ _ _ _, bE HB.out⟩

/-! ### impl_firstYears: function 61 -/
def firstY.l0 (p : Nat → List Int → Option Bool) : Nat → List Int → Int → Int → Option (Int × Bool)
 | 0, _, _, _ => none
 | k + 1, l, hi, y => if y ≤ hi then (impl_inYears.f k l y).bind fun m => (p k m).bind fun b => if b = true then some (y, true) else firstY.l0 p k l hi (wrap64 (y + 1)) else some (0, false)
def firstY.f (p : Nat → List Int → Option Bool) (k : Nat) (l : List Int) : Option (Int × Bool) := (impl_fitYears.f l).bind fun q => firstY.l0 p k l q.2 q.1
theorem firstY.mono_l (p : Nat → List Int → Option Bool) (hp : MonoP p) (l : List Int) (hi : Int) : ∀ k y, LeO (firstY.l0 p k l hi y) (firstY.l0 p (k + 1) l hi y)
 | 0, y => LeO.none _
 | k + 1, y => by
  rw [firstY.l0, firstY.l0]
  exact LeO.ite (LeO.bind (impl_inYears.mono _ _ _) fun m => LeO.bind (hp _ _) fun b => LeO.ite (LeO.refl _) (firstY.mono_l p hp l hi k _)) (LeO.refl _)
theorem firstY.mono (p : Nat → List Int → Option Bool) (hp : MonoP p) (l : List Int) (k : Nat) : LeO (firstY.f p k l) (firstY.f p (k + 1) l) :=
 LeO.bind (LeO.refl _) fun q => firstY.mono_l p hp l q.2 k q.1
set_option maxHeartbeats 2000000 in
set_option maxRecDepth 100000 in
theorem impl_firstYears.calls (p : Nat → List Int → Option Bool) (g : Nat) (lb : Array Value) (k : Nat) (A0 : Option Addr) (c0 : Nat) (l0 : List Int) (r1 : Int) (r2 : Bool) (w : World)
  (hp : PredL Tryz.prog g lb p w) (eg : ∀ args w, (callFunc g args).run Tryz.prog w = .ok (.enter g args) w) (hr0 : Kd.C (Kd.int .i64) w A0 l0.length l0) (hc0 : l0.length ≤ c0) (h : firstY.f p k l0 = some (r1, r2)) :
  Calls Tryz.prog 61 #[.slice A0 l0.length c0, .func (.func g) #[] lb] w fun e w' => e = .returned (.tuple #[.int .i64 r1, .bool r2]) ∧ Below w.heap.size w w' := by
 have HP := aM (show ∀ (W : World) (A : Option Addr) (c : Nat) (m : List Int) (k : Nat) (b : Bool), Below w.heap.size w W → Kd.C (Kd.int .i64) W A m.length m → m.length ≤ c → p k m = some b →
  Calls Tryz.prog g (#[.slice A m.length c] ++ lb) W fun e w' => e = .returned (.bool b) ∧ Below W.heap.size W w' from hp)
 have HR0 := aM hr0
 have HC0 := aM hc0
 clear hp hr0 hc0
 have H : ((impl_fitYears.f l0).bind fun q => firstY.l0 p k l0 q.2 q.1) = some (r1, r2) := h
 clear h
 replace H := oB H
 obtain ⟨⟨lo, hi⟩, A20, H⟩ := H
 have A2 := aM A20
 have H' := aM (show firstY.l0 p k l0 hi lo = some (r1, r2) from H)
 clear A20 H
 have HB := aM (Below.refl w.heap.size w)
 go_enter Tryz.func61, Tryz.ntmps61
 go_wp2_with ((with_reducible refine gate_callee (f := 79) rfl ?_); refine goesL_ _ rfl rfl Tryz.func79 (by kernel_rfl) rfl #[.slice A0 l0.length c0] rfl (by (try simp only [List.map_toArray, List.map_cons, List.map_nil]); first | done | rfl) ?_; (with_reducible refine (impl_fitYears.calls _ _ l0 lo hi _ HR0.out HC0.out A2.out).mono ?_); rintro e w' ⟨rfl, ⟨nd, rfl⟩⟩; refine ⟨_, rfl, ?_⟩)
 go_loopg [8] k (fun kq v8 wr => ∃ y : Int, v8 = .int .i64 y ∧ Aside0 (firstY.l0 p kq l0 hi y = some (r1, r2)) ∧ Aside0 (kq ≤ k) ∧ Aside0 (Below w.heap.size w wr))
 case atStart => exact ⟨lo, rfl, H', ⟨Nat.le_refl _⟩, ⟨pw_below_drewN HB.out nd⟩⟩
 case round =>
  clear H'
  obtain ⟨y, rfl, HA, HK1, HBr⟩ := hrel
  cases gk with
  | zero => exact absurd HA.out (by simp [firstY.l0])
  | succ k1 =>
   have H := HA.out
   clear HA
   simp only [firstY.l0] at H
   by_cases c3 : y ≤ hi
   ·
    rw [if_pos c3] at H
    have c3b0 : decide (y ≤ hi) = true := decide_eq_true c3
    clear c3
    replace H := oB H
    obtain ⟨m, A30, H⟩ := H
    have A3 := aM A30
    clear A30
    replace H := oB H
    obtain ⟨b, A40, H⟩ := H
    have A4 := aM A40
    clear A40
    cases b with
    | true =>
     have H1 := Option.some.inj ((if_pos rfl).symm.trans H)
     clear H
     have HE := aM H1
     clear H1
     go_wp2_with (first | (go_at_call 60; (with_reducible refine (impl_inYears.calls k1 _ _ l0 y m _ (Kd.C_below HR0.out HBr.out) HC0.out A3.out).mono ?_); rintro e w1 ⟨v1, rfl, ho, hb⟩; obtain ⟨A1, c1, rfl, hc1, hC1⟩ := Kd.R_reads ho; have HC1 := aM hc1; have HR1 := aM hC1; clear hc1 hC1 ho; replace HBr := aM (below_step HBr.out hb); clear hb) | ((with_reducible refine (HP.out _ _ _ m k1 true HBr.out HR1.out HC1.out A4.out).mono ?_); rintro e w2 ⟨rfl, hb⟩; replace HBr := aM (below_step HBr.out hb); clear hb))
     go_ret2
     exact ⟨by have := HE.out; simp only [Prod.mk.injEq] at this; rw [← this.1, ← this.2]; first | rfl | (simp; done), HBr.out⟩
    | false =>
     have H1 : firstY.l0 p k1 l0 hi (wrap64 (y + 1)) = some (r1, r2) := H
     clear H
     have HE := aM H1
     clear H1
     go_wp2_with (first | (go_at_call 60; (with_reducible refine (impl_inYears.calls k1 _ _ l0 y m _ (Kd.C_below HR0.out HBr.out) HC0.out A3.out).mono ?_); rintro e w1 ⟨v1, rfl, ho, hb⟩; obtain ⟨A1, c1, rfl, hc1, hC1⟩ := Kd.R_reads ho; have HC1 := aM hc1; have HR1 := aM hC1; clear hc1 hC1 ho; replace HBr := aM (below_step HBr.out hb); clear hb) | ((with_reducible refine (HP.out _ _ _ m k1 false HBr.out HR1.out HC1.out A4.out).mono ?_); rintro e w2 ⟨rfl, hb⟩; replace HBr := aM (below_step HBr.out hb); clear hb))
     go_roundg k1
     case measure => have := HK1.out; omega
     case rel => exact ⟨wrap64 (y + 1), by first | rfl | (simp; done), HE, ⟨by have := HK1.out; omega⟩, HBr⟩
   ·
    rw [if_neg c3] at H
    have c3b0 : decide (y ≤ hi) = false := decide_eq_false c3
    clear c3
    have HE := aM (Option.some.inj H)
    clear H
    go_wp2
    go_ret2
    exact ⟨by have := HE.out; simp only [Prod.mk.injEq] at this; rw [← this.1, ← this.2]; first | rfl | (simp; done), HBr.out⟩

/-! ### impl_YearsOfMultiple_1: function 62 -/
def impl_YearsOfMultiple_1.p (b' : Int) (a : Int) (t' : Int) (k : Nat) (m : List Int) : Option Bool := if 0 ≤ b' then (if b' < (m.length : Int) then (if rd m b' ≥ 1 then (if 0 ≤ a then (if a < (m.length : Int) then (if Int.tmod (rd m a) (rd m b') = 0 then some (wrap64 (Int.tdiv (rd m a) (rd m b')) == t') else some false) else none) else none) else some false) else none) else none
theorem impl_YearsOfMultiple_1.mono (b' : Int) (a : Int) (t' : Int) : MonoP (impl_YearsOfMultiple_1.p b' a t') := fun m k => LeO.refl _
set_option maxHeartbeats 4000000 in
set_option maxRecDepth 100000 in
theorem impl_YearsOfMultiple_1.calls (b' : Int) (a : Int) (t' : Int) (b1 : Nat) (b2 : Nat) (b3 : Nat) (w : World) (k1 : w.cell? ⟨b1, 0, none⟩ = some (.int .i64 b')) (k2 : w.cell? ⟨b2, 0, none⟩ = some (.int .i64 a)) (k3 : w.cell? ⟨b3, 0, none⟩ = some (.int .i64 t')) : PredL Tryz.prog 62 #[.pointer (some ⟨b1, 0, none⟩), .pointer (some ⟨b2, 0, none⟩), .pointer (some ⟨b3, 0, none⟩)] (impl_YearsOfMultiple_1.p b' a t') w := fun W A c m k b hb hC hc h => by
 have c1 := pw_cell_below hb k1
 have c2 := pw_cell_below hb k2
 have c3 := pw_cell_below hb k3
 have HR0 := aM hC
 have HC0 := aM hc
 clear hb k1 k2 k3 hC hc
 show Calls Tryz.prog 62 #[.slice A m.length c, .pointer (some ⟨b1, 0, none⟩), .pointer (some ⟨b2, 0, none⟩), .pointer (some ⟨b3, 0, none⟩)] W fun e w' => e = .returned (.bool b) ∧ Below W.heap.size W w'
 unfold impl_YearsOfMultiple_1.p at h
 have q1a : 0 ≤ b' := by
  by_cases q : 0 ≤ b'
  case pos =>
   exact q
  rw [if_neg q] at h; cases h
 rw [if_pos q1a] at h
 have q1b : b' < (m.length : Int) := by
  by_cases q : b' < (m.length : Int)
  case pos =>
   exact q
  rw [if_neg q] at h; cases h
 rw [if_pos q1b] at h
 have p1 : 0 ≤ b' := q1a
 have r1 : b' < (m.length : Int) := q1b
 obtain ⟨ad1, e1, hx1⟩ := Kd.at_int HR0.out b' p1 r1
 cases e1
 replace p1 := eq_true p1
 replace r1 := eq_true r1
 by_cases g1 : rd m b' ≥ 1
 ·
  rw [if_pos g1] at h
  have g1b : decide (1 ≤ rd m b') = true := decide_eq_true g1
  have q2a : 0 ≤ a := by
   by_cases q : 0 ≤ a
   case pos =>
    exact q
   rw [if_neg q] at h; cases h
  rw [if_pos q2a] at h
  have q2b : a < (m.length : Int) := by
   by_cases q : a < (m.length : Int)
   case pos =>
    exact q
   rw [if_neg q] at h; cases h
  rw [if_pos q2b] at h
  have p2 : 0 ≤ a := q2a
  have r2 : a < (m.length : Int) := q2b
  obtain ⟨ad2, e2, hx2⟩ := Kd.at_int HR0.out a p2 r2
  cases e2
  replace p2 := eq_true p2
  replace r2 := eq_true r2
  have z0 : ((rd m b') == 0) = false := by rw [beq_eq_false_iff_ne]; omega
  by_cases g2 : Int.tmod (rd m a) (rd m b') = 0
  ·
   rw [if_pos g2] at h
   have g2b : (Int.tmod (rd m a) (rd m b') == 0) = true := beq_iff_eq.mpr g2
   obtain rfl := Option.some.inj h
   clear g2 h
   go_enter Tryz.func62, Tryz.ntmps62
   go_wp2
   go_quiet (fail)
   go_wp2
   go_ret
   exact ⟨by first | rfl | (simp; done) | (simp [*]; done), by repeat (first | exact Below.refl _ _ | apply pw_below_drewN | apply below_drew1)⟩
  ·
   rw [if_neg g2] at h
   have g2b : (Int.tmod (rd m a) (rd m b') == 0) = false := beq_eq_false_iff_ne.mpr g2
   obtain rfl := Option.some.inj h
   clear g2 h
   go_enter Tryz.func62, Tryz.ntmps62
   go_wp2
   go_quiet (fail)
   go_wp2
   go_ret
   exact ⟨by first | rfl | (simp; done) | (simp [*]; done), by repeat (first | exact Below.refl _ _ | apply pw_below_drewN | apply below_drew1)⟩
 ·
  rw [if_neg g1] at h
  have g1b : decide (1 ≤ rd m b') = false := decide_eq_false g1
  obtain rfl := Option.some.inj h
  clear g1 h
  go_enter Tryz.func62, Tryz.ntmps62
  go_wp2
  go_quiet (fail)
  go_wp2
  go_ret
  exact ⟨by first | rfl | (simp; done) | (simp [*]; done), by repeat (first | exact Below.refl _ _ | apply pw_below_drewN | apply below_drew1)⟩

/-! ### impl_YearsOfMultiple: function 23 -/
def impl_YearsOfMultiple.f (k : Nat) (l0 : List Int) (a1 : Int) (a2 : Int) (a3 : Int) : Option (Int × Bool) := (impl_areTwo.f l0 a1 a2).bind fun g0 => if g0 = true then (if a3 < 2 then (some (0, false)) else (firstY.f (impl_YearsOfMultiple_1.p a2 a1 a3) k l0)) else (some (0, false))
theorem impl_YearsOfMultiple.mono : ∀ l0 a1 a2 a3 k, LeO (impl_YearsOfMultiple.f k l0 a1 a2 a3) (impl_YearsOfMultiple.f (k + 1) l0 a1 a2 a3) := fun l0 a1 a2 a3 k => LeO.bind (LeO.refl _) fun _ => LeO.ite (LeO.ite (LeO.refl _) (firstY.mono _ (impl_YearsOfMultiple_1.mono a2 a1 a3) _ _)) (LeO.refl _)
set_option maxHeartbeats 4000000 in
set_option maxRecDepth 100000 in
theorem impl_YearsOfMultiple.calls (k : Nat) (A0 : Option Addr) (c0 : Nat) (l0 : List Int) (a1 : Int) (a2 : Int) (a3 : Int) (r1 : Int) (r2 : Bool) (w : World) (hr0 : Kd.C (Kd.int .i64) w A0 l0.length l0) (hc0 : l0.length ≤ c0) (h : impl_YearsOfMultiple.f k l0 a1 a2 a3 = some (r1, r2)) :
  Calls Tryz.prog 23 #[.slice A0 l0.length c0, .int .i64 a1, .int .i64 a2, .int .i64 a3] w fun e w' => e = .returned (.tuple #[.int .i64 r1, .bool r2]) ∧ Below w.heap.size w w' := by
 have HR0 := aM hr0
 have HC0 := aM hc0
 clear hr0 hc0
 have eg : ∀ args w, (callFunc 62 args).run Tryz.prog w = .ok (.enter 62 args) w := enters_of Tryz.func62 (by kernel_rfl) rfl
 have EG := aM eg
 clear eg
 have HB := aM (show Below w.heap.size w (((w.alloc (.cells #[.int .i64 a1] 3)).alloc (.cells #[.int .i64 a2] 3)).alloc (.cells #[.int .i64 a3] 3)) from (((Below.refl w.heap.size w).alloc (by simp) _).alloc (by simp) _).alloc (by simp; omega) _)
 have c1 : (((w.alloc (.cells #[.int .i64 a1] 3)).alloc (.cells #[.int .i64 a2] 3)).alloc (.cells #[.int .i64 a3] 3)).cell? ⟨w.heap.size, 0, none⟩ = some (.int .i64 a1) := (pw_cell_below ((Below.refl _ _).alloc (Nat.le_refl _) _) (pw_cell_below ((Below.refl _ _).alloc (Nat.le_refl _) _) (show (w.alloc (.cells #[.int .i64 a1] 3)).cell? ⟨w.heap.size, 0, none⟩ = some (.int .i64 a1) from (World.cell?_alloc_at _ _ _ _ (by simp)).trans rfl)))
 have c2 : (((w.alloc (.cells #[.int .i64 a1] 3)).alloc (.cells #[.int .i64 a2] 3)).alloc (.cells #[.int .i64 a3] 3)).cell? ⟨w.heap.size + 1, 0, none⟩ = some (.int .i64 a2) := (pw_cell_below ((Below.refl _ _).alloc (Nat.le_refl _) _) (show ((w.alloc (.cells #[.int .i64 a1] 3)).alloc (.cells #[.int .i64 a2] 3)).cell? ⟨w.heap.size + 1, 0, none⟩ = some (.int .i64 a2) from (World.cell?_alloc_at _ _ _ _ (by simp)).trans rfl))
 have c3 : (((w.alloc (.cells #[.int .i64 a1] 3)).alloc (.cells #[.int .i64 a2] 3)).alloc (.cells #[.int .i64 a3] 3)).cell? ⟨w.heap.size + 1 + 1, 0, none⟩ = some (.int .i64 a3) := (show (((w.alloc (.cells #[.int .i64 a1] 3)).alloc (.cells #[.int .i64 a2] 3)).alloc (.cells #[.int .i64 a3] 3)).cell? ⟨w.heap.size + 1 + 1, 0, none⟩ = some (.int .i64 a3) from (World.cell?_alloc_at _ _ _ _ (by simp)).trans rfl)
 have H := h
 clear h
 unfold impl_YearsOfMultiple.f at H
 replace H := oB H
 obtain ⟨g0, A00, H⟩ := H
 have A0 := aM A00
 clear A00
 cases g0 with
 | false =>
  have HE := aM (Option.some.inj (show some (0, false) = some (r1, r2) from H))
  clear H
  go_enter Tryz.func23, Tryz.ntmps23
  go_wp2_with (first | (go_at_call 42; (with_reducible refine (impl_areTwo.calls _ _ l0 a1 a2 false _ (Kd.C_below HR0.out HB.out) HC0.out A0.out).mono ?_); rintro e w1 ⟨rfl, hb0⟩; have hb := hb0; clear hb0; replace HB := aM (below_step HB.out hb); have c1_ := pw_cell_below hb c1; clear c1; have c1 := c1_; clear c1_; have c2_ := pw_cell_below hb c2; clear c2; have c2 := c2_; clear c2_; have c3_ := pw_cell_below hb c3; clear c3; have c3 := c3_; clear c3_; clear hb))
  go_ret2
  exact ⟨by have := HE.out; simp only [Prod.mk.injEq] at this; rw [← this.1, ← this.2]; first | rfl | (simp; done), HB.out⟩
 | true =>
  replace H := (if_pos rfl).symm.trans H
  by_cases q1 : a3 < 2
  case pos =>
   rw [if_pos q1] at H
   have q1b : decide (a3 < 2) = true := decide_eq_true q1
   have HE := aM (Option.some.inj H)
   clear H q1
   go_enter Tryz.func23, Tryz.ntmps23
   go_wp2_with (first | (go_at_call 42; (with_reducible refine (impl_areTwo.calls _ _ l0 a1 a2 true _ (Kd.C_below HR0.out HB.out) HC0.out A0.out).mono ?_); rintro e w1 ⟨rfl, hb0⟩; have hb := hb0; clear hb0; replace HB := aM (below_step HB.out hb); have c1_ := pw_cell_below hb c1; clear c1; have c1 := c1_; clear c1_; have c2_ := pw_cell_below hb c2; clear c2; have c2 := c2_; clear c2_; have c3_ := pw_cell_below hb c3; clear c3; have c3 := c3_; clear c3_; clear hb))
   go_ret2
   exact ⟨by have := HE.out; simp only [Prod.mk.injEq] at this; rw [← this.1, ← this.2]; first | rfl | (simp; done), HB.out⟩
  rw [if_neg q1] at H
  have q1b : decide (a3 < 2) = false := decide_eq_false q1
  clear q1
  have HE := aM H
  clear H
  go_enter Tryz.func23, Tryz.ntmps23
  go_wp2_with (first | (go_at_call 42; (with_reducible refine (impl_areTwo.calls _ _ l0 a1 a2 true _ (Kd.C_below HR0.out HB.out) HC0.out A0.out).mono ?_); rintro e w1 ⟨rfl, hb0⟩; have hb := hb0; clear hb0; replace HB := aM (below_step HB.out hb); have c1_ := pw_cell_below hb c1; clear c1; have c1 := c1_; clear c1_; have c2_ := pw_cell_below hb c2; clear c2; have c2 := c2_; clear c2_; have c3_ := pw_cell_below hb c3; clear c3; have c3 := c3_; clear c3_; clear hb) | (go_at_call 61; (with_reducible refine (impl_firstYears.calls (impl_YearsOfMultiple_1.p a2 a1 a3) 62 #[.pointer (some ⟨w.heap.size + 1, 0, none⟩), .pointer (some ⟨w.heap.size, 0, none⟩), .pointer (some ⟨w.heap.size + 1 + 1, 0, none⟩)] k _ _ l0 r1 r2 _ (impl_YearsOfMultiple_1.calls a2 a1 a3 _ _ _ _ c2 c1 c3) EG.out (Kd.C_below HR0.out HB.out) HC0.out HE.out).mono ?_); rintro e w1 ⟨rfl, hb⟩; replace HB := aM (below_step HB.out hb); clear hb))
  go_ret2
  exact ⟨by first | rfl | (simp; done), HB.out⟩

/-! ### laws_gLow: function 24 -/
mutual
def laws_gLow.j0 : Nat → Int → Int → Option (Bool)
 | 0, _, _ => none
 | k + 1, x5, x6 => laws_gLow.l0 k x5 x6
def laws_gLow.l0 : Nat → Int → Int → Option (Bool)
 | 0, _, _ => none
 | k + 1, x5, x6 => if x6 > 0 then (if x6 = 0 then (none) else (laws_gLow.l0 k x6 (Int.tmod x5 x6))) else (some (x5 == 1))
end
def laws_gLow.f (k : Nat) (a0 : Int) (a1 : Int) : Option (Bool) := if a1 < 1 then (some false) else (if a0 < 0 then (laws_gLow.j0 k (wrap64 (-a0)) a1) else (laws_gLow.j0 k a0 a1))
theorem laws_gLow.mono_l : ∀ k, (∀ y0 y1, LeO (laws_gLow.j0 k y0 y1) (laws_gLow.j0 (k + 1) y0 y1)) ∧ (∀ y0 y1, LeO (laws_gLow.l0 k y0 y1) (laws_gLow.l0 (k + 1) y0 y1))
 | 0 => ⟨fun _ _ r h => by simp [laws_gLow.j0] at h, fun _ _ r h => by simp [laws_gLow.l0] at h⟩
 | k + 1 => by
  obtain ⟨ih0, ih1⟩ := laws_gLow.mono_l k
  refine ⟨?_, ?_⟩
  ·
   intro y0 y1
   unfold laws_gLow.j0
   repeat' first
   | (with_reducible exact ih0 _ _)
   | (with_reducible exact ih1 _ _)
   | (with_reducible exact LeO.refl _)
   | (with_reducible exact LeO.none _)
   | (with_reducible refine LeO.ite ?_ ?_)
   | (with_reducible refine LeO.bind ?_ (fun _ => ?_))
  ·
   intro y0 y1
   unfold laws_gLow.l0
   repeat' first
   | (with_reducible exact ih0 _ _)
   | (with_reducible exact ih1 _ _)
   | (with_reducible exact LeO.refl _)
   | (with_reducible exact LeO.none _)
   | (with_reducible refine LeO.ite ?_ ?_)
   | (with_reducible refine LeO.bind ?_ (fun _ => ?_))
theorem laws_gLow.mono : ∀ a0 a1 k, LeO (laws_gLow.f k a0 a1) (laws_gLow.f (k + 1) a0 a1) := by
 intro a0 a1 k
 obtain ⟨ih0, ih1⟩ := laws_gLow.mono_l k
 unfold laws_gLow.f
 repeat' first
   | (with_reducible exact ih0 _ _)
   | (with_reducible exact ih1 _ _)
   | (with_reducible exact LeO.refl _)
   | (with_reducible exact LeO.none _)
   | (with_reducible refine LeO.ite ?_ ?_)
   | (with_reducible refine LeO.bind ?_ (fun _ => ?_))
set_option maxHeartbeats 8000000 in
set_option maxRecDepth 100000 in
theorem laws_gLow.calls (k : Nat) (a0 : Int) (a1 : Int) (r : Bool) (w : World) (h : laws_gLow.f k a0 a1 = some r) :
  Calls Tryz.prog 24 #[.int .i64 a0, .int .i64 a1] w fun e w' => e = .returned (.bool r) ∧ Drawn0 w w' := by
 have H : (if a1 < 1 then (some false) else (if a0 < 0 then (laws_gLow.j0 k (wrap64 (-a0)) a1) else (laws_gLow.j0 k a0 a1))) = some r := h
 clear h
 by_cases c3 : a1 < 1
 ·
  rw [if_pos c3] at H
  have c3b0 : decide (a1 < 1) = true := decide_eq_true c3
  clear c3
  obtain rfl := Option.some.inj H
  go_enter Tryz.func24, Tryz.ntmps24
  go_wp2
  repeat (go_quiet (fail); try go_wp2)
  go_ret
  exact ⟨by first | rfl | (simp; done) | (simp [*]; done), dQ⟩
 ·
  rw [if_neg c3] at H
  have c3b0 : decide (a1 < 1) = false := decide_eq_false c3
  clear c3
  have HC4 := aM H
  clear H
  go_enter Tryz.func24, Tryz.ntmps24
  go_upto_if 12 with (fail)
  repeat (go_quiet (fail); go_upto_if 12 with (fail))
  go_cut [5] (fun v5 wc => ∃ (kq : Nat) (x5_3 : Int), v5 = .int .i64 x5_3 ∧ Aside0 (laws_gLow.j0 kq x5_3 a1 = some r) ∧ Aside0 (kq ≤ k) ∧ Drawn0 w wc)
  case first =>
   have H := HC4.out
   clear HC4
   by_cases c5 : a0 < 0
   ·
    rw [if_pos c5] at H
    have c5b0 : decide (a0 < 0) = true := decide_eq_true c5
    clear c5
    (first | rw [c5b0] | (simp only [i64_w, i32_w]; rw [c5b0]) | skip)
    have H' := aM H
    clear H
    go_wp2
    repeat (go_quiet (fail); try go_wp2)
    go_meet
    case rel => exact ⟨_, (wrap64 (-a0)), eqQ, H', ⟨by first | omega | exact Nat.le_refl _⟩, dQ⟩
   ·
    rw [if_neg c5] at H
    have c5b0 : decide (a0 < 0) = false := decide_eq_false c5
    clear c5
    (first | rw [c5b0] | (simp only [i64_w, i32_w]; rw [c5b0]) | skip)
    have H' := aM H
    clear H
    go_wp2
    repeat (go_quiet (fail); try go_wp2)
    go_meet
    case rel => exact ⟨_, (a0), eqQ, H', ⟨by first | omega | exact Nat.le_refl _⟩, dQ⟩
  case rest =>
   clear HC4
   try clear c2
   try clear p2
   try clear c3
   try clear c3b0
   try clear c5
   try clear c5b0
   obtain ⟨kq, x5_3, rfl, HA, HJ3, ⟨mc3, rfl⟩⟩ := hcut
   cases kq with
   | zero => exact absurd HA.out (by simp [laws_gLow.j0])
   | succ kj3 =>
    have H := HA.out
    clear HA
    simp only [laws_gLow.j0] at H
    have H' := aM H
    clear H
    go_wp2
    repeat (go_quiet (fail); try go_wp2)
    go_loopg [5, 6] kj3 (fun kq v5 v6 w' => ∃ (x5_2 : Int) (x6_2 : Int), v5 = .int .i64 x5_2 ∧ v6 = .int .i64 x6_2 ∧ Aside0 (laws_gLow.l0 kq x5_2 x6_2 = some r) ∧ Aside0 (kq ≤ kj3) ∧ Drawn0 w w')
    case atStart => exact ⟨(x5_3), (a1), eqQ, eqQ, H', ⟨Nat.le_refl _⟩, dQ⟩
    case round =>
     clear H'
     try clear c2
     try clear p2
     try clear c3
     try clear c3b0
     try clear c5
     try clear c5b0
     try clear p2
     obtain ⟨x5_2, x6_2, rfl, rfl, HA, HK2, ⟨m2, rfl⟩⟩ := hrel
     cases gk with
     | zero => exact absurd HA.out (by simp [laws_gLow.l0])
     | succ k2 =>
      have H := HA.out
      clear HA
      simp only [laws_gLow.l0] at H
      by_cases c6 : x6_2 > 0
      ·
       rw [if_pos c6] at H
       have c6b0 : decide (0 < x6_2) = true := decide_eq_true c6
       clear c6
       by_cases c7 : x6_2 = 0
       case pos =>
        rw [if_pos c7] at H
        exact nS H
       rw [if_neg c7] at H
       have c7b0 : (x6_2 == 0) = false := beq_eq_false_iff_ne.mpr c7
       have c7b1 : (x6_2 != 0) = true := bne_iff_ne.mpr c7
       have H' := aM H
       clear H
       go_wp2
       repeat (go_quiet (fail); try go_wp2)
       go_roundg k2
       case measure => have := HJ3.out; have := HK2.out; omega
       case rel => exact ⟨(x6_2), (Int.tmod x5_2 x6_2), eqQ, eqQ, H', ⟨by have := HJ3.out; have := HK2.out; omega⟩, dQ⟩
      ·
       rw [if_neg c6] at H
       have c6b0 : decide (0 < x6_2) = false := decide_eq_false c6
       clear c6
       obtain rfl := Option.some.inj H
       go_wp2
       repeat (go_quiet (fail); try go_wp2)
       go_ret
       exact ⟨by first | rfl | (simp; done) | (simp [*]; done), dQ⟩

-- NOT PRINTED: function 126 (utf8_RuneCountInString)

-- NOT PRINTED: function 141 (utf8_decodeRuneInStringSlow)

-- NOT PRINTED: function 127 (utf8_DecodeRuneInString)

-- NOT PRINTED: function 114 (strings_explode)

-- NOT PRINTED: function 151 (bytealg_IndexByteString)

-- NOT PRINTED: function 142 (stringslite_IndexByte)

-- NOT PRINTED: function 143 (bytealg_IndexString)

-- NOT PRINTED: function 144 (bytealg_Cutover)

-- NOT PRINTED: function 152 (bytealg_hashStr_string)

-- NOT PRINTED: function 145 (bytealg_IndexRabinKarp_string)

-- NOT PRINTED: function 129 (stringslite_Index)

-- NOT PRINTED: function 116 (strings_Index)

-- NOT PRINTED: function 128 (bytealg_CountString)

-- NOT PRINTED: function 115 (strings_Count)

-- NOT PRINTED: function 105 (strings_genSplit)

/-! ### strings_Split: function 89 -/
def strings_Split.f (s sep : ByteArray) : Option (List ByteArray) := if s.size ≤ 1000 ∧ 1 ≤ sep.size then some (Lib.splitB sep 0 (Lib.countB s sep) s) else none
theorem R_strings (w : World) (e : Nat) (xs : List ByteArray) (hm : xs.length ≤ 9223372036854775807) : Kd.R Kd.string e (w.alloc (.cells (xs.map Value.string).toArray e)) w.heap.size (fun _ => True) (.slice (some ⟨w.heap.size, 0, none⟩) xs.length xs.length) xs := by
 refine ⟨fun _ _ => trivial, xs.map Value.string, ?_, by show _ = _ * 1; simp, fun j p hj => ?_⟩
 ·
  have h2 := World.ownsRow_lit (base := w.heap.size) (e := e) (size := 1) w (xs.map Value.string).toArray xs.length (Nat.le_refl _) (by simpa [maxLen] using hm) (by simp)
  show World.ownsRow _ _ _ 1 _ _ _
  simpa using h2
 ·
  show ((xs.map Value.string).drop (j * 1)).take 1 = [Value.string p]
  obtain ⟨hl, hp⟩ := List.getElem?_eq_some_iff.mp hj
  rw [Nat.mul_one, List.drop_eq_getElem_cons (by simpa using hl)]
  simp [hp]
theorem strings_Split.calls (a0 a1 : ByteArray) (r : List ByteArray) (w : World) (hT : Tabs2 w) (h : strings_Split.f a0 a1 = some r) :
  Calls Tryz.prog 89 #[.string a0, .string a1] w fun e w' => ∃ v0_ : Value, e = .returned (v0_) ∧ Kd.R Kd.string 9 w' w.heap.size (fun _ => True) v0_ r ∧ Below w.heap.size w w' := by
 unfold strings_Split.f at h
 by_cases hb : a0.size ≤ 1000 ∧ 1 ≤ a1.size
 case neg =>
  rw [if_neg hb] at h
  cases h

 rw [if_pos hb] at h
 obtain rfl := Option.some.inj h
 obtain ⟨_, _, _, m, hm⟩ := hT
 have hlen := Lib.splitB_all a1 hb.2 0 (Lib.countB a0 a1) a0 rfl
 have hle := Lib.countB_le a1 hb.2 a0.size a0 (Nat.le_refl _)
 refine (Tryz.strings_Split a0 a1 m w (by have := hb.1; omega) hm hb.2).mono ?_
 rintro e w' ⟨rfl, rfl⟩
 refine ⟨_, rfl, ?_, (Below.refl _ _).alloc (Nat.le_refl _) _⟩
 have hr := R_strings w 9 (Lib.splitB a1 0 (Lib.countB a0 a1) a0) (by rw [hlen]; omega)
 rw [hlen] at hr
 exact hr
-- NOT PRINTED: function 153 (strconv_lower)

-- NOT PRINTED: function 154 (strconv_underscoreOK)

-- NOT PRINTED: function 146 (strconv_ParseUint)

-- NOT PRINTED: function 130 (strconv_ParseInt)

-- NOT PRINTED: function 117 (strconv_Atoi_117)

-- NOT PRINTED: function 147 (stringslite_Clone)

-- NOT PRINTED: function 131 (strconv_syntaxError)

-- NOT PRINTED: function 132 (strconv_rangeError)

-- NOT PRINTED: function 148 (errors_New)

-- NOT PRINTED: function 133 (strconv_baseError)

-- NOT PRINTED: function 134 (strconv_bitSizeError)

-- NOT PRINTED: function 118 (strconv_toError)

-- NOT PRINTED: function 106 (strconv_Atoi_106)

/-! ### impl_readNumber: function 90 -/
def impl_readNumber.f (s : ByteArray) : Option (Int × Bool) := if s.size ≤ 1000 then some (match Lib.atoiAll s.data.toList with | .ok v => (v, (⟨(Lib.itoa v).toArray⟩ : ByteArray).toList == s.toList) | .range => (Lib.atoiSat s.data.toList, false) | _ => (0, false)) else none
theorem atoi_bounds {l : List UInt8} {v : Int} (h : Lib.atoiAll l = .ok v) : -9223372036854775808 ≤ v ∧ v ≤ 9223372036854775807 := by
 cases l with
 | nil => cases h
 | cons c r =>
  simp only [Lib.atoiAll] at h
  cases hp : Lib.parseMag (if c.toNat = 43 ∨ c.toNat = 45 then r else c :: r) with
  | range => rw [hp] at h; cases h
  | ok u =>
   rw [hp] at h
   simp only at h
   by_cases h1 : ¬ c.toNat = 45 ∧ 9223372036854775808 ≤ u
   case pos =>
    rw [if_pos h1] at h; cases h
   rw [if_neg h1] at h
   by_cases h2 : c.toNat = 45 ∧ 9223372036854775808 < u
   case pos =>
    rw [if_pos h2] at h; cases h
   rw [if_neg h2] at h
   injection h with h
   subst h
   by_cases hn : c.toNat = 45
   case pos =>
    rw [if_pos hn]
    have : ¬ 9223372036854775808 < u := fun hu => h2 ⟨hn, hu⟩
    omega
   rw [if_neg hn]
   have : ¬ 9223372036854775808 ≤ u := fun hu => h1 ⟨hn, hu⟩
   omega
  | _ => rw [hp] at h; cases h
set_option maxHeartbeats 1000000 in
theorem readNumber_ok (s : ByteArray) (v : Int) (t : ByteArray) (w : World) (h38 : ∀ W, Calls Tryz.prog 106 #[.string s] W fun e w' => e = .returned (.tuple #[.int .i64 v, .nilIface]) ∧ Below W.heap.size W w') (h25 : ∀ W, Below w.heap.size w W → Calls Tryz.prog 86 #[.int .i64 v] W fun e w' => e = .returned (.string t) ∧ Below W.heap.size W w') :
  Calls Tryz.prog 90 #[.string s] w fun e w' => e = .returned (.tuple #[.int .i64 v, .bool (t.toList == s.toList)]) ∧ Below w.heap.size w w' := by
 have H25 := aM h25
 clear h25
 go_enter Tryz.func90, Tryz.ntmps90
 go_wp2_with (first | (go_at_call 106; (with_reducible refine (h38 _).mono ?_); rintro e w1 ⟨rfl, hb⟩; have HB1 := aM hb; clear hb) | (go_at_call 86; (with_reducible refine (H25.out _ HB1.out).mono ?_); rintro e w2 ⟨rfl, hb⟩; have HB2 := aM hb; clear hb))
 go_ret2
 exact ⟨rfl, below_then HB1.out HB1.out.size HB2.out⟩
set_option maxHeartbeats 1000000 in
theorem readNumber_bad (s : ByteArray) (v : Int) (w : World) (h38 : ∀ W, Below w.heap.size w W → Calls Tryz.prog 106 #[.string s] W fun e w' => ∃ N, e = .returned (.tuple #[.int .i64 v, .iface 122 (.pointer (some ⟨N, 0, none⟩))]) ∧ Below W.heap.size W w') :
  Calls Tryz.prog 90 #[.string s] w fun e w' => e = .returned (.tuple #[.int .i64 v, .bool false]) ∧ Below w.heap.size w w' := by
 have H38 := aM h38
 clear h38
 go_enter Tryz.func90, Tryz.ntmps90
 go_wp2_with (go_at_call 106; (with_reducible refine (H38.out _ (Below.refl _ _)).mono ?_); rintro e w1 ⟨N, rfl, hb⟩; have HB1 := aM hb; clear hb)
 go_ret2
 exact ⟨rfl, HB1.out⟩
theorem impl_readNumber.calls (a0 : ByteArray) (r1 : Int) (r2 : Bool) (w : World) (hT : Tabs2 w) (h : impl_readNumber.f a0 = some (r1, r2)) :
  Calls Tryz.prog 90 #[.string a0] w fun e w' => e = .returned (.tuple #[.int .i64 r1, .bool r2]) ∧ Below w.heap.size w w' := by
 unfold impl_readNumber.f at h
 by_cases hb : a0.size ≤ 1000
 case neg =>
  rw [if_neg hb] at h
  cases h

 rw [if_pos hb] at h
 have h := Option.some.inj h
 cases ha : Lib.atoiAll a0.data.toList with
 | ok v =>
  rw [ha] at h
  simp only [Prod.mk.injEq] at h
  obtain ⟨rfl, rfl⟩ := h
  refine readNumber_ok a0 v ⟨(Lib.itoa v).toArray⟩ w (fun W => ?_) (fun W hW => ?_)
  ·
   refine (Tryz.strconv_Atoi_ok a0 (by omega) v ha W).mono ?_
   rintro e w' ⟨rfl, rfl | ⟨t, rfl⟩⟩
   ·
    exact ⟨rfl, Below.refl _ _⟩
   ·
    exact ⟨rfl, Lib.bytesWorld_below _ _ _⟩
  ·
   exact strconv_Itoa_86.calls v _ W (tabs12_at hT hW) (by unfold strconv_Itoa_86.f; rw [if_pos (atoi_bounds ha)])
 | range =>
  rw [ha] at h
  simp only [Prod.mk.injEq] at h
  obtain ⟨rfl, rfl⟩ := h
  refine readNumber_bad a0 (Lib.atoiSat a0.data.toList) w (fun W hW => ?_)
  obtain ⟨_, _, ⟨tp, p, hv⟩, _⟩ := tabs2_at hT hW
  refine (Tryz.strconv_Atoi_range_var a0 (by omega) ha tp p W hv).mono ?_
  rintro e w' ⟨N, he, _, _, hbl⟩
  exact ⟨N, he, hbl⟩
 | _ =>
  rw [ha] at h
  simp only [Prod.mk.injEq] at h
  obtain ⟨rfl, rfl⟩ := h
  refine readNumber_bad a0 0 w (fun W hW => ?_)
  obtain ⟨_, ⟨tp, p, hv⟩, _⟩ := tabs2_at hT hW
  refine (Tryz.strconv_Atoi_syntax_var a0 (by omega) (by rw [ha]; trivial) tp p W hv).mono ?_
  rintro e w' ⟨N, he, _, _, hbl⟩
  exact ⟨N, he, hbl⟩
/-! ### impl_readNumbers: function 63 -/
def impl_readNumbers.l0 : Nat → List Int → List ByteArray → Int → Int → Option (List Int × Bool)
 | 0, _, _, _, _ => none
 | k + 1, x6, x14, x15, x16 => if x16 < x15 then (if 0 ≤ x16 then (if x16 < (x14.length : Int) then ((impl_readNumber.f (rdOf ByteArray.empty x14 x16)).bind fun bt379 => (if bt379.2 = true then (if x6.length < 17592186044416 then (impl_readNumbers.l0 k (x6 ++ [bt379.1]) x14 x15 (wrap64 (x16 + 1))) else (none)) else (some (([] : List Int), false)))) else (none)) else (none)) else (some (x6, true))
def impl_readNumbers.f (k : Nat) (a0 : ByteArray) (a1 : ByteArray) : Option (List Int × Bool) := (strings_Split.f a0 a1).bind fun t375 => (impl_readNumbers.l0 k (([] : List Int)) t375 (t375.length : Int) 0)
theorem impl_readNumbers.mono_l : ∀ k, (∀ y0 y1 y2 y3, LeO (impl_readNumbers.l0 k y0 y1 y2 y3) (impl_readNumbers.l0 (k + 1) y0 y1 y2 y3))
 | 0 => fun _ _ _ _ r h => by simp [impl_readNumbers.l0] at h
 | k + 1 => by
  have ih0 := impl_readNumbers.mono_l k
  ·
   intro y0 y1 y2 y3
   unfold impl_readNumbers.l0
   repeat' first
   | (with_reducible exact ih0 _ _ _ _)
   | (with_reducible exact LeO.refl _)
   | (with_reducible exact LeO.none _)
   | (with_reducible refine LeO.ite ?_ ?_)
   | (with_reducible refine LeO.bind ?_ (fun _ => ?_))
theorem impl_readNumbers.mono : ∀ a0 a1 k, LeO (impl_readNumbers.f k a0 a1) (impl_readNumbers.f (k + 1) a0 a1) := by
 intro a0 a1 k
 have ih0 := impl_readNumbers.mono_l k
 unfold impl_readNumbers.f
 repeat' first
   | (with_reducible exact ih0 _ _ _ _)
   | (with_reducible exact LeO.refl _)
   | (with_reducible exact LeO.none _)
   | (with_reducible refine LeO.ite ?_ ?_)
   | (with_reducible refine LeO.bind ?_ (fun _ => ?_))
set_option maxHeartbeats 8000000 in
set_option maxRecDepth 100000 in
theorem impl_readNumbers.calls (k : Nat) (a0 : ByteArray) (a1 : ByteArray) (r1 : List Int) (r2 : Bool) (w : World) (hT : Tabs2 w) (h : impl_readNumbers.f k a0 a1 = some (r1, r2)) :
  Calls Tryz.prog 63 #[.string a0, .string a1] w fun e w' => ∃ v0_ : Value, e = .returned (.tuple #[v0_, .bool r2]) ∧ Kd.R (Kd.int .i64) 3 w' w.heap.size (fun _ => True) v0_ r1 ∧ Below w.heap.size w w' := by
 have HT := aM hT
 clear hT
 have HB := aM (Below.refl w.heap.size w)
 have H : ((strings_Split.f a0 a1).bind fun t375 => (impl_readNumbers.l0 k (([] : List Int)) t375 (t375.length : Int) 0)) = some (r1, r2) := h
 clear h
 obtain ⟨y372, hy372⟩ : ∃ y_ : List Int, y_ = (([] : List Int)) := ⟨_, rfl⟩
 replace H : ((strings_Split.f a0 a1).bind fun t375 => (impl_readNumbers.l0 k y372 t375 (t375.length : Int) 0)) = some (r1, r2) := by first | (rw [hy372]; with_reducible exact H) | (have H2_ := (Option.bind_some _ _).symm.trans H; rw [hy372]; with_reducible exact H2_) | (have H2_ := (Option.bind_some _ _).symm.trans H; with_reducible exact H2_) | with_reducible exact H | (rw [hy372]; exact H) | exact H
 have Ny372 := aM hy372
 clear hy372
 replace H := oB H
 obtain ⟨t375, A30, H⟩ := H
 (try dsimp only at H)
 have A3 := aM A30
 clear A30
 have H' := aM H
 clear H
 go_enter Tryz.func63, Tryz.ntmps63
 go_wp2_with (first | ((with_reducible refine gate_dst (N := 11) rfl ?_); refine Kd.R_lit (Kd.int .i64) _ 3 ?hg (N := 11) ?hd (xs := ([] : List Int)) (inner := []) (ok := fun _ => True) (okp := fun _ => True) ?hr ?hp (fun _ hk => hk) trivial (Below.refl _ _) (Nat.le_refl _) (by simp) ?_; (case hd => rfl); (case hg => rfl); (case hr => first | (go_simp; done) | (go_simp; rfl)); (case hp => exact (Reps.none _ _)); intro v373 w4 ho5 hb hg_ hnew_; clear hg_ hnew_; (first | rw [← Ny372.out] at ho5 | (simp only [Int.reduceToNat] at ho5; rw [← Ny372.out] at ho5)); have HO374 := aM (Kd.R_lower ho5 (bZ HB.out)); replace HB := aM (bS HB.out hb); clear hb ho5) | ((with_reducible refine gate_callee (f := 89) rfl ?_); refine gL 14 Tryz.func89 #[.string a0, .string a1] rfl rfl rfl rfl ?_; (with_reducible refine (strings_Split.calls a0 a1 t375 _ (tabs2_at HT.out (by repeat (first | (with_reducible first | exact HB.out | apply below_alloc | apply pw_below_drewN | apply below_drew1 | exact Below.refl _ _) | exact HB.out))) A3.out).mono ?_); rintro e w6 ⟨v376, rfl, ho0, hb⟩; refine ⟨_, rfl, ?_⟩; replace HO374 := aM (Kd.R_below (rQ HO374.out) hb); have HO377 := aM (Kd.R_lower ho0 (bZ HB.out)); replace HB := aM (bS HB.out hb); (try clear hb ho0); obtain ⟨Ao7, co7, eo7⟩ := Kd.R_slice HO377.out; subst eo7))
 go_loopg [6, 16] k (fun kq v6 v16 w' => ∃ (x6_1 : List Int) (x16_1 : Int), v16 = .int .i64 x16_1 ∧ Aside0 (impl_readNumbers.l0 kq x6_1 t375 (t375.length : Int) x16_1 = some (r1, r2)) ∧ Aside0 (kq ≤ k) ∧ Aside0 (Kd.R (Kd.int .i64) 3 w' w.heap.size (fun _ => True) v6 x6_1) ∧ Aside0 (Kd.R Kd.string 9 w' w.heap.size (fun _ => True) (.slice Ao7 t375.length co7) t375) ∧ Aside0 (Below w.heap.size w w'))
 case atStart => exact ⟨(y372), (0), eqQ, H', ⟨Nat.le_refl _⟩, ⟨rQ HO374.out⟩, ⟨rQ HO377.out⟩, ⟨bE HB.out⟩⟩
 case round =>
  clear H'
  try clear p2
  try clear c6
  obtain ⟨x6_1, x16_1, rfl, HA, HK1, HO_6, HO_14, HB⟩ := hrel
  cases gk with
  | zero => exact absurd HA.out (by simp [impl_readNumbers.l0])
  | succ k1 =>
   have H := HA.out
   clear HA
   simp only [impl_readNumbers.l0] at H
   by_cases c8 : x16_1 < (t375.length : Int)
   ·
    rw [if_pos c8] at H
    have c8b0 : decide (x16_1 < (t375.length : Int)) = true := decide_eq_true c8
    clear c8
    by_cases c9 : 0 ≤ x16_1
    case neg =>
     rw [if_neg c9] at H
     exact nS H
    rw [if_pos c9] at H
    have c9b0 : decide (0 ≤ x16_1) = true := decide_eq_true c9
    clear c9
    by_cases c10 : x16_1 < (t375.length : Int)
    case neg =>
     rw [if_neg c10] at H
     exact nS H
    rw [if_pos c10] at H
    have c10b0 : decide (x16_1 < (t375.length : Int)) = true := decide_eq_true c10
    clear c10
    replace H := oB H
    obtain ⟨⟨t379, t380⟩, A110, H⟩ := H
    (try dsimp only at H)
    have A11 := aM A110
    clear A110
    by_cases c12 : t380 = true
    ·
     subst c12
     replace H := (if_pos rfl).symm.trans H
     by_cases c13 : x6_1.length < 17592186044416
     case neg =>
      rw [if_neg c13] at H
      exact nS H
     rw [if_pos c13] at H
     have LMc13 := aM c13
     clear c13
     obtain ⟨y381, hy381⟩ : ∃ y_ : List Int, y_ = (x6_1 ++ [t379]) := ⟨_, rfl⟩
     replace H : (impl_readNumbers.l0 k1 y381 t375 (t375.length : Int) (wrap64 (x16_1 + 1))) = some (r1, r2) := by first | (rw [hy381]; with_reducible exact H) | (have H2_ := (Option.bind_some _ _).symm.trans H; rw [hy381]; with_reducible exact H2_) | (have H2_ := (Option.bind_some _ _).symm.trans H; with_reducible exact H2_) | with_reducible exact H | (rw [hy381]; exact H) | exact H
     have Ny381 := aM hy381
     clear hy381
     have H' := aM H
     clear H
     have p378 : 0 ≤ (x16_1 : Int) := dA
     have q378 : x16_1 < (t375.length : Int) := dA
     obtain ⟨ad378, e378, hx378_0⟩ := Kd.at_string (Kd.R_reads' HO_14.out).2.2 x16_1 p378 q378
     cases e378
     replace p378 := eq_true p378
     replace q378 := eq_true q378
     go_wp2_with (first | ((with_reducible refine gate_callee (f := 90) rfl ?_); refine gL 22 Tryz.func90 #[.string (rdOf ByteArray.empty t375 x16_1)] rfl rfl rfl rfl ?_; (with_reducible refine (impl_readNumber.calls (rdOf ByteArray.empty t375 x16_1) t379 true _ (tabs2_at HT.out (by repeat (first | (with_reducible first | exact HB.out | apply below_alloc | apply pw_below_drewN | apply below_drew1 | exact Below.refl _ _) | exact HB.out))) A11.out).mono ?_); rintro e w14 ⟨rfl, hb⟩; refine ⟨_, rfl, ?_⟩; replace HO_6 := aM (Kd.R_below (rQ HO_6.out) hb); replace HO_14 := aM (Kd.R_below (rQ HO_14.out) hb); replace HB := aM (bS HB.out hb); (try clear hb)) | ((with_reducible refine gate_builtin (b := .append) (xs := #[.tmp 27, .tmp 29]) rfl ?_); at_builtin; refine Kd.R_append (Kd.int .i64) (w0 := w) w.heap.size rfl (.tmp 27) (.tmp 29) 24 3 (.int .i64 0) 8 rfl Tryz.underlying24 info3 rfl (by decide) (by omega) u6 x6_1 t379 [.int .i64 t379] (fun _ => True) (fun _ => False) rfl rfl ?aP (fun _ hk => hk.elim) ?aF ?aO ?aB ?aS ?aL ?_; (case aP => exact rfl); (case aB => exact (bE HB.out)); (case aF => exact (fun _ _ => trivial)); (case aO => exact (rQ HO_6.out)); (case aS => exact (bZ HB.out)); (case aL => have := LMc13.out; omega); intro v382 w15 ho hb hg hat; rw [← Ny381.out] at ho; replace HO_14 := aM (Kd.R_over' (rQ HO_14.out) (Kd.R_typed (rQ HO_6.out)) (by decide) hg); replace HB := aM (hb); have HO383 := aM (ho); clear HO_6; clear ho hb hg hat))
     go_roundg k1
     case measure => have := HK1.out; omega
     case rel => exact ⟨(y381), (wrap64 (x16_1 + 1)), eqQ, H', ⟨by have := HK1.out; omega⟩, ⟨rQ HO383.out⟩, ⟨rQ HO_14.out⟩, ⟨bE HB.out⟩⟩
    ·
     replace c12 := Bool.eq_false_iff.mpr c12
     subst c12
     have H1 : (some (([] : List Int), false)) = some (r1, r2) := by rw [if_neg (show ¬ (false = true) by decide)] at H; exact H
     clear H
     have H := H1
     clear H1
     simp only [Option.some.injEq, Prod.mk.injEq] at H
     obtain ⟨rfl, rfl⟩ := H
     have p378 : 0 ≤ (x16_1 : Int) := dA
     have q378 : x16_1 < (t375.length : Int) := dA
     obtain ⟨ad378, e378, hx378_0⟩ := Kd.at_string (Kd.R_reads' HO_14.out).2.2 x16_1 p378 q378
     cases e378
     replace p378 := eq_true p378
     replace q378 := eq_true q378
     go_wp2_with (first | ((with_reducible refine gate_callee (f := 90) rfl ?_); refine gL 22 Tryz.func90 #[.string (rdOf ByteArray.empty t375 x16_1)] rfl rfl rfl rfl ?_; (with_reducible refine (impl_readNumber.calls (rdOf ByteArray.empty t375 x16_1) t379 false _ (tabs2_at HT.out (by repeat (first | (with_reducible first | exact HB.out | apply below_alloc | apply pw_below_drewN | apply below_drew1 | exact Below.refl _ _) | exact HB.out))) A11.out).mono ?_); rintro e w16 ⟨rfl, hb⟩; refine ⟨_, rfl, ?_⟩; replace HO_6 := aM (Kd.R_below (rQ HO_6.out) hb); replace HO_14 := aM (Kd.R_below (rQ HO_14.out) hb); replace HB := aM (bS HB.out hb); (try clear hb)))
     go_ret2
     exact ⟨_, erQ, by first | exact Kd.R_nil _ _ _ _ _ | exact Kd.N_nil _ _ _ _ _ | exact Kd.V_nil _ _ _ _ _ | exact Kd.Q_nil _ _ _ _ _ | exact Kd.S_nil _ _ _ _ _, bE HB.out⟩
   ·
    rw [if_neg c8] at H
    have c8b0 : decide (x16_1 < (t375.length : Int)) = false := decide_eq_false c8
    clear c8
    simp only [Option.some.injEq, Prod.mk.injEq] at H
    obtain ⟨rfl, rfl⟩ := H
    go_wp2
    go_ret2
    exact ⟨_, erQ, rQ HO_6.out, bE HB.out⟩

/-! ### impl_agesOr: function 64 -/
def impl_agesOr.f (l0 : List Int) : Option (List Int × Bool) := (impl_AreAges.f l0).bind fun t384 => (if t384 = true then (some (l0, true)) else (some (([] : List Int), false)))
set_option maxHeartbeats 8000000 in
set_option maxRecDepth 100000 in
theorem impl_agesOr.calls (P0_ : Nat → Prop) (u9000_ : Value) (l0 : List Int) (r1 : List Int) (r2 : Bool) (w0 w : World) (hB : Below w0.heap.size w0 w) (ho0 : Kd.R (Kd.int .i64) 3 w w0.heap.size P0_ u9000_ l0) (h : impl_agesOr.f l0 = some (r1, r2)) :
  Calls Tryz.prog 64 #[u9000_] w fun e w' => ∃ v0_ : Value, e = .returned (.tuple #[v0_, .bool r2]) ∧ Kd.R (Kd.int .i64) 3 w' w0.heap.size (fun k_ => (P0_ k_ ∨ w.heap.size ≤ k_)) v0_ r1 ∧ Below w0.heap.size w0 w' ∧ Kept w w' (fun k_ => P0_ k_) := by
 have HO0 := aM (show Kd.R (Kd.int .i64) 3 w w0.heap.size (fun k_ => (P0_ k_ ∨ w.heap.size ≤ k_)) u9000_ l0 from Kd.R_mono ho0 (fun k_ hk => (.inl hk)))
 have HK := aM (Kept.refl w (fun k_ => P0_ k_))
 have HW0 := aM hB.size
 have HB := aM hB
 clear hB
 have H : ((impl_AreAges.f l0).bind fun t384 => (if t384 = true then (some (l0, true)) else (some (([] : List Int), false)))) = some (r1, r2) := h
 clear h
 replace H := oB H
 obtain ⟨t384, A20, H⟩ := H
 (try dsimp only at H)
 have A2 := aM A20
 clear A20
 by_cases c3 : t384 = true
 ·
  subst c3
  replace H := (if_pos rfl).symm.trans H
  simp only [Option.some.injEq, Prod.mk.injEq] at H
  obtain ⟨rfl, rfl⟩ := H
  obtain ⟨Ao4, co4, eo4⟩ := Kd.R_slice HO0.out
  subst eo4
  go_enter Tryz.func64, Tryz.ntmps64
  go_wp2_with (first | ((with_reducible refine gate_callee (f := 47) rfl ?_); refine gL 5 Tryz.func47 #[.slice Ao4 l0.length co4] rfl rfl rfl rfl ?_; (with_reducible refine (impl_AreAges.calls _ _ l0 true _ ?side1 ?side2 A2.out).mono ?_); (case side1 => exact cQ ((Kd.R_reads' HO0.out).2.2)); (case side2 => exact (Kd.R_reads' HO0.out).2.1); rintro e w5 ⟨rfl, hb⟩; refine ⟨_, rfl, ?_⟩; replace HO0 := aM (Kd.R_below (rQ HO0.out) hb); replace HK := aM (Kept.below (S := (fun k_ => P0_ k_)) (by repeat (first | (with_reducible first | exact HK.out | apply Kept.alloc | apply Kept.drewN | apply Kept.drew) | exact HK.out)) hb); replace HB := aM (bS HB.out hb); (try clear hb)))
  go_ret2
  exact ⟨_, erQ, rQ HO0.out, bE HB.out, by repeat (first | (with_reducible first | exact HK.out | apply Kept.alloc | apply Kept.drewN | apply Kept.drew) | exact HK.out)⟩
 ·
  replace c3 := Bool.eq_false_iff.mpr c3
  subst c3
  have H1 : (some (([] : List Int), false)) = some (r1, r2) := by rw [if_neg (show ¬ (false = true) by decide)] at H; exact H
  clear H
  have H := H1
  clear H1
  simp only [Option.some.injEq, Prod.mk.injEq] at H
  obtain ⟨rfl, rfl⟩ := H
  obtain ⟨Ao6, co6, eo6⟩ := Kd.R_slice HO0.out
  subst eo6
  go_enter Tryz.func64, Tryz.ntmps64
  go_wp2_with (first | ((with_reducible refine gate_callee (f := 47) rfl ?_); refine gL 5 Tryz.func47 #[.slice Ao6 l0.length co6] rfl rfl rfl rfl ?_; (with_reducible refine (impl_AreAges.calls _ _ l0 false _ ?side1 ?side2 A2.out).mono ?_); (case side1 => exact cQ ((Kd.R_reads' HO0.out).2.2)); (case side2 => exact (Kd.R_reads' HO0.out).2.1); rintro e w7 ⟨rfl, hb⟩; refine ⟨_, rfl, ?_⟩; replace HO0 := aM (Kd.R_below (rQ HO0.out) hb); replace HK := aM (Kept.below (S := (fun k_ => P0_ k_)) (by repeat (first | (with_reducible first | exact HK.out | apply Kept.alloc | apply Kept.drewN | apply Kept.drew) | exact HK.out)) hb); replace HB := aM (bS HB.out hb); (try clear hb)))
  go_ret2
  exact ⟨_, erQ, by first | exact Kd.R_nil _ _ _ _ _ | exact Kd.N_nil _ _ _ _ _ | exact Kd.V_nil _ _ _ _ _ | exact Kd.Q_nil _ _ _ _ _ | exact Kd.S_nil _ _ _ _ _, bE HB.out, by repeat (first | (with_reducible first | exact HK.out | apply Kept.alloc | apply Kept.drewN | apply Kept.drew) | exact HK.out)⟩

/-! ### impl_ParseAges: function 25 -/
def impl_ParseAges.f (k : Nat) (a0 : ByteArray) : Option (List Int × Bool) := if (a0.size : Int) > 32 then (some (([] : List Int), false)) else ((impl_readNumbers.f k a0 (⟨#[45]⟩ : ByteArray)).bind fun bt385 => (if bt385.2 = true then ((impl_agesOr.f bt385.1).bind fun bt389 => (some (bt389.1, bt389.2))) else (some (([] : List Int), false))))
theorem impl_ParseAges.mono : ∀ a0 k, LeO (impl_ParseAges.f k a0) (impl_ParseAges.f (k + 1) a0) := by
 intro a0 k
 unfold impl_ParseAges.f
 repeat' first
   | (with_reducible exact impl_readNumbers.mono _ _ _)
   | (with_reducible exact LeO.refl _)
   | (with_reducible exact LeO.none _)
   | (with_reducible refine LeO.ite ?_ ?_)
   | (with_reducible refine LeO.bind ?_ (fun _ => ?_))
set_option maxHeartbeats 8000000 in
set_option maxRecDepth 100000 in
theorem impl_ParseAges.calls (k : Nat) (a0 : ByteArray) (r1 : List Int) (r2 : Bool) (w : World) (hT : Tabs2 w) (h : impl_ParseAges.f k a0 = some (r1, r2)) :
  Calls Tryz.prog 25 #[.string a0] w fun e w' => ∃ v0_ : Value, e = .returned (.tuple #[v0_, .bool r2]) ∧ Kd.R (Kd.int .i64) 3 w' w.heap.size (fun _ => True) v0_ r1 ∧ Below w.heap.size w w' := by
 have HT := aM hT
 clear hT
 have HB := aM (Below.refl w.heap.size w)
 have H : (if (a0.size : Int) > 32 then (some (([] : List Int), false)) else ((impl_readNumbers.f k a0 (⟨#[45]⟩ : ByteArray)).bind fun bt385 => (if bt385.2 = true then ((impl_agesOr.f bt385.1).bind fun bt389 => (some (bt389.1, bt389.2))) else (some (([] : List Int), false))))) = some (r1, r2) := h
 clear h
 by_cases c2 : (a0.size : Int) > 32
 ·
  rw [if_pos c2] at H
  have c2b0 : decide (32 < (a0.size : Int)) = true := decide_eq_true c2
  have c2b1 : decide (32 < a0.size) = true := decide_eq_true (by omega)
  clear c2
  simp only [Option.some.injEq, Prod.mk.injEq] at H
  obtain ⟨rfl, rfl⟩ := H
  go_enter Tryz.func25, Tryz.ntmps25
  go_wp2
  go_ret2
  exact ⟨_, erQ, by first | exact Kd.R_nil _ _ _ _ _ | exact Kd.N_nil _ _ _ _ _ | exact Kd.V_nil _ _ _ _ _ | exact Kd.Q_nil _ _ _ _ _ | exact Kd.S_nil _ _ _ _ _, bE HB.out⟩
 ·
  rw [if_neg c2] at H
  have c2b0 : decide (32 < (a0.size : Int)) = false := decide_eq_false c2
  have c2b1 : decide (32 < a0.size) = false := decide_eq_false (by omega)
  clear c2
  replace H := oB H
  obtain ⟨⟨t385, t386⟩, A30, H⟩ := H
  (try dsimp only at H)
  have A3 := aM A30
  clear A30
  by_cases c4 : t386 = true
  ·
   subst c4
   replace H := (if_pos rfl).symm.trans H
   replace H := oB H
   obtain ⟨⟨t389, t392⟩, A50, H⟩ := H
   (try dsimp only at H)
   have A5 := aM A50
   clear A50
   simp only [Option.some.injEq, Prod.mk.injEq] at H
   obtain ⟨rfl, rfl⟩ := H
   go_enter Tryz.func25, Tryz.ntmps25
   go_wp2_with (first | ((with_reducible refine gate_callee (f := 63) rfl ?_); refine gL 11 Tryz.func63 #[.string a0, .string (⟨#[45]⟩ : ByteArray)] rfl rfl rfl rfl ?_; (with_reducible refine (impl_readNumbers.calls k a0 (⟨#[45]⟩ : ByteArray) t385 true _ (tabs2_at HT.out (by repeat (first | (with_reducible first | exact HB.out | apply below_alloc | apply pw_below_drewN | apply below_drew1 | exact Below.refl _ _) | exact HB.out))) A3.out).mono ?_); rintro e w6 ⟨v387, rfl, ho0, hb⟩; refine ⟨_, rfl, ?_⟩; have HO388 := aM (Kd.R_lower ho0 (bZ HB.out)); replace HB := aM (bS HB.out hb); (try clear hb ho0); obtain ⟨Ao7, co7, eo7⟩ := Kd.R_slice HO388.out; subst eo7) | ((with_reducible refine gate_callee (f := 64) rfl ?_); refine gL 17 Tryz.func64 #[.slice Ao7 t385.length co7] rfl rfl rfl rfl ?_; (with_reducible refine (impl_agesOr.calls (fun k_ => some k_ = (.slice Ao7 t385.length co7 : Value).ownBlock) (.slice Ao7 t385.length co7) t385 t389 t392 w _ ?side1 ?side2 A5.out).mono ?_); (case side1 => repeat (first | (with_reducible first | exact HB.out | apply below_alloc | apply pw_below_drewN | apply below_drew1) | exact HB.out)); (case side2 => exact Kd.R_tight rfl HO388.out); rintro e w8 ⟨v390, rfl, ho0, hb, hkp⟩; refine ⟨_, rfl, ?_⟩; have HO391 := aM (Kd.R_mono (ok' := fun k_ => True) ho0 (fun k_ hk_ => trivial)); replace HB := aM (hb); clear HO388; (try clear hb); (try clear hkp); (try clear ho0)))
   go_ret2
   exact ⟨_, erQ, rQ HO391.out, bE HB.out⟩
  ·
   replace c4 := Bool.eq_false_iff.mpr c4
   subst c4
   have H1 : (some (([] : List Int), false)) = some (r1, r2) := by rw [if_neg (show ¬ (false = true) by decide)] at H; exact H
   clear H
   have H := H1
   clear H1
   simp only [Option.some.injEq, Prod.mk.injEq] at H
   obtain ⟨rfl, rfl⟩ := H
   go_enter Tryz.func25, Tryz.ntmps25
   go_wp2_with (first | ((with_reducible refine gate_callee (f := 63) rfl ?_); refine gL 11 Tryz.func63 #[.string a0, .string (⟨#[45]⟩ : ByteArray)] rfl rfl rfl rfl ?_; (with_reducible refine (impl_readNumbers.calls k a0 (⟨#[45]⟩ : ByteArray) t385 false _ (tabs2_at HT.out (by repeat (first | (with_reducible first | exact HB.out | apply below_alloc | apply pw_below_drewN | apply below_drew1 | exact Below.refl _ _) | exact HB.out))) A3.out).mono ?_); rintro e w9 ⟨v387, rfl, ho0, hb⟩; refine ⟨_, rfl, ?_⟩; have HO388 := aM (Kd.R_lower ho0 (bZ HB.out)); replace HB := aM (bS HB.out hb); (try clear hb ho0)))
   go_ret2
   exact ⟨_, erQ, by first | exact Kd.R_nil _ _ _ _ _ | exact Kd.N_nil _ _ _ _ _ | exact Kd.V_nil _ _ _ _ _ | exact Kd.Q_nil _ _ _ _ _ | exact Kd.S_nil _ _ _ _ _, bE HB.out⟩

end Go.Proofs.YtcfgkpifloghlaaGreatDoor.P
