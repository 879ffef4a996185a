-- Written by drive.py (wip/ of this repository) over the kit's print: functions, contracts, rows. Lean checks it.
import Derived.Test.YtbdgeknaddaekaaP0
import Derived.Test.YtbdgeknaddaekaaP2
namespace Go.Proofs.Ytbdgeknaddaekaa.P
open Go.RowKit Go.Proofs.YtbdgeknaddaekaaW.PrintWords Go.Proofs.YtbdgeknaddaekaaW.PrintLast Go.Proofs.YtbdgeknaddaekaaW.PrintMore
attribute [local go_sem] max2_int min2_int max_two min_two max_three min_three max_four min_four   -- for this text's walks alone
set_option linter.unusedVariables false
set_option linter.unusedSimpArgs false

/-! ### slices_Max_int_int: function 86 -/
/-- The greatest of a number and those behind it. -/
def maxFrom : List Int → Int → Int
  | [], m => m
  | x :: xs, m => maxFrom xs (if m < x then x else m)
def slices_Max_int_int.f (l0 : List Int) : Option (Int) := if 0 < l0.length then some (maxFrom (l0.drop 1) (rd l0 0)) else none
set_option maxHeartbeats 1000000 in
theorem slices_Max_int_int.calls (A0 : Option Addr) (c0 : Nat) (l0 : List Int) (r : Int) (w : World) (hr0 : Kd.C (Kd.int .i64) w A0 l0.length l0) (hc0 : l0.length ≤ c0) (h : slices_Max_int_int.f l0 = some r) :
    Calls Try.prog 86 #[.slice A0 l0.length c0] w fun e w' => e = .returned (.int .i64 r) ∧ Drawn0 w w' := by
  unfold slices_Max_int_int.f at h
  have hpos : 0 < l0.length := by
    by_cases q : 0 < l0.length
    · exact q
    · rw [if_neg q] at h; cases h
  rw [if_pos hpos] at h
  have hr := Option.some.inj h
  clear h
  have HRr := Aside0.mk hr
  clear hr
  have HR0 := Aside0.mk hr0
  have HC0 := Aside0.mk hc0
  have HN : l0.length ≤ 9223372036854775807 := (Kd.reads_of_C (enc := Value.int .i64) (d := (0 : Int)) (h1 := fun _ => rfl) hr0).2.1
  clear hr0 hc0
  obtain ⟨ad, e104, hx104⟩ := Kd.at_int HR0.out 0 (by omega) (by omega)
  cases e104
  have hx0 : w.cell? ad = some (.int .i64 (rd l0 0)) := by
    have := hx104
    rw [show ((0 : Int)).toNat = 0 from rfl, Addr.add_zero'] at this
    exact this
  clear hx104
  have c1b0 : decide ((l0.length : Int) < 1) = false := decide_eq_false (by omega)
  have p0 := eq_true (show (0 : Int) < (l0.length : Int) by omega)
  generalize hm : rd l0 0 = m0 at hx0
  have HM := Aside0.mk hm
  clear hm
  go_enter Try.func86, Try.ntmps86
  go_wp2
  go_loopg [3, 4] l0.length (fun gg s3 s4 wr => ∃ (kk : Nat) (m : Int), 1 ≤ kk ∧ kk ≤ l0.length ∧ l0.length - kk ≤ gg ∧ s3 = .int .i64 m ∧ s4 = .int .i64 kk ∧ Drawn0 w wr ∧ Aside0 (maxFrom (l0.drop kk) m = r))
  case atStart => exact ⟨1, m0, Nat.le_refl _, by omega, by omega, rfl, rfl, by repeat (first | exact Drawn0.refl _ | apply Drawn0.step), ⟨by rw [← HM.out]; exact HRr.out⟩⟩
  case round =>
    obtain ⟨kk, m, hk1, hkk, hg, rfl, rfl, ⟨m1, rfl⟩, HA⟩ := hrel
    by_cases hlt : kk < l0.length
    · have c3b0 : decide ((kk : Int) < (l0.length : Int)) = true := decide_eq_true (by omega)
      have hdrop : l0.drop kk = rd l0 kk :: l0.drop (kk + 1) := by
        rw [List.drop_eq_getElem_cons hlt]
        simp [rd, List.getD_eq_getElem?_getD, List.getElem?_eq_getElem hlt]
      obtain ⟨ad', e104, hx104⟩ := Kd.at_int HR0.out (kk : Int) (by omega) (by omega)
      cases e104
      rw [Int.toNat_natCast] at hx104
      have p104 := eq_true (show 0 ≤ (kk : Int) by omega)
      have q104 := eq_true (show (kk : Int) < (l0.length : Int) by omega)
      generalize hy : rd l0 kk = y at hdrop hx104
      clear hy
      have HD := Aside0.mk hdrop
      clear hdrop
      by_cases hc : m < y
      · have hcb : decide (m < y) = true := decide_eq_true hc
        have HCc := Aside0.mk hc
        have hc' := eq_true hc
        clear hc
        go_wp2
        go_roundg (l0.length - (kk + 1))
        case measure => omega
        case rel =>
          refine ⟨kk + 1, y, by omega, by omega, by omega, by first | rfl | (simp; done) | (simp [*]; done), by go_num, by repeat (first | exact Drawn0.refl _ | apply Drawn0.step), ⟨?_⟩⟩
          have h2 := HA.out
          rw [HD.out] at h2
          simp only [maxFrom] at h2
          rw [if_pos (by have := HCc.out; omega)] at h2
          exact h2
      · have hcb : decide (m < y) = false := decide_eq_false hc
        have HCc := Aside0.mk hc
        have hc' := eq_false hc
        clear hc
        go_wp2
        go_roundg (l0.length - (kk + 1))
        case measure => omega
        case rel =>
          refine ⟨kk + 1, m, by omega, by omega, by omega, by first | rfl | (simp; done) | (simp [*]; done), by go_num, by repeat (first | exact Drawn0.refl _ | apply Drawn0.step), ⟨?_⟩⟩
          have h2 := HA.out
          rw [HD.out] at h2
          simp only [maxFrom] at h2
          rw [if_neg (by have := HCc.out; omega)] at h2
          exact h2
    · have c3b0 : decide ((kk : Int) < (l0.length : Int)) = false := decide_eq_false (by omega)
      have hltz : ¬ (kk : Int) < (l0.length : Int) := by omega
      go_wp2
      go_ret
      refine ⟨?_, by repeat (first | exact Drawn0.refl _ | apply Drawn0.step)⟩
      have h2 := HA.out
      rw [List.drop_of_length_le (by omega)] at h2
      simp only [maxFrom] at h2
      rw [← h2]; first | rfl | (simp; done)

/-! ### impl_fitYears: function 74 -/
def impl_fitYears.f (l0 : List Int) : Option (Int × Int) := (slices_Min_int_int.f l0).bind fun t142 => ((slices_Max_int_int.f l0).bind fun t143 => (some (wrap64 (-t142), wrap64 (120 - t143))))
set_option maxHeartbeats 8000000 in
set_option maxRecDepth 100000 in
theorem impl_fitYears.calls (A0 : Option Addr) (c0 : Nat) (l0 : List Int) (r1 : Int) (r2 : Int) (w : World) (hr0 : Kd.C (Kd.int .i64) w A0 l0.length l0) (hc0 : l0.length ≤ c0) (h : impl_fitYears.f l0 = some (r1, r2)) :
    Calls Try.prog 74 #[.slice A0 l0.length c0] w fun e w' => e = .returned (.tuple #[.int .i64 r1, .int .i64 r2]) ∧ Drawn0 w w' := by
  have HR0 := Aside0.mk hr0
  have HC0 := Aside0.mk hc0
  clear hr0 hc0
  have H : ((slices_Min_int_int.f l0).bind fun t142 => ((slices_Max_int_int.f l0).bind fun t143 => (some (wrap64 (-t142), wrap64 (120 - t143))))) = some (r1, r2) := h
  clear h
  replace H := Option.bind_eq_some_iff.mp H
  obtain ⟨t142, A20, H⟩ := H
  replace H : ((slices_Max_int_int.f l0).bind fun t143 => (some (wrap64 (-t142), wrap64 (120 - t143)))) = some (r1, r2) := H
  have A2 := Aside0.mk A20
  clear A20
  replace H := Option.bind_eq_some_iff.mp H
  obtain ⟨t143, A30, H⟩ := H
  replace H : (some (wrap64 (-t142), wrap64 (120 - t143))) = some (r1, r2) := H
  have A3 := Aside0.mk A30
  clear A30
  simp only [Option.some.injEq, Prod.mk.injEq] at H
  obtain ⟨rfl, rfl⟩ := H
  go_enter Try.func74, Try.ntmps74
  go_wp2_with (first | ((with_reducible refine gate_callee (f := 85) rfl ?_); refine goesL_ (some 5) rfl rfl Try.func85 (by kernel_rfl) rfl #[.slice A0 l0.length c0] rfl (by (try simp only [List.map_toArray, List.map_cons, List.map_nil]); first | done | rfl | (simp only [List.length_drop, List.length_take]; rfl)) ?_; (with_reducible refine (slices_Min_int_int.calls _ _ l0 t142 _ ?side1 ?side2 A2.out).mono ?_); (case side1 => repeat (first | exact HR0.out | (with_reducible refine Kd.C_alloc ?_ _) | (with_reducible refine Kd.C_drewN ?_ _) | (with_reducible refine Kd.C_drew ?_))); (case side2 => exact HC0.out); rintro e w' ⟨rfl, ⟨nd, rfl⟩⟩; refine ⟨_, rfl, ?_⟩) | ((with_reducible refine gate_callee (f := 86) rfl ?_); refine goesL_ (some 8) rfl rfl Try.func86 (by kernel_rfl) rfl #[.slice A0 l0.length c0] rfl (by (try simp only [List.map_toArray, List.map_cons, List.map_nil]); first | done | rfl | (simp only [List.length_drop, List.length_take]; rfl)) ?_; (with_reducible refine (slices_Max_int_int.calls _ _ l0 t143 _ ?side1 ?side2 A3.out).mono ?_); (case side1 => repeat (first | exact HR0.out | (with_reducible refine Kd.C_alloc ?_ _) | (with_reducible refine Kd.C_drewN ?_ _) | (with_reducible refine Kd.C_drew ?_))); (case side2 => exact HC0.out); rintro e w' ⟨rfl, ⟨nd, rfl⟩⟩; refine ⟨_, rfl, ?_⟩))
  go_ret2
  exact ⟨by first | rfl | (simp; done) | (simp [*]; done), by repeat (first | exact Drawn0.refl _ | apply Drawn0.step)⟩

/-! ### impl_inYears: function 75 -/
def impl_inYears.l0 : Nat → Int → List Int → List Int → Int → Int → Option (List Int)
  | 0, _, _, _, _, _ => none
  | k + 1, x1, x5, x9, x10, x11 => if x11 < x10 then (if 0 ≤ x11 then (if x11 < (x9.length : Int) then (if x5.length < 17592186044416 then (impl_inYears.l0 k x1 (x5 ++ [wrap64 ((rd x9 x11) + x1)]) x9 x10 (wrap64 (x11 + 1))) else (none)) else (none)) else (none)) else (some x5)
def impl_inYears.f (k : Nat) (l0 : List Int) (a1 : Int) : Option (List Int) := impl_inYears.l0 k a1 (([] : List Int)) l0 (l0.length : Int) 0
theorem impl_inYears.mono_l : ∀ k, (∀ y0 y1 y2 y3 y4, LeO (impl_inYears.l0 k y0 y1 y2 y3 y4) (impl_inYears.l0 (k + 1) y0 y1 y2 y3 y4))
  | 0 => fun _ _ _ _ _ r h => by simp [impl_inYears.l0] at h
  | k + 1 => by
    have ih0 := impl_inYears.mono_l k
    · intro y0 y1 y2 y3 y4
      unfold impl_inYears.l0
      repeat' first
      | (with_reducible exact ih0 _ _ _ _ _)
      | (with_reducible exact LeO.refl _)
      | (with_reducible exact LeO.none _)
      | (with_reducible refine LeO.ite ?_ ?_)
      | (with_reducible refine LeO.bind ?_ (fun _ => ?_))
      | exact ih0 _ _ _ _ _
      | exact LeO.none _
      | refine LeO.ite ?_ ?_
      | refine LeO.bind ?_ (fun _ => ?_)
theorem impl_inYears.mono : ∀ a0 a1 k, LeO (impl_inYears.f k a0 a1) (impl_inYears.f (k + 1) a0 a1) := by
  intro a0 a1 k
  have ih0 := impl_inYears.mono_l k
  unfold impl_inYears.f
  repeat' first
      | (with_reducible exact ih0 _ _ _ _ _)
      | (with_reducible exact LeO.refl _)
      | (with_reducible exact LeO.none _)
      | (with_reducible refine LeO.ite ?_ ?_)
      | (with_reducible refine LeO.bind ?_ (fun _ => ?_))
      | exact ih0 _ _ _ _ _
      | exact LeO.none _
      | refine LeO.ite ?_ ?_
      | refine LeO.bind ?_ (fun _ => ?_)
set_option maxHeartbeats 8000000 in
set_option maxRecDepth 100000 in
theorem impl_inYears.calls (k : Nat) (A0 : Option Addr) (c0 : Nat) (l0 : List Int) (a1 : Int) (r : List Int) (w : World) (hr0 : Kd.C (Kd.int .i64) w A0 l0.length l0) (hc0 : l0.length ≤ c0) (h : impl_inYears.f k l0 a1 = some r) :
    Calls Try.prog 75 #[.slice A0 l0.length c0, .int .i64 a1] w fun e w' => ∃ v0_ : Value, e = .returned (v0_) ∧ Kd.R (Kd.int .i64) 3 w' w.heap.size (fun _ => True) v0_ r ∧ Below w.heap.size w w' := by
  have HR0 := Aside0.mk hr0
  have HC0 := Aside0.mk hc0
  clear hr0 hc0
  have HB := Aside0.mk (Below.refl w.heap.size w)
  have H : (impl_inYears.l0 k a1 (([] : List Int)) l0 (l0.length : Int) 0) = some r := h
  clear h
  obtain ⟨y144, hy144⟩ : ∃ y_ : List Int, y_ = (([] : List Int)) := ⟨_, rfl⟩
  replace H : (impl_inYears.l0 k a1 y144 l0 (l0.length : Int) 0) = some r := by first | (rw [hy144]; with_reducible exact H) | (have H2_ := (Option.bind_some _ _).symm.trans H; rw [hy144]; with_reducible exact H2_) | (have H2_ := (Option.bind_some _ _).symm.trans H; with_reducible exact H2_) | with_reducible exact H | (rw [hy144]; exact H) | exact H
  have Ny144 := Aside0.mk hy144
  clear hy144
  have H' := Aside0.mk H
  clear H
  go_enter Try.func75, Try.ntmps75
  go_wp2_with (first | ((with_reducible refine gate_dst (N := 8) rfl ?_); refine Kd.R_lit (Kd.int .i64) _ 3 ?hg (N := 8) ?hd (xs := ([] : List Int)) (inner := []) (ok := fun _ => True) (okp := fun _ => True) ?hr ?hp (fun _ hk => hk) trivial (Below.refl _ _) (Nat.le_refl _) (by simp) ?_; (case hd => rfl); (case hg => rfl); (case hr => first | (go_simp; done) | (go_simp; rfl)); (case hp => exact (Reps.none _ _)); intro v145 w3 ho4 hb hg_ hnew_; clear hg_ hnew_; (first | rw [← Ny144.out] at ho4 | (simp only [Int.reduceToNat] at ho4; rw [← Ny144.out] at ho4)); have n0_ := Aside0.mk (Kd.R_lower ho4 (below_size (by repeat (first | (with_reducible first | exact HB.out | apply below_alloc | apply pw_below_drewN | apply below_drew1) | exact HB.out)))); have n1_ := Aside0.mk (below_step (by repeat (first | (with_reducible first | exact HB.out | apply below_alloc | apply pw_below_drewN | apply below_drew1) | exact HB.out)) hb); clear HB; have HO146 := n0_; have HB := n1_; clear n0_ n1_; clear hb ho4))
  go_loopg [5, 11] k (fun kq v5 v11 w' => ∃ (x5_1 : List Int) (x11_1 : Int), v11 = .int .i64 x11_1 ∧ Aside0 (impl_inYears.l0 kq a1 x5_1 l0 (l0.length : Int) x11_1 = some r) ∧ Aside0 (kq ≤ k) ∧ Aside0 (Kd.R (Kd.int .i64) 3 w' w.heap.size (fun _ => True) v5 x5_1) ∧ Aside0 (Below w.heap.size w w'))
  case atStart => exact ⟨(y144), (0), (by first | rfl | (simp; done) | (simp [*]; done)), H', ⟨Nat.le_refl _⟩, ⟨by (with_reducible repeat (first | apply Kd.R_alloc | apply Kd.R_drewN | apply Kd.R_drew)); exact HO146.out⟩, ⟨by repeat (first | (with_reducible first | exact HB.out | apply below_alloc | apply pw_below_drewN | apply below_drew1) | exact HB.out)⟩⟩
  case round =>
    clear H'
    try clear p2
    obtain ⟨x5_1, x11_1, rfl, HA, HK1, HO_5, HB⟩ := hrel
    cases gk with
    | zero => exact absurd HA.out (by simp [impl_inYears.l0])
    | succ k1 =>
      have H := HA.out
      clear HA
      simp only [impl_inYears.l0] at H
      by_cases c5 : x11_1 < (l0.length : Int)
      · rw [if_pos c5] at H
        have c5b0 : decide (x11_1 < (l0.length : Int)) = true := decide_eq_true c5
        clear c5
        by_cases c6 : 0 ≤ x11_1
        · rw [if_pos c6] at H
          have c6b0 : decide (0 ≤ x11_1) = true := decide_eq_true c6
          clear c6
          by_cases c7 : x11_1 < (l0.length : Int)
          · rw [if_pos c7] at H
            have c7b0 : decide (x11_1 < (l0.length : Int)) = true := decide_eq_true c7
            clear c7
            by_cases c8 : x5_1.length < 17592186044416
            · rw [if_pos c8] at H
              have LMc8 := Aside0.mk c8
              clear c8
              obtain ⟨y148, hy148⟩ : ∃ y_ : List Int, y_ = (x5_1 ++ [wrap64 ((rd l0 x11_1) + a1)]) := ⟨_, rfl⟩
              replace H : (impl_inYears.l0 k1 a1 y148 l0 (l0.length : Int) (wrap64 (x11_1 + 1))) = some r := by first | (rw [hy148]; with_reducible exact H) | (have H2_ := (Option.bind_some _ _).symm.trans H; rw [hy148]; with_reducible exact H2_) | (have H2_ := (Option.bind_some _ _).symm.trans H; with_reducible exact H2_) | with_reducible exact H | (rw [hy148]; exact H) | exact H
              have Ny148 := Aside0.mk hy148
              clear hy148
              have H' := Aside0.mk H
              clear H
              have p147 : 0 ≤ (x11_1 : Int) := of_decide_eq_true (by first | (with_reducible assumption) | assumption)
              have q147 : x11_1 < (l0.length : Int) := of_decide_eq_true (by first | (with_reducible assumption) | assumption)
              obtain ⟨ad147, e147, hx147_0⟩ := Kd.at_int HR0.out x11_1 p147 q147
              cases e147
              replace hx147_0 := (HB.out.cell (World.block_lt_of_cell? w _ hx147_0)).trans hx147_0
              replace p147 := eq_true p147
              replace q147 := eq_true q147
              go_wp2_with (first | ((with_reducible refine gate_builtin (b := .append) (xs := #[.tmp 15, .tmp 19]) rfl ?_); at_builtin; refine Kd.R_append (Kd.int .i64) (w0 := w) w.heap.size rfl (.tmp 15) (.tmp 19) 22 3 (.int .i64 0) 8 rfl Try.underlying22 info3 rfl (by decide) (by omega) u5 x5_1 (wrap64 ((rd l0 x11_1) + a1)) [.int .i64 (wrap64 ((rd l0 x11_1) + a1))] (fun _ => True) (fun _ => False) rfl rfl ?aP (fun _ hk => hk.elim) ?aF ?aO ?aB ?aS ?aL ?_; (case aP => exact rfl); (case aB => exact (by repeat (first | (with_reducible first | exact HB.out | apply below_alloc | apply pw_below_drewN | apply below_drew1) | exact HB.out))); (case aF => exact (fun _ _ => trivial)); (case aO => exact (by (with_reducible repeat (first | apply Kd.R_alloc | apply Kd.R_drewN | apply Kd.R_drew)); exact HO_5.out)); (case aS => exact (below_size (by repeat (first | (with_reducible first | exact HB.out | apply below_alloc | apply pw_below_drewN | apply below_drew1) | exact HB.out)))); (case aL => have := LMc8.out; omega); intro v149 w9 ho hb hg hat; rw [← Ny148.out] at ho; have n0_ := Aside0.mk (hb); have n1_ := Aside0.mk (ho); clear HB; clear HO_5; have HB := n0_; have HO150 := n1_; clear n0_ n1_; clear ho hb hg hat))
              go_roundg k1
              case measure => have := HK1.out; omega
              case rel => exact ⟨(y148), (wrap64 (x11_1 + 1)), (by first | rfl | (simp; done) | (simp [*]; done)), H', ⟨by have := HK1.out; omega⟩, ⟨by (with_reducible repeat (first | apply Kd.R_alloc | apply Kd.R_drewN | apply Kd.R_drew)); exact HO150.out⟩, ⟨by repeat (first | (with_reducible first | exact HB.out | apply below_alloc | apply pw_below_drewN | apply below_drew1) | exact HB.out)⟩⟩
            · rw [if_neg c8] at H
              exact absurd H (by simp)
          · rw [if_neg c7] at H
            exact absurd H (by simp)
        · rw [if_neg c6] at H
          exact absurd H (by simp)
      · rw [if_neg c5] at H
        have c5b0 : decide (x11_1 < (l0.length : Int)) = false := decide_eq_false c5
        clear c5
        obtain rfl := Option.some.inj H
        go_wp2
        go_ret
        exact ⟨_, by first | rfl | (simp [errW_none, errW_some] <;> rfl) | (simp [*, errW_none, errW_some] <;> rfl), by (with_reducible repeat (first | apply Kd.R_alloc | apply Kd.R_drewN | apply Kd.R_drew)); exact HO_5.out, by repeat (first | (with_reducible first | exact HB.out | apply below_alloc | apply pw_below_drewN | apply below_drew1) | exact HB.out)⟩

/-! ### impl_allYears: function 59 -/
/-- What is asked of a function value that looks at a list: in every later world it tells what p tells; it may lay memory. -/
def PredL (P : Program) (g : Nat) (lb : Array Value) (p : Nat → List Int → Option Bool) (w : World) : Prop :=
  ∀ (W : World) (A : Option Addr) (c : Nat) (m : List Int) (k : Nat) (b : Bool), Below w.heap.size w W → Kd.C (Kd.int .i64) W A m.length m → m.length ≤ c → p k m = some b →
    Calls P g (#[.slice A m.length c] ++ lb) W fun e w' => e = .returned (.bool b) ∧ Below W.heap.size W w'
def MonoP (p : Nat → List Int → Option Bool) : Prop := ∀ m k, LeO (p k m) (p (k + 1) m)
def allY.l0 (p : Nat → List Int → Option Bool) : Nat → List Int → List Int → Int → Int → Option (List Int)
  | 0, _, _, _, _ => none
  | k + 1, l, acc, hi, y => if y ≤ hi then (impl_inYears.f k l y).bind fun m => (p k m).bind fun b => if b = true then (if acc.length < 17592186044416 then allY.l0 p k l (acc ++ [y]) hi (wrap64 (y + 1)) else none) else allY.l0 p k l acc hi (wrap64 (y + 1)) else some acc
def allY.f (p : Nat → List Int → Option Bool) (k : Nat) (l : List Int) : Option (List Int) := (impl_fitYears.f l).bind fun q => allY.l0 p k l [] q.2 q.1
theorem allY.mono_l (p : Nat → List Int → Option Bool) (hp : MonoP p) (l : List Int) (hi : Int) : ∀ k acc y, LeO (allY.l0 p k l acc hi y) (allY.l0 p (k + 1) l acc hi y)
  | 0, _, y => LeO.none _
  | k + 1, acc, y => by
    rw [allY.l0, allY.l0]
    exact LeO.ite (LeO.bind (impl_inYears.mono _ _ _) fun m => LeO.bind (hp _ _) fun b => LeO.ite (LeO.ite (allY.mono_l p hp l hi k _ _) (LeO.refl _)) (allY.mono_l p hp l hi k _ _)) (LeO.refl _)
theorem allY.mono (p : Nat → List Int → Option Bool) (hp : MonoP p) (l : List Int) (k : Nat) : LeO (allY.f p k l) (allY.f p (k + 1) l) :=
  LeO.bind (LeO.refl _) fun q => allY.mono_l p hp l q.2 k [] q.1
set_option maxHeartbeats 4000000 in
set_option maxRecDepth 100000 in
theorem impl_allYears.calls (p : Nat → List Int → Option Bool) (g : Nat) (lb : Array Value) (k : Nat) (A0 : Option Addr) (c0 : Nat) (l0 : List Int) (r : List Int) (w : World)
    (hp : PredL Try.prog g lb p w) (eg : ∀ args w, (callFunc g args).run Try.prog w = .ok (.enter g args) w) (hr0 : Kd.C (Kd.int .i64) w A0 l0.length l0) (hc0 : l0.length ≤ c0) (h : allY.f p k l0 = some r) :
    Calls Try.prog 59 #[.slice A0 l0.length c0, .func (.func g) #[] lb] w fun e w' => ∃ v0_ : Value, e = .returned (v0_) ∧ Kd.R (Kd.int .i64) 3 w' w.heap.size (fun _ => True) v0_ r ∧ Below w.heap.size w w' := by
  have HP := Aside0.mk (show ∀ (W : World) (A : Option Addr) (c : Nat) (m : List Int) (k : Nat) (b : Bool), Below w.heap.size w W → Kd.C (Kd.int .i64) W A m.length m → m.length ≤ c → p k m = some b →
    Calls Try.prog g (#[.slice A m.length c] ++ lb) W fun e w' => e = .returned (.bool b) ∧ Below W.heap.size W w' from hp)
  have HR0 := Aside0.mk hr0
  have HC0 := Aside0.mk hc0
  clear hp hr0 hc0
  have H : ((impl_fitYears.f l0).bind fun q => allY.l0 p k l0 [] q.2 q.1) = some r := h
  clear h
  replace H := Option.bind_eq_some_iff.mp H
  obtain ⟨⟨lo, hi⟩, A20, H⟩ := H
  have A2 := Aside0.mk A20
  have H' := Aside0.mk (show allY.l0 p k l0 [] hi lo = some r from H)
  clear A20 H
  have HB := Aside0.mk (Below.refl w.heap.size w)
  go_enter Try.func59, Try.ntmps59
  go_wp2_with (first | ((with_reducible refine gate_dst (N := 9) rfl ?_); refine Kd.R_lit (Kd.int .i64) _ 3 ?hg (N := 9) ?hd (xs := ([] : List Int)) (inner := []) (ok := fun _ => True) (okp := fun _ => True) ?hr ?hp (fun _ hk => hk) trivial (Below.refl _ _) (Nat.le_refl _) (by simp) ?_; (case hd => rfl); (case hg => rfl); (case hr => first | (go_simp; done) | (go_simp; rfl)); (case hp => exact (Reps.none _ _)); intro v145 w3 ho4 hb hg_ hnew_; clear hg_ hnew_; have n0_ := Aside0.mk (Kd.R_lower ho4 (below_size (by repeat (first | (with_reducible first | exact HB.out | apply below_alloc | apply pw_below_drewN | apply below_drew1) | exact HB.out)))); have n1_ := Aside0.mk (below_step (by repeat (first | (with_reducible first | exact HB.out | apply below_alloc | apply pw_below_drewN | apply below_drew1) | exact HB.out)) hb); clear HB; have HO := n0_; have HB := n1_; clear n0_ n1_; clear hb ho4) | ((with_reducible refine gate_callee (f := 74) rfl ?_); refine goesL_ _ rfl rfl Try.func74 (by kernel_rfl) rfl #[.slice A0 l0.length c0] rfl (by (try simp only [List.map_toArray, List.map_cons, List.map_nil]); first | done | rfl) ?_; (with_reducible refine (impl_fitYears.calls _ _ l0 lo hi _ (Kd.C_below HR0.out HB.out) HC0.out A2.out).mono ?_); rintro e w' ⟨rfl, ⟨nd, rfl⟩⟩; refine ⟨_, rfl, ?_⟩))
  go_loopg [5, 8] k (fun kq v5 v8 wr => ∃ (acc : List Int) (y : Int), v8 = .int .i64 y ∧ Aside0 (allY.l0 p kq l0 acc hi y = some r) ∧ Aside0 (kq ≤ k) ∧ Aside0 (Kd.R (Kd.int .i64) 3 wr w.heap.size (fun _ => True) v5 acc) ∧ Aside0 (Below w.heap.size w wr))
  case atStart => exact ⟨[], lo, rfl, H', ⟨Nat.le_refl _⟩, ⟨by (with_reducible repeat (first | apply Kd.R_alloc | apply Kd.R_drewN | apply Kd.R_drew)); exact HO.out⟩, ⟨(by repeat (first | (with_reducible first | exact HB.out | apply below_alloc | apply pw_below_drewN | apply below_drew1) | exact HB.out))⟩⟩
  case round =>
    clear H'
    obtain ⟨acc, y, rfl, HA, HK1, HO, HB⟩ := hrel
    cases gk with
    | zero => exact absurd HA.out (by simp [allY.l0])
    | succ k1 =>
      have H := HA.out
      clear HA
      simp only [allY.l0] at H
      by_cases c3 : y ≤ hi
      · rw [if_pos c3] at H
        have c3b0 : decide (y ≤ hi) = true := decide_eq_true c3
        clear c3
        replace H := Option.bind_eq_some_iff.mp H
        obtain ⟨m, A30, H⟩ := H
        have A3 := Aside0.mk A30
        clear A30
        replace H := Option.bind_eq_some_iff.mp H
        obtain ⟨b, A40, H⟩ := H
        have A4 := Aside0.mk A40
        clear A40
        cases b with
        | true =>
          replace H := (if_pos rfl).symm.trans H
          by_cases c8 : acc.length < 17592186044416
          · rw [if_pos c8] at H
            have LM := Aside0.mk c8
            have HE := Aside0.mk H
            clear c8 H
            go_wp2_with (first | (go_at_call 75; (with_reducible refine (impl_inYears.calls k1 _ _ l0 y m _ (Kd.C_below HR0.out HB.out) HC0.out A3.out).mono ?_); rintro e w1 ⟨v1, rfl, ho, hb⟩; obtain ⟨A1, c1, rfl, hc1, hC1⟩ := Kd.R_reads ho; have HC1 := Aside0.mk hc1; have HR1 := Aside0.mk hC1; clear hc1 hC1 ho; have n1_ := Aside0.mk (Kd.R_below HO.out hb); clear HO; have HO := n1_; clear n1_; have n0_ := Aside0.mk (below_step HB.out hb); clear HB hb; have HB := n0_; clear n0_) | ((with_reducible refine (HP.out _ _ _ m k1 true HB.out HR1.out HC1.out A4.out).mono ?_); rintro e w2 ⟨rfl, hb⟩; have n1_ := Aside0.mk (Kd.R_below HO.out hb); clear HO; have HO := n1_; clear n1_; have n0_ := Aside0.mk (below_step HB.out hb); clear HB hb; have HB := n0_; clear n0_) | ((with_reducible refine gate_builtin (b := .append) (xs := #[.tmp 26, .tmp 28]) rfl ?_); at_builtin; refine Kd.R_append (Kd.int .i64) (w0 := w) w.heap.size rfl (.tmp 26) (.tmp 28) 22 3 (.int .i64 0) 8 rfl Try.underlying22 info3 rfl (by decide) (by omega) u5 acc y [.int .i64 y] (fun _ => True) (fun _ => False) rfl rfl ?aP (fun _ hk => hk.elim) ?aF ?aO ?aB ?aS ?aL ?_; (case aP => exact rfl); (case aB => exact (by repeat (first | (with_reducible first | exact HB.out | apply below_alloc | apply pw_below_drewN | apply below_drew1) | exact HB.out))); (case aF => exact (fun _ _ => trivial)); (case aO => exact (by (with_reducible repeat (first | apply Kd.R_alloc | apply Kd.R_drewN | apply Kd.R_drew)); exact HO.out)); (case aS => exact (below_size (by repeat (first | (with_reducible first | exact HB.out | apply below_alloc | apply pw_below_drewN | apply below_drew1) | exact HB.out)))); (case aL => have := LM.out; omega); intro v149 w9 ho hb hg hat; have n0_ := Aside0.mk (hb); have n1_ := Aside0.mk (ho); clear HB; clear HO; have HB := n0_; have HO := n1_; clear n0_ n1_; clear ho hb hg hat))
            go_roundg k1
            case measure => have := HK1.out; omega
            case rel => exact ⟨acc ++ [y], wrap64 (y + 1), by first | rfl | (simp; done), HE, ⟨by have := HK1.out; omega⟩, ⟨by (with_reducible repeat (first | apply Kd.R_alloc | apply Kd.R_drewN | apply Kd.R_drew)); exact HO.out⟩, ⟨(by repeat (first | (with_reducible first | exact HB.out | apply below_alloc | apply pw_below_drewN | apply below_drew1) | exact HB.out))⟩⟩
          · rw [if_neg c8] at H
            exact absurd H (by simp)
        | false =>
          have HE := Aside0.mk (show allY.l0 p k1 l0 acc hi (wrap64 (y + 1)) = some r from H)
          clear H
          go_wp2_with (first | (go_at_call 75; (with_reducible refine (impl_inYears.calls k1 _ _ l0 y m _ (Kd.C_below HR0.out HB.out) HC0.out A3.out).mono ?_); rintro e w1 ⟨v1, rfl, ho, hb⟩; obtain ⟨A1, c1, rfl, hc1, hC1⟩ := Kd.R_reads ho; have HC1 := Aside0.mk hc1; have HR1 := Aside0.mk hC1; clear hc1 hC1 ho; have n1_ := Aside0.mk (Kd.R_below HO.out hb); clear HO; have HO := n1_; clear n1_; have n0_ := Aside0.mk (below_step HB.out hb); clear HB hb; have HB := n0_; clear n0_) | ((with_reducible refine (HP.out _ _ _ m k1 false HB.out HR1.out HC1.out A4.out).mono ?_); rintro e w2 ⟨rfl, hb⟩; have n1_ := Aside0.mk (Kd.R_below HO.out hb); clear HO; have HO := n1_; clear n1_; have n0_ := Aside0.mk (below_step HB.out hb); clear HB hb; have HB := n0_; clear n0_))
          go_roundg k1
          case measure => have := HK1.out; omega
          case rel => exact ⟨acc, wrap64 (y + 1), by first | rfl | (simp; done), HE, ⟨by have := HK1.out; omega⟩, ⟨by (with_reducible repeat (first | apply Kd.R_alloc | apply Kd.R_drewN | apply Kd.R_drew)); exact HO.out⟩, ⟨(by repeat (first | (with_reducible first | exact HB.out | apply below_alloc | apply pw_below_drewN | apply below_drew1) | exact HB.out))⟩⟩
      · rw [if_neg c3] at H
        have c3b0 : decide (y ≤ hi) = false := decide_eq_false c3
        clear c3
        obtain rfl := Option.some.inj H
        go_wp2
        go_ret
        exact ⟨_, by first | rfl | (simp; done), HO.out, (by repeat (first | (with_reducible first | exact HB.out | apply below_alloc | apply pw_below_drewN | apply below_drew1) | exact HB.out))⟩
/-- allYears where the function value keeps a state of its own and tells false: I holds of the state in each world; what is but made leaves it. -/
def allYS.l0 {α : Type} (step : Nat → List Int → α → Option α) : Nat → List Int → α → Int → Int → Option α
  | 0, _, _, _, _ => none
  | k + 1, l, s, hi, y => if y ≤ hi then (impl_inYears.f k l y).bind fun m => (step k m s).bind fun s2 => allYS.l0 step k l s2 hi (wrap64 (y + 1)) else some s
def allYS.f {α : Type} (step : Nat → List Int → α → Option α) (k : Nat) (l : List Int) (s : α) : Option α := (impl_fitYears.f l).bind fun q => allYS.l0 step k l s q.2 q.1
set_option maxHeartbeats 4000000 in
set_option maxRecDepth 100000 in
theorem impl_allYearsS.calls {α : Type} (I : World → α → Prop) (step : Nat → List Int → α → Option α) (g : Nat) (lb : Array Value) (k : Nat) (A0 : Option Addr) (c0 : Nat) (l0 : List Int) (s r : α) (w0 w : World)
    (hIb : ∀ (W W' : World) (s : α), I W s → Below W.heap.size W W' → I W' s)
    (hp : ∀ (W : World) (A : Option Addr) (c : Nat) (m : List Int) (k : Nat) (s s' : α), Below w0.heap.size w0 W → I W s → Kd.C (Kd.int .i64) W A m.length m → m.length ≤ c → step k m s = some s' →
      Calls Try.prog g (#[.slice A m.length c] ++ lb) W fun e w' => e = .returned (.bool false) ∧ I w' s' ∧ Below w0.heap.size w0 w')
    (eg : ∀ args w, (callFunc g args).run Try.prog w = .ok (.enter g args) w) (hr0 : Kd.C (Kd.int .i64) w0 A0 l0.length l0) (hc0 : l0.length ≤ c0) (hB : Below w0.heap.size w0 w) (hI : I w s) (h : allYS.f step k l0 s = some r) :
    Calls Try.prog 59 #[.slice A0 l0.length c0, .func (.func g) #[] lb] w fun e w' => (∃ v0_ : Value, e = .returned (v0_)) ∧ I w' r ∧ Below w0.heap.size w0 w' := by
  have HP := Aside0.mk hp
  have HIB := Aside0.mk hIb
  have HR0 := Aside0.mk hr0
  have HC0 := Aside0.mk hc0
  have HB := Aside0.mk hB
  have HI := Aside0.mk hI
  clear hp hIb hr0 hc0 hB hI
  have H : ((impl_fitYears.f l0).bind fun q => allYS.l0 step k l0 s q.2 q.1) = some r := h
  clear h
  replace H := Option.bind_eq_some_iff.mp H
  obtain ⟨⟨lo, hi⟩, A20, H⟩ := H
  have A2 := Aside0.mk A20
  have H' := Aside0.mk (show allYS.l0 step k l0 s hi lo = some r from H)
  clear A20 H
  go_enter Try.func59, Try.ntmps59
  go_wp2_with (first | ((with_reducible refine gate_dst (N := 9) rfl ?_); refine Kd.R_lit (Kd.int .i64) _ 3 ?hg (N := 9) ?hd (xs := ([] : List Int)) (inner := []) (ok := fun _ => True) (okp := fun _ => True) ?hr ?hp (fun _ hk => hk) trivial (Below.refl _ _) (Nat.le_refl _) (by simp) ?_; (case hd => rfl); (case hg => rfl); (case hr => first | (go_simp; done) | (go_simp; rfl)); (case hp => exact (Reps.none _ _)); intro v145 w3 ho4 hb hg_ hnew_; clear hg_ hnew_ ho4; have n0_ := Aside0.mk (HIB.out _ _ _ HI.out hb); have n1_ := Aside0.mk (below_step HB.out hb); clear HB HI; have HI := n0_; have HB := n1_; clear n0_ n1_ hb) | ((with_reducible refine gate_callee (f := 74) rfl ?_); refine goesL_ _ rfl rfl Try.func74 (by kernel_rfl) rfl #[.slice A0 l0.length c0] rfl (by (try simp only [List.map_toArray, List.map_cons, List.map_nil]); first | done | rfl) ?_; (with_reducible refine (impl_fitYears.calls _ _ l0 lo hi _ (Kd.C_below HR0.out HB.out) HC0.out A2.out).mono ?_); rintro e w' ⟨rfl, ⟨nd, rfl⟩⟩; refine ⟨_, rfl, ?_⟩; have n0_ := Aside0.mk (HIB.out _ _ _ HI.out (pw_below_drewN (Below.refl _ _) nd)); have n1_ := Aside0.mk (pw_below_drewN HB.out nd); clear HB HI; have HI := n0_; have HB := n1_; clear n0_ n1_))
  go_loopg [5, 8] k (fun kq _ v8 wr => ∃ (s1 : α) (y : Int), v8 = .int .i64 y ∧ Aside0 (allYS.l0 step kq l0 s1 hi y = some r) ∧ Aside0 (kq ≤ k) ∧ Aside0 (I wr s1) ∧ Aside0 (Below w0.heap.size w0 wr))
  case atStart => exact ⟨s, lo, rfl, H', ⟨Nat.le_refl _⟩, HI, HB⟩
  case round =>
    clear H' HI HB
    obtain ⟨s1, y, rfl, HA, HK1, HI, HB⟩ := hrel
    cases gk with
    | zero => exact absurd HA.out (by simp [allYS.l0])
    | succ k1 =>
      have H := HA.out
      clear HA
      simp only [allYS.l0] at H
      by_cases c3 : y ≤ hi
      · rw [if_pos c3] at H
        have c3b0 : decide (y ≤ hi) = true := decide_eq_true c3
        clear c3
        replace H := Option.bind_eq_some_iff.mp H
        obtain ⟨m, A30, H⟩ := H
        have A3 := Aside0.mk A30
        replace H := Option.bind_eq_some_iff.mp H
        obtain ⟨s2, A40, H⟩ := H
        have A4 := Aside0.mk A40
        have HE := Aside0.mk (show allYS.l0 step k1 l0 s2 hi (wrap64 (y + 1)) = some r from H)
        clear A30 A40 H
        go_wp2_with (first | (go_at_call 75; (with_reducible refine (impl_inYears.calls k1 _ _ l0 y m _ (Kd.C_below HR0.out HB.out) HC0.out A3.out).mono ?_); rintro e w1 ⟨v1, rfl, ho, hb⟩; obtain ⟨A1, c1, rfl, hc1, hC1⟩ := Kd.R_reads ho; have HC1 := Aside0.mk hc1; have HR1 := Aside0.mk hC1; clear hc1 hC1 ho; have n1_ := Aside0.mk (HIB.out _ _ _ HI.out hb); clear HI; have HI := n1_; clear n1_; have n0_ := Aside0.mk (below_step HB.out hb); clear HB hb; have HB := n0_; clear n0_) | ((with_reducible refine (HP.out _ _ _ m k1 s1 s2 HB.out HI.out HR1.out HC1.out A4.out).mono ?_); rintro e w2 ⟨rfl, hi2, hb⟩; clear HI HB; have HI := Aside0.mk hi2; have HB := Aside0.mk hb; clear hi2 hb))
        go_roundg k1
        case measure => have := HK1.out; omega
        case rel => exact ⟨s2, wrap64 (y + 1), by first | rfl | (simp; done), HE, ⟨by have := HK1.out; omega⟩, HI, HB⟩
      · rw [if_neg c3] at H
        have c3b0 : decide (y ≤ hi) = false := decide_eq_false c3
        clear c3
        obtain rfl := Option.some.inj H
        go_wp2
        go_ret
        exact ⟨⟨_, rfl⟩, HI.out, HB.out⟩

/-! ### impl_AllMultiples_1: function 71 -/
def impl_AllMultiples_1.step (l : List Int) (a b : Int) (k : Nat) (m : List Int) (s : List (List Int)) : Option (List (List Int)) := if 0 ≤ b then (if b < (m.length : Int) then (if rd m b ≥ 1 then (if 0 ≤ a then (if a < (m.length : Int) then (if Int.tmod (rd m a) (rd m b) = 0 then (if wrap64 (Int.tdiv (rd m a) (rd m b)) ≥ 2 then (if a < (l.length : Int) then (if s.length < 5864062014805 then some (s ++ [[wrap64 (rd m a - rd l a), wrap64 (Int.tdiv (rd m a) (rd m b))]]) else none) else none) else some s) else some s) else none) else none) else some s) else none) else none
/-- What holds of the four boxes: the ages', a's, b's, and the result's. -/
def impl_AllMultiples_1.Inv (l : List Int) (a b : Int) (Al : Option Addr) (cl bg ba bb bo base : Nat) (W : World) (s : List (List Int)) : Prop :=
  W.heap[bg]? = some (.cells #[.slice Al l.length cl] 22 (0, 0)) ∧ W.heap[ba]? = some (.cells #[.int .i64 a] 3 (0, 0)) ∧ W.heap[bb]? = some (.cells #[.int .i64 b] 3 (0, 0)) ∧ ∃ v, W.heap[bo]? = some (.cells #[v] 37 (0, 0)) ∧ Kd.S (Kd.slice 3 (Kd.int .i64)) 22 W base (fun k => k ≠ bg) v s
theorem impl_AllMultiples_1.Inv_below {l : List Int} {a b : Int} {Al : Option Addr} {cl bg ba bb bo base : Nat} (W W' : World) (s : List (List Int)) (h : impl_AllMultiples_1.Inv l a b Al cl bg ba bb bo base W s) (hb : Below W.heap.size W W') : impl_AllMultiples_1.Inv l a b Al cl bg ba bb bo base W' s := by
  obtain ⟨h1, h2, h3, v, h4, h5⟩ := h
  exact ⟨blk_below h1 hb, blk_below h2 hb, blk_below h3 hb, v, blk_below h4 hb, Kd.S_below h5 hb⟩
set_option maxHeartbeats 8000000 in
set_option maxRecDepth 100000 in
theorem impl_AllMultiples_1.calls (l : List Int) (a b : Int) (Al : Option Addr) (cl bg ba bb bo : Nat) (w0 : World) (hl : Kd.C (Kd.int .i64) w0 Al l.length l) (hd1 : bg ≠ bo) (hd2 : ba ≠ bo) (hd3 : bb ≠ bo) (hbo : w0.heap.size ≤ bo) :
    ∀ (W : World) (A : Option Addr) (c : Nat) (m : List Int) (k : Nat) (s s' : List (List Int)), Below w0.heap.size w0 W → impl_AllMultiples_1.Inv l a b Al cl bg ba bb bo w0.heap.size W s → Kd.C (Kd.int .i64) W A m.length m → m.length ≤ c → impl_AllMultiples_1.step l a b k m s = some s' →
      Calls Try.prog 71 (#[.slice A m.length c] ++ #[.pointer (some ⟨bb, 0, none⟩), .pointer (some ⟨ba, 0, none⟩), .pointer (some ⟨bo, 0, none⟩), .pointer (some ⟨bg, 0, none⟩)]) W fun e w' => e = .returned (.bool false) ∧ impl_AllMultiples_1.Inv l a b Al cl bg ba bb bo w0.heap.size w' s' ∧ Below w0.heap.size w0 w' := by
  intro W A c m k s s' hB hI hC hc h
  have HI := Aside0.mk hI
  have HIB := Aside0.mk (@impl_AllMultiples_1.Inv_below l a b Al cl bg ba bb bo w0.heap.size)
  obtain ⟨hbg, hba, hbb, v, hbx, hS⟩ := hI
  have HB := Aside0.mk hB
  have HL := Aside0.mk (Kd.C_below hl hB)
  have HR0 := Aside0.mk hC
  have HC0 := Aside0.mk hc
  have HS := Aside0.mk hS
  have BO := Aside0.mk hbx
  have BB := Aside0.mk hbb
  have BA := Aside0.mk hba
  have BG := Aside0.mk hbg
  have c0 : W.cell? ⟨bo, 0, none⟩ = some v := (blk_cell hbx 0).trans rfl
  have c1 : W.cell? ⟨ba, 0, none⟩ = some (.int .i64 a) := (blk_cell hba 0).trans rfl
  have c2 : W.cell? ⟨bb, 0, none⟩ = some (.int .i64 b) := (blk_cell hbb 0).trans rfl
  have c3 : W.cell? ⟨bg, 0, none⟩ = some (.slice Al l.length cl) := (blk_cell hbg 0).trans rfl
  clear hB hC hc hS hbx hbb hba hbg hl
  have DD := Aside0.mk (And.intro hd1 (And.intro hd2 (And.intro hd3 hbo)))
  clear hd1 hd2 hd3 hbo
  show Calls Try.prog 71 #[.slice A m.length c, .pointer (some ⟨bb, 0, none⟩), .pointer (some ⟨ba, 0, none⟩), .pointer (some ⟨bo, 0, none⟩), .pointer (some ⟨bg, 0, none⟩)] W fun e w' => e = .returned (.bool false) ∧ impl_AllMultiples_1.Inv l a b Al cl bg ba bb bo w0.heap.size w' s' ∧ Below w0.heap.size w0 w'
  unfold impl_AllMultiples_1.step at h
  have q1a : 0 ≤ b := by
    by_cases q : 0 ≤ b
    · exact q
    · rw [if_neg q] at h; cases h
  rw [if_pos q1a] at h
  have q1b : b < (m.length : Int) := by
    by_cases q : b < (m.length : Int)
    · exact q
    · rw [if_neg q] at h; cases h
  rw [if_pos q1b] at h
  have p1 : 0 ≤ b := q1a
  have r1 : b < (m.length : Int) := q1b
  obtain ⟨adm, e1, hx1⟩ := Kd.at_int HR0.out b p1 r1
  cases e1
  replace p1 := eq_true p1
  replace r1 := eq_true r1
  by_cases g1 : rd m b ≥ 1
  · rw [if_pos g1] at h
    have g1b : decide (1 ≤ rd m b) = true := decide_eq_true g1
    have q2a : 0 ≤ a := by
      by_cases q : 0 ≤ a
      · exact q
      · rw [if_neg q] at h; cases h
    rw [if_pos q2a] at h
    have q2b : a < (m.length : Int) := by
      by_cases q : a < (m.length : Int)
      · exact q
      · rw [if_neg q] at h; cases h
    rw [if_pos q2b] at h
    have p2 : 0 ≤ a := q2a
    have r2 : a < (m.length : Int) := q2b
    obtain ⟨ad2, e2, hx2⟩ := Kd.at_int HR0.out a p2 r2
    cases e2
    replace p2 := eq_true p2
    replace r2 := eq_true r2
    have z0 : ((rd m b) == 0) = false := by rw [beq_eq_false_iff_ne]; omega
    have zf : ¬ (rd m b = 0) := by omega
    by_cases g2 : Int.tmod (rd m a) (rd m b) = 0
    · rw [if_pos g2] at h
      have g2b : (Int.tmod (rd m a) (rd m b) == 0) = true := beq_iff_eq.mpr g2
      by_cases g3 : wrap64 (Int.tdiv (rd m a) (rd m b)) ≥ 2
      · rw [if_pos g3] at h
        have g3b : decide (2 ≤ wrap64 (Int.tdiv (rd m a) (rd m b))) = true := decide_eq_true g3
        have g3c : decide (2 ≤ IntKind.i64.wrap (Int.tdiv (rd m a) (rd m b))) = true := by simp only [i64_w]; exact g3b
        have q3 : a < (l.length : Int) := by
          by_cases q : a < (l.length : Int)
          · exact q
          · rw [if_neg q] at h; cases h
        rw [if_pos q3] at h
        have q4 : s.length < 5864062014805 := by
          by_cases q : s.length < 5864062014805
          · exact q
          · rw [if_neg q] at h; cases h
        rw [if_pos q4] at h
        have LM := Aside0.mk q4
        have r3 : a < (l.length : Int) := q3
        obtain ⟨adl, e3, hx3⟩ := Kd.at_int HL.out a q2a r3
        subst e3
        replace r3 := eq_true r3
        obtain ⟨row, hrow⟩ : ∃ row : List Int, row = [wrap64 (rd m a - rd l a), wrap64 (Int.tdiv (rd m a) (rd m b))] := ⟨_, rfl⟩
        rw [← hrow] at h
        have HE := Aside0.mk (Option.some.inj h)
        have HROW := Aside0.mk hrow.symm
        clear g2 g3 h q1a q1b q2a q2b q3 q4 hrow
        go_enter Try.func71, Try.ntmps71
        go_wp2
        go_quiet (fail)
        try go_wp2
        have k0 : (W.drewN nq).drew.cell? ⟨bo, 0, none⟩ = some v := c0
        have k1 : (W.drewN nq).drew.cell? ⟨ba, 0, none⟩ = some (.int .i64 a) := c1
        have k2 : (W.drewN nq).drew.cell? ⟨bb, 0, none⟩ = some (.int .i64 b) := c2
        have k3 : (W.drewN nq).drew.cell? ⟨bg, 0, none⟩ = some (.slice (some adl) l.length cl) := c3
        have k4 : (W.drewN nq).drew.cell? (adl.add a.toNat) = some (.int .i64 (rd l a)) := hx3
        have k5 : (W.drewN nq).drew.cell? (adm.add a.toNat) = some (.int .i64 (rd m a)) := hx2
        have k6 : (W.drewN nq).drew.cell? (adm.add b.toNat) = some (.int .i64 (rd m b)) := hx1
        replace HS := Aside0.mk (Kd.S_drew (Kd.S_drewN HS.out nq))
        replace HB := Aside0.mk (show Below w0.heap.size w0 (W.drewN nq).drew by repeat (first | exact HB.out | apply pw_below_drewN | apply below_drew1))
        replace BO : Aside0 ((W.drewN nq).drew.heap[bo]? = some (.cells #[v] 37 (0, 0))) := ⟨BO.out⟩
        replace BB : Aside0 ((W.drewN nq).drew.heap[bb]? = some (.cells #[.int .i64 b] 3 (0, 0))) := ⟨BB.out⟩
        replace BA : Aside0 ((W.drewN nq).drew.heap[ba]? = some (.cells #[.int .i64 a] 3 (0, 0))) := ⟨BA.out⟩
        replace BG : Aside0 ((W.drewN nq).drew.heap[bg]? = some (.cells #[.slice (some adl) l.length cl] 22 (0, 0))) := ⟨BG.out⟩
        clear c0 c1 c2 c3 hx1 hx2 hx3 HI HL HR0
        refine start_ (n := 23) (S := fun w' => w'.cell? ⟨bo, 0, none⟩ = some (v) ∧ w'.cell? ⟨ba, 0, none⟩ = some (.int .i64 a) ∧ w'.cell? ⟨bb, 0, none⟩ = some (.int .i64 b) ∧ w'.cell? ⟨bg, 0, none⟩ = some (.slice (some adl) l.length cl) ∧ w'.cell? (adl.add a.toNat) = some (.int .i64 (rd l a)) ∧ w'.cell? (adm.add a.toNat) = some (.int .i64 (rd m a)) ∧ w'.cell? (adm.add b.toNat) = some (.int .i64 (rd m b))) (ds := [21, 22]) #[false, false, false, false, false, false, false, false, false, false, false, false, false, false, false, false, false, false, false, false, false, false, false] (by kernel_rfl) rfl rfl ⟨k0, k1, k2, k3, k4, k5, k6⟩ (fun hHeld => ?_)
        generalize (W.drewN nq).drew = wq at HS HB BO BB BA BG k0 k1 k2 k3 k4 k5 k6 hHeld ⊢
        clear k0 k1 k2 k3 k4 k5 k6
        refine pure_ (i := 1) (N := some 37) (v := ?_) (a' := ?_) #[false, true, false, false, false, false, false, false, false, false, false, false, false, false, false, false, false, false, false, false, false, false, false] rfl rfl (by kernel_rfl) (fun _ _ _ h => h) (Or.inl ⟨by rfl, ?_⟩) ?_ ?_
        rotate_left
        · intro w'
          go_simp
          with_reducible rfl
        rotate_left
        · simp only [Act.put, List.setIfInBounds_toArray, List.set_cons_zero, List.set_cons_succ, i64_w, i32_w]
          rfl
        refine pure_ (i := 10) (N := some 46) (v := ?_) (a' := ?_) #[false, true, false, false, false, false, false, false, false, false, true, false, false, false, false, false, false, false, false, false, false, false, false] rfl rfl (by kernel_rfl) (fun _ _ _ h => h) (Or.inl ⟨by rfl, ?_⟩) ?_ ?_
        rotate_left
        · intro w'
          go_simp
          with_reducible rfl
        rotate_left
        · simp only [Act.put, List.setIfInBounds_toArray, List.set_cons_zero, List.set_cons_succ, i64_w, i32_w]
          rfl
        refine pure_ (i := 14) (N := some 50) (v := ?_) (a' := ?_) #[false, true, false, false, false, false, false, false, false, false, true, false, false, false, true, false, false, false, false, false, false, false, false] rfl rfl (by kernel_rfl) (fun _ _ _ h => h) (Or.inl ⟨by rfl, ?_⟩) ?_ ?_
        rotate_left
        · intro w'
          go_simp
          with_reducible rfl
        rotate_left
        · simp only [Act.put, List.setIfInBounds_toArray, List.set_cons_zero, List.set_cons_succ, i64_w, i32_w]
          rfl
        refine take_ (i := 0) (N := some 36) (v := ?_) (a' := ?_) #[true, true, false, false, false, false, false, false, false, false, true, false, false, false, true, false, false, false, false, false, false, false, false] rfl rfl (by kernel_rfl) (fun _ _ _ h => h) (Or.inl ⟨by rfl, ?_⟩) hHeld ?_ ?_
        rotate_left
        · rintro w' ⟨s0, s1, s2, s3, s4, s5, s6⟩
          go_simp
          with_reducible rfl
        rotate_left
        · simp only [Act.put, List.setIfInBounds_toArray, List.set_cons_zero, List.set_cons_succ, i64_w, i32_w]
          rfl
        refine take_ (i := 2) (N := some 38) (v := ?_) (a' := ?_) #[true, true, true, false, false, false, false, false, false, false, true, false, false, false, true, false, false, false, false, false, false, false, false] rfl rfl (by kernel_rfl) (fun _ _ _ h => h) (Or.inl ⟨by rfl, ?_⟩) hHeld ?_ ?_
        rotate_left
        · rintro w' ⟨s0, s1, s2, s3, s4, s5, s6⟩
          go_simp
          with_reducible rfl
        rotate_left
        · simp only [Act.put, List.setIfInBounds_toArray, List.set_cons_zero, List.set_cons_succ, i64_w, i32_w]
          rfl
        refine pure_ (i := 3) (N := some 39) (v := ?_) (a' := ?_) #[true, true, true, true, false, false, false, false, false, false, true, false, false, false, true, false, false, false, false, false, false, false, false] rfl rfl (by kernel_rfl) (fun _ _ _ h => h) (Or.inl ⟨by rfl, ?_⟩) ?_ ?_
        rotate_left
        · intro w'
          go_simp
          with_reducible rfl
        rotate_left
        · simp only [Act.put, List.setIfInBounds_toArray, List.set_cons_zero, List.set_cons_succ, i64_w, i32_w]
          rfl
        refine take_ (i := 4) (N := some 40) (v := ?_) (a' := ?_) #[true, true, true, true, true, false, false, false, false, false, true, false, false, false, true, false, false, false, false, false, false, false, false] rfl rfl (by kernel_rfl) (fun _ _ _ h => h) (Or.inl ⟨by rfl, ?_⟩) hHeld ?_ ?_
        rotate_left
        · rintro w' ⟨s0, s1, s2, s3, s4, s5, s6⟩
          go_simp
          with_reducible rfl
        rotate_left
        · simp only [Act.put, List.setIfInBounds_toArray, List.set_cons_zero, List.set_cons_succ, i64_w, i32_w]
          rfl
        refine take_ (i := 5) (N := some 41) (v := ?_) (a' := ?_) #[true, true, true, true, true, true, false, false, false, false, true, false, false, false, true, false, false, false, false, false, false, false, false] rfl rfl (by kernel_rfl) (fun _ _ _ h => h) (Or.inl ⟨by rfl, ?_⟩) hHeld ?_ ?_
        rotate_left
        · rintro w' ⟨s0, s1, s2, s3, s4, s5, s6⟩
          go_simp
          with_reducible rfl
        rotate_left
        · simp only [Act.put, List.setIfInBounds_toArray, List.set_cons_zero, List.set_cons_succ, i64_w, i32_w]
          rfl
        refine take_ (i := 6) (N := some 42) (v := ?_) (a' := ?_) #[true, true, true, true, true, true, true, false, false, false, true, false, false, false, true, false, false, false, false, false, false, false, false] rfl rfl (by kernel_rfl) (fun _ _ _ h => h) (Or.inl ⟨by rfl, ?_⟩) hHeld ?_ ?_
        rotate_left
        · rintro w' ⟨s0, s1, s2, s3, s4, s5, s6⟩
          go_simp
          with_reducible rfl
        rotate_left
        · simp only [Act.put, List.setIfInBounds_toArray, List.set_cons_zero, List.set_cons_succ, i64_w, i32_w]
          rfl
        refine pure_ (i := 7) (N := some 43) (v := ?_) (a' := ?_) #[true, true, true, true, true, true, true, true, false, false, true, false, false, false, true, false, false, false, false, false, false, false, false] rfl rfl (by kernel_rfl) (fun _ _ _ h => h) (Or.inl ⟨by rfl, ?_⟩) ?_ ?_
        rotate_left
        · intro w'
          go_simp
          with_reducible rfl
        rotate_left
        · simp only [Act.put, List.setIfInBounds_toArray, List.set_cons_zero, List.set_cons_succ, i64_w, i32_w]
          rfl
        refine take_ (i := 8) (N := some 44) (v := ?_) (a' := ?_) #[true, true, true, true, true, true, true, true, true, false, true, false, false, false, true, false, false, false, false, false, false, false, false] rfl rfl (by kernel_rfl) (fun _ _ _ h => h) (Or.inl ⟨by rfl, ?_⟩) hHeld ?_ ?_
        rotate_left
        · rintro w' ⟨s0, s1, s2, s3, s4, s5, s6⟩
          go_simp
          with_reducible rfl
        rotate_left
        · simp only [Act.put, List.setIfInBounds_toArray, List.set_cons_zero, List.set_cons_succ, i64_w, i32_w]
          rfl
        refine pure_ (i := 9) (N := some 45) (v := ?_) (a' := ?_) #[true, true, true, true, true, true, true, true, true, true, true, false, false, false, true, false, false, false, false, false, false, false, false] rfl rfl (by kernel_rfl) (fun _ _ _ h => h) (Or.inl ⟨by rfl, ?_⟩) ?_ ?_
        rotate_left
        · intro w'
          go_simp
          with_reducible rfl
        rotate_left
        · simp only [Act.put, List.setIfInBounds_toArray, List.set_cons_zero, List.set_cons_succ, i64_w, i32_w]
          rfl
        refine take_ (i := 11) (N := some 47) (v := ?_) (a' := ?_) #[true, true, true, true, true, true, true, true, true, true, true, true, false, false, true, false, false, false, false, false, false, false, false] rfl rfl (by kernel_rfl) (fun _ _ _ h => h) (Or.inl ⟨by rfl, ?_⟩) hHeld ?_ ?_
        rotate_left
        · rintro w' ⟨s0, s1, s2, s3, s4, s5, s6⟩
          go_simp
          with_reducible rfl
        rotate_left
        · simp only [Act.put, List.setIfInBounds_toArray, List.set_cons_zero, List.set_cons_succ, i64_w, i32_w]
          rfl
        refine pure_ (i := 12) (N := some 48) (v := ?_) (a' := ?_) #[true, true, true, true, true, true, true, true, true, true, true, true, true, false, true, false, false, false, false, false, false, false, false] rfl rfl (by kernel_rfl) (fun _ _ _ h => h) (Or.inl ⟨by rfl, ?_⟩) ?_ ?_
        rotate_left
        · intro w'
          go_simp
          with_reducible rfl
        rotate_left
        · simp only [Act.put, List.setIfInBounds_toArray, List.set_cons_zero, List.set_cons_succ, i64_w, i32_w]
          rfl
        refine take_ (i := 13) (N := some 49) (v := ?_) (a' := ?_) #[true, true, true, true, true, true, true, true, true, true, true, true, true, true, true, false, false, false, false, false, false, false, false] rfl rfl (by kernel_rfl) (fun _ _ _ h => h) (Or.inl ⟨by rfl, ?_⟩) hHeld ?_ ?_
        rotate_left
        · rintro w' ⟨s0, s1, s2, s3, s4, s5, s6⟩
          go_simp
          with_reducible rfl
        rotate_left
        · simp only [Act.put, List.setIfInBounds_toArray, List.set_cons_zero, List.set_cons_succ, i64_w, i32_w]
          rfl
        refine take_ (i := 15) (N := some 51) (v := ?_) (a' := ?_) #[true, true, true, true, true, true, true, true, true, true, true, true, true, true, true, true, false, false, false, false, false, false, false] rfl rfl (by kernel_rfl) (fun _ _ _ h => h) (Or.inl ⟨by rfl, ?_⟩) hHeld ?_ ?_
        rotate_left
        · rintro w' ⟨s0, s1, s2, s3, s4, s5, s6⟩
          go_simp
          with_reducible rfl
        rotate_left
        · simp only [Act.put, List.setIfInBounds_toArray, List.set_cons_zero, List.set_cons_succ, i64_w, i32_w]
          rfl
        refine pure_ (i := 16) (N := some 52) (v := ?_) (a' := ?_) #[true, true, true, true, true, true, true, true, true, true, true, true, true, true, true, true, true, false, false, false, false, false, false] rfl rfl (by kernel_rfl) (fun _ _ _ h => h) (Or.inl ⟨by rfl, ?_⟩) ?_ ?_
        rotate_left
        · intro w'
          go_simp
          with_reducible rfl
        rotate_left
        · simp only [Act.put, List.setIfInBounds_toArray, List.set_cons_zero, List.set_cons_succ, i64_w, i32_w]
          rfl
        refine take_ (i := 17) (N := some 53) (v := ?_) (a' := ?_) #[true, true, true, true, true, true, true, true, true, true, true, true, true, true, true, true, true, true, false, false, false, false, false] rfl rfl (by kernel_rfl) (fun _ _ _ h => h) (Or.inl ⟨by rfl, ?_⟩) hHeld ?_ ?_
        rotate_left
        · rintro w' ⟨s0, s1, s2, s3, s4, s5, s6⟩
          go_simp
          with_reducible rfl
        rotate_left
        · simp only [Act.put, List.setIfInBounds_toArray, List.set_cons_zero, List.set_cons_succ, i64_w, i32_w]
          rfl
        refine pure_ (i := 18) (N := some 54) (v := ?_) (a' := ?_) #[true, true, true, true, true, true, true, true, true, true, true, true, true, true, true, true, true, true, true, false, false, false, false] rfl rfl (by kernel_rfl) (fun _ _ _ h => h) (Or.inl ⟨by rfl, ?_⟩) ?_ ?_
        rotate_left
        · intro w'
          go_simp
          with_reducible rfl
        rotate_left
        · simp only [Act.put, List.setIfInBounds_toArray, List.set_cons_zero, List.set_cons_succ, i64_w, i32_w]
          rfl
        refine one_ (i := 19) (N := some 55) #[true, true, true, true, true, true, true, true, true, true, true, true, true, true, true, true, true, true, true, true, false, false, false] rfl rfl (by kernel_rfl) (by decide) (fun K hK => ?_)
        refine Kd.R_lit_step (Kd.int .i64) (w0 := wq) wq.heap.size 3 (by rfl) (N := 55) rfl (xs := ([wrap64 (rd m a - rd l a), wrap64 (Int.tdiv (rd m a) (rd m b))] : List Int)) (inner := [.int .i64 (wrap64 (rd m a - rd l a)), .int .i64 (wrap64 (Int.tdiv (rd m a) (rd m b)))]) (ok := fun _ => True) (okp := fun _ => True) ?hr ?hp (fun _ hk => hk) trivial (Below.refl _ _) (Nat.le_refl _) (by simp) ?_
        (case hr => first | (go_simp; done) | (go_simp; rfl))
        (case hp => exact (Reps.one (show Kd.M (Kd.int .i64) _ _ _ (wrap64 (rd m a - rd l a)) [.int .i64 (wrap64 (rd m a - rd l a))] from rfl) (Reps.one (show Kd.M (Kd.int .i64) _ _ _ (wrap64 (Int.tdiv (rd m a) (rd m b))) [.int .i64 (wrap64 (Int.tdiv (rd m a) (rd m b)))] from rfl) (Reps.none _ _))))
        intro v1 w1 ho1 hb1 hg1 hn1
        clear hg1 hn1
        rw [HROW.out] at ho1
        have HS1 := Aside0.mk (Kd.S_elder' HS.out (Kd.R_base ho1) hb1)
        have HLT := Aside0.mk (show ∀ k, some k = v1.ownBlock → wq.heap.size ≤ k from fun k e => Kd.R_base ho1 k e.symm)
        have HR1 := Aside0.mk (Kd.R_tight rfl (Kd.R_lower ho1 (below_size HB.out)))
        have HB1 := Aside0.mk (below_step HB.out hb1)
        have BO1 := Aside0.mk (blk_below BO.out hb1)
        have BB1 := Aside0.mk (blk_below BB.out hb1)
        have BA1 := Aside0.mk (blk_below BA.out hb1)
        have BG1 := Aside0.mk (blk_below BG.out hb1)
        obtain ⟨Ao, co, eo⟩ := Kd.R_slice ho1
        subst eo
        clear ho1
        refine hK.out _ _ ⟨(pw_cell_below hb1 hHeld.1), (pw_cell_below hb1 hHeld.2.1), (pw_cell_below hb1 hHeld.2.2.1), (pw_cell_below hb1 hHeld.2.2.2.1), (pw_cell_below hb1 hHeld.2.2.2.2.1), (pw_cell_below hb1 hHeld.2.2.2.2.2.1), (pw_cell_below hb1 hHeld.2.2.2.2.2.2)⟩ (fun hHeld => ?_)
        clear hK K
        refine norm_ (a' := ?_) ?_ ?_
        rotate_left
        · show Act.put _ (some 55) _ = _
          simp only [Act.put, List.setIfInBounds_toArray, List.set_cons_zero, List.set_cons_succ, i64_w, i32_w]
          rfl
        refine one_ (i := 20) (N := some 56) #[true, true, true, true, true, true, true, true, true, true, true, true, true, true, true, true, true, true, true, true, true, false, false] rfl rfl (by kernel_rfl) (by decide) (fun K hK => ?_)
        refine value_ (w1 := ?_) (v := ?_) (by rfl) rfl ?_ ?_
        rotate_left 2
        · go_simp
          constructor
          · rfl
          · rfl
        refine hK.out _ _ ⟨(pw_cell_below (below_alloc (Below.refl _ _) _) hHeld.1), (pw_cell_below (below_alloc (Below.refl _ _) _) hHeld.2.1), (pw_cell_below (below_alloc (Below.refl _ _) _) hHeld.2.2.1), (pw_cell_below (below_alloc (Below.refl _ _) _) hHeld.2.2.2.1), (pw_cell_below (below_alloc (Below.refl _ _) _) hHeld.2.2.2.2.1), (pw_cell_below (below_alloc (Below.refl _ _) _) hHeld.2.2.2.2.2.1), (pw_cell_below (below_alloc (Below.refl _ _) _) hHeld.2.2.2.2.2.2)⟩ (fun hHeld => ?_)
        clear hK K
        refine norm_ (a' := ?_) ?_ ?_
        rotate_left
        · show Act.put _ (some 56) _ = _
          simp only [Act.put, List.setIfInBounds_toArray, List.set_cons_zero, List.set_cons_succ, i64_w, i32_w]
          rfl
        refine last_ (i := 21) (N := some 57) #[true, true, true, true, true, true, true, true, true, true, true, true, true, true, true, true, true, true, true, true, true, true, false] rfl rfl (by kernel_rfl) (by decide) (fun K hK => ?_)
        refine Kd.S_append_step (Kd.slice 3 (Kd.int .i64)) (w0 := w0) w0.heap.size (by rfl) (.tmp 36) (.tmp 56) 37 22 (.slice none 0 0) 24 rfl Try.underlying37 info22 rfl (by decide) (by omega) v s row [.slice Ao row.length co] (fun k => k ≠ bg) (fun k => some k = (.slice Ao row.length co : Value).ownBlock) rfl rfl ?aP (fun k hk => ⟨?aQ, ?aR⟩) ?aF ?aO ?aB ?aS ?aL ?_
        (case aP => exact Kd.M_row HR1.out)
        (case aQ => have h1 := HLT.out k hk; have h2 := blk_lt BG.out; omega)
        (case aR => intro e; have h1 := HLT.out k hk; have h2 := Kd.S_lt HS.out k e.symm; omega)
        (case aF => intro k hk; have h1 := blk_lt BG1.out; omega)
        (case aO => exact HS1.out)
        (case aB => exact HB1.out)
        (case aS => exact below_size HB1.out)
        (case aL => have := LM.out; omega)
        intro v2 w2 ho hb hg hat
        obtain ⟨A2, cap2, e2_⟩ := Kd.S_slice ho
        subst e2_
        have HS2 := Aside0.mk ho
        have HB2 := Aside0.mk hb
        have bo2 := blk_grown BO1.out hg (Kd.S_ne HS.out BO.out (by decide))
        have BB2 := Aside0.mk (blk_grown BB1.out hg (Kd.S_ne HS.out BB.out (by decide)))
        have BA2 := Aside0.mk (blk_grown BA1.out hg (Kd.S_ne HS.out BA.out (by decide)))
        have BG2 := Aside0.mk (blk_grown BG1.out hg (Kd.S_away HS.out (fun _ h => h)))
        have co2 : w2.cell? ⟨bo, 0, none⟩ = some v := (blk_cell bo2 0).trans rfl
        have fo2 := blk_frozen bo2 0
        have BO2 := Aside0.mk bo2
        clear ho hb hg hat bo2
        refine hK.out _ _ ?_
        clear hK K
        refine norm_ (a' := ?_) ?_ ?_
        rotate_left
        · show Act.put _ (some 57) _ = _
          simp only [Act.put, List.setIfInBounds_toArray, List.set_cons_zero, List.set_cons_succ, i64_w, i32_w]
          rfl
        refine last_ (i := 22) (N := none) #[true, true, true, true, true, true, true, true, true, true, true, true, true, true, true, true, true, true, true, true, true, true, true] rfl rfl (by kernel_rfl) (by decide) (fun K hK => ?_)
        refine skip_ (w1 := ?_) (by rfl) rfl ?_ ?_
        rotate_left
        · go_simp
          rfl
        refine hK.out _ _ ?_
        clear hK K
        refine done_ (by kernel_rfl) ?_
        try go_wp2
        go_ret
        refine ⟨by first | rfl | (simp; done), ?_, ?_⟩
        · rw [← HE.out]
          exact ⟨blk_far BG2.out DD.out.1 _, blk_far BA2.out DD.out.2.1 _, blk_far BB2.out DD.out.2.2.1 _, _, by simpa using blk_set BO2.out 0 _, Kd.S_set HS2.out BO2.out (by decide) 0 _⟩
        · exact below_set HB2.out DD.out.2.2.2
      · rw [if_neg g3] at h
        have g3b : decide (2 ≤ wrap64 (Int.tdiv (rd m a) (rd m b))) = false := decide_eq_false g3
        have g3c : decide (2 ≤ IntKind.i64.wrap (Int.tdiv (rd m a) (rd m b))) = false := by simp only [i64_w]; exact g3b
        obtain rfl := Option.some.inj h
        clear g2 g3 h
        go_enter Try.func71, Try.ntmps71
        go_wp2
        go_quiet (fail)
        go_wp2
        go_ret
        exact ⟨by first | rfl | (simp; done) | (simp [*]; done), HIB.out _ _ _ HI.out (by repeat (first | exact Below.refl _ _ | apply pw_below_drewN | apply below_drew1)), by repeat (first | exact HB.out | apply pw_below_drewN | apply below_drew1)⟩
    · rw [if_neg g2] at h
      have g2b : (Int.tmod (rd m a) (rd m b) == 0) = false := beq_eq_false_iff_ne.mpr g2
      obtain rfl := Option.some.inj h
      clear g2 h
      go_enter Try.func71, Try.ntmps71
      go_wp2
      go_quiet (fail)
      go_wp2
      go_ret
      exact ⟨by first | rfl | (simp; done) | (simp [*]; done), HIB.out _ _ _ HI.out (by repeat (first | exact Below.refl _ _ | apply pw_below_drewN | apply below_drew1)), by repeat (first | exact HB.out | apply pw_below_drewN | apply below_drew1)⟩
  · rw [if_neg g1] at h
    have g1b : decide (1 ≤ rd m b) = false := decide_eq_false g1
    obtain rfl := Option.some.inj h
    clear g1 h
    go_enter Try.func71, Try.ntmps71
    go_wp2
    go_quiet (fail)
    go_wp2
    go_ret
    exact ⟨by first | rfl | (simp; done) | (simp [*]; done), HIB.out _ _ _ HI.out (by repeat (first | exact Below.refl _ _ | apply pw_below_drewN | apply below_drew1)), by repeat (first | exact HB.out | apply pw_below_drewN | apply below_drew1)⟩

/-! ### impl_AllMultiples: function 32 -/
def impl_AllMultiples.f (k : Nat) (l0 : List Int) (a1 : Int) (a2 : Int) : Option (List (List Int) × Bool) := (impl_areTwo.f l0 a1 a2).bind fun g0 => if g0 = true then ((allYS.f (impl_AllMultiples_1.step l0 a1 a2) k l0 []).bind fun z => some (z, true)) else some ([], false)
theorem allYS.mono_l {α : Type} (step : Nat → List Int → α → Option α) (hp : ∀ k m s, LeO (step k m s) (step (k + 1) m s)) (l : List Int) (hi : Int) : ∀ k s y, LeO (allYS.l0 step k l s hi y) (allYS.l0 step (k + 1) l s hi y)
  | 0, _, y => LeO.none _
  | k + 1, s, y => by
    rw [allYS.l0, allYS.l0]
    exact LeO.ite (LeO.bind (impl_inYears.mono _ _ _) fun m => LeO.bind (hp _ _ _) fun b => allYS.mono_l step hp l hi k _ _) (LeO.refl _)
theorem allYS.mono {α : Type} (step : Nat → List Int → α → Option α) (hp : ∀ k m s, LeO (step k m s) (step (k + 1) m s)) (l : List Int) (s : α) (k : Nat) : LeO (allYS.f step k l s) (allYS.f step (k + 1) l s) :=
  LeO.bind (LeO.refl _) fun q => allYS.mono_l step hp l q.2 k s q.1
theorem impl_AllMultiples.mono : ∀ l0 a1 a2 k, LeO (impl_AllMultiples.f k l0 a1 a2) (impl_AllMultiples.f (k + 1) l0 a1 a2) := fun l0 a1 a2 k => LeO.bind (LeO.refl _) fun _ => LeO.ite (LeO.bind (allYS.mono _ (fun _ _ _ => LeO.refl _) _ _ _) fun _ => LeO.refl _) (LeO.refl _)
set_option maxHeartbeats 8000000 in
set_option maxRecDepth 100000 in
theorem impl_AllMultiples.calls (k : Nat) (A0 : Option Addr) (c0 : Nat) (l0 : List Int) (a1 : Int) (a2 : Int) (r1 : List (List Int)) (r2 : Bool) (w : World) (hr0 : Kd.C (Kd.int .i64) w A0 l0.length l0) (hc0 : l0.length ≤ c0) (h : impl_AllMultiples.f k l0 a1 a2 = some (r1, r2)) :
    Calls Try.prog 32 #[.slice A0 l0.length c0, .int .i64 a1, .int .i64 a2] w fun e w' => ∃ v0_ : Value, e = .returned (.tuple #[v0_, .bool r2]) ∧ Kd.S (Kd.slice 3 (Kd.int .i64)) 22 w' w.heap.size (fun _ => True) v0_ r1 ∧ Below w.heap.size w w' := by
  have HR0 := Aside0.mk hr0
  have HC0 := Aside0.mk hc0
  clear hr0 hc0
  have eg : ∀ args w, (callFunc 71 args).run Try.prog w = .ok (.enter 71 args) w := enters_of Try.func71 (by kernel_rfl) rfl
  have EG := Aside0.mk eg
  clear eg
  have HB := Aside0.mk (show Below w.heap.size w (((w.alloc (.cells #[.slice A0 l0.length c0] 22)).alloc (.cells #[.int .i64 a1] 3)).alloc (.cells #[.int .i64 a2] 3)) from (((Below.refl w.heap.size w).alloc (by simp) _).alloc (by simp) _).alloc (by simp; omega) _)
  have bg0 : (((w.alloc (.cells #[.slice A0 l0.length c0] 22)).alloc (.cells #[.int .i64 a1] 3)).alloc (.cells #[.int .i64 a2] 3)).heap[w.heap.size]? = some (.cells #[.slice A0 l0.length c0] 22 (0, 0)) := blk_alloc (blk_alloc (heap_alloc_new w _) _) _
  have ba0 : (((w.alloc (.cells #[.slice A0 l0.length c0] 22)).alloc (.cells #[.int .i64 a1] 3)).alloc (.cells #[.int .i64 a2] 3)).heap[w.heap.size + 1]? = some (.cells #[.int .i64 a1] 3 (0, 0)) := blk_alloc (by simpa using heap_alloc_new (w.alloc (.cells #[.slice A0 l0.length c0] 22)) (.cells #[.int .i64 a1] 3)) _
  have bb0 : (((w.alloc (.cells #[.slice A0 l0.length c0] 22)).alloc (.cells #[.int .i64 a1] 3)).alloc (.cells #[.int .i64 a2] 3)).heap[w.heap.size + 1 + 1]? = some (.cells #[.int .i64 a2] 3 (0, 0)) := by simpa using heap_alloc_new ((w.alloc (.cells #[.slice A0 l0.length c0] 22)).alloc (.cells #[.int .i64 a1] 3)) (.cells #[.int .i64 a2] 3)
  have c1 : (((w.alloc (.cells #[.slice A0 l0.length c0] 22)).alloc (.cells #[.int .i64 a1] 3)).alloc (.cells #[.int .i64 a2] 3)).cell? ⟨w.heap.size, 0, none⟩ = some (.slice A0 l0.length c0) := (blk_cell bg0 0).trans rfl
  have c2 : (((w.alloc (.cells #[.slice A0 l0.length c0] 22)).alloc (.cells #[.int .i64 a1] 3)).alloc (.cells #[.int .i64 a2] 3)).cell? ⟨w.heap.size + 1, 0, none⟩ = some (.int .i64 a1) := (blk_cell ba0 0).trans rfl
  have c3 : (((w.alloc (.cells #[.slice A0 l0.length c0] 22)).alloc (.cells #[.int .i64 a1] 3)).alloc (.cells #[.int .i64 a2] 3)).cell? ⟨w.heap.size + 1 + 1, 0, none⟩ = some (.int .i64 a2) := (blk_cell bb0 0).trans rfl
  have BG := Aside0.mk bg0
  have BA := Aside0.mk ba0
  have BB := Aside0.mk bb0
  clear bg0 ba0 bb0
  have H := h
  clear h
  unfold impl_AllMultiples.f at H
  replace H := Option.bind_eq_some_iff.mp H
  obtain ⟨g0, A00, H⟩ := H
  have A0_ := Aside0.mk A00
  clear A00
  cases g0 with
  | false =>
    have HE := Aside0.mk (Option.some.inj (show some (([] : List (List Int)), false) = some (r1, r2) from H))
    clear H
    go_enter Try.func32, Try.ntmps32
    go_wp2_with (first | (go_at_call 42; (with_reducible refine (impl_areTwo.calls _ _ l0 a1 a2 false _ (Kd.C_below HR0.out HB.out) HC0.out A0_.out).mono ?_); rintro e w1 ⟨rfl, hb0⟩; have hb := hb0; clear hb0; have n0_ := Aside0.mk (below_step HB.out hb); clear HB; have HB := n0_; clear n0_ hb))
    go_ret2
    exact ⟨_, by have := HE.out; simp only [Prod.mk.injEq] at this; rw [← this.2]; first | rfl | (simp; done), by have := HE.out; simp only [Prod.mk.injEq] at this; rw [← this.1]; exact Kd.S_nil _ _ _ _ _, HB.out⟩
  | true =>
    replace H := (if_pos rfl).symm.trans H
    replace H := Option.bind_eq_some_iff.mp H
    obtain ⟨z, Z0, H⟩ := H
    have HZ := Aside0.mk Z0
    have HE := Aside0.mk (Option.some.inj H)
    clear H Z0
    go_enter Try.func32, Try.ntmps32
    go_wp2_with (first | (go_at_call 42; (with_reducible refine (impl_areTwo.calls _ _ l0 a1 a2 true _ (Kd.C_below HR0.out HB.out) HC0.out A0_.out).mono ?_); rintro e w1 ⟨rfl, hb⟩; have n0_ := Aside0.mk (below_step HB.out hb); have n1_ := Aside0.mk (blk_below BG.out hb); have n2_ := Aside0.mk (blk_below BA.out hb); have n3_ := Aside0.mk (blk_below BB.out hb); clear HB BG BA BB c1 c2 c3; have HB := n0_; have BG := n1_; have BA := n2_; have BB := n3_; clear n0_ n1_ n2_ n3_ hb) | ((with_reducible refine gate_dst (N := 14) rfl ?_); refine Kd.S_lits (Kd.slice 3 (Kd.int .i64)) (w0 := w) w.heap.size 22 ?hg (N := 14) ?hd (xs := ([] : List (List Int))) (inner := []) (ok := fun k => k ≠ w.heap.size) (fun _ _ => False) ?hr (by simp) (fun j x hj => by simp at hj) (fun _ _ _ h => h.elim) (fun _ _ h => h.elim) ?hf HB.out (below_size HB.out) (by simp) ?_; (case hd => rfl); (case hg => rfl); (case hr => first | (go_simp; done) | (go_simp; rfl)); (case hf => have h1 := blk_lt BG.out; omega); intro v2 w2 ho hb hg hnew; obtain ⟨A2, cc2, e2⟩ := Kd.S_slice ho; have e3 : v2 = .slice A2 0 cc2 := e2; clear e2; subst e3; have HO := Aside0.mk ho; have n0_ := Aside0.mk hb; have n1_ := Aside0.mk (blk_grown BG.out hg (by simp)); have n2_ := Aside0.mk (blk_grown BA.out hg (by simp)); have n3_ := Aside0.mk (blk_grown BB.out hg (by simp)); clear HB BG BA BB hg hnew ho hb; have HB := n0_; have BG := n1_; have BA := n2_; have BB := n3_; clear n0_ n1_ n2_ n3_; have BO := Aside0.mk (heap_alloc_new w2 (.cells #[.slice A2 0 cc2] 37)); have n1_ := Aside0.mk (blk_alloc BG.out (.cells #[.slice A2 0 cc2] 37)); have n2_ := Aside0.mk (blk_alloc BA.out (.cells #[.slice A2 0 cc2] 37)); have n3_ := Aside0.mk (blk_alloc BB.out (.cells #[.slice A2 0 cc2] 37)); have d1 : (w2.alloc (.cells #[.slice A2 0 cc2] 37)).cell? ⟨w.heap.size, 0, none⟩ = some (.slice A0 l0.length c0) := (blk_cell n1_.out 0).trans rfl; have GE := Aside0.mk (below_size HB.out); have LG := Aside0.mk (blk_lt BG.out); have LA := Aside0.mk (blk_lt BA.out); have LB := Aside0.mk (blk_lt BB.out); have n0_ := Aside0.mk (below_alloc HB.out (.cells #[.slice A2 0 cc2] 37)); have n4_ := Aside0.mk (Kd.S_alloc HO.out (.cells #[.slice A2 0 cc2] 37)); clear HB BG BA BB HO; have HB := n0_; have BG := n1_; have BA := n2_; have BB := n3_; have HO := n4_; clear n0_ n1_ n2_ n3_ n4_) | (go_at_call 59; (with_reducible refine (impl_allYearsS.calls (impl_AllMultiples_1.Inv l0 a1 a2 A0 c0 w.heap.size (w.heap.size + 1) (w.heap.size + 1 + 1) w2.heap.size w.heap.size) (impl_AllMultiples_1.step l0 a1 a2) 71 #[.pointer (some ⟨w.heap.size + 1 + 1, 0, none⟩), .pointer (some ⟨w.heap.size + 1, 0, none⟩), .pointer (some ⟨w2.heap.size, 0, none⟩), .pointer (some ⟨w.heap.size, 0, none⟩)] k _ _ l0 [] z w _ impl_AllMultiples_1.Inv_below ?hp EG.out HR0.out HC0.out HB.out ?hI HZ.out).mono ?_); (case hp => exact impl_AllMultiples_1.calls l0 a1 a2 A0 c0 w.heap.size (w.heap.size + 1) (w.heap.size + 1 + 1) w2.heap.size w HR0.out (by have := LG.out; omega) (by have := LA.out; omega) (by have := LB.out; omega) GE.out); (case hI => exact ⟨BG.out, BA.out, BB.out, _, BO.out, HO.out⟩); rintro e w3 ⟨⟨v3, rfl⟩, ⟨_, _, _, v4, bo4, hS4⟩, hb⟩; have c4 : w3.cell? ⟨w2.heap.size, 0, none⟩ = some v4 := (blk_cell bo4 0).trans rfl; have HS4 := Aside0.mk hS4; have HB3 := Aside0.mk hb; clear bo4 hS4 hb))
    go_ret2
    exact ⟨_, by have := HE.out; simp only [Prod.mk.injEq] at this; rw [← this.2]; first | rfl | (simp; done), by have := HE.out; simp only [Prod.mk.injEq] at this; rw [← this.1]; exact Kd.S_mono HS4.out (fun _ _ => trivial), HB3.out⟩

end Go.Proofs.Ytbdgeknaddaekaa.P
