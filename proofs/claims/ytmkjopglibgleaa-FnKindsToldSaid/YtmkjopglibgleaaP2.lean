-- Written by drive.py (wip/ of this repository) over the kit's print: functions, contracts, rows. Lean checks it.
import Derived.Test.YtmkjopglibgleaaP0
import Derived.Test.YtmkjopglibgleaaP1
namespace Go.Proofs.Ytmkjopglibgleaa.P
open Go.RowKit Go.Proofs.YtmkjopglibgleaaW.PrintWords Go.Proofs.YtmkjopglibgleaaW.PrintLast Go.Proofs.YtmkjopglibgleaaW.PrintMore
attribute [local go_sem] max2_int min2_int max_two min_two max_three min_three max_four min_four undef_guard   -- for this text's walks alone
set_option linter.unusedVariables false
set_option linter.unusedSimpArgs false

/-! ### slices_ContainsFunc_int_int: function 84 -/
set_option maxHeartbeats 1000000 in
theorem slices_ContainsFunc.calls (p : Int → Bool) (g : Nat) (lb : Array Value) (eg : ∀ args w, (callFunc g args).run Try.prog w = .ok (.enter g args) w) (A0 : Option Addr) (c0 : Nat) (l0 : List Int) (w : World)
    (hp : PredQ Try.prog g lb p w) (hr0 : Kd.C (Kd.int .i64) w A0 l0.length l0) (hc0 : l0.length ≤ c0) :
    Calls Try.prog 84 #[.slice A0 l0.length c0, .func (.func g) #[] lb] w fun e w' => e = .returned (.bool (l0.any p)) ∧ Drawn0 w w' := by
  have hcon := slices_IndexFunc.calls p g lb eg A0 c0 l0 w hp hr0 hc0
  have hany := idxOf_any p l0 0 (Int.le_refl _)
  clear hp hr0 hc0
  generalize idxOf p l0 0 = r at hcon hany
  generalize l0.any p = b at hany
  have e1 : decide (0 ≤ r) = b := by
    cases b
    · exact decide_eq_false (fun h => by simpa using hany.mp h)
    · exact decide_eq_true (hany.mpr rfl)
  have HE := Aside0.mk e1
  clear e1 hany
  go_enter Try.func84, Try.ntmps84
  go_wp2_with (go_at_call 54; refine hcon.mono ?_; rintro e w' ⟨rfl, ⟨nd, rfl⟩⟩)
  go_ret
  exact ⟨by rw [← HE.out]; first | rfl | (simp; done), by repeat (first | exact Drawn0.refl _ | apply Drawn0.step)⟩
set_option maxHeartbeats 1000000 in
theorem slices_ContainsFunc.callsO (p : Int → Option Bool) (g : Nat) (lb : Array Value) (eg : ∀ args w, (callFunc g args).run Try.prog w = .ok (.enter g args) w) (A0 : Option Addr) (c0 : Nat) (l0 : List Int) (w : World)
    (hp : PredO Try.prog g lb p w) (hr0 : Kd.C (Kd.int .i64) w A0 l0.length l0) (hc0 : l0.length ≤ c0) (b : Bool) (h : anyO p l0 = some b) :
    Calls Try.prog 84 #[.slice A0 l0.length c0, .func (.func g) #[] lb] w fun e w' => e = .returned (.bool b) ∧ Drawn0 w w' := by
  obtain ⟨r, hr, e1⟩ := idxO_any p l0 0 b (Int.le_refl _) h
  have hcon := slices_IndexFunc.callsO p g lb eg A0 c0 l0 w hp hr0 hc0 r hr
  clear hp hr0 hc0 h hr
  have HE := Aside0.mk e1
  clear e1
  go_enter Try.func84, Try.ntmps84
  go_wp2_with (go_at_call 54; refine hcon.mono ?_; rintro e w' ⟨rfl, ⟨nd, rfl⟩⟩)
  go_ret
  exact ⟨by rw [← HE.out]; first | rfl | (simp; done), by repeat (first | exact Drawn0.refl _ | apply Drawn0.step)⟩

/-! ### impl_areBetween_1: function 85 -/
set_option maxHeartbeats 1000000 in
theorem impl_areBetween_lit.calls (lo hi : Int) (b1 b2 : Nat) (w : World) (h1 : b1 < w.heap.size) (h2 : b2 < w.heap.size) (k1 : w.cell? ⟨b1, 0, none⟩ = some (.int .i64 lo)) (k2 : w.cell? ⟨b2, 0, none⟩ = some (.int .i64 hi)) :
    PredQ Try.prog 85 #[.pointer (some ⟨b1, 0, none⟩), .pointer (some ⟨b2, 0, none⟩)] (fun x => !decide (lo ≤ x ∧ x ≤ hi)) w := fun W x hb => by
  have c1 : W.cell? ⟨b1, 0, none⟩ = some (.int .i64 lo) := (hb.cell (p := ⟨b1, 0, none⟩) h1).trans k1
  have c2 : W.cell? ⟨b2, 0, none⟩ = some (.int .i64 hi) := (hb.cell (p := ⟨b2, 0, none⟩) h2).trans k2
  clear hb k1 k2 h1 h2
  have hcon := fun W' => impl_between.calls x lo hi (decide (lo ≤ x ∧ x ≤ hi)) W' (by
    unfold impl_between.f
    split
    · rename_i h; simp [h]
    · rename_i h; simp; omega)
  show Calls Try.prog 85 #[.int .i64 x, .pointer (some ⟨b1, 0, none⟩), .pointer (some ⟨b2, 0, none⟩)] W fun e w' => e = .returned (.bool (!decide (lo ≤ x ∧ x ≤ hi))) ∧ Drawn0 W w'
  generalize decide (lo ≤ x ∧ x ≤ hi) = b at hcon ⊢
  go_enter Try.func85, Try.ntmps85
  go_wp2_with (go_at_call 65; refine (hcon _).mono ?_; rintro e w' ⟨rfl, ⟨nd, rfl⟩⟩)
  go_ret
  exact ⟨by first | rfl | simp, by repeat (first | exact Drawn0.refl _ | apply Drawn0.step)⟩

/-! ### impl_areBetween: function 66 -/
def impl_areBetween.f (l0 : List Int) (a1 : Int) (a2 : Int) : Option (Bool) := some (!l0.any fun x => !decide (a1 ≤ x ∧ x ≤ a2))
set_option maxHeartbeats 1000000 in
theorem impl_areBetween.calls (A0 : Option Addr) (c0 : Nat) (l0 : List Int) (a1 : Int) (a2 : Int) (r : Bool) (w : World) (hr0 : Kd.C (Kd.int .i64) w A0 l0.length l0) (hc0 : l0.length ≤ c0) (h : impl_areBetween.f l0 a1 a2 = some r) :
    Calls Try.prog 66 #[.slice A0 l0.length c0, .int .i64 a1, .int .i64 a2] w fun e w' => e = .returned (.bool r) ∧ Below w.heap.size w w' := by
  obtain rfl := Option.some.inj h
  have eg : ∀ args w, (callFunc 85 args).run Try.prog w = .ok (.enter 85 args) w := enters_of Try.func85 (by kernel_rfl) rfl
  have HB := Aside0.mk (((Below.refl w.heap.size w).alloc (Nat.le_refl _) (.cells #[.int .i64 a1] 3)).alloc (by simp) (.cells #[.int .i64 a2] 3))
  have hcon := slices_ContainsFunc.calls (fun x => !decide (a1 ≤ x ∧ x ≤ a2)) 85 #[.pointer (some ⟨w.heap.size, 0, none⟩), .pointer (some ⟨w.heap.size + 1, 0, none⟩)] eg A0 c0 l0 ((w.alloc (.cells #[.int .i64 a1] 3)).alloc (.cells #[.int .i64 a2] 3))
    (impl_areBetween_lit.calls a1 a2 w.heap.size (w.heap.size + 1) _ (by simp; omega) (by simp) (by simp) (by simp)) (Kd.C_below hr0 HB.out) hc0
  clear hr0 hc0 h
  generalize (l0.any fun x => !decide (a1 ≤ x ∧ x ≤ a2)) = b at hcon
  go_enter Try.func66, Try.ntmps66
  go_wp2_with (go_at_call 84; refine hcon.mono ?_; rintro e w' ⟨rfl, ⟨nd, rfl⟩⟩)
  go_ret
  exact ⟨rfl, pw_below_drewN HB.out nd⟩

/-! ### impl_AreAges: function 35 -/
def impl_AreAges.f (l0 : List Int) : Option (Bool) := (impl_between.f (l0.length : Int) 1 8).bind fun t167 => (if t167 = true then ((impl_areBetween.f l0 0 120).bind fun t168 => (some t168)) else (some false))
set_option maxHeartbeats 8000000 in
set_option maxRecDepth 100000 in
theorem impl_AreAges.calls (A0 : Option Addr) (c0 : Nat) (l0 : List Int) (r : Bool) (w : World) (hr0 : Kd.C (Kd.int .i64) w A0 l0.length l0) (hc0 : l0.length ≤ c0) (h : impl_AreAges.f l0 = some r) :
    Calls Try.prog 35 #[.slice A0 l0.length c0] w fun e w' => e = .returned (.bool r) ∧ Below w.heap.size w w' := by
  have HR0 := Aside0.mk hr0
  have HC0 := Aside0.mk hc0
  clear hr0 hc0
  have HB := Aside0.mk (Below.refl w.heap.size w)
  have H : ((impl_between.f (l0.length : Int) 1 8).bind fun t167 => (if t167 = true then ((impl_areBetween.f l0 0 120).bind fun t168 => (some t168)) else (some false))) = some r := h
  clear h
  replace H := Option.bind_eq_some_iff.mp H
  obtain ⟨t167, A20, H⟩ := H
  replace H : (if t167 = true then ((impl_areBetween.f l0 0 120).bind fun t168 => (some t168)) else (some false)) = some r := H
  have A2 := Aside0.mk A20
  clear A20
  by_cases c3 : t167 = true
  · subst c3
    have H1 : ((impl_areBetween.f l0 0 120).bind fun t168 => (some t168)) = some r := by rw [if_pos rfl] at H; exact H
    clear H
    have H := H1
    clear H1
    replace H := Option.bind_eq_some_iff.mp H
    obtain ⟨t168, A40, H⟩ := H
    replace H : (some t168) = some r := H
    have A4 := Aside0.mk A40
    clear A40
    obtain rfl := Option.some.inj H
    go_enter Try.func35, Try.ntmps35
    go_wp2_with (first | ((with_reducible refine gate_callee (f := 65) rfl ?_); refine goesL_ (some 5) rfl rfl Try.func65 (by kernel_rfl) rfl #[.int .i64 (l0.length : Int), .int .i64 1, .int .i64 8] rfl (by (try simp only [List.map_toArray, List.map_cons, List.map_nil]); first | done | rfl | (simp only [List.length_drop, List.length_take]; rfl)) ?_; (with_reducible refine (impl_between.calls (l0.length : Int) 1 8 true _ A2.out).mono ?_); rintro e w' ⟨rfl, ⟨nd, rfl⟩⟩; refine ⟨_, rfl, ?_⟩) | (go_at_call 66; (with_reducible refine (impl_areBetween.calls _ _ l0 0 120 t168 _ ?side1 ?side2 A4.out).mono ?_); (case side1 => repeat (first | exact HR0.out | (with_reducible refine Kd.C_alloc ?_ _) | (with_reducible refine Kd.C_drewN ?_ _) | (with_reducible refine Kd.C_drew ?_))); (case side2 => exact HC0.out); rintro e w5 ⟨rfl, hb⟩; have n0_ := Aside0.mk (below_step (by repeat (first | (with_reducible first | exact HB.out | apply below_alloc | apply pw_below_drewN | apply below_drew1) | exact HB.out)) hb); clear HB; have HB := n0_; clear n0_; (try clear hb); (try clear hb2); (try clear hk); (try clear hi)))
    go_ret
    exact ⟨by first | rfl | (simp [errW_none, errW_some] <;> rfl) | (simp [*, errW_none, errW_some] <;> rfl), by repeat (first | (with_reducible first | exact HB.out | apply below_alloc | apply pw_below_drewN | apply below_drew1) | exact HB.out)⟩
  · replace c3 := Bool.eq_false_iff.mpr c3
    subst c3
    have H1 : (some false) = some r := by rw [if_neg (show ¬ (false = true) by decide)] at H; exact H
    clear H
    have H := H1
    clear H1
    obtain rfl := Option.some.inj H
    go_enter Try.func35, Try.ntmps35
    go_wp2_with (first | ((with_reducible refine gate_callee (f := 65) rfl ?_); refine goesL_ (some 5) rfl rfl Try.func65 (by kernel_rfl) rfl #[.int .i64 (l0.length : Int), .int .i64 1, .int .i64 8] rfl (by (try simp only [List.map_toArray, List.map_cons, List.map_nil]); first | done | rfl | (simp only [List.length_drop, List.length_take]; rfl)) ?_; (with_reducible refine (impl_between.calls (l0.length : Int) 1 8 false _ A2.out).mono ?_); rintro e w' ⟨rfl, ⟨nd, rfl⟩⟩; refine ⟨_, rfl, ?_⟩))
    go_ret
    exact ⟨by first | rfl | (simp [errW_none, errW_some] <;> rfl) | (simp [*, errW_none, errW_some] <;> rfl), by repeat (first | (with_reducible first | exact HB.out | apply below_alloc | apply pw_below_drewN | apply below_drew1) | exact HB.out)⟩

-- NOT PRINTED: function 93 (bytealg_IndexByteString)

/-! ### stringslite_IndexByte: function 89 -/
set_option maxHeartbeats 1000000 in
set_option maxRecDepth 100000 in
theorem stringslite_IndexByte.calls (s : ByteArray) (c : Int) (w : World) :
    Calls Try.prog 89 #[.string s, .int .u8 c] w fun e w' => e = .returned (.int .i64 (Lib.indexByte s.data.toList c.toNat.toUInt8)) ∧ w' = w := by
  go_enter Try.func89, Try.ntmps89
  go_wp2
  rw [run_callFunc_extern Try.func93 (by kernel_rfl) (by kernel_rfl) (by kernel_rfl) (e := Extern.BytealgIndexByte.indexByte) (by kernel_rfl), Lib.run_indexByteString]
  simp only [Result.andThen]
  rw [Oper.upon_value]
  go_wp2
  go_ret
  exact ⟨rfl, rfl⟩

-- NOT PRINTED: function 90 (bytealg_IndexString)

/-! ### bytealg_Cutover: function 91 -/
def bytealg_Cutover.f (a0 : Int) : Option (Int) := some (wrap64 (Int.tdiv (wrap64 (a0 + 16)) 8))
set_option maxHeartbeats 8000000 in
set_option maxRecDepth 100000 in
theorem bytealg_Cutover.calls (a0 : Int) (r : Int) (w : World) (h : bytealg_Cutover.f a0 = some r) :
    Calls Try.prog 91 #[.int .i64 a0] w fun e w' => e = .returned (.int .i64 r) ∧ Drawn0 w w' := by
  have H : (some (wrap64 (Int.tdiv (wrap64 (a0 + 16)) 8))) = some r := h
  clear h
  obtain rfl := Option.some.inj H
  go_enter Try.func91, Try.ntmps91
  go_wp2
  go_ret
  exact ⟨by first | rfl | (simp; done) | (simp [*]; done), by repeat (first | exact Drawn0.refl _ | apply Drawn0.step)⟩

/-! ### bytealg_hashStr_string: function 94 -/
mutual
def bytealg_hashStr_string.l0 : Nat → ByteArray → Int → Int → Option (Int × Int)
  | 0, _, _, _ => none
  | k + 1, x0, x4, x5 => if x5 < (x0.size : Int) then (if 0 ≤ x5 then (bytealg_hashStr_string.l0 k x0 ((((x4 * 16777619) % 4294967296) + ((bt x0 x5) % 4294967296)) % 4294967296) (wrap64 (x5 + 1))) else (none)) else (bytealg_hashStr_string.l1 k x4 1 16777619 (x0.size : Int))
def bytealg_hashStr_string.l1 : Nat → Int → Int → Int → Int → Option (Int × Int)
  | 0, _, _, _, _ => none
  | k + 1, x4, x6, x7, x8 => if x8 > 0 then (if (Go.bits .and .i64 x8 1) = 0 then (bytealg_hashStr_string.l1 k x4 x6 ((x7 * x7) % 4294967296) (x8 / 2)) else (bytealg_hashStr_string.l1 k x4 ((x6 * x7) % 4294967296) ((x7 * x7) % 4294967296) (x8 / 2))) else (some (x4, x6))
end
def bytealg_hashStr_string.f (k : Nat) (a0 : ByteArray) : Option (Int × Int) := bytealg_hashStr_string.l0 k a0 0 0
theorem bytealg_hashStr_string.mono_l : ∀ k, (∀ y0 y1 y2, LeO (bytealg_hashStr_string.l0 k y0 y1 y2) (bytealg_hashStr_string.l0 (k + 1) y0 y1 y2)) ∧ (∀ y0 y1 y2 y3, LeO (bytealg_hashStr_string.l1 k y0 y1 y2 y3) (bytealg_hashStr_string.l1 (k + 1) y0 y1 y2 y3))
  | 0 => ⟨fun _ _ _ r h => by simp [bytealg_hashStr_string.l0] at h, fun _ _ _ _ r h => by simp [bytealg_hashStr_string.l1] at h⟩
  | k + 1 => by
    obtain ⟨ih0, ih1⟩ := bytealg_hashStr_string.mono_l k
    refine ⟨?_, ?_⟩
    · intro y0 y1 y2
      unfold bytealg_hashStr_string.l0
      repeat' first
      | (with_reducible exact ih0 _ _ _)
      | (with_reducible exact ih1 _ _ _ _)
      | (with_reducible exact LeO.refl _)
      | (with_reducible exact LeO.none _)
      | (with_reducible refine LeO.ite ?_ ?_)
      | (with_reducible refine LeO.bind ?_ (fun _ => ?_))
      | exact ih0 _ _ _
      | exact ih1 _ _ _ _
      | exact LeO.none _
      | refine LeO.ite ?_ ?_
      | refine LeO.bind ?_ (fun _ => ?_)
    · intro y0 y1 y2 y3
      unfold bytealg_hashStr_string.l1
      repeat' first
      | (with_reducible exact ih0 _ _ _)
      | (with_reducible exact ih1 _ _ _ _)
      | (with_reducible exact LeO.refl _)
      | (with_reducible exact LeO.none _)
      | (with_reducible refine LeO.ite ?_ ?_)
      | (with_reducible refine LeO.bind ?_ (fun _ => ?_))
      | exact ih0 _ _ _
      | exact ih1 _ _ _ _
      | exact LeO.none _
      | refine LeO.ite ?_ ?_
      | refine LeO.bind ?_ (fun _ => ?_)
theorem bytealg_hashStr_string.mono : ∀ a0 k, LeO (bytealg_hashStr_string.f k a0) (bytealg_hashStr_string.f (k + 1) a0) := by
  intro a0 k
  obtain ⟨ih0, ih1⟩ := bytealg_hashStr_string.mono_l k
  unfold bytealg_hashStr_string.f
  repeat' first
      | (with_reducible exact ih0 _ _ _)
      | (with_reducible exact ih1 _ _ _ _)
      | (with_reducible exact LeO.refl _)
      | (with_reducible exact LeO.none _)
      | (with_reducible refine LeO.ite ?_ ?_)
      | (with_reducible refine LeO.bind ?_ (fun _ => ?_))
      | exact ih0 _ _ _
      | exact ih1 _ _ _ _
      | exact LeO.none _
      | refine LeO.ite ?_ ?_
      | refine LeO.bind ?_ (fun _ => ?_)
set_option maxHeartbeats 8000000 in
set_option maxRecDepth 100000 in
theorem bytealg_hashStr_string.calls (k : Nat) (a0 : ByteArray) (r1 : Int) (r2 : Int) (w : World) (h : bytealg_hashStr_string.f k a0 = some (r1, r2)) :
    Calls Try.prog 94 #[.string a0] w fun e w' => e = .returned (.tuple #[.int .u32 r1, .int .u32 r2]) ∧ Drawn0 w w' := by
  have H : (bytealg_hashStr_string.l0 k a0 0 0) = some (r1, r2) := h
  clear h
  have H' := Aside0.mk H
  clear H
  go_enter Try.func94, Try.ntmps94
  go_wp2
  go_loopg [4, 5] k (fun kq v4 v5 w' => ∃ (x4_1 : Int) (x5_1 : Int), v4 = .int .u32 x4_1 ∧ v5 = .int .i64 x5_1 ∧ Aside0 (bytealg_hashStr_string.l0 kq a0 x4_1 x5_1 = some (r1, r2)) ∧ Aside0 (kq ≤ k) ∧ Drawn0 w w')
  case atStart => exact ⟨(0), (0), (by first | rfl | (simp; done) | (simp [*]; done)), (by first | rfl | (simp; done) | (simp [*]; done)), H', ⟨Nat.le_refl _⟩, by repeat (first | exact Drawn0.refl _ | apply Drawn0.step)⟩
  case round =>
    clear H'
    obtain ⟨x4_1, x5_1, rfl, rfl, HA, HK1, ⟨m1, rfl⟩⟩ := hrel
    cases gk with
    | zero => exact absurd HA.out (by simp [bytealg_hashStr_string.l0])
    | succ k1 =>
      have H := HA.out
      clear HA
      simp only [bytealg_hashStr_string.l0] at H
      by_cases c2 : x5_1 < (a0.size : Int)
      · rw [if_pos c2] at H
        have c2b0 : decide (x5_1 < (a0.size : Int)) = true := decide_eq_true c2
        clear c2
        by_cases c3 : 0 ≤ x5_1
        · rw [if_pos c3] at H
          have c3b0 : decide (0 ≤ x5_1) = true := decide_eq_true c3
          clear c3
          have H' := Aside0.mk H
          clear H
          have p4 : 0 ≤ (x5_1 : Int) := of_decide_eq_true (by first | (with_reducible assumption) | assumption)
          have q4 : x5_1 < (a0.size : Int) := of_decide_eq_true (by first | (with_reducible assumption) | assumption)
          have hx4 := bt_at a0 x5_1
          replace p4 := eq_true p4
          replace q4 := eq_true q4
          go_wp2
          go_roundg k1
          case measure => have := HK1.out; omega
          case rel => exact ⟨((((x4_1 * 16777619) % 4294967296) + ((bt a0 x5_1) % 4294967296)) % 4294967296), (wrap64 (x5_1 + 1)), (by first | rfl | (simp; done) | (simp [*]; done)), (by first | rfl | (simp; done) | (simp [*]; done)), H', ⟨by have := HK1.out; omega⟩, by repeat (first | exact Drawn0.refl _ | apply Drawn0.step)⟩
        · rw [if_neg c3] at H
          exact absurd H (by simp)
      · rw [if_neg c2] at H
        have c2b0 : decide (x5_1 < (a0.size : Int)) = false := decide_eq_false c2
        clear c2
        have H' := Aside0.mk H
        clear H
        go_wp2
        go_loopg [6, 7, 8] k1 (fun kq v6 v7 v8 w' => ∃ (x6_2 : Int) (x7_2 : Int) (x8_2 : Int), v6 = .int .u32 x6_2 ∧ v7 = .int .u32 x7_2 ∧ v8 = .int .i64 x8_2 ∧ Aside0 (bytealg_hashStr_string.l1 kq x4_1 x6_2 x7_2 x8_2 = some (r1, r2)) ∧ Aside0 (kq ≤ k1) ∧ Drawn0 w w')
        case atStart => exact ⟨(1), (16777619), ((a0.size : Int)), (by first | rfl | (simp; done) | (simp [*]; done)), (by first | rfl | (simp; done) | (simp [*]; done)), (by first | rfl | (simp; done) | (simp [*]; done)), H', ⟨Nat.le_refl _⟩, by repeat (first | exact Drawn0.refl _ | apply Drawn0.step)⟩
        case round =>
          clear H'
          try clear c2
          try clear c2b0
          try clear p2
          try clear c3
          try clear c3b0
          try clear p4
          try clear q4
          try clear hx4
          try clear p4
          try clear q4
          obtain ⟨x6_2, x7_2, x8_2, rfl, rfl, rfl, HA, HK2, ⟨m2, rfl⟩⟩ := hrel
          cases gk with
          | zero => exact absurd HA.out (by simp [bytealg_hashStr_string.l1])
          | succ k2 =>
            have H := HA.out
            clear HA
            simp only [bytealg_hashStr_string.l1] at H
            by_cases c5 : x8_2 > 0
            · rw [if_pos c5] at H
              have c5b0 : decide (0 < x8_2) = true := decide_eq_true c5
              clear c5
              by_cases c6 : (Go.bits .and .i64 x8_2 1) = 0
              · rw [if_pos c6] at H
                have c6b0 : ((Go.bits .and .i64 x8_2 1) == 0) = true := beq_iff_eq.mpr c6
                have c6b1 : ((Go.bits .and .i64 x8_2 1) != 0) = false := bne_eq_false_iff_eq.mpr c6
                clear c6
                have H' := Aside0.mk H
                clear H
                go_wp2
                go_roundg k2
                case measure => have := HK1.out; have := HK2.out; omega
                case rel => exact ⟨(x6_2), ((x7_2 * x7_2) % 4294967296), (x8_2 / 2), (by first | rfl | (simp; done) | (simp [*]; done)), (by first | rfl | (simp; done) | (simp [*]; done)), (by first | rfl | (simp; done) | (simp [*]; done)), H', ⟨by have := HK1.out; have := HK2.out; omega⟩, by repeat (first | exact Drawn0.refl _ | apply Drawn0.step)⟩
              · rw [if_neg c6] at H
                have c6b0 : ((Go.bits .and .i64 x8_2 1) == 0) = false := beq_eq_false_iff_ne.mpr c6
                have c6b1 : ((Go.bits .and .i64 x8_2 1) != 0) = true := bne_iff_ne.mpr c6
                have H' := Aside0.mk H
                clear H
                go_wp2
                go_roundg k2
                case measure => have := HK1.out; have := HK2.out; omega
                case rel => exact ⟨((x6_2 * x7_2) % 4294967296), ((x7_2 * x7_2) % 4294967296), (x8_2 / 2), (by first | rfl | (simp; done) | (simp [*]; done)), (by first | rfl | (simp; done) | (simp [*]; done)), (by first | rfl | (simp; done) | (simp [*]; done)), H', ⟨by have := HK1.out; have := HK2.out; omega⟩, by repeat (first | exact Drawn0.refl _ | apply Drawn0.step)⟩
            · rw [if_neg c5] at H
              have c5b0 : decide (0 < x8_2) = false := decide_eq_false c5
              clear c5
              simp only [Option.some.injEq, Prod.mk.injEq] at H
              obtain ⟨rfl, rfl⟩ := H
              go_wp2
              go_ret2
              exact ⟨by first | rfl | (simp; done) | (simp [*]; done), by repeat (first | exact Drawn0.refl _ | apply Drawn0.step)⟩

/-! ### bytealg_IndexRabinKarp_string: function 92 -/
-- (never reached at a text of one letter: no contract)

/-! ### stringslite_Index: function 88 -/
set_option maxHeartbeats 4000000 in
set_option maxRecDepth 100000 in
/-- At a text of one byte to look for. -/
theorem stringslite_Index.calls (s : ByteArray) (c : UInt8) (w : World) :
    Calls Try.prog 88 #[.string s, .string ⟨#[c]⟩] w fun e w' => e = .returned (.int .i64 (Lib.indexByte s.data.toList c)) ∧ w' = w := by
  by_cases he : ([c] == s.toList) = true
  · have hr : Lib.indexByte s.data.toList c = 0 := by
      rw [← Lib.toList_data, ← beq_iff_eq.1 he]
      simp [Lib.indexByte]
    rw [hr]
    clear hr
    go_enter Try.func88, Try.ntmps88
    go_wp2
    go_ret
    exact ⟨rfl, rfl⟩
  · have hf : ([c] == s.toList) = false := Bool.eq_false_iff.mpr he
    clear he
    have hcon := stringslite_IndexByte.calls s c.toNat
    have e0 : ((c.toNat : Int).toNat.toUInt8) = c := by simp
    rw [e0] at hcon
    clear e0
    generalize Lib.indexByte s.data.toList c = r at hcon ⊢
    go_enter Try.func88, Try.ntmps88
    go_wp2_with (go_at_call 89; refine (hcon _).mono ?_; rintro e w' ⟨rfl, rfl⟩)
    go_ret
    exact ⟨rfl, rfl⟩

/-! ### strings_Index: function 86 -/
set_option maxHeartbeats 1000000 in
theorem strings_Index.calls (s : ByteArray) (c : UInt8) (w : World) :
    Calls Try.prog 86 #[.string s, .string ⟨#[c]⟩] w fun e w' => e = .returned (.int .i64 (Lib.indexByte s.data.toList c)) ∧ w' = w := by
  have hcon := stringslite_Index.calls s c
  generalize Lib.indexByte s.data.toList c = r at hcon ⊢
  go_enter Try.func86, Try.ntmps86
  go_wp2_with (go_at_call 88; (with_reducible refine (hcon _).mono ?_); rintro e w' ⟨rfl, rfl⟩)
  go_ret
  exact ⟨rfl, rfl⟩

/-! ### strings_Contains: function 67 -/
set_option maxHeartbeats 1000000 in
theorem strings_Contains.calls (s : ByteArray) (c : UInt8) (w : World) :
    Calls Try.prog 67 #[.string s, .string ⟨#[c]⟩] w fun e w' => e = .returned (.bool (decide (0 ≤ Lib.indexByte s.data.toList c))) ∧ w' = w := by
  have hcon := strings_Index.calls s c
  generalize Lib.indexByte s.data.toList c = r at hcon ⊢
  go_enter Try.func67, Try.ntmps67
  go_wp2_with (go_at_call 86; (with_reducible refine (hcon _).mono ?_); rintro e w' ⟨rfl, rfl⟩)
  go_ret
  exact ⟨by first | rfl | (simp; done), rfl⟩

/-! ### impl_isKind: function 36 -/
/-- Is a text one letter of a text? -/
def kindB (a0 : ByteArray) : Bool := ([112, 115, 99, 116, 100, 114] : List UInt8).any fun c => a0.toList == [c]
theorem indexByte_iff (l : List UInt8) (c : UInt8) : 0 ≤ Lib.indexByte l c ↔ (l.any fun b => b == c) = true := by
  induction l with
  | nil => simp [Lib.indexByte]
  | cons b l ih =>
    have low := Lib.indexByte_ge l c
    simp only [Lib.indexByte, List.any_cons, Bool.or_eq_true]
    by_cases h : (b == c) = true
    · rw [if_pos h]; simp [h]
    · rw [if_neg h]
      by_cases h2 : (Lib.indexByte l c == -1) = true
      · rw [if_pos h2]
        have h3 := beq_iff_eq.mp h2
        constructor
        · intro q; omega
        · rintro (q | q)
          · exact absurd q h
          · have := ih.mpr q; omega
      · rw [if_neg h2]
        have h3 : Lib.indexByte l c ≠ -1 := fun e => h2 (beq_iff_eq.mpr e)
        constructor
        · intro q; exact Or.inr (ih.mp (by omega))
        · intro q; omega
theorem indexByte_any (l : List UInt8) (c : UInt8) : decide (0 ≤ Lib.indexByte l c) = l.any fun b => b == c := by
  rw [Bool.eq_iff_iff, decide_eq_true_eq]
  exact indexByte_iff l c
theorem toList_data (a : ByteArray) : a.toList = a.data.toList := Lib.toList_data a
theorem kindB_one (c : UInt8) : decide (0 ≤ Lib.indexByte ([112, 115, 99, 116, 100, 114] : List UInt8) c) = kindB ⟨#[c]⟩ := by
  rw [indexByte_any]
  unfold kindB
  rw [toList_data]
  refine congrArg (fun f => List.any ([112, 115, 99, 116, 100, 114] : List UInt8) f) (funext fun b => ?_)
  by_cases h : b = c
  · subst h; simp
  · have h1 : (b == c) = false := by simpa using h
    have h2 : ([c] == [b]) = false := by
      rw [beq_eq_false_iff_ne]
      intro e
      exact h (List.cons.inj e).1.symm
    rw [h1]; exact h2.symm
theorem kindB_size (a : ByteArray) (h : a.size ≠ 1) : kindB a = false := by
  unfold kindB
  rw [List.any_eq_false]
  intro c _ hc
  have := beq_iff_eq.mp hc
  rw [toList_data] at this
  apply h
  have hl := congrArg List.length this
  simpa using hl
def impl_isKind.f (a0 : ByteArray) : Option (Bool) := some (kindB a0)
set_option maxHeartbeats 2000000 in
set_option maxRecDepth 100000 in
theorem impl_isKind.calls (a0 : ByteArray) (r : Bool) (w : World) (h : impl_isKind.f a0 = some r) :
    Calls Try.prog 36 #[.string a0] w fun e w' => e = .returned (.bool r) ∧ Drawn0 w w' := by
  obtain rfl := Option.some.inj h
  clear h
  by_cases h1 : a0.size = 1
  · obtain ⟨c, rfl⟩ : ∃ c, a0 = ⟨#[c]⟩ := by
      obtain ⟨⟨l⟩⟩ := a0
      match l, h1 with
      | [c], _ => exact ⟨c, rfl⟩
    clear h1
    have hcon := strings_Contains.calls (⟨#[112, 115, 99, 116, 100, 114]⟩ : ByteArray) c
    have hk := kindB_one c
    rw [show (⟨#[112, 115, 99, 116, 100, 114]⟩ : ByteArray).data.toList = ([112, 115, 99, 116, 100, 114] : List UInt8) from rfl, hk] at hcon
    clear hk
    generalize kindB ⟨#[c]⟩ = b at hcon ⊢
    go_enter Try.func36, Try.ntmps36
    go_wp2_with (go_at_call 67; (with_reducible refine (hcon _).mono ?_); rintro e w' ⟨rfl, rfl⟩)
    go_ret
    exact ⟨by first | rfl | (simp; done), Drawn0.refl _⟩
  · rw [kindB_size a0 h1]
    have e1 : ((a0.size : Int) == 1) = false := beq_eq_false_iff_ne.mpr (by omega)
    clear h1
    go_enter Try.func36, Try.ntmps36
    go_wp2
    go_ret
    exact ⟨by first | rfl | (simp; done), by repeat (first | exact Drawn0.refl _ | apply Drawn0.step)⟩
/-! ### a text's letters, one by one: the law's loop over a text -/
def codeGo : List Nat → Code → Option Code
  | [], c => some c
  | 0 :: p, .seq a _ => codeGo p a
  | _ :: p, .seq _ b => codeGo p b
  | _ :: p, .block _ b => codeGo p b
  | _ :: p, .loop b => codeGo p b
  | 0 :: p, .cond _ a _ => codeGo p a
  | _ :: p, .cond _ _ b => codeGo p b
  | _, _ => none
def toldTo (ks kind : ByteArray) (n : Nat) : Bool := (List.range n).any fun i => ((ks.extract i (i + 1)).toList == kind.toList)
theorem toldTo_succ (ks kind : ByteArray) (n : Nat) : toldTo ks kind (n + 1) = (toldTo ks kind n || ((ks.extract n (n + 1)).toList == kind.toList)) := by
  unfold toldTo
  rw [List.range_succ, List.any_append]
  simp
def toldIn.f (ks kind : ByteArray) : Option Bool := if ks.size ≤ 100 ∧ (∀ i, (h : i < ks.size) → (ks[i]'h).toNat < 128) then some (toldTo ks kind ks.size) else none
theorem iter_below (W : World) (ks : ByteArray) (i : Nat) : Below W.heap.size W (W.iter ks i) := (Below.refl _ _).alloc (Nat.le_refl _) _
set_option maxHeartbeats 8000000 in
set_option maxRecDepth 100000 in
theorem toldIn.block (c_ : Code) (hc_ : (Try.f3.body.bind (codeGo [1, 1, 1, 1, 1, 1, 1, 1, 1, 1, 1, 1, 1, 1, 1, 1, 0, 1, 0, 0, 1, 1, 1, 1, 0, 1, 1, 1, 1, 0, 1, 1])) = some c_) (ks kind : ByteArray) (t : Bool) (W : World) (K : Act → World → Prop) (Q' : Exit → Act → World → Prop) (s_0 s_1 s_2 s_3 s_4 s_5 s_7 s_8 s_9 s_10 s_11 s_12 s_13 s_14 s_15 s_16 s_17 s_18 s_19 s_20 s_21 s_22 s_23 s_24 s_25 s_26 s_27 s_28 s_29 s_30 s_31 s_32 s_33 s_34 s_35 s_36 s_37 s_39 s_41 s_42 s_43 s_44 s_45 s_46 s_47 s_48 s_49 s_50 s_51 s_52 s_53 s_54 s_55 s_56 s_57 s_58 s_59 s_60 s_61 s_62 s_63 s_64 s_65 s_66 s_67 s_68 s_69 s_70 s_71 s_72 s_73 s_74 s_75 s_76 s_77 s_78 s_79 s_80 s_81 s_82 s_83 s_84 s_85 s_86 s_87 s_88 s_89 s_90 s_91 s_92 s_93 s_94 s_95 s_96 s_97 s_98 s_99 s_100 s_101 s_102 s_103 s_104 s_105 s_106 s_107 s_108 s_109 s_110 s_111 s_112 s_113 s_114 s_115 s_116 s_117 s_118 s_119 s_120 s_121 s_122 s_123 s_124 s_125 s_126 s_127 s_128 s_129 s_130 s_131 s_132 s_133 s_134 s_135 s_136 s_137 s_138 s_139 s_140 s_141 s_142 s_143 s_144 s_145 s_146 s_147 s_148 s_149 s_150 s_151 s_152 s_153 s_154 s_155 s_156 s_157 s_158 s_159 s_160 s_161 s_162 s_163 s_164 s_165 s_166 s_167 s_168 s_169 s_170 s_171 s_172 s_173 s_174 s_175 s_176 s_177 s_178 s_179 s_180 s_181 s_182 s_183 s_184 s_185 s_186 s_187 s_188 s_189 s_190 s_191 s_192 s_193 s_194 s_195 s_196 s_197 s_198 s_199 s_200 s_201 s_202 s_203 s_204 s_205 s_206 s_207 s_208 s_209 s_210 s_211 s_212 s_213 s_214 s_215 s_216 s_217 s_218 s_219 s_220 s_221 s_222 s_223 s_224 s_225 s_226 s_227 s_228 s_229 s_230 s_231 s_232 s_233 s_234 s_235 s_236 s_237 s_238 s_239 s_240 s_241 s_242 s_243 s_244 s_245 s_246 s_247 s_248 s_249 s_250 s_251 s_252 s_253 s_254 s_255 s_256 s_257 s_258 s_259 s_260 s_261 s_262 s_263 s_264 s_265 s_266 s_267 s_268 s_269 s_270 s_271 s_272 s_273 s_274 s_275 s_278 s_279 s_280 s_281 s_282 s_283 s_284 s_285 s_286 s_287 s_288 s_289 s_290 s_291 s_292 s_293 s_294 s_295 s_296 s_297 s_298 s_299 s_300 s_301 s_302 s_303 s_304 s_305 s_306 s_307 s_308 s_309 s_310 s_311 s_312 s_313 s_314 s_315 s_316 s_317 s_318 s_319 s_320 s_321 s_322 s_323 s_324 s_325 s_326 s_327 s_328 s_329 s_330 s_331 s_332 s_333 s_334 s_335 s_336 s_337 s_338 s_339 s_340 s_341 s_342 s_343 s_344 s_345 s_346 s_347 s_348 s_349 s_350 s_351 s_352 s_353 s_354 s_355 s_356 s_357 s_358 s_359 s_360 s_361 s_362 s_363 s_364 s_365 s_366 s_367 s_368 s_369 s_370 s_371 s_372 s_373 s_374 s_375 s_376 s_377 s_378 s_379 s_380 s_381 s_382 s_383 s_384 s_385 s_386 s_387 s_388 s_389 s_390 s_391 s_392 s_393 s_394 s_395 s_396 s_397 s_398 s_399 s_400 s_401 s_402 s_403 s_404 s_405 s_406 s_407 s_408 s_409 s_410 s_411 s_412 s_413 s_414 s_415 s_416 s_417 s_418 s_419 s_420 s_421 s_422 s_423 s_424 s_425 s_426 s_427 s_428 s_429 s_430 s_431 s_432 s_433 s_434 s_435 s_436 s_437 s_438 s_439 s_440 s_441 s_442 s_443 s_444 s_445 s_446 s_447 s_448 s_449 s_450 s_451 s_452 s_453 s_454 s_455 s_456 s_457 s_458 s_459 s_460 s_461 s_462 s_463 s_464 s_465 s_466 s_467 s_468 s_469 s_470 s_471 s_472 s_473 s_474 s_475 s_476 s_477 s_478 s_479 s_480 s_481 s_482 s_483 s_484 s_485 s_486 s_487 s_488 s_489 s_490 s_491 s_492 s_493 s_494 s_495 s_496 s_497 s_498 s_499 s_500 s_501 s_502 s_503 s_504 s_505 s_506 s_507 s_508 s_509 s_510 s_511 s_512 s_513 s_514 s_515 s_516 s_517 s_518 s_519 s_520 s_521 s_522 s_523 s_524 s_525 s_526 s_527 s_528 s_529 s_530 s_531 s_532 s_533 s_534 s_535 s_536 s_537 s_538 s_539 s_540 s_541 s_542 s_543 s_544 s_545 s_546 s_547 s_548 s_549 s_550 s_551 s_552 s_553 s_554 s_555 s_556 s_557 s_558 s_559 s_560 s_561 s_562 s_563 s_564 s_565 s_566 s_567 s_568 s_569 s_570 s_571 s_572 s_573 s_574 s_575 s_576 s_577 s_578 s_579 s_580 s_581 s_582 s_583 s_584 s_585 s_586 s_587 s_588 s_589 s_590 s_591 s_592 s_593 s_594 s_595 s_596 s_597 s_598 s_599 s_600 s_601 s_602 s_603 s_604 s_605 s_606 s_607 s_608 s_609 s_610 s_611 s_612 s_613 s_614 : Value) (h : toldIn.f ks kind = some t)
    (hk : ∀ (u41 u278 u279 u280 u281 u282 u283 u284 u285 u286 u287 u288 u289 u290 : Value) (w' : World), Below W.heap.size W w' → K ⟨(s_0 :: s_1 :: s_2 :: s_3 :: s_4 :: s_5 :: (.string kind : Value) :: s_7 :: s_8 :: s_9 :: s_10 :: s_11 :: s_12 :: s_13 :: s_14 :: s_15 :: s_16 :: s_17 :: s_18 :: s_19 :: s_20 :: s_21 :: s_22 :: s_23 :: s_24 :: s_25 :: s_26 :: s_27 :: s_28 :: s_29 :: s_30 :: s_31 :: s_32 :: s_33 :: s_34 :: s_35 :: s_36 :: s_37 :: (.string ks : Value) :: s_39 :: (.bool t : Value) :: (u41 : Value) :: s_42 :: s_43 :: s_44 :: s_45 :: s_46 :: s_47 :: s_48 :: s_49 :: s_50 :: s_51 :: s_52 :: s_53 :: s_54 :: s_55 :: s_56 :: s_57 :: s_58 :: s_59 :: s_60 :: s_61 :: s_62 :: s_63 :: s_64 :: s_65 :: s_66 :: s_67 :: s_68 :: s_69 :: s_70 :: s_71 :: s_72 :: s_73 :: s_74 :: s_75 :: s_76 :: s_77 :: s_78 :: s_79 :: s_80 :: s_81 :: s_82 :: s_83 :: s_84 :: s_85 :: s_86 :: s_87 :: s_88 :: s_89 :: s_90 :: s_91 :: s_92 :: s_93 :: s_94 :: s_95 :: s_96 :: s_97 :: s_98 :: s_99 :: s_100 :: s_101 :: s_102 :: s_103 :: s_104 :: s_105 :: s_106 :: s_107 :: s_108 :: s_109 :: s_110 :: s_111 :: s_112 :: s_113 :: s_114 :: s_115 :: s_116 :: s_117 :: s_118 :: s_119 :: s_120 :: s_121 :: s_122 :: s_123 :: s_124 :: s_125 :: s_126 :: s_127 :: s_128 :: s_129 :: s_130 :: s_131 :: s_132 :: s_133 :: s_134 :: s_135 :: s_136 :: s_137 :: s_138 :: s_139 :: s_140 :: s_141 :: s_142 :: s_143 :: s_144 :: s_145 :: s_146 :: s_147 :: s_148 :: s_149 :: s_150 :: s_151 :: s_152 :: s_153 :: s_154 :: s_155 :: s_156 :: s_157 :: s_158 :: s_159 :: s_160 :: s_161 :: s_162 :: s_163 :: s_164 :: s_165 :: s_166 :: s_167 :: s_168 :: s_169 :: s_170 :: s_171 :: s_172 :: s_173 :: s_174 :: s_175 :: s_176 :: s_177 :: s_178 :: s_179 :: s_180 :: s_181 :: s_182 :: s_183 :: s_184 :: s_185 :: s_186 :: s_187 :: s_188 :: s_189 :: s_190 :: s_191 :: s_192 :: s_193 :: s_194 :: s_195 :: s_196 :: s_197 :: s_198 :: s_199 :: s_200 :: s_201 :: s_202 :: s_203 :: s_204 :: s_205 :: s_206 :: s_207 :: s_208 :: s_209 :: s_210 :: s_211 :: s_212 :: s_213 :: s_214 :: s_215 :: s_216 :: s_217 :: s_218 :: s_219 :: s_220 :: s_221 :: s_222 :: s_223 :: s_224 :: s_225 :: s_226 :: s_227 :: s_228 :: s_229 :: s_230 :: s_231 :: s_232 :: s_233 :: s_234 :: s_235 :: s_236 :: s_237 :: s_238 :: s_239 :: s_240 :: s_241 :: s_242 :: s_243 :: s_244 :: s_245 :: s_246 :: s_247 :: s_248 :: s_249 :: s_250 :: s_251 :: s_252 :: s_253 :: s_254 :: s_255 :: s_256 :: s_257 :: s_258 :: s_259 :: s_260 :: s_261 :: s_262 :: s_263 :: s_264 :: s_265 :: s_266 :: s_267 :: s_268 :: s_269 :: s_270 :: s_271 :: s_272 :: s_273 :: s_274 :: s_275 :: (.string ks : Value) :: (.pointer (some ⟨W.heap.size, 0, none⟩) : Value) :: (u278 : Value) :: (u279 : Value) :: (u280 : Value) :: (u281 : Value) :: (u282 : Value) :: (u283 : Value) :: (u284 : Value) :: (u285 : Value) :: (u286 : Value) :: (u287 : Value) :: (u288 : Value) :: (u289 : Value) :: (u290 : Value) :: s_291 :: s_292 :: s_293 :: s_294 :: s_295 :: s_296 :: s_297 :: s_298 :: s_299 :: s_300 :: s_301 :: s_302 :: s_303 :: s_304 :: s_305 :: s_306 :: s_307 :: s_308 :: s_309 :: s_310 :: s_311 :: s_312 :: s_313 :: s_314 :: s_315 :: s_316 :: s_317 :: s_318 :: s_319 :: s_320 :: s_321 :: s_322 :: s_323 :: s_324 :: s_325 :: s_326 :: s_327 :: s_328 :: s_329 :: s_330 :: s_331 :: s_332 :: s_333 :: s_334 :: s_335 :: s_336 :: s_337 :: s_338 :: s_339 :: s_340 :: s_341 :: s_342 :: s_343 :: s_344 :: s_345 :: s_346 :: s_347 :: s_348 :: s_349 :: s_350 :: s_351 :: s_352 :: s_353 :: s_354 :: s_355 :: s_356 :: s_357 :: s_358 :: s_359 :: s_360 :: s_361 :: s_362 :: s_363 :: s_364 :: s_365 :: s_366 :: s_367 :: s_368 :: s_369 :: s_370 :: s_371 :: s_372 :: s_373 :: s_374 :: s_375 :: s_376 :: s_377 :: s_378 :: s_379 :: s_380 :: s_381 :: s_382 :: s_383 :: s_384 :: s_385 :: s_386 :: s_387 :: s_388 :: s_389 :: s_390 :: s_391 :: s_392 :: s_393 :: s_394 :: s_395 :: s_396 :: s_397 :: s_398 :: s_399 :: s_400 :: s_401 :: s_402 :: s_403 :: s_404 :: s_405 :: s_406 :: s_407 :: s_408 :: s_409 :: s_410 :: s_411 :: s_412 :: s_413 :: s_414 :: s_415 :: s_416 :: s_417 :: s_418 :: s_419 :: s_420 :: s_421 :: s_422 :: s_423 :: s_424 :: s_425 :: s_426 :: s_427 :: s_428 :: s_429 :: s_430 :: s_431 :: s_432 :: s_433 :: s_434 :: s_435 :: s_436 :: s_437 :: s_438 :: s_439 :: s_440 :: s_441 :: s_442 :: s_443 :: s_444 :: s_445 :: s_446 :: s_447 :: s_448 :: s_449 :: s_450 :: s_451 :: s_452 :: s_453 :: s_454 :: s_455 :: s_456 :: s_457 :: s_458 :: s_459 :: s_460 :: s_461 :: s_462 :: s_463 :: s_464 :: s_465 :: s_466 :: s_467 :: s_468 :: s_469 :: s_470 :: s_471 :: s_472 :: s_473 :: s_474 :: s_475 :: s_476 :: s_477 :: s_478 :: s_479 :: s_480 :: s_481 :: s_482 :: s_483 :: s_484 :: s_485 :: s_486 :: s_487 :: s_488 :: s_489 :: s_490 :: s_491 :: s_492 :: s_493 :: s_494 :: s_495 :: s_496 :: s_497 :: s_498 :: s_499 :: s_500 :: s_501 :: s_502 :: s_503 :: s_504 :: s_505 :: s_506 :: s_507 :: s_508 :: s_509 :: s_510 :: s_511 :: s_512 :: s_513 :: s_514 :: s_515 :: s_516 :: s_517 :: s_518 :: s_519 :: s_520 :: s_521 :: s_522 :: s_523 :: s_524 :: s_525 :: s_526 :: s_527 :: s_528 :: s_529 :: s_530 :: s_531 :: s_532 :: s_533 :: s_534 :: s_535 :: s_536 :: s_537 :: s_538 :: s_539 :: s_540 :: s_541 :: s_542 :: s_543 :: s_544 :: s_545 :: s_546 :: s_547 :: s_548 :: s_549 :: s_550 :: s_551 :: s_552 :: s_553 :: s_554 :: s_555 :: s_556 :: s_557 :: s_558 :: s_559 :: s_560 :: s_561 :: s_562 :: s_563 :: s_564 :: s_565 :: s_566 :: s_567 :: s_568 :: s_569 :: s_570 :: s_571 :: s_572 :: s_573 :: s_574 :: s_575 :: s_576 :: s_577 :: s_578 :: s_579 :: s_580 :: s_581 :: s_582 :: s_583 :: s_584 :: s_585 :: s_586 :: s_587 :: s_588 :: s_589 :: s_590 :: s_591 :: s_592 :: s_593 :: s_594 :: s_595 :: s_596 :: s_597 :: s_598 :: s_599 :: s_600 :: s_601 :: s_602 :: s_603 :: s_604 :: s_605 :: s_606 :: s_607 :: s_608 :: s_609 :: s_610 :: s_611 :: s_612 :: s_613 :: s_614 :: []).toArray, []⟩ w') : c_.wp Try.prog (Exit.inBlock 2 (Exit.then K Q')) ⟨(s_0 :: s_1 :: s_2 :: s_3 :: s_4 :: s_5 :: (.string kind : Value) :: s_7 :: s_8 :: s_9 :: s_10 :: s_11 :: s_12 :: s_13 :: s_14 :: s_15 :: s_16 :: s_17 :: s_18 :: s_19 :: s_20 :: s_21 :: s_22 :: s_23 :: s_24 :: s_25 :: s_26 :: s_27 :: s_28 :: s_29 :: s_30 :: s_31 :: s_32 :: s_33 :: s_34 :: s_35 :: s_36 :: s_37 :: (.string ks : Value) :: s_39 :: (.bool false : Value) :: s_41 :: s_42 :: s_43 :: s_44 :: s_45 :: s_46 :: s_47 :: s_48 :: s_49 :: s_50 :: s_51 :: s_52 :: s_53 :: s_54 :: s_55 :: s_56 :: s_57 :: s_58 :: s_59 :: s_60 :: s_61 :: s_62 :: s_63 :: s_64 :: s_65 :: s_66 :: s_67 :: s_68 :: s_69 :: s_70 :: s_71 :: s_72 :: s_73 :: s_74 :: s_75 :: s_76 :: s_77 :: s_78 :: s_79 :: s_80 :: s_81 :: s_82 :: s_83 :: s_84 :: s_85 :: s_86 :: s_87 :: s_88 :: s_89 :: s_90 :: s_91 :: s_92 :: s_93 :: s_94 :: s_95 :: s_96 :: s_97 :: s_98 :: s_99 :: s_100 :: s_101 :: s_102 :: s_103 :: s_104 :: s_105 :: s_106 :: s_107 :: s_108 :: s_109 :: s_110 :: s_111 :: s_112 :: s_113 :: s_114 :: s_115 :: s_116 :: s_117 :: s_118 :: s_119 :: s_120 :: s_121 :: s_122 :: s_123 :: s_124 :: s_125 :: s_126 :: s_127 :: s_128 :: s_129 :: s_130 :: s_131 :: s_132 :: s_133 :: s_134 :: s_135 :: s_136 :: s_137 :: s_138 :: s_139 :: s_140 :: s_141 :: s_142 :: s_143 :: s_144 :: s_145 :: s_146 :: s_147 :: s_148 :: s_149 :: s_150 :: s_151 :: s_152 :: s_153 :: s_154 :: s_155 :: s_156 :: s_157 :: s_158 :: s_159 :: s_160 :: s_161 :: s_162 :: s_163 :: s_164 :: s_165 :: s_166 :: s_167 :: s_168 :: s_169 :: s_170 :: s_171 :: s_172 :: s_173 :: s_174 :: s_175 :: s_176 :: s_177 :: s_178 :: s_179 :: s_180 :: s_181 :: s_182 :: s_183 :: s_184 :: s_185 :: s_186 :: s_187 :: s_188 :: s_189 :: s_190 :: s_191 :: s_192 :: s_193 :: s_194 :: s_195 :: s_196 :: s_197 :: s_198 :: s_199 :: s_200 :: s_201 :: s_202 :: s_203 :: s_204 :: s_205 :: s_206 :: s_207 :: s_208 :: s_209 :: s_210 :: s_211 :: s_212 :: s_213 :: s_214 :: s_215 :: s_216 :: s_217 :: s_218 :: s_219 :: s_220 :: s_221 :: s_222 :: s_223 :: s_224 :: s_225 :: s_226 :: s_227 :: s_228 :: s_229 :: s_230 :: s_231 :: s_232 :: s_233 :: s_234 :: s_235 :: s_236 :: s_237 :: s_238 :: s_239 :: s_240 :: s_241 :: s_242 :: s_243 :: s_244 :: s_245 :: s_246 :: s_247 :: s_248 :: s_249 :: s_250 :: s_251 :: s_252 :: s_253 :: s_254 :: s_255 :: s_256 :: s_257 :: s_258 :: s_259 :: s_260 :: s_261 :: s_262 :: s_263 :: s_264 :: s_265 :: s_266 :: s_267 :: s_268 :: s_269 :: s_270 :: s_271 :: s_272 :: s_273 :: s_274 :: s_275 :: (.string ks : Value) :: (.pointer (some ⟨W.heap.size, 0, none⟩) : Value) :: s_278 :: s_279 :: s_280 :: s_281 :: s_282 :: s_283 :: s_284 :: s_285 :: s_286 :: s_287 :: s_288 :: s_289 :: s_290 :: s_291 :: s_292 :: s_293 :: s_294 :: s_295 :: s_296 :: s_297 :: s_298 :: s_299 :: s_300 :: s_301 :: s_302 :: s_303 :: s_304 :: s_305 :: s_306 :: s_307 :: s_308 :: s_309 :: s_310 :: s_311 :: s_312 :: s_313 :: s_314 :: s_315 :: s_316 :: s_317 :: s_318 :: s_319 :: s_320 :: s_321 :: s_322 :: s_323 :: s_324 :: s_325 :: s_326 :: s_327 :: s_328 :: s_329 :: s_330 :: s_331 :: s_332 :: s_333 :: s_334 :: s_335 :: s_336 :: s_337 :: s_338 :: s_339 :: s_340 :: s_341 :: s_342 :: s_343 :: s_344 :: s_345 :: s_346 :: s_347 :: s_348 :: s_349 :: s_350 :: s_351 :: s_352 :: s_353 :: s_354 :: s_355 :: s_356 :: s_357 :: s_358 :: s_359 :: s_360 :: s_361 :: s_362 :: s_363 :: s_364 :: s_365 :: s_366 :: s_367 :: s_368 :: s_369 :: s_370 :: s_371 :: s_372 :: s_373 :: s_374 :: s_375 :: s_376 :: s_377 :: s_378 :: s_379 :: s_380 :: s_381 :: s_382 :: s_383 :: s_384 :: s_385 :: s_386 :: s_387 :: s_388 :: s_389 :: s_390 :: s_391 :: s_392 :: s_393 :: s_394 :: s_395 :: s_396 :: s_397 :: s_398 :: s_399 :: s_400 :: s_401 :: s_402 :: s_403 :: s_404 :: s_405 :: s_406 :: s_407 :: s_408 :: s_409 :: s_410 :: s_411 :: s_412 :: s_413 :: s_414 :: s_415 :: s_416 :: s_417 :: s_418 :: s_419 :: s_420 :: s_421 :: s_422 :: s_423 :: s_424 :: s_425 :: s_426 :: s_427 :: s_428 :: s_429 :: s_430 :: s_431 :: s_432 :: s_433 :: s_434 :: s_435 :: s_436 :: s_437 :: s_438 :: s_439 :: s_440 :: s_441 :: s_442 :: s_443 :: s_444 :: s_445 :: s_446 :: s_447 :: s_448 :: s_449 :: s_450 :: s_451 :: s_452 :: s_453 :: s_454 :: s_455 :: s_456 :: s_457 :: s_458 :: s_459 :: s_460 :: s_461 :: s_462 :: s_463 :: s_464 :: s_465 :: s_466 :: s_467 :: s_468 :: s_469 :: s_470 :: s_471 :: s_472 :: s_473 :: s_474 :: s_475 :: s_476 :: s_477 :: s_478 :: s_479 :: s_480 :: s_481 :: s_482 :: s_483 :: s_484 :: s_485 :: s_486 :: s_487 :: s_488 :: s_489 :: s_490 :: s_491 :: s_492 :: s_493 :: s_494 :: s_495 :: s_496 :: s_497 :: s_498 :: s_499 :: s_500 :: s_501 :: s_502 :: s_503 :: s_504 :: s_505 :: s_506 :: s_507 :: s_508 :: s_509 :: s_510 :: s_511 :: s_512 :: s_513 :: s_514 :: s_515 :: s_516 :: s_517 :: s_518 :: s_519 :: s_520 :: s_521 :: s_522 :: s_523 :: s_524 :: s_525 :: s_526 :: s_527 :: s_528 :: s_529 :: s_530 :: s_531 :: s_532 :: s_533 :: s_534 :: s_535 :: s_536 :: s_537 :: s_538 :: s_539 :: s_540 :: s_541 :: s_542 :: s_543 :: s_544 :: s_545 :: s_546 :: s_547 :: s_548 :: s_549 :: s_550 :: s_551 :: s_552 :: s_553 :: s_554 :: s_555 :: s_556 :: s_557 :: s_558 :: s_559 :: s_560 :: s_561 :: s_562 :: s_563 :: s_564 :: s_565 :: s_566 :: s_567 :: s_568 :: s_569 :: s_570 :: s_571 :: s_572 :: s_573 :: s_574 :: s_575 :: s_576 :: s_577 :: s_578 :: s_579 :: s_580 :: s_581 :: s_582 :: s_583 :: s_584 :: s_585 :: s_586 :: s_587 :: s_588 :: s_589 :: s_590 :: s_591 :: s_592 :: s_593 :: s_594 :: s_595 :: s_596 :: s_597 :: s_598 :: s_599 :: s_600 :: s_601 :: s_602 :: s_603 :: s_604 :: s_605 :: s_606 :: s_607 :: s_608 :: s_609 :: s_610 :: s_611 :: s_612 :: s_613 :: s_614 :: []).toArray, []⟩ (W.iter ks 0) := by
  obtain rfl := Option.some.inj ((show some _ = some c_ from hc_))
  unfold toldIn.f at h
  by_cases hh : ks.size ≤ 100 ∧ (∀ i, (h : i < ks.size) → (ks[i]'h).toNat < 128)
  · rw [if_pos hh] at h
    have ht := Aside0.mk (Option.some.inj h)
    have HH := Aside0.mk hh
    have HK := Aside0.mk hk
    clear h hh hk
    go_loopg [40] ks.size (fun gk v40 w' => ∃ i : Nat, Aside0 (i ≤ ks.size) ∧ Aside0 (ks.size - i ≤ gk) ∧ v40 = .bool (toldTo ks kind i) ∧ w' = W.iter ks i)
    case atStart => exact ⟨0, ⟨Nat.zero_le _⟩, ⟨Nat.le_refl _⟩, rfl, rfl⟩
    case round =>
      obtain ⟨i, hi, hg, rfl, rfl⟩ := hrel
      by_cases hlt : i < ks.size
      · have hnx := fun ty => run_next_ascii (P := Try.prog) W ks i ty hlt (HH.out.2 i hlt)
        generalize ((ks[i]'hlt).toNat : Int) = cc at hnx
        have H1 := HH.out.1
        have e1 : wrap64 ((i : Int) + 1) = (i : Int) + 1 := by unfold wrap64; omega
        have hs := toldTo_succ ks kind i
        have hs' := Aside0.mk hs
        clear hs
        cases hb : toldTo ks kind i
        · go_wp2
          go_roundg (ks.size - (i + 1))
          case measure => have := hg.out; omega
          case rel =>
            have h2 := hs'.out
            rw [hb, Bool.false_or] at h2
            exact ⟨i + 1, ⟨by omega⟩, ⟨Nat.le_refl _⟩, by rw [h2], rfl⟩
        · go_wp2
          go_roundg (ks.size - (i + 1))
          case measure => have := hg.out; omega
          case rel =>
            have h2 := hs'.out
            rw [hb, Bool.true_or] at h2
            exact ⟨i + 1, ⟨by omega⟩, ⟨Nat.le_refl _⟩, by rw [h2], rfl⟩
      · have hnx := fun ty => run_next_end (P := Try.prog) W ks i ty hlt
        obtain rfl : i = ks.size := by have := hi.out; omega
        have HT := ht
        generalize toldTo ks kind ks.size = tt at HT
        go_wp2
        obtain rfl := HT.out
        exact HK.out _ _ _ _ _ _ _ _ _ _ _ _ _ _ _ (iter_below _ _ _)
  · rw [if_neg hh] at h
    cases h

/-! ### slices_Min_int_int: function 71 -/
/-- The least of a number and those behind it. -/
def minFrom : List Int → Int → Int
  | [], m => m
  | x :: xs, m => minFrom xs (if x < m then x else m)
def slices_Min_int_int.f (l0 : List Int) : Option (Int) := if 0 < l0.length then some (minFrom (l0.drop 1) (rd l0 0)) else none
set_option maxHeartbeats 1000000 in
theorem slices_Min_int_int.calls (A0 : Option Addr) (c0 : Nat) (l0 : List Int) (r : Int) (w : World) (hr0 : Kd.C (Kd.int .i64) w A0 l0.length l0) (hc0 : l0.length ≤ c0) (h : slices_Min_int_int.f l0 = some r) :
    Calls Try.prog 71 #[.slice A0 l0.length c0] w fun e w' => e = .returned (.int .i64 r) ∧ Drawn0 w w' := by
  unfold slices_Min_int_int.f at h
  have hpos : 0 < l0.length := by
    by_cases q : 0 < l0.length
    · exact q
    · rw [if_neg q] at h; cases h
  rw [if_pos hpos] at h
  have hr := Option.some.inj h
  clear h
  have HRr := Aside0.mk hr
  clear hr
  have HR0 := Aside0.mk hr0
  have HC0 := Aside0.mk hc0
  have HN : l0.length ≤ 9223372036854775807 := (Kd.reads_of_C (enc := Value.int .i64) (d := (0 : Int)) (h1 := fun _ => rfl) hr0).2.1
  clear hr0 hc0
  obtain ⟨ad, e104, hx104⟩ := Kd.at_int HR0.out 0 (by omega) (by omega)
  cases e104
  have hx0 : w.cell? ad = some (.int .i64 (rd l0 0)) := by
    have := hx104
    rw [show ((0 : Int)).toNat = 0 from rfl, Addr.add_zero'] at this
    exact this
  clear hx104
  have c1b0 : decide ((l0.length : Int) < 1) = false := decide_eq_false (by omega)
  have p0 := eq_true (show (0 : Int) < (l0.length : Int) by omega)
  generalize hm : rd l0 0 = m0 at hx0
  have HM := Aside0.mk hm
  clear hm
  go_enter Try.func71, Try.ntmps71
  go_wp2
  go_loopg [3, 4] l0.length (fun gg s3 s4 wr => ∃ (kk : Nat) (m : Int), 1 ≤ kk ∧ kk ≤ l0.length ∧ l0.length - kk ≤ gg ∧ s3 = .int .i64 m ∧ s4 = .int .i64 kk ∧ Drawn0 w wr ∧ Aside0 (minFrom (l0.drop kk) m = r))
  case atStart => exact ⟨1, m0, Nat.le_refl _, by omega, by omega, rfl, rfl, by repeat (first | exact Drawn0.refl _ | apply Drawn0.step), ⟨by rw [← HM.out]; exact HRr.out⟩⟩
  case round =>
    obtain ⟨kk, m, hk1, hkk, hg, rfl, rfl, ⟨m1, rfl⟩, HA⟩ := hrel
    by_cases hlt : kk < l0.length
    · have c3b0 : decide ((kk : Int) < (l0.length : Int)) = true := decide_eq_true (by omega)
      have hdrop : l0.drop kk = rd l0 kk :: l0.drop (kk + 1) := by
        rw [List.drop_eq_getElem_cons hlt]
        simp [rd, List.getD_eq_getElem?_getD, List.getElem?_eq_getElem hlt]
      obtain ⟨ad', e104, hx104⟩ := Kd.at_int HR0.out (kk : Int) (by omega) (by omega)
      cases e104
      rw [Int.toNat_natCast] at hx104
      have p104 := eq_true (show 0 ≤ (kk : Int) by omega)
      have q104 := eq_true (show (kk : Int) < (l0.length : Int) by omega)
      generalize hy : rd l0 kk = y at hdrop hx104
      clear hy
      have HD := Aside0.mk hdrop
      clear hdrop
      by_cases hc : y < m
      · have hcb : decide (y < m) = true := decide_eq_true hc
        have HCc := Aside0.mk hc
        have hc' := eq_true hc
        clear hc
        go_wp2
        go_roundg (l0.length - (kk + 1))
        case measure => omega
        case rel =>
          refine ⟨kk + 1, y, by omega, by omega, by omega, by first | rfl | (simp; done) | (simp [*]; done), by go_num, by repeat (first | exact Drawn0.refl _ | apply Drawn0.step), ⟨?_⟩⟩
          have h2 := HA.out
          rw [HD.out] at h2
          simp only [minFrom] at h2
          rw [if_pos (by have := HCc.out; omega)] at h2
          exact h2
      · have hcb : decide (y < m) = false := decide_eq_false hc
        have HCc := Aside0.mk hc
        have hc' := eq_false hc
        clear hc
        go_wp2
        go_roundg (l0.length - (kk + 1))
        case measure => omega
        case rel =>
          refine ⟨kk + 1, m, by omega, by omega, by omega, by first | rfl | (simp; done) | (simp [*]; done), by go_num, by repeat (first | exact Drawn0.refl _ | apply Drawn0.step), ⟨?_⟩⟩
          have h2 := HA.out
          rw [HD.out] at h2
          simp only [minFrom] at h2
          rw [if_neg (by have := HCc.out; omega)] at h2
          exact h2
    · have c3b0 : decide ((kk : Int) < (l0.length : Int)) = false := decide_eq_false (by omega)
      have hltz : ¬ (kk : Int) < (l0.length : Int) := by omega
      go_wp2
      go_ret
      refine ⟨?_, by repeat (first | exact Drawn0.refl _ | apply Drawn0.step)⟩
      have h2 := HA.out
      rw [List.drop_of_length_le (by omega)] at h2
      simp only [minFrom] at h2
      rw [← h2]; first | rfl | (simp; done)

/-! ### slices_Max_int_int: function 72 -/
/-- The greatest of a number and those behind it. -/
def maxFrom : List Int → Int → Int
  | [], m => m
  | x :: xs, m => maxFrom xs (if m < x then x else m)
def slices_Max_int_int.f (l0 : List Int) : Option (Int) := if 0 < l0.length then some (maxFrom (l0.drop 1) (rd l0 0)) else none
set_option maxHeartbeats 1000000 in
theorem slices_Max_int_int.calls (A0 : Option Addr) (c0 : Nat) (l0 : List Int) (r : Int) (w : World) (hr0 : Kd.C (Kd.int .i64) w A0 l0.length l0) (hc0 : l0.length ≤ c0) (h : slices_Max_int_int.f l0 = some r) :
    Calls Try.prog 72 #[.slice A0 l0.length c0] w fun e w' => e = .returned (.int .i64 r) ∧ Drawn0 w w' := by
  unfold slices_Max_int_int.f at h
  have hpos : 0 < l0.length := by
    by_cases q : 0 < l0.length
    · exact q
    · rw [if_neg q] at h; cases h
  rw [if_pos hpos] at h
  have hr := Option.some.inj h
  clear h
  have HRr := Aside0.mk hr
  clear hr
  have HR0 := Aside0.mk hr0
  have HC0 := Aside0.mk hc0
  have HN : l0.length ≤ 9223372036854775807 := (Kd.reads_of_C (enc := Value.int .i64) (d := (0 : Int)) (h1 := fun _ => rfl) hr0).2.1
  clear hr0 hc0
  obtain ⟨ad, e104, hx104⟩ := Kd.at_int HR0.out 0 (by omega) (by omega)
  cases e104
  have hx0 : w.cell? ad = some (.int .i64 (rd l0 0)) := by
    have := hx104
    rw [show ((0 : Int)).toNat = 0 from rfl, Addr.add_zero'] at this
    exact this
  clear hx104
  have c1b0 : decide ((l0.length : Int) < 1) = false := decide_eq_false (by omega)
  have p0 := eq_true (show (0 : Int) < (l0.length : Int) by omega)
  generalize hm : rd l0 0 = m0 at hx0
  have HM := Aside0.mk hm
  clear hm
  go_enter Try.func72, Try.ntmps72
  go_wp2
  go_loopg [3, 4] l0.length (fun gg s3 s4 wr => ∃ (kk : Nat) (m : Int), 1 ≤ kk ∧ kk ≤ l0.length ∧ l0.length - kk ≤ gg ∧ s3 = .int .i64 m ∧ s4 = .int .i64 kk ∧ Drawn0 w wr ∧ Aside0 (maxFrom (l0.drop kk) m = r))
  case atStart => exact ⟨1, m0, Nat.le_refl _, by omega, by omega, rfl, rfl, by repeat (first | exact Drawn0.refl _ | apply Drawn0.step), ⟨by rw [← HM.out]; exact HRr.out⟩⟩
  case round =>
    obtain ⟨kk, m, hk1, hkk, hg, rfl, rfl, ⟨m1, rfl⟩, HA⟩ := hrel
    by_cases hlt : kk < l0.length
    · have c3b0 : decide ((kk : Int) < (l0.length : Int)) = true := decide_eq_true (by omega)
      have hdrop : l0.drop kk = rd l0 kk :: l0.drop (kk + 1) := by
        rw [List.drop_eq_getElem_cons hlt]
        simp [rd, List.getD_eq_getElem?_getD, List.getElem?_eq_getElem hlt]
      obtain ⟨ad', e104, hx104⟩ := Kd.at_int HR0.out (kk : Int) (by omega) (by omega)
      cases e104
      rw [Int.toNat_natCast] at hx104
      have p104 := eq_true (show 0 ≤ (kk : Int) by omega)
      have q104 := eq_true (show (kk : Int) < (l0.length : Int) by omega)
      generalize hy : rd l0 kk = y at hdrop hx104
      clear hy
      have HD := Aside0.mk hdrop
      clear hdrop
      by_cases hc : m < y
      · have hcb : decide (m < y) = true := decide_eq_true hc
        have HCc := Aside0.mk hc
        have hc' := eq_true hc
        clear hc
        go_wp2
        go_roundg (l0.length - (kk + 1))
        case measure => omega
        case rel =>
          refine ⟨kk + 1, y, by omega, by omega, by omega, by first | rfl | (simp; done) | (simp [*]; done), by go_num, by repeat (first | exact Drawn0.refl _ | apply Drawn0.step), ⟨?_⟩⟩
          have h2 := HA.out
          rw [HD.out] at h2
          simp only [maxFrom] at h2
          rw [if_pos (by have := HCc.out; omega)] at h2
          exact h2
      · have hcb : decide (m < y) = false := decide_eq_false hc
        have HCc := Aside0.mk hc
        have hc' := eq_false hc
        clear hc
        go_wp2
        go_roundg (l0.length - (kk + 1))
        case measure => omega
        case rel =>
          refine ⟨kk + 1, m, by omega, by omega, by omega, by first | rfl | (simp; done) | (simp [*]; done), by go_num, by repeat (first | exact Drawn0.refl _ | apply Drawn0.step), ⟨?_⟩⟩
          have h2 := HA.out
          rw [HD.out] at h2
          simp only [maxFrom] at h2
          rw [if_neg (by have := HCc.out; omega)] at h2
          exact h2
    · have c3b0 : decide ((kk : Int) < (l0.length : Int)) = false := decide_eq_false (by omega)
      have hltz : ¬ (kk : Int) < (l0.length : Int) := by omega
      go_wp2
      go_ret
      refine ⟨?_, by repeat (first | exact Drawn0.refl _ | apply Drawn0.step)⟩
      have h2 := HA.out
      rw [List.drop_of_length_le (by omega)] at h2
      simp only [maxFrom] at h2
      rw [← h2]; first | rfl | (simp; done)

/-! ### impl_fitYears: function 43 -/
def impl_fitYears.f (l0 : List Int) : Option (Int × Int) := (slices_Min_int_int.f l0).bind fun t169 => ((slices_Max_int_int.f l0).bind fun t170 => (some (wrap64 (-t169), wrap64 (120 - t170))))
set_option maxHeartbeats 8000000 in
set_option maxRecDepth 100000 in
theorem impl_fitYears.calls (A0 : Option Addr) (c0 : Nat) (l0 : List Int) (r1 : Int) (r2 : Int) (w : World) (hr0 : Kd.C (Kd.int .i64) w A0 l0.length l0) (hc0 : l0.length ≤ c0) (h : impl_fitYears.f l0 = some (r1, r2)) :
    Calls Try.prog 43 #[.slice A0 l0.length c0] w fun e w' => e = .returned (.tuple #[.int .i64 r1, .int .i64 r2]) ∧ Drawn0 w w' := by
  have HR0 := Aside0.mk hr0
  have HC0 := Aside0.mk hc0
  clear hr0 hc0
  have H : ((slices_Min_int_int.f l0).bind fun t169 => ((slices_Max_int_int.f l0).bind fun t170 => (some (wrap64 (-t169), wrap64 (120 - t170))))) = some (r1, r2) := h
  clear h
  replace H := Option.bind_eq_some_iff.mp H
  obtain ⟨t169, A20, H⟩ := H
  replace H : ((slices_Max_int_int.f l0).bind fun t170 => (some (wrap64 (-t169), wrap64 (120 - t170)))) = some (r1, r2) := H
  have A2 := Aside0.mk A20
  clear A20
  replace H := Option.bind_eq_some_iff.mp H
  obtain ⟨t170, A30, H⟩ := H
  replace H : (some (wrap64 (-t169), wrap64 (120 - t170))) = some (r1, r2) := H
  have A3 := Aside0.mk A30
  clear A30
  simp only [Option.some.injEq, Prod.mk.injEq] at H
  obtain ⟨rfl, rfl⟩ := H
  go_enter Try.func43, Try.ntmps43
  go_wp2_with (first | ((with_reducible refine gate_callee (f := 71) rfl ?_); refine goesL_ (some 5) rfl rfl Try.func71 (by kernel_rfl) rfl #[.slice A0 l0.length c0] rfl (by (try simp only [List.map_toArray, List.map_cons, List.map_nil]); first | done | rfl | (simp only [List.length_drop, List.length_take]; rfl)) ?_; (with_reducible refine (slices_Min_int_int.calls _ _ l0 t169 _ ?side1 ?side2 A2.out).mono ?_); (case side1 => repeat (first | exact HR0.out | (with_reducible refine Kd.C_alloc ?_ _) | (with_reducible refine Kd.C_drewN ?_ _) | (with_reducible refine Kd.C_drew ?_))); (case side2 => exact HC0.out); rintro e w' ⟨rfl, ⟨nd, rfl⟩⟩; refine ⟨_, rfl, ?_⟩) | ((with_reducible refine gate_callee (f := 72) rfl ?_); refine goesL_ (some 8) rfl rfl Try.func72 (by kernel_rfl) rfl #[.slice A0 l0.length c0] rfl (by (try simp only [List.map_toArray, List.map_cons, List.map_nil]); first | done | rfl | (simp only [List.length_drop, List.length_take]; rfl)) ?_; (with_reducible refine (slices_Max_int_int.calls _ _ l0 t170 _ ?side1 ?side2 A3.out).mono ?_); (case side1 => repeat (first | exact HR0.out | (with_reducible refine Kd.C_alloc ?_ _) | (with_reducible refine Kd.C_drewN ?_ _) | (with_reducible refine Kd.C_drew ?_))); (case side2 => exact HC0.out); rintro e w' ⟨rfl, ⟨nd, rfl⟩⟩; refine ⟨_, rfl, ?_⟩))
  go_ret2
  exact ⟨by first | rfl | (simp; done) | (simp [*]; done), by repeat (first | exact Drawn0.refl _ | apply Drawn0.step)⟩

/-! ### impl_inYears: function 44 -/
def impl_inYears.l0 : Nat → Int → List Int → List Int → Int → Int → Option (List Int)
  | 0, _, _, _, _, _ => none
  | k + 1, x1, x5, x9, x10, x11 => if x11 < x10 then (if 0 ≤ x11 then (if x11 < (x9.length : Int) then (if x5.length < 17592186044416 then (impl_inYears.l0 k x1 (x5 ++ [wrap64 ((rd x9 x11) + x1)]) x9 x10 (wrap64 (x11 + 1))) else (none)) else (none)) else (none)) else (some x5)
def impl_inYears.f (k : Nat) (l0 : List Int) (a1 : Int) : Option (List Int) := impl_inYears.l0 k a1 (([] : List Int)) l0 (l0.length : Int) 0
theorem impl_inYears.mono_l : ∀ k, (∀ y0 y1 y2 y3 y4, LeO (impl_inYears.l0 k y0 y1 y2 y3 y4) (impl_inYears.l0 (k + 1) y0 y1 y2 y3 y4))
  | 0 => fun _ _ _ _ _ r h => by simp [impl_inYears.l0] at h
  | k + 1 => by
    have ih0 := impl_inYears.mono_l k
    · intro y0 y1 y2 y3 y4
      unfold impl_inYears.l0
      repeat' first
      | (with_reducible exact ih0 _ _ _ _ _)
      | (with_reducible exact LeO.refl _)
      | (with_reducible exact LeO.none _)
      | (with_reducible refine LeO.ite ?_ ?_)
      | (with_reducible refine LeO.bind ?_ (fun _ => ?_))
      | exact ih0 _ _ _ _ _
      | exact LeO.none _
      | refine LeO.ite ?_ ?_
      | refine LeO.bind ?_ (fun _ => ?_)
theorem impl_inYears.mono : ∀ a0 a1 k, LeO (impl_inYears.f k a0 a1) (impl_inYears.f (k + 1) a0 a1) := by
  intro a0 a1 k
  have ih0 := impl_inYears.mono_l k
  unfold impl_inYears.f
  repeat' first
      | (with_reducible exact ih0 _ _ _ _ _)
      | (with_reducible exact LeO.refl _)
      | (with_reducible exact LeO.none _)
      | (with_reducible refine LeO.ite ?_ ?_)
      | (with_reducible refine LeO.bind ?_ (fun _ => ?_))
      | exact ih0 _ _ _ _ _
      | exact LeO.none _
      | refine LeO.ite ?_ ?_
      | refine LeO.bind ?_ (fun _ => ?_)
set_option maxHeartbeats 8000000 in
set_option maxRecDepth 100000 in
theorem impl_inYears.calls (k : Nat) (A0 : Option Addr) (c0 : Nat) (l0 : List Int) (a1 : Int) (r : List Int) (w : World) (hr0 : Kd.C (Kd.int .i64) w A0 l0.length l0) (hc0 : l0.length ≤ c0) (h : impl_inYears.f k l0 a1 = some r) :
    Calls Try.prog 44 #[.slice A0 l0.length c0, .int .i64 a1] w fun e w' => ∃ v0_ : Value, e = .returned (v0_) ∧ Kd.R (Kd.int .i64) 3 w' w.heap.size (fun _ => True) v0_ r ∧ Below w.heap.size w w' := by
  have HR0 := Aside0.mk hr0
  have HC0 := Aside0.mk hc0
  clear hr0 hc0
  have HB := Aside0.mk (Below.refl w.heap.size w)
  have H : (impl_inYears.l0 k a1 (([] : List Int)) l0 (l0.length : Int) 0) = some r := h
  clear h
  obtain ⟨y171, hy171⟩ : ∃ y_ : List Int, y_ = (([] : List Int)) := ⟨_, rfl⟩
  replace H : (impl_inYears.l0 k a1 y171 l0 (l0.length : Int) 0) = some r := by first | (rw [hy171]; with_reducible exact H) | (have H2_ := (Option.bind_some _ _).symm.trans H; rw [hy171]; with_reducible exact H2_) | (have H2_ := (Option.bind_some _ _).symm.trans H; with_reducible exact H2_) | with_reducible exact H | (rw [hy171]; exact H) | exact H
  have Ny171 := Aside0.mk hy171
  clear hy171
  have H' := Aside0.mk H
  clear H
  go_enter Try.func44, Try.ntmps44
  go_wp2_with (first | ((with_reducible refine gate_dst (N := 8) rfl ?_); refine Kd.R_lit (Kd.int .i64) _ 3 ?hg (N := 8) ?hd (xs := ([] : List Int)) (inner := []) (ok := fun _ => True) (okp := fun _ => True) ?hr ?hp (fun _ hk => hk) trivial (Below.refl _ _) (Nat.le_refl _) (by simp) ?_; (case hd => rfl); (case hg => rfl); (case hr => first | (go_simp; done) | (go_simp; rfl)); (case hp => exact (Reps.none _ _)); intro v172 w3 ho4 hb hg_ hnew_; clear hg_ hnew_; (first | rw [← Ny171.out] at ho4 | (simp only [Int.reduceToNat] at ho4; rw [← Ny171.out] at ho4)); have n0_ := Aside0.mk (Kd.R_lower ho4 (below_size (by repeat (first | (with_reducible first | exact HB.out | apply below_alloc | apply pw_below_drewN | apply below_drew1) | exact HB.out)))); have n1_ := Aside0.mk (below_step (by repeat (first | (with_reducible first | exact HB.out | apply below_alloc | apply pw_below_drewN | apply below_drew1) | exact HB.out)) hb); clear HB; have HO173 := n0_; have HB := n1_; clear n0_ n1_; clear hb ho4))
  go_loopg [5, 11] k (fun kq v5 v11 w' => ∃ (x5_1 : List Int) (x11_1 : Int), v11 = .int .i64 x11_1 ∧ Aside0 (impl_inYears.l0 kq a1 x5_1 l0 (l0.length : Int) x11_1 = some r) ∧ Aside0 (kq ≤ k) ∧ Aside0 (Kd.R (Kd.int .i64) 3 w' w.heap.size (fun _ => True) v5 x5_1) ∧ Aside0 (Below w.heap.size w w'))
  case atStart => exact ⟨(y171), (0), (by first | rfl | (simp; done) | (simp [*]; done)), H', ⟨Nat.le_refl _⟩, ⟨by (with_reducible repeat (first | apply Kd.R_alloc | apply Kd.R_drewN | apply Kd.R_drew)); exact HO173.out⟩, ⟨by repeat (first | (with_reducible first | exact HB.out | apply below_alloc | apply pw_below_drewN | apply below_drew1) | exact HB.out)⟩⟩
  case round =>
    clear H'
    try clear p2
    try clear c4
    obtain ⟨x5_1, x11_1, rfl, HA, HK1, HO_5, HB⟩ := hrel
    cases gk with
    | zero => exact absurd HA.out (by simp [impl_inYears.l0])
    | succ k1 =>
      have H := HA.out
      clear HA
      simp only [impl_inYears.l0] at H
      by_cases c5 : x11_1 < (l0.length : Int)
      · rw [if_pos c5] at H
        have c5b0 : decide (x11_1 < (l0.length : Int)) = true := decide_eq_true c5
        clear c5
        by_cases c6 : 0 ≤ x11_1
        · rw [if_pos c6] at H
          have c6b0 : decide (0 ≤ x11_1) = true := decide_eq_true c6
          clear c6
          by_cases c7 : x11_1 < (l0.length : Int)
          · rw [if_pos c7] at H
            have c7b0 : decide (x11_1 < (l0.length : Int)) = true := decide_eq_true c7
            clear c7
            by_cases c8 : x5_1.length < 17592186044416
            · rw [if_pos c8] at H
              have LMc8 := Aside0.mk c8
              clear c8
              obtain ⟨y175, hy175⟩ : ∃ y_ : List Int, y_ = (x5_1 ++ [wrap64 ((rd l0 x11_1) + a1)]) := ⟨_, rfl⟩
              replace H : (impl_inYears.l0 k1 a1 y175 l0 (l0.length : Int) (wrap64 (x11_1 + 1))) = some r := by first | (rw [hy175]; with_reducible exact H) | (have H2_ := (Option.bind_some _ _).symm.trans H; rw [hy175]; with_reducible exact H2_) | (have H2_ := (Option.bind_some _ _).symm.trans H; with_reducible exact H2_) | with_reducible exact H | (rw [hy175]; exact H) | exact H
              have Ny175 := Aside0.mk hy175
              clear hy175
              have H' := Aside0.mk H
              clear H
              have p174 : 0 ≤ (x11_1 : Int) := of_decide_eq_true (by first | (with_reducible assumption) | assumption)
              have q174 : x11_1 < (l0.length : Int) := of_decide_eq_true (by first | (with_reducible assumption) | assumption)
              obtain ⟨ad174, e174, hx174_0⟩ := Kd.at_int HR0.out x11_1 p174 q174
              cases e174
              replace hx174_0 := (HB.out.cell (World.block_lt_of_cell? w _ hx174_0)).trans hx174_0
              replace p174 := eq_true p174
              replace q174 := eq_true q174
              go_wp2_with (first | ((with_reducible refine gate_builtin (b := .append) (xs := #[.tmp 15, .tmp 19]) rfl ?_); at_builtin; refine Kd.R_append (Kd.int .i64) (w0 := w) w.heap.size rfl (.tmp 15) (.tmp 19) 24 3 (.int .i64 0) 8 rfl Try.underlying24 info3 rfl (by decide) (by omega) u5 x5_1 (wrap64 ((rd l0 x11_1) + a1)) [.int .i64 (wrap64 ((rd l0 x11_1) + a1))] (fun _ => True) (fun _ => False) rfl rfl ?aP (fun _ hk => hk.elim) ?aF ?aO ?aB ?aS ?aL ?_; (case aP => exact rfl); (case aB => exact (by repeat (first | (with_reducible first | exact HB.out | apply below_alloc | apply pw_below_drewN | apply below_drew1) | exact HB.out))); (case aF => exact (fun _ _ => trivial)); (case aO => exact (by (with_reducible repeat (first | apply Kd.R_alloc | apply Kd.R_drewN | apply Kd.R_drew)); exact HO_5.out)); (case aS => exact (below_size (by repeat (first | (with_reducible first | exact HB.out | apply below_alloc | apply pw_below_drewN | apply below_drew1) | exact HB.out)))); (case aL => have := LMc8.out; omega); intro v176 w9 ho hb hg hat; rw [← Ny175.out] at ho; have n0_ := Aside0.mk (hb); have n1_ := Aside0.mk (ho); clear HB; clear HO_5; have HB := n0_; have HO177 := n1_; clear n0_ n1_; clear ho hb hg hat))
              go_roundg k1
              case measure => have := HK1.out; omega
              case rel => exact ⟨(y175), (wrap64 (x11_1 + 1)), (by first | rfl | (simp; done) | (simp [*]; done)), H', ⟨by have := HK1.out; omega⟩, ⟨by (with_reducible repeat (first | apply Kd.R_alloc | apply Kd.R_drewN | apply Kd.R_drew)); exact HO177.out⟩, ⟨by repeat (first | (with_reducible first | exact HB.out | apply below_alloc | apply pw_below_drewN | apply below_drew1) | exact HB.out)⟩⟩
            · rw [if_neg c8] at H
              exact absurd H (by simp)
          · rw [if_neg c7] at H
            exact absurd H (by simp)
        · rw [if_neg c6] at H
          exact absurd H (by simp)
      · rw [if_neg c5] at H
        have c5b0 : decide (x11_1 < (l0.length : Int)) = false := decide_eq_false c5
        clear c5
        obtain rfl := Option.some.inj H
        go_wp2
        go_ret
        exact ⟨_, by first | rfl | (simp [errW_none, errW_some] <;> rfl) | (simp [*, errW_none, errW_some] <;> rfl), by (with_reducible repeat (first | apply Kd.R_alloc | apply Kd.R_drewN | apply Kd.R_drew)); exact HO_5.out, by repeat (first | (with_reducible first | exact HB.out | apply below_alloc | apply pw_below_drewN | apply below_drew1) | exact HB.out)⟩

end Go.Proofs.Ytmkjopglibgleaa.P
