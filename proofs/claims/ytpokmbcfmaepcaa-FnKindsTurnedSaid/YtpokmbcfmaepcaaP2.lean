-- Written by drive.py (wip/ of this repository) over the kit's print: functions, contracts, rows. Lean checks it.
import Derived.Test.YtpokmbcfmaepcaaP0
import Derived.Test.YtpokmbcfmaepcaaP1
namespace Go.Proofs.Ytpokmbcfmaepcaa.P
open Go.RowKit Go.Proofs.YtpokmbcfmaepcaaW.PrintWords Go.Proofs.YtpokmbcfmaepcaaW.PrintLast Go.Proofs.YtpokmbcfmaepcaaW.PrintMore
attribute [local go_sem] max2_int min2_int max_two min_two max_three min_three max_four min_four undef_guard   -- for this text's walks alone
set_option linter.unusedVariables false
set_option linter.unusedSimpArgs false

/-! ### slices_IndexFunc_int_int: function 73 -/
/-- What is asked of a function value that looks at one number: in every later world it tells p; orders may be drawn. -/
def PredQ (P : Program) (g : Nat) (lb : Array Value) (p : Int → Bool) (w : World) : Prop :=
  ∀ (W : World) (x : Int), Below w.heap.size w W → Calls P g (#[.int .i64 x] ++ lb) W fun e w' => e = .returned (.bool (p x)) ∧ Drawn0 W w'
theorem Drawn0.to {w : World} (n : Nat) : Drawn0 w (w.drewN n) := ⟨⟨n, rfl⟩⟩
/-- The place of the first number that p takes, counted from i; -1 if there is none. -/
def idxOf (p : Int → Bool) : List Int → Int → Int
  | [], _ => -1
  | x :: xs, i => if p x = true then i else idxOf p xs (i + 1)
theorem idxOf_any (p : Int → Bool) (l : List Int) : ∀ i, 0 ≤ i → (idxOf p l i ≥ 0 ↔ l.any p = true) := by
  induction l with
  | nil => intro i _; simp [idxOf]
  | cons x xs ih =>
    intro i hi
    by_cases h : p x = true
    · simp [idxOf, h, hi]
    · simp only [idxOf, h, List.any_cons]
      have := ih (i + 1) (by omega)
      simpa [h] using this
/-- The same, of a predicate that may have no answer at some numbers (none is asked there). -/
def PredO (P : Program) (g : Nat) (lb : Array Value) (p : Int → Option Bool) (w : World) : Prop :=
  ∀ (W : World) (x : Int) (b : Bool), Below w.heap.size w W → p x = some b → Calls P g (#[.int .i64 x] ++ lb) W fun e w' => e = .returned (.bool b) ∧ Drawn0 W w'
def idxO (p : Int → Option Bool) : List Int → Int → Option Int
  | [], _ => some (-1)
  | x :: xs, i => (p x).bind fun b => if b = true then some i else idxO p xs (i + 1)
def anyO (p : Int → Option Bool) : List Int → Option Bool
  | [] => some false
  | x :: xs => (p x).bind fun b => if b = true then some true else anyO p xs
theorem idxO_any (p : Int → Option Bool) (l : List Int) : ∀ (i : Int) (b : Bool), 0 ≤ i → anyO p l = some b → ∃ r, idxO p l i = some r ∧ decide (0 ≤ r) = b := by
  induction l with
  | nil => intro i b _ h; obtain rfl := Option.some.inj h; exact ⟨-1, rfl, rfl⟩
  | cons x xs ih =>
    intro i b hi h
    obtain ⟨c, hc, h2⟩ := Option.bind_eq_some_iff.mp h
    cases c with
    | true =>
      obtain rfl := Option.some.inj ((if_pos rfl).symm.trans h2)
      exact ⟨i, by simp only [idxO, hc, Option.bind_some, if_true], decide_eq_true hi⟩
    | false =>
      obtain ⟨r, h3, h4⟩ := ih (i + 1) b (by omega) h2
      exact ⟨r, by simp only [idxO, hc, Option.bind_some]; exact h3, h4⟩
set_option maxHeartbeats 1000000 in
theorem slices_IndexFunc.callsO (p : Int → Option Bool) (g : Nat) (lb : Array Value) (eg : ∀ args w, (callFunc g args).run Try.prog w = .ok (.enter g args) w) (A0 : Option Addr) (c0 : Nat) (l0 : List Int) (w : World)
    (hp : PredO Try.prog g lb p w) (hr0 : Kd.C (Kd.int .i64) w A0 l0.length l0) (hc0 : l0.length ≤ c0) (r : Int) (h : idxO p l0 0 = some r) :
    Calls Try.prog 73 #[.slice A0 l0.length c0, .func (.func g) #[] lb] w fun e w' => e = .returned (.int .i64 r) ∧ Drawn0 w w' := by
  have hpAt : ∀ (x : Int) (b : Bool) (_ : p x = some b) (n : Nat), Calls Try.prog g (#[.int .i64 x] ++ lb) (w.drewN n) fun e w' => e = .returned (.bool b) ∧ Drawn0 (w.drewN n) w' := fun x b hx n => hp _ x b (Drawn0.to n).below hx
  have HH := Aside0.mk h
  clear hp h
  have HR0 := Aside0.mk hr0
  have HC0 := Aside0.mk hc0
  have HN : l0.length ≤ 9223372036854775807 := (Kd.reads_of_C (enc := Value.int .i64) (d := (0 : Int)) (h1 := fun _ => rfl) hr0).2.1
  clear hr0 hc0
  go_enter Try.func73, Try.ntmps73
  go_wp2
  go_loopg [5, 8] l0.length (fun gg _ s8 wr => ∃ kk : Nat, kk ≤ l0.length ∧ l0.length - kk ≤ gg ∧ s8 = .int .i64 kk ∧ Drawn0 w wr ∧ Aside0 (idxO p (l0.drop kk) kk = some r))
  case atStart => exact ⟨0, Nat.zero_le _, by omega, rfl, by repeat (first | exact Drawn0.refl _ | apply Drawn0.step), ⟨by simpa using HH.out⟩⟩
  case round =>
    obtain ⟨kk, hkk, hg, rfl, ⟨m1, rfl⟩, HA⟩ := hrel
    by_cases hlt : kk < l0.length
    · have c3b0 : decide ((kk : Int) < (l0.length : Int)) = true := decide_eq_true (by omega)
      have hdrop : l0.drop kk = rd l0 kk :: l0.drop (kk + 1) := by
        rw [List.drop_eq_getElem_cons hlt]
        simp [rd, List.getD_eq_getElem?_getD, List.getElem?_eq_getElem hlt]
      obtain ⟨ad, e104, hx104⟩ := Kd.at_int HR0.out (kk : Int) (by omega) (by omega)
      cases e104
      rw [Int.toNat_natCast] at hx104
      have p104 := eq_true (show 0 ≤ (kk : Int) by omega)
      have q104 := eq_true (show (kk : Int) < (l0.length : Int) by omega)
      generalize hy : rd l0 kk = y at hdrop hx104
      clear hy
      have HD := Aside0.mk hdrop
      clear hdrop
      have h2 := HA.out
      rw [HD.out] at h2
      simp only [idxO] at h2
      obtain ⟨b, hq, h3⟩ := Option.bind_eq_some_iff.mp h2
      clear h2 HA
      have hcall := hpAt y b hq
      clear hpAt hq
      cases b with
      | true =>
        have HE := Aside0.mk (Option.some.inj ((if_pos rfl).symm.trans h3))
        clear h3
        go_wp2_with ((with_reducible refine (hcall _).mono ?_); rintro e w' ⟨rfl, ⟨nd, rfl⟩⟩)
        go_ret
        exact ⟨by rw [← HE.out]; first | rfl | (simp; done), by repeat (first | exact Drawn0.refl _ | apply Drawn0.step)⟩
      | false =>
        have HE := Aside0.mk (show idxO p (l0.drop (kk + 1)) (kk + 1) = some r from h3)
        clear h3
        go_wp2_with ((with_reducible refine (hcall _).mono ?_); rintro e w' ⟨rfl, ⟨nd, rfl⟩⟩)
        go_roundg (l0.length - (kk + 1))
        case measure => omega
        case rel => exact ⟨kk + 1, by omega, by omega, by go_num, by repeat (first | exact Drawn0.refl _ | apply Drawn0.step), ⟨by have := HE.out; simpa using this⟩⟩
    · have c3b0 : decide ((kk : Int) < (l0.length : Int)) = false := decide_eq_false (by omega)
      have hltz : ¬ (kk : Int) < (l0.length : Int) := by omega
      go_wp2
      go_ret
      refine ⟨?_, by repeat (first | exact Drawn0.refl _ | apply Drawn0.step)⟩
      have h2 := HA.out
      rw [List.drop_of_length_le (by omega)] at h2
      have h3 := Option.some.inj h2
      rw [← h3]; first | rfl | (simp; done)
theorem idxO_some (p : Int → Bool) (l : List Int) : ∀ i, idxO (fun x => some (p x)) l i = some (idxOf p l i) := by
  induction l with
  | nil => intro i; rfl
  | cons x xs ih => intro i; simp only [idxO, idxOf, Option.bind_some, ih]; split <;> rfl
theorem slices_IndexFunc.calls (p : Int → Bool) (g : Nat) (lb : Array Value) (eg : ∀ args w, (callFunc g args).run Try.prog w = .ok (.enter g args) w) (A0 : Option Addr) (c0 : Nat) (l0 : List Int) (w : World)
    (hp : PredQ Try.prog g lb p w) (hr0 : Kd.C (Kd.int .i64) w A0 l0.length l0) (hc0 : l0.length ≤ c0) :
    Calls Try.prog 73 #[.slice A0 l0.length c0, .func (.func g) #[] lb] w fun e w' => e = .returned (.int .i64 (idxOf p l0 0)) ∧ Drawn0 w w' :=
  slices_IndexFunc.callsO (fun x => some (p x)) g lb eg A0 c0 l0 w (fun W x b hb hx => by obtain rfl := Option.some.inj hx; exact hp W x hb) hr0 hc0 _ (idxO_some p l0 0)

/-! ### slices_ContainsFunc_int_int: function 50 -/
set_option maxHeartbeats 1000000 in
theorem slices_ContainsFunc.calls (p : Int → Bool) (g : Nat) (lb : Array Value) (eg : ∀ args w, (callFunc g args).run Try.prog w = .ok (.enter g args) w) (A0 : Option Addr) (c0 : Nat) (l0 : List Int) (w : World)
    (hp : PredQ Try.prog g lb p w) (hr0 : Kd.C (Kd.int .i64) w A0 l0.length l0) (hc0 : l0.length ≤ c0) :
    Calls Try.prog 50 #[.slice A0 l0.length c0, .func (.func g) #[] lb] w fun e w' => e = .returned (.bool (l0.any p)) ∧ Drawn0 w w' := by
  have hcon := slices_IndexFunc.calls p g lb eg A0 c0 l0 w hp hr0 hc0
  have hany := idxOf_any p l0 0 (Int.le_refl _)
  clear hp hr0 hc0
  generalize idxOf p l0 0 = r at hcon hany
  generalize l0.any p = b at hany
  have e1 : decide (0 ≤ r) = b := by
    cases b
    · exact decide_eq_false (fun h => by simpa using hany.mp h)
    · exact decide_eq_true (hany.mpr rfl)
  have HE := Aside0.mk e1
  clear e1 hany
  go_enter Try.func50, Try.ntmps50
  go_wp2_with (go_at_call 73; refine hcon.mono ?_; rintro e w' ⟨rfl, ⟨nd, rfl⟩⟩)
  go_ret
  exact ⟨by rw [← HE.out]; first | rfl | (simp; done), by repeat (first | exact Drawn0.refl _ | apply Drawn0.step)⟩
set_option maxHeartbeats 1000000 in
theorem slices_ContainsFunc.callsO (p : Int → Option Bool) (g : Nat) (lb : Array Value) (eg : ∀ args w, (callFunc g args).run Try.prog w = .ok (.enter g args) w) (A0 : Option Addr) (c0 : Nat) (l0 : List Int) (w : World)
    (hp : PredO Try.prog g lb p w) (hr0 : Kd.C (Kd.int .i64) w A0 l0.length l0) (hc0 : l0.length ≤ c0) (b : Bool) (h : anyO p l0 = some b) :
    Calls Try.prog 50 #[.slice A0 l0.length c0, .func (.func g) #[] lb] w fun e w' => e = .returned (.bool b) ∧ Drawn0 w w' := by
  obtain ⟨r, hr, e1⟩ := idxO_any p l0 0 b (Int.le_refl _) h
  have hcon := slices_IndexFunc.callsO p g lb eg A0 c0 l0 w hp hr0 hc0 r hr
  clear hp hr0 hc0 h hr
  have HE := Aside0.mk e1
  clear e1
  go_enter Try.func50, Try.ntmps50
  go_wp2_with (go_at_call 73; refine hcon.mono ?_; rintro e w' ⟨rfl, ⟨nd, rfl⟩⟩)
  go_ret
  exact ⟨by rw [← HE.out]; first | rfl | (simp; done), by repeat (first | exact Drawn0.refl _ | apply Drawn0.step)⟩

/-! ### impl_areBetween_1: function 76 -/
set_option maxHeartbeats 1000000 in
theorem impl_areBetween_lit.calls (lo hi : Int) (b1 b2 : Nat) (w : World) (h1 : b1 < w.heap.size) (h2 : b2 < w.heap.size) (k1 : w.cell? ⟨b1, 0, none⟩ = some (.int .i64 lo)) (k2 : w.cell? ⟨b2, 0, none⟩ = some (.int .i64 hi)) :
    PredQ Try.prog 76 #[.pointer (some ⟨b1, 0, none⟩), .pointer (some ⟨b2, 0, none⟩)] (fun x => !decide (lo ≤ x ∧ x ≤ hi)) w := fun W x hb => by
  have c1 : W.cell? ⟨b1, 0, none⟩ = some (.int .i64 lo) := (hb.cell (p := ⟨b1, 0, none⟩) h1).trans k1
  have c2 : W.cell? ⟨b2, 0, none⟩ = some (.int .i64 hi) := (hb.cell (p := ⟨b2, 0, none⟩) h2).trans k2
  clear hb k1 k2 h1 h2
  have hcon := fun W' => impl_between.calls x lo hi (decide (lo ≤ x ∧ x ≤ hi)) W' (by
    unfold impl_between.f
    split
    · rename_i h; simp [h]
    · rename_i h; simp; omega)
  show Calls Try.prog 76 #[.int .i64 x, .pointer (some ⟨b1, 0, none⟩), .pointer (some ⟨b2, 0, none⟩)] W fun e w' => e = .returned (.bool (!decide (lo ≤ x ∧ x ≤ hi))) ∧ Drawn0 W w'
  generalize decide (lo ≤ x ∧ x ≤ hi) = b at hcon ⊢
  go_enter Try.func76, Try.ntmps76
  go_wp2_with (go_at_call 59; refine (hcon _).mono ?_; rintro e w' ⟨rfl, ⟨nd, rfl⟩⟩)
  go_ret
  exact ⟨by first | rfl | simp, by repeat (first | exact Drawn0.refl _ | apply Drawn0.step)⟩

/-! ### impl_areBetween: function 72 -/
def impl_areBetween.f (l0 : List Int) (a1 : Int) (a2 : Int) : Option (Bool) := some (!l0.any fun x => !decide (a1 ≤ x ∧ x ≤ a2))
set_option maxHeartbeats 1000000 in
theorem impl_areBetween.calls (A0 : Option Addr) (c0 : Nat) (l0 : List Int) (a1 : Int) (a2 : Int) (r : Bool) (w : World) (hr0 : Kd.C (Kd.int .i64) w A0 l0.length l0) (hc0 : l0.length ≤ c0) (h : impl_areBetween.f l0 a1 a2 = some r) :
    Calls Try.prog 72 #[.slice A0 l0.length c0, .int .i64 a1, .int .i64 a2] w fun e w' => e = .returned (.bool r) ∧ Below w.heap.size w w' := by
  obtain rfl := Option.some.inj h
  have eg : ∀ args w, (callFunc 76 args).run Try.prog w = .ok (.enter 76 args) w := enters_of Try.func76 (by kernel_rfl) rfl
  have HB := Aside0.mk (((Below.refl w.heap.size w).alloc (Nat.le_refl _) (.cells #[.int .i64 a1] 3)).alloc (by simp) (.cells #[.int .i64 a2] 3))
  have hcon := slices_ContainsFunc.calls (fun x => !decide (a1 ≤ x ∧ x ≤ a2)) 76 #[.pointer (some ⟨w.heap.size, 0, none⟩), .pointer (some ⟨w.heap.size + 1, 0, none⟩)] eg A0 c0 l0 ((w.alloc (.cells #[.int .i64 a1] 3)).alloc (.cells #[.int .i64 a2] 3))
    (impl_areBetween_lit.calls a1 a2 w.heap.size (w.heap.size + 1) _ (by simp; omega) (by simp) (by simp) (by simp)) (Kd.C_below hr0 HB.out) hc0
  clear hr0 hc0 h
  generalize (l0.any fun x => !decide (a1 ≤ x ∧ x ≤ a2)) = b at hcon
  go_enter Try.func72, Try.ntmps72
  go_wp2_with (go_at_call 50; refine hcon.mono ?_; rintro e w' ⟨rfl, ⟨nd, rfl⟩⟩)
  go_ret
  exact ⟨rfl, pw_below_drewN HB.out nd⟩

/-! ### impl_AreAges: function 48 -/
def impl_AreAges.f (l0 : List Int) : Option (Bool) := (impl_between.f (l0.length : Int) 1 8).bind fun t185 => (if t185 = true then ((impl_areBetween.f l0 0 120).bind fun t186 => (some t186)) else (some false))
set_option maxHeartbeats 8000000 in
set_option maxRecDepth 100000 in
theorem impl_AreAges.calls (A0 : Option Addr) (c0 : Nat) (l0 : List Int) (r : Bool) (w : World) (hr0 : Kd.C (Kd.int .i64) w A0 l0.length l0) (hc0 : l0.length ≤ c0) (h : impl_AreAges.f l0 = some r) :
    Calls Try.prog 48 #[.slice A0 l0.length c0] w fun e w' => e = .returned (.bool r) ∧ Below w.heap.size w w' := by
  have HR0 := Aside0.mk hr0
  have HC0 := Aside0.mk hc0
  clear hr0 hc0
  have HB := Aside0.mk (Below.refl w.heap.size w)
  have H : ((impl_between.f (l0.length : Int) 1 8).bind fun t185 => (if t185 = true then ((impl_areBetween.f l0 0 120).bind fun t186 => (some t186)) else (some false))) = some r := h
  clear h
  replace H := Option.bind_eq_some_iff.mp H
  obtain ⟨t185, A20, H⟩ := H
  replace H : (if t185 = true then ((impl_areBetween.f l0 0 120).bind fun t186 => (some t186)) else (some false)) = some r := H
  have A2 := Aside0.mk A20
  clear A20
  by_cases c3 : t185 = true
  · subst c3
    have H1 : ((impl_areBetween.f l0 0 120).bind fun t186 => (some t186)) = some r := by rw [if_pos rfl] at H; exact H
    clear H
    have H := H1
    clear H1
    replace H := Option.bind_eq_some_iff.mp H
    obtain ⟨t186, A40, H⟩ := H
    replace H : (some t186) = some r := H
    have A4 := Aside0.mk A40
    clear A40
    obtain rfl := Option.some.inj H
    go_enter Try.func48, Try.ntmps48
    go_wp2_with (first | ((with_reducible refine gate_callee (f := 59) rfl ?_); refine goesL_ (some 5) rfl rfl Try.func59 (by kernel_rfl) rfl #[.int .i64 (l0.length : Int), .int .i64 1, .int .i64 8] rfl (by (try simp only [List.map_toArray, List.map_cons, List.map_nil]); first | done | rfl | (simp only [List.length_drop, List.length_take]; rfl)) ?_; (with_reducible refine (impl_between.calls (l0.length : Int) 1 8 true _ A2.out).mono ?_); rintro e w' ⟨rfl, ⟨nd, rfl⟩⟩; refine ⟨_, rfl, ?_⟩) | (go_at_call 72; (with_reducible refine (impl_areBetween.calls _ _ l0 0 120 t186 _ ?side1 ?side2 A4.out).mono ?_); (case side1 => repeat (first | exact HR0.out | (with_reducible refine Kd.C_alloc ?_ _) | (with_reducible refine Kd.C_drewN ?_ _) | (with_reducible refine Kd.C_drew ?_))); (case side2 => exact HC0.out); rintro e w5 ⟨rfl, hb⟩; have n0_ := Aside0.mk (below_step (by repeat (first | (with_reducible first | exact HB.out | apply below_alloc | apply pw_below_drewN | apply below_drew1) | exact HB.out)) hb); clear HB; have HB := n0_; clear n0_; (try clear hb); (try clear hb2); (try clear hk); (try clear hi)))
    go_ret
    exact ⟨by first | rfl | (simp [errW_none, errW_some] <;> rfl) | (simp [*, errW_none, errW_some] <;> rfl), by repeat (first | (with_reducible first | exact HB.out | apply below_alloc | apply pw_below_drewN | apply below_drew1) | exact HB.out)⟩
  · replace c3 := Bool.eq_false_iff.mpr c3
    subst c3
    have H1 : (some false) = some r := by rw [if_neg (show ¬ (false = true) by decide)] at H; exact H
    clear H
    have H := H1
    clear H1
    obtain rfl := Option.some.inj H
    go_enter Try.func48, Try.ntmps48
    go_wp2_with (first | ((with_reducible refine gate_callee (f := 59) rfl ?_); refine goesL_ (some 5) rfl rfl Try.func59 (by kernel_rfl) rfl #[.int .i64 (l0.length : Int), .int .i64 1, .int .i64 8] rfl (by (try simp only [List.map_toArray, List.map_cons, List.map_nil]); first | done | rfl | (simp only [List.length_drop, List.length_take]; rfl)) ?_; (with_reducible refine (impl_between.calls (l0.length : Int) 1 8 false _ A2.out).mono ?_); rintro e w' ⟨rfl, ⟨nd, rfl⟩⟩; refine ⟨_, rfl, ?_⟩))
    go_ret
    exact ⟨by first | rfl | (simp [errW_none, errW_some] <;> rfl) | (simp [*, errW_none, errW_some] <;> rfl), by repeat (first | (with_reducible first | exact HB.out | apply below_alloc | apply pw_below_drewN | apply below_drew1) | exact HB.out)⟩

/-! ### impl_is: function 68 -/
def impl_is.f (l0 : List Int) (a1 : Int) : Option (Bool) := (impl_between.f a1 0 (wrap64 ((l0.length : Int) - 1))).bind fun t187 => (some t187)
set_option maxHeartbeats 8000000 in
set_option maxRecDepth 100000 in
theorem impl_is.calls (A0 : Option Addr) (c0 : Nat) (l0 : List Int) (a1 : Int) (r : Bool) (w : World) (hr0 : Kd.C (Kd.int .i64) w A0 l0.length l0) (hc0 : l0.length ≤ c0) (h : impl_is.f l0 a1 = some r) :
    Calls Try.prog 68 #[.slice A0 l0.length c0, .int .i64 a1] w fun e w' => e = .returned (.bool r) ∧ Drawn0 w w' := by
  have HR0 := Aside0.mk hr0
  have HC0 := Aside0.mk hc0
  clear hr0 hc0
  have H : ((impl_between.f a1 0 (wrap64 ((l0.length : Int) - 1))).bind fun t187 => (some t187)) = some r := h
  clear h
  replace H := Option.bind_eq_some_iff.mp H
  obtain ⟨t187, A30, H⟩ := H
  replace H : (some t187) = some r := H
  have A3 := Aside0.mk A30
  clear A30
  obtain rfl := Option.some.inj H
  go_enter Try.func68, Try.ntmps68
  go_wp2_with (first | ((with_reducible refine gate_callee (f := 59) rfl ?_); refine goesL_ (some 9) rfl rfl Try.func59 (by kernel_rfl) rfl #[.int .i64 a1, .int .i64 0, .int .i64 (wrap64 ((l0.length : Int) - 1))] rfl (by (try simp only [List.map_toArray, List.map_cons, List.map_nil]); first | done | rfl | (simp only [List.length_drop, List.length_take]; rfl)) ?_; (with_reducible refine (impl_between.calls a1 0 (wrap64 ((l0.length : Int) - 1)) t187 _ A3.out).mono ?_); rintro e w' ⟨rfl, ⟨nd, rfl⟩⟩; refine ⟨_, rfl, ?_⟩))
  go_ret
  exact ⟨by first | rfl | (simp; done) | (simp [*]; done), by repeat (first | exact Drawn0.refl _ | apply Drawn0.step)⟩

/-! ### impl_areTwo: function 40 -/
def impl_areTwo.f (l0 : List Int) (a1 : Int) (a2 : Int) : Option (Bool) := (impl_AreAges.f l0).bind fun t188 => (if t188 = true then ((impl_is.f l0 a1).bind fun t189 => (if t189 = true then ((impl_is.f l0 a2).bind fun t190 => (if t190 = true then (some (a1 != a2)) else (some false))) else (some false))) else (some false))
set_option maxHeartbeats 8000000 in
set_option maxRecDepth 100000 in
theorem impl_areTwo.calls (A0 : Option Addr) (c0 : Nat) (l0 : List Int) (a1 : Int) (a2 : Int) (r : Bool) (w : World) (hr0 : Kd.C (Kd.int .i64) w A0 l0.length l0) (hc0 : l0.length ≤ c0) (h : impl_areTwo.f l0 a1 a2 = some r) :
    Calls Try.prog 40 #[.slice A0 l0.length c0, .int .i64 a1, .int .i64 a2] w fun e w' => e = .returned (.bool r) ∧ Below w.heap.size w w' := by
  have HR0 := Aside0.mk hr0
  have HC0 := Aside0.mk hc0
  clear hr0 hc0
  have HB := Aside0.mk (Below.refl w.heap.size w)
  have H : ((impl_AreAges.f l0).bind fun t188 => (if t188 = true then ((impl_is.f l0 a1).bind fun t189 => (if t189 = true then ((impl_is.f l0 a2).bind fun t190 => (if t190 = true then (some (a1 != a2)) else (some false))) else (some false))) else (some false))) = some r := h
  clear h
  replace H := Option.bind_eq_some_iff.mp H
  obtain ⟨t188, A40, H⟩ := H
  replace H : (if t188 = true then ((impl_is.f l0 a1).bind fun t189 => (if t189 = true then ((impl_is.f l0 a2).bind fun t190 => (if t190 = true then (some (a1 != a2)) else (some false))) else (some false))) else (some false)) = some r := H
  have A4 := Aside0.mk A40
  clear A40
  by_cases c5 : t188 = true
  · subst c5
    have H1 : ((impl_is.f l0 a1).bind fun t189 => (if t189 = true then ((impl_is.f l0 a2).bind fun t190 => (if t190 = true then (some (a1 != a2)) else (some false))) else (some false))) = some r := by rw [if_pos rfl] at H; exact H
    clear H
    have H := H1
    clear H1
    replace H := Option.bind_eq_some_iff.mp H
    obtain ⟨t189, A60, H⟩ := H
    replace H : (if t189 = true then ((impl_is.f l0 a2).bind fun t190 => (if t190 = true then (some (a1 != a2)) else (some false))) else (some false)) = some r := H
    have A6 := Aside0.mk A60
    clear A60
    by_cases c7 : t189 = true
    · subst c7
      have H1 : ((impl_is.f l0 a2).bind fun t190 => (if t190 = true then (some (a1 != a2)) else (some false))) = some r := by rw [if_pos rfl] at H; exact H
      clear H
      have H := H1
      clear H1
      replace H := Option.bind_eq_some_iff.mp H
      obtain ⟨t190, A80, H⟩ := H
      replace H : (if t190 = true then (some (a1 != a2)) else (some false)) = some r := H
      have A8 := Aside0.mk A80
      clear A80
      by_cases c9 : t190 = true
      · subst c9
        have H1 : (some (a1 != a2)) = some r := by rw [if_pos rfl] at H; exact H
        clear H
        have H := H1
        clear H1
        obtain rfl := Option.some.inj H
        go_enter Try.func40, Try.ntmps40
        go_wp2_with (first | ((with_reducible refine gate_callee (f := 48) rfl ?_); refine goesL_ (some 8) rfl rfl Try.func48 (by kernel_rfl) rfl #[.slice A0 l0.length c0] rfl (by (try simp only [List.map_toArray, List.map_cons, List.map_nil]); first | done | rfl | (simp only [List.length_drop, List.length_take]; rfl)) ?_; (with_reducible refine (impl_AreAges.calls _ _ l0 true _ ?side1 ?side2 A4.out).mono ?_); (case side1 => repeat (first | exact HR0.out | (with_reducible refine Kd.C_alloc ?_ _) | (with_reducible refine Kd.C_drewN ?_ _) | (with_reducible refine Kd.C_drew ?_))); (case side2 => exact HC0.out); rintro e w10 ⟨rfl, hb⟩; refine ⟨_, rfl, ?_⟩; have n0_ := Aside0.mk (below_step (by repeat (first | (with_reducible first | exact HB.out | apply below_alloc | apply pw_below_drewN | apply below_drew1) | exact HB.out)) hb); clear HB; have HB := n0_; clear n0_; (try clear hb); (try clear hb2); (try clear hk); (try clear hi)) | (go_at_call 68; (with_reducible refine (impl_is.calls _ _ l0 a1 true _ ?side1 ?side2 A6.out).mono ?_); (case side1 => repeat (first | exact (Kd.C_below HR0.out HB.out) | (with_reducible refine Kd.C_alloc ?_ _) | (with_reducible refine Kd.C_drewN ?_ _) | (with_reducible refine Kd.C_drew ?_))); (case side2 => exact HC0.out); rintro e w' ⟨rfl, ⟨nd, rfl⟩⟩) | (go_at_call 68; (with_reducible refine (impl_is.calls _ _ l0 a2 true _ ?side1 ?side2 A8.out).mono ?_); (case side1 => repeat (first | exact (Kd.C_below HR0.out (by repeat (first | (with_reducible first | exact HB.out | apply below_alloc | apply pw_below_drewN | apply below_drew1) | exact HB.out))) | (with_reducible refine Kd.C_alloc ?_ _) | (with_reducible refine Kd.C_drewN ?_ _) | (with_reducible refine Kd.C_drew ?_))); (case side2 => exact HC0.out); rintro e w' ⟨rfl, ⟨nd, rfl⟩⟩))
        go_ret
        exact ⟨by first | rfl | (simp [errW_none, errW_some] <;> rfl) | (simp [*, errW_none, errW_some] <;> rfl), by repeat (first | (with_reducible first | exact HB.out | apply below_alloc | apply pw_below_drewN | apply below_drew1) | exact HB.out)⟩
      · replace c9 := Bool.eq_false_iff.mpr c9
        subst c9
        have H1 : (some false) = some r := by rw [if_neg (show ¬ (false = true) by decide)] at H; exact H
        clear H
        have H := H1
        clear H1
        obtain rfl := Option.some.inj H
        go_enter Try.func40, Try.ntmps40
        go_wp2_with (first | ((with_reducible refine gate_callee (f := 48) rfl ?_); refine goesL_ (some 8) rfl rfl Try.func48 (by kernel_rfl) rfl #[.slice A0 l0.length c0] rfl (by (try simp only [List.map_toArray, List.map_cons, List.map_nil]); first | done | rfl | (simp only [List.length_drop, List.length_take]; rfl)) ?_; (with_reducible refine (impl_AreAges.calls _ _ l0 true _ ?side1 ?side2 A4.out).mono ?_); (case side1 => repeat (first | exact HR0.out | (with_reducible refine Kd.C_alloc ?_ _) | (with_reducible refine Kd.C_drewN ?_ _) | (with_reducible refine Kd.C_drew ?_))); (case side2 => exact HC0.out); rintro e w11 ⟨rfl, hb⟩; refine ⟨_, rfl, ?_⟩; have n0_ := Aside0.mk (below_step (by repeat (first | (with_reducible first | exact HB.out | apply below_alloc | apply pw_below_drewN | apply below_drew1) | exact HB.out)) hb); clear HB; have HB := n0_; clear n0_; (try clear hb); (try clear hb2); (try clear hk); (try clear hi)) | (go_at_call 68; (with_reducible refine (impl_is.calls _ _ l0 a1 true _ ?side1 ?side2 A6.out).mono ?_); (case side1 => repeat (first | exact (Kd.C_below HR0.out HB.out) | (with_reducible refine Kd.C_alloc ?_ _) | (with_reducible refine Kd.C_drewN ?_ _) | (with_reducible refine Kd.C_drew ?_))); (case side2 => exact HC0.out); rintro e w' ⟨rfl, ⟨nd, rfl⟩⟩) | (go_at_call 68; (with_reducible refine (impl_is.calls _ _ l0 a2 false _ ?side1 ?side2 A8.out).mono ?_); (case side1 => repeat (first | exact (Kd.C_below HR0.out (by repeat (first | (with_reducible first | exact HB.out | apply below_alloc | apply pw_below_drewN | apply below_drew1) | exact HB.out))) | (with_reducible refine Kd.C_alloc ?_ _) | (with_reducible refine Kd.C_drewN ?_ _) | (with_reducible refine Kd.C_drew ?_))); (case side2 => exact HC0.out); rintro e w' ⟨rfl, ⟨nd, rfl⟩⟩))
        go_ret
        exact ⟨by first | rfl | (simp [errW_none, errW_some] <;> rfl) | (simp [*, errW_none, errW_some] <;> rfl), by repeat (first | (with_reducible first | exact HB.out | apply below_alloc | apply pw_below_drewN | apply below_drew1) | exact HB.out)⟩
    · replace c7 := Bool.eq_false_iff.mpr c7
      subst c7
      have H1 : (some false) = some r := by rw [if_neg (show ¬ (false = true) by decide)] at H; exact H
      clear H
      have H := H1
      clear H1
      obtain rfl := Option.some.inj H
      go_enter Try.func40, Try.ntmps40
      go_wp2_with (first | ((with_reducible refine gate_callee (f := 48) rfl ?_); refine goesL_ (some 8) rfl rfl Try.func48 (by kernel_rfl) rfl #[.slice A0 l0.length c0] rfl (by (try simp only [List.map_toArray, List.map_cons, List.map_nil]); first | done | rfl | (simp only [List.length_drop, List.length_take]; rfl)) ?_; (with_reducible refine (impl_AreAges.calls _ _ l0 true _ ?side1 ?side2 A4.out).mono ?_); (case side1 => repeat (first | exact HR0.out | (with_reducible refine Kd.C_alloc ?_ _) | (with_reducible refine Kd.C_drewN ?_ _) | (with_reducible refine Kd.C_drew ?_))); (case side2 => exact HC0.out); rintro e w12 ⟨rfl, hb⟩; refine ⟨_, rfl, ?_⟩; have n0_ := Aside0.mk (below_step (by repeat (first | (with_reducible first | exact HB.out | apply below_alloc | apply pw_below_drewN | apply below_drew1) | exact HB.out)) hb); clear HB; have HB := n0_; clear n0_; (try clear hb); (try clear hb2); (try clear hk); (try clear hi)) | (go_at_call 68; (with_reducible refine (impl_is.calls _ _ l0 a1 false _ ?side1 ?side2 A6.out).mono ?_); (case side1 => repeat (first | exact (Kd.C_below HR0.out HB.out) | (with_reducible refine Kd.C_alloc ?_ _) | (with_reducible refine Kd.C_drewN ?_ _) | (with_reducible refine Kd.C_drew ?_))); (case side2 => exact HC0.out); rintro e w' ⟨rfl, ⟨nd, rfl⟩⟩))
      go_ret
      exact ⟨by first | rfl | (simp [errW_none, errW_some] <;> rfl) | (simp [*, errW_none, errW_some] <;> rfl), by repeat (first | (with_reducible first | exact HB.out | apply below_alloc | apply pw_below_drewN | apply below_drew1) | exact HB.out)⟩
  · replace c5 := Bool.eq_false_iff.mpr c5
    subst c5
    have H1 : (some false) = some r := by rw [if_neg (show ¬ (false = true) by decide)] at H; exact H
    clear H
    have H := H1
    clear H1
    obtain rfl := Option.some.inj H
    go_enter Try.func40, Try.ntmps40
    go_wp2_with (first | ((with_reducible refine gate_callee (f := 48) rfl ?_); refine goesL_ (some 8) rfl rfl Try.func48 (by kernel_rfl) rfl #[.slice A0 l0.length c0] rfl (by (try simp only [List.map_toArray, List.map_cons, List.map_nil]); first | done | rfl | (simp only [List.length_drop, List.length_take]; rfl)) ?_; (with_reducible refine (impl_AreAges.calls _ _ l0 false _ ?side1 ?side2 A4.out).mono ?_); (case side1 => repeat (first | exact HR0.out | (with_reducible refine Kd.C_alloc ?_ _) | (with_reducible refine Kd.C_drewN ?_ _) | (with_reducible refine Kd.C_drew ?_))); (case side2 => exact HC0.out); rintro e w13 ⟨rfl, hb⟩; refine ⟨_, rfl, ?_⟩; have n0_ := Aside0.mk (below_step (by repeat (first | (with_reducible first | exact HB.out | apply below_alloc | apply pw_below_drewN | apply below_drew1) | exact HB.out)) hb); clear HB; have HB := n0_; clear n0_; (try clear hb); (try clear hb2); (try clear hk); (try clear hi)))
    go_ret
    exact ⟨by first | rfl | (simp [errW_none, errW_some] <;> rfl) | (simp [*, errW_none, errW_some] <;> rfl), by repeat (first | (with_reducible first | exact HB.out | apply below_alloc | apply pw_below_drewN | apply below_drew1) | exact HB.out)⟩

/-! ### slices_Min_int_int: function 74 -/
/-- The least of a number and those behind it. -/
def minFrom : List Int → Int → Int
  | [], m => m
  | x :: xs, m => minFrom xs (if x < m then x else m)
def slices_Min_int_int.f (l0 : List Int) : Option (Int) := if 0 < l0.length then some (minFrom (l0.drop 1) (rd l0 0)) else none
set_option maxHeartbeats 1000000 in
theorem slices_Min_int_int.calls (A0 : Option Addr) (c0 : Nat) (l0 : List Int) (r : Int) (w : World) (hr0 : Kd.C (Kd.int .i64) w A0 l0.length l0) (hc0 : l0.length ≤ c0) (h : slices_Min_int_int.f l0 = some r) :
    Calls Try.prog 74 #[.slice A0 l0.length c0] w fun e w' => e = .returned (.int .i64 r) ∧ Drawn0 w w' := by
  unfold slices_Min_int_int.f at h
  have hpos : 0 < l0.length := by
    by_cases q : 0 < l0.length
    · exact q
    · rw [if_neg q] at h; cases h
  rw [if_pos hpos] at h
  have hr := Option.some.inj h
  clear h
  have HRr := Aside0.mk hr
  clear hr
  have HR0 := Aside0.mk hr0
  have HC0 := Aside0.mk hc0
  have HN : l0.length ≤ 9223372036854775807 := (Kd.reads_of_C (enc := Value.int .i64) (d := (0 : Int)) (h1 := fun _ => rfl) hr0).2.1
  clear hr0 hc0
  obtain ⟨ad, e104, hx104⟩ := Kd.at_int HR0.out 0 (by omega) (by omega)
  cases e104
  have hx0 : w.cell? ad = some (.int .i64 (rd l0 0)) := by
    have := hx104
    rw [show ((0 : Int)).toNat = 0 from rfl, Addr.add_zero'] at this
    exact this
  clear hx104
  have c1b0 : decide ((l0.length : Int) < 1) = false := decide_eq_false (by omega)
  have p0 := eq_true (show (0 : Int) < (l0.length : Int) by omega)
  generalize hm : rd l0 0 = m0 at hx0
  have HM := Aside0.mk hm
  clear hm
  go_enter Try.func74, Try.ntmps74
  go_wp2
  go_loopg [3, 4] l0.length (fun gg s3 s4 wr => ∃ (kk : Nat) (m : Int), 1 ≤ kk ∧ kk ≤ l0.length ∧ l0.length - kk ≤ gg ∧ s3 = .int .i64 m ∧ s4 = .int .i64 kk ∧ Drawn0 w wr ∧ Aside0 (minFrom (l0.drop kk) m = r))
  case atStart => exact ⟨1, m0, Nat.le_refl _, by omega, by omega, rfl, rfl, by repeat (first | exact Drawn0.refl _ | apply Drawn0.step), ⟨by rw [← HM.out]; exact HRr.out⟩⟩
  case round =>
    obtain ⟨kk, m, hk1, hkk, hg, rfl, rfl, ⟨m1, rfl⟩, HA⟩ := hrel
    by_cases hlt : kk < l0.length
    · have c3b0 : decide ((kk : Int) < (l0.length : Int)) = true := decide_eq_true (by omega)
      have hdrop : l0.drop kk = rd l0 kk :: l0.drop (kk + 1) := by
        rw [List.drop_eq_getElem_cons hlt]
        simp [rd, List.getD_eq_getElem?_getD, List.getElem?_eq_getElem hlt]
      obtain ⟨ad', e104, hx104⟩ := Kd.at_int HR0.out (kk : Int) (by omega) (by omega)
      cases e104
      rw [Int.toNat_natCast] at hx104
      have p104 := eq_true (show 0 ≤ (kk : Int) by omega)
      have q104 := eq_true (show (kk : Int) < (l0.length : Int) by omega)
      generalize hy : rd l0 kk = y at hdrop hx104
      clear hy
      have HD := Aside0.mk hdrop
      clear hdrop
      by_cases hc : y < m
      · have hcb : decide (y < m) = true := decide_eq_true hc
        have HCc := Aside0.mk hc
        have hc' := eq_true hc
        clear hc
        go_wp2
        go_roundg (l0.length - (kk + 1))
        case measure => omega
        case rel =>
          refine ⟨kk + 1, y, by omega, by omega, by omega, by first | rfl | (simp; done) | (simp [*]; done), by go_num, by repeat (first | exact Drawn0.refl _ | apply Drawn0.step), ⟨?_⟩⟩
          have h2 := HA.out
          rw [HD.out] at h2
          simp only [minFrom] at h2
          rw [if_pos (by have := HCc.out; omega)] at h2
          exact h2
      · have hcb : decide (y < m) = false := decide_eq_false hc
        have HCc := Aside0.mk hc
        have hc' := eq_false hc
        clear hc
        go_wp2
        go_roundg (l0.length - (kk + 1))
        case measure => omega
        case rel =>
          refine ⟨kk + 1, m, by omega, by omega, by omega, by first | rfl | (simp; done) | (simp [*]; done), by go_num, by repeat (first | exact Drawn0.refl _ | apply Drawn0.step), ⟨?_⟩⟩
          have h2 := HA.out
          rw [HD.out] at h2
          simp only [minFrom] at h2
          rw [if_neg (by have := HCc.out; omega)] at h2
          exact h2
    · have c3b0 : decide ((kk : Int) < (l0.length : Int)) = false := decide_eq_false (by omega)
      have hltz : ¬ (kk : Int) < (l0.length : Int) := by omega
      go_wp2
      go_ret
      refine ⟨?_, by repeat (first | exact Drawn0.refl _ | apply Drawn0.step)⟩
      have h2 := HA.out
      rw [List.drop_of_length_le (by omega)] at h2
      simp only [minFrom] at h2
      rw [← h2]; first | rfl | (simp; done)

/-! ### slices_Max_int_int: function 75 -/
/-- The greatest of a number and those behind it. -/
def maxFrom : List Int → Int → Int
  | [], m => m
  | x :: xs, m => maxFrom xs (if m < x then x else m)
def slices_Max_int_int.f (l0 : List Int) : Option (Int) := if 0 < l0.length then some (maxFrom (l0.drop 1) (rd l0 0)) else none
set_option maxHeartbeats 1000000 in
theorem slices_Max_int_int.calls (A0 : Option Addr) (c0 : Nat) (l0 : List Int) (r : Int) (w : World) (hr0 : Kd.C (Kd.int .i64) w A0 l0.length l0) (hc0 : l0.length ≤ c0) (h : slices_Max_int_int.f l0 = some r) :
    Calls Try.prog 75 #[.slice A0 l0.length c0] w fun e w' => e = .returned (.int .i64 r) ∧ Drawn0 w w' := by
  unfold slices_Max_int_int.f at h
  have hpos : 0 < l0.length := by
    by_cases q : 0 < l0.length
    · exact q
    · rw [if_neg q] at h; cases h
  rw [if_pos hpos] at h
  have hr := Option.some.inj h
  clear h
  have HRr := Aside0.mk hr
  clear hr
  have HR0 := Aside0.mk hr0
  have HC0 := Aside0.mk hc0
  have HN : l0.length ≤ 9223372036854775807 := (Kd.reads_of_C (enc := Value.int .i64) (d := (0 : Int)) (h1 := fun _ => rfl) hr0).2.1
  clear hr0 hc0
  obtain ⟨ad, e104, hx104⟩ := Kd.at_int HR0.out 0 (by omega) (by omega)
  cases e104
  have hx0 : w.cell? ad = some (.int .i64 (rd l0 0)) := by
    have := hx104
    rw [show ((0 : Int)).toNat = 0 from rfl, Addr.add_zero'] at this
    exact this
  clear hx104
  have c1b0 : decide ((l0.length : Int) < 1) = false := decide_eq_false (by omega)
  have p0 := eq_true (show (0 : Int) < (l0.length : Int) by omega)
  generalize hm : rd l0 0 = m0 at hx0
  have HM := Aside0.mk hm
  clear hm
  go_enter Try.func75, Try.ntmps75
  go_wp2
  go_loopg [3, 4] l0.length (fun gg s3 s4 wr => ∃ (kk : Nat) (m : Int), 1 ≤ kk ∧ kk ≤ l0.length ∧ l0.length - kk ≤ gg ∧ s3 = .int .i64 m ∧ s4 = .int .i64 kk ∧ Drawn0 w wr ∧ Aside0 (maxFrom (l0.drop kk) m = r))
  case atStart => exact ⟨1, m0, Nat.le_refl _, by omega, by omega, rfl, rfl, by repeat (first | exact Drawn0.refl _ | apply Drawn0.step), ⟨by rw [← HM.out]; exact HRr.out⟩⟩
  case round =>
    obtain ⟨kk, m, hk1, hkk, hg, rfl, rfl, ⟨m1, rfl⟩, HA⟩ := hrel
    by_cases hlt : kk < l0.length
    · have c3b0 : decide ((kk : Int) < (l0.length : Int)) = true := decide_eq_true (by omega)
      have hdrop : l0.drop kk = rd l0 kk :: l0.drop (kk + 1) := by
        rw [List.drop_eq_getElem_cons hlt]
        simp [rd, List.getD_eq_getElem?_getD, List.getElem?_eq_getElem hlt]
      obtain ⟨ad', e104, hx104⟩ := Kd.at_int HR0.out (kk : Int) (by omega) (by omega)
      cases e104
      rw [Int.toNat_natCast] at hx104
      have p104 := eq_true (show 0 ≤ (kk : Int) by omega)
      have q104 := eq_true (show (kk : Int) < (l0.length : Int) by omega)
      generalize hy : rd l0 kk = y at hdrop hx104
      clear hy
      have HD := Aside0.mk hdrop
      clear hdrop
      by_cases hc : m < y
      · have hcb : decide (m < y) = true := decide_eq_true hc
        have HCc := Aside0.mk hc
        have hc' := eq_true hc
        clear hc
        go_wp2
        go_roundg (l0.length - (kk + 1))
        case measure => omega
        case rel =>
          refine ⟨kk + 1, y, by omega, by omega, by omega, by first | rfl | (simp; done) | (simp [*]; done), by go_num, by repeat (first | exact Drawn0.refl _ | apply Drawn0.step), ⟨?_⟩⟩
          have h2 := HA.out
          rw [HD.out] at h2
          simp only [maxFrom] at h2
          rw [if_pos (by have := HCc.out; omega)] at h2
          exact h2
      · have hcb : decide (m < y) = false := decide_eq_false hc
        have HCc := Aside0.mk hc
        have hc' := eq_false hc
        clear hc
        go_wp2
        go_roundg (l0.length - (kk + 1))
        case measure => omega
        case rel =>
          refine ⟨kk + 1, m, by omega, by omega, by omega, by first | rfl | (simp; done) | (simp [*]; done), by go_num, by repeat (first | exact Drawn0.refl _ | apply Drawn0.step), ⟨?_⟩⟩
          have h2 := HA.out
          rw [HD.out] at h2
          simp only [maxFrom] at h2
          rw [if_neg (by have := HCc.out; omega)] at h2
          exact h2
    · have c3b0 : decide ((kk : Int) < (l0.length : Int)) = false := decide_eq_false (by omega)
      have hltz : ¬ (kk : Int) < (l0.length : Int) := by omega
      go_wp2
      go_ret
      refine ⟨?_, by repeat (first | exact Drawn0.refl _ | apply Drawn0.step)⟩
      have h2 := HA.out
      rw [List.drop_of_length_le (by omega)] at h2
      simp only [maxFrom] at h2
      rw [← h2]; first | rfl | (simp; done)

/-! ### impl_fitYears: function 54 -/
def impl_fitYears.f (l0 : List Int) : Option (Int × Int) := (slices_Min_int_int.f l0).bind fun t191 => ((slices_Max_int_int.f l0).bind fun t192 => (some (wrap64 (-t191), wrap64 (120 - t192))))
set_option maxHeartbeats 8000000 in
set_option maxRecDepth 100000 in
theorem impl_fitYears.calls (A0 : Option Addr) (c0 : Nat) (l0 : List Int) (r1 : Int) (r2 : Int) (w : World) (hr0 : Kd.C (Kd.int .i64) w A0 l0.length l0) (hc0 : l0.length ≤ c0) (h : impl_fitYears.f l0 = some (r1, r2)) :
    Calls Try.prog 54 #[.slice A0 l0.length c0] w fun e w' => e = .returned (.tuple #[.int .i64 r1, .int .i64 r2]) ∧ Drawn0 w w' := by
  have HR0 := Aside0.mk hr0
  have HC0 := Aside0.mk hc0
  clear hr0 hc0
  have H : ((slices_Min_int_int.f l0).bind fun t191 => ((slices_Max_int_int.f l0).bind fun t192 => (some (wrap64 (-t191), wrap64 (120 - t192))))) = some (r1, r2) := h
  clear h
  replace H := Option.bind_eq_some_iff.mp H
  obtain ⟨t191, A20, H⟩ := H
  replace H : ((slices_Max_int_int.f l0).bind fun t192 => (some (wrap64 (-t191), wrap64 (120 - t192)))) = some (r1, r2) := H
  have A2 := Aside0.mk A20
  clear A20
  replace H := Option.bind_eq_some_iff.mp H
  obtain ⟨t192, A30, H⟩ := H
  replace H : (some (wrap64 (-t191), wrap64 (120 - t192))) = some (r1, r2) := H
  have A3 := Aside0.mk A30
  clear A30
  simp only [Option.some.injEq, Prod.mk.injEq] at H
  obtain ⟨rfl, rfl⟩ := H
  go_enter Try.func54, Try.ntmps54
  go_wp2_with (first | ((with_reducible refine gate_callee (f := 74) rfl ?_); refine goesL_ (some 5) rfl rfl Try.func74 (by kernel_rfl) rfl #[.slice A0 l0.length c0] rfl (by (try simp only [List.map_toArray, List.map_cons, List.map_nil]); first | done | rfl | (simp only [List.length_drop, List.length_take]; rfl)) ?_; (with_reducible refine (slices_Min_int_int.calls _ _ l0 t191 _ ?side1 ?side2 A2.out).mono ?_); (case side1 => repeat (first | exact HR0.out | (with_reducible refine Kd.C_alloc ?_ _) | (with_reducible refine Kd.C_drewN ?_ _) | (with_reducible refine Kd.C_drew ?_))); (case side2 => exact HC0.out); rintro e w' ⟨rfl, ⟨nd, rfl⟩⟩; refine ⟨_, rfl, ?_⟩) | ((with_reducible refine gate_callee (f := 75) rfl ?_); refine goesL_ (some 8) rfl rfl Try.func75 (by kernel_rfl) rfl #[.slice A0 l0.length c0] rfl (by (try simp only [List.map_toArray, List.map_cons, List.map_nil]); first | done | rfl | (simp only [List.length_drop, List.length_take]; rfl)) ?_; (with_reducible refine (slices_Max_int_int.calls _ _ l0 t192 _ ?side1 ?side2 A3.out).mono ?_); (case side1 => repeat (first | exact HR0.out | (with_reducible refine Kd.C_alloc ?_ _) | (with_reducible refine Kd.C_drewN ?_ _) | (with_reducible refine Kd.C_drew ?_))); (case side2 => exact HC0.out); rintro e w' ⟨rfl, ⟨nd, rfl⟩⟩; refine ⟨_, rfl, ?_⟩))
  go_ret2
  exact ⟨by first | rfl | (simp; done) | (simp [*]; done), by repeat (first | exact Drawn0.refl _ | apply Drawn0.step)⟩

/-! ### impl_inYears: function 69 -/
def impl_inYears.l0 : Nat → Int → List Int → List Int → Int → Int → Option (List Int)
  | 0, _, _, _, _, _ => none
  | k + 1, x1, x5, x9, x10, x11 => if x11 < x10 then (if 0 ≤ x11 then (if x11 < (x9.length : Int) then (if x5.length < 17592186044416 then (impl_inYears.l0 k x1 (x5 ++ [wrap64 ((rd x9 x11) + x1)]) x9 x10 (wrap64 (x11 + 1))) else (none)) else (none)) else (none)) else (some x5)
def impl_inYears.f (k : Nat) (l0 : List Int) (a1 : Int) : Option (List Int) := impl_inYears.l0 k a1 (([] : List Int)) l0 (l0.length : Int) 0
theorem impl_inYears.mono_l : ∀ k, (∀ y0 y1 y2 y3 y4, LeO (impl_inYears.l0 k y0 y1 y2 y3 y4) (impl_inYears.l0 (k + 1) y0 y1 y2 y3 y4))
  | 0 => fun _ _ _ _ _ r h => by simp [impl_inYears.l0] at h
  | k + 1 => by
    have ih0 := impl_inYears.mono_l k
    · intro y0 y1 y2 y3 y4
      unfold impl_inYears.l0
      repeat' first
      | (with_reducible exact ih0 _ _ _ _ _)
      | (with_reducible exact LeO.refl _)
      | (with_reducible exact LeO.none _)
      | (with_reducible refine LeO.ite ?_ ?_)
      | (with_reducible refine LeO.bind ?_ (fun _ => ?_))
      | exact ih0 _ _ _ _ _
      | exact LeO.none _
      | refine LeO.ite ?_ ?_
      | refine LeO.bind ?_ (fun _ => ?_)
theorem impl_inYears.mono : ∀ a0 a1 k, LeO (impl_inYears.f k a0 a1) (impl_inYears.f (k + 1) a0 a1) := by
  intro a0 a1 k
  have ih0 := impl_inYears.mono_l k
  unfold impl_inYears.f
  repeat' first
      | (with_reducible exact ih0 _ _ _ _ _)
      | (with_reducible exact LeO.refl _)
      | (with_reducible exact LeO.none _)
      | (with_reducible refine LeO.ite ?_ ?_)
      | (with_reducible refine LeO.bind ?_ (fun _ => ?_))
      | exact ih0 _ _ _ _ _
      | exact LeO.none _
      | refine LeO.ite ?_ ?_
      | refine LeO.bind ?_ (fun _ => ?_)
set_option maxHeartbeats 8000000 in
set_option maxRecDepth 100000 in
theorem impl_inYears.calls (k : Nat) (A0 : Option Addr) (c0 : Nat) (l0 : List Int) (a1 : Int) (r : List Int) (w : World) (hr0 : Kd.C (Kd.int .i64) w A0 l0.length l0) (hc0 : l0.length ≤ c0) (h : impl_inYears.f k l0 a1 = some r) :
    Calls Try.prog 69 #[.slice A0 l0.length c0, .int .i64 a1] w fun e w' => ∃ v0_ : Value, e = .returned (v0_) ∧ Kd.R (Kd.int .i64) 3 w' w.heap.size (fun _ => True) v0_ r ∧ Below w.heap.size w w' := by
  have HR0 := Aside0.mk hr0
  have HC0 := Aside0.mk hc0
  clear hr0 hc0
  have HB := Aside0.mk (Below.refl w.heap.size w)
  have H : (impl_inYears.l0 k a1 (([] : List Int)) l0 (l0.length : Int) 0) = some r := h
  clear h
  obtain ⟨y193, hy193⟩ : ∃ y_ : List Int, y_ = (([] : List Int)) := ⟨_, rfl⟩
  replace H : (impl_inYears.l0 k a1 y193 l0 (l0.length : Int) 0) = some r := by first | (rw [hy193]; with_reducible exact H) | (have H2_ := (Option.bind_some _ _).symm.trans H; rw [hy193]; with_reducible exact H2_) | (have H2_ := (Option.bind_some _ _).symm.trans H; with_reducible exact H2_) | with_reducible exact H | (rw [hy193]; exact H) | exact H
  have Ny193 := Aside0.mk hy193
  clear hy193
  have H' := Aside0.mk H
  clear H
  go_enter Try.func69, Try.ntmps69
  go_wp2_with (first | ((with_reducible refine gate_dst (N := 8) rfl ?_); refine Kd.R_lit (Kd.int .i64) _ 3 ?hg (N := 8) ?hd (xs := ([] : List Int)) (inner := []) (ok := fun _ => True) (okp := fun _ => True) ?hr ?hp (fun _ hk => hk) trivial (Below.refl _ _) (Nat.le_refl _) (by simp) ?_; (case hd => rfl); (case hg => rfl); (case hr => first | (go_simp; done) | (go_simp; rfl)); (case hp => exact (Reps.none _ _)); intro v194 w3 ho4 hb hg_ hnew_; clear hg_ hnew_; (first | rw [← Ny193.out] at ho4 | (simp only [Int.reduceToNat] at ho4; rw [← Ny193.out] at ho4)); have n0_ := Aside0.mk (Kd.R_lower ho4 (below_size (by repeat (first | (with_reducible first | exact HB.out | apply below_alloc | apply pw_below_drewN | apply below_drew1) | exact HB.out)))); have n1_ := Aside0.mk (below_step (by repeat (first | (with_reducible first | exact HB.out | apply below_alloc | apply pw_below_drewN | apply below_drew1) | exact HB.out)) hb); clear HB; have HO195 := n0_; have HB := n1_; clear n0_ n1_; clear hb ho4))
  go_loopg [5, 11] k (fun kq v5 v11 w' => ∃ (x5_1 : List Int) (x11_1 : Int), v11 = .int .i64 x11_1 ∧ Aside0 (impl_inYears.l0 kq a1 x5_1 l0 (l0.length : Int) x11_1 = some r) ∧ Aside0 (kq ≤ k) ∧ Aside0 (Kd.R (Kd.int .i64) 3 w' w.heap.size (fun _ => True) v5 x5_1) ∧ Aside0 (Below w.heap.size w w'))
  case atStart => exact ⟨(y193), (0), (by first | rfl | (simp; done) | (simp [*]; done)), H', ⟨Nat.le_refl _⟩, ⟨by (with_reducible repeat (first | apply Kd.R_alloc | apply Kd.R_drewN | apply Kd.R_drew)); exact HO195.out⟩, ⟨by repeat (first | (with_reducible first | exact HB.out | apply below_alloc | apply pw_below_drewN | apply below_drew1) | exact HB.out)⟩⟩
  case round =>
    clear H'
    try clear p2
    obtain ⟨x5_1, x11_1, rfl, HA, HK1, HO_5, HB⟩ := hrel
    cases gk with
    | zero => exact absurd HA.out (by simp [impl_inYears.l0])
    | succ k1 =>
      have H := HA.out
      clear HA
      simp only [impl_inYears.l0] at H
      by_cases c5 : x11_1 < (l0.length : Int)
      · rw [if_pos c5] at H
        have c5b0 : decide (x11_1 < (l0.length : Int)) = true := decide_eq_true c5
        clear c5
        by_cases c6 : 0 ≤ x11_1
        · rw [if_pos c6] at H
          have c6b0 : decide (0 ≤ x11_1) = true := decide_eq_true c6
          clear c6
          by_cases c7 : x11_1 < (l0.length : Int)
          · rw [if_pos c7] at H
            have c7b0 : decide (x11_1 < (l0.length : Int)) = true := decide_eq_true c7
            clear c7
            by_cases c8 : x5_1.length < 17592186044416
            · rw [if_pos c8] at H
              have LMc8 := Aside0.mk c8
              clear c8
              obtain ⟨y197, hy197⟩ : ∃ y_ : List Int, y_ = (x5_1 ++ [wrap64 ((rd l0 x11_1) + a1)]) := ⟨_, rfl⟩
              replace H : (impl_inYears.l0 k1 a1 y197 l0 (l0.length : Int) (wrap64 (x11_1 + 1))) = some r := by first | (rw [hy197]; with_reducible exact H) | (have H2_ := (Option.bind_some _ _).symm.trans H; rw [hy197]; with_reducible exact H2_) | (have H2_ := (Option.bind_some _ _).symm.trans H; with_reducible exact H2_) | with_reducible exact H | (rw [hy197]; exact H) | exact H
              have Ny197 := Aside0.mk hy197
              clear hy197
              have H' := Aside0.mk H
              clear H
              have p196 : 0 ≤ (x11_1 : Int) := of_decide_eq_true (by first | (with_reducible assumption) | assumption)
              have q196 : x11_1 < (l0.length : Int) := of_decide_eq_true (by first | (with_reducible assumption) | assumption)
              obtain ⟨ad196, e196, hx196_0⟩ := Kd.at_int HR0.out x11_1 p196 q196
              cases e196
              replace hx196_0 := (HB.out.cell (World.block_lt_of_cell? w _ hx196_0)).trans hx196_0
              replace p196 := eq_true p196
              replace q196 := eq_true q196
              go_wp2_with (first | ((with_reducible refine gate_builtin (b := .append) (xs := #[.tmp 15, .tmp 19]) rfl ?_); at_builtin; refine Kd.R_append (Kd.int .i64) (w0 := w) w.heap.size rfl (.tmp 15) (.tmp 19) 24 3 (.int .i64 0) 8 rfl Try.underlying24 info3 rfl (by decide) (by omega) u5 x5_1 (wrap64 ((rd l0 x11_1) + a1)) [.int .i64 (wrap64 ((rd l0 x11_1) + a1))] (fun _ => True) (fun _ => False) rfl rfl ?aP (fun _ hk => hk.elim) ?aF ?aO ?aB ?aS ?aL ?_; (case aP => exact rfl); (case aB => exact (by repeat (first | (with_reducible first | exact HB.out | apply below_alloc | apply pw_below_drewN | apply below_drew1) | exact HB.out))); (case aF => exact (fun _ _ => trivial)); (case aO => exact (by (with_reducible repeat (first | apply Kd.R_alloc | apply Kd.R_drewN | apply Kd.R_drew)); exact HO_5.out)); (case aS => exact (below_size (by repeat (first | (with_reducible first | exact HB.out | apply below_alloc | apply pw_below_drewN | apply below_drew1) | exact HB.out)))); (case aL => have := LMc8.out; omega); intro v198 w9 ho hb hg hat; rw [← Ny197.out] at ho; have n0_ := Aside0.mk (hb); have n1_ := Aside0.mk (ho); clear HB; clear HO_5; have HB := n0_; have HO199 := n1_; clear n0_ n1_; clear ho hb hg hat))
              go_roundg k1
              case measure => have := HK1.out; omega
              case rel => exact ⟨(y197), (wrap64 (x11_1 + 1)), (by first | rfl | (simp; done) | (simp [*]; done)), H', ⟨by have := HK1.out; omega⟩, ⟨by (with_reducible repeat (first | apply Kd.R_alloc | apply Kd.R_drewN | apply Kd.R_drew)); exact HO199.out⟩, ⟨by repeat (first | (with_reducible first | exact HB.out | apply below_alloc | apply pw_below_drewN | apply below_drew1) | exact HB.out)⟩⟩
            · rw [if_neg c8] at H
              exact absurd H (by simp)
          · rw [if_neg c7] at H
            exact absurd H (by simp)
        · rw [if_neg c6] at H
          exact absurd H (by simp)
      · rw [if_neg c5] at H
        have c5b0 : decide (x11_1 < (l0.length : Int)) = false := decide_eq_false c5
        clear c5
        obtain rfl := Option.some.inj H
        go_wp2
        go_ret
        exact ⟨_, by first | rfl | (simp [errW_none, errW_some] <;> rfl) | (simp [*, errW_none, errW_some] <;> rfl), by (with_reducible repeat (first | apply Kd.R_alloc | apply Kd.R_drewN | apply Kd.R_drew)); exact HO_5.out, by repeat (first | (with_reducible first | exact HB.out | apply below_alloc | apply pw_below_drewN | apply below_drew1) | exact HB.out)⟩

/-! ### impl_allYears: function 41 -/
/-- What is asked of a function value that looks at a list: in every later world it tells what p tells; it may lay memory. -/
def PredL (P : Program) (g : Nat) (lb : Array Value) (p : Nat → List Int → Option Bool) (w : World) : Prop :=
  ∀ (W : World) (A : Option Addr) (c : Nat) (m : List Int) (k : Nat) (b : Bool), Below w.heap.size w W → Kd.C (Kd.int .i64) W A m.length m → m.length ≤ c → p k m = some b →
    Calls P g (#[.slice A m.length c] ++ lb) W fun e w' => e = .returned (.bool b) ∧ Below W.heap.size W w'
def MonoP (p : Nat → List Int → Option Bool) : Prop := ∀ m k, LeO (p k m) (p (k + 1) m)
def allY.l0 (p : Nat → List Int → Option Bool) : Nat → List Int → List Int → Int → Int → Option (List Int)
  | 0, _, _, _, _ => none
  | k + 1, l, acc, hi, y => if y ≤ hi then (impl_inYears.f k l y).bind fun m => (p k m).bind fun b => if b = true then (if acc.length < 17592186044416 then allY.l0 p k l (acc ++ [y]) hi (wrap64 (y + 1)) else none) else allY.l0 p k l acc hi (wrap64 (y + 1)) else some acc
def allY.f (p : Nat → List Int → Option Bool) (k : Nat) (l : List Int) : Option (List Int) := (impl_fitYears.f l).bind fun q => allY.l0 p k l [] q.2 q.1
theorem allY.mono_l (p : Nat → List Int → Option Bool) (hp : MonoP p) (l : List Int) (hi : Int) : ∀ k acc y, LeO (allY.l0 p k l acc hi y) (allY.l0 p (k + 1) l acc hi y)
  | 0, _, y => LeO.none _
  | k + 1, acc, y => by
    rw [allY.l0, allY.l0]
    exact LeO.ite (LeO.bind (impl_inYears.mono _ _ _) fun m => LeO.bind (hp _ _) fun b => LeO.ite (LeO.ite (allY.mono_l p hp l hi k _ _) (LeO.refl _)) (allY.mono_l p hp l hi k _ _)) (LeO.refl _)
theorem allY.mono (p : Nat → List Int → Option Bool) (hp : MonoP p) (l : List Int) (k : Nat) : LeO (allY.f p k l) (allY.f p (k + 1) l) :=
  LeO.bind (LeO.refl _) fun q => allY.mono_l p hp l q.2 k [] q.1
set_option maxHeartbeats 4000000 in
set_option maxRecDepth 100000 in
theorem impl_allYears.calls (p : Nat → List Int → Option Bool) (g : Nat) (lb : Array Value) (k : Nat) (A0 : Option Addr) (c0 : Nat) (l0 : List Int) (r : List Int) (w : World)
    (hp : PredL Try.prog g lb p w) (eg : ∀ args w, (callFunc g args).run Try.prog w = .ok (.enter g args) w) (hr0 : Kd.C (Kd.int .i64) w A0 l0.length l0) (hc0 : l0.length ≤ c0) (h : allY.f p k l0 = some r) :
    Calls Try.prog 41 #[.slice A0 l0.length c0, .func (.func g) #[] lb] w fun e w' => ∃ v0_ : Value, e = .returned (v0_) ∧ Kd.R (Kd.int .i64) 3 w' w.heap.size (fun _ => True) v0_ r ∧ Below w.heap.size w w' := by
  have HP := Aside0.mk (show ∀ (W : World) (A : Option Addr) (c : Nat) (m : List Int) (k : Nat) (b : Bool), Below w.heap.size w W → Kd.C (Kd.int .i64) W A m.length m → m.length ≤ c → p k m = some b →
    Calls Try.prog g (#[.slice A m.length c] ++ lb) W fun e w' => e = .returned (.bool b) ∧ Below W.heap.size W w' from hp)
  have HR0 := Aside0.mk hr0
  have HC0 := Aside0.mk hc0
  clear hp hr0 hc0
  have H : ((impl_fitYears.f l0).bind fun q => allY.l0 p k l0 [] q.2 q.1) = some r := h
  clear h
  replace H := Option.bind_eq_some_iff.mp H
  obtain ⟨⟨lo, hi⟩, A20, H⟩ := H
  have A2 := Aside0.mk A20
  have H' := Aside0.mk (show allY.l0 p k l0 [] hi lo = some r from H)
  clear A20 H
  have HB := Aside0.mk (Below.refl w.heap.size w)
  go_enter Try.func41, Try.ntmps41
  go_wp2_with (first | ((with_reducible refine gate_dst (N := 9) rfl ?_); refine Kd.R_lit (Kd.int .i64) _ 3 ?hg (N := 9) ?hd (xs := ([] : List Int)) (inner := []) (ok := fun _ => True) (okp := fun _ => True) ?hr ?hp (fun _ hk => hk) trivial (Below.refl _ _) (Nat.le_refl _) (by simp) ?_; (case hd => rfl); (case hg => rfl); (case hr => first | (go_simp; done) | (go_simp; rfl)); (case hp => exact (Reps.none _ _)); intro v145 w3 ho4 hb hg_ hnew_; clear hg_ hnew_; have n0_ := Aside0.mk (Kd.R_lower ho4 (below_size (by repeat (first | (with_reducible first | exact HB.out | apply below_alloc | apply pw_below_drewN | apply below_drew1) | exact HB.out)))); have n1_ := Aside0.mk (below_step (by repeat (first | (with_reducible first | exact HB.out | apply below_alloc | apply pw_below_drewN | apply below_drew1) | exact HB.out)) hb); clear HB; have HO := n0_; have HB := n1_; clear n0_ n1_; clear hb ho4) | ((with_reducible refine gate_callee (f := 54) rfl ?_); refine goesL_ _ rfl rfl Try.func54 (by kernel_rfl) rfl #[.slice A0 l0.length c0] rfl (by (try simp only [List.map_toArray, List.map_cons, List.map_nil]); first | done | rfl) ?_; (with_reducible refine (impl_fitYears.calls _ _ l0 lo hi _ (Kd.C_below HR0.out HB.out) HC0.out A2.out).mono ?_); rintro e w' ⟨rfl, ⟨nd, rfl⟩⟩; refine ⟨_, rfl, ?_⟩))
  go_loopg [5, 8] k (fun kq v5 v8 wr => ∃ (acc : List Int) (y : Int), v8 = .int .i64 y ∧ Aside0 (allY.l0 p kq l0 acc hi y = some r) ∧ Aside0 (kq ≤ k) ∧ Aside0 (Kd.R (Kd.int .i64) 3 wr w.heap.size (fun _ => True) v5 acc) ∧ Aside0 (Below w.heap.size w wr))
  case atStart => exact ⟨[], lo, rfl, H', ⟨Nat.le_refl _⟩, ⟨by (with_reducible repeat (first | apply Kd.R_alloc | apply Kd.R_drewN | apply Kd.R_drew)); exact HO.out⟩, ⟨(by repeat (first | (with_reducible first | exact HB.out | apply below_alloc | apply pw_below_drewN | apply below_drew1) | exact HB.out))⟩⟩
  case round =>
    clear H'
    obtain ⟨acc, y, rfl, HA, HK1, HO, HB⟩ := hrel
    cases gk with
    | zero => exact absurd HA.out (by simp [allY.l0])
    | succ k1 =>
      have H := HA.out
      clear HA
      simp only [allY.l0] at H
      by_cases c3 : y ≤ hi
      · rw [if_pos c3] at H
        have c3b0 : decide (y ≤ hi) = true := decide_eq_true c3
        clear c3
        replace H := Option.bind_eq_some_iff.mp H
        obtain ⟨m, A30, H⟩ := H
        have A3 := Aside0.mk A30
        clear A30
        replace H := Option.bind_eq_some_iff.mp H
        obtain ⟨b, A40, H⟩ := H
        have A4 := Aside0.mk A40
        clear A40
        cases b with
        | true =>
          replace H := (if_pos rfl).symm.trans H
          by_cases c8 : acc.length < 17592186044416
          · rw [if_pos c8] at H
            have LM := Aside0.mk c8
            have HE := Aside0.mk H
            clear c8 H
            go_wp2_with (first | (go_at_call 69; (with_reducible refine (impl_inYears.calls k1 _ _ l0 y m _ (Kd.C_below HR0.out HB.out) HC0.out A3.out).mono ?_); rintro e w1 ⟨v1, rfl, ho, hb⟩; obtain ⟨A1, c1, rfl, hc1, hC1⟩ := Kd.R_reads ho; have HC1 := Aside0.mk hc1; have HR1 := Aside0.mk hC1; clear hc1 hC1 ho; have n1_ := Aside0.mk (Kd.R_below HO.out hb); clear HO; have HO := n1_; clear n1_; have n0_ := Aside0.mk (below_step HB.out hb); clear HB hb; have HB := n0_; clear n0_) | ((with_reducible refine (HP.out _ _ _ m k1 true HB.out HR1.out HC1.out A4.out).mono ?_); rintro e w2 ⟨rfl, hb⟩; have n1_ := Aside0.mk (Kd.R_below HO.out hb); clear HO; have HO := n1_; clear n1_; have n0_ := Aside0.mk (below_step HB.out hb); clear HB hb; have HB := n0_; clear n0_) | ((with_reducible refine gate_builtin (b := .append) (xs := #[.tmp 26, .tmp 28]) rfl ?_); at_builtin; refine Kd.R_append (Kd.int .i64) (w0 := w) w.heap.size rfl (.tmp 26) (.tmp 28) 24 3 (.int .i64 0) 8 rfl Try.underlying24 info3 rfl (by decide) (by omega) u5 acc y [.int .i64 y] (fun _ => True) (fun _ => False) rfl rfl ?aP (fun _ hk => hk.elim) ?aF ?aO ?aB ?aS ?aL ?_; (case aP => exact rfl); (case aB => exact (by repeat (first | (with_reducible first | exact HB.out | apply below_alloc | apply pw_below_drewN | apply below_drew1) | exact HB.out))); (case aF => exact (fun _ _ => trivial)); (case aO => exact (by (with_reducible repeat (first | apply Kd.R_alloc | apply Kd.R_drewN | apply Kd.R_drew)); exact HO.out)); (case aS => exact (below_size (by repeat (first | (with_reducible first | exact HB.out | apply below_alloc | apply pw_below_drewN | apply below_drew1) | exact HB.out)))); (case aL => have := LM.out; omega); intro v149 w9 ho hb hg hat; have n0_ := Aside0.mk (hb); have n1_ := Aside0.mk (ho); clear HB; clear HO; have HB := n0_; have HO := n1_; clear n0_ n1_; clear ho hb hg hat))
            go_roundg k1
            case measure => have := HK1.out; omega
            case rel => exact ⟨acc ++ [y], wrap64 (y + 1), by first | rfl | (simp; done), HE, ⟨by have := HK1.out; omega⟩, ⟨by (with_reducible repeat (first | apply Kd.R_alloc | apply Kd.R_drewN | apply Kd.R_drew)); exact HO.out⟩, ⟨(by repeat (first | (with_reducible first | exact HB.out | apply below_alloc | apply pw_below_drewN | apply below_drew1) | exact HB.out))⟩⟩
          · rw [if_neg c8] at H
            exact absurd H (by simp)
        | false =>
          have HE := Aside0.mk (show allY.l0 p k1 l0 acc hi (wrap64 (y + 1)) = some r from H)
          clear H
          go_wp2_with (first | (go_at_call 69; (with_reducible refine (impl_inYears.calls k1 _ _ l0 y m _ (Kd.C_below HR0.out HB.out) HC0.out A3.out).mono ?_); rintro e w1 ⟨v1, rfl, ho, hb⟩; obtain ⟨A1, c1, rfl, hc1, hC1⟩ := Kd.R_reads ho; have HC1 := Aside0.mk hc1; have HR1 := Aside0.mk hC1; clear hc1 hC1 ho; have n1_ := Aside0.mk (Kd.R_below HO.out hb); clear HO; have HO := n1_; clear n1_; have n0_ := Aside0.mk (below_step HB.out hb); clear HB hb; have HB := n0_; clear n0_) | ((with_reducible refine (HP.out _ _ _ m k1 false HB.out HR1.out HC1.out A4.out).mono ?_); rintro e w2 ⟨rfl, hb⟩; have n1_ := Aside0.mk (Kd.R_below HO.out hb); clear HO; have HO := n1_; clear n1_; have n0_ := Aside0.mk (below_step HB.out hb); clear HB hb; have HB := n0_; clear n0_))
          go_roundg k1
          case measure => have := HK1.out; omega
          case rel => exact ⟨acc, wrap64 (y + 1), by first | rfl | (simp; done), HE, ⟨by have := HK1.out; omega⟩, ⟨by (with_reducible repeat (first | apply Kd.R_alloc | apply Kd.R_drewN | apply Kd.R_drew)); exact HO.out⟩, ⟨(by repeat (first | (with_reducible first | exact HB.out | apply below_alloc | apply pw_below_drewN | apply below_drew1) | exact HB.out))⟩⟩
      · rw [if_neg c3] at H
        have c3b0 : decide (y ≤ hi) = false := decide_eq_false c3
        clear c3
        obtain rfl := Option.some.inj H
        go_wp2
        go_ret
        exact ⟨_, by first | rfl | (simp; done), HO.out, (by repeat (first | (with_reducible first | exact HB.out | apply below_alloc | apply pw_below_drewN | apply below_drew1) | exact HB.out))⟩

/-! ### impl_isTwo: function 43 -/
def impl_isTwo.f (a0 : Int) : Option (Bool) := (impl_between.f a0 10 99).bind fun t200 => (some t200)
set_option maxHeartbeats 8000000 in
set_option maxRecDepth 100000 in
theorem impl_isTwo.calls (a0 : Int) (r : Bool) (w : World) (h : impl_isTwo.f a0 = some r) :
    Calls Try.prog 43 #[.int .i64 a0] w fun e w' => e = .returned (.bool r) ∧ Drawn0 w w' := by
  have H : ((impl_between.f a0 10 99).bind fun t200 => (some t200)) = some r := h
  clear h
  replace H := Option.bind_eq_some_iff.mp H
  obtain ⟨t200, A20, H⟩ := H
  replace H : (some t200) = some r := H
  have A2 := Aside0.mk A20
  clear A20
  obtain rfl := Option.some.inj H
  go_enter Try.func43, Try.ntmps43
  go_wp2_with (first | ((with_reducible refine gate_callee (f := 59) rfl ?_); refine goesL_ (some 4) rfl rfl Try.func59 (by kernel_rfl) rfl #[.int .i64 a0, .int .i64 10, .int .i64 99] rfl (by (try simp only [List.map_toArray, List.map_cons, List.map_nil]); first | done | rfl | (simp only [List.length_drop, List.length_take]; rfl)) ?_; (with_reducible refine (impl_between.calls a0 10 99 t200 _ A2.out).mono ?_); rintro e w' ⟨rfl, ⟨nd, rfl⟩⟩; refine ⟨_, rfl, ?_⟩))
  go_ret
  exact ⟨by first | rfl | (simp; done) | (simp [*]; done), by repeat (first | exact Drawn0.refl _ | apply Drawn0.step)⟩

/-! ### impl_turned: function 44 -/
def impl_turned.f (a0 : Int) : Option (Int) := some (wrap64 ((wrap64 ((Int.tmod a0 10) * 10)) + (wrap64 (Int.tdiv a0 10))))
set_option maxHeartbeats 8000000 in
set_option maxRecDepth 100000 in
theorem impl_turned.calls (a0 : Int) (r : Int) (w : World) (h : impl_turned.f a0 = some r) :
    Calls Try.prog 44 #[.int .i64 a0] w fun e w' => e = .returned (.int .i64 r) ∧ Drawn0 w w' := by
  have H : (some (wrap64 ((wrap64 ((Int.tmod a0 10) * 10)) + (wrap64 (Int.tdiv a0 10))))) = some r := h
  clear h
  obtain rfl := Option.some.inj H
  go_enter Try.func44, Try.ntmps44
  go_wp2
  go_ret
  exact ⟨by first | rfl | (simp; done) | (simp [*]; done), by repeat (first | exact Drawn0.refl _ | apply Drawn0.step)⟩

/-! ### impl_YearsTurned_1: function 42 -/
def impl_YearsTurned_1.p (b' a : Int) (k : Nat) (m : List Int) : Option Bool := if 0 ≤ b' then (if b' < (m.length : Int) then (impl_isTwo.f (rd m b')).bind fun u => if u = true then (impl_turned.f (rd m b')).bind fun v => (if 0 ≤ a then (if a < (m.length : Int) then some (v == rd m a) else none) else none) else some false else none) else none
theorem impl_YearsTurned_1.mono (b' a : Int) : MonoP (impl_YearsTurned_1.p b' a) := fun m k => LeO.refl _
set_option maxHeartbeats 4000000 in
set_option maxRecDepth 100000 in
theorem impl_YearsTurned_1.calls (b' a : Int) (b1 b2 : Nat) (w : World) (k1 : w.cell? ⟨b1, 0, none⟩ = some (.int .i64 b')) (k2 : w.cell? ⟨b2, 0, none⟩ = some (.int .i64 a)) : PredL Try.prog 42 #[.pointer (some ⟨b1, 0, none⟩), .pointer (some ⟨b2, 0, none⟩)] (impl_YearsTurned_1.p b' a) w := fun W A c m k b hb hC hc h => by
  have c1 := pw_cell_below hb k1
  have c2 := pw_cell_below hb k2
  have HR0 := Aside0.mk hC
  have HC0 := Aside0.mk hc
  clear hb k1 k2 hC hc
  show Calls Try.prog 42 #[.slice A m.length c, .pointer (some ⟨b1, 0, none⟩), .pointer (some ⟨b2, 0, none⟩)] W fun e w' => e = .returned (.bool b) ∧ Below W.heap.size W w'
  unfold impl_YearsTurned_1.p at h
  have q1a : 0 ≤ b' := by
    by_cases q : 0 ≤ b'
    · exact q
    · rw [if_neg q] at h; cases h
  rw [if_pos q1a] at h
  have q1b : b' < (m.length : Int) := by
    by_cases q : b' < (m.length : Int)
    · exact q
    · rw [if_neg q] at h; cases h
  rw [if_pos q1b] at h
  have p1 : 0 ≤ b' := q1a
  have r1 : b' < (m.length : Int) := q1b
  obtain ⟨ad1, e1, hx1⟩ := Kd.at_int HR0.out b' p1 r1
  cases e1
  replace p1 := eq_true p1
  replace r1 := eq_true r1
  replace h := Option.bind_eq_some_iff.mp h
  obtain ⟨u, A20, h⟩ := h
  have A2 := Aside0.mk A20
  clear A20
  cases u with
  | true =>
    replace h := (if_pos rfl).symm.trans h
    replace h := Option.bind_eq_some_iff.mp h
    obtain ⟨v, A30, h⟩ := h
    have A3 := Aside0.mk A30
    clear A30
    have q2a : 0 ≤ a := by
      by_cases q : 0 ≤ a
      · exact q
      · rw [if_neg q] at h; cases h
    rw [if_pos q2a] at h
    have q2b : a < (m.length : Int) := by
      by_cases q : a < (m.length : Int)
      · exact q
      · rw [if_neg q] at h; cases h
    rw [if_pos q2b] at h
    have p2 : 0 ≤ a := q2a
    have r2 : a < (m.length : Int) := q2b
    obtain ⟨ad2, e2, hx2⟩ := Kd.at_int HR0.out a p2 r2
    cases e2
    replace p2 := eq_true p2
    replace r2 := eq_true r2
    obtain rfl := Option.some.inj h
    clear h
    go_enter Try.func42, Try.ntmps42
    go_wp2
    go_quiet (first | (go_at_call 43; (with_reducible refine (impl_isTwo.calls (rd m b') true _ A2.out).mono ?_); rintro e w' ⟨rfl, ⟨nd, rfl⟩⟩; (try first | exact ⟨rfl, _, World.drewN_drewN _ _ _⟩ | exact ⟨rfl, _, Eq.trans (World.drewN_drewN _ _ _) (congrArg (World.drewN _) (Nat.add_assoc _ _ _))⟩)) | (go_at_call 44; (with_reducible refine (impl_turned.calls (rd m b') v _ A3.out).mono ?_); rintro e w' ⟨rfl, ⟨nd, rfl⟩⟩; (try first | exact ⟨rfl, _, World.drewN_drewN _ _ _⟩ | exact ⟨rfl, _, Eq.trans (World.drewN_drewN _ _ _) (congrArg (World.drewN _) (Nat.add_assoc _ _ _))⟩)))
    go_wp2
    go_ret
    exact ⟨by first | rfl | (simp; done) | (simp [*]; done), by repeat (first | exact Below.refl _ _ | apply pw_below_drewN | apply below_drew1)⟩
  | false =>
    obtain rfl := Option.some.inj (show some false = some b from h)
    clear h
    go_enter Try.func42, Try.ntmps42
    go_wp2
    go_quiet (first | (go_at_call 43; (with_reducible refine (impl_isTwo.calls (rd m b') false _ A2.out).mono ?_); rintro e w' ⟨rfl, ⟨nd, rfl⟩⟩; (try first | exact ⟨rfl, _, World.drewN_drewN _ _ _⟩ | exact ⟨rfl, _, Eq.trans (World.drewN_drewN _ _ _) (congrArg (World.drewN _) (Nat.add_assoc _ _ _))⟩)))
    go_wp2
    go_ret
    exact ⟨by first | rfl | (simp; done) | (simp [*]; done), by repeat (first | exact Below.refl _ _ | apply pw_below_drewN | apply below_drew1)⟩

/-! ### impl_YearsTurned: function 6 -/
def impl_YearsTurned.f (k : Nat) (l0 : List Int) (a1 : Int) (a2 : Int) : Option (List Int × Bool) := (impl_areTwo.f l0 a1 a2).bind fun g0 => if g0 = true then ((allY.f (impl_YearsTurned_1.p a2 a1) k l0).bind fun z => some (z, true)) else (some (([] : List Int), false))
theorem impl_YearsTurned.mono : ∀ l0 a1 a2 k, LeO (impl_YearsTurned.f k l0 a1 a2) (impl_YearsTurned.f (k + 1) l0 a1 a2) := fun l0 a1 a2 k => LeO.bind (LeO.refl _) fun _ => LeO.ite (LeO.bind (allY.mono _ (impl_YearsTurned_1.mono a2 a1) _ _) fun _ => LeO.refl _) (LeO.refl _)
set_option maxHeartbeats 4000000 in
set_option maxRecDepth 100000 in
theorem impl_YearsTurned.calls (k : Nat) (A0 : Option Addr) (c0 : Nat) (l0 : List Int) (a1 : Int) (a2 : Int) (r1 : List Int) (r2 : Bool) (w : World) (hr0 : Kd.C (Kd.int .i64) w A0 l0.length l0) (hc0 : l0.length ≤ c0) (h : impl_YearsTurned.f k l0 a1 a2 = some (r1, r2)) :
    Calls Try.prog 6 #[.slice A0 l0.length c0, .int .i64 a1, .int .i64 a2] w fun e w' => ∃ v0_ : Value, e = .returned (.tuple #[v0_, .bool r2]) ∧ Kd.R (Kd.int .i64) 3 w' w.heap.size (fun _ => True) v0_ r1 ∧ Below w.heap.size w w' := by
  have HR0 := Aside0.mk hr0
  have HC0 := Aside0.mk hc0
  clear hr0 hc0
  have eg : ∀ args w, (callFunc 42 args).run Try.prog w = .ok (.enter 42 args) w := enters_of Try.func42 (by kernel_rfl) rfl
  have EG := Aside0.mk eg
  clear eg
  have HB := Aside0.mk (show Below w.heap.size w ((w.alloc (.cells #[.int .i64 a1] 3)).alloc (.cells #[.int .i64 a2] 3)) from ((Below.refl w.heap.size w).alloc (by simp) _).alloc (by simp) _)
  have c1 : ((w.alloc (.cells #[.int .i64 a1] 3)).alloc (.cells #[.int .i64 a2] 3)).cell? ⟨w.heap.size, 0, none⟩ = some (.int .i64 a1) := (pw_cell_below ((Below.refl _ _).alloc (Nat.le_refl _) _) (show (w.alloc (.cells #[.int .i64 a1] 3)).cell? ⟨w.heap.size, 0, none⟩ = some (.int .i64 a1) from (World.cell?_alloc_at _ _ _ _ (by simp)).trans rfl))
  have c2 : ((w.alloc (.cells #[.int .i64 a1] 3)).alloc (.cells #[.int .i64 a2] 3)).cell? ⟨w.heap.size + 1, 0, none⟩ = some (.int .i64 a2) := (show ((w.alloc (.cells #[.int .i64 a1] 3)).alloc (.cells #[.int .i64 a2] 3)).cell? ⟨w.heap.size + 1, 0, none⟩ = some (.int .i64 a2) from (World.cell?_alloc_at _ _ _ _ (by simp)).trans rfl)
  have H := h
  clear h
  unfold impl_YearsTurned.f at H
  replace H := Option.bind_eq_some_iff.mp H
  obtain ⟨g0, A00, H⟩ := H
  have A0 := Aside0.mk A00
  clear A00
  cases g0 with
  | false =>
    have HE := Aside0.mk (Option.some.inj (show some (([] : List Int), false) = some (r1, r2) from H))
    clear H
    go_enter Try.func6, Try.ntmps6
    go_wp2_with (first | (go_at_call 40; (with_reducible refine (impl_areTwo.calls _ _ l0 a1 a2 false _ (Kd.C_below HR0.out HB.out) HC0.out A0.out).mono ?_); rintro e w1 ⟨rfl, hb0⟩; have hb := hb0; clear hb0; have n0_ := Aside0.mk (below_step HB.out hb); clear HB; have HB := n0_; clear n0_; have c1_ := pw_cell_below hb c1; clear c1; have c1 := c1_; clear c1_; have c2_ := pw_cell_below hb c2; clear c2; have c2 := c2_; clear c2_; clear hb))
    go_ret2
    exact ⟨.slice none 0 0, by have := HE.out; simp only [Prod.mk.injEq] at this; rw [← this.2]; first | rfl | (simp; done), by have := HE.out; simp only [Prod.mk.injEq] at this; rw [← this.1]; exact Kd.R_nil _ _ _ _ _, HB.out⟩
  | true =>
    replace H := (if_pos rfl).symm.trans H
    replace H := Option.bind_eq_some_iff.mp H
    obtain ⟨z, Z0, H⟩ := H
    have HE := Aside0.mk Z0
    have HZ := Aside0.mk (Option.some.inj H)
    clear Z0 H
    go_enter Try.func6, Try.ntmps6
    go_wp2_with (first | (go_at_call 40; (with_reducible refine (impl_areTwo.calls _ _ l0 a1 a2 true _ (Kd.C_below HR0.out HB.out) HC0.out A0.out).mono ?_); rintro e w1 ⟨rfl, hb0⟩; have hb := hb0; clear hb0; have n0_ := Aside0.mk (below_step HB.out hb); clear HB; have HB := n0_; clear n0_; have c1_ := pw_cell_below hb c1; clear c1; have c1 := c1_; clear c1_; have c2_ := pw_cell_below hb c2; clear c2; have c2 := c2_; clear c2_; clear hb) | (go_at_call 41; (with_reducible refine (impl_allYears.calls (impl_YearsTurned_1.p a2 a1) 42 #[.pointer (some ⟨w.heap.size + 1, 0, none⟩), .pointer (some ⟨w.heap.size, 0, none⟩)] k _ _ l0 z _ (impl_YearsTurned_1.calls a2 a1 _ _ _ c2 c1) EG.out (Kd.C_below HR0.out HB.out) HC0.out HE.out).mono ?_); rintro e w1 ⟨v1, rfl, ho, hb⟩; have HO := Aside0.mk (Kd.R_lower ho HB.out.size); have n0_ := Aside0.mk (below_step HB.out hb); clear HB; have HB := n0_; clear n0_ hb ho))
    go_ret2
    exact ⟨_, by have := HZ.out; simp only [Prod.mk.injEq] at this; rw [← this.2]; first | rfl | (simp; done), by have := HZ.out; simp only [Prod.mk.injEq] at this; rw [← this.1]; exact HO.out, HB.out⟩

end Go.Proofs.Ytpokmbcfmaepcaa.P
