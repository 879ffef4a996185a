-- Written by drive.py (wip/ of this repository) over the kit's print: functions, contracts, rows. Lean checks it. -- SQUEEZED
import Derived.Test.YtcfgkpifloghlaaGreatDoorP0
import Derived.Test.YtcfgkpifloghlaaGreatDoorP1
import Derived.Test.YtcfgkpifloghlaaGreatDoorP2
import Derived.Test.YtcfgkpifloghlaaGreatDoorP3
import Derived.Test.YtcfgkpifloghlaaGreatDoorP5
import Derived.Test.YtcfgkpifloghlaaGreatDoorP10
import Derived.Test.YtcfgkpifloghlaaGreatDoorP12
namespace Go.Proofs.YtcfgkpifloghlaaGreatDoor.P
open Go.RowKit Go.Proofs.YtcfgkpifloghlaaGreatDoorW.PrintWords Go.Proofs.YtcfgkpifloghlaaGreatDoorW.PrintLast Go.Proofs.YtcfgkpifloghlaaGreatDoorW.PrintMore
attribute [local go_sem] max2_int min2_int max_two min_two max_three min_three max_four min_four undef_guard   -- for this text's walks alone
set_option linter.unusedVariables false
set_option linter.unusedSimpArgs false

/-! ### slices_Clone_int_int: function 72 -/
def slices_Clone_int_int.f (l0 : List Int) : Option (List Int) := if l0.length < 17592186044416 then some l0 else none
set_option maxHeartbeats 8000000 in
set_option maxRecDepth 100000 in
theorem slices_Clone_int_int.calls (A0 : Option Addr) (c0 : Nat) (l0 : List Int) (r : List Int) (w : World) (hr0 : Kd.C (Kd.int .i64) w A0 l0.length l0) (hc0 : l0.length ≤ c0) (h : slices_Clone_int_int.f l0 = some r) :
  Calls Tryz.prog 72 #[.slice A0 l0.length c0] w fun e w' => ∃ v0_ : Value, e = .returned (v0_) ∧ Kd.R (Kd.int .i64) 3 w' w.heap.size (fun _ => True) v0_ r ∧ Below w.heap.size w w' := by
 unfold slices_Clone_int_int.f at h
 have hlen : l0.length < 17592186044416 := by
  by_cases q : l0.length < 17592186044416
  case pos =>
   exact q
  rw [if_neg q] at h; cases h
 rw [if_pos hlen] at h
 obtain rfl := Option.some.inj h
 clear h
 have HR0 := aM hr0
 have HC0 := aM hc0
 clear hr0 hc0
 have HLEN := aM hlen
 clear hlen
 have HB := aM (Below.refl w.heap.size w)
 have hnil := fun (W : World) (a : Option Addr) (n c : Nat) => Lib.run_eql_slice_nil (P := Tryz.prog) W 24 3 a n c 0 0 Tryz.underlying24
 cases A0 with
 | none =>
  have hz : l0 = [] := by
   have h0 := HR0.out.2.2
   cases l0 with
   | nil => rfl
   | cons x xs => obtain ⟨ad, e, _⟩ := h0 (by simp); cases e
  have HZ := aM hz
  clear hz
  go_enter Tryz.func72, Tryz.ntmps72
  go_wp2
  go_ret
  exact ⟨_, by first | rfl | (simp; done), by rw [HZ.out]; exact Kd.R_nil _ _ _ _ _, Below.refl _ _⟩
 | some ad =>
  go_enter Tryz.func72, Tryz.ntmps72
  go_wp2_with (first | ((with_reducible refine gate_dst (N := 5) rfl ?_); refine Kd.R_lit (Kd.int .i64) _ 3 ?hg (N := 5) ?hd (xs := ([] : List Int)) (inner := []) (ok := fun _ => True) (okp := fun _ => True) ?hr ?hp (fun _ hk => hk) trivial (Below.refl _ _) (Nat.le_refl _) (by simp) ?_; (case hd => rfl); (case hg => rfl); (case hr => first | (go_simp; done) | (go_simp; rfl)); (case hp => exact (Reps.none _ _)); intro v267 w3 ho4 hb hg_ hnew_; clear hg_ hnew_; have HO268 := aM (Kd.R_lower ho4 (bZ HB.out)); replace HB := aM (bS HB.out hb); clear hb ho4) | ((with_reducible refine gate_builtin (b := .append) (xs := #[.tmp 5, .tmp 6]) rfl ?_); at_builtin; refine Kd.R_append_rows (Kd.int .i64) (w0 := w) w.heap.size rfl (.tmp 5) (.tmp 6) 24 3 (.int .i64 0) 8 rfl Tryz.underlying24 info3 rfl (by decide) (by omega) v267 ([] : List Int) l0 _ _ _ (fun _ => True) (fun _ => False) rfl rfl ?aO ?aR (fun _ _ h => h) (fun _ h => h.elim) ?aF ?aB ?aS ?aL ?_; (case aR => exact cQ (Kd.C_below HR0.out HB.out)); (case aB => exact (bE HB.out)); (case aF => exact (fun _ _ => trivial)); (case aO => exact (rQ HO268.out)); (case aS => exact (bZ HB.out)); (case aL => have := HLEN.out; simp; omega); intro v270 w5 ho hb hg hat; replace HB := aM (hb); have HO271 := aM (ho); clear HO268; clear ho hb hg hat))
  go_ret
  exact ⟨_, by first | rfl | (simp; done), rQ HO271.out, bE HB.out⟩

/-! ### impl_DropAge: function 34 -/
def impl_DropAge.f (l0 : List Int) (a1 : Int) : Option (List Int × Bool) := (impl_AreAges.f l0).bind fun g0 => if g0 = true then ((impl_is.f l0 a1).bind fun g1 => if g1 = true then ((slices_Clone_int_int.f l0).bind fun t => if 0 ≤ a1 then (if a1 < (t.length : Int) then (impl_agesOr.f (t.take a1.toNat ++ t.drop (a1.toNat + 1))) else none) else none) else some (([] : List Int), false)) else some (([] : List Int), false)
set_option maxHeartbeats 4000000 in
set_option maxRecDepth 100000 in
theorem impl_DropAge.calls (A0 : Option Addr) (c0 : Nat) (l0 : List Int) (a1 : Int) (r1 : List Int) (r2 : Bool) (w : World) (hr0 : Kd.C (Kd.int .i64) w A0 l0.length l0) (hc0 : l0.length ≤ c0) (h : impl_DropAge.f l0 a1 = some (r1, r2)) :
  Calls Tryz.prog 34 #[.slice A0 l0.length c0, .int .i64 a1] w fun e w' => ∃ v0_ : Value, e = .returned (.tuple #[v0_, .bool r2]) ∧ Kd.R (Kd.int .i64) 3 w' w.heap.size (fun _ => True) v0_ r1 ∧ Below w.heap.size w w' := by
 have HR0 := aM hr0
 have HC0 := aM hc0
 have HN := aM (show l0.length ≤ 9223372036854775807 from (Kd.reads_of_C (enc := Value.int .i64) (d := (0 : Int)) (h1 := fun _ => rfl) hr0).2.1)
 clear hr0 hc0
 have HB := aM (Below.refl w.heap.size w)
 have H := h
 clear h
 unfold impl_DropAge.f at H
 replace H := oB H
 obtain ⟨g0, A00, H⟩ := H
 have A0 := aM A00
 clear A00
 cases g0 with
 | false =>
  obtain ⟨rfl, rfl⟩ := Prod.mk.inj (Option.some.inj (show some (([] : List Int), false) = some (r1, r2) from H))
  clear H
  go_enter Tryz.func34, Tryz.ntmps34
  go_wp2_with (first | (go_at_call 47; (with_reducible refine (impl_AreAges.calls _ _ l0 false _ (Kd.C_below HR0.out HB.out) HC0.out A0.out).mono ?_); rintro e w1 ⟨rfl, hb⟩; replace HB := aM (below_step HB.out hb); clear hb))
  go_ret2
  exact ⟨_, by first | rfl | (simp; done), Kd.R_nil _ _ _ _ _, HB.out⟩
 | true =>
  replace H := (if_pos rfl).symm.trans H
  replace H := oB H
  obtain ⟨g1, A10, H⟩ := H
  have A1 := aM A10
  clear A10
  cases g1 with
  | false =>
   obtain ⟨rfl, rfl⟩ := Prod.mk.inj (Option.some.inj (show some (([] : List Int), false) = some (r1, r2) from H))
   clear H
   go_enter Tryz.func34, Tryz.ntmps34
   go_wp2_with (first | (go_at_call 47; (with_reducible refine (impl_AreAges.calls _ _ l0 true _ (Kd.C_below HR0.out HB.out) HC0.out A0.out).mono ?_); rintro e w1 ⟨rfl, hb⟩; replace HB := aM (below_step HB.out hb); clear hb) | (go_at_call 48; (with_reducible refine (impl_is.calls _ _ l0 a1 false _ (Kd.C_below HR0.out HB.out) HC0.out A1.out).mono ?_); rintro e w1 ⟨rfl, ⟨nd, rfl⟩⟩; replace HB := aM (pw_below_drewN HB.out nd)))
   go_ret2
   exact ⟨_, by first | rfl | (simp; done), Kd.R_nil _ _ _ _ _, HB.out⟩
  | true =>
   replace H := (if_pos rfl).symm.trans H
   replace H := oB H
   obtain ⟨t, A20, H⟩ := H
   have A2 := aM A20
   have et : t = l0 := by
    unfold slices_Clone_int_int.f at A20
    split at A20
    ·
     exact (Option.some.inj A20).symm
    ·
     cases A20
   clear A20
   by_cases q : 0 ≤ a1
   case neg =>
    rw [if_neg q] at H
    cases H

   rw [if_pos q] at H
   by_cases q2 : a1 < (t.length : Int)
   case neg =>
    rw [if_neg q2] at H
    cases H
   rw [if_pos q2] at H
   have HH := aM H
   clear H
   obtain ⟨i, rfl⟩ := Int.eq_ofNat_of_zero_le q
   have hi : i < t.length := by omega
   have ew : wrap64 ((i : Int) + 1) = ((i + 1 : Nat) : Int) := by
    have := HN.out
    subst et
    unfold wrap64
    omega
   have hDel := fun (P0_ : Nat → Prop) (u : Value) (W : World) hB ho => slices_Delete.calls P0_ u t i hi w W hB ho
   rw [← ew] at hDel
   have HD := aM hDel
   have HH2 := aM (show impl_agesOr.f (t.take i ++ t.drop (i + 1)) = some (r1, r2) from HH.out)
   clear ew hDel HH q q2 hi et HN
   go_enter Tryz.func34, Tryz.ntmps34
   go_wp2_with (first | (go_at_call 47; (with_reducible refine (impl_AreAges.calls _ _ l0 true _ (Kd.C_below HR0.out HB.out) HC0.out A0.out).mono ?_); rintro e w1 ⟨rfl, hb⟩; replace HB := aM (below_step HB.out hb); clear hb) | (go_at_call 48; (with_reducible refine (impl_is.calls _ _ l0 _ true _ (Kd.C_below HR0.out HB.out) HC0.out A1.out).mono ?_); rintro e w1 ⟨rfl, ⟨nd, rfl⟩⟩; replace HB := aM (pw_below_drewN HB.out nd)) | (go_at_call 72; (with_reducible refine (slices_Clone_int_int.calls _ _ l0 t _ (Kd.C_below HR0.out HB.out) HC0.out A2.out).mono ?_); rintro e w1 ⟨v1, rfl, ho, hb⟩; have HO := aM (Kd.R_lower ho HB.out.size); replace HB := aM (below_step HB.out hb); clear hb ho) | (go_at_call 71; (with_reducible refine (HD.out (fun _ => True) _ _ HB.out HO.out).mono ?_); rintro e w1 ⟨v2, rfl, ho, hb⟩; clear HO HB; have HO := aM ho; have HB := aM hb; clear ho hb) | (go_at_call 64; (with_reducible refine (impl_agesOr.calls (fun _ => True) _ _ r1 r2 w _ HB.out HO.out HH2.out).mono ?_); rintro e w1 ⟨v3, rfl, ho, hb, hk⟩; clear HO HB hk; have HO := aM (Kd.R_mono ho (fun _ _ => trivial : ∀ k, _ → True)); have HB := aM hb; clear ho hb))
   go_ret2
   exact ⟨_, by first | rfl | (simp; done), HO.out, HB.out⟩
/-! ### spec_DropAge: function 35 -/
def spec_DropAge.f (k : Nat) (l0 : List Int) (a1 : Int) : Option (List Int × Bool) := (spec_agWho.f k l0 a1).bind fun t445 => (if t445 = true then (if (l0.length : Int) = 1 then (some (([] : List Int), false)) else (if 0 ≤ a1 then (if a1 ≤ (l0.length : Int) then ((spec_l1Own.f (l0.take (a1 : Int).toNat)).bind fun t447 => (if 0 ≤ (wrap64 (a1 + 1)) then (if (wrap64 (a1 + 1)) ≤ (l0.length : Int) then (if t447.length + (l0.drop ((wrap64 (a1 + 1)) : Int).toNat).length < 17592186044416 then (some ((t447 ++ (l0.drop ((wrap64 (a1 + 1)) : Int).toNat)), true)) else (none)) else (none)) else (none))) else (none)) else (none))) else (some (([] : List Int), false)))
theorem spec_DropAge.mono : ∀ a0 a1 k, LeO (spec_DropAge.f k a0 a1) (spec_DropAge.f (k + 1) a0 a1) := by
 intro a0 a1 k
 unfold spec_DropAge.f
 repeat' first
   | (with_reducible exact spec_agWho.mono _ _ _)
   | (with_reducible exact LeO.refl _)
   | (with_reducible exact LeO.none _)
   | (with_reducible refine LeO.ite ?_ ?_)
   | (with_reducible refine LeO.bind ?_ (fun _ => ?_))
def spec_DropAge.T3 : Bool × List (List Nat × List Nat) := (true, [([], []), ([], []), ([0, 1], [0, 1]), ([2], [2]), ([], []), ([], []), ([5], [5]), ([4, 6], [4, 6]), ([3, 7, 3], [3, 7]), ([8, 8, 0, 1, 2, 3, 4, 5, 6, 7, 8], [8]), ([9, 0, 1, 2, 3, 4, 5, 6, 7, 8, 9], [])])
def spec_DropAge.B3 : List Nat := [0, 0, 3, 7, 0, 0, 32, 112, 255, 511, 1023]
theorem spec_DropAge.tab3 : rtab .any (opsOf Tryz.f35 3) = spec_DropAge.T3 := by kernel_rfl
theorem spec_DropAge.bits3 : waitsOk spec_DropAge.T3.2 spec_DropAge.B3 = true := by kernel_rfl
set_option maxHeartbeats 8000000 in
set_option maxRecDepth 100000 in
theorem spec_DropAge.calls (k : Nat) (A0 : Option Addr) (c0 : Nat) (l0 : List Int) (a1 : Int) (r1 : List Int) (r2 : Bool) (w : World) (hr0 : Kd.C (Kd.int .i64) w A0 l0.length l0) (hc0 : l0.length ≤ c0) (h : spec_DropAge.f k l0 a1 = some (r1, r2)) :
  Calls Tryz.prog 35 #[.slice A0 l0.length c0, .int .i64 a1] w fun e w' => ∃ v0_ : Value, e = .returned (.tuple #[v0_, .bool r2]) ∧ Kd.R (Kd.int .i64) 3 w' w.heap.size (fun _ => True) v0_ r1 ∧ Below w.heap.size w w' := by
 have HR0 := aM hr0
 have HC0 := aM hc0
 clear hr0 hc0
 have HB := aM (Below.refl w.heap.size w)
 have H : ((spec_agWho.f k l0 a1).bind fun t445 => (if t445 = true then (if (l0.length : Int) = 1 then (some (([] : List Int), false)) else (if 0 ≤ a1 then (if a1 ≤ (l0.length : Int) then ((spec_l1Own.f (l0.take (a1 : Int).toNat)).bind fun t447 => (if 0 ≤ (wrap64 (a1 + 1)) then (if (wrap64 (a1 + 1)) ≤ (l0.length : Int) then (if t447.length + (l0.drop ((wrap64 (a1 + 1)) : Int).toNat).length < 17592186044416 then (some ((t447 ++ (l0.drop ((wrap64 (a1 + 1)) : Int).toNat)), true)) else (none)) else (none)) else (none))) else (none)) else (none))) else (some (([] : List Int), false)))) = some (r1, r2) := h
 clear h
 replace H := oB H
 obtain ⟨t445, A30, H⟩ := H
 (try dsimp only at H)
 have A3 := aM A30
 clear A30
 by_cases c4 : t445 = true
 ·
  subst c4
  replace H := (if_pos rfl).symm.trans H
  by_cases c5 : (l0.length : Int) = 1
  ·
   rw [if_pos c5] at H
   have c5b0 : ((l0.length : Int) == 1) = true := beq_iff_eq.mpr c5
   have c5b1 : ((l0.length : Int) != 1) = false := bne_eq_false_iff_eq.mpr c5
   clear c5
   simp only [Option.some.injEq, Prod.mk.injEq] at H
   obtain ⟨rfl, rfl⟩ := H
   go_enter Tryz.func35, Tryz.ntmps35
   go_wp2_with (first | ((with_reducible refine gate_callee (f := 50) rfl ?_); refine gL 8 Tryz.func50 #[.slice A0 l0.length c0, .int .i64 a1] rfl rfl rfl rfl ?_; (with_reducible refine (spec_agWho.calls k _ _ l0 a1 true _ ?side1 ?side2 A3.out).mono ?_); (case side1 => exact cQ HR0.out); (case side2 => exact HC0.out); rintro e w' ⟨rfl, ⟨nd, rfl⟩⟩; refine ⟨_, rfl, ?_⟩))
   go_ret2
   exact ⟨_, erQ, by first | exact Kd.R_nil _ _ _ _ _ | exact Kd.N_nil _ _ _ _ _ | exact Kd.V_nil _ _ _ _ _ | exact Kd.Q_nil _ _ _ _ _ | exact Kd.S_nil _ _ _ _ _, bE HB.out⟩
  ·
   rw [if_neg c5] at H
   have c5b0 : ((l0.length : Int) == 1) = false := beq_eq_false_iff_ne.mpr c5
   have c5b1 : ((l0.length : Int) != 1) = true := bne_iff_ne.mpr c5
   by_cases c6 : 0 ≤ a1
   case neg =>
    rw [if_neg c6] at H
    exact nS H
   rw [if_pos c6] at H
   have c6b0 := eq_true c6
   have c6b1 : decide (0 ≤ a1) = true := decide_eq_true c6
   clear c6
   by_cases c7 : a1 ≤ (l0.length : Int)
   case neg =>
    rw [if_neg c7] at H
    exact nS H
   rw [if_pos c7] at H
   have c7b0 := eq_true c7
   have c7b1 : decide (a1 ≤ (l0.length : Int)) = true := decide_eq_true c7
   clear c7
   replace H := oB H
   obtain ⟨t447, A80, H⟩ := H
   (try dsimp only at H)
   have A8 := aM A80
   clear A80
   obtain ⟨ji9, hji9⟩ : ∃ j_ : Int, (wrap64 (a1 + 1)) = j_ := ⟨_, rfl⟩
   replace H : (if 0 ≤ (ji9) then (if (ji9) ≤ (l0.length : Int) then (if t447.length + (l0.drop ((ji9) : Int).toNat).length < 17592186044416 then (some ((t447 ++ (l0.drop ((ji9) : Int).toNat)), true)) else (none)) else (none)) else (none)) = some (r1, r2) := by first | (rw [hji9] at H; exact H) | (simp only [hji9] at H ⊢; exact H)
   (try rw [hji9] at A3)
   (try rw [hji9] at A8)
   have hji9w : (IntKind.i64.wrap (a1 + 1)) = ji9 := (i64_w _).trans hji9
   by_cases c10 : 0 ≤ (ji9)
   case neg =>
    rw [if_neg c10] at H
    exact nS H
   rw [if_pos c10] at H
   have c10b0 := eq_true c10
   have c10b1 : decide (0 ≤ (ji9)) = true := decide_eq_true c10
   clear c10
   by_cases c11 : (ji9) ≤ (l0.length : Int)
   case neg =>
    rw [if_neg c11] at H
    exact nS H
   rw [if_pos c11] at H
   have c11b0 := eq_true c11
   have c11b1 : decide ((ji9) ≤ (l0.length : Int)) = true := decide_eq_true c11
   clear c11
   by_cases c12 : t447.length + (l0.drop ((ji9) : Int).toNat).length < 17592186044416
   case neg =>
    rw [if_neg c12] at H
    exact nS H
   rw [if_pos c12] at H
   have LMc12 := aM c12
   clear c12
   obtain ⟨y451, hy451⟩ : ∃ y_ : List Int, y_ = (t447 ++ (l0.drop ((ji9) : Int).toNat)) := ⟨_, rfl⟩
   replace H : (some (y451, true)) = some (r1, r2) := by first | (rw [hy451]; with_reducible exact H) | (have H2_ := (Option.bind_some _ _).symm.trans H; rw [hy451]; with_reducible exact H2_) | (have H2_ := (Option.bind_some _ _).symm.trans H; with_reducible exact H2_) | with_reducible exact H | (rw [hy451]; exact H) | exact H
   have Ny451 := aM hy451
   clear hy451
   simp only [Option.some.injEq, Prod.mk.injEq] at H
   obtain ⟨rfl, rfl⟩ := H
   go_enter Tryz.func35, Tryz.ntmps35
   try go_wp2_with (first | ((with_reducible refine gate_callee (f := 50) rfl ?_); refine gL 8 Tryz.func50 #[.slice A0 l0.length c0, .int .i64 a1] rfl rfl rfl rfl ?_; (with_reducible refine (spec_agWho.calls k _ _ l0 a1 true _ ?side1 ?side2 A3.out).mono ?_); (case side1 => exact cQ HR0.out); (case side2 => exact HC0.out); rintro e w' ⟨rfl, ⟨nd, rfl⟩⟩; refine ⟨_, rfl, ?_⟩))
   have n0_ := aM (below_drew1 (pw_below_drewN HB.out nd))
   clear HB
   have HB := n0_
   clear n0_
   obtain ⟨i014, hi014, _, hsz14, _⟩ := info_parts info3
   obtain ⟨hcut14, hA14, hC14⟩ := print_take_of (P := Tryz.prog) (Value.int .i64) 0 24 3 .i64 Tryz.underlying24 hi014 hsz14 A0 c0 l0 a1 (dA) (dA) HC0.out
   have HR446 := aM (Kd.C_of_reads (h1 := fun _ => rfl) (hA14 _ (Kd.reads_of_C HR0.out)))
   have HC446 := aM hC14
   clear hA14 hC14 hi014 hsz14
   obtain ⟨i015, hi015, _, hsz15, _⟩ := info_parts info3
   obtain ⟨A15, hcut15, hA15, hC15⟩ := print_drop_of (P := Tryz.prog) (Value.int .i64) 0 24 3 .i64 Tryz.underlying24 hi015 hsz15 A0 c0 l0 (ji9) (dA) (dA) HC0.out
   have HR450 := aM (Kd.C_of_reads (h1 := fun _ => rfl) (hA15 _ (Kd.reads_of_C HR0.out)))
   have HC450 := aM hC15
   clear hA15 hC15 hi015 hsz15
   refine start_ (n := 11) (S := fun w' => True) (ds := []) #[false, false, false, false, false, false, false, false, false, false, false] (by kernel_rfl) rfl rfl trivial (fun hHeld => ?_); refine with_tabW spec_DropAge.tab3 spec_DropAge.bits3 (fun HT_ HW_ => ?_)
   generalize (w.drewN nd).drew = w13 at HB HR446 HR450 hHeld ⊢
   refine pure_ (i := 0) (N := some 15) (v := ?_) (a' := ?_) (bm 11 1) rfl rfl (any_of HT_.out (by kernel_rfl)) (fun _ _ _ h => h) (Or.inl ⟨by rfl, ?_⟩) ?_ ?_
   rotate_left
   ·
    intro w'
    go_simp
    with_reducible rfl
   rotate_left
   ·
    simp only [Act.put, List.setIfInBounds_toArray, List.set_cons_zero, List.set_cons_succ, i64_w, i32_w]
    rfl
   refine pure_ (i := 1) (N := some 16) (v := ?_) (a' := ?_) (bm 11 3) rfl rfl (any_of HT_.out (by kernel_rfl)) (fun _ _ _ h => h) (Or.inl ⟨by rfl, ?_⟩) ?_ ?_
   rotate_left
   ·
    intro w'
    go_simp
    with_reducible rfl
   rotate_left
   ·
    simp only [Act.put, List.setIfInBounds_toArray, List.set_cons_zero, List.set_cons_succ, i64_w, i32_w]
    rfl
   refine pure_ (i := 2) (N := some 17) (v := ?_) (a' := ?_) (bm 11 7) rfl rfl (any_of HT_.out (by kernel_rfl)) (fun _ _ _ h => h) (Or.inl ⟨by rfl, ?_⟩) ?_ ?_
   rotate_left
   ·
    intro w'
    go_simp
    with_reducible rfl
   rotate_left
   ·
    simp only [Act.put, List.setIfInBounds_toArray, List.set_cons_zero, List.set_cons_succ, i64_w, i32_w]
    rfl
   refine pure_ (i := 4) (N := some 19) (v := ?_) (a' := ?_) (bm 11 23) rfl rfl (any_of HT_.out (by kernel_rfl)) (fun _ _ _ h => h) (Or.inl ⟨by rfl, ?_⟩) ?_ ?_
   rotate_left
   ·
    intro w'
    go_simp
    with_reducible rfl
   rotate_left
   ·
    simp only [Act.put, List.setIfInBounds_toArray, List.set_cons_zero, List.set_cons_succ, i64_w, i32_w]
    rfl
   refine pure_ (i := 5) (N := some 20) (v := ?_) (a' := ?_) (bm 11 55) rfl rfl (any_of HT_.out (by kernel_rfl)) (fun _ _ _ h => h) (Or.inl ⟨by rfl, ?_⟩) ?_ ?_
   rotate_left
   ·
    intro w'
    go_simp
    with_reducible rfl
   rotate_left
   ·
    simp only [Act.put, List.setIfInBounds_toArray, List.set_cons_zero, List.set_cons_succ, i64_w, i32_w]
    rfl
   refine pure_ (i := 6) (N := some 21) (v := ?_) (a' := ?_) (bm 11 119) rfl rfl (any_of HT_.out (by kernel_rfl)) (fun _ _ _ h => h) (Or.inl ⟨by rfl, ?_⟩) ?_ ?_
   rotate_left
   ·
    intro w'
    go_simp
    with_reducible rfl
   rotate_left
   ·
    simp only [Act.put, List.setIfInBounds_toArray, List.set_cons_zero, List.set_cons_succ, i64_w, i32_w]
    rfl
   refine pure_ (i := 7) (N := some 22) (v := ?_) (a' := ?_) (bm 11 247) rfl rfl (any_of HT_.out (by kernel_rfl)) (fun _ _ _ h => h) (Or.inl ⟨by rfl, ?_⟩) ?_ ?_
   rotate_left
   ·
    intro w'
    go_simp
    with_reducible rfl
   rotate_left
   ·
    simp only [Act.put, List.setIfInBounds_toArray, List.set_cons_zero, List.set_cons_succ, i64_w, i32_w]
    rfl
   refine one_ (i := 3) (N := some 18) #[true, true, true, true, true, true, true, true, false, false, false] rfl rfl (one_of HT_.out (by kernel_rfl)) (by decide) (fun K hK => ?_)
   refine goes_ Tryz.func73 (by kernel_rfl) rfl #[.slice A0 (l0.take (a1 : Int).toNat).length c0] (by rfl) rfl rfl (by (try simp only [List.map_toArray, List.map_cons, List.map_nil]); first | done | (rw [show (l0.take (a1 : Int).toNat).length = a1.toNat from (by rw [List.length_take]; have h_ : (a1 : Int) ≤ (l0.length : Int) := dA; omega)] <;> rfl) | rfl | (simp only [List.length_drop, List.length_take]; rfl)) ?_
   with_reducible refine (spec_l1Own.calls _ _ (l0.take (a1 : Int).toNat) t447 _ ?side1 ?side2 A8.out).mono ?_
   (case side1 => exact cQ (Kd.C_below HR446.out HB.out))
   (case side2 => exact HC446.out)
   rintro e w16 ⟨v448, rfl, ho0, hb⟩
   refine ⟨_, rfl, ?_⟩
   have n0_ := aM (Kd.R_lower ho0 (bZ HB.out))
   have n1_ := aM (bS HB.out hb)
   clear HB
   have HO449 := n0_
   have HB := n1_
   clear n0_ n1_
   (try clear hb)
   (try clear hb2)
   (try clear hk)
   (try clear hi)
   (try clear ho0)
   refine hK.out _ _ trivial (fun hHeld => ?_)
   clear hK K
   refine norm_ (a' := ?_) ?_ ?_
   rotate_left
   ·
    show Act.put _ (some 18) _ = _
    simp only [Act.put, List.setIfInBounds_toArray, List.set_cons_zero, List.set_cons_succ, i64_w, i32_w]
    rfl
   refine one_ (i := 8) (N := some 23) #[true, true, true, true, true, true, true, true, true, false, false] rfl rfl (one_of HT_.out (by kernel_rfl)) (by decide) (fun K hK => ?_)
   refine Kd.R_append_rows_step (Kd.int .i64) (w0 := w) w.heap.size (by rfl) (.tmp 18) (.tmp 22) 24 3 (.int .i64 0) 8 rfl Tryz.underlying24 info3 rfl (by decide) (by omega) v448 t447 (l0.drop ((ji9) : Int).toNat) _ _ _ (fun _ => True) (fun _ => False) rfl rfl ?aO ?aR (fun _ _ h => h) (fun _ h => h.elim) ?aF ?aB ?aS ?aL ?_
   (case aR => first | (rw [← show (l0.drop ((ji9) : Int).toNat).length = (l0.length - (ji9).toNat) from List.length_drop]; exact cQ (Kd.C_below HR450.out HB.out)) | (exact cQ (Kd.C_below HR450.out HB.out)))
   (case aB => exact (bE HB.out))
   (case aF => exact (fun _ _ => trivial))
   (case aO => exact (rQ HO449.out))
   (case aS => exact (bZ HB.out))
   (case aL => have := LMc12.out; have hlx_ := (show (l0.drop ((ji9) : Int).toNat).length = (l0.length - (ji9).toNat) from List.length_drop); omega)
   intro v452 w17 ho hb hg hat
   rw [← Ny451.out] at ho
   have n0_ := aM (hb)
   have n1_ := aM (ho)
   clear HB
   clear HO449
   have HB := n0_
   have HO453 := n1_
   clear n0_ n1_
   clear ho hb hg hat
   refine hK.out _ _ trivial (fun hHeld => ?_)
   clear hK K
   refine norm_ (a' := ?_) ?_ ?_
   rotate_left
   ·
    show Act.put _ (some 23) _ = _
    simp only [Act.put, List.setIfInBounds_toArray, List.set_cons_zero, List.set_cons_succ, i64_w, i32_w]
    rfl
   refine pure_ (i := 9) (N := some 4) (v := ?_) (a' := ?_) (bm 11 1023) rfl rfl (any_of HT_.out (by kernel_rfl)) (fun _ _ _ h => h) (Or.inl ⟨by rfl, ?_⟩) ?_ ?_
   rotate_left
   ·
    intro w'
    go_simp
    with_reducible rfl
   rotate_left
   ·
    simp only [Act.put, List.setIfInBounds_toArray, List.set_cons_zero, List.set_cons_succ, i64_w, i32_w]
    rfl
   refine pure_ (i := 10) (N := some 5) (v := ?_) (a' := ?_) (bm 11 2047) rfl rfl (any_of HT_.out (by kernel_rfl)) (fun _ _ _ h => h) (Or.inl ⟨by rfl, ?_⟩) ?_ ?_
   rotate_left
   ·
    intro w'
    go_simp
    with_reducible rfl
   rotate_left
   ·
    simp only [Act.put, List.setIfInBounds_toArray, List.set_cons_zero, List.set_cons_succ, i64_w, i32_w]
    rfl
   refine done_ (done_of HT_.out (by kernel_rfl)) ?_
   try go_wp2
   go_ret2
   exact ⟨_, by first | rfl | (simp [errW_none, errW_some] <;> rfl) | (simp only [← hji9]; first | rfl | (simp [errW_none, errW_some] <;> rfl)) | (simp [*, errW_none, errW_some] <;> rfl), rQ HO453.out, bE HB.out⟩
 ·
  replace c4 := Bool.eq_false_iff.mpr c4
  subst c4
  have H1 : (some (([] : List Int), false)) = some (r1, r2) := by rw [if_neg (show ¬ (false = true) by decide)] at H; exact H
  clear H
  have H := H1
  clear H1
  simp only [Option.some.injEq, Prod.mk.injEq] at H
  obtain ⟨rfl, rfl⟩ := H
  go_enter Tryz.func35, Tryz.ntmps35
  go_wp2_with (first | ((with_reducible refine gate_callee (f := 50) rfl ?_); refine gL 8 Tryz.func50 #[.slice A0 l0.length c0, .int .i64 a1] rfl rfl rfl rfl ?_; (with_reducible refine (spec_agWho.calls k _ _ l0 a1 false _ ?side1 ?side2 A3.out).mono ?_); (case side1 => exact cQ HR0.out); (case side2 => exact HC0.out); rintro e w' ⟨rfl, ⟨nd, rfl⟩⟩; refine ⟨_, rfl, ?_⟩))
  go_ret2
  exact ⟨_, erQ, by first | exact Kd.R_nil _ _ _ _ _ | exact Kd.N_nil _ _ _ _ _ | exact Kd.V_nil _ _ _ _ _ | exact Kd.Q_nil _ _ _ _ _ | exact Kd.S_nil _ _ _ _ _, bE HB.out⟩

/-! ### spec_DrawAddAge: function 36 -/
def spec_DrawAddAge.f (k : Nat) (l0 : List Int) : Option (List Int × Int) := (spec_l1Cur_ages.f k l0 0 0).bind fun bt455 => ((spec_l1Cur_among.f l0 bt455.2.1 bt455.2.2 (([0, 5, 33, 120, 121, (-1)] : List Int))).bind fun bt463 => (some (bt455.1, bt463.1)))
theorem spec_DrawAddAge.mono : ∀ a0 k, LeO (spec_DrawAddAge.f k a0) (spec_DrawAddAge.f (k + 1) a0) := by
 intro a0 k
 unfold spec_DrawAddAge.f
 repeat' first
   | (with_reducible exact spec_l1Cur_ages.mono _ _ _ _)
   | (with_reducible exact LeO.refl _)
   | (with_reducible exact LeO.none _)
   | (with_reducible refine LeO.ite ?_ ?_)
   | (with_reducible refine LeO.bind ?_ (fun _ => ?_))
set_option maxHeartbeats 8000000 in
set_option maxRecDepth 100000 in
theorem spec_DrawAddAge.calls (k : Nat) (A0 : Option Addr) (c0 : Nat) (l0 : List Int) (r1 : List Int) (r2 : Int) (w : World) (hr0 : Kd.C (Kd.int .u8) w A0 l0.length l0) (hc0 : l0.length ≤ c0) (h : spec_DrawAddAge.f k l0 = some (r1, r2)) :
  Calls Tryz.prog 36 #[.slice A0 l0.length c0] w fun e w' => ∃ v0_ : Value, e = .returned (.tuple #[v0_, .int .i64 r2]) ∧ Kd.R (Kd.int .i64) 3 w' w.heap.size (fun _ => True) v0_ r1 ∧ Below w.heap.size w w' := by
 have hu69 := Tryz.underlying69
 have HR0 := aM hr0
 have HC0 := aM hc0
 clear hr0 hc0
 have HB := aM (Below.refl w.heap.size w)
 have H : ((spec_l1Cur_ages.f k l0 0 0).bind fun bt455 => ((spec_l1Cur_among.f l0 bt455.2.1 bt455.2.2 (([0, 5, 33, 120, 121, (-1)] : List Int))).bind fun bt463 => (some (bt455.1, bt463.1)))) = some (r1, r2) := h
 clear h
 replace H := oB H
 obtain ⟨⟨t455, t458, t459⟩, A20, H⟩ := H
 (try dsimp only at H)
 have A2 := aM A20
 clear A20
 obtain ⟨y460, hy460⟩ : ∃ y_ : List Int, y_ = (([0, 5, 33, 120, 121, (-1)] : List Int)) := ⟨_, rfl⟩
 replace H : ((spec_l1Cur_among.f l0 t458 t459 y460).bind fun bt463 => (some (t455, bt463.1))) = some (r1, r2) := by first | (rw [hy460]; with_reducible exact H) | (have H2_ := (Option.bind_some _ _).symm.trans H; rw [hy460]; with_reducible exact H2_) | (have H2_ := (Option.bind_some _ _).symm.trans H; with_reducible exact H2_) | with_reducible exact H | (rw [hy460]; exact H) | exact H
 have Ny460 := aM hy460
 clear hy460
 replace H := oB H
 obtain ⟨⟨t463, t464, t465⟩, A30, H⟩ := H
 (try dsimp only at H)
 have A3 := aM A30
 clear A30
 simp only [Option.some.injEq, Prod.mk.injEq] at H
 obtain ⟨rfl, rfl⟩ := H
 go_enter Tryz.func36, Tryz.ntmps36
 go_wp2_with (first | ((with_reducible refine gate_dst (N := 8) rfl ?_); refine box_event ?hg (N := 8) ?hd (cs := #[.slice A0 l0.length c0, .int .i64 0, .int .u64 0]) (t := 69) ?hr ?_; (case hd => rfl); (case hg => rfl); (case hr => first | (go_simp; done) | (go_simp; rfl)); intro gb454 hg w4 hbox hb; have HI454 := aM ((⟨_, _, hbox, (by rw [hg]; exact (bZ HB.out) : w.heap.size ≤ gb454), HR0.out⟩ : IsS69 w w4 gb454 l0 0 0)); replace HB := aM (bS HB.out hb); clear hb hbox hg) | ((with_reducible refine gate_callee (f := 66) rfl ?_); refine gL 10 Tryz.func66 #[.pointer (some ⟨gb454, 0, none⟩)] rfl rfl rfl rfl ?_; (with_reducible refine (spec_l1Cur_ages.calls k gb454 l0 0 0 t455 t458 t459 w _ ?side1 ?side2 A2.out).mono ?_); (case side1 => exact iQ HI454.out); (case side2 => exact bI HI454.out HB.out); rintro e w5 ⟨v456, rfl, ho0, hi, hb, hk⟩; refine ⟨_, rfl, ?_⟩; have HO457 := aM (Kd.R_lower ho0 (below_size (bI HI454.out HB.out))); replace HB := aM (hb); replace HI454 := aM (hi); (try clear hb hk hi ho0)) | ((with_reducible refine gate_dst (N := 13) rfl ?_); refine Kd.R_lit (Kd.int .i64) _ 3 ?hg (N := 13) ?hd (xs := ([0, 5, 33, 120, 121, (-1)] : List Int)) (inner := [.int .i64 0, .int .i64 5, .int .i64 33, .int .i64 120, .int .i64 121, .int .i64 (-1)]) (ok := fun _ => True) (okp := fun _ => True) ?hr ?hp (fun _ hk => hk) trivial (Below.refl _ _) (Nat.le_refl _) (by simp) ?_; (case hd => rfl); (case hg => rfl); (case hr => first | (go_simp; done) | (go_simp; rfl)); (case hp => exact (Reps.one (show Kd.M (Kd.int .i64) _ _ _ 0 [.int .i64 0] from rfl) (Reps.one (show Kd.M (Kd.int .i64) _ _ _ 5 [.int .i64 5] from rfl) (Reps.one (show Kd.M (Kd.int .i64) _ _ _ 33 [.int .i64 33] from rfl) (Reps.one (show Kd.M (Kd.int .i64) _ _ _ 120 [.int .i64 120] from rfl) (Reps.one (show Kd.M (Kd.int .i64) _ _ _ 121 [.int .i64 121] from rfl) (Reps.one (show Kd.M (Kd.int .i64) _ _ _ (-1) [.int .i64 (-1)] from rfl) (Reps.none _ _)))))))); intro v461 w6 ho7 hb hg_ hnew_; clear hg_ hnew_; (first | rw [← Ny460.out] at ho7 | (simp only [Int.reduceToNat] at ho7; rw [← Ny460.out] at ho7)); have HO462 := aM (Kd.R_lower (Kd.R_new' ho7 (Kd.R_lt (rQ HO457.out))) (below_size (bI HI454.out HB.out))); replace HO457 := aM (Kd.R_elder' (rQ HO457.out) (Kd.R_base ho7) hb); replace HB := aM (below_step (bI HI454.out HB.out) hb); replace HI454 := aM (IsS69.below (iQ HI454.out) hb); clear hb ho7; obtain ⟨Ao8, co8, eo8⟩ := Kd.R_slice HO462.out; subst eo8) | ((with_reducible refine gate_callee (f := 65) rfl ?_); refine gL 14 Tryz.func65 #[.pointer (some ⟨gb454, 0, none⟩), .slice Ao8 y460.length co8] rfl rfl rfl rfl ?_; (with_reducible refine (spec_l1Cur_among.calls gb454 l0 t458 t459 _ _ y460 t463 t464 t465 w _ ?side1 ?side2 ?side3 ?side4 ?side5 A3.out).mono ?_); (case side1 => exact iQ HI454.out); (case side2 => exact bI HI454.out HB.out); (case side3 => exact cQ ((Kd.R_reads' HO462.out).2.2)); (case side4 => exact (Kd.R_reads' HO462.out).2.1); (case side5 => exact far_slice (IsS69.own_ne HI454.out HO462.out (by decide))); rintro e w9 ⟨rfl, hi, hb, hk⟩; refine ⟨_, rfl, ?_⟩; replace HO457 := aM (Kd.R_mono (Kd.R_keep (IsS69.apart (show IsS69 w _ gb454 l0 t458 t459 from iQ HI454.out) (rQ HO457.out) (by decide)) hk (fun _ h => h.2)) (fun _ h => h.1)); replace HO462 := aM (Kd.R_mono (Kd.R_keep (IsS69.apart (show IsS69 w _ gb454 l0 t458 t459 from iQ HI454.out) (rQ HO462.out) (by decide)) hk (fun _ h => h.2)) (fun _ h => h.1)); replace HB := aM (hb); replace HI454 := aM (hi); (try clear hb hk hi)))
 go_ret2
 exact ⟨_, erQ, by (with_reducible repeat (first | apply Kd.R_alloc | apply Kd.R_drewN | apply Kd.R_drew)); exact Kd.R_mono HO457.out (fun _ hk => trivial), bI HI454.out HB.out⟩

/-! ### impl_AddAge: function 37 -/
def impl_AddAge.f (l0 : List Int) (a1 : Int) : Option (List Int × Bool) := (impl_AreAges.f l0).bind fun t466 => (if t466 = true then ((slices_Clone_int_int.f l0).bind fun t467 => (if t467.length < 17592186044416 then ((impl_agesOr.f (t467 ++ [a1])).bind fun bt473 => (some (bt473.1, bt473.2))) else (none))) else (some (([] : List Int), false)))
set_option maxHeartbeats 8000000 in
set_option maxRecDepth 100000 in
theorem impl_AddAge.calls (A0 : Option Addr) (c0 : Nat) (l0 : List Int) (a1 : Int) (r1 : List Int) (r2 : Bool) (w : World) (hr0 : Kd.C (Kd.int .i64) w A0 l0.length l0) (hc0 : l0.length ≤ c0) (h : impl_AddAge.f l0 a1 = some (r1, r2)) :
  Calls Tryz.prog 37 #[.slice A0 l0.length c0, .int .i64 a1] w fun e w' => ∃ v0_ : Value, e = .returned (.tuple #[v0_, .bool r2]) ∧ Kd.R (Kd.int .i64) 3 w' w.heap.size (fun _ => True) v0_ r1 ∧ Below w.heap.size w w' := by
 have HR0 := aM hr0
 have HC0 := aM hc0
 clear hr0 hc0
 have HB := aM (Below.refl w.heap.size w)
 have H : ((impl_AreAges.f l0).bind fun t466 => (if t466 = true then ((slices_Clone_int_int.f l0).bind fun t467 => (if t467.length < 17592186044416 then ((impl_agesOr.f (t467 ++ [a1])).bind fun bt473 => (some (bt473.1, bt473.2))) else (none))) else (some (([] : List Int), false)))) = some (r1, r2) := h
 clear h
 replace H := oB H
 obtain ⟨t466, A30, H⟩ := H
 (try dsimp only at H)
 have A3 := aM A30
 clear A30
 by_cases c4 : t466 = true
 ·
  subst c4
  replace H := (if_pos rfl).symm.trans H
  replace H := oB H
  obtain ⟨t467, A50, H⟩ := H
  (try dsimp only at H)
  have A5 := aM A50
  clear A50
  by_cases c6 : t467.length < 17592186044416
  case neg =>
   rw [if_neg c6] at H
   exact nS H
  rw [if_pos c6] at H
  have LMc6 := aM c6
  clear c6
  obtain ⟨y470, hy470⟩ : ∃ y_ : List Int, y_ = (t467 ++ [a1]) := ⟨_, rfl⟩
  replace H : ((impl_agesOr.f y470).bind fun bt473 => (some (bt473.1, bt473.2))) = some (r1, r2) := by first | (rw [hy470]; with_reducible exact H) | (have H2_ := (Option.bind_some _ _).symm.trans H; rw [hy470]; with_reducible exact H2_) | (have H2_ := (Option.bind_some _ _).symm.trans H; with_reducible exact H2_) | with_reducible exact H | (rw [hy470]; exact H) | exact H
  have Ny470 := aM hy470
  clear hy470
  replace H := oB H
  obtain ⟨⟨t473, t476⟩, A70, H⟩ := H
  (try dsimp only at H)
  have A7 := aM A70
  clear A70
  simp only [Option.some.injEq, Prod.mk.injEq] at H
  obtain ⟨rfl, rfl⟩ := H
  go_enter Tryz.func37, Tryz.ntmps37
  go_wp2_with (first | ((with_reducible refine gate_callee (f := 47) rfl ?_); refine gL 7 Tryz.func47 #[.slice A0 l0.length c0] rfl rfl rfl rfl ?_; (with_reducible refine (impl_AreAges.calls _ _ l0 true _ ?side1 ?side2 A3.out).mono ?_); (case side1 => exact cQ HR0.out); (case side2 => exact HC0.out); rintro e w8 ⟨rfl, hb⟩; refine ⟨_, rfl, ?_⟩; replace HB := aM (bS HB.out hb); (try clear hb)) | ((with_reducible refine gate_callee (f := 72) rfl ?_); refine gL 10 Tryz.func72 #[.slice A0 l0.length c0] rfl rfl rfl rfl ?_; (with_reducible refine (slices_Clone_int_int.calls _ _ l0 t467 _ ?side1 ?side2 A5.out).mono ?_); (case side1 => exact cQ (Kd.C_below HR0.out HB.out)); (case side2 => exact HC0.out); rintro e w9 ⟨v468, rfl, ho0, hb⟩; refine ⟨_, rfl, ?_⟩; have HO469 := aM (Kd.R_lower ho0 (bZ HB.out)); replace HB := aM (bS HB.out hb); (try clear hb ho0)) | ((with_reducible refine gate_builtin (b := .append) (xs := #[.tmp 10, .tmp 12]) rfl ?_); at_builtin; refine Kd.R_append (Kd.int .i64) (w0 := w) w.heap.size rfl (.tmp 10) (.tmp 12) 24 3 (.int .i64 0) 8 rfl Tryz.underlying24 info3 rfl (by decide) (by omega) v468 t467 a1 [.int .i64 a1] (fun _ => True) (fun _ => False) rfl rfl ?aP (fun _ hk => hk.elim) ?aF ?aO ?aB ?aS ?aL ?_; (case aP => exact rfl); (case aB => exact (bE HB.out)); (case aF => exact (fun _ _ => trivial)); (case aO => exact (rQ HO469.out)); (case aS => exact (bZ HB.out)); (case aL => have := LMc6.out; omega); intro v471 w10 ho hb hg hat; rw [← Ny470.out] at ho; replace HB := aM (hb); have HO472 := aM (ho); clear HO469; clear ho hb hg hat; obtain ⟨Ao11, co11, eo11⟩ := Kd.R_slice HO472.out; subst eo11) | ((with_reducible refine gate_callee (f := 64) rfl ?_); refine gL 14 Tryz.func64 #[.slice Ao11 y470.length co11] rfl rfl rfl rfl ?_; (with_reducible refine (impl_agesOr.calls (fun k_ => some k_ = (.slice Ao11 y470.length co11 : Value).ownBlock) (.slice Ao11 y470.length co11) y470 t473 t476 w _ ?side1 ?side2 A7.out).mono ?_); (case side1 => repeat (first | (with_reducible first | exact HB.out | apply below_alloc | apply pw_below_drewN | apply below_drew1) | exact HB.out)); (case side2 => exact Kd.R_tight rfl HO472.out); rintro e w12 ⟨v474, rfl, ho0, hb, hkp⟩; refine ⟨_, rfl, ?_⟩; have HO475 := aM (Kd.R_mono (ok' := fun k_ => True) ho0 (fun k_ hk_ => trivial)); replace HB := aM (hb); clear HO472; (try clear hb); (try clear hkp); (try clear ho0)))
  go_ret2
  exact ⟨_, erQ, rQ HO475.out, bE HB.out⟩
 ·
  replace c4 := Bool.eq_false_iff.mpr c4
  subst c4
  have H1 : (some (([] : List Int), false)) = some (r1, r2) := by rw [if_neg (show ¬ (false = true) by decide)] at H; exact H
  clear H
  have H := H1
  clear H1
  simp only [Option.some.injEq, Prod.mk.injEq] at H
  obtain ⟨rfl, rfl⟩ := H
  go_enter Tryz.func37, Tryz.ntmps37
  go_wp2_with (first | ((with_reducible refine gate_callee (f := 47) rfl ?_); refine gL 7 Tryz.func47 #[.slice A0 l0.length c0] rfl rfl rfl rfl ?_; (with_reducible refine (impl_AreAges.calls _ _ l0 false _ ?side1 ?side2 A3.out).mono ?_); (case side1 => exact cQ HR0.out); (case side2 => exact HC0.out); rintro e w13 ⟨rfl, hb⟩; refine ⟨_, rfl, ?_⟩; replace HB := aM (bS HB.out hb); (try clear hb)))
  go_ret2
  exact ⟨_, erQ, by first | exact Kd.R_nil _ _ _ _ _ | exact Kd.N_nil _ _ _ _ _ | exact Kd.V_nil _ _ _ _ _ | exact Kd.Q_nil _ _ _ _ _ | exact Kd.S_nil _ _ _ _ _, bE HB.out⟩

/-! ### spec_AddAge: function 38 -/
def spec_AddAge.f (k : Nat) (l0 : List Int) (a1 : Int) : Option (List Int × Bool) := (spec_agGood.f k l0).bind fun t477 => (if t477 = true then ((spec_l1In.f a1 0 120).bind fun t478 => (if t478 = true then (if (l0.length : Int) = 8 then (some (([] : List Int), false)) else ((spec_l1Own.f l0).bind fun t479 => (if t479.length < 17592186044416 then (some ((t479 ++ [a1]), true)) else (none)))) else (some (([] : List Int), false)))) else (some (([] : List Int), false)))
theorem spec_AddAge.mono : ∀ a0 a1 k, LeO (spec_AddAge.f k a0 a1) (spec_AddAge.f (k + 1) a0 a1) := by
 intro a0 a1 k
 unfold spec_AddAge.f
 repeat' first
   | (with_reducible exact spec_agGood.mono _ _)
   | (with_reducible exact LeO.refl _)
   | (with_reducible exact LeO.none _)
   | (with_reducible refine LeO.ite ?_ ?_)
   | (with_reducible refine LeO.bind ?_ (fun _ => ?_))
set_option maxHeartbeats 8000000 in
set_option maxRecDepth 100000 in
theorem spec_AddAge.calls (k : Nat) (A0 : Option Addr) (c0 : Nat) (l0 : List Int) (a1 : Int) (r1 : List Int) (r2 : Bool) (w : World) (hr0 : Kd.C (Kd.int .i64) w A0 l0.length l0) (hc0 : l0.length ≤ c0) (h : spec_AddAge.f k l0 a1 = some (r1, r2)) :
  Calls Tryz.prog 38 #[.slice A0 l0.length c0, .int .i64 a1] w fun e w' => ∃ v0_ : Value, e = .returned (.tuple #[v0_, .bool r2]) ∧ Kd.R (Kd.int .i64) 3 w' w.heap.size (fun _ => True) v0_ r1 ∧ Below w.heap.size w w' := by
 have HR0 := aM hr0
 have HC0 := aM hc0
 clear hr0 hc0
 have HB := aM (Below.refl w.heap.size w)
 have H : ((spec_agGood.f k l0).bind fun t477 => (if t477 = true then ((spec_l1In.f a1 0 120).bind fun t478 => (if t478 = true then (if (l0.length : Int) = 8 then (some (([] : List Int), false)) else ((spec_l1Own.f l0).bind fun t479 => (if t479.length < 17592186044416 then (some ((t479 ++ [a1]), true)) else (none)))) else (some (([] : List Int), false)))) else (some (([] : List Int), false)))) = some (r1, r2) := h
 clear h
 replace H := oB H
 obtain ⟨t477, A30, H⟩ := H
 (try dsimp only at H)
 have A3 := aM A30
 clear A30
 by_cases c4 : t477 = true
 ·
  subst c4
  replace H := (if_pos rfl).symm.trans H
  replace H := oB H
  obtain ⟨t478, A50, H⟩ := H
  (try dsimp only at H)
  have A5 := aM A50
  clear A50
  by_cases c6 : t478 = true
  ·
   subst c6
   replace H := (if_pos rfl).symm.trans H
   by_cases c7 : (l0.length : Int) = 8
   ·
    rw [if_pos c7] at H
    have c7b0 : ((l0.length : Int) == 8) = true := beq_iff_eq.mpr c7
    have c7b1 : ((l0.length : Int) != 8) = false := bne_eq_false_iff_eq.mpr c7
    clear c7
    simp only [Option.some.injEq, Prod.mk.injEq] at H
    obtain ⟨rfl, rfl⟩ := H
    go_enter Tryz.func38, Tryz.ntmps38
    go_wp2_with (first | ((with_reducible refine gate_callee (f := 53) rfl ?_); refine gL 7 Tryz.func53 #[.slice A0 l0.length c0] rfl rfl rfl rfl ?_; (with_reducible refine (spec_agGood.calls k _ _ l0 true _ ?side1 ?side2 A3.out).mono ?_); (case side1 => exact cQ HR0.out); (case side2 => exact HC0.out); rintro e w' ⟨rfl, ⟨nd, rfl⟩⟩; refine ⟨_, rfl, ?_⟩) | (go_at_call 74; (with_reducible refine (spec_l1In.calls a1 0 120 true _ A5.out).mono ?_); rintro e w' ⟨rfl, ⟨nd, rfl⟩⟩))
    go_ret2
    exact ⟨_, erQ, by first | exact Kd.R_nil _ _ _ _ _ | exact Kd.N_nil _ _ _ _ _ | exact Kd.V_nil _ _ _ _ _ | exact Kd.Q_nil _ _ _ _ _ | exact Kd.S_nil _ _ _ _ _, bE HB.out⟩
   ·
    rw [if_neg c7] at H
    have c7b0 : ((l0.length : Int) == 8) = false := beq_eq_false_iff_ne.mpr c7
    have c7b1 : ((l0.length : Int) != 8) = true := bne_iff_ne.mpr c7
    replace H := oB H
    obtain ⟨t479, A80, H⟩ := H
    (try dsimp only at H)
    have A8 := aM A80
    clear A80
    by_cases c9 : t479.length < 17592186044416
    case neg =>
     rw [if_neg c9] at H
     exact nS H
    rw [if_pos c9] at H
    have LMc9 := aM c9
    clear c9
    obtain ⟨y482, hy482⟩ : ∃ y_ : List Int, y_ = (t479 ++ [a1]) := ⟨_, rfl⟩
    replace H : (some (y482, true)) = some (r1, r2) := by first | (rw [hy482]; with_reducible exact H) | (have H2_ := (Option.bind_some _ _).symm.trans H; rw [hy482]; with_reducible exact H2_) | (have H2_ := (Option.bind_some _ _).symm.trans H; with_reducible exact H2_) | with_reducible exact H | (rw [hy482]; exact H) | exact H
    have Ny482 := aM hy482
    clear hy482
    simp only [Option.some.injEq, Prod.mk.injEq] at H
    obtain ⟨rfl, rfl⟩ := H
    go_enter Tryz.func38, Tryz.ntmps38
    go_wp2_with (first | ((with_reducible refine gate_callee (f := 53) rfl ?_); refine gL 7 Tryz.func53 #[.slice A0 l0.length c0] rfl rfl rfl rfl ?_; (with_reducible refine (spec_agGood.calls k _ _ l0 true _ ?side1 ?side2 A3.out).mono ?_); (case side1 => exact cQ HR0.out); (case side2 => exact HC0.out); rintro e w' ⟨rfl, ⟨nd, rfl⟩⟩; refine ⟨_, rfl, ?_⟩) | (go_at_call 74; (with_reducible refine (spec_l1In.calls a1 0 120 true _ A5.out).mono ?_); rintro e w' ⟨rfl, ⟨nd, rfl⟩⟩) | ((with_reducible refine gate_callee (f := 73) rfl ?_); refine gL 20 Tryz.func73 #[.slice A0 l0.length c0] rfl rfl rfl rfl ?_; (with_reducible refine (spec_l1Own.calls _ _ l0 t479 _ ?side1 ?side2 A8.out).mono ?_); (case side1 => exact cQ HR0.out); (case side2 => exact HC0.out); rintro e w10 ⟨v480, rfl, ho0, hb⟩; refine ⟨_, rfl, ?_⟩; have HO481 := aM (Kd.R_lower ho0 (bZ HB.out)); replace HB := aM (bS HB.out hb); (try clear hb ho0)) | ((with_reducible refine gate_builtin (b := .append) (xs := #[.tmp 20, .tmp 22]) rfl ?_); (try (refine gate_guard (by rfl) ?_; dsimp only)); at_builtin; refine Kd.R_append (Kd.int .i64) (w0 := w) w.heap.size rfl (.tmp 20) (.tmp 22) 24 3 (.int .i64 0) 8 rfl Tryz.underlying24 info3 rfl (by decide) (by omega) v480 t479 a1 [.int .i64 a1] (fun _ => True) (fun _ => False) rfl rfl ?aP (fun _ hk => hk.elim) ?aF ?aO ?aB ?aS ?aL ?_; (case aP => exact rfl); (case aB => exact (bE HB.out)); (case aF => exact (fun _ _ => trivial)); (case aO => exact (rQ HO481.out)); (case aS => exact (bZ HB.out)); (case aL => have := LMc9.out; omega); intro v483 w11 ho hb hg hat; rw [← Ny482.out] at ho; replace HB := aM (hb); have HO484 := aM (ho); clear HO481; clear ho hb hg hat))
    go_ret2
    exact ⟨_, erQ, rQ HO484.out, bE HB.out⟩
  ·
   replace c6 := Bool.eq_false_iff.mpr c6
   subst c6
   have H1 : (some (([] : List Int), false)) = some (r1, r2) := by rw [if_neg (show ¬ (false = true) by decide)] at H; exact H
   clear H
   have H := H1
   clear H1
   simp only [Option.some.injEq, Prod.mk.injEq] at H
   obtain ⟨rfl, rfl⟩ := H
   go_enter Tryz.func38, Tryz.ntmps38
   go_wp2_with (first | ((with_reducible refine gate_callee (f := 53) rfl ?_); refine gL 7 Tryz.func53 #[.slice A0 l0.length c0] rfl rfl rfl rfl ?_; (with_reducible refine (spec_agGood.calls k _ _ l0 true _ ?side1 ?side2 A3.out).mono ?_); (case side1 => exact cQ HR0.out); (case side2 => exact HC0.out); rintro e w' ⟨rfl, ⟨nd, rfl⟩⟩; refine ⟨_, rfl, ?_⟩) | (go_at_call 74; (with_reducible refine (spec_l1In.calls a1 0 120 false _ A5.out).mono ?_); rintro e w' ⟨rfl, ⟨nd, rfl⟩⟩))
   go_ret2
   exact ⟨_, erQ, by first | exact Kd.R_nil _ _ _ _ _ | exact Kd.N_nil _ _ _ _ _ | exact Kd.V_nil _ _ _ _ _ | exact Kd.Q_nil _ _ _ _ _ | exact Kd.S_nil _ _ _ _ _, bE HB.out⟩
 ·
  replace c4 := Bool.eq_false_iff.mpr c4
  subst c4
  have H1 : (some (([] : List Int), false)) = some (r1, r2) := by rw [if_neg (show ¬ (false = true) by decide)] at H; exact H
  clear H
  have H := H1
  clear H1
  simp only [Option.some.injEq, Prod.mk.injEq] at H
  obtain ⟨rfl, rfl⟩ := H
  go_enter Tryz.func38, Tryz.ntmps38
  go_wp2_with (first | ((with_reducible refine gate_callee (f := 53) rfl ?_); refine gL 7 Tryz.func53 #[.slice A0 l0.length c0] rfl rfl rfl rfl ?_; (with_reducible refine (spec_agGood.calls k _ _ l0 false _ ?side1 ?side2 A3.out).mono ?_); (case side1 => exact cQ HR0.out); (case side2 => exact HC0.out); rintro e w' ⟨rfl, ⟨nd, rfl⟩⟩; refine ⟨_, rfl, ?_⟩))
  go_ret2
  exact ⟨_, erQ, by first | exact Kd.R_nil _ _ _ _ _ | exact Kd.N_nil _ _ _ _ _ | exact Kd.V_nil _ _ _ _ _ | exact Kd.Q_nil _ _ _ _ _ | exact Kd.S_nil _ _ _ _ _, bE HB.out⟩

/-! ### spec_l1Cur_one: function 76 -/
def spec_l1Cur_one.f (s0_0 : List Int) (s0_1 : Int) (s0_2 : Int) (a1 : Int) : Option (Bool × Int × Int) := (spec_l1Cur_pick.f s0_0 s0_1 s0_2 a1).bind fun bt485 => (some ((bt485.1 == 0), bt485.2.1, bt485.2.2))
set_option maxHeartbeats 8000000 in
set_option maxRecDepth 100000 in
theorem spec_l1Cur_one.calls (g : Nat) (s0_0 : List Int) (s0_1 : Int) (s0_2 : Int) (a1 : Int) (r1 : Bool) (r2 : Int) (r3 : Int) (w0 w : World) (hI : IsS69 w0 w g s0_0 s0_1 s0_2) (hB : Below w0.heap.size w0 w) (h : spec_l1Cur_one.f s0_0 s0_1 s0_2 a1 = some (r1, r2, r3)) :
  Calls Tryz.prog 76 #[.pointer (some ⟨g, 0, none⟩), .int .i64 a1] w fun e w' => e = .returned (.bool r1) ∧ IsS69 w0 w' g s0_0 r2 r3 ∧ Below w0.heap.size w0 w' ∧ KeepBut w w' g none := by
 have HI0 := aM hI
 have HK := aM (KeepBut.refl w g none)
 have HL := aM hB.size
 clear hI
 have HW0 := aM hB.size
 have HB := aM hB
 clear hB
 have H : ((spec_l1Cur_pick.f s0_0 s0_1 s0_2 a1).bind fun bt485 => (some ((bt485.1 == 0), bt485.2.1, bt485.2.2))) = some (r1, r2, r3) := h
 clear h
 replace H := oB H
 obtain ⟨⟨t485, t486, t487⟩, A30, H⟩ := H
 (try dsimp only at H)
 have A3 := aM A30
 clear A30
 simp only [Option.some.injEq, Prod.mk.injEq] at H
 obtain ⟨rfl, rfl, rfl⟩ := H
 go_enter Tryz.func76, Tryz.ntmps76
 go_wp2_with (first | ((with_reducible refine gate_callee (f := 91) rfl ?_); refine gL 7 Tryz.func91 #[.pointer (some ⟨g, 0, none⟩), .int .i64 a1] rfl rfl rfl rfl ?_; (with_reducible refine (spec_l1Cur_pick.calls g s0_0 s0_1 s0_2 a1 t485 t486 t487 w0 _ ?side1 ?side2 A3.out).mono ?_); (case side1 => exact iQ HI0.out); (case side2 => exact bI HI0.out HB.out); rintro e w4 ⟨rfl, hi, hb, hk⟩; refine ⟨_, rfl, ?_⟩; replace HK := aM (KeepBut.trans (kQ HK.out) hk (.inl rfl)); replace HB := aM (hb); replace HI0 := aM (hi); (try clear hb hk hi)))
 go_ret
 exact ⟨erQ, iQ HI0.out, bI HI0.out HB.out, kQ HK.out⟩

end Go.Proofs.YtcfgkpifloghlaaGreatDoor.P
