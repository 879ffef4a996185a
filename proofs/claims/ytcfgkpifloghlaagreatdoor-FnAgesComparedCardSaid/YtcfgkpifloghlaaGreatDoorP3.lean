-- Written by drive.py (wip/ of this repository) over the kit's print: functions, contracts, rows. Lean checks it. -- SQUEEZED
import Derived.Test.YtcfgkpifloghlaaGreatDoorP0
import Derived.Test.YtcfgkpifloghlaaGreatDoorP2
namespace Go.Proofs.YtcfgkpifloghlaaGreatDoor.P
open Go.RowKit Go.Proofs.YtcfgkpifloghlaaGreatDoorW.PrintWords Go.Proofs.YtcfgkpifloghlaaGreatDoorW.PrintLast Go.Proofs.YtcfgkpifloghlaaGreatDoorW.PrintMore
attribute [local go_sem] max2_int min2_int max_two min_two max_three min_three max_four min_four undef_guard   -- for this text's walks alone
set_option linter.unusedVariables false
set_option linter.unusedSimpArgs false

/-! ### impl_AllMultiples_1: function 44 -/
def impl_AllMultiples_1.step (l : List Int) (a b : Int) (k : Nat) (m : List Int) (s : List (List Int)) : Option (List (List Int)) := if 0 ≤ b then (if b < (m.length : Int) then (if rd m b ≥ 1 then (if 0 ≤ a then (if a < (m.length : Int) then (if Int.tmod (rd m a) (rd m b) = 0 then (if wrap64 (Int.tdiv (rd m a) (rd m b)) ≥ 2 then (if a < (l.length : Int) then (if s.length < 5864062014805 then some (s ++ [[wrap64 (rd m a - rd l a), wrap64 (Int.tdiv (rd m a) (rd m b))]]) else none) else none) else some s) else some s) else none) else none) else some s) else none) else none
/-- What holds of the four boxes: the ages', a's, b's, and the result's. -/
def impl_AllMultiples_1.Inv (l : List Int) (a b : Int) (Al : Option Addr) (cl bg ba bb bo base : Nat) (W : World) (s : List (List Int)) : Prop :=
 W.heap[bg]? = some (.cells #[.slice Al l.length cl] 24 (0, 0)) ∧ W.heap[ba]? = some (.cells #[.int .i64 a] 3 (0, 0)) ∧ W.heap[bb]? = some (.cells #[.int .i64 b] 3 (0, 0)) ∧ ∃ v, W.heap[bo]? = some (.cells #[v] 27 (0, 0)) ∧ Kd.S (Kd.slice 3 (Kd.int .i64)) 24 W base (fun k => k ≠ bg) v s
theorem impl_AllMultiples_1.Inv_below {l : List Int} {a b : Int} {Al : Option Addr} {cl bg ba bb bo base : Nat} (W W' : World) (s : List (List Int)) (h : impl_AllMultiples_1.Inv l a b Al cl bg ba bb bo base W s) (hb : Below W.heap.size W W') : impl_AllMultiples_1.Inv l a b Al cl bg ba bb bo base W' s := by
 obtain ⟨h1, h2, h3, v, h4, h5⟩ := h
 exact ⟨blk_below h1 hb, blk_below h2 hb, blk_below h3 hb, v, blk_below h4 hb, Kd.S_below h5 hb⟩
set_option maxHeartbeats 8000000 in
set_option maxRecDepth 100000 in
theorem impl_AllMultiples_1.calls (l : List Int) (a b : Int) (Al : Option Addr) (cl bg ba bb bo : Nat) (w0 : World) (hl : Kd.C (Kd.int .i64) w0 Al l.length l) (hd1 : bg ≠ bo) (hd2 : ba ≠ bo) (hd3 : bb ≠ bo) (hbo : w0.heap.size ≤ bo) :
  ∀ (W : World) (A : Option Addr) (c : Nat) (m : List Int) (k : Nat) (s s' : List (List Int)), Below w0.heap.size w0 W → impl_AllMultiples_1.Inv l a b Al cl bg ba bb bo w0.heap.size W s → Kd.C (Kd.int .i64) W A m.length m → m.length ≤ c → impl_AllMultiples_1.step l a b k m s = some s' →
   Calls Tryz.prog 44 (#[.slice A m.length c] ++ #[.pointer (some ⟨bb, 0, none⟩), .pointer (some ⟨ba, 0, none⟩), .pointer (some ⟨bo, 0, none⟩), .pointer (some ⟨bg, 0, none⟩)]) W fun e w' => e = .returned (.bool false) ∧ impl_AllMultiples_1.Inv l a b Al cl bg ba bb bo w0.heap.size w' s' ∧ Below w0.heap.size w0 w' := by
 intro W A c m k s s' hB hI hC hc h
 have HI := aM hI
 have HIB := aM (@impl_AllMultiples_1.Inv_below l a b Al cl bg ba bb bo w0.heap.size)
 obtain ⟨hbg, hba, hbb, v, hbx, hS⟩ := hI
 have HB := aM hB
 have HL := aM (Kd.C_below hl hB)
 have HR0 := aM hC
 have HC0 := aM hc
 have HS := aM hS
 have BO := aM hbx
 have BB := aM hbb
 have BA := aM hba
 have BG := aM hbg
 have c0 : W.cell? ⟨bo, 0, none⟩ = some v := (blk_cell hbx 0).trans rfl
 have c1 : W.cell? ⟨ba, 0, none⟩ = some (.int .i64 a) := (blk_cell hba 0).trans rfl
 have c2 : W.cell? ⟨bb, 0, none⟩ = some (.int .i64 b) := (blk_cell hbb 0).trans rfl
 have c3 : W.cell? ⟨bg, 0, none⟩ = some (.slice Al l.length cl) := (blk_cell hbg 0).trans rfl
 clear hB hC hc hS hbx hbb hba hbg hl
 have DD := aM (And.intro hd1 (And.intro hd2 (And.intro hd3 hbo)))
 clear hd1 hd2 hd3 hbo
 show Calls Tryz.prog 44 #[.slice A m.length c, .pointer (some ⟨bb, 0, none⟩), .pointer (some ⟨ba, 0, none⟩), .pointer (some ⟨bo, 0, none⟩), .pointer (some ⟨bg, 0, none⟩)] W fun e w' => e = .returned (.bool false) ∧ impl_AllMultiples_1.Inv l a b Al cl bg ba bb bo w0.heap.size w' s' ∧ Below w0.heap.size w0 w'
 unfold impl_AllMultiples_1.step at h
 have q1a : 0 ≤ b := by
  by_cases q : 0 ≤ b
  case pos =>
   exact q
  rw [if_neg q] at h; cases h
 rw [if_pos q1a] at h
 have q1b : b < (m.length : Int) := by
  by_cases q : b < (m.length : Int)
  case pos =>
   exact q
  rw [if_neg q] at h; cases h
 rw [if_pos q1b] at h
 have p1 : 0 ≤ b := q1a
 have r1 : b < (m.length : Int) := q1b
 obtain ⟨adm, e1, hx1⟩ := Kd.at_int HR0.out b p1 r1
 cases e1
 replace p1 := eq_true p1
 replace r1 := eq_true r1
 by_cases g1 : rd m b ≥ 1
 ·
  rw [if_pos g1] at h
  have g1b : decide (1 ≤ rd m b) = true := decide_eq_true g1
  have q2a : 0 ≤ a := by
   by_cases q : 0 ≤ a
   case pos =>
    exact q
   rw [if_neg q] at h; cases h
  rw [if_pos q2a] at h
  have q2b : a < (m.length : Int) := by
   by_cases q : a < (m.length : Int)
   case pos =>
    exact q
   rw [if_neg q] at h; cases h
  rw [if_pos q2b] at h
  have p2 : 0 ≤ a := q2a
  have r2 : a < (m.length : Int) := q2b
  obtain ⟨ad2, e2, hx2⟩ := Kd.at_int HR0.out a p2 r2
  cases e2
  replace p2 := eq_true p2
  replace r2 := eq_true r2
  have z0 : ((rd m b) == 0) = false := by rw [beq_eq_false_iff_ne]; omega
  have zf : ¬ (rd m b = 0) := by omega
  by_cases g2 : Int.tmod (rd m a) (rd m b) = 0
  ·
   rw [if_pos g2] at h
   have g2b : (Int.tmod (rd m a) (rd m b) == 0) = true := beq_iff_eq.mpr g2
   by_cases g3 : wrap64 (Int.tdiv (rd m a) (rd m b)) ≥ 2
   ·
    rw [if_pos g3] at h
    have g3b : decide (2 ≤ wrap64 (Int.tdiv (rd m a) (rd m b))) = true := decide_eq_true g3
    have g3c : decide (2 ≤ IntKind.i64.wrap (Int.tdiv (rd m a) (rd m b))) = true := by simp only [i64_w]; exact g3b
    have q3 : a < (l.length : Int) := by
     by_cases q : a < (l.length : Int)
     case pos =>
      exact q
     rw [if_neg q] at h; cases h
    rw [if_pos q3] at h
    have q4 : s.length < 5864062014805 := by
     by_cases q : s.length < 5864062014805
     case pos =>
      exact q
     rw [if_neg q] at h; cases h
    rw [if_pos q4] at h
    have LM := aM q4
    have r3 : a < (l.length : Int) := q3
    obtain ⟨adl, e3, hx3⟩ := Kd.at_int HL.out a q2a r3
    subst e3
    replace r3 := eq_true r3
    obtain ⟨row, hrow⟩ : ∃ row : List Int, row = [wrap64 (rd m a - rd l a), wrap64 (Int.tdiv (rd m a) (rd m b))] := ⟨_, rfl⟩
    rw [← hrow] at h
    have HE := aM (Option.some.inj h)
    have HROW := aM hrow.symm
    clear g2 g3 h q1a q1b q2a q2b q3 q4 hrow
    go_enter Tryz.func44, Tryz.ntmps44
    go_wp2
    go_quiet (fail)
    try go_wp2
    have k0 : (W.drewN nq).drew.cell? ⟨bo, 0, none⟩ = some v := c0
    have k1 : (W.drewN nq).drew.cell? ⟨ba, 0, none⟩ = some (.int .i64 a) := c1
    have k2 : (W.drewN nq).drew.cell? ⟨bb, 0, none⟩ = some (.int .i64 b) := c2
    have k3 : (W.drewN nq).drew.cell? ⟨bg, 0, none⟩ = some (.slice (some adl) l.length cl) := c3
    have k4 : (W.drewN nq).drew.cell? (adl.add a.toNat) = some (.int .i64 (rd l a)) := hx3
    have k5 : (W.drewN nq).drew.cell? (adm.add a.toNat) = some (.int .i64 (rd m a)) := hx2
    have k6 : (W.drewN nq).drew.cell? (adm.add b.toNat) = some (.int .i64 (rd m b)) := hx1
    replace HS := aM (Kd.S_drew (Kd.S_drewN HS.out nq))
    replace HB := aM (show Below w0.heap.size w0 (W.drewN nq).drew by repeat (first | exact HB.out | apply pw_below_drewN | apply below_drew1))
    replace BO : Aside0 ((W.drewN nq).drew.heap[bo]? = some (.cells #[v] 27 (0, 0))) := ⟨BO.out⟩
    replace BB : Aside0 ((W.drewN nq).drew.heap[bb]? = some (.cells #[.int .i64 b] 3 (0, 0))) := ⟨BB.out⟩
    replace BA : Aside0 ((W.drewN nq).drew.heap[ba]? = some (.cells #[.int .i64 a] 3 (0, 0))) := ⟨BA.out⟩
    replace BG : Aside0 ((W.drewN nq).drew.heap[bg]? = some (.cells #[.slice (some adl) l.length cl] 24 (0, 0))) := ⟨BG.out⟩
    clear c0 c1 c2 c3 hx1 hx2 hx3 HI HL HR0
    refine start_ (n := 23) (S := fun w' => w'.cell? ⟨bo, 0, none⟩ = some (v) ∧ w'.cell? ⟨ba, 0, none⟩ = some (.int .i64 a) ∧ w'.cell? ⟨bb, 0, none⟩ = some (.int .i64 b) ∧ w'.cell? ⟨bg, 0, none⟩ = some (.slice (some adl) l.length cl) ∧ w'.cell? (adl.add a.toNat) = some (.int .i64 (rd l a)) ∧ w'.cell? (adm.add a.toNat) = some (.int .i64 (rd m a)) ∧ w'.cell? (adm.add b.toNat) = some (.int .i64 (rd m b))) (ds := [21, 22]) #[false, false, false, false, false, false, false, false, false, false, false, false, false, false, false, false, false, false, false, false, false, false, false] (by kernel_rfl) rfl rfl ⟨k0, k1, k2, k3, k4, k5, k6⟩ (fun hHeld => ?_)
    generalize (W.drewN nq).drew = wq at HS HB BO BB BA BG k0 k1 k2 k3 k4 k5 k6 hHeld ⊢
    clear k0 k1 k2 k3 k4 k5 k6
    refine pure_ (i := 1) (N := some 37) (v := ?_) (a' := ?_) (bm 23 2) rfl rfl (by kernel_rfl) (fun _ _ _ h => h) (Or.inl ⟨by rfl, ?_⟩) ?_ ?_
    rotate_left
    ·
     intro w'
     go_simp
     with_reducible rfl
    rotate_left
    ·
     simp only [Act.put, List.setIfInBounds_toArray, List.set_cons_zero, List.set_cons_succ, i64_w, i32_w]
     rfl
    refine pure_ (i := 10) (N := some 46) (v := ?_) (a' := ?_) (bm 23 1026) rfl rfl (by kernel_rfl) (fun _ _ _ h => h) (Or.inl ⟨by rfl, ?_⟩) ?_ ?_
    rotate_left
    ·
     intro w'
     go_simp
     with_reducible rfl
    rotate_left
    ·
     simp only [Act.put, List.setIfInBounds_toArray, List.set_cons_zero, List.set_cons_succ, i64_w, i32_w]
     rfl
    refine pure_ (i := 14) (N := some 50) (v := ?_) (a' := ?_) (bm 23 17410) rfl rfl (by kernel_rfl) (fun _ _ _ h => h) (Or.inl ⟨by rfl, ?_⟩) ?_ ?_
    rotate_left
    ·
     intro w'
     go_simp
     with_reducible rfl
    rotate_left
    ·
     simp only [Act.put, List.setIfInBounds_toArray, List.set_cons_zero, List.set_cons_succ, i64_w, i32_w]
     rfl
    refine take_ (i := 0) (N := some 36) (v := ?_) (a' := ?_) (bm 23 17411) rfl rfl (by kernel_rfl) (fun _ _ _ h => h) (Or.inl ⟨by rfl, ?_⟩) hHeld ?_ ?_
    rotate_left
    ·
     rintro w' ⟨s0, s1, s2, s3, s4, s5, s6⟩
     go_simp
     with_reducible rfl
    rotate_left
    ·
     simp only [Act.put, List.setIfInBounds_toArray, List.set_cons_zero, List.set_cons_succ, i64_w, i32_w]
     rfl
    refine take_ (i := 2) (N := some 38) (v := ?_) (a' := ?_) (bm 23 17415) rfl rfl (by kernel_rfl) (fun _ _ _ h => h) (Or.inl ⟨by rfl, ?_⟩) hHeld ?_ ?_
    rotate_left
    ·
     rintro w' ⟨s0, s1, s2, s3, s4, s5, s6⟩
     go_simp
     with_reducible rfl
    rotate_left
    ·
     simp only [Act.put, List.setIfInBounds_toArray, List.set_cons_zero, List.set_cons_succ, i64_w, i32_w]
     rfl
    refine pure_ (i := 3) (N := some 39) (v := ?_) (a' := ?_) (bm 23 17423) rfl rfl (by kernel_rfl) (fun _ _ _ h => h) (Or.inl ⟨by rfl, ?_⟩) ?_ ?_
    rotate_left
    ·
     intro w'
     go_simp
     with_reducible rfl
    rotate_left
    ·
     simp only [Act.put, List.setIfInBounds_toArray, List.set_cons_zero, List.set_cons_succ, i64_w, i32_w]
     rfl
    refine take_ (i := 4) (N := some 40) (v := ?_) (a' := ?_) (bm 23 17439) rfl rfl (by kernel_rfl) (fun _ _ _ h => h) (Or.inl ⟨by rfl, ?_⟩) hHeld ?_ ?_
    rotate_left
    ·
     rintro w' ⟨s0, s1, s2, s3, s4, s5, s6⟩
     go_simp
     with_reducible rfl
    rotate_left
    ·
     simp only [Act.put, List.setIfInBounds_toArray, List.set_cons_zero, List.set_cons_succ, i64_w, i32_w]
     rfl
    refine take_ (i := 5) (N := some 41) (v := ?_) (a' := ?_) (bm 23 17471) rfl rfl (by kernel_rfl) (fun _ _ _ h => h) (Or.inl ⟨by rfl, ?_⟩) hHeld ?_ ?_
    rotate_left
    ·
     rintro w' ⟨s0, s1, s2, s3, s4, s5, s6⟩
     go_simp
     with_reducible rfl
    rotate_left
    ·
     simp only [Act.put, List.setIfInBounds_toArray, List.set_cons_zero, List.set_cons_succ, i64_w, i32_w]
     rfl
    refine take_ (i := 6) (N := some 42) (v := ?_) (a' := ?_) (bm 23 17535) rfl rfl (by kernel_rfl) (fun _ _ _ h => h) (Or.inl ⟨by rfl, ?_⟩) hHeld ?_ ?_
    rotate_left
    ·
     rintro w' ⟨s0, s1, s2, s3, s4, s5, s6⟩
     go_simp
     with_reducible rfl
    rotate_left
    ·
     simp only [Act.put, List.setIfInBounds_toArray, List.set_cons_zero, List.set_cons_succ, i64_w, i32_w]
     rfl
    refine pure_ (i := 7) (N := some 43) (v := ?_) (a' := ?_) (bm 23 17663) rfl rfl (by kernel_rfl) (fun _ _ _ h => h) (Or.inl ⟨by rfl, ?_⟩) ?_ ?_
    rotate_left
    ·
     intro w'
     go_simp
     with_reducible rfl
    rotate_left
    ·
     simp only [Act.put, List.setIfInBounds_toArray, List.set_cons_zero, List.set_cons_succ, i64_w, i32_w]
     rfl
    refine take_ (i := 8) (N := some 44) (v := ?_) (a' := ?_) (bm 23 17919) rfl rfl (by kernel_rfl) (fun _ _ _ h => h) (Or.inl ⟨by rfl, ?_⟩) hHeld ?_ ?_
    rotate_left
    ·
     rintro w' ⟨s0, s1, s2, s3, s4, s5, s6⟩
     go_simp
     with_reducible rfl
    rotate_left
    ·
     simp only [Act.put, List.setIfInBounds_toArray, List.set_cons_zero, List.set_cons_succ, i64_w, i32_w]
     rfl
    refine pure_ (i := 9) (N := some 45) (v := ?_) (a' := ?_) (bm 23 18431) rfl rfl (by kernel_rfl) (fun _ _ _ h => h) (Or.inl ⟨by rfl, ?_⟩) ?_ ?_
    rotate_left
    ·
     intro w'
     go_simp
     with_reducible rfl
    rotate_left
    ·
     simp only [Act.put, List.setIfInBounds_toArray, List.set_cons_zero, List.set_cons_succ, i64_w, i32_w]
     rfl
    refine take_ (i := 11) (N := some 47) (v := ?_) (a' := ?_) (bm 23 20479) rfl rfl (by kernel_rfl) (fun _ _ _ h => h) (Or.inl ⟨by rfl, ?_⟩) hHeld ?_ ?_
    rotate_left
    ·
     rintro w' ⟨s0, s1, s2, s3, s4, s5, s6⟩
     go_simp
     with_reducible rfl
    rotate_left
    ·
     simp only [Act.put, List.setIfInBounds_toArray, List.set_cons_zero, List.set_cons_succ, i64_w, i32_w]
     rfl
    refine pure_ (i := 12) (N := some 48) (v := ?_) (a' := ?_) (bm 23 24575) rfl rfl (by kernel_rfl) (fun _ _ _ h => h) (Or.inl ⟨by rfl, ?_⟩) ?_ ?_
    rotate_left
    ·
     intro w'
     go_simp
     with_reducible rfl
    rotate_left
    ·
     simp only [Act.put, List.setIfInBounds_toArray, List.set_cons_zero, List.set_cons_succ, i64_w, i32_w]
     rfl
    refine take_ (i := 13) (N := some 49) (v := ?_) (a' := ?_) (bm 23 32767) rfl rfl (by kernel_rfl) (fun _ _ _ h => h) (Or.inl ⟨by rfl, ?_⟩) hHeld ?_ ?_
    rotate_left
    ·
     rintro w' ⟨s0, s1, s2, s3, s4, s5, s6⟩
     go_simp
     with_reducible rfl
    rotate_left
    ·
     simp only [Act.put, List.setIfInBounds_toArray, List.set_cons_zero, List.set_cons_succ, i64_w, i32_w]
     rfl
    refine take_ (i := 15) (N := some 51) (v := ?_) (a' := ?_) (bm 23 65535) rfl rfl (by kernel_rfl) (fun _ _ _ h => h) (Or.inl ⟨by rfl, ?_⟩) hHeld ?_ ?_
    rotate_left
    ·
     rintro w' ⟨s0, s1, s2, s3, s4, s5, s6⟩
     go_simp
     with_reducible rfl
    rotate_left
    ·
     simp only [Act.put, List.setIfInBounds_toArray, List.set_cons_zero, List.set_cons_succ, i64_w, i32_w]
     rfl
    refine pure_ (i := 16) (N := some 52) (v := ?_) (a' := ?_) (bm 23 131071) rfl rfl (by kernel_rfl) (fun _ _ _ h => h) (Or.inl ⟨by rfl, ?_⟩) ?_ ?_
    rotate_left
    ·
     intro w'
     go_simp
     with_reducible rfl
    rotate_left
    ·
     simp only [Act.put, List.setIfInBounds_toArray, List.set_cons_zero, List.set_cons_succ, i64_w, i32_w]
     rfl
    refine take_ (i := 17) (N := some 53) (v := ?_) (a' := ?_) (bm 23 262143) rfl rfl (by kernel_rfl) (fun _ _ _ h => h) (Or.inl ⟨by rfl, ?_⟩) hHeld ?_ ?_
    rotate_left
    ·
     rintro w' ⟨s0, s1, s2, s3, s4, s5, s6⟩
     go_simp
     with_reducible rfl
    rotate_left
    ·
     simp only [Act.put, List.setIfInBounds_toArray, List.set_cons_zero, List.set_cons_succ, i64_w, i32_w]
     rfl
    refine pure_ (i := 18) (N := some 54) (v := ?_) (a' := ?_) (bm 23 524287) rfl rfl (by kernel_rfl) (fun _ _ _ h => h) (Or.inl ⟨by rfl, ?_⟩) ?_ ?_
    rotate_left
    ·
     intro w'
     go_simp
     with_reducible rfl
    rotate_left
    ·
     simp only [Act.put, List.setIfInBounds_toArray, List.set_cons_zero, List.set_cons_succ, i64_w, i32_w]
     rfl
    refine one_ (i := 19) (N := some 55) #[true, true, true, true, true, true, true, true, true, true, true, true, true, true, true, true, true, true, true, true, false, false, false] rfl rfl (by kernel_rfl) (by decide) (fun K hK => ?_)
    refine Kd.R_lit_step (Kd.int .i64) (w0 := wq) wq.heap.size 3 (by rfl) (N := 55) rfl (xs := ([wrap64 (rd m a - rd l a), wrap64 (Int.tdiv (rd m a) (rd m b))] : List Int)) (inner := [.int .i64 (wrap64 (rd m a - rd l a)), .int .i64 (wrap64 (Int.tdiv (rd m a) (rd m b)))]) (ok := fun _ => True) (okp := fun _ => True) ?hr ?hp (fun _ hk => hk) trivial (Below.refl _ _) (Nat.le_refl _) (by simp) ?_
    (case hr => first | (go_simp; done) | (go_simp; rfl))
    (case hp => exact (Reps.one (show Kd.M (Kd.int .i64) _ _ _ (wrap64 (rd m a - rd l a)) [.int .i64 (wrap64 (rd m a - rd l a))] from rfl) (Reps.one (show Kd.M (Kd.int .i64) _ _ _ (wrap64 (Int.tdiv (rd m a) (rd m b))) [.int .i64 (wrap64 (Int.tdiv (rd m a) (rd m b)))] from rfl) (Reps.none _ _))))
    intro v1 w1 ho1 hb1 hg1 hn1
    clear hg1 hn1
    rw [HROW.out] at ho1
    have HS1 := aM (Kd.S_elder' HS.out (Kd.R_base ho1) hb1)
    have HLT := aM (show ∀ k, some k = v1.ownBlock → wq.heap.size ≤ k from fun k e => Kd.R_base ho1 k e.symm)
    have HR1 := aM (Kd.R_tight rfl (Kd.R_lower ho1 (below_size HB.out)))
    have HB1 := aM (below_step HB.out hb1)
    have BO1 := aM (blk_below BO.out hb1)
    have BB1 := aM (blk_below BB.out hb1)
    have BA1 := aM (blk_below BA.out hb1)
    have BG1 := aM (blk_below BG.out hb1)
    obtain ⟨Ao, co, eo⟩ := Kd.R_slice ho1
    subst eo
    clear ho1
    refine hK.out _ _ ⟨(pw_cell_below hb1 hHeld.1), (pw_cell_below hb1 hHeld.2.1), (pw_cell_below hb1 hHeld.2.2.1), (pw_cell_below hb1 hHeld.2.2.2.1), (pw_cell_below hb1 hHeld.2.2.2.2.1), (pw_cell_below hb1 hHeld.2.2.2.2.2.1), (pw_cell_below hb1 hHeld.2.2.2.2.2.2)⟩ (fun hHeld => ?_)
    clear hK K
    refine norm_ (a' := ?_) ?_ ?_
    rotate_left
    ·
     show Act.put _ (some 55) _ = _
     simp only [Act.put, List.setIfInBounds_toArray, List.set_cons_zero, List.set_cons_succ, i64_w, i32_w]
     rfl
    refine one_ (i := 20) (N := some 56) #[true, true, true, true, true, true, true, true, true, true, true, true, true, true, true, true, true, true, true, true, true, false, false] rfl rfl (by kernel_rfl) (by decide) (fun K hK => ?_)
    refine value_ (w1 := ?_) (v := ?_) (by rfl) rfl ?_ ?_
    rotate_left 2
    ·
     go_simp
     constructor
     ·
      rfl
     ·
      rfl
    refine hK.out _ _ ⟨(pw_cell_below (below_alloc (Below.refl _ _) _) hHeld.1), (pw_cell_below (below_alloc (Below.refl _ _) _) hHeld.2.1), (pw_cell_below (below_alloc (Below.refl _ _) _) hHeld.2.2.1), (pw_cell_below (below_alloc (Below.refl _ _) _) hHeld.2.2.2.1), (pw_cell_below (below_alloc (Below.refl _ _) _) hHeld.2.2.2.2.1), (pw_cell_below (below_alloc (Below.refl _ _) _) hHeld.2.2.2.2.2.1), (pw_cell_below (below_alloc (Below.refl _ _) _) hHeld.2.2.2.2.2.2)⟩ (fun hHeld => ?_)
    clear hK K
    refine norm_ (a' := ?_) ?_ ?_
    rotate_left
    ·
     show Act.put _ (some 56) _ = _
     simp only [Act.put, List.setIfInBounds_toArray, List.set_cons_zero, List.set_cons_succ, i64_w, i32_w]
     rfl
    refine last_ (i := 21) (N := some 57) #[true, true, true, true, true, true, true, true, true, true, true, true, true, true, true, true, true, true, true, true, true, true, false] rfl rfl (by kernel_rfl) (by decide) (fun K hK => ?_)
    refine Kd.S_append_step (Kd.slice 3 (Kd.int .i64)) (w0 := w0) w0.heap.size (by rfl) (.tmp 36) (.tmp 56) 27 24 (.slice none 0 0) 24 rfl Tryz.underlying27 info24 rfl (by decide) (by omega) v s row [.slice Ao row.length co] (fun k => k ≠ bg) (fun k => some k = (.slice Ao row.length co : Value).ownBlock) rfl rfl ?aP (fun k hk => ⟨?aQ, ?aR⟩) ?aF ?aO ?aB ?aS ?aL ?_
    (case aP => exact Kd.M_row HR1.out)
    (case aQ => have h1 := HLT.out k hk; have h2 := blk_lt BG.out; omega)
    (case aR => intro e; have h1 := HLT.out k hk; have h2 := Kd.S_lt HS.out k e.symm; omega)
    (case aF => intro k hk; have h1 := blk_lt BG1.out; omega)
    (case aO => exact HS1.out)
    (case aB => exact HB1.out)
    (case aS => exact below_size HB1.out)
    (case aL => have := LM.out; omega)
    intro v2 w2 ho hb hg hat
    obtain ⟨A2, cap2, e2_⟩ := Kd.S_slice ho
    subst e2_
    have HS2 := aM ho
    have HB2 := aM hb
    have bo2 := blk_grown BO1.out hg (Kd.S_ne HS.out BO.out (by decide))
    have BB2 := aM (blk_grown BB1.out hg (Kd.S_ne HS.out BB.out (by decide)))
    have BA2 := aM (blk_grown BA1.out hg (Kd.S_ne HS.out BA.out (by decide)))
    have BG2 := aM (blk_grown BG1.out hg (Kd.S_away HS.out (fun _ h => h)))
    have co2 : w2.cell? ⟨bo, 0, none⟩ = some v := (blk_cell bo2 0).trans rfl
    have fo2 := blk_frozen bo2 0
    have BO2 := aM bo2
    clear ho hb hg hat bo2
    refine hK.out _ _ ?_
    clear hK K
    refine norm_ (a' := ?_) ?_ ?_
    rotate_left
    ·
     show Act.put _ (some 57) _ = _
     simp only [Act.put, List.setIfInBounds_toArray, List.set_cons_zero, List.set_cons_succ, i64_w, i32_w]
     rfl
    refine last_ (i := 22) (N := none) #[true, true, true, true, true, true, true, true, true, true, true, true, true, true, true, true, true, true, true, true, true, true, true] rfl rfl (by kernel_rfl) (by decide) (fun K hK => ?_)
    refine skip_ (w1 := ?_) (by rfl) rfl ?_ ?_
    rotate_left
    ·
     go_simp
     rfl
    refine hK.out _ _ ?_
    clear hK K
    refine done_ (by kernel_rfl) ?_
    try go_wp2
    go_ret
    refine ⟨by first | rfl | (simp; done), ?_, ?_⟩
    ·
     rw [← HE.out]
     exact ⟨blk_far BG2.out DD.out.1 _, blk_far BA2.out DD.out.2.1 _, blk_far BB2.out DD.out.2.2.1 _, _, by simpa using blk_set BO2.out 0 _, Kd.S_set HS2.out BO2.out (by decide) 0 _⟩
    ·
     exact below_set HB2.out DD.out.2.2.2
   ·
    rw [if_neg g3] at h
    have g3b : decide (2 ≤ wrap64 (Int.tdiv (rd m a) (rd m b))) = false := decide_eq_false g3
    have g3c : decide (2 ≤ IntKind.i64.wrap (Int.tdiv (rd m a) (rd m b))) = false := by simp only [i64_w]; exact g3b
    obtain rfl := Option.some.inj h
    clear g2 g3 h
    go_enter Tryz.func44, Tryz.ntmps44
    go_wp2
    go_quiet (fail)
    go_wp2
    go_ret
    exact ⟨by first | rfl | (simp; done) | (simp [*]; done), HIB.out _ _ _ HI.out (by repeat (first | exact Below.refl _ _ | apply pw_below_drewN | apply below_drew1)), by repeat (first | exact HB.out | apply pw_below_drewN | apply below_drew1)⟩
  ·
   rw [if_neg g2] at h
   have g2b : (Int.tmod (rd m a) (rd m b) == 0) = false := beq_eq_false_iff_ne.mpr g2
   obtain rfl := Option.some.inj h
   clear g2 h
   go_enter Tryz.func44, Tryz.ntmps44
   go_wp2
   go_quiet (fail)
   go_wp2
   go_ret
   exact ⟨by first | rfl | (simp; done) | (simp [*]; done), HIB.out _ _ _ HI.out (by repeat (first | exact Below.refl _ _ | apply pw_below_drewN | apply below_drew1)), by repeat (first | exact HB.out | apply pw_below_drewN | apply below_drew1)⟩
 ·
  rw [if_neg g1] at h
  have g1b : decide (1 ≤ rd m b) = false := decide_eq_false g1
  obtain rfl := Option.some.inj h
  clear g1 h
  go_enter Tryz.func44, Tryz.ntmps44
  go_wp2
  go_quiet (fail)
  go_wp2
  go_ret
  exact ⟨by first | rfl | (simp; done) | (simp [*]; done), HIB.out _ _ _ HI.out (by repeat (first | exact Below.refl _ _ | apply pw_below_drewN | apply below_drew1)), by repeat (first | exact HB.out | apply pw_below_drewN | apply below_drew1)⟩

/-! ### impl_AllMultiples: function 6 -/
def impl_AllMultiples.f (k : Nat) (l0 : List Int) (a1 : Int) (a2 : Int) : Option (List (List Int) × Bool) := (impl_areTwo.f l0 a1 a2).bind fun g0 => if g0 = true then ((allYS.f (impl_AllMultiples_1.step l0 a1 a2) k l0 []).bind fun z => some (z, true)) else some ([], false)
theorem allYS.mono_l {α : Type} (step : Nat → List Int → α → Option α) (hp : ∀ k m s, LeO (step k m s) (step (k + 1) m s)) (l : List Int) (hi : Int) : ∀ k s y, LeO (allYS.l0 step k l s hi y) (allYS.l0 step (k + 1) l s hi y)
 | 0, _, y => LeO.none _
 | k + 1, s, y => by
  rw [allYS.l0, allYS.l0]
  exact LeO.ite (LeO.bind (impl_inYears.mono _ _ _) fun m => LeO.bind (hp _ _ _) fun b => allYS.mono_l step hp l hi k _ _) (LeO.refl _)
theorem allYS.mono {α : Type} (step : Nat → List Int → α → Option α) (hp : ∀ k m s, LeO (step k m s) (step (k + 1) m s)) (l : List Int) (s : α) (k : Nat) : LeO (allYS.f step k l s) (allYS.f step (k + 1) l s) :=
 LeO.bind (LeO.refl _) fun q => allYS.mono_l step hp l q.2 k s q.1
theorem impl_AllMultiples.mono : ∀ l0 a1 a2 k, LeO (impl_AllMultiples.f k l0 a1 a2) (impl_AllMultiples.f (k + 1) l0 a1 a2) := fun l0 a1 a2 k => LeO.bind (LeO.refl _) fun _ => LeO.ite (LeO.bind (allYS.mono _ (fun _ _ _ => LeO.refl _) _ _ _) fun _ => LeO.refl _) (LeO.refl _)
set_option maxHeartbeats 8000000 in
set_option maxRecDepth 100000 in
theorem impl_AllMultiples.calls (k : Nat) (A0 : Option Addr) (c0 : Nat) (l0 : List Int) (a1 : Int) (a2 : Int) (r1 : List (List Int)) (r2 : Bool) (w : World) (hr0 : Kd.C (Kd.int .i64) w A0 l0.length l0) (hc0 : l0.length ≤ c0) (h : impl_AllMultiples.f k l0 a1 a2 = some (r1, r2)) :
  Calls Tryz.prog 6 #[.slice A0 l0.length c0, .int .i64 a1, .int .i64 a2] w fun e w' => ∃ v0_ : Value, e = .returned (.tuple #[v0_, .bool r2]) ∧ Kd.S (Kd.slice 3 (Kd.int .i64)) 24 w' w.heap.size (fun _ => True) v0_ r1 ∧ Below w.heap.size w w' := by
 have HR0 := aM hr0
 have HC0 := aM hc0
 clear hr0 hc0
 have eg : ∀ args w, (callFunc 44 args).run Tryz.prog w = .ok (.enter 44 args) w := enters_of Tryz.func44 (by kernel_rfl) rfl
 have EG := aM eg
 clear eg
 have HB := aM (show Below w.heap.size w (((w.alloc (.cells #[.slice A0 l0.length c0] 24)).alloc (.cells #[.int .i64 a1] 3)).alloc (.cells #[.int .i64 a2] 3)) from (((Below.refl w.heap.size w).alloc (by simp) _).alloc (by simp) _).alloc (by simp; omega) _)
 have bg0 : (((w.alloc (.cells #[.slice A0 l0.length c0] 24)).alloc (.cells #[.int .i64 a1] 3)).alloc (.cells #[.int .i64 a2] 3)).heap[w.heap.size]? = some (.cells #[.slice A0 l0.length c0] 24 (0, 0)) := blk_alloc (blk_alloc (heap_alloc_new w _) _) _
 have ba0 : (((w.alloc (.cells #[.slice A0 l0.length c0] 24)).alloc (.cells #[.int .i64 a1] 3)).alloc (.cells #[.int .i64 a2] 3)).heap[w.heap.size + 1]? = some (.cells #[.int .i64 a1] 3 (0, 0)) := blk_alloc (by simpa using heap_alloc_new (w.alloc (.cells #[.slice A0 l0.length c0] 24)) (.cells #[.int .i64 a1] 3)) _
 have bb0 : (((w.alloc (.cells #[.slice A0 l0.length c0] 24)).alloc (.cells #[.int .i64 a1] 3)).alloc (.cells #[.int .i64 a2] 3)).heap[w.heap.size + 1 + 1]? = some (.cells #[.int .i64 a2] 3 (0, 0)) := by simpa using heap_alloc_new ((w.alloc (.cells #[.slice A0 l0.length c0] 24)).alloc (.cells #[.int .i64 a1] 3)) (.cells #[.int .i64 a2] 3)
 have c1 : (((w.alloc (.cells #[.slice A0 l0.length c0] 24)).alloc (.cells #[.int .i64 a1] 3)).alloc (.cells #[.int .i64 a2] 3)).cell? ⟨w.heap.size, 0, none⟩ = some (.slice A0 l0.length c0) := (blk_cell bg0 0).trans rfl
 have c2 : (((w.alloc (.cells #[.slice A0 l0.length c0] 24)).alloc (.cells #[.int .i64 a1] 3)).alloc (.cells #[.int .i64 a2] 3)).cell? ⟨w.heap.size + 1, 0, none⟩ = some (.int .i64 a1) := (blk_cell ba0 0).trans rfl
 have c3 : (((w.alloc (.cells #[.slice A0 l0.length c0] 24)).alloc (.cells #[.int .i64 a1] 3)).alloc (.cells #[.int .i64 a2] 3)).cell? ⟨w.heap.size + 1 + 1, 0, none⟩ = some (.int .i64 a2) := (blk_cell bb0 0).trans rfl
 have BG := aM bg0
 have BA := aM ba0
 have BB := aM bb0
 clear bg0 ba0 bb0
 have H := h
 clear h
 unfold impl_AllMultiples.f at H
 replace H := oB H
 obtain ⟨g0, A00, H⟩ := H
 have A0_ := aM A00
 clear A00
 cases g0 with
 | false =>
  have HE := aM (Option.some.inj (show some (([] : List (List Int)), false) = some (r1, r2) from H))
  clear H
  go_enter Tryz.func6, Tryz.ntmps6
  go_wp2_with (first | (go_at_call 42; (with_reducible refine (impl_areTwo.calls _ _ l0 a1 a2 false _ (Kd.C_below HR0.out HB.out) HC0.out A0_.out).mono ?_); rintro e w1 ⟨rfl, hb0⟩; have hb := hb0; clear hb0; replace HB := aM (below_step HB.out hb); clear hb))
  go_ret2
  exact ⟨_, by have := HE.out; simp only [Prod.mk.injEq] at this; rw [← this.2]; first | rfl | (simp; done), by have := HE.out; simp only [Prod.mk.injEq] at this; rw [← this.1]; exact Kd.S_nil _ _ _ _ _, HB.out⟩
 | true =>
  replace H := (if_pos rfl).symm.trans H
  replace H := oB H
  obtain ⟨z, Z0, H⟩ := H
  have HZ := aM Z0
  have HE := aM (Option.some.inj H)
  clear H Z0
  go_enter Tryz.func6, Tryz.ntmps6
  go_wp2_with (first | (go_at_call 42; (with_reducible refine (impl_areTwo.calls _ _ l0 a1 a2 true _ (Kd.C_below HR0.out HB.out) HC0.out A0_.out).mono ?_); rintro e w1 ⟨rfl, hb⟩; have n0_ := aM (below_step HB.out hb); have n1_ := aM (blk_below BG.out hb); have n2_ := aM (blk_below BA.out hb); have n3_ := aM (blk_below BB.out hb); clear HB BG BA BB c1 c2 c3; have HB := n0_; have BG := n1_; have BA := n2_; have BB := n3_; clear n0_ n1_ n2_ n3_ hb) | ((with_reducible refine gate_dst (N := 14) rfl ?_); refine Kd.S_lits (Kd.slice 3 (Kd.int .i64)) (w0 := w) w.heap.size 24 ?hg (N := 14) ?hd (xs := ([] : List (List Int))) (inner := []) (ok := fun k => k ≠ w.heap.size) (fun _ _ => False) ?hr (by simp) (fun j x hj => by simp at hj) (fun _ _ _ h => h.elim) (fun _ _ h => h.elim) ?hf HB.out (below_size HB.out) (by simp) ?_; (case hd => rfl); (case hg => rfl); (case hr => first | (go_simp; done) | (go_simp; rfl)); (case hf => have h1 := blk_lt BG.out; omega); intro v2 w2 ho hb hg hnew; obtain ⟨A2, cc2, e2⟩ := Kd.S_slice ho; have e3 : v2 = .slice A2 0 cc2 := e2; clear e2; subst e3; have HO := aM ho; have n0_ := aM hb; have n1_ := aM (blk_grown BG.out hg (by simp)); have n2_ := aM (blk_grown BA.out hg (by simp)); have n3_ := aM (blk_grown BB.out hg (by simp)); clear HB BG BA BB hg hnew ho hb; have HB := n0_; have BG := n1_; have BA := n2_; have BB := n3_; clear n0_ n1_ n2_ n3_; have BO := aM (heap_alloc_new w2 (.cells #[.slice A2 0 cc2] 27)); have n1_ := aM (blk_alloc BG.out (.cells #[.slice A2 0 cc2] 27)); have n2_ := aM (blk_alloc BA.out (.cells #[.slice A2 0 cc2] 27)); have n3_ := aM (blk_alloc BB.out (.cells #[.slice A2 0 cc2] 27)); have d1 : (w2.alloc (.cells #[.slice A2 0 cc2] 27)).cell? ⟨w.heap.size, 0, none⟩ = some (.slice A0 l0.length c0) := (blk_cell n1_.out 0).trans rfl; have GE := aM (below_size HB.out); have LG := aM (blk_lt BG.out); have LA := aM (blk_lt BA.out); have LB := aM (blk_lt BB.out); have n0_ := aM (below_alloc HB.out (.cells #[.slice A2 0 cc2] 27)); have n4_ := aM (Kd.S_alloc HO.out (.cells #[.slice A2 0 cc2] 27)); clear HB BG BA BB HO; have HB := n0_; have BG := n1_; have BA := n2_; have BB := n3_; have HO := n4_; clear n0_ n1_ n2_ n3_ n4_) | (go_at_call 43; (with_reducible refine (impl_allYearsS.calls (impl_AllMultiples_1.Inv l0 a1 a2 A0 c0 w.heap.size (w.heap.size + 1) (w.heap.size + 1 + 1) w2.heap.size w.heap.size) (impl_AllMultiples_1.step l0 a1 a2) 44 #[.pointer (some ⟨w.heap.size + 1 + 1, 0, none⟩), .pointer (some ⟨w.heap.size + 1, 0, none⟩), .pointer (some ⟨w2.heap.size, 0, none⟩), .pointer (some ⟨w.heap.size, 0, none⟩)] k _ _ l0 [] z w _ impl_AllMultiples_1.Inv_below ?hp EG.out HR0.out HC0.out HB.out ?hI HZ.out).mono ?_); (case hp => exact impl_AllMultiples_1.calls l0 a1 a2 A0 c0 w.heap.size (w.heap.size + 1) (w.heap.size + 1 + 1) w2.heap.size w HR0.out (by have := LG.out; omega) (by have := LA.out; omega) (by have := LB.out; omega) GE.out); (case hI => exact ⟨BG.out, BA.out, BB.out, _, BO.out, HO.out⟩); rintro e w3 ⟨⟨v3, rfl⟩, ⟨_, _, _, v4, bo4, hS4⟩, hb⟩; have c4 : w3.cell? ⟨w2.heap.size, 0, none⟩ = some v4 := (blk_cell bo4 0).trans rfl; have HS4 := aM hS4; have HB3 := aM hb; clear bo4 hS4 hb))
  go_ret2
  exact ⟨_, by have := HE.out; simp only [Prod.mk.injEq] at this; rw [← this.2]; first | rfl | (simp; done), by have := HE.out; simp only [Prod.mk.injEq] at this; rw [← this.1]; exact Kd.S_mono HS4.out (fun _ _ => trivial), HB3.out⟩

/-! ### spec_l1In: function 74 -/
def spec_l1In.f (a0 : Int) (a1 : Int) (a2 : Int) : Option (Bool) := if a0 ≥ a1 then (some (decide (a0 ≤ a2))) else (some false)
set_option maxHeartbeats 8000000 in
set_option maxRecDepth 100000 in
theorem spec_l1In.calls (a0 : Int) (a1 : Int) (a2 : Int) (r : Bool) (w : World) (h : spec_l1In.f a0 a1 a2 = some r) :
  Calls Tryz.prog 74 #[.int .i64 a0, .int .i64 a1, .int .i64 a2] w fun e w' => e = .returned (.bool r) ∧ Drawn0 w w' := by
 have H : (if a0 ≥ a1 then (some (decide (a0 ≤ a2))) else (some false)) = some r := h
 clear h
 by_cases c4 : a0 ≥ a1
 case pos =>
  rw [if_pos c4] at H
  have c4b0 : decide (a1 ≤ a0) = true := decide_eq_true c4
  clear c4
  obtain rfl := Option.some.inj H
  go_enter Tryz.func74, Tryz.ntmps74
  go_wp2
  go_ret
  exact ⟨by first | rfl | (simp; done) | (simp [*]; done), dQ⟩
 rw [if_neg c4] at H
 have c4b0 : decide (a1 ≤ a0) = false := decide_eq_false c4
 clear c4
 obtain rfl := Option.some.inj H
 go_enter Tryz.func74, Tryz.ntmps74
 go_wp2
 go_ret
 exact ⟨by first | rfl | (simp; done) | (simp [*]; done), dQ⟩

/-! ### spec_l1All: function 85 -/
def spec_l1All.l0 : Nat → Int → Int → List Int → Int → Int → Option (Bool)
 | 0, _, _, _, _, _ => none
 | k + 1, x1, x2, x9, x10, x11 => if x11 < x10 then (if 0 ≤ x11 then (if x11 < (x9.length : Int) then ((spec_l1In.f (rd x9 x11) x1 x2).bind fun t187 => (if t187 = true then (spec_l1All.l0 k x1 x2 x9 x10 (wrap64 (x11 + 1))) else (some false))) else (none)) else (none)) else (some true)
def spec_l1All.f (k : Nat) (l0 : List Int) (a1 : Int) (a2 : Int) : Option (Bool) := spec_l1All.l0 k a1 a2 l0 (l0.length : Int) 0
theorem spec_l1All.mono_l : ∀ k, (∀ y0 y1 y2 y3 y4, LeO (spec_l1All.l0 k y0 y1 y2 y3 y4) (spec_l1All.l0 (k + 1) y0 y1 y2 y3 y4))
 | 0 => fun _ _ _ _ _ r h => by simp [spec_l1All.l0] at h
 | k + 1 => by
  have ih0 := spec_l1All.mono_l k
  ·
   intro y0 y1 y2 y3 y4
   unfold spec_l1All.l0
   repeat' first
   | (with_reducible exact ih0 _ _ _ _ _)
   | (with_reducible exact LeO.refl _)
   | (with_reducible exact LeO.none _)
   | (with_reducible refine LeO.ite ?_ ?_)
   | (with_reducible refine LeO.bind ?_ (fun _ => ?_))
theorem spec_l1All.mono : ∀ a0 a1 a2 k, LeO (spec_l1All.f k a0 a1 a2) (spec_l1All.f (k + 1) a0 a1 a2) := by
 intro a0 a1 a2 k
 have ih0 := spec_l1All.mono_l k
 unfold spec_l1All.f
 repeat' first
   | (with_reducible exact ih0 _ _ _ _ _)
   | (with_reducible exact LeO.refl _)
   | (with_reducible exact LeO.none _)
   | (with_reducible refine LeO.ite ?_ ?_)
   | (with_reducible refine LeO.bind ?_ (fun _ => ?_))
set_option maxHeartbeats 8000000 in
set_option maxRecDepth 100000 in
theorem spec_l1All.calls (k : Nat) (A0 : Option Addr) (c0 : Nat) (l0 : List Int) (a1 : Int) (a2 : Int) (r : Bool) (w : World) (hr0 : Kd.C (Kd.int .i64) w A0 l0.length l0) (hc0 : l0.length ≤ c0) (h : spec_l1All.f k l0 a1 a2 = some r) :
  Calls Tryz.prog 85 #[.slice A0 l0.length c0, .int .i64 a1, .int .i64 a2] w fun e w' => e = .returned (.bool r) ∧ Drawn0 w w' := by
 have HR0 := aM hr0
 have HC0 := aM hc0
 clear hr0 hc0
 have H : (spec_l1All.l0 k a1 a2 l0 (l0.length : Int) 0) = some r := h
 clear h
 have H' := aM H
 clear H
 go_enter Tryz.func85, Tryz.ntmps85
 go_wp2
 go_loopg [11] k (fun kq v11 w' => ∃ (x11_1 : Int), v11 = .int .i64 x11_1 ∧ Aside0 (spec_l1All.l0 kq a1 a2 l0 (l0.length : Int) x11_1 = some r) ∧ Aside0 (kq ≤ k) ∧ Drawn0 w w')
 case atStart => exact ⟨(0), eqQ, H', ⟨Nat.le_refl _⟩, dQ⟩
 case round =>
  clear H'
  try clear p2
  obtain ⟨x11_1, rfl, HA, HK1, ⟨m1, rfl⟩⟩ := hrel
  cases gk with
  | zero => exact absurd HA.out (by simp [spec_l1All.l0])
  | succ k1 =>
   have H := HA.out
   clear HA
   simp only [spec_l1All.l0] at H
   by_cases c4 : x11_1 < (l0.length : Int)
   case neg =>
    rw [if_neg c4] at H
    have c4b0 : decide (x11_1 < (l0.length : Int)) = false := decide_eq_false c4
    clear c4
    obtain rfl := Option.some.inj H
    go_wp2
    go_ret
    exact ⟨by first | rfl | (simp; done) | (simp [*]; done), dQ⟩

   rw [if_pos c4] at H
   have c4b0 : decide (x11_1 < (l0.length : Int)) = true := decide_eq_true c4
   clear c4
   by_cases c5 : 0 ≤ x11_1
   case neg =>
    rw [if_neg c5] at H
    exact nS H
   rw [if_pos c5] at H
   have c5b0 : decide (0 ≤ x11_1) = true := decide_eq_true c5
   clear c5
   by_cases c6 : x11_1 < (l0.length : Int)
   case neg =>
    rw [if_neg c6] at H
    exact nS H
   rw [if_pos c6] at H
   have c6b0 : decide (x11_1 < (l0.length : Int)) = true := decide_eq_true c6
   clear c6
   replace H := oB H
   obtain ⟨t187, A70, H⟩ := H
   (try dsimp only at H)
   have A7 := aM A70
   clear A70
   by_cases c8 : t187 = true
   ·
    subst c8
    replace H := (if_pos rfl).symm.trans H
    have H' := aM H
    clear H
    have p186 : 0 ≤ (x11_1 : Int) := dA
    have q186 : x11_1 < (l0.length : Int) := dA
    obtain ⟨ad186, e186, hx186_0⟩ := Kd.at_int HR0.out x11_1 p186 q186
    cases e186
    replace p186 := eq_true p186
    replace q186 := eq_true q186
    go_wp2_with (first | ((with_reducible refine gate_callee (f := 74) rfl ?_); refine gL 18 Tryz.func74 #[.int .i64 (rd l0 x11_1), .int .i64 a1, .int .i64 a2] rfl rfl rfl rfl ?_; (with_reducible refine (spec_l1In.calls (rd l0 x11_1) a1 a2 true _ A7.out).mono ?_); rintro e w' ⟨rfl, ⟨nd, rfl⟩⟩; refine ⟨_, rfl, ?_⟩))
    go_roundg k1
    case measure => have := HK1.out; omega
    case rel => exact ⟨(wrap64 (x11_1 + 1)), eqQ, H', ⟨by have := HK1.out; omega⟩, dQ⟩
   ·
    replace c8 := Bool.eq_false_iff.mpr c8
    subst c8
    have H1 : (some false) = some r := by rw [if_neg (show ¬ (false = true) by decide)] at H; exact H
    clear H
    have H := H1
    clear H1
    obtain rfl := Option.some.inj H
    have p186 : 0 ≤ (x11_1 : Int) := dA
    have q186 : x11_1 < (l0.length : Int) := dA
    obtain ⟨ad186, e186, hx186_0⟩ := Kd.at_int HR0.out x11_1 p186 q186
    cases e186
    replace p186 := eq_true p186
    replace q186 := eq_true q186
    go_wp2_with (first | ((with_reducible refine gate_callee (f := 74) rfl ?_); refine gL 18 Tryz.func74 #[.int .i64 (rd l0 x11_1), .int .i64 a1, .int .i64 a2] rfl rfl rfl rfl ?_; (with_reducible refine (spec_l1In.calls (rd l0 x11_1) a1 a2 false _ A7.out).mono ?_); rintro e w' ⟨rfl, ⟨nd, rfl⟩⟩; refine ⟨_, rfl, ?_⟩))
    go_ret
    exact ⟨by first | rfl | (simp; done) | (simp [*]; done), dQ⟩
/-! ### spec_agGood: function 53 -/
def spec_agGood.f (k : Nat) (l0 : List Int) : Option (Bool) := (spec_l1In.f (l0.length : Int) 1 8).bind fun t188 => (if t188 = true then ((spec_l1All.f k l0 0 120).bind fun t189 => (some t189)) else (some false))
theorem spec_agGood.mono : ∀ a0 k, LeO (spec_agGood.f k a0) (spec_agGood.f (k + 1) a0) := by
 intro a0 k
 unfold spec_agGood.f
 repeat' first
   | (with_reducible exact spec_l1All.mono _ _ _ _)
   | (with_reducible exact LeO.refl _)
   | (with_reducible exact LeO.none _)
   | (with_reducible refine LeO.ite ?_ ?_)
   | (with_reducible refine LeO.bind ?_ (fun _ => ?_))
set_option maxHeartbeats 8000000 in
set_option maxRecDepth 100000 in
theorem spec_agGood.calls (k : Nat) (A0 : Option Addr) (c0 : Nat) (l0 : List Int) (r : Bool) (w : World) (hr0 : Kd.C (Kd.int .i64) w A0 l0.length l0) (hc0 : l0.length ≤ c0) (h : spec_agGood.f k l0 = some r) :
  Calls Tryz.prog 53 #[.slice A0 l0.length c0] w fun e w' => e = .returned (.bool r) ∧ Drawn0 w w' := by
 have HR0 := aM hr0
 have HC0 := aM hc0
 clear hr0 hc0
 have H : ((spec_l1In.f (l0.length : Int) 1 8).bind fun t188 => (if t188 = true then ((spec_l1All.f k l0 0 120).bind fun t189 => (some t189)) else (some false))) = some r := h
 clear h
 replace H := oB H
 obtain ⟨t188, A20, H⟩ := H
 (try dsimp only at H)
 have A2 := aM A20
 clear A20
 by_cases c3 : t188 = true
 ·
  subst c3
  replace H := (if_pos rfl).symm.trans H
  replace H := oB H
  obtain ⟨t189, A40, H⟩ := H
  (try dsimp only at H)
  have A4 := aM A40
  clear A40
  obtain rfl := Option.some.inj H
  go_enter Tryz.func53, Tryz.ntmps53
  go_wp2_with (first | ((with_reducible refine gate_callee (f := 74) rfl ?_); refine gL 5 Tryz.func74 #[.int .i64 (l0.length : Int), .int .i64 1, .int .i64 8] rfl rfl rfl rfl ?_; (with_reducible refine (spec_l1In.calls (l0.length : Int) 1 8 true _ A2.out).mono ?_); rintro e w' ⟨rfl, ⟨nd, rfl⟩⟩; refine ⟨_, rfl, ?_⟩) | (go_at_call 85; (with_reducible refine (spec_l1All.calls k _ _ l0 0 120 t189 _ ?side1 ?side2 A4.out).mono ?_); (case side1 => exact cQ HR0.out); (case side2 => exact HC0.out); rintro e w' ⟨rfl, ⟨nd, rfl⟩⟩))
  go_ret
  exact ⟨by first | rfl | (simp; done) | (simp [*]; done), dQ⟩
 ·
  replace c3 := Bool.eq_false_iff.mpr c3
  subst c3
  have H1 : (some false) = some r := by rw [if_neg (show ¬ (false = true) by decide)] at H; exact H
  clear H
  have H := H1
  clear H1
  obtain rfl := Option.some.inj H
  go_enter Tryz.func53, Tryz.ntmps53
  go_wp2_with (first | ((with_reducible refine gate_callee (f := 74) rfl ?_); refine gL 5 Tryz.func74 #[.int .i64 (l0.length : Int), .int .i64 1, .int .i64 8] rfl rfl rfl rfl ?_; (with_reducible refine (spec_l1In.calls (l0.length : Int) 1 8 false _ A2.out).mono ?_); rintro e w' ⟨rfl, ⟨nd, rfl⟩⟩; refine ⟨_, rfl, ?_⟩))
  go_ret
  exact ⟨by first | rfl | (simp; done) | (simp [*]; done), dQ⟩

/-! ### spec_agWho: function 50 -/
def spec_agWho.f (k : Nat) (l0 : List Int) (a1 : Int) : Option (Bool) := (spec_agGood.f k l0).bind fun t190 => (if t190 = true then ((spec_l1In.f a1 0 (wrap64 ((l0.length : Int) - 1))).bind fun t191 => (some t191)) else (some false))
theorem spec_agWho.mono : ∀ a0 a1 k, LeO (spec_agWho.f k a0 a1) (spec_agWho.f (k + 1) a0 a1) := by
 intro a0 a1 k
 unfold spec_agWho.f
 repeat' first
   | (with_reducible exact spec_agGood.mono _ _)
   | (with_reducible exact LeO.refl _)
   | (with_reducible exact LeO.none _)
   | (with_reducible refine LeO.ite ?_ ?_)
   | (with_reducible refine LeO.bind ?_ (fun _ => ?_))
set_option maxHeartbeats 8000000 in
set_option maxRecDepth 100000 in
theorem spec_agWho.calls (k : Nat) (A0 : Option Addr) (c0 : Nat) (l0 : List Int) (a1 : Int) (r : Bool) (w : World) (hr0 : Kd.C (Kd.int .i64) w A0 l0.length l0) (hc0 : l0.length ≤ c0) (h : spec_agWho.f k l0 a1 = some r) :
  Calls Tryz.prog 50 #[.slice A0 l0.length c0, .int .i64 a1] w fun e w' => e = .returned (.bool r) ∧ Drawn0 w w' := by
 have HR0 := aM hr0
 have HC0 := aM hc0
 clear hr0 hc0
 have H : ((spec_agGood.f k l0).bind fun t190 => (if t190 = true then ((spec_l1In.f a1 0 (wrap64 ((l0.length : Int) - 1))).bind fun t191 => (some t191)) else (some false))) = some r := h
 clear h
 replace H := oB H
 obtain ⟨t190, A30, H⟩ := H
 (try dsimp only at H)
 have A3 := aM A30
 clear A30
 by_cases c4 : t190 = true
 ·
  subst c4
  replace H := (if_pos rfl).symm.trans H
  replace H := oB H
  obtain ⟨t191, A50, H⟩ := H
  (try dsimp only at H)
  have A5 := aM A50
  clear A50
  obtain rfl := Option.some.inj H
  go_enter Tryz.func50, Tryz.ntmps50
  go_wp2_with (first | ((with_reducible refine gate_callee (f := 53) rfl ?_); refine gL 6 Tryz.func53 #[.slice A0 l0.length c0] rfl rfl rfl rfl ?_; (with_reducible refine (spec_agGood.calls k _ _ l0 true _ ?side1 ?side2 A3.out).mono ?_); (case side1 => exact cQ HR0.out); (case side2 => exact HC0.out); rintro e w' ⟨rfl, ⟨nd, rfl⟩⟩; refine ⟨_, rfl, ?_⟩) | (go_at_call 74; (with_reducible refine (spec_l1In.calls a1 0 (wrap64 ((l0.length : Int) - 1)) t191 _ A5.out).mono ?_); rintro e w' ⟨rfl, ⟨nd, rfl⟩⟩))
  go_ret
  exact ⟨by first | rfl | (simp; done) | (simp [*]; done), dQ⟩
 ·
  replace c4 := Bool.eq_false_iff.mpr c4
  subst c4
  have H1 : (some false) = some r := by rw [if_neg (show ¬ (false = true) by decide)] at H; exact H
  clear H
  have H := H1
  clear H1
  obtain rfl := Option.some.inj H
  go_enter Tryz.func50, Tryz.ntmps50
  go_wp2_with (first | ((with_reducible refine gate_callee (f := 53) rfl ?_); refine gL 6 Tryz.func53 #[.slice A0 l0.length c0] rfl rfl rfl rfl ?_; (with_reducible refine (spec_agGood.calls k _ _ l0 false _ ?side1 ?side2 A3.out).mono ?_); (case side1 => exact cQ HR0.out); (case side2 => exact HC0.out); rintro e w' ⟨rfl, ⟨nd, rfl⟩⟩; refine ⟨_, rfl, ?_⟩))
  go_ret
  exact ⟨by first | rfl | (simp; done) | (simp [*]; done), dQ⟩

/-! ### spec_agTwo: function 45 -/
def spec_agTwo.f (k : Nat) (l0 : List Int) (a1 : Int) (a2 : Int) : Option (Bool) := (spec_agWho.f k l0 a1).bind fun t192 => (if t192 = true then ((spec_agWho.f k l0 a2).bind fun t193 => (if t193 = true then (some (a1 != a2)) else (some false))) else (some false))
theorem spec_agTwo.mono : ∀ a0 a1 a2 k, LeO (spec_agTwo.f k a0 a1 a2) (spec_agTwo.f (k + 1) a0 a1 a2) := by
 intro a0 a1 a2 k
 unfold spec_agTwo.f
 repeat' first
   | (with_reducible exact spec_agWho.mono _ _ _)
   | (with_reducible exact LeO.refl _)
   | (with_reducible exact LeO.none _)
   | (with_reducible refine LeO.ite ?_ ?_)
   | (with_reducible refine LeO.bind ?_ (fun _ => ?_))
set_option maxHeartbeats 8000000 in
set_option maxRecDepth 100000 in
theorem spec_agTwo.calls (k : Nat) (A0 : Option Addr) (c0 : Nat) (l0 : List Int) (a1 : Int) (a2 : Int) (r : Bool) (w : World) (hr0 : Kd.C (Kd.int .i64) w A0 l0.length l0) (hc0 : l0.length ≤ c0) (h : spec_agTwo.f k l0 a1 a2 = some r) :
  Calls Tryz.prog 45 #[.slice A0 l0.length c0, .int .i64 a1, .int .i64 a2] w fun e w' => e = .returned (.bool r) ∧ Drawn0 w w' := by
 have HR0 := aM hr0
 have HC0 := aM hc0
 clear hr0 hc0
 have H : ((spec_agWho.f k l0 a1).bind fun t192 => (if t192 = true then ((spec_agWho.f k l0 a2).bind fun t193 => (if t193 = true then (some (a1 != a2)) else (some false))) else (some false))) = some r := h
 clear h
 replace H := oB H
 obtain ⟨t192, A40, H⟩ := H
 (try dsimp only at H)
 have A4 := aM A40
 clear A40
 by_cases c5 : t192 = true
 ·
  subst c5
  replace H := (if_pos rfl).symm.trans H
  replace H := oB H
  obtain ⟨t193, A60, H⟩ := H
  (try dsimp only at H)
  have A6 := aM A60
  clear A60
  by_cases c7 : t193 = true
  case pos =>
   subst c7
   replace H := (if_pos rfl).symm.trans H
   obtain rfl := Option.some.inj H
   go_enter Tryz.func45, Tryz.ntmps45
   go_wp2_with (first | ((with_reducible refine gate_callee (f := 50) rfl ?_); refine gL 9 Tryz.func50 #[.slice A0 l0.length c0, .int .i64 a1] rfl rfl rfl rfl ?_; (with_reducible refine (spec_agWho.calls k _ _ l0 a1 true _ ?side1 ?side2 A4.out).mono ?_); (case side1 => exact cQ HR0.out); (case side2 => exact HC0.out); rintro e w' ⟨rfl, ⟨nd, rfl⟩⟩; refine ⟨_, rfl, ?_⟩) | (go_at_call 50; (with_reducible refine (spec_agWho.calls k _ _ l0 a2 true _ ?side1 ?side2 A6.out).mono ?_); (case side1 => exact cQ HR0.out); (case side2 => exact HC0.out); rintro e w' ⟨rfl, ⟨nd, rfl⟩⟩))
   go_ret
   exact ⟨by first | rfl | (simp; done) | (simp [*]; done), dQ⟩
  replace c7 := Bool.eq_false_iff.mpr c7
  subst c7
  have H1 : (some false) = some r := by rw [if_neg (show ¬ (false = true) by decide)] at H; exact H
  clear H
  have H := H1
  clear H1
  obtain rfl := Option.some.inj H
  go_enter Tryz.func45, Tryz.ntmps45
  go_wp2_with (first | ((with_reducible refine gate_callee (f := 50) rfl ?_); refine gL 9 Tryz.func50 #[.slice A0 l0.length c0, .int .i64 a1] rfl rfl rfl rfl ?_; (with_reducible refine (spec_agWho.calls k _ _ l0 a1 true _ ?side1 ?side2 A4.out).mono ?_); (case side1 => exact cQ HR0.out); (case side2 => exact HC0.out); rintro e w' ⟨rfl, ⟨nd, rfl⟩⟩; refine ⟨_, rfl, ?_⟩) | (go_at_call 50; (with_reducible refine (spec_agWho.calls k _ _ l0 a2 false _ ?side1 ?side2 A6.out).mono ?_); (case side1 => exact cQ HR0.out); (case side2 => exact HC0.out); rintro e w' ⟨rfl, ⟨nd, rfl⟩⟩))
  go_ret
  exact ⟨by first | rfl | (simp; done) | (simp [*]; done), dQ⟩
 ·
  replace c5 := Bool.eq_false_iff.mpr c5
  subst c5
  have H1 : (some false) = some r := by rw [if_neg (show ¬ (false = true) by decide)] at H; exact H
  clear H
  have H := H1
  clear H1
  obtain rfl := Option.some.inj H
  go_enter Tryz.func45, Tryz.ntmps45
  go_wp2_with (first | ((with_reducible refine gate_callee (f := 50) rfl ?_); refine gL 9 Tryz.func50 #[.slice A0 l0.length c0, .int .i64 a1] rfl rfl rfl rfl ?_; (with_reducible refine (spec_agWho.calls k _ _ l0 a1 false _ ?side1 ?side2 A4.out).mono ?_); (case side1 => exact cQ HR0.out); (case side2 => exact HC0.out); rintro e w' ⟨rfl, ⟨nd, rfl⟩⟩; refine ⟨_, rfl, ?_⟩))
  go_ret
  exact ⟨by first | rfl | (simp; done) | (simp [*]; done), dQ⟩

/-! ### spec_l1Least: function 92 -/
def spec_l1Least.f (a0 : Int) (a1 : Int) : Option (Int) := if a0 < a1 then (some a0) else (some a1)
set_option maxHeartbeats 8000000 in
set_option maxRecDepth 100000 in
theorem spec_l1Least.calls (a0 : Int) (a1 : Int) (r : Int) (w : World) (h : spec_l1Least.f a0 a1 = some r) :
  Calls Tryz.prog 92 #[.int .i64 a0, .int .i64 a1] w fun e w' => e = .returned (.int .i64 r) ∧ Drawn0 w w' := by
 have H : (if a0 < a1 then (some a0) else (some a1)) = some r := h
 clear h
 by_cases c3 : a0 < a1
 case pos =>
  rw [if_pos c3] at H
  have c3b0 : decide (a0 < a1) = true := decide_eq_true c3
  clear c3
  obtain rfl := Option.some.inj H
  go_enter Tryz.func92, Tryz.ntmps92
  go_wp2
  go_ret
  exact ⟨by first | rfl | (simp; done) | (simp [*]; done), dQ⟩
 rw [if_neg c3] at H
 have c3b0 : decide (a0 < a1) = false := decide_eq_false c3
 clear c3
 obtain rfl := Option.some.inj H
 go_enter Tryz.func92, Tryz.ntmps92
 go_wp2
 go_ret
 exact ⟨by first | rfl | (simp; done) | (simp [*]; done), dQ⟩

/-! ### spec_l1Most: function 93 -/
def spec_l1Most.f (a0 : Int) (a1 : Int) : Option (Int) := if a0 > a1 then (some a0) else (some a1)
set_option maxHeartbeats 8000000 in
set_option maxRecDepth 100000 in
theorem spec_l1Most.calls (a0 : Int) (a1 : Int) (r : Int) (w : World) (h : spec_l1Most.f a0 a1 = some r) :
  Calls Tryz.prog 93 #[.int .i64 a0, .int .i64 a1] w fun e w' => e = .returned (.int .i64 r) ∧ Drawn0 w w' := by
 have H : (if a0 > a1 then (some a0) else (some a1)) = some r := h
 clear h
 by_cases c3 : a0 > a1
 case pos =>
  rw [if_pos c3] at H
  have c3b0 : decide (a1 < a0) = true := decide_eq_true c3
  clear c3
  obtain rfl := Option.some.inj H
  go_enter Tryz.func93, Tryz.ntmps93
  go_wp2
  go_ret
  exact ⟨by first | rfl | (simp; done) | (simp [*]; done), dQ⟩
 rw [if_neg c3] at H
 have c3b0 : decide (a1 < a0) = false := decide_eq_false c3
 clear c3
 obtain rfl := Option.some.inj H
 go_enter Tryz.func93, Tryz.ntmps93
 go_wp2
 go_ret
 exact ⟨by first | rfl | (simp; done) | (simp [*]; done), dQ⟩

end Go.Proofs.YtcfgkpifloghlaaGreatDoor.P
