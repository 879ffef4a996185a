-- Written by drive.py (wip/ of this repository) over the kit's print: functions, contracts, rows. Lean checks it. -- SQUEEZED
import Derived.Test.YtcfgkpifloghlaaGreatDoorP0
namespace Go.Proofs.YtcfgkpifloghlaaGreatDoor.P
open Go.RowKit Go.Proofs.YtcfgkpifloghlaaGreatDoorW.PrintWords Go.Proofs.YtcfgkpifloghlaaGreatDoorW.PrintLast Go.Proofs.YtcfgkpifloghlaaGreatDoorW.PrintMore
attribute [local go_sem] max2_int min2_int max_two min_two max_three min_three max_four min_four undef_guard   -- for this text's walks alone
set_option linter.unusedVariables false
set_option linter.unusedSimpArgs false

/-! ### laws_big: function 4 -/
def laws_big.f (l0 : List Int) (l1 : List Int) : Option (Bool) := if (l0.length : Int) > 1048576 then (some true) else (some (decide ((l1.length : Int) > (wrap64 (1048576 - (l0.length : Int))))))
set_option maxHeartbeats 8000000 in
set_option maxRecDepth 100000 in
theorem laws_big.calls (A0 : Option Addr) (c0 : Nat) (l0 : List Int) (A1 : Option Addr) (c1 : Nat) (l1 : List Int) (r : Bool) (w : World) (hr0 : Kd.C (Kd.int .u8) w A0 l0.length l0) (hc0 : l0.length ≤ c0) (hr1 : Kd.C (Kd.int .u8) w A1 l1.length l1) (hc1 : l1.length ≤ c1) (h : laws_big.f l0 l1 = some r) :
  Calls Tryz.prog 4 #[.slice A0 l0.length c0, .slice A1 l1.length c1] w fun e w' => e = .returned (.bool r) ∧ Drawn0 w w' := by
 have HR0 := aM hr0
 have HC0 := aM hc0
 clear hr0 hc0
 have HR1 := aM hr1
 have HC1 := aM hc1
 clear hr1 hc1
 have H : (if (l0.length : Int) > 1048576 then (some true) else (some (decide ((l1.length : Int) > (wrap64 (1048576 - (l0.length : Int))))))) = some r := h
 clear h
 by_cases c3 : (l0.length : Int) > 1048576
 ·
  rw [if_pos c3] at H
  have c3b0 : decide (1048576 < (l0.length : Int)) = true := decide_eq_true c3
  have c3b1 : decide (1048576 < l0.length) = true := decide_eq_true (by omega)
  clear c3
  obtain rfl := Option.some.inj H
  go_enter Tryz.func4, Tryz.ntmps4
  go_wp2
  go_ret
  exact ⟨by first | rfl | (simp; done) | (simp [*]; done), dQ⟩
 ·
  rw [if_neg c3] at H
  have c3b0 : decide (1048576 < (l0.length : Int)) = false := decide_eq_false c3
  have c3b1 : decide (1048576 < l0.length) = false := decide_eq_false (by omega)
  clear c3
  obtain rfl := Option.some.inj H
  go_enter Tryz.func4, Tryz.ntmps4
  go_wp2
  go_ret
  exact ⟨by first | rfl | (simp; done) | (simp [*]; done), dQ⟩

/-- A state of type 69 at block g of W; what its slices lead to came in by w0. -/
def IsS69 (w0 W : World) (g : Nat) (f0 : List Int) (f1 : Int) (f2 : Int) : Prop := ∃ A0 c0, W.heap[g]? = some (.cells #[.slice A0 f0.length c0, .int .i64 f1, .int .u64 f2] 69 (0, 0)) ∧ w0.heap.size ≤ g ∧ Kd.C (Kd.int .u8) w0 A0 f0.length f0
theorem IsS69.grown {w0 W : World} {g : Nat} {f0 : List Int} {f1 : Int} {f2 : Int} {W1 : World} {row : Option Nat} (h : IsS69 w0 W g f0 f1 f2) (hw : W.grownBy W1 row) (hne : some g ≠ row) : IsS69 w0 W1 g f0 f1 f2 := by
 obtain ⟨A0, c0, hb, hg, hr0⟩ := h
 exact ⟨A0, c0, blk_grown hb hw hne, hg, hr0⟩
theorem IsS69.below {w0 W : World} {g : Nat} {f0 : List Int} {f1 : Int} {f2 : Int} {W1 : World} (h : IsS69 w0 W g f0 f1 f2) (hw : Below W.heap.size W W1) : IsS69 w0 W1 g f0 f1 f2 := h.grown (grown_of_below hw none) (by simp)
theorem IsS69.alloc {w0 W : World} {g : Nat} {f0 : List Int} {f1 : Int} {f2 : Int} (h : IsS69 w0 W g f0 f1 f2) (o : Obj) : IsS69 w0 (W.alloc o) g f0 f1 f2 := h.below (below_alloc (Below.refl _ _) o)
theorem IsS69.drewN {w0 W : World} {g : Nat} {f0 : List Int} {f1 : Int} {f2 : Int} (h : IsS69 w0 W g f0 f1 f2) (m : Nat) : IsS69 w0 (W.drewN m) g f0 f1 f2 := h
theorem IsS69.drew {w0 W : World} {g : Nat} {f0 : List Int} {f1 : Int} {f2 : Int} (h : IsS69 w0 W g f0 f1 f2) : IsS69 w0 W.drew g f0 f1 f2 := h
theorem IsS69.apart {w0 W : World} {g : Nat} {f0 : List Int} {f1 : Int} {f2 : Int} {α : Type} {d : Kd α} {e : Nat} {base : Nat} {ok : Nat → Prop} {v : Value} {xs : List α} (h : IsS69 w0 W g f0 f1 f2) (ho : d.R e W base ok v xs) (ht : ∀ q, q ∈ e :: d.E → q ≠ 69) : d.R e W base (fun k => ok k ∧ k ≠ g) v xs := by
 obtain ⟨A0, c0, hb, hg, hr0⟩ := h
 exact Kd.R_types ho hb ht
theorem IsS69.own_ne {w0 W : World} {g : Nat} {f0 : List Int} {f1 : Int} {f2 : Int} {α : Type} {d : Kd α} {e : Nat} {base : Nat} {ok : Nat → Prop} {v : Value} {xs : List α} (h : IsS69 w0 W g f0 f1 f2) (ho : d.R e W base ok v xs) (ht : e ≠ 69) : some g ≠ v.ownBlock := by
 obtain ⟨A0, c0, hb, hg, hr0⟩ := h
 exact Kd.R_ne ho hb ht
theorem IsS69.ge {w0 W : World} {g : Nat} {f0 : List Int} {f1 : Int} {f2 : Int} (h : IsS69 w0 W g f0 f1 f2) : w0.heap.size ≤ g := by
 obtain ⟨A0, c0, hb, hg, hr0⟩ := h
 exact hg
theorem cellS69_0 {W : World} {g : Nat} {A0 : Option Addr} {c0 : Nat} {f0 : List Int} {f1 : Int} {f2 : Int} (h : W.heap[g]? = some (.cells #[.slice A0 f0.length c0, .int .i64 f1, .int .u64 f2] 69 (0, 0))) : W.cell? ⟨g, 0, none⟩ = some (.slice A0 f0.length c0) := (blk_cell h 0).trans rfl
theorem cellS69_1 {W : World} {g : Nat} {A0 : Option Addr} {c0 : Nat} {f0 : List Int} {f1 : Int} {f2 : Int} (h : W.heap[g]? = some (.cells #[.slice A0 f0.length c0, .int .i64 f1, .int .u64 f2] 69 (0, 0))) : W.cell? ⟨g, 1, none⟩ = some (.int .i64 f1) := (blk_cell h 1).trans rfl
theorem IsS69.set_1 {w0 W : World} {g : Nat} {f0 : List Int} {f1 : Int} {f2 : Int} (h : IsS69 w0 W g f0 f1 f2) (x : Int) : IsS69 w0 (W.setCell ⟨g, 1, none⟩ (.int .i64 x)) g f0 x f2 := by
 obtain ⟨A0, c0, hb, hg, hr0⟩ := h
 exact ⟨A0, c0, by simpa using blk_set hb 1 (.int .i64 x), hg, hr0⟩
theorem cellS69_2 {W : World} {g : Nat} {A0 : Option Addr} {c0 : Nat} {f0 : List Int} {f1 : Int} {f2 : Int} (h : W.heap[g]? = some (.cells #[.slice A0 f0.length c0, .int .i64 f1, .int .u64 f2] 69 (0, 0))) : W.cell? ⟨g, 2, none⟩ = some (.int .u64 f2) := (blk_cell h 2).trans rfl
theorem IsS69.set_2 {w0 W : World} {g : Nat} {f0 : List Int} {f1 : Int} {f2 : Int} (h : IsS69 w0 W g f0 f1 f2) (x : Int) : IsS69 w0 (W.setCell ⟨g, 2, none⟩ (.int .u64 x)) g f0 f1 x := by
 obtain ⟨A0, c0, hb, hg, hr0⟩ := h
 exact ⟨A0, c0, by simpa using blk_set hb 2 (.int .u64 x), hg, hr0⟩
theorem iQ {w0 w W' : World} {g : Nat} {f0 : List Int} {f1 f2 g1 g2 : Int} (h : IsS69 w0 w g f0 f1 f2) (e : IsS69 w0 w g f0 f1 f2 → IsS69 w0 W' g f0 g1 g2 := by intro h; repeat (first | (with_reducible first | exact h | apply IsS69.alloc | apply IsS69.drewN | apply IsS69.drew | apply IsS69.set_1 | apply IsS69.set_2) | exact h)) : IsS69 w0 W' g f0 g1 g2 := e h
theorem bI {w0 w V V' : World} {g : Nat} {f0 : List Int} {f1 f2 : Int} (i : IsS69 w0 w g f0 f1 f2) (h : Below w0.heap.size w0 V) (e : Below w0.heap.size w0 V → w0.heap.size ≤ g → Below w0.heap.size w0 V' := by intro h i; repeat (first | (with_reducible first | exact h | apply below_alloc | apply pw_below_drewN | apply below_drew1 | refine below_set ?_ i) | exact h)) : Below w0.heap.size w0 V' := e h i.ge
/-! ### spec_l1Cur_next: function 107 -/
def spec_l1Cur_next.f (s0_0 : List Int) (s0_1 : Int) (s0_2 : Int) : Option (Int × Int × Int) := if s0_1 < (s0_0.length : Int) then (if 0 ≤ s0_1 then (if (wrap64 (s0_1 + 1)) ≤ (s0_0.length : Int) then (some (wrap64 (rd s0_0 s0_1), wrap64 (s0_1 + 1), IntKind.u64.wrap ((IntKind.u64.wrap ((IntKind.u64.wrap (s0_2 * 6364136223846793005)) + (IntKind.u64.wrap (wrap64 (rd s0_0 s0_1))))) + 1442695040888963407))) else (some (wrap64 (Go.bits .and .u64 ((IntKind.u64.wrap ((IntKind.u64.wrap ((IntKind.u64.wrap (s0_2 * 6364136223846793005)) + (IntKind.u64.wrap (wrap64 (rd s0_0 s0_1))))) + 1442695040888963407)) / 1099511627776) 255), wrap64 (s0_1 + 1), IntKind.u64.wrap ((IntKind.u64.wrap ((IntKind.u64.wrap (s0_2 * 6364136223846793005)) + (IntKind.u64.wrap (wrap64 (rd s0_0 s0_1))))) + 1442695040888963407)))) else (none)) else (if (wrap64 (s0_1 + 1)) ≤ (s0_0.length : Int) then (some (0, wrap64 (s0_1 + 1), IntKind.u64.wrap ((IntKind.u64.wrap ((IntKind.u64.wrap (s0_2 * 6364136223846793005)) + 0)) + 1442695040888963407))) else (some (wrap64 (Go.bits .and .u64 ((IntKind.u64.wrap ((IntKind.u64.wrap ((IntKind.u64.wrap (s0_2 * 6364136223846793005)) + 0)) + 1442695040888963407)) / 1099511627776) 255), wrap64 (s0_1 + 1), IntKind.u64.wrap ((IntKind.u64.wrap ((IntKind.u64.wrap (s0_2 * 6364136223846793005)) + 0)) + 1442695040888963407))))
set_option maxHeartbeats 8000000 in
set_option maxRecDepth 100000 in
theorem spec_l1Cur_next.calls (g : Nat) (s0_0 : List Int) (s0_1 : Int) (s0_2 : Int) (r1 : Int) (r2 : Int) (r3 : Int) (w0 w : World) (hI : IsS69 w0 w g s0_0 s0_1 s0_2) (hB : Below w0.heap.size w0 w) (h : spec_l1Cur_next.f s0_0 s0_1 s0_2 = some (r1, r2, r3)) :
  Calls Tryz.prog 107 #[.pointer (some ⟨g, 0, none⟩)] w fun e w' => e = .returned (.int .i64 r1) ∧ IsS69 w0 w' g s0_0 r2 r3 ∧ Below w0.heap.size w0 w' ∧ KeepBut w w' g none := by
 have HI0 := aM hI
 have HK := aM (KeepBut.refl w g none)
 have HL := aM hB.size
 clear hI
 have HW0 := aM hB.size
 have HB := aM hB
 clear hB
 have H : (if s0_1 < (s0_0.length : Int) then (if 0 ≤ s0_1 then (if (wrap64 (s0_1 + 1)) ≤ (s0_0.length : Int) then (some (wrap64 (rd s0_0 s0_1), wrap64 (s0_1 + 1), IntKind.u64.wrap ((IntKind.u64.wrap ((IntKind.u64.wrap (s0_2 * 6364136223846793005)) + (IntKind.u64.wrap (wrap64 (rd s0_0 s0_1))))) + 1442695040888963407))) else (some (wrap64 (Go.bits .and .u64 ((IntKind.u64.wrap ((IntKind.u64.wrap ((IntKind.u64.wrap (s0_2 * 6364136223846793005)) + (IntKind.u64.wrap (wrap64 (rd s0_0 s0_1))))) + 1442695040888963407)) / 1099511627776) 255), wrap64 (s0_1 + 1), IntKind.u64.wrap ((IntKind.u64.wrap ((IntKind.u64.wrap (s0_2 * 6364136223846793005)) + (IntKind.u64.wrap (wrap64 (rd s0_0 s0_1))))) + 1442695040888963407)))) else (none)) else (if (wrap64 (s0_1 + 1)) ≤ (s0_0.length : Int) then (some (0, wrap64 (s0_1 + 1), IntKind.u64.wrap ((IntKind.u64.wrap ((IntKind.u64.wrap (s0_2 * 6364136223846793005)) + 0)) + 1442695040888963407))) else (some (wrap64 (Go.bits .and .u64 ((IntKind.u64.wrap ((IntKind.u64.wrap ((IntKind.u64.wrap (s0_2 * 6364136223846793005)) + 0)) + 1442695040888963407)) / 1099511627776) 255), wrap64 (s0_1 + 1), IntKind.u64.wrap ((IntKind.u64.wrap ((IntKind.u64.wrap (s0_2 * 6364136223846793005)) + 0)) + 1442695040888963407))))) = some (r1, r2, r3) := h
 clear h
 by_cases c2 : s0_1 < (s0_0.length : Int)
 ·
  rw [if_pos c2] at H
  have c2b0 : decide (s0_1 < (s0_0.length : Int)) = true := decide_eq_true c2
  clear c2
  by_cases c3 : 0 ≤ s0_1
  case neg =>
   rw [if_neg c3] at H
   exact nS H
  rw [if_pos c3] at H
  have c3b0 : decide (0 ≤ s0_1) = true := decide_eq_true c3
  clear c3
  by_cases c4 : (wrap64 (s0_1 + 1)) ≤ (s0_0.length : Int)
  ·
   rw [if_pos c4] at H
   have c4b0 : decide ((wrap64 (s0_1 + 1)) ≤ (s0_0.length : Int)) = true := decide_eq_true c4
   clear c4
   simp only [Option.some.injEq, Prod.mk.injEq] at H
   obtain ⟨rfl, rfl, rfl⟩ := H
   obtain ⟨ASz5_0, cSz5_0, HGz5, hgz5, HSz5_0⟩ := HI0.out
   have hcz5_0 := cellS69_0 HGz5
   have hcz5_1 := cellS69_1 HGz5
   have hcz5_2 := cellS69_2 HGz5
   have hfz5_1 := blk_frozen HGz5 1
   have hfz5_2 := blk_frozen HGz5 2
   clear HGz5 hgz5
   have p101 : 0 ≤ (s0_1 : Int) := dA
   have q101 : s0_1 < (s0_0.length : Int) := dA
   obtain ⟨ad101, e101, hx101_0⟩ := Kd.at_int HSz5_0 s0_1 p101 q101
   cases e101
   replace hx101_0 := pw_cell_below HB.out hx101_0
   replace p101 := eq_true p101
   replace q101 := eq_true q101
   go_enter Tryz.func107, Tryz.ntmps107
   go_wp2
   repeat (go_quiet (fail); try go_wp2)
   go_ret
   (try simp only [Int.add_zero])
   exact ⟨erQ, iQ HI0.out, bI HI0.out HB.out, kQ HK.out⟩
  ·
   rw [if_neg c4] at H
   have c4b0 : decide ((wrap64 (s0_1 + 1)) ≤ (s0_0.length : Int)) = false := decide_eq_false c4
   clear c4
   simp only [Option.some.injEq, Prod.mk.injEq] at H
   obtain ⟨rfl, rfl, rfl⟩ := H
   obtain ⟨ASz6_0, cSz6_0, HGz6, hgz6, HSz6_0⟩ := HI0.out
   have hcz6_0 := cellS69_0 HGz6
   have hcz6_1 := cellS69_1 HGz6
   have hcz6_2 := cellS69_2 HGz6
   have hfz6_1 := blk_frozen HGz6 1
   have hfz6_2 := blk_frozen HGz6 2
   clear HGz6 hgz6
   have p101 : 0 ≤ (s0_1 : Int) := dA
   have q101 : s0_1 < (s0_0.length : Int) := dA
   obtain ⟨ad101, e101, hx101_0⟩ := Kd.at_int HSz6_0 s0_1 p101 q101
   cases e101
   replace hx101_0 := pw_cell_below HB.out hx101_0
   replace p101 := eq_true p101
   replace q101 := eq_true q101
   go_enter Tryz.func107, Tryz.ntmps107
   go_wp2
   repeat (go_quiet (fail); try go_wp2)
   go_ret
   (try simp only [Int.add_zero])
   exact ⟨erQ, iQ HI0.out, bI HI0.out HB.out, kQ HK.out⟩
 ·
  rw [if_neg c2] at H
  have c2b0 : decide (s0_1 < (s0_0.length : Int)) = false := decide_eq_false c2
  clear c2
  by_cases c7 : (wrap64 (s0_1 + 1)) ≤ (s0_0.length : Int)
  ·
   rw [if_pos c7] at H
   have c7b0 : decide ((wrap64 (s0_1 + 1)) ≤ (s0_0.length : Int)) = true := decide_eq_true c7
   clear c7
   simp only [Option.some.injEq, Prod.mk.injEq] at H
   obtain ⟨rfl, rfl, rfl⟩ := H
   obtain ⟨ASz8_0, cSz8_0, HGz8, hgz8, HSz8_0⟩ := HI0.out
   have hcz8_0 := cellS69_0 HGz8
   have hcz8_1 := cellS69_1 HGz8
   have hcz8_2 := cellS69_2 HGz8
   have hfz8_1 := blk_frozen HGz8 1
   have hfz8_2 := blk_frozen HGz8 2
   clear HGz8 hgz8
   go_enter Tryz.func107, Tryz.ntmps107
   go_wp2
   repeat (go_quiet (fail); try go_wp2)
   go_ret
   (try simp only [Int.add_zero])
   exact ⟨erQ, iQ HI0.out, bI HI0.out HB.out, kQ HK.out⟩
  ·
   rw [if_neg c7] at H
   have c7b0 : decide ((wrap64 (s0_1 + 1)) ≤ (s0_0.length : Int)) = false := decide_eq_false c7
   clear c7
   simp only [Option.some.injEq, Prod.mk.injEq] at H
   obtain ⟨rfl, rfl, rfl⟩ := H
   obtain ⟨ASz9_0, cSz9_0, HGz9, hgz9, HSz9_0⟩ := HI0.out
   have hcz9_0 := cellS69_0 HGz9
   have hcz9_1 := cellS69_1 HGz9
   have hcz9_2 := cellS69_2 HGz9
   have hfz9_1 := blk_frozen HGz9 1
   have hfz9_2 := blk_frozen HGz9 2
   clear HGz9 hgz9
   go_enter Tryz.func107, Tryz.ntmps107
   go_wp2
   repeat (go_quiet (fail); try go_wp2)
   go_ret
   (try simp only [Int.add_zero])
   exact ⟨erQ, iQ HI0.out, bI HI0.out HB.out, kQ HK.out⟩

/-! ### spec_l1Cur_pick: function 91 -/
def spec_l1Cur_pick.f (s0_0 : List Int) (s0_1 : Int) (s0_2 : Int) (a1 : Int) : Option (Int × Int × Int) := if a1 ≤ 1 then (some (0, s0_1, s0_2)) else ((spec_l1Cur_next.f s0_0 s0_1 s0_2).bind fun bt102 => (if a1 > 200 then ((spec_l1Cur_next.f s0_0 bt102.2.1 bt102.2.2).bind fun bt105 => (if a1 = 0 then (none) else (some (Int.tmod (wrap64 ((wrap64 (bt102.1 * 256)) + bt105.1)) a1, bt105.2.1, bt105.2.2)))) else (if a1 = 0 then (none) else (some (Int.tmod bt102.1 a1, bt102.2.1, bt102.2.2)))))
set_option maxHeartbeats 8000000 in
set_option maxRecDepth 100000 in
theorem spec_l1Cur_pick.calls (g : Nat) (s0_0 : List Int) (s0_1 : Int) (s0_2 : Int) (a1 : Int) (r1 : Int) (r2 : Int) (r3 : Int) (w0 w : World) (hI : IsS69 w0 w g s0_0 s0_1 s0_2) (hB : Below w0.heap.size w0 w) (h : spec_l1Cur_pick.f s0_0 s0_1 s0_2 a1 = some (r1, r2, r3)) :
  Calls Tryz.prog 91 #[.pointer (some ⟨g, 0, none⟩), .int .i64 a1] w fun e w' => e = .returned (.int .i64 r1) ∧ IsS69 w0 w' g s0_0 r2 r3 ∧ Below w0.heap.size w0 w' ∧ KeepBut w w' g none := by
 have HI0 := aM hI
 have HK := aM (KeepBut.refl w g none)
 have HL := aM hB.size
 clear hI
 have HW0 := aM hB.size
 have HB := aM hB
 clear hB
 have H : (if a1 ≤ 1 then (some (0, s0_1, s0_2)) else ((spec_l1Cur_next.f s0_0 s0_1 s0_2).bind fun bt102 => (if a1 > 200 then ((spec_l1Cur_next.f s0_0 bt102.2.1 bt102.2.2).bind fun bt105 => (if a1 = 0 then (none) else (some (Int.tmod (wrap64 ((wrap64 (bt102.1 * 256)) + bt105.1)) a1, bt105.2.1, bt105.2.2)))) else (if a1 = 0 then (none) else (some (Int.tmod bt102.1 a1, bt102.2.1, bt102.2.2)))))) = some (r1, r2, r3) := h
 clear h
 by_cases c3 : a1 ≤ 1
 ·
  rw [if_pos c3] at H
  have c3b0 : decide (a1 ≤ 1) = true := decide_eq_true c3
  clear c3
  simp only [Option.some.injEq, Prod.mk.injEq] at H
  obtain ⟨rfl, rfl, rfl⟩ := H
  go_enter Tryz.func91, Tryz.ntmps91
  go_wp2
  go_ret
  exact ⟨erQ, iQ HI0.out, bI HI0.out HB.out, kQ HK.out⟩
 ·
  rw [if_neg c3] at H
  have c3b0 : decide (a1 ≤ 1) = false := decide_eq_false c3
  clear c3
  replace H := oB H
  obtain ⟨⟨t102, t103, t104⟩, A40, H⟩ := H
  (try dsimp only at H)
  have A4 := aM A40
  clear A40
  by_cases c5 : a1 > 200
  ·
   rw [if_pos c5] at H
   have c5b0 : decide (200 < a1) = true := decide_eq_true c5
   clear c5
   replace H := oB H
   obtain ⟨⟨t105, t106, t107⟩, A60, H⟩ := H
   (try dsimp only at H)
   have A6 := aM A60
   clear A60
   by_cases c7 : a1 = 0
   case pos =>
    rw [if_pos c7] at H
    exact nS H
   rw [if_neg c7] at H
   have c7b0 : (a1 == 0) = false := beq_eq_false_iff_ne.mpr c7
   have c7b1 : (a1 != 0) = true := bne_iff_ne.mpr c7
   simp only [Option.some.injEq, Prod.mk.injEq] at H
   obtain ⟨rfl, rfl, rfl⟩ := H
   go_enter Tryz.func91, Tryz.ntmps91
   go_wp2_with (first | ((with_reducible refine gate_callee (f := 107) rfl ?_); refine gL 9 Tryz.func107 #[.pointer (some ⟨g, 0, none⟩)] rfl rfl rfl rfl ?_; (with_reducible refine (spec_l1Cur_next.calls g s0_0 s0_1 s0_2 t102 t103 t104 w0 _ ?side1 ?side2 A4.out).mono ?_); (case side1 => exact iQ HI0.out); (case side2 => exact bI HI0.out HB.out); rintro e w8 ⟨rfl, hi, hb, hk⟩; refine ⟨_, rfl, ?_⟩; replace HK := aM (KeepBut.trans (kQ HK.out) hk (.inl rfl)); replace HB := aM (hb); replace HI0 := aM (hi); (try clear hb hk hi)) | ((with_reducible refine gate_callee (f := 107) rfl ?_); refine gL 15 Tryz.func107 #[.pointer (some ⟨g, 0, none⟩)] rfl rfl rfl rfl ?_; (with_reducible refine (spec_l1Cur_next.calls g s0_0 t103 t104 t105 t106 t107 w0 _ ?side1 ?side2 A6.out).mono ?_); (case side1 => exact iQ HI0.out); (case side2 => exact bI HI0.out HB.out); rintro e w9 ⟨rfl, hi, hb, hk⟩; refine ⟨_, rfl, ?_⟩; replace HK := aM (KeepBut.trans (kQ HK.out) hk (.inl rfl)); replace HB := aM (hb); replace HI0 := aM (hi); (try clear hb hk hi)))
   go_ret
   exact ⟨erQ, iQ HI0.out, bI HI0.out HB.out, kQ HK.out⟩
  ·
   rw [if_neg c5] at H
   have c5b0 : decide (200 < a1) = false := decide_eq_false c5
   clear c5
   by_cases c10 : a1 = 0
   case pos =>
    rw [if_pos c10] at H
    exact nS H
   rw [if_neg c10] at H
   have c10b0 : (a1 == 0) = false := beq_eq_false_iff_ne.mpr c10
   have c10b1 : (a1 != 0) = true := bne_iff_ne.mpr c10
   simp only [Option.some.injEq, Prod.mk.injEq] at H
   obtain ⟨rfl, rfl, rfl⟩ := H
   go_enter Tryz.func91, Tryz.ntmps91
   go_wp2_with (first | ((with_reducible refine gate_callee (f := 107) rfl ?_); refine gL 9 Tryz.func107 #[.pointer (some ⟨g, 0, none⟩)] rfl rfl rfl rfl ?_; (with_reducible refine (spec_l1Cur_next.calls g s0_0 s0_1 s0_2 t102 t103 t104 w0 _ ?side1 ?side2 A4.out).mono ?_); (case side1 => exact iQ HI0.out); (case side2 => exact bI HI0.out HB.out); rintro e w11 ⟨rfl, hi, hb, hk⟩; refine ⟨_, rfl, ?_⟩; replace HK := aM (KeepBut.trans (kQ HK.out) hk (.inl rfl)); replace HB := aM (hb); replace HI0 := aM (hi); (try clear hb hk hi)))
   go_ret
   exact ⟨erQ, iQ HI0.out, bI HI0.out HB.out, kQ HK.out⟩

/-! ### spec_l1Cur_among: function 65 -/
def spec_l1Cur_among.f (s0_0 : List Int) (s0_1 : Int) (s0_2 : Int) (l1 : List Int) : Option (Int × Int × Int) := (spec_l1Cur_pick.f s0_0 s0_1 s0_2 (l1.length : Int)).bind fun bt108 => (if 0 ≤ bt108.1 then (if bt108.1 < (l1.length : Int) then (some (rd l1 bt108.1, bt108.2.1, bt108.2.2)) else (none)) else (none))
set_option maxHeartbeats 8000000 in
set_option maxRecDepth 100000 in
theorem spec_l1Cur_among.calls (g : Nat) (s0_0 : List Int) (s0_1 : Int) (s0_2 : Int) (A1 : Option Addr) (c1 : Nat) (l1 : List Int) (r1 : Int) (r2 : Int) (r3 : Int) (w0 w : World) (hI : IsS69 w0 w g s0_0 s0_1 s0_2) (hB : Below w0.heap.size w0 w) (hr1 : Kd.C (Kd.int .i64) w A1 l1.length l1) (hc1 : l1.length ≤ c1) (hf1 : ∀ ad, A1 = some ad → 0 < l1.length → ad.block ≠ g) (h : spec_l1Cur_among.f s0_0 s0_1 s0_2 l1 = some (r1, r2, r3)) :
  Calls Tryz.prog 65 #[.pointer (some ⟨g, 0, none⟩), .slice A1 l1.length c1] w fun e w' => e = .returned (.int .i64 r1) ∧ IsS69 w0 w' g s0_0 r2 r3 ∧ Below w0.heap.size w0 w' ∧ KeepBut w w' g none := by
 have HR1 := aM hr1
 have HC1 := aM hc1
 clear hr1 hc1
 have HI0 := aM hI
 have HK := aM (KeepBut.refl w g none)
 have HL := aM hB.size
 clear hI
 have HW0 := aM hB.size
 have HB := aM hB
 clear hB
 have H : ((spec_l1Cur_pick.f s0_0 s0_1 s0_2 (l1.length : Int)).bind fun bt108 => (if 0 ≤ bt108.1 then (if bt108.1 < (l1.length : Int) then (some (rd l1 bt108.1, bt108.2.1, bt108.2.2)) else (none)) else (none))) = some (r1, r2, r3) := h
 clear h
 replace H := oB H
 obtain ⟨⟨t108, t109, t110⟩, A30, H⟩ := H
 (try dsimp only at H)
 have A3 := aM A30
 clear A30
 by_cases c4 : 0 ≤ t108
 case neg =>
  rw [if_neg c4] at H
  exact nS H

 rw [if_pos c4] at H
 have c4b0 : decide (0 ≤ t108) = true := decide_eq_true c4
 clear c4
 by_cases c5 : t108 < (l1.length : Int)
 case neg =>
  rw [if_neg c5] at H
  exact nS H
 rw [if_pos c5] at H
 have c5b0 : decide (t108 < (l1.length : Int)) = true := decide_eq_true c5
 clear c5
 simp only [Option.some.injEq, Prod.mk.injEq] at H
 obtain ⟨rfl, rfl, rfl⟩ := H
 go_enter Tryz.func65, Tryz.ntmps65
 go_wp2_with (first | ((with_reducible refine gate_callee (f := 91) rfl ?_); refine gL 9 Tryz.func91 #[.pointer (some ⟨g, 0, none⟩), .int .i64 (l1.length : Int)] rfl rfl rfl rfl ?_; (with_reducible refine (spec_l1Cur_pick.calls g s0_0 s0_1 s0_2 (l1.length : Int) t108 t109 t110 w0 _ ?side1 ?side2 A3.out).mono ?_); (case side1 => exact iQ HI0.out); (case side2 => exact bI HI0.out HB.out); rintro e w6 ⟨rfl, hi, hb, hk⟩; refine ⟨_, rfl, ?_⟩; replace HK := aM (KeepBut.trans (kQ HK.out) hk (.inl rfl)); replace HB := aM (hb); replace HI0 := aM (hi); (try clear hb hk hi); have p111 : 0 ≤ (t108 : Int) := dA; have q111 : t108 < (l1.length : Int) := dA; obtain ⟨ad111, e111, hx111_0⟩ := Kd.at_int HR1.out t108 p111 q111; cases e111; replace hx111_0 := keep_cell HK.out hx111_0 (by first | (rw [add_block]; exact hf1 _ rfl (by omega)) | exact hf1 _ rfl (by omega) | exact hf1 ad111 rfl (by omega)); replace p111 := eq_true p111; replace q111 := eq_true q111))
 go_ret
 exact ⟨erQ, iQ HI0.out, bI HI0.out HB.out, kQ HK.out⟩
/-! ### spec_l1Cur_sureAges: function 75 -/
def spec_l1Cur_sureAges.l0 : Nat → List Int → Int → List Int → Int → Int → Option (List Int × Int × Int)
 | 0, _, _, _, _, _ => none
 | k + 1, x3, x4, x1000, x1001, x1002 => if x4 > 0 then ((spec_l1Cur_among.f x1000 x1001 x1002 (([0, 1, 3, 5, 9, 12, 17, 25, 33, 40, 64, 90] : List Int))).bind fun bt118 => (if x3.length < 17592186044416 then (spec_l1Cur_sureAges.l0 k (x3 ++ [bt118.1]) (wrap64 (x4 - 1)) x1000 bt118.2.1 bt118.2.2) else (none))) else (some (x3, x1001, x1002))
def spec_l1Cur_sureAges.f (k : Nat) (s0_0 : List Int) (s0_1 : Int) (s0_2 : Int) : Option (List Int × Int × Int) := (spec_l1Cur_pick.f s0_0 s0_1 s0_2 4).bind fun bt112 => (spec_l1Cur_sureAges.l0 k ([] : List Int) (wrap64 (1 + bt112.1)) s0_0 bt112.2.1 bt112.2.2)
theorem spec_l1Cur_sureAges.mono_l : ∀ k, (∀ y0 y1 y2 y3 y4, LeO (spec_l1Cur_sureAges.l0 k y0 y1 y2 y3 y4) (spec_l1Cur_sureAges.l0 (k + 1) y0 y1 y2 y3 y4))
 | 0 => fun _ _ _ _ _ r h => by simp [spec_l1Cur_sureAges.l0] at h
 | k + 1 => by
  have ih0 := spec_l1Cur_sureAges.mono_l k
  ·
   intro y0 y1 y2 y3 y4
   unfold spec_l1Cur_sureAges.l0
   repeat' first
   | (with_reducible exact ih0 _ _ _ _ _)
   | (with_reducible exact LeO.refl _)
   | (with_reducible exact LeO.none _)
   | (with_reducible refine LeO.ite ?_ ?_)
   | (with_reducible refine LeO.bind ?_ (fun _ => ?_))
theorem spec_l1Cur_sureAges.mono : ∀ a0 a1 a2 k, LeO (spec_l1Cur_sureAges.f k a0 a1 a2) (spec_l1Cur_sureAges.f (k + 1) a0 a1 a2) := by
 intro a0 a1 a2 k
 have ih0 := spec_l1Cur_sureAges.mono_l k
 unfold spec_l1Cur_sureAges.f
 repeat' first
   | (with_reducible exact ih0 _ _ _ _ _)
   | (with_reducible exact LeO.refl _)
   | (with_reducible exact LeO.none _)
   | (with_reducible refine LeO.ite ?_ ?_)
   | (with_reducible refine LeO.bind ?_ (fun _ => ?_))
set_option maxHeartbeats 8000000 in
set_option maxRecDepth 100000 in
theorem spec_l1Cur_sureAges.calls (k : Nat) (g : Nat) (s0_0 : List Int) (s0_1 : Int) (s0_2 : Int) (r1 : List Int) (r2 : Int) (r3 : Int) (w0 w : World) (hI : IsS69 w0 w g s0_0 s0_1 s0_2) (hB : Below w0.heap.size w0 w) (h : spec_l1Cur_sureAges.f k s0_0 s0_1 s0_2 = some (r1, r2, r3)) :
  Calls Tryz.prog 75 #[.pointer (some ⟨g, 0, none⟩)] w fun e w' => ∃ v0_ : Value, e = .returned (v0_) ∧ Kd.R (Kd.int .i64) 3 w' w.heap.size (fun _ => True) v0_ r1 ∧ IsS69 w0 w' g s0_0 r2 r3 ∧ Below w0.heap.size w0 w' ∧ KeepBut w w' g none := by
 have HI0 := aM hI
 have HK := aM (KeepBut.refl w g none)
 have HL := aM hB.size
 clear hI
 have HW0 := aM hB.size
 have HB := aM hB
 clear hB
 have H : ((spec_l1Cur_pick.f s0_0 s0_1 s0_2 4).bind fun bt112 => (spec_l1Cur_sureAges.l0 k ([] : List Int) (wrap64 (1 + bt112.1)) s0_0 bt112.2.1 bt112.2.2)) = some (r1, r2, r3) := h
 clear h
 replace H := oB H
 obtain ⟨⟨t112, t113, t114⟩, A20, H⟩ := H
 (try dsimp only at H)
 have A2 := aM A20
 clear A20
 have H' := aM H
 clear H
 go_enter Tryz.func75, Tryz.ntmps75
 go_wp2_with (first | ((with_reducible refine gate_callee (f := 91) rfl ?_); refine gL 6 Tryz.func91 #[.pointer (some ⟨g, 0, none⟩), .int .i64 4] rfl rfl rfl rfl ?_; (with_reducible refine (spec_l1Cur_pick.calls g s0_0 s0_1 s0_2 4 t112 t113 t114 w0 _ ?side1 ?side2 A2.out).mono ?_); (case side1 => exact iQ HI0.out); (case side2 => exact bI HI0.out HB.out); rintro e w3 ⟨rfl, hi, hb, hk⟩; refine ⟨_, rfl, ?_⟩; replace HK := aM (KeepBut.trans (kQ HK.out) hk (.inl rfl)); replace HB := aM (hb); replace HI0 := aM (hi); (try clear hb hk hi)))
 go_loopg [3, 4] k (fun kq v3 v4 w' => ∃ (x3_1 : List Int) (x4_1 : Int) (x1001_1 : Int) (x1002_1 : Int), v4 = .int .i64 x4_1 ∧ Aside0 (spec_l1Cur_sureAges.l0 kq x3_1 x4_1 s0_0 x1001_1 x1002_1 = some (r1, r2, r3)) ∧ Aside0 (kq ≤ k) ∧ Aside0 (Kd.R (Kd.int .i64) 3 w' w.heap.size (fun _ => True) v3 x3_1) ∧ Aside0 (IsS69 w0 w' g s0_0 x1001_1 x1002_1) ∧ Aside0 (KeepBut w w' g none) ∧ Aside0 (Below w0.heap.size w0 w'))
 case atStart => exact ⟨(([] : List Int)), (wrap64 (1 + t112)), (t113), (t114), eqQ, H', ⟨Nat.le_refl _⟩, ⟨by first | exact Kd.R_nil _ _ _ _ _ | exact Kd.N_nil _ _ _ _ _ | exact Kd.V_nil _ _ _ _ _ | exact Kd.Q_nil _ _ _ _ _ | exact Kd.S_nil _ _ _ _ _⟩, ⟨iQ HI0.out⟩, ⟨kQ HK.out⟩, ⟨bI HI0.out HB.out⟩⟩
 case round =>
  clear H'
  try clear p2
  obtain ⟨x3_1, x4_1, x1001_1, x1002_1, rfl, HA, HK1, HO_3, HI0, HK, HB⟩ := hrel
  cases gk with
  | zero => exact absurd HA.out (by simp [spec_l1Cur_sureAges.l0])
  | succ k1 =>
   have H := HA.out
   clear HA
   simp only [spec_l1Cur_sureAges.l0] at H
   by_cases c4 : x4_1 > 0
   ·
    rw [if_pos c4] at H
    have c4b0 : decide (0 < x4_1) = true := decide_eq_true c4
    clear c4
    obtain ⟨y115, hy115⟩ : ∃ y_ : List Int, y_ = (([0, 1, 3, 5, 9, 12, 17, 25, 33, 40, 64, 90] : List Int)) := ⟨_, rfl⟩
    replace H : ((spec_l1Cur_among.f s0_0 x1001_1 x1002_1 y115).bind fun bt118 => (if x3_1.length < 17592186044416 then (spec_l1Cur_sureAges.l0 k1 (x3_1 ++ [bt118.1]) (wrap64 (x4_1 - 1)) s0_0 bt118.2.1 bt118.2.2) else (none))) = some (r1, r2, r3) := by first | (rw [hy115]; with_reducible exact H) | (have H2_ := (Option.bind_some _ _).symm.trans H; rw [hy115]; with_reducible exact H2_) | (have H2_ := (Option.bind_some _ _).symm.trans H; with_reducible exact H2_) | with_reducible exact H | (rw [hy115]; exact H) | exact H
    have Ny115 := aM hy115
    clear hy115
    replace H := oB H
    obtain ⟨⟨t118, t119, t120⟩, A50, H⟩ := H
    (try dsimp only at H)
    have A5 := aM A50
    clear A50
    by_cases c6 : x3_1.length < 17592186044416
    case neg =>
     rw [if_neg c6] at H
     exact nS H
    rw [if_pos c6] at H
    have LMc6 := aM c6
    clear c6
    obtain ⟨y121, hy121⟩ : ∃ y_ : List Int, y_ = (x3_1 ++ [t118]) := ⟨_, rfl⟩
    replace H : (spec_l1Cur_sureAges.l0 k1 y121 (wrap64 (x4_1 - 1)) s0_0 t119 t120) = some (r1, r2, r3) := by first | (rw [hy121]; with_reducible exact H) | (have H2_ := (Option.bind_some _ _).symm.trans H; rw [hy121]; with_reducible exact H2_) | (have H2_ := (Option.bind_some _ _).symm.trans H; with_reducible exact H2_) | with_reducible exact H | (rw [hy121]; exact H) | exact H
    have Ny121 := aM hy121
    clear hy121
    have H' := aM H
    clear H
    go_wp2_with (first | ((with_reducible refine gate_dst (N := 14) rfl ?_); refine Kd.R_lit (Kd.int .i64) _ 3 ?hg (N := 14) ?hd (xs := ([0, 1, 3, 5, 9, 12, 17, 25, 33, 40, 64, 90] : List Int)) (inner := [.int .i64 0, .int .i64 1, .int .i64 3, .int .i64 5, .int .i64 9, .int .i64 12, .int .i64 17, .int .i64 25, .int .i64 33, .int .i64 40, .int .i64 64, .int .i64 90]) (ok := fun _ => True) (okp := fun _ => True) ?hr ?hp (fun _ hk => hk) trivial (Below.refl _ _) (Nat.le_refl _) (by simp) ?_; (case hd => rfl); (case hg => rfl); (case hr => first | (go_simp; done) | (go_simp; rfl)); (case hp => exact (Reps.one (show Kd.M (Kd.int .i64) _ _ _ 0 [.int .i64 0] from rfl) (Reps.one (show Kd.M (Kd.int .i64) _ _ _ 1 [.int .i64 1] from rfl) (Reps.one (show Kd.M (Kd.int .i64) _ _ _ 3 [.int .i64 3] from rfl) (Reps.one (show Kd.M (Kd.int .i64) _ _ _ 5 [.int .i64 5] from rfl) (Reps.one (show Kd.M (Kd.int .i64) _ _ _ 9 [.int .i64 9] from rfl) (Reps.one (show Kd.M (Kd.int .i64) _ _ _ 12 [.int .i64 12] from rfl) (Reps.one (show Kd.M (Kd.int .i64) _ _ _ 17 [.int .i64 17] from rfl) (Reps.one (show Kd.M (Kd.int .i64) _ _ _ 25 [.int .i64 25] from rfl) (Reps.one (show Kd.M (Kd.int .i64) _ _ _ 33 [.int .i64 33] from rfl) (Reps.one (show Kd.M (Kd.int .i64) _ _ _ 40 [.int .i64 40] from rfl) (Reps.one (show Kd.M (Kd.int .i64) _ _ _ 64 [.int .i64 64] from rfl) (Reps.one (show Kd.M (Kd.int .i64) _ _ _ 90 [.int .i64 90] from rfl) (Reps.none _ _)))))))))))))); intro v116 w7 ho8 hb hg_ hnew_; clear hg_ hnew_; (first | rw [← Ny115.out] at ho8 | (simp only [Int.reduceToNat] at ho8; rw [← Ny115.out] at ho8)); have HO117 := aM (Kd.R_lower (Kd.R_new' ho8 (Kd.R_lt (rQ HO_3.out))) (keep_size (w := w) (g := g) (row := none) (kQ HK.out))); replace HO_3 := aM (Kd.R_elder' (rQ HO_3.out) (Kd.R_base ho8) hb); replace HK := aM (KeepBut.trans (kQ HK.out) (KeepBut.of_below hb g none) (.inl rfl)); replace HB := aM (below_step (bI HI0.out HB.out) hb); replace HI0 := aM (IsS69.below (iQ HI0.out) hb); clear hb ho8; obtain ⟨Ao9, co9, eo9⟩ := Kd.R_slice HO117.out; subst eo9) | ((with_reducible refine gate_callee (f := 65) rfl ?_); refine gL 15 Tryz.func65 #[.pointer (some ⟨g, 0, none⟩), .slice Ao9 y115.length co9] rfl rfl rfl rfl ?_; (with_reducible refine (spec_l1Cur_among.calls g s0_0 x1001_1 x1002_1 _ _ y115 t118 t119 t120 w0 _ ?side1 ?side2 ?side3 ?side4 ?side5 A5.out).mono ?_); (case side1 => exact iQ HI0.out); (case side2 => exact bI HI0.out HB.out); (case side3 => exact cQ ((Kd.R_reads' HO117.out).2.2)); (case side4 => exact (Kd.R_reads' HO117.out).2.1); (case side5 => exact far_slice (IsS69.own_ne HI0.out HO117.out (by decide))); rintro e w10 ⟨rfl, hi, hb, hk⟩; refine ⟨_, rfl, ?_⟩; replace HO_3 := aM (Kd.R_mono (Kd.R_keep (IsS69.apart (show IsS69 w0 _ g s0_0 x1001_1 x1002_1 from iQ HI0.out) (rQ HO_3.out) (by decide)) hk (fun _ h => h.2)) (fun _ h => h.1)); replace HO117 := aM (Kd.R_mono (Kd.R_keep (IsS69.apart (show IsS69 w0 _ g s0_0 x1001_1 x1002_1 from iQ HI0.out) (rQ HO117.out) (by decide)) hk (fun _ h => h.2)) (fun _ h => h.1)); replace HK := aM (KeepBut.trans (kQ HK.out) hk (.inl rfl)); replace HB := aM (hb); replace HI0 := aM (hi); (try clear hb hk hi)) | ((with_reducible refine gate_builtin (b := .append) (xs := #[.tmp 12, .tmp 16]) rfl ?_); at_builtin; refine Kd.R_append (Kd.int .i64) w.heap.size rfl (.tmp 12) (.tmp 16) 24 3 (.int .i64 0) 8 rfl Tryz.underlying24 info3 rfl (by decide) (by omega) u3 x3_1 t118 [.int .i64 t118] (fun k_ => some k_ ≠ (.slice Ao9 y115.length co9 : Value).ownBlock) (fun _ => False) rfl rfl ?aP (fun _ hk => hk.elim) ?aF ?aO (Below.refl _ _) ?aS ?aL ?_; (case aP => exact rfl); (case aF => exact (fun k_ hk => Kd.fresh' (Kd.R_lt (rQ HO117.out)) k_ hk)); (case aO => exact (by (with_reducible repeat (first | apply Kd.R_alloc | apply Kd.R_drewN | apply Kd.R_drew)); exact Kd.R_mono HO_3.out (fun _ hk => hk.2))); (case aS => exact (keep_size (w := w) (g := g) (row := none) (kQ HK.out))); (case aL => have := LMc6.out; omega); intro v122 w11 ho hb hg hat; rw [← Ny121.out] at ho; replace HO117 := aM (Kd.R_after (ok := (fun _ => True)) (rQ HO117.out) hg hat); replace HB := aM (below_weaken (bI HI0.out HB.out) HL.out hb); replace HI0 := aM (IsS69.grown (iQ HI0.out) hg (IsS69.own_ne HI0.out HO_3.out (by decide))); replace HK := aM (KeepBut.trans (kQ HK.out) (KeepBut.of_grown hg g) (Kd.R_base2 HO_3.out)); have HO123 := aM (ho); clear HO_3; clear ho hb hg hat))
    go_roundg k1
    case measure => have := HK1.out; omega
    case rel => exact ⟨(y121), (wrap64 (x4_1 - 1)), (t119), (t120), eqQ, H', ⟨by have := HK1.out; omega⟩, ⟨by (with_reducible repeat (first | apply Kd.R_alloc | apply Kd.R_drewN | apply Kd.R_drew)); exact Kd.R_mono HO123.out (fun _ hk => trivial)⟩, ⟨iQ HI0.out⟩, ⟨kQ HK.out⟩, ⟨bI HI0.out HB.out⟩⟩
   ·
    rw [if_neg c4] at H
    have c4b0 : decide (0 < x4_1) = false := decide_eq_false c4
    clear c4
    simp only [Option.some.injEq, Prod.mk.injEq] at H
    obtain ⟨rfl, rfl, rfl⟩ := H
    go_wp2
    go_ret
    exact ⟨_, erQ, rQ HO_3.out, iQ HI0.out, bI HI0.out HB.out, kQ HK.out⟩

/-! ### spec_l1Cur_ages: function 66 -/
def spec_l1Cur_ages.l0 : Nat → List Int → List Int → Int → Int → Option (List Int × Int × Int)
 | 0, _, _, _, _ => none
 | k + 1, x3, x1000, x1001, x1002 => (spec_l1Cur_pick.f x1000 x1001 x1002 2).bind fun bt139 => (if (x3.length : Int) < (wrap64 (8 + bt139.1)) then ((spec_l1Cur_pick.f x1000 bt139.2.1 bt139.2.2 50).bind fun bt142 => (if x3.length < 17592186044416 then (spec_l1Cur_ages.l0 k (x3 ++ [bt142.1]) x1000 bt142.2.1 bt142.2.2) else (none))) else (some (x3, bt139.2.1, bt139.2.2)))
def spec_l1Cur_ages.f (k : Nat) (s0_0 : List Int) (s0_1 : Int) (s0_2 : Int) : Option (List Int × Int × Int) := (spec_l1Cur_sureAges.f k s0_0 s0_1 s0_2).bind fun bt124 => ((spec_l1Cur_pick.f s0_0 bt124.2.1 bt124.2.2 14).bind fun bt129 => (if bt129.1 = 0 then (some (([] : List Int), bt129.2.1, bt129.2.2)) else (if bt129.1 = 1 then ((spec_l1Cur_among.f s0_0 bt129.2.1 bt129.2.2 (([(-1), 120, 121, 4611686018427387904] : List Int))).bind fun bt135 => (if 0 < (bt124.1.length : Int) then (some ((bt124.1.set (0 : Int).toNat bt135.1), bt135.2.1, bt135.2.2)) else (none))) else (if bt129.1 = 2 then (spec_l1Cur_ages.l0 k bt124.1 s0_0 bt129.2.1 bt129.2.2) else (some (bt124.1, bt129.2.1, bt129.2.2))))))
theorem spec_l1Cur_ages.mono_l : ∀ k, (∀ y0 y1 y2 y3, LeO (spec_l1Cur_ages.l0 k y0 y1 y2 y3) (spec_l1Cur_ages.l0 (k + 1) y0 y1 y2 y3))
 | 0 => fun _ _ _ _ r h => by simp [spec_l1Cur_ages.l0] at h
 | k + 1 => by
  have ih0 := spec_l1Cur_ages.mono_l k
  ·
   intro y0 y1 y2 y3
   unfold spec_l1Cur_ages.l0
   repeat' first
   | (with_reducible exact ih0 _ _ _ _)
   | (with_reducible exact spec_l1Cur_sureAges.mono _ _ _ _)
   | (with_reducible exact LeO.refl _)
   | (with_reducible exact LeO.none _)
   | (with_reducible refine LeO.ite ?_ ?_)
   | (with_reducible refine LeO.bind ?_ (fun _ => ?_))
theorem spec_l1Cur_ages.mono : ∀ a0 a1 a2 k, LeO (spec_l1Cur_ages.f k a0 a1 a2) (spec_l1Cur_ages.f (k + 1) a0 a1 a2) := by
 intro a0 a1 a2 k
 have ih0 := spec_l1Cur_ages.mono_l k
 unfold spec_l1Cur_ages.f
 repeat' first
   | (with_reducible exact ih0 _ _ _ _)
   | (with_reducible exact spec_l1Cur_sureAges.mono _ _ _ _)
   | (with_reducible exact LeO.refl _)
   | (with_reducible exact LeO.none _)
   | (with_reducible refine LeO.ite ?_ ?_)
   | (with_reducible refine LeO.bind ?_ (fun _ => ?_))
set_option maxHeartbeats 8000000 in
set_option maxRecDepth 100000 in
theorem spec_l1Cur_ages.calls (k : Nat) (g : Nat) (s0_0 : List Int) (s0_1 : Int) (s0_2 : Int) (r1 : List Int) (r2 : Int) (r3 : Int) (w0 w : World) (hI : IsS69 w0 w g s0_0 s0_1 s0_2) (hB : Below w0.heap.size w0 w) (h : spec_l1Cur_ages.f k s0_0 s0_1 s0_2 = some (r1, r2, r3)) :
  Calls Tryz.prog 66 #[.pointer (some ⟨g, 0, none⟩)] w fun e w' => ∃ v0_ : Value, e = .returned (v0_) ∧ Kd.R (Kd.int .i64) 3 w' w.heap.size (fun _ => True) v0_ r1 ∧ IsS69 w0 w' g s0_0 r2 r3 ∧ Below w0.heap.size w0 w' ∧ KeepBut w w' g none := by
 have HI0 := aM hI
 have HK := aM (KeepBut.refl w g none)
 have HL := aM hB.size
 clear hI
 have HW0 := aM hB.size
 have HB := aM hB
 clear hB
 have H : ((spec_l1Cur_sureAges.f k s0_0 s0_1 s0_2).bind fun bt124 => ((spec_l1Cur_pick.f s0_0 bt124.2.1 bt124.2.2 14).bind fun bt129 => (if bt129.1 = 0 then (some (([] : List Int), bt129.2.1, bt129.2.2)) else (if bt129.1 = 1 then ((spec_l1Cur_among.f s0_0 bt129.2.1 bt129.2.2 (([(-1), 120, 121, 4611686018427387904] : List Int))).bind fun bt135 => (if 0 < (bt124.1.length : Int) then (some ((bt124.1.set (0 : Int).toNat bt135.1), bt135.2.1, bt135.2.2)) else (none))) else (if bt129.1 = 2 then (spec_l1Cur_ages.l0 k bt124.1 s0_0 bt129.2.1 bt129.2.2) else (some (bt124.1, bt129.2.1, bt129.2.2))))))) = some (r1, r2, r3) := h
 clear h
 replace H := oB H
 obtain ⟨⟨t124, t127, t128⟩, A20, H⟩ := H
 (try dsimp only at H)
 have A2 := aM A20
 clear A20
 replace H := oB H
 obtain ⟨⟨t129, t130, t131⟩, A30, H⟩ := H
 (try dsimp only at H)
 have A3 := aM A30
 clear A30
 by_cases c4 : t129 = 0
 ·
  rw [if_pos c4] at H
  have c4b0 : (t129 == 0) = true := beq_iff_eq.mpr c4
  have c4b1 : (t129 != 0) = false := bne_eq_false_iff_eq.mpr c4
  clear c4
  simp only [Option.some.injEq, Prod.mk.injEq] at H
  obtain ⟨rfl, rfl, rfl⟩ := H
  go_enter Tryz.func66, Tryz.ntmps66
  go_wp2_with (first | ((with_reducible refine gate_callee (f := 75) rfl ?_); refine gL 5 Tryz.func75 #[.pointer (some ⟨g, 0, none⟩)] rfl rfl rfl rfl ?_; (with_reducible refine (spec_l1Cur_sureAges.calls k g s0_0 s0_1 s0_2 t124 t127 t128 w0 _ ?side1 ?side2 A2.out).mono ?_); (case side1 => exact iQ HI0.out); (case side2 => exact bI HI0.out HB.out); rintro e w5 ⟨v125, rfl, ho0, hi, hb, hk⟩; refine ⟨_, rfl, ?_⟩; have HO126 := aM (Kd.R_lower ho0 (keep_size (w := w) (g := g) (row := none) (kQ HK.out))); replace HK := aM (KeepBut.trans (kQ HK.out) hk (.inl rfl)); replace HB := aM (hb); replace HI0 := aM (hi); (try clear hb hk hi ho0)) | ((with_reducible refine gate_callee (f := 91) rfl ?_); refine gL 7 Tryz.func91 #[.pointer (some ⟨g, 0, none⟩), .int .i64 14] rfl rfl rfl rfl ?_; (with_reducible refine (spec_l1Cur_pick.calls g s0_0 t127 t128 14 t129 t130 t131 w0 _ ?side1 ?side2 A3.out).mono ?_); (case side1 => exact iQ HI0.out); (case side2 => exact bI HI0.out HB.out); rintro e w6 ⟨rfl, hi, hb, hk⟩; refine ⟨_, rfl, ?_⟩; replace HO126 := aM (Kd.R_mono (Kd.R_keep (IsS69.apart (show IsS69 w0 _ g s0_0 t127 t128 from iQ HI0.out) (rQ HO126.out) (by decide)) hk (fun _ h => h.2)) (fun _ h => h.1)); replace HK := aM (KeepBut.trans (kQ HK.out) hk (.inl rfl)); replace HB := aM (hb); replace HI0 := aM (hi); (try clear hb hk hi)))
  go_ret
  exact ⟨_, erQ, by first | exact Kd.R_nil _ _ _ _ _ | exact Kd.N_nil _ _ _ _ _ | exact Kd.V_nil _ _ _ _ _ | exact Kd.Q_nil _ _ _ _ _ | exact Kd.S_nil _ _ _ _ _, iQ HI0.out, bI HI0.out HB.out, kQ HK.out⟩
 ·
  rw [if_neg c4] at H
  have c4b0 : (t129 == 0) = false := beq_eq_false_iff_ne.mpr c4
  have c4b1 : (t129 != 0) = true := bne_iff_ne.mpr c4
  by_cases c7 : t129 = 1
  ·
   rw [if_pos c7] at H
   have c7b0 : (t129 == 1) = true := beq_iff_eq.mpr c7
   have c7b1 : (t129 != 1) = false := bne_eq_false_iff_eq.mpr c7
   clear c7
   obtain ⟨y132, hy132⟩ : ∃ y_ : List Int, y_ = (([(-1), 120, 121, 4611686018427387904] : List Int)) := ⟨_, rfl⟩
   replace H : ((spec_l1Cur_among.f s0_0 t130 t131 y132).bind fun bt135 => (if 0 < (t124.length : Int) then (some ((t124.set (0 : Int).toNat bt135.1), bt135.2.1, bt135.2.2)) else (none))) = some (r1, r2, r3) := by first | (rw [hy132]; with_reducible exact H) | (have H2_ := (Option.bind_some _ _).symm.trans H; rw [hy132]; with_reducible exact H2_) | (have H2_ := (Option.bind_some _ _).symm.trans H; with_reducible exact H2_) | with_reducible exact H | (rw [hy132]; exact H) | exact H
   have Ny132 := aM hy132
   clear hy132
   replace H := oB H
   obtain ⟨⟨t135, t136, t137⟩, A80, H⟩ := H
   (try dsimp only at H)
   have A8 := aM A80
   clear A80
   by_cases c9 : 0 < (t124.length : Int)
   case neg =>
    rw [if_neg c9] at H
    exact nS H
   rw [if_pos c9] at H
   have c9b0 : decide (0 < (t124.length : Int)) = true := decide_eq_true c9
   have c9b1 : decide (0 < t124.length) = true := decide_eq_true (by omega)
   clear c9
   obtain ⟨y138, hy138⟩ : ∃ y_ : List Int, y_ = (t124.set (0 : Int).toNat t135) := ⟨_, rfl⟩
   replace H : (some (y138, t136, t137)) = some (r1, r2, r3) := by first | (rw [hy138]; with_reducible exact H) | (have H2_ := (Option.bind_some _ _).symm.trans H; rw [hy138]; with_reducible exact H2_) | (have H2_ := (Option.bind_some _ _).symm.trans H; with_reducible exact H2_) | with_reducible exact H | (rw [hy138]; exact H) | exact H
   have Ny138 := aM hy138
   clear hy138
   simp only [Option.some.injEq, Prod.mk.injEq] at H
   obtain ⟨rfl, rfl, rfl⟩ := H
   go_enter Tryz.func66, Tryz.ntmps66
   go_wp2_with (first | ((with_reducible refine gate_callee (f := 75) rfl ?_); refine gL 5 Tryz.func75 #[.pointer (some ⟨g, 0, none⟩)] rfl rfl rfl rfl ?_; (with_reducible refine (spec_l1Cur_sureAges.calls k g s0_0 s0_1 s0_2 t124 t127 t128 w0 _ ?side1 ?side2 A2.out).mono ?_); (case side1 => exact iQ HI0.out); (case side2 => exact bI HI0.out HB.out); rintro e w11 ⟨v125, rfl, ho0, hi, hb, hk⟩; refine ⟨_, rfl, ?_⟩; have HO126 := aM (Kd.R_lower ho0 (keep_size (w := w) (g := g) (row := none) (kQ HK.out))); replace HK := aM (KeepBut.trans (kQ HK.out) hk (.inl rfl)); replace HB := aM (hb); replace HI0 := aM (hi); (try clear hb hk hi ho0)) | ((with_reducible refine gate_callee (f := 91) rfl ?_); refine gL 7 Tryz.func91 #[.pointer (some ⟨g, 0, none⟩), .int .i64 14] rfl rfl rfl rfl ?_; (with_reducible refine (spec_l1Cur_pick.calls g s0_0 t127 t128 14 t129 t130 t131 w0 _ ?side1 ?side2 A3.out).mono ?_); (case side1 => exact iQ HI0.out); (case side2 => exact bI HI0.out HB.out); rintro e w12 ⟨rfl, hi, hb, hk⟩; refine ⟨_, rfl, ?_⟩; replace HO126 := aM (Kd.R_mono (Kd.R_keep (IsS69.apart (show IsS69 w0 _ g s0_0 t127 t128 from iQ HI0.out) (rQ HO126.out) (by decide)) hk (fun _ h => h.2)) (fun _ h => h.1)); replace HK := aM (KeepBut.trans (kQ HK.out) hk (.inl rfl)); replace HB := aM (hb); replace HI0 := aM (hi); (try clear hb hk hi)) | ((with_reducible refine gate_dst (N := 14) rfl ?_); refine Kd.R_lit (Kd.int .i64) _ 3 ?hg (N := 14) ?hd (xs := ([(-1), 120, 121, 4611686018427387904] : List Int)) (inner := [.int .i64 (-1), .int .i64 120, .int .i64 121, .int .i64 4611686018427387904]) (ok := fun _ => True) (okp := fun _ => True) ?hr ?hp (fun _ hk => hk) trivial (Below.refl _ _) (Nat.le_refl _) (by simp) ?_; (case hd => rfl); (case hg => rfl); (case hr => first | (go_simp; done) | (go_simp; rfl)); (case hp => exact (Reps.one (show Kd.M (Kd.int .i64) _ _ _ (-1) [.int .i64 (-1)] from rfl) (Reps.one (show Kd.M (Kd.int .i64) _ _ _ 120 [.int .i64 120] from rfl) (Reps.one (show Kd.M (Kd.int .i64) _ _ _ 121 [.int .i64 121] from rfl) (Reps.one (show Kd.M (Kd.int .i64) _ _ _ 4611686018427387904 [.int .i64 4611686018427387904] from rfl) (Reps.none _ _)))))); intro v133 w13 ho14 hb hg_ hnew_; clear hg_ hnew_; (first | rw [← Ny132.out] at ho14 | (simp only [Int.reduceToNat] at ho14; rw [← Ny132.out] at ho14)); have HO134 := aM (Kd.R_lower (Kd.R_new' ho14 (Kd.R_lt (rQ HO126.out))) (keep_size (w := w) (g := g) (row := none) (kQ HK.out))); replace HO126 := aM (Kd.R_elder' (rQ HO126.out) (Kd.R_base ho14) hb); replace HK := aM (KeepBut.trans (kQ HK.out) (KeepBut.of_below hb g none) (.inl rfl)); replace HB := aM (below_step (bI HI0.out HB.out) hb); replace HI0 := aM (IsS69.below (iQ HI0.out) hb); clear hb ho14; obtain ⟨Ao15, co15, eo15⟩ := Kd.R_slice HO134.out; subst eo15) | ((with_reducible refine gate_callee (f := 65) rfl ?_); refine gL 15 Tryz.func65 #[.pointer (some ⟨g, 0, none⟩), .slice Ao15 y132.length co15] rfl rfl rfl rfl ?_; (with_reducible refine (spec_l1Cur_among.calls g s0_0 t130 t131 _ _ y132 t135 t136 t137 w0 _ ?side1 ?side2 ?side3 ?side4 ?side5 A8.out).mono ?_); (case side1 => exact iQ HI0.out); (case side2 => exact bI HI0.out HB.out); (case side3 => exact cQ ((Kd.R_reads' HO134.out).2.2)); (case side4 => exact (Kd.R_reads' HO134.out).2.1); (case side5 => exact far_slice (IsS69.own_ne HI0.out HO134.out (by decide))); rintro e w16 ⟨rfl, hi, hb, hk⟩; refine ⟨_, rfl, ?_⟩; replace HO126 := aM (Kd.R_mono (Kd.R_keep (IsS69.apart (show IsS69 w0 _ g s0_0 t130 t131 from iQ HI0.out) (rQ HO126.out) (by decide)) hk (fun _ h => h.2)) (fun _ h => h.1)); replace HO134 := aM (Kd.R_mono (Kd.R_keep (IsS69.apart (show IsS69 w0 _ g s0_0 t130 t131 from iQ HI0.out) (rQ HO134.out) (by decide)) hk (fun _ h => h.2)) (fun _ h => h.1)); replace HK := aM (KeepBut.trans (kQ HK.out) hk (.inl rfl)); replace HB := aM (hb); replace HI0 := aM (hi); (try clear hb hk hi); have p10 : 0 ≤ (0 : Int) := (by omega); have q10 : (0 : Int) < ((t124.length : Int) : Int) := dA; have qi10 : (0 < t124.length) = True := eq_true (by omega); obtain ⟨go10, co10, eo10, gb10, gl10, cl10, HG10⟩ := Kd.R_form HO126.out (by omega); (first | cases eo10 | (injection eo10 with ea_ en_ ec_; (first | subst ea_ | (injection ea_ with ea_; subst ea_)); subst ec_; clear en_)); have GB10 := aM gb10; have GG10 := aM HG10; clear gb10 gl10 HG10; obtain ⟨hx10_0, hf10_0⟩ := Kd.R_celln 0 HO126.out (0 : Int) p10 q10; (try rw [show ((0 : Int)).toNat = 0 from rfl] at hx10_0); (try simp only [Nat.reduceMul, Nat.zero_mul, Nat.zero_add, Nat.reduceAdd] at hx10_0); (try rw [show ((0 : Int)).toNat = 0 from rfl] at hf10_0); (try simp only [Nat.reduceMul, Nat.zero_mul, Nat.zero_add, Nat.reduceAdd] at hf10_0); replace p10 := eq_true p10; replace q10 := eq_true q10; have n_ := aM (Kd.R_mono (ok' := (fun k_ => some k_ ≠ (.slice Ao15 y132.length co15 : Value).ownBlock)) HO126.out (fun k_ hk => hk.2)); clear HO126; have HO126 := n_; clear n_; obtain ⟨hy17_, hz17_⟩ := Kd.R_celln 0 HO126.out (0 : Int) (by omega) (dA); (try simp only [Int.reduceToNat, Int.toNat_zero, Int.toNat_ofNat, Nat.reduceMul, Nat.zero_mul, Nat.zero_add] at hy17_ hz17_); (try rw [show ((0 : Int)).toNat = 0 from rfl] at hy17_); (try rw [show ((0 : Int)).toNat = 0 from rfl] at hz17_); have HP17 := Kd.R_putg HO126.out (0 : Int) t135) | ((with_reducible refine gate_store (t := 3) (p := 16) rfl ?_); refine store_event (t := 3) (p := 16) (v := ?vo_w18) (w1 := (w16.setCell ⟨go10, (0 : Int).toNat, none⟩ (.int .i64 t135))) ?hg ?ho ?hn ?hr ?_; (case ho => rfl); (case hg => rfl); (case hn => rfl); (case hr => first | (go_simp; done) | (go_simp; rfl)); intro w18 hw; have hg : w16.grownBy w18 (some go10) := (by rw [hw]; exact HP17.2); have hp_ : Kd.R (Kd.int .i64) 3 w18 w.heap.size (fun k_ => some k_ ≠ (.slice Ao15 y132.length co15 : Value).ownBlock) (.slice (some ⟨go10, 0, none⟩) t124.length co10) y138 := (by rw [hw, Ny138.out]; exact HP17.1); clear HP17; replace HI0 := aM (IsS69.grown (iQ HI0.out) hg (IsS69.own_ne HI0.out HO126.out (by decide))); replace HO134 := aM (Kd.R_after (v := (.slice (some ⟨go10, 0, none⟩) t124.length co10)) (v1 := (.slice (some ⟨go10, 0, none⟩) t124.length co10)) (ok := (fun _ => True)) (rQ HO134.out) hg (.inl rfl)); replace HB := aM ((by rw [hw]; exact below_set (HB.out) (Nat.le_trans HL.out GB10.out) : Below w0.heap.size w0 w18)); replace HK := aM (KeepBut.trans (kQ HK.out) (KeepBut.of_grown hg g) (Kd.R_base2 HO126.out)); replace HO126 := aM (hp_); clear hg hw hp_))
   go_ret
   exact ⟨_, erQ, by (with_reducible repeat (first | apply Kd.R_alloc | apply Kd.R_drewN | apply Kd.R_drew)); exact Kd.R_mono HO126.out (fun _ hk => trivial), iQ HI0.out, bI HI0.out HB.out, kQ HK.out⟩
  ·
   rw [if_neg c7] at H
   have c7b0 : (t129 == 1) = false := beq_eq_false_iff_ne.mpr c7
   have c7b1 : (t129 != 1) = true := bne_iff_ne.mpr c7
   by_cases c19 : t129 = 2
   ·
    rw [if_pos c19] at H
    have c19b0 : (t129 == 2) = true := beq_iff_eq.mpr c19
    have c19b1 : (t129 != 2) = false := bne_eq_false_iff_eq.mpr c19
    clear c19
    have H' := aM H
    clear H
    go_enter Tryz.func66, Tryz.ntmps66
    go_wp2_with (first | ((with_reducible refine gate_callee (f := 75) rfl ?_); refine gL 5 Tryz.func75 #[.pointer (some ⟨g, 0, none⟩)] rfl rfl rfl rfl ?_; (with_reducible refine (spec_l1Cur_sureAges.calls k g s0_0 s0_1 s0_2 t124 t127 t128 w0 _ ?side1 ?side2 A2.out).mono ?_); (case side1 => exact iQ HI0.out); (case side2 => exact bI HI0.out HB.out); rintro e w20 ⟨v125, rfl, ho0, hi, hb, hk⟩; refine ⟨_, rfl, ?_⟩; have HO126 := aM (Kd.R_lower ho0 (keep_size (w := w) (g := g) (row := none) (kQ HK.out))); replace HK := aM (KeepBut.trans (kQ HK.out) hk (.inl rfl)); replace HB := aM (hb); replace HI0 := aM (hi); (try clear hb hk hi ho0)) | ((with_reducible refine gate_callee (f := 91) rfl ?_); refine gL 7 Tryz.func91 #[.pointer (some ⟨g, 0, none⟩), .int .i64 14] rfl rfl rfl rfl ?_; (with_reducible refine (spec_l1Cur_pick.calls g s0_0 t127 t128 14 t129 t130 t131 w0 _ ?side1 ?side2 A3.out).mono ?_); (case side1 => exact iQ HI0.out); (case side2 => exact bI HI0.out HB.out); rintro e w21 ⟨rfl, hi, hb, hk⟩; refine ⟨_, rfl, ?_⟩; replace HO126 := aM (Kd.R_mono (Kd.R_keep (IsS69.apart (show IsS69 w0 _ g s0_0 t127 t128 from iQ HI0.out) (rQ HO126.out) (by decide)) hk (fun _ h => h.2)) (fun _ h => h.1)); replace HK := aM (KeepBut.trans (kQ HK.out) hk (.inl rfl)); replace HB := aM (hb); replace HI0 := aM (hi); (try clear hb hk hi)))
    go_loopg [3] k (fun kq v3 w' => ∃ (x3_1 : List Int) (x1001_1 : Int) (x1002_1 : Int), Aside0 (spec_l1Cur_ages.l0 kq x3_1 s0_0 x1001_1 x1002_1 = some (r1, r2, r3)) ∧ Aside0 (kq ≤ k) ∧ Aside0 (Kd.R (Kd.int .i64) 3 w' w.heap.size (fun _ => True) v3 x3_1) ∧ Aside0 (IsS69 w0 w' g s0_0 x1001_1 x1002_1) ∧ Aside0 (KeepBut w w' g none) ∧ Aside0 (Below w0.heap.size w0 w'))
    case atStart => exact ⟨(t124), (t130), (t131), H', ⟨Nat.le_refl _⟩, ⟨rQ HO126.out⟩, ⟨iQ HI0.out⟩, ⟨kQ HK.out⟩, ⟨bI HI0.out HB.out⟩⟩
    case round =>
     clear H'
     try clear c1
     try clear p1
     try clear q1
     try clear hx1
     try clear qi1
     try clear hf1
     try clear p2
     try clear c4
     try clear c4b0
     try clear c4b1
     try clear c6
     try clear c7
     try clear c7b0
     try clear c7b1
     try clear c9
     try clear c9b0
     try clear c9b1
     try clear p10
     try clear q10
     try clear hx10
     try clear qi10
     try clear hf10
     try clear c19
     try clear c19b0
     try clear c19b1
     try clear hx10_0
     try clear p10
     try clear q10
     obtain ⟨x3_1, x1001_1, x1002_1, HA, HK1, HO_3, HI0, HK, HB⟩ := hrel
     cases gk with
     | zero => exact absurd HA.out (by simp [spec_l1Cur_ages.l0])
     | succ k1 =>
      have H := HA.out
      clear HA
      simp only [spec_l1Cur_ages.l0] at H
      replace H := oB H
      obtain ⟨⟨t139, t140, t141⟩, A220, H⟩ := H
      (try dsimp only at H)
      have A22 := aM A220
      clear A220
      by_cases c23 : (x3_1.length : Int) < (wrap64 (8 + t139))
      ·
       rw [if_pos c23] at H
       have c23b0 : decide ((x3_1.length : Int) < (wrap64 (8 + t139))) = true := decide_eq_true c23
       clear c23
       replace H := oB H
       obtain ⟨⟨t142, t143, t144⟩, A240, H⟩ := H
       (try dsimp only at H)
       have A24 := aM A240
       clear A240
       by_cases c25 : x3_1.length < 17592186044416
       case neg =>
        rw [if_neg c25] at H
        exact nS H
       rw [if_pos c25] at H
       have LMc25 := aM c25
       clear c25
       obtain ⟨y145, hy145⟩ : ∃ y_ : List Int, y_ = (x3_1 ++ [t142]) := ⟨_, rfl⟩
       replace H : (spec_l1Cur_ages.l0 k1 y145 s0_0 t143 t144) = some (r1, r2, r3) := by first | (rw [hy145]; with_reducible exact H) | (have H2_ := (Option.bind_some _ _).symm.trans H; rw [hy145]; with_reducible exact H2_) | (have H2_ := (Option.bind_some _ _).symm.trans H; with_reducible exact H2_) | with_reducible exact H | (rw [hy145]; exact H) | exact H
       have Ny145 := aM hy145
       clear hy145
       have H' := aM H
       clear H
       obtain ⟨Ao26, co26, eo26⟩ := Kd.R_slice HO_3.out
       subst eo26
       go_wp2_with (first | ((with_reducible refine gate_callee (f := 91) rfl ?_); refine gL 22 Tryz.func91 #[.pointer (some ⟨g, 0, none⟩), .int .i64 2] rfl rfl rfl rfl ?_; (with_reducible refine (spec_l1Cur_pick.calls g s0_0 x1001_1 x1002_1 2 t139 t140 t141 w0 _ ?side1 ?side2 A22.out).mono ?_); (case side1 => exact iQ HI0.out); (case side2 => exact bI HI0.out HB.out); rintro e w27 ⟨rfl, hi, hb, hk⟩; refine ⟨_, rfl, ?_⟩; replace HO_3 := aM (Kd.R_mono (Kd.R_keep (IsS69.apart (show IsS69 w0 _ g s0_0 x1001_1 x1002_1 from iQ HI0.out) (rQ HO_3.out) (by decide)) hk (fun _ h => h.2)) (fun _ h => h.1)); replace HK := aM (KeepBut.trans (kQ HK.out) hk (.inl rfl)); replace HB := aM (hb); replace HI0 := aM (hi); (try clear hb hk hi)) | ((with_reducible refine gate_callee (f := 91) rfl ?_); refine gL 27 Tryz.func91 #[.pointer (some ⟨g, 0, none⟩), .int .i64 50] rfl rfl rfl rfl ?_; (with_reducible refine (spec_l1Cur_pick.calls g s0_0 t140 t141 50 t142 t143 t144 w0 _ ?side1 ?side2 A24.out).mono ?_); (case side1 => exact iQ HI0.out); (case side2 => exact bI HI0.out HB.out); rintro e w28 ⟨rfl, hi, hb, hk⟩; refine ⟨_, rfl, ?_⟩; replace HO_3 := aM (Kd.R_mono (Kd.R_keep (IsS69.apart (show IsS69 w0 _ g s0_0 t140 t141 from iQ HI0.out) (rQ HO_3.out) (by decide)) hk (fun _ h => h.2)) (fun _ h => h.1)); replace HK := aM (KeepBut.trans (kQ HK.out) hk (.inl rfl)); replace HB := aM (hb); replace HI0 := aM (hi); (try clear hb hk hi)) | ((with_reducible refine gate_builtin (b := .append) (xs := #[.tmp 25, .tmp 28]) rfl ?_); at_builtin; refine Kd.R_append (Kd.int .i64) w.heap.size rfl (.tmp 25) (.tmp 28) 24 3 (.int .i64 0) 8 rfl Tryz.underlying24 info3 rfl (by decide) (by omega) (.slice Ao26 x3_1.length co26) x3_1 t142 [.int .i64 t142] (fun _ => True) (fun _ => False) rfl rfl ?aP (fun _ hk => hk.elim) ?aF ?aO (Below.refl _ _) ?aS ?aL ?_; (case aP => exact rfl); (case aF => exact (fun _ _ => trivial)); (case aO => exact (rQ HO_3.out)); (case aS => exact (keep_size (w := w) (g := g) (row := none) (kQ HK.out))); (case aL => have := LMc25.out; omega); intro v146 w29 ho hb hg hat; rw [← Ny145.out] at ho; replace HB := aM (below_weaken (bI HI0.out HB.out) HL.out hb); replace HI0 := aM (IsS69.grown (iQ HI0.out) hg (IsS69.own_ne HI0.out HO_3.out (by decide))); replace HK := aM (KeepBut.trans (kQ HK.out) (KeepBut.of_grown hg g) (Kd.R_base2 HO_3.out)); have HO147 := aM (ho); clear HO_3; clear ho hb hg hat))
       go_roundg k1
       case measure => have := HK1.out; omega
       case rel => exact ⟨(y145), (t143), (t144), H', ⟨by have := HK1.out; omega⟩, ⟨rQ HO147.out⟩, ⟨iQ HI0.out⟩, ⟨kQ HK.out⟩, ⟨bI HI0.out HB.out⟩⟩
      ·
       rw [if_neg c23] at H
       have c23b0 : decide ((x3_1.length : Int) < (wrap64 (8 + t139))) = false := decide_eq_false c23
       clear c23
       simp only [Option.some.injEq, Prod.mk.injEq] at H
       obtain ⟨rfl, rfl, rfl⟩ := H
       obtain ⟨Ao30, co30, eo30⟩ := Kd.R_slice HO_3.out
       subst eo30
       go_wp2_with (first | ((with_reducible refine gate_callee (f := 91) rfl ?_); refine gL 22 Tryz.func91 #[.pointer (some ⟨g, 0, none⟩), .int .i64 2] rfl rfl rfl rfl ?_; (with_reducible refine (spec_l1Cur_pick.calls g s0_0 x1001_1 x1002_1 2 t139 t140 t141 w0 _ ?side1 ?side2 A22.out).mono ?_); (case side1 => exact iQ HI0.out); (case side2 => exact bI HI0.out HB.out); rintro e w31 ⟨rfl, hi, hb, hk⟩; refine ⟨_, rfl, ?_⟩; replace HO_3 := aM (Kd.R_mono (Kd.R_keep (IsS69.apart (show IsS69 w0 _ g s0_0 x1001_1 x1002_1 from iQ HI0.out) (rQ HO_3.out) (by decide)) hk (fun _ h => h.2)) (fun _ h => h.1)); replace HK := aM (KeepBut.trans (kQ HK.out) hk (.inl rfl)); replace HB := aM (hb); replace HI0 := aM (hi); (try clear hb hk hi)))
       go_ret
       exact ⟨_, erQ, rQ HO_3.out, iQ HI0.out, bI HI0.out HB.out, kQ HK.out⟩
   ·
    rw [if_neg c19] at H
    have c19b0 : (t129 == 2) = false := beq_eq_false_iff_ne.mpr c19
    have c19b1 : (t129 != 2) = true := bne_iff_ne.mpr c19
    simp only [Option.some.injEq, Prod.mk.injEq] at H
    obtain ⟨rfl, rfl, rfl⟩ := H
    go_enter Tryz.func66, Tryz.ntmps66
    go_wp2_with (first | ((with_reducible refine gate_callee (f := 75) rfl ?_); refine gL 5 Tryz.func75 #[.pointer (some ⟨g, 0, none⟩)] rfl rfl rfl rfl ?_; (with_reducible refine (spec_l1Cur_sureAges.calls k g s0_0 s0_1 s0_2 t124 t127 t128 w0 _ ?side1 ?side2 A2.out).mono ?_); (case side1 => exact iQ HI0.out); (case side2 => exact bI HI0.out HB.out); rintro e w32 ⟨v125, rfl, ho0, hi, hb, hk⟩; refine ⟨_, rfl, ?_⟩; have HO126 := aM (Kd.R_lower ho0 (keep_size (w := w) (g := g) (row := none) (kQ HK.out))); replace HK := aM (KeepBut.trans (kQ HK.out) hk (.inl rfl)); replace HB := aM (hb); replace HI0 := aM (hi); (try clear hb hk hi ho0)) | ((with_reducible refine gate_callee (f := 91) rfl ?_); refine gL 7 Tryz.func91 #[.pointer (some ⟨g, 0, none⟩), .int .i64 14] rfl rfl rfl rfl ?_; (with_reducible refine (spec_l1Cur_pick.calls g s0_0 t127 t128 14 t129 t130 t131 w0 _ ?side1 ?side2 A3.out).mono ?_); (case side1 => exact iQ HI0.out); (case side2 => exact bI HI0.out HB.out); rintro e w33 ⟨rfl, hi, hb, hk⟩; refine ⟨_, rfl, ?_⟩; replace HO126 := aM (Kd.R_mono (Kd.R_keep (IsS69.apart (show IsS69 w0 _ g s0_0 t127 t128 from iQ HI0.out) (rQ HO126.out) (by decide)) hk (fun _ h => h.2)) (fun _ h => h.1)); replace HK := aM (KeepBut.trans (kQ HK.out) hk (.inl rfl)); replace HB := aM (hb); replace HI0 := aM (hi); (try clear hb hk hi)))
    go_ret
    exact ⟨_, erQ, rQ HO126.out, iQ HI0.out, bI HI0.out HB.out, kQ HK.out⟩

/-! ### spec_l1Cur_person: function 67 -/
def spec_l1Cur_person.f (s0_0 : List Int) (s0_1 : Int) (s0_2 : Int) (l1 : List Int) : Option (Int × Int × Int) := (spec_l1Cur_pick.f s0_0 s0_1 s0_2 (wrap64 ((l1.length : Int) + 1))).bind fun bt148 => ((spec_l1Cur_pick.f s0_0 bt148.2.1 bt148.2.2 16).bind fun bt151 => (some (wrap64 (bt148.1 - (wrap64 (Int.tdiv bt151.1 15))), bt151.2.1, bt151.2.2)))
set_option maxHeartbeats 8000000 in
set_option maxRecDepth 100000 in
theorem spec_l1Cur_person.calls (g : Nat) (s0_0 : List Int) (s0_1 : Int) (s0_2 : Int) (A1 : Option Addr) (c1 : Nat) (l1 : List Int) (r1 : Int) (r2 : Int) (r3 : Int) (w0 w : World) (hI : IsS69 w0 w g s0_0 s0_1 s0_2) (hB : Below w0.heap.size w0 w) (hr1 : Kd.C (Kd.int .i64) w A1 l1.length l1) (hc1 : l1.length ≤ c1) (hf1 : ∀ ad, A1 = some ad → 0 < l1.length → ad.block ≠ g) (h : spec_l1Cur_person.f s0_0 s0_1 s0_2 l1 = some (r1, r2, r3)) :
  Calls Tryz.prog 67 #[.pointer (some ⟨g, 0, none⟩), .slice A1 l1.length c1] w fun e w' => e = .returned (.int .i64 r1) ∧ IsS69 w0 w' g s0_0 r2 r3 ∧ Below w0.heap.size w0 w' ∧ KeepBut w w' g none := by
 have HR1 := aM hr1
 have HC1 := aM hc1
 clear hr1 hc1
 have HI0 := aM hI
 have HK := aM (KeepBut.refl w g none)
 have HL := aM hB.size
 clear hI
 have HW0 := aM hB.size
 have HB := aM hB
 clear hB
 have H : ((spec_l1Cur_pick.f s0_0 s0_1 s0_2 (wrap64 ((l1.length : Int) + 1))).bind fun bt148 => ((spec_l1Cur_pick.f s0_0 bt148.2.1 bt148.2.2 16).bind fun bt151 => (some (wrap64 (bt148.1 - (wrap64 (Int.tdiv bt151.1 15))), bt151.2.1, bt151.2.2)))) = some (r1, r2, r3) := h
 clear h
 replace H := oB H
 obtain ⟨⟨t148, t149, t150⟩, A30, H⟩ := H
 (try dsimp only at H)
 have A3 := aM A30
 clear A30
 replace H := oB H
 obtain ⟨⟨t151, t152, t153⟩, A40, H⟩ := H
 (try dsimp only at H)
 have A4 := aM A40
 clear A40
 simp only [Option.some.injEq, Prod.mk.injEq] at H
 obtain ⟨rfl, rfl, rfl⟩ := H
 go_enter Tryz.func67, Tryz.ntmps67
 go_wp2_with (first | ((with_reducible refine gate_callee (f := 91) rfl ?_); refine gL 9 Tryz.func91 #[.pointer (some ⟨g, 0, none⟩), .int .i64 (wrap64 ((l1.length : Int) + 1))] rfl rfl rfl rfl ?_; (with_reducible refine (spec_l1Cur_pick.calls g s0_0 s0_1 s0_2 (wrap64 ((l1.length : Int) + 1)) t148 t149 t150 w0 _ ?side1 ?side2 A3.out).mono ?_); (case side1 => exact iQ HI0.out); (case side2 => exact bI HI0.out HB.out); rintro e w5 ⟨rfl, hi, hb, hk⟩; refine ⟨_, rfl, ?_⟩; replace HK := aM (KeepBut.trans (kQ HK.out) hk (.inl rfl)); replace HB := aM (hb); replace HI0 := aM (hi); (try clear hb hk hi)) | ((with_reducible refine gate_callee (f := 91) rfl ?_); refine gL 11 Tryz.func91 #[.pointer (some ⟨g, 0, none⟩), .int .i64 16] rfl rfl rfl rfl ?_; (with_reducible refine (spec_l1Cur_pick.calls g s0_0 t149 t150 16 t151 t152 t153 w0 _ ?side1 ?side2 A4.out).mono ?_); (case side1 => exact iQ HI0.out); (case side2 => exact bI HI0.out HB.out); rintro e w6 ⟨rfl, hi, hb, hk⟩; refine ⟨_, rfl, ?_⟩; replace HK := aM (KeepBut.trans (kQ HK.out) hk (.inl rfl)); replace HB := aM (hb); replace HI0 := aM (hi); (try clear hb hk hi)))
 go_ret
 exact ⟨erQ, iQ HI0.out, bI HI0.out HB.out, kQ HK.out⟩

/-! ### spec_DrawTimesOlder: function 41 -/
def spec_DrawTimesOlder.f (k : Nat) (l0 : List Int) : Option (List Int × Int × Int) := (spec_l1Cur_ages.f k l0 0 0).bind fun bt155 => ((spec_l1Cur_person.f l0 bt155.2.1 bt155.2.2 bt155.1).bind fun bt160 => ((spec_l1Cur_person.f l0 bt160.2.1 bt160.2.2 bt155.1).bind fun bt163 => (some (bt155.1, bt160.1, bt163.1))))
theorem spec_DrawTimesOlder.mono : ∀ a0 k, LeO (spec_DrawTimesOlder.f k a0) (spec_DrawTimesOlder.f (k + 1) a0) := by
 intro a0 k
 unfold spec_DrawTimesOlder.f
 repeat' first
   | (with_reducible exact spec_l1Cur_ages.mono _ _ _ _)
   | (with_reducible exact LeO.refl _)
   | (with_reducible exact LeO.none _)
   | (with_reducible refine LeO.ite ?_ ?_)
   | (with_reducible refine LeO.bind ?_ (fun _ => ?_))
set_option maxHeartbeats 8000000 in
set_option maxRecDepth 100000 in
theorem spec_DrawTimesOlder.calls (k : Nat) (A0 : Option Addr) (c0 : Nat) (l0 : List Int) (r1 : List Int) (r2 : Int) (r3 : Int) (w : World) (hr0 : Kd.C (Kd.int .u8) w A0 l0.length l0) (hc0 : l0.length ≤ c0) (h : spec_DrawTimesOlder.f k l0 = some (r1, r2, r3)) :
  Calls Tryz.prog 41 #[.slice A0 l0.length c0] w fun e w' => ∃ v0_ : Value, e = .returned (.tuple #[v0_, .int .i64 r2, .int .i64 r3]) ∧ Kd.R (Kd.int .i64) 3 w' w.heap.size (fun _ => True) v0_ r1 ∧ Below w.heap.size w w' := by
 have hu69 := Tryz.underlying69
 have HR0 := aM hr0
 have HC0 := aM hc0
 clear hr0 hc0
 have HB := aM (Below.refl w.heap.size w)
 have H : ((spec_l1Cur_ages.f k l0 0 0).bind fun bt155 => ((spec_l1Cur_person.f l0 bt155.2.1 bt155.2.2 bt155.1).bind fun bt160 => ((spec_l1Cur_person.f l0 bt160.2.1 bt160.2.2 bt155.1).bind fun bt163 => (some (bt155.1, bt160.1, bt163.1))))) = some (r1, r2, r3) := h
 clear h
 replace H := oB H
 obtain ⟨⟨t155, t158, t159⟩, A20, H⟩ := H
 (try dsimp only at H)
 have A2 := aM A20
 clear A20
 replace H := oB H
 obtain ⟨⟨t160, t161, t162⟩, A30, H⟩ := H
 (try dsimp only at H)
 have A3 := aM A30
 clear A30
 replace H := oB H
 obtain ⟨⟨t163, t164, t165⟩, A40, H⟩ := H
 (try dsimp only at H)
 have A4 := aM A40
 clear A40
 simp only [Option.some.injEq, Prod.mk.injEq] at H
 obtain ⟨rfl, rfl, rfl⟩ := H
 go_enter Tryz.func41, Tryz.ntmps41
 go_wp2_with (first | ((with_reducible refine gate_dst (N := 10) rfl ?_); refine box_event ?hg (N := 10) ?hd (cs := #[.slice A0 l0.length c0, .int .i64 0, .int .u64 0]) (t := 69) ?hr ?_; (case hd => rfl); (case hg => rfl); (case hr => first | (go_simp; done) | (go_simp; rfl)); intro gb154 hg w5 hbox hb; have HI154 := aM ((⟨_, _, hbox, (by rw [hg]; exact (bZ HB.out) : w.heap.size ≤ gb154), HR0.out⟩ : IsS69 w w5 gb154 l0 0 0)); replace HB := aM (bS HB.out hb); clear hb hbox hg) | ((with_reducible refine gate_callee (f := 66) rfl ?_); refine gL 12 Tryz.func66 #[.pointer (some ⟨gb154, 0, none⟩)] rfl rfl rfl rfl ?_; (with_reducible refine (spec_l1Cur_ages.calls k gb154 l0 0 0 t155 t158 t159 w _ ?side1 ?side2 A2.out).mono ?_); (case side1 => exact iQ HI154.out); (case side2 => exact bI HI154.out HB.out); rintro e w6 ⟨v156, rfl, ho0, hi, hb, hk⟩; refine ⟨_, rfl, ?_⟩; have HO157 := aM (Kd.R_lower ho0 (below_size (bI HI154.out HB.out))); replace HB := aM (hb); replace HI154 := aM (hi); (try clear hb hk hi ho0); obtain ⟨Ao7, co7, eo7⟩ := Kd.R_slice HO157.out; subst eo7) | ((with_reducible refine gate_callee (f := 67) rfl ?_); refine gL 15 Tryz.func67 #[.pointer (some ⟨gb154, 0, none⟩), .slice Ao7 t155.length co7] rfl rfl rfl rfl ?_; (with_reducible refine (spec_l1Cur_person.calls gb154 l0 t158 t159 _ _ t155 t160 t161 t162 w _ ?side1 ?side2 ?side3 ?side4 ?side5 A3.out).mono ?_); (case side1 => exact iQ HI154.out); (case side2 => exact bI HI154.out HB.out); (case side3 => exact cQ ((Kd.R_reads' HO157.out).2.2)); (case side4 => exact (Kd.R_reads' HO157.out).2.1); (case side5 => exact far_slice (IsS69.own_ne HI154.out HO157.out (by decide))); rintro e w8 ⟨rfl, hi, hb, hk⟩; refine ⟨_, rfl, ?_⟩; replace HO157 := aM (Kd.R_mono (Kd.R_keep (IsS69.apart (show IsS69 w _ gb154 l0 t158 t159 from iQ HI154.out) (rQ HO157.out) (by decide)) hk (fun _ h => h.2)) (fun _ h => h.1)); replace HB := aM (hb); replace HI154 := aM (hi); (try clear hb hk hi)) | ((with_reducible refine gate_callee (f := 67) rfl ?_); refine gL 20 Tryz.func67 #[.pointer (some ⟨gb154, 0, none⟩), .slice Ao7 t155.length co7] rfl rfl rfl rfl ?_; (with_reducible refine (spec_l1Cur_person.calls gb154 l0 t161 t162 _ _ t155 t163 t164 t165 w _ ?side1 ?side2 ?side3 ?side4 ?side5 A4.out).mono ?_); (case side1 => exact iQ HI154.out); (case side2 => exact bI HI154.out HB.out); (case side3 => exact cQ ((Kd.R_reads' HO157.out).2.2)); (case side4 => exact (Kd.R_reads' HO157.out).2.1); (case side5 => exact far_slice (IsS69.own_ne HI154.out HO157.out (by decide))); rintro e w9 ⟨rfl, hi, hb, hk⟩; refine ⟨_, rfl, ?_⟩; replace HO157 := aM (Kd.R_mono (Kd.R_keep (IsS69.apart (show IsS69 w _ gb154 l0 t161 t162 from iQ HI154.out) (rQ HO157.out) (by decide)) hk (fun _ h => h.2)) (fun _ h => h.1)); replace HB := aM (hb); replace HI154 := aM (hi); (try clear hb hk hi)))
 go_ret3
 exact ⟨_, erQ, rQ HO157.out, bI HI154.out HB.out⟩

/-! ### spec_DrawAllMultiples: function 5 -/
def spec_DrawAllMultiples.f (k : Nat) (l0 : List Int) : Option (List Int × Int × Int) := (spec_DrawTimesOlder.f k l0).bind fun bt166 => (some (bt166.1, bt166.2.1, bt166.2.2))
theorem spec_DrawAllMultiples.mono : ∀ a0 k, LeO (spec_DrawAllMultiples.f k a0) (spec_DrawAllMultiples.f (k + 1) a0) := by
 intro a0 k
 unfold spec_DrawAllMultiples.f
 repeat' first
   | (with_reducible exact spec_DrawTimesOlder.mono _ _)
   | (with_reducible exact LeO.refl _)
   | (with_reducible exact LeO.none _)
   | (with_reducible refine LeO.ite ?_ ?_)
   | (with_reducible refine LeO.bind ?_ (fun _ => ?_))
set_option maxHeartbeats 8000000 in
set_option maxRecDepth 100000 in
theorem spec_DrawAllMultiples.calls (k : Nat) (A0 : Option Addr) (c0 : Nat) (l0 : List Int) (r1 : List Int) (r2 : Int) (r3 : Int) (w : World) (hr0 : Kd.C (Kd.int .u8) w A0 l0.length l0) (hc0 : l0.length ≤ c0) (h : spec_DrawAllMultiples.f k l0 = some (r1, r2, r3)) :
  Calls Tryz.prog 5 #[.slice A0 l0.length c0] w fun e w' => ∃ v0_ : Value, e = .returned (.tuple #[v0_, .int .i64 r2, .int .i64 r3]) ∧ Kd.R (Kd.int .i64) 3 w' w.heap.size (fun _ => True) v0_ r1 ∧ Below w.heap.size w w' := by
 have HR0 := aM hr0
 have HC0 := aM hc0
 clear hr0 hc0
 have HB := aM (Below.refl w.heap.size w)
 have H : ((spec_DrawTimesOlder.f k l0).bind fun bt166 => (some (bt166.1, bt166.2.1, bt166.2.2))) = some (r1, r2, r3) := h
 clear h
 replace H := oB H
 obtain ⟨⟨t166, t167, t168⟩, A20, H⟩ := H
 (try dsimp only at H)
 have A2 := aM A20
 clear A20
 simp only [Option.some.injEq, Prod.mk.injEq] at H
 obtain ⟨rfl, rfl, rfl⟩ := H
 go_enter Tryz.func5, Tryz.ntmps5
 go_wp2_with (first | ((with_reducible refine gate_callee (f := 41) rfl ?_); refine gL 6 Tryz.func41 #[.slice A0 l0.length c0] rfl rfl rfl rfl ?_; (with_reducible refine (spec_DrawTimesOlder.calls k _ _ l0 t166 t167 t168 _ ?side1 ?side2 A2.out).mono ?_); (case side1 => exact cQ HR0.out); (case side2 => exact HC0.out); rintro e w3 ⟨v169, rfl, ho0, hb⟩; refine ⟨_, rfl, ?_⟩; have HO170 := aM (Kd.R_lower ho0 (bZ HB.out)); replace HB := aM (bS HB.out hb); (try clear hb ho0)))
 go_ret3
 exact ⟨_, erQ, rQ HO170.out, bE HB.out⟩

/-! ### impl_between: function 80 -/
def impl_between.f (a0 : Int) (a1 : Int) (a2 : Int) : Option (Bool) := if a0 ≥ a1 then (some (decide (a0 ≤ a2))) else (some false)
set_option maxHeartbeats 8000000 in
set_option maxRecDepth 100000 in
theorem impl_between.calls (a0 : Int) (a1 : Int) (a2 : Int) (r : Bool) (w : World) (h : impl_between.f a0 a1 a2 = some r) :
  Calls Tryz.prog 80 #[.int .i64 a0, .int .i64 a1, .int .i64 a2] w fun e w' => e = .returned (.bool r) ∧ Drawn0 w w' := by
 have H : (if a0 ≥ a1 then (some (decide (a0 ≤ a2))) else (some false)) = some r := h
 clear h
 by_cases c4 : a0 ≥ a1
 case pos =>
  rw [if_pos c4] at H
  have c4b0 : decide (a1 ≤ a0) = true := decide_eq_true c4
  clear c4
  obtain rfl := Option.some.inj H
  go_enter Tryz.func80, Tryz.ntmps80
  go_wp2
  go_ret
  exact ⟨by first | rfl | (simp; done) | (simp [*]; done), dQ⟩
 rw [if_neg c4] at H
 have c4b0 : decide (a1 ≤ a0) = false := decide_eq_false c4
 clear c4
 obtain rfl := Option.some.inj H
 go_enter Tryz.func80, Tryz.ntmps80
 go_wp2
 go_ret
 exact ⟨by first | rfl | (simp; done) | (simp [*]; done), dQ⟩

/-! ### slices_IndexFunc_int_int: function 108 -/
/-- What is asked of a function value that looks at one number: in every later world it tells p; orders may be drawn. -/
def PredQ (P : Program) (g : Nat) (lb : Array Value) (p : Int → Bool) (w : World) : Prop :=
 ∀ (W : World) (x : Int), Below w.heap.size w W → Calls P g (#[.int .i64 x] ++ lb) W fun e w' => e = .returned (.bool (p x)) ∧ Drawn0 W w'
theorem Drawn0.to {w : World} (n : Nat) : Drawn0 w (w.drewN n) := ⟨⟨n, rfl⟩⟩
/-- The place of the first number that p takes, counted from i; -1 if there is none. -/
def idxOf (p : Int → Bool) : List Int → Int → Int
 | [], _ => -1
 | x :: xs, i => if p x = true then i else idxOf p xs (i + 1)
theorem idxOf_any (p : Int → Bool) (l : List Int) : ∀ i, 0 ≤ i → (idxOf p l i ≥ 0 ↔ l.any p = true) := by
 induction l with
 | nil => intro i _; simp [idxOf]
 | cons x xs ih =>
  intro i hi
  by_cases h : p x = true
  case pos =>
   simp [idxOf, h, hi]
  simp only [idxOf, h, List.any_cons]
  have := ih (i + 1) (by omega)
  simpa [h] using this
/-- The same, of a predicate that may have no answer at some numbers (none is asked there). -/
def PredO (P : Program) (g : Nat) (lb : Array Value) (p : Int → Option Bool) (w : World) : Prop :=
 ∀ (W : World) (x : Int) (b : Bool), Below w.heap.size w W → p x = some b → Calls P g (#[.int .i64 x] ++ lb) W fun e w' => e = .returned (.bool b) ∧ Drawn0 W w'
def idxO (p : Int → Option Bool) : List Int → Int → Option Int
 | [], _ => some (-1)
 | x :: xs, i => (p x).bind fun b => if b = true then some i else idxO p xs (i + 1)
def anyO (p : Int → Option Bool) : List Int → Option Bool
 | [] => some false
 | x :: xs => (p x).bind fun b => if b = true then some true else anyO p xs
set_option maxHeartbeats 1000000 in
theorem slices_IndexFunc.callsO (p : Int → Option Bool) (g : Nat) (lb : Array Value) (eg : ∀ args w, (callFunc g args).run Tryz.prog w = .ok (.enter g args) w) (A0 : Option Addr) (c0 : Nat) (l0 : List Int) (w : World)
  (hp : PredO Tryz.prog g lb p w) (hr0 : Kd.C (Kd.int .i64) w A0 l0.length l0) (hc0 : l0.length ≤ c0) (r : Int) (h : idxO p l0 0 = some r) :
  Calls Tryz.prog 108 #[.slice A0 l0.length c0, .func (.func g) #[] lb] w fun e w' => e = .returned (.int .i64 r) ∧ Drawn0 w w' := by
 have hpAt : ∀ (x : Int) (b : Bool) (_ : p x = some b) (n : Nat), Calls Tryz.prog g (#[.int .i64 x] ++ lb) (w.drewN n) fun e w' => e = .returned (.bool b) ∧ Drawn0 (w.drewN n) w' := fun x b hx n => hp _ x b (Drawn0.to n).below hx
 have HH := aM h
 clear hp h
 have HR0 := aM hr0
 have HC0 := aM hc0
 have HN : l0.length ≤ 9223372036854775807 := (Kd.reads_of_C (enc := Value.int .i64) (d := (0 : Int)) (h1 := fun _ => rfl) hr0).2.1
 clear hr0 hc0
 go_enter Tryz.func108, Tryz.ntmps108
 go_wp2
 go_loopg [5, 8] l0.length (fun gg _ s8 wr => ∃ kk : Nat, kk ≤ l0.length ∧ l0.length - kk ≤ gg ∧ s8 = .int .i64 kk ∧ Drawn0 w wr ∧ Aside0 (idxO p (l0.drop kk) kk = some r))
 case atStart => exact ⟨0, Nat.zero_le _, by omega, rfl, dQ, ⟨by simpa using HH.out⟩⟩
 case round =>
  obtain ⟨kk, hkk, hg, rfl, ⟨m1, rfl⟩, HA⟩ := hrel
  by_cases hlt : kk < l0.length
  ·
   have c3b0 : decide ((kk : Int) < (l0.length : Int)) = true := decide_eq_true (by omega)
   have hdrop : l0.drop kk = rd l0 kk :: l0.drop (kk + 1) := by
    rw [List.drop_eq_getElem_cons hlt]
    simp [rd, List.getD_eq_getElem?_getD, List.getElem?_eq_getElem hlt]
   obtain ⟨ad, e104, hx104⟩ := Kd.at_int HR0.out (kk : Int) (by omega) (by omega)
   cases e104
   rw [Int.toNat_natCast] at hx104
   have p104 := eq_true (show 0 ≤ (kk : Int) by omega)
   have q104 := eq_true (show (kk : Int) < (l0.length : Int) by omega)
   generalize hy : rd l0 kk = y at hdrop hx104
   clear hy
   have HD := aM hdrop
   clear hdrop
   have h2 := HA.out
   rw [HD.out] at h2
   simp only [idxO] at h2
   obtain ⟨b, hq, h3⟩ := Option.bind_eq_some_iff.mp h2
   clear h2 HA
   have hcall := hpAt y b hq
   clear hpAt hq
   cases b with
   | true =>
    have HE := aM (Option.some.inj ((if_pos rfl).symm.trans h3))
    clear h3
    go_wp2_with ((with_reducible refine (hcall _).mono ?_); rintro e w' ⟨rfl, ⟨nd, rfl⟩⟩)
    go_ret
    exact ⟨by rw [← HE.out]; first | rfl | (simp; done), dQ⟩
   | false =>
    have HE := aM (show idxO p (l0.drop (kk + 1)) (kk + 1) = some r from h3)
    clear h3
    go_wp2_with ((with_reducible refine (hcall _).mono ?_); rintro e w' ⟨rfl, ⟨nd, rfl⟩⟩)
    go_roundg (l0.length - (kk + 1))
    case measure => omega
    case rel => exact ⟨kk + 1, by omega, by omega, by go_num, dQ, ⟨by have := HE.out; simpa using this⟩⟩
  ·
   have c3b0 : decide ((kk : Int) < (l0.length : Int)) = false := decide_eq_false (by omega)
   have hltz : ¬ (kk : Int) < (l0.length : Int) := by omega
   go_wp2
   go_ret
   refine ⟨?_, dQ⟩
   have h2 := HA.out
   rw [List.drop_of_length_le (by omega)] at h2
   have h3 := Option.some.inj h2
   rw [← h3]; first | rfl | (simp; done)
theorem idxO_some (p : Int → Bool) (l : List Int) : ∀ i, idxO (fun x => some (p x)) l i = some (idxOf p l i) := by
 induction l with
 | nil => intro i; rfl
 | cons x xs ih => intro i; simp only [idxO, idxOf, Option.bind_some, ih]; split <;> rfl
theorem slices_IndexFunc.calls (p : Int → Bool) (g : Nat) (lb : Array Value) (eg : ∀ args w, (callFunc g args).run Tryz.prog w = .ok (.enter g args) w) (A0 : Option Addr) (c0 : Nat) (l0 : List Int) (w : World)
  (hp : PredQ Tryz.prog g lb p w) (hr0 : Kd.C (Kd.int .i64) w A0 l0.length l0) (hc0 : l0.length ≤ c0) :
  Calls Tryz.prog 108 #[.slice A0 l0.length c0, .func (.func g) #[] lb] w fun e w' => e = .returned (.int .i64 (idxOf p l0 0)) ∧ Drawn0 w w' :=
 slices_IndexFunc.callsO (fun x => some (p x)) g lb eg A0 c0 l0 w (fun W x b hb hx => by obtain rfl := Option.some.inj hx; exact hp W x hb) hr0 hc0 _ (idxO_some p l0 0)

end Go.Proofs.YtcfgkpifloghlaaGreatDoor.P
