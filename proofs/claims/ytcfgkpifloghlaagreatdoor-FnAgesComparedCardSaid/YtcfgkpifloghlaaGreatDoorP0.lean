-- Written by drive.py (wip/ of this repository) over the kit's print: functions, contracts, rows. Lean checks it.
import Derived.Test.YtcfgkpifloghlaaGreatDoorProg
import Derived.Below
import Derived.Deep.Draws
import Derived.Deep.AppendLies
import Derived.Maps.AppendAt
import Derived.OwnWalk
import Derived.Laws.BytesArg
import Derived.Laws.MakeOwn
import Derived.Laws.OwnMore
import Derived.Deep.OwnRows
import Derived.Tactics
import Derived.Lib.ConvBytes
import Derived.Laws.Slices
import Derived.WalkKit
import Derived.KernelRfl
import Derived.RowKit3
import Derived.Deep.LoopGhost
import Derived.Deep.QuietTactic
import Derived.BigQuiet
import Derived.WideLaws
import Derived.Deep.DeepCutAuto
import Derived.Deep.CutBlock
import Derived.Deep.RegionHeld3
import Derived.Laws.Rows
import Derived.Lib.AppendStr
import Derived.ArgAppend
import Derived.Laws.IdiomCopy
import Derived.OrdersHeld
import Derived.Laws.BitsLemmas
import Derived.RowKit
import Derived.Lib.Hide
import Derived.Shelf.Abstract
import Derived.WalkSpells
import Derived.Lib.SliceRun
import Derived.Lib.Bytealg
import Derived.Shelf.Slices.Delete
import Derived.Shelf.Slices.Cells
import Derived.BigRegion
import Derived.Test.YtcfgkpifloghlaaGreatDoorShelf
import Derived.Sort.Grow
import Derived.Lib.SplitLaws
import Derived.Lib.AtoiErrMem
import Derived.Test.YtcfgkpifloghlaaGreatDoorWWords
import Derived.Test.YtcfgkpifloghlaaGreatDoorWLast
import Derived.Test.YtcfgkpifloghlaaGreatDoorWTab
import Derived.Test.YtcfgkpifloghlaaGreatDoorWFour
import Derived.Test.YtcfgkpifloghlaaGreatDoorWQPut
import Derived.Test.YtcfgkpifloghlaaGreatDoorWApart
import Derived.Test.YtcfgkpifloghlaaGreatDoorWArr
import Derived.Test.YtcfgkpifloghlaaGreatDoorWZeros
import Derived.Test.YtcfgkpifloghlaaGreatDoorWFoot
import Derived.Test.YtcfgkpifloghlaaGreatDoorWKept
import Derived.Test.YtcfgkpifloghlaaGreatDoorWShare
import Derived.Test.YtcfgkpifloghlaaGreatDoorWN
import Derived.Test.YtcfgkpifloghlaaGreatDoorWFootNe
import Derived.Test.YtcfgkpifloghlaaGreatDoorWAt
import Derived.Test.YtcfgkpifloghlaaGreatDoorWEqStruct
import Derived.Test.YtcfgkpifloghlaaGreatDoorWRepsOne
import Derived.Test.YtcfgkpifloghlaaGreatDoorWInv
import Derived.Test.YtcfgkpifloghlaaGreatDoorWInvWords
import Derived.Test.YtcfgkpifloghlaaGreatDoorWGuard
import Derived.Test.YtcfgkpifloghlaaGreatDoorWNEv
import Derived.Test.YtcfgkpifloghlaaGreatDoorWMore
namespace Go.Proofs.YtcfgkpifloghlaaGreatDoor.P
open Go.RowKit Go.Proofs.YtcfgkpifloghlaaGreatDoorW.PrintWords Go.Proofs.YtcfgkpifloghlaaGreatDoorW.PrintLast Go.Proofs.YtcfgkpifloghlaaGreatDoorW.PrintMore
attribute [local go_sem] max2_int min2_int max_two min_two max_three min_three max_four min_four   -- for this text's walks alone
set_option linter.unusedVariables false
set_option linter.unusedSimpArgs false



def errW : Option Int → Value
  | none => .nilIface
  | some c => .iface 0 (.int .i64 c)
theorem errW_none : errW none = .nilIface := rfl
theorem errW_some (c : Int) : errW (some c) = .iface 0 (.int .i64 c) := rfl

theorem info3 : (Tryz.prog.info? 3).map (fun i => (i.zero, i.size, i.bytes)) = some (some (.int .i64 0), 1, 8) := by kernel_rfl
theorem info5 : (Tryz.prog.info? 5).map (fun i => (i.zero, i.size, i.bytes)) = some (some (.int .u8 0), 1, 1) := by kernel_rfl
theorem info9 : (Tryz.prog.info? 9).map (fun i => (i.zero, i.size, i.bytes)) = some (some (.string ⟨#[]⟩), 1, 16) := by kernel_rfl
theorem info24 : (Tryz.prog.info? 24).map (fun i => (i.zero, i.size, i.bytes)) = some (some (.slice none 0 0), 1, 24) := by kernel_rfl
-- the values' own types
def rd_L2 (xs : List (List Int)) (i : Int) : (List Int) := xs.getD i.toNat ([] : List Int)
theorem at_L2 {w : World} {A : Option Addr} {n : Nat} {xs : List (List Int)} (h : Kd.C (Kd.slice 3 (Kd.int .i64)) w A n xs) (i : Int) (h0 : 0 ≤ i) (h1 : i < n) : ∃ ad A0 c0, A = some ad ∧ w.cell? (ad.add i.toNat) = some (.slice A0 (rd_L2 xs i).length c0) ∧ (rd_L2 xs i).length ≤ c0 ∧ (Kd.int .i64).C w A0 (rd_L2 xs i).length (rd_L2 xs i) := by
  obtain ⟨ad, c, e, _, hK, hc0⟩ := Kd.C_get h ([] : List Int) i h0 h1
  have hc : ∀ j u, c[j]? = some u → w.cell? (ad.add (i.toNat * 1 + j)) = some u := hc0
  obtain ⟨A0, c0, rfl, l0, g0⟩ := hK
  exact ⟨ad, A0, c0, e, by have hq := hc 0 _ rfl; rwa [Nat.mul_one, Nat.add_zero] at hq, l0, g0⟩

def rd_L4 (xs : List (List (List Int))) (i : Int) : (List (List Int)) := xs.getD i.toNat ([] : List (List Int))
def rd_L6 (xs : List (List ByteArray)) (i : Int) : (List ByteArray) := xs.getD i.toNat ([] : List ByteArray)
theorem undef_guard : Go.yielded.match_1 (fun _ => Option Bool) (some undef) (fun b => some b) (fun _ => none) = none := rfl
/-! Short forms of what the walks say again and again. -/
theorem cQ {α : Type} {d : Kd α} {w w' : World} {A : Option Addr} {n : Nat} {xs : List α} (h : Kd.C d w A n xs) (e : Kd.C d w A n xs → Kd.C d w' A n xs := by intro h; repeat (first | exact h | (with_reducible refine Kd.C_alloc ?_ _) | (with_reducible refine Kd.C_drewN ?_ _) | (with_reducible refine Kd.C_drew ?_))) : Kd.C d w' A n xs := e h
theorem bE {w W W' : World} (h : Below w.heap.size w W) (e : Below w.heap.size w W → Below w.heap.size w W' := by intro h; repeat (first | (with_reducible first | exact h | apply below_alloc | apply pw_below_drewN | apply below_drew1) | exact h)) : Below w.heap.size w W' := e h
theorem bS {w W W' w2 : World} (h : Below w.heap.size w W) (hb : Below W'.heap.size W' w2) (e : Below w.heap.size w W → Below w.heap.size w W' := by intro h; repeat (first | (with_reducible first | exact h | apply below_alloc | apply pw_below_drewN | apply below_drew1) | exact h)) : Below w.heap.size w w2 := below_step (e h) hb
theorem bZ {w W W' : World} (h : Below w.heap.size w W) (e : Below w.heap.size w W → Below w.heap.size w W' := by intro h; repeat (first | (with_reducible first | exact h | apply below_alloc | apply pw_below_drewN | apply below_drew1) | exact h)) : w.heap.size ≤ W'.heap.size := below_size (e h)
theorem rQ {α : Type} {d : Kd α} {e : Nat} {w w' : World} {b : Nat} {ok : Nat → Prop} {v : Value} {xs : List α} (h : Kd.R d e w b ok v xs) (g : Kd.R d e w b ok v xs → Kd.R d e w' b ok v xs := by intro h; (with_reducible repeat (first | apply Kd.R_alloc | apply Kd.R_drewN | apply Kd.R_drew)); exact h) : Kd.R d e w' b ok v xs := g h
theorem sQ {α : Type} {d : Kd α} {e : Nat} {w w' : World} {b : Nat} {ok : Nat → Prop} {v : Value} {xs : List α} (h : Kd.S d e w b ok v xs) (g : Kd.S d e w b ok v xs → Kd.S d e w' b ok v xs := by intro h; (with_reducible repeat (first | apply Kd.S_alloc | apply Kd.S_drewN | apply Kd.S_drew)); exact h) : Kd.S d e w' b ok v xs := g h
theorem eqQ {α : Sort _} {a b : α} (h : a = b := by first | rfl | (simp; done) | (simp [*]; done)) : a = b := h
theorem erQ {α : Sort _} {a b : α} (h : a = b := by first | rfl | (simp [errW_none, errW_some] <;> rfl) | (simp [*, errW_none, errW_some] <;> rfl)) : a = b := h
theorem q1 {α : Sort _} {e : α} {w : World} {m n : Nat} : e = e ∧ ∃ nd, (w.drewN m).drewN n = w.drewN nd := ⟨rfl, _, World.drewN_drewN _ _ _⟩
theorem q2 {α : Sort _} {e : α} {w : World} {a m n : Nat} : e = e ∧ ∃ nd, (w.drewN (a + m)).drewN n = w.drewN (a + nd) := ⟨rfl, _, Eq.trans (World.drewN_drewN _ _ _) (congrArg (World.drewN _) (Nat.add_assoc _ _ _))⟩
theorem kQ {w W W' : World} {g : Nat} {row : Option Nat} (h : KeepBut w W g row) (e : KeepBut w W g row → KeepBut w W' g row := by intro h; repeat (first | (with_reducible first | exact h | apply KeepBut.set_ | apply keep_drewN | apply keep_drew | apply keep_alloc) | exact h)) : KeepBut w W' g row := e h
theorem dQ {w w' : World} (h : Drawn0 w w' := by repeat (first | exact Drawn0.refl _ | apply Drawn0.step)) : Drawn0 w w' := h
theorem gL {P : Program} {ops : Array Oper} {Q : Exit → Act → World → Prop} {rest : List Oper} {oi : Oper} {a : Act} {w : World} (N : Tmp) {f : FuncId} {fn : Func} {ps : Array Operand} {ts : Array TypeId} (hf : P.funcs[f]? = some fn) (args : Array Value) (hd : oi.dst = some N) (hg : oi.guard = none) (hb : fn.body.isSome = true) (hop : oi.op = .call { callee := .value (.func f), args := ps, argTypes := ts }) (h : Calls P f args w fun e w' => ∃ v, e = .returned v ∧ wpList P ops Q rest (a.put (some N) v) w') (hname : (fn.name == "runtime.NumGoroutine") = false := by kernel_rfl) (hargs : ps.map a.eval = args := by (try simp only [List.map_toArray, List.map_cons, List.map_nil]); first | done | rfl | (simp only [List.length_drop, List.length_take]; rfl)) : wpList P ops Q (oi :: rest) a w := goesL_ (some N) hd hg hf hname hb args hop hargs h
def bm (n m : Nat) : Array Bool := ((List.range n).map fun i => m.testBit i).toArray
theorem dA {p : Prop} [Decidable p] (h : decide p = true := by first | (with_reducible assumption) | assumption) : p := of_decide_eq_true h
theorem nS {p c : Prop} (h : p) (e : ¬ p := by simp) : c := absurd h e
theorem aM {p : Prop} (h : p) : Aside0 p := Aside0.mk h
theorem oB {α β : Type} {o : Option α} {f : α → Option β} {b : β} (h : o.bind f = some b) : ∃ a, o = some a ∧ f a = some b := Option.bind_eq_some_iff.mp h
end Go.Proofs.YtcfgkpifloghlaaGreatDoor.P
