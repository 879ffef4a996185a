import Derived.Test.YtbdgeknaddaekaaDoorP0
namespace Go.Proofs.YtbdgeknaddaekaaDoor.P
open Go.RowKit Go.Proofs.YtbdgeknaddaekaaDoorW.PrintWords Go.Proofs.YtbdgeknaddaekaaDoorW.PrintLast Go.Proofs.YtbdgeknaddaekaaDoorW.PrintMore
set_option linter.unusedVariables false
set_option linter.unusedSimpArgs false

/-! ### plain helpers: numbers and lists -/
theorem w64 {x : Int} (h0 : -9223372036854775808 ≤ x) (h1 : x ≤ 9223372036854775807) : wrap64 x = x := by
  unfold wrap64
  omega
/-- One item for each i, i + 1, .. (d of them) that p takes. -/
def coll (p : Int → Bool) (f : Int → Int) : Int → Nat → List Int
  | _, 0 => []
  | i, d + 1 => if p i = true then f i :: coll p f (i + 1) d else coll p f (i + 1) d
theorem coll_length (p : Int → Bool) (f : Int → Int) (d : Nat) : ∀ i, (coll p f i d).length ≤ d := by
  induction d with
  | zero => intro i; simp [coll]
  | succ d ih =>
    intro i
    have h := ih (i + 1)
    by_cases hp : p i = true
    · simp only [coll, hp, if_true, List.length_cons]; omega
    · simp only [coll, hp]; exact Nat.le_succ_of_le h
theorem Ev.same {α : Type} {g : Nat → Option α} {r s : α} (h : Ev g r) (e : r = s) : Ev g s := e ▸ h
theorem Ev.const {α : Type} {g : Nat → Option α} {r : α} (h : ∀ k, g k = some r) : Ev g r := ⟨0, fun k _ => h k⟩
theorem Ev.if_pos {α : Type} {c : Prop} [Decidable c] {g f : Nat → Option α} {r : α} (hc : c) (h : Ev g r) : Ev (fun k => if c then g k else f k) r := by
  obtain ⟨K, h⟩ := h
  exact ⟨K, fun k hk => by simp only [_root_.if_pos hc]; exact h k hk⟩
theorem Ev.if_neg {α : Type} {c : Prop} [Decidable c] {g f : Nat → Option α} {r : α} (hc : ¬ c) (h : Ev f r) : Ev (fun k => if c then g k else f k) r := by
  obtain ⟨K, h⟩ := h
  exact ⟨K, fun k hk => by simp only [_root_.if_neg hc]; exact h k hk⟩
/-- A call whose value is known at once. -/
theorem Ev.got {α β : Type} {o : Option α} {a : α} {f : Nat → α → Option β} {r : β} (ho : o = some a) (h : Ev (fun k => f k a) r) : Ev (fun k => o.bind (f k)) r := by
  subst ho
  exact h

end Go.Proofs.YtbdgeknaddaekaaDoor.P
