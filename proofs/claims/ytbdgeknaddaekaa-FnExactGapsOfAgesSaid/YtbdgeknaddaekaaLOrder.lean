import Derived.Test.YtbdgeknaddaekaaLAges
import Derived.Test.YtbdgeknaddaekaaLBase
import Derived.Test.YtbdgeknaddaekaaP11
namespace Go.Proofs.Ytbdgeknaddaekaa.P
open Go.RowKit Go.Proofs.YtbdgeknaddaekaaW.PrintWords Go.Proofs.YtbdgeknaddaekaaW.PrintLast Go.Proofs.YtbdgeknaddaekaaW.PrintMore
set_option linter.unusedVariables false
set_option linter.unusedSimpArgs false

/-! ### people by their ages: put in from the front, put in from the back -/
def insF (l : List Int) (x : Int) : List Int → List Int
  | [] => [x]
  | y :: p => if rd l y ≥ rd l x then y :: insF l x p else x :: y :: p
def Srt (l : List Int) (p : List Int) : Prop := p.Pairwise fun a b => rd l a ≥ rd l b
theorem insF_mem (l : List Int) (x z : Int) (p : List Int) : z ∈ insF l x p → z = x ∨ z ∈ p := by
  induction p with
  | nil => intro h; exact .inl (List.mem_singleton.mp h)
  | cons y p ih =>
    intro h
    rw [insF] at h
    by_cases q : rd l y ≥ rd l x
    · rw [if_pos q] at h
      rcases List.mem_cons.mp h with h | h
      · exact .inr (by simp [h])
      · rcases ih h with h | h
        · exact .inl h
        · exact .inr (by simp [h])
    · rw [if_neg q] at h
      rcases List.mem_cons.mp h with h | h
      · exact .inl h
      · exact .inr h
theorem insF_length (l : List Int) (x : Int) (p : List Int) : (insF l x p).length = p.length + 1 := by
  induction p with
  | nil => rfl
  | cons y p ih =>
    rw [insF]
    split
    · simp [ih]
    · simp
theorem insF_srt {l : List Int} (x : Int) {p : List Int} (h : Srt l p) : Srt l (insF l x p) := by
  induction p with
  | nil => exact List.pairwise_singleton _ _
  | cons y p ih =>
    have h1 := List.pairwise_cons.mp h
    rw [insF]
    by_cases q : rd l y ≥ rd l x
    · rw [if_pos q]
      refine List.pairwise_cons.mpr ⟨fun z hz => ?_, ih h1.2⟩
      rcases insF_mem l x z p hz with rfl | hz
      · exact q
      · exact h1.1 z hz
    · rw [if_neg q]
      refine List.pairwise_cons.mpr ⟨fun z hz => ?_, h⟩
      rcases List.mem_cons.mp hz with rfl | hz
      · omega
      · have := h1.1 z hz; omega
theorem insF_all {l : List Int} {x : Int} {p : List Int} (h : ∀ z ∈ p, rd l z ≥ rd l x) : insF l x p = p ++ [x] := by
  induction p with
  | nil => rfl
  | cons y p ih =>
    rw [insF, if_pos (h y (by simp)), ih (fun z hz => h z (by simp [hz]))]
    rfl
theorem insF_snoc {l : List Int} {x y : Int} (hy : rd l y < rd l x) (p : List Int) : insF l x (p ++ [y]) = insF l x p ++ [y] := by
  induction p with
  | nil => simp only [List.nil_append, insF]; rw [if_neg (by omega)]; rfl
  | cons z p ih =>
    simp only [List.cons_append, insF]
    split
    · rw [ih]; rfl
    · rfl
def AgeOk (l : List Int) (p : List Int) : Prop := ∀ z ∈ p, 0 ≤ z ∧ z < (l.length : Int)
theorem orderC_some {l : List Int} (hg : goodB l = true) {a b : Int} (ha : 0 ≤ a ∧ a < (l.length : Int)) (hb : 0 ≤ b ∧ b < (l.length : Int)) : orderC l a b = some (rd l b - rd l a) := by
  have h1 := good_mem hg (rd_mem ha.1 ha.2)
  have h2 := good_mem hg (rd_mem hb.1 hb.2)
  unfold orderC
  rw [if_pos hb.1, if_pos hb.2, if_pos ha.1, if_pos ha.2, w64 (by omega) (by omega)]
theorem rd_mid (p : List Int) (y : Int) (q : List Int) : rd (p ++ y :: q) (p.length : Int) = y := by
  rw [rd_at (p ++ y :: q) p.length (by simp)]; simp
theorem swap_mid (p : List Int) (y x : Int) (q : List Int) : swapL (p ++ y :: x :: q) p.length = p ++ x :: y :: q := by
  have e1 : rd (p ++ y :: x :: q) ((p.length + 1 : Nat) : Int) = x := by
    have := rd_mid (p ++ [y]) x q
    simpa using this
  unfold swapL
  rw [rd_mid, e1]
  simp [List.set_append]
theorem insIn_f {l : List Int} (hg : goodB l = true) (n : Nat) : ∀ (p : List Int) (x : Int) (q : List Int), p.length = n → Srt l p → AgeOk l p → (0 ≤ x ∧ x < (l.length : Int)) → insIn (orderC l) n (p ++ x :: q) = some (insF l x p ++ q) := by
  induction n with
  | zero =>
    intro p x q hp _ _ _
    obtain rfl := List.length_eq_zero_iff.mp hp
    rfl
  | succ n ih =>
    intro p x q hp hs hok hx
    obtain ⟨p', y, rfl⟩ : ∃ p' y, p = p' ++ [y] := ⟨p.dropLast, p.getLast (by intro e; simp [e] at hp), (List.dropLast_concat_getLast _).symm⟩
    have hp' : p'.length = n := by simpa using hp
    have hy := hok y (by simp)
    subst hp'
    have e0 : (p' ++ [y]) ++ x :: q = p' ++ y :: x :: q := by simp
    have e1 : rd (p' ++ y :: x :: q) ((p'.length + 1 : Nat) : Int) = x := by
      have := rd_mid (p' ++ [y]) x q
      simpa using this
    have hs' := List.pairwise_append.mp hs
    rw [e0, insIn, e1, rd_mid, orderC_some hg hx hy]
    simp only [Option.bind_some]
    by_cases c : rd l y - rd l x < 0
    · rw [if_pos c, swap_mid, ih p' x (y :: q) rfl hs'.1 (fun z hz => hok z (by simp [hz])) hx, insF_snoc (by omega)]
      simp
    · rw [if_neg c, insF_all (fun z hz => ?_)]
      · simp
      · rcases List.mem_append.mp hz with hz | hz
        · have := hs'.2.2 z hz y (by simp)
          omega
        · rw [List.mem_singleton.mp hz]; omega
def sortN (l : List Int) : Nat → List Int
  | 0 => []
  | i + 1 => insF l (i : Int) (sortN l i)
theorem sortN_srt (l : List Int) : ∀ i, Srt l (sortN l i)
  | 0 => List.Pairwise.nil
  | i + 1 => insF_srt _ (sortN_srt l i)
theorem sortN_length (l : List Int) : ∀ i, (sortN l i).length = i
  | 0 => rfl
  | i + 1 => by rw [sortN, insF_length, sortN_length l i]
theorem sortN_mem (l : List Int) : ∀ i z, z ∈ sortN l i → 0 ≤ z ∧ z < (i : Int)
  | 0, z, h => by cases h
  | i + 1, z, h => by
    rcases insF_mem l _ z _ h with rfl | h
    · omega
    · have := sortN_mem l i z h; omega
def restL : Nat → Nat → List Int
  | _, 0 => []
  | i, m + 1 => (i : Int) :: restL (i + 1) m
theorem ups_rest (m : Nat) : ∀ i, ups i ++ restL i m = ups (i + m) := by
  induction m with
  | zero => intro i; simp [restL]
  | succ m ih =>
    intro i
    have := ih (i + 1)
    rw [ups_succ] at this
    rw [restL]
    rw [show i + (m + 1) = i + 1 + m by omega, ← this]
    simp
theorem insOut_f {l : List Int} (hg : goodB l = true) (m : Nat) : ∀ i, i + m = l.length → insOut (orderC l) m i (sortN l i ++ restL i m) = some (sortN l (i + m)) := by
  induction m with
  | zero => intro i _; simp [insOut, restL]
  | succ m ih =>
    intro i hi
    have h1 := insIn_f hg i (sortN l i) (i : Int) (restL (i + 1) m) (sortN_length l i) (sortN_srt l i) (fun z hz => by have := sortN_mem l i z hz; omega) (by omega)
    rw [restL, insOut, h1]
    simp only [Option.bind_some]
    have h2 := ih (i + 1) (by omega)
    rw [sortN] at h2
    rw [h2, show i + 1 + m = i + (m + 1) by omega]
theorem order_f {l : List Int} (hg : goodB l = true) : impl_order.f l = some (sortN l l.length) := by
  have hl := good_len hg
  unfold impl_order.f
  rw [if_pos (by omega)]
  have h := insOut_f hg (l.length - 1) 1 (by omega)
  have e : sortN l 1 ++ restL 1 (l.length - 1) = ups l.length := by
    have := ups_rest (l.length - 1) 1
    rw [show 1 + (l.length - 1) = l.length by omega] at this
    exact this
  rw [e] at h
  rw [h, show 1 + (l.length - 1) = l.length by omega]

end Go.Proofs.Ytbdgeknaddaekaa.P
