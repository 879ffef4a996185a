import Derived.Test.YtmkjopglibgleaaP0
import Derived.Test.YtmkjopglibgleaaP1
import Derived.Test.YtmkjopglibgleaaP2
import Derived.Test.YtmkjopglibgleaaP3
import Derived.Test.YtmkjopglibgleaaP4
import Derived.Test.YtmkjopglibgleaaP5
import Derived.Test.YtmkjopglibgleaaP6
import Derived.Test.YtmkjopglibgleaaP7
import Derived.Test.YtmkjopglibgleaaP8
import Derived.Test.YtmkjopglibgleaaP9
namespace Go.Proofs.Ytmkjopglibgleaa.P
open Go.RowKit Go.Proofs.YtmkjopglibgleaaW.PrintWords Go.Proofs.YtmkjopglibgleaaW.PrintLast Go.Proofs.YtmkjopglibgleaaW.PrintMore
set_option linter.unusedVariables false
set_option linter.unusedSimpArgs false

/-! #### base -/
/-! ### plain helpers: numbers and lists -/
theorem w64 {x : Int} (h0 : -9223372036854775808 ≤ x) (h1 : x ≤ 9223372036854775807) : wrap64 x = x := by
  unfold wrap64
  omega
/-- One item for each i, i + 1, .. (d of them) that p takes. -/
def coll (p : Int → Bool) (f : Int → Int) : Int → Nat → List Int
  | _, 0 => []
  | i, d + 1 => if p i = true then f i :: coll p f (i + 1) d else coll p f (i + 1) d
theorem coll_length (p : Int → Bool) (f : Int → Int) (d : Nat) : ∀ i, (coll p f i d).length ≤ d := by
  induction d with
  | zero => intro i; simp [coll]
  | succ d ih =>
    intro i
    have h := ih (i + 1)
    by_cases hp : p i = true
    · simp only [coll, hp, if_true, List.length_cons]; omega
    · simp only [coll, hp]; exact Nat.le_succ_of_le h
theorem Ev.same {α : Type} {g : Nat → Option α} {r s : α} (h : Ev g r) (e : r = s) : Ev g s := e ▸ h
theorem Ev.const {α : Type} {g : Nat → Option α} {r : α} (h : ∀ k, g k = some r) : Ev g r := ⟨0, fun k _ => h k⟩
theorem Ev.if_pos {α : Type} {c : Prop} [Decidable c] {g f : Nat → Option α} {r : α} (hc : c) (h : Ev g r) : Ev (fun k => if c then g k else f k) r := by
  obtain ⟨K, h⟩ := h
  exact ⟨K, fun k hk => by simp only [_root_.if_pos hc]; exact h k hk⟩
theorem Ev.if_neg {α : Type} {c : Prop} [Decidable c] {g f : Nat → Option α} {r : α} (hc : ¬ c) (h : Ev f r) : Ev (fun k => if c then g k else f k) r := by
  obtain ⟨K, h⟩ := h
  exact ⟨K, fun k hk => by simp only [_root_.if_neg hc]; exact h k hk⟩
/-- A call whose value is known at once. -/
theorem Ev.got {α β : Type} {o : Option α} {a : α} {f : Nat → α → Option β} {r : β} (ho : o = some a) (h : Ev (fun k => f k a) r) : Ev (fun k => o.bind (f k)) r := by
  subst ho
  exact h

/-! #### in -/
/-! ### numbers between bounds -/
theorem l1In_f (a b c : Int) : spec_l1In.f a b c = some (decide (b ≤ a ∧ a ≤ c)) := by
  unfold spec_l1In.f
  split
  · rename_i h; simp [h]
  · rename_i h; simp; omega
theorem between_f (a b c : Int) : impl_between.f a b c = some (decide (b ≤ a ∧ a ≤ c)) := by
  unfold impl_between.f
  split
  · rename_i h; simp [h]
  · rename_i h; simp; omega

/-! #### ages -/
/-! ### ages -/
def allB (l : List Int) (a b : Int) : Bool := l.all fun x => decide (a ≤ x ∧ x ≤ b)
def goodB (l : List Int) : Bool := decide (1 ≤ (l.length : Int) ∧ (l.length : Int) ≤ 8) && allB l 0 120
theorem allB_mem {l : List Int} {a b : Int} (h : allB l a b = true) {x : Int} (hx : x ∈ l) : a ≤ x ∧ x ≤ b := by
  unfold allB at h
  simpa using List.all_eq_true.mp h x hx
theorem good_len {l : List Int} (h : goodB l = true) : 1 ≤ l.length ∧ l.length ≤ 8 := by
  unfold goodB at h
  simp at h
  omega
theorem good_all {l : List Int} (h : goodB l = true) : allB l 0 120 = true := by
  unfold goodB at h
  simp only [Bool.and_eq_true] at h
  exact h.2
theorem good_mem {l : List Int} (h : goodB l = true) {x : Int} (hx : x ∈ l) : 0 ≤ x ∧ x ≤ 120 := allB_mem (good_all h) hx
theorem rd_at (l : List Int) (i : Nat) (h : i < l.length) : rd l (i : Int) = l[i] := by simp [rd, List.getD_eq_getElem?_getD, List.getElem?_eq_getElem h]
theorem rd_mem {l : List Int} {i : Int} (h0 : 0 ≤ i) (h1 : i < (l.length : Int)) : rd l i ∈ l := by
  obtain ⟨n, rfl⟩ := Int.eq_ofNat_of_zero_le h0
  rw [rd_at l n (by omega)]
  exact List.getElem_mem _
theorem drop_rd (l : List Int) (i : Nat) (h : i < l.length) : l.drop i = rd l (i : Int) :: l.drop (i + 1) := by rw [rd_at l i h]; exact List.drop_eq_getElem_cons h
theorem l1All_l (l : List Int) (a b : Int) (hb : l.length ≤ 4611686018427387904) (d : Nat) : ∀ (i : Nat), i + d = l.length → Ev (fun k => spec_l1All.l0 k a b l (l.length : Int) (i : Int)) (allB (l.drop i) a b) := by
  induction d with
  | zero =>
    intro i hi
    exact Ev.step (f := fun _ => some true) (fun k => by simp only [spec_l1All.l0]; rw [if_neg (by omega)]) (Ev.same (Ev.now _) (by rw [List.drop_of_length_le (by omega)]; rfl))
  | succ d ih =>
    intro i hi
    have ew : wrap64 ((i : Int) + 1) = ((i + 1 : Nat) : Int) := by rw [w64 (by omega) (by omega)]; omega
    refine Ev.step (fun k => by simp only [spec_l1All.l0]; rw [if_pos (by omega), if_pos (by omega), if_pos (by omega), ew, l1In_f]) ?_
    rw [drop_rd l i (by omega)]
    by_cases h : a ≤ rd l (i : Int) ∧ rd l (i : Int) ≤ b
    · exact Ev.if_pos (by simpa using h) (Ev.same (ih (i + 1) (by omega)) (by simp [allB, h]))
    · exact Ev.if_neg (by simpa using h) (Ev.same (Ev.now _) (by simp only [allB, List.all_cons, decide_eq_false h, Bool.false_and]))
theorem l1All_f (l : List Int) (a b : Int) (hb : l.length ≤ 4611686018427387904) : Ev (fun k => spec_l1All.f k l a b) (allB l a b) :=
  Ev.same (l1All_l l a b hb l.length 0 (by omega)) (by simp)
theorem agGood_f (l : List Int) : Ev (fun k => spec_agGood.f k l) (goodB l) := by
  refine Ev.congr (fun k => by unfold spec_agGood.f; rfl) (Ev.got (l1In_f (l.length : Int) 1 8) ?_)
  by_cases h : 1 ≤ (l.length : Int) ∧ (l.length : Int) ≤ 8
  · refine Ev.if_pos (by simpa using h) (Ev.bind (l1All_f l 0 120 (by omega)) (Ev.same (Ev.now _) ?_))
    unfold goodB; rw [decide_eq_true h]; simp
  · refine Ev.if_neg (by simpa using h) (Ev.same (Ev.now _) ?_)
    unfold goodB; rw [decide_eq_false h]; simp
theorem areBetween_f (l : List Int) (a b : Int) : impl_areBetween.f l a b = some (allB l a b) := by
  unfold impl_areBetween.f allB
  simp only [Option.some.injEq]
  induction l with
  | nil => rfl
  | cons x xs ih => simp only [List.any_cons, List.all_cons, Bool.not_or, Bool.not_not, ih]
theorem areAges_f (l : List Int) : impl_AreAges.f l = some (goodB l) := by
  unfold impl_AreAges.f goodB
  rw [between_f]
  simp only [Option.bind_some, areBetween_f]
  by_cases h : 1 ≤ (l.length : Int) ∧ (l.length : Int) ≤ 8
  · rw [decide_eq_true h]; simp
  · rw [decide_eq_false h]; simp

/-! #### big -/
theorem big_f (l0 l1 : List Int) (h0 : (l0.length : Int) ≤ 140737488351232) (h1 : (l1.length : Int) ≤ 140737488351232) : ∃ b, laws_big.f l0 l1 = some b := by
  unfold laws_big.f
  by_cases h : (l0.length : Int) > 1048576
  · exact ⟨true, if_pos h⟩
  · exact ⟨_, if_neg h⟩

/-! #### draws -/
/-! ### what is drawn: that it is drawn, and how long it may be -/
def Byt (s : List Int) : Prop := ∀ x ∈ s, 0 ≤ x ∧ x ≤ 255
theorem byt_of {s : List Int} (h : ∀ x ∈ s, (Lit.int .u8 x).wf = true) : Byt s := fun x hx => by
  have h2 := h x hx
  simp [Lit.wf] at h2
  have h3 : (0 : Int) ≤ x ∧ x ≤ 255 := by simpa [IntKind.min, IntKind.max, IntKind.bits, IntKind.signed] using h2
  exact h3
theorem and255 (y : Int) : 0 ≤ Go.bits .and .u64 (IntKind.u64.wrap y / 1099511627776) 255 ∧ Go.bits .and .u64 (IntKind.u64.wrap y / 1099511627776) 255 ≤ 255 := by
  have hw := IntKind.wrap_u64 y
  have hx0 : 0 ≤ IntKind.u64.wrap y / 1099511627776 := by omega
  have hx1 : IntKind.u64.wrap y / 1099511627776 < 2 ^ 64 := by omega
  have h := bits_mask .u64 64 (by decide) (fun n h0 h1 => by have := IntKind.wrap_u64 n; omega) 8 (by decide) _ hx0 hx1
  have h2 : Go.bits .and .u64 (IntKind.u64.wrap y / 1099511627776) 255 = IntKind.u64.wrap y / 1099511627776 % 256 := h
  rw [h2]
  omega
theorem next_f {s : List Int} (hs : Byt s) {a : Int} (u : Int) (h0 : 0 ≤ a) (h1 : a ≤ 4611686018427387904) : ∃ r u', spec_l1Cur_next.f s a u = some (r, a + 1, u') ∧ 0 ≤ r ∧ r ≤ 255 := by
  have ew : wrap64 (a + 1) = a + 1 := w64 (by omega) (by omega)
  unfold spec_l1Cur_next.f
  rw [ew]
  by_cases h : a < (s.length : Int)
  · rw [if_pos h, if_pos h0, if_pos (show a + 1 ≤ (s.length : Int) by omega)]
    have hb := hs _ (rd_mem h0 h)
    exact ⟨_, _, rfl, by rw [w64 (by omega) (by omega)]; exact hb.1, by rw [w64 (by omega) (by omega)]; exact hb.2⟩
  · rw [if_neg h, if_neg (show ¬ a + 1 ≤ (s.length : Int) by omega)]
    have hb := and255 (IntKind.u64.wrap (IntKind.u64.wrap (u * 6364136223846793005) + 0) + 1442695040888963407)
    exact ⟨_, _, rfl, by rw [w64 (by omega) (by omega)]; exact hb.1, by rw [w64 (by omega) (by omega)]; exact hb.2⟩
theorem tmod_lt {x n : Int} (h0 : 0 ≤ x) (hn : 0 < n) : 0 ≤ Int.tmod x n ∧ Int.tmod x n < n := by
  rw [Int.tmod_eq_emod_of_nonneg h0]
  exact ⟨Int.emod_nonneg x (by omega), Int.emod_lt_of_pos x hn⟩
theorem pick_f {s : List Int} (hs : Byt s) {a : Int} (u n : Int) (h0 : 0 ≤ a) (h1 : a ≤ 1000000000) : ∃ r a' u', spec_l1Cur_pick.f s a u n = some (r, a', u') ∧ 0 ≤ r ∧ (r < n ∨ r = 0) ∧ a ≤ a' ∧ a' ≤ a + 2 := by
  unfold spec_l1Cur_pick.f
  by_cases hn : n ≤ 1
  · rw [if_pos hn]
    exact ⟨0, a, u, rfl, by omega, .inr rfl, by omega, by omega⟩
  · rw [if_neg hn]
    obtain ⟨r, u1, e1, r0, r1⟩ := next_f hs u h0 (by omega)
    rw [e1]
    simp only [Option.bind_some]
    by_cases hb : n > 200
    · rw [if_pos hb]
      obtain ⟨q, u2, e2, q0, q1⟩ := next_f hs u1 (show 0 ≤ a + 1 by omega) (by omega)
      rw [e2]
      simp only [Option.bind_some]
      rw [if_neg (show ¬ n = 0 by omega), w64 (show -9223372036854775808 ≤ r * 256 by omega) (by omega), w64 (by omega) (by omega)]
      have ht := tmod_lt (show 0 ≤ r * 256 + q by omega) (show 0 < n by omega)
      exact ⟨_, _, _, rfl, ht.1, .inl ht.2, by omega, by omega⟩
    · rw [if_neg hb, if_neg (show ¬ n = 0 by omega)]
      have ht := tmod_lt r0 (show 0 < n by omega)
      exact ⟨_, _, _, rfl, ht.1, .inl ht.2, by omega, by omega⟩
theorem among_f {s : List Int} (hs : Byt s) {a : Int} (u : Int) (l : List Int) (hl : 0 < l.length) (h0 : 0 ≤ a) (h1 : a ≤ 1000000000) : ∃ r a' u', spec_l1Cur_among.f s a u l = some (r, a', u') ∧ r ∈ l ∧ a ≤ a' ∧ a' ≤ a + 2 := by
  unfold spec_l1Cur_among.f
  obtain ⟨r, a', u', e, r0, r1, b0, b1⟩ := pick_f hs u (l.length : Int) h0 h1
  rw [e]
  simp only [Option.bind_some]
  have hr : r < (l.length : Int) := by omega
  rw [if_pos r0, if_pos hr]
  exact ⟨_, _, _, rfl, rd_mem r0 hr, b0, b1⟩
theorem sureAges_l {s : List Int} (hs : Byt s) (d : Nat) : ∀ (acc : List Int) (a u : Int), d ≤ 10 → acc.length + d ≤ 100 → 0 ≤ a → a + 2 * d ≤ 1000000 → ∃ l a' u', Ev (fun k => spec_l1Cur_sureAges.l0 k acc (d : Int) s a u) (l, a', u') ∧ l.length = acc.length + d ∧ a ≤ a' ∧ a' ≤ a + 2 * d := by
  induction d with
  | zero =>
    intro acc a u _ _ h0 h1
    exact ⟨acc, a, u, Ev.step (f := fun _ => some (acc, a, u)) (fun k => by simp only [spec_l1Cur_sureAges.l0]; rw [if_neg (by omega)]) (Ev.now _), rfl, by omega, by omega⟩
  | succ d ih =>
    intro acc a u hd ha h0 h1
    obtain ⟨r, a1, u1, e, _, b0, b1⟩ := among_f hs u [0, 1, 3, 5, 9, 12, 17, 25, 33, 40, 64, 90] (by decide) h0 (by omega)
    obtain ⟨l, a2, u2, h, hl, c0, c1⟩ := ih (acc ++ [r]) a1 u1 (by omega) (by simp; omega) (by omega) (by push_cast at h1; omega)
    have ew : wrap64 (((d + 1 : Nat) : Int) - 1) = (d : Int) := by rw [w64 (by omega) (by omega)]; omega
    refine ⟨l, a2, u2, Ev.step (fun k => by simp only [spec_l1Cur_sureAges.l0]; rw [if_pos (show ((d + 1 : Nat) : Int) > 0 by omega), ew]) (Ev.got e (Ev.if_pos (show acc.length < 17592186044416 by omega) h)), ?_, by omega, by omega⟩
    rw [hl]; simp; omega
theorem sureAges_f {s : List Int} (hs : Byt s) {a : Int} (u : Int) (h0 : 0 ≤ a) (h1 : a ≤ 1000) : ∃ l a' u', Ev (fun k => spec_l1Cur_sureAges.f k s a u) (l, a', u') ∧ 1 ≤ l.length ∧ l.length ≤ 4 ∧ a ≤ a' ∧ a' ≤ a + 12 := by
  obtain ⟨r, a1, u1, e, r0, r1, b0, b1⟩ := pick_f hs u 4 h0 (by omega)
  obtain ⟨n, rfl⟩ := Int.eq_ofNat_of_zero_le r0
  obtain ⟨l, a2, u2, h, hl, c0, c1⟩ := sureAges_l hs (n + 1) [] a1 u1 (by omega) (by simp; omega) (by omega) (by omega)
  have ew : wrap64 (1 + (n : Int)) = ((n + 1 : Nat) : Int) := by rw [w64 (by omega) (by omega)]; omega
  refine ⟨l, a2, u2, Ev.congr (fun k => by unfold spec_l1Cur_sureAges.f; rfl) (Ev.got e (by simp only [ew]; exact h)), ?_, ?_, by omega, by omega⟩ <;> · simp at hl; omega
theorem ages_l {s : List Int} (hs : Byt s) (d : Nat) : ∀ (acc : List Int) (a u : Int), acc.length + d = 10 → 0 ≤ a → a + 4 * d ≤ 1000000 → ∃ l a' u', Ev (fun k => spec_l1Cur_ages.l0 k acc s a u) (l, a', u') ∧ l.length ≤ 10 ∧ a ≤ a' ∧ a' ≤ a + 4 * d + 2 := by
  induction d with
  | zero =>
    intro acc a u ha h0 h1
    obtain ⟨r, a1, u1, e, r0, r1, b0, b1⟩ := pick_f hs u 2 h0 (by omega)
    have ew : wrap64 (8 + r) = 8 + r := w64 (by omega) (by omega)
    exact ⟨acc, a1, u1, Ev.step (fun k => by simp only [spec_l1Cur_ages.l0]; rfl) (Ev.got e (Ev.if_neg (show ¬ (acc.length : Int) < wrap64 (8 + r) by rw [ew]; omega) (Ev.now _))), by omega, by omega, by omega⟩
  | succ d ih =>
    intro acc a u ha h0 h1
    obtain ⟨r, a1, u1, e, r0, r1, b0, b1⟩ := pick_f hs u 2 h0 (by omega)
    have ew : wrap64 (8 + r) = 8 + r := w64 (by omega) (by omega)
    by_cases hc : (acc.length : Int) < 8 + r
    · obtain ⟨q, a2, u2, e2, q0, q1, c0, c1⟩ := pick_f hs u1 50 (show 0 ≤ a1 by omega) (by omega)
      obtain ⟨l, a3, u3, h, hl, d0, d1⟩ := ih (acc ++ [q]) a2 u2 (by simp; omega) (by omega) (by omega)
      exact ⟨l, a3, u3, Ev.step (fun k => by simp only [spec_l1Cur_ages.l0]; rfl) (Ev.got e (Ev.if_pos (show (acc.length : Int) < wrap64 (8 + r) by rw [ew]; omega) (Ev.got e2 (Ev.if_pos (show acc.length < 17592186044416 by omega) h)))), hl, by omega, by omega⟩
    · exact ⟨acc, a1, u1, Ev.step (fun k => by simp only [spec_l1Cur_ages.l0]; rfl) (Ev.got e (Ev.if_neg (show ¬ (acc.length : Int) < wrap64 (8 + r) by rw [ew]; omega) (Ev.now _))), by omega, by omega, by omega⟩
theorem ages_f {s : List Int} (hs : Byt s) {a : Int} (u : Int) (h0 : 0 ≤ a) (h1 : a ≤ 500) : ∃ l a' u', Ev (fun k => spec_l1Cur_ages.f k s a u) (l, a', u') ∧ l.length ≤ 10 ∧ a ≤ a' ∧ a' ≤ a + 100 := by
  obtain ⟨l1, a1, u1, e1, l1a, l1b, b0, b1⟩ := sureAges_f hs u h0 (by omega)
  obtain ⟨r, a2, u2, e2, r0, r1, c0, c1⟩ := pick_f hs u1 14 (show 0 ≤ a1 by omega) (by omega)
  have go : ∀ (l : List Int) (a' u' : Int), Ev (fun k => if r = 0 then (some (([] : List Int), a2, u2)) else (if r = 1 then ((spec_l1Cur_among.f s a2 u2 (([(-1), 120, 121, 4611686018427387904] : List Int))).bind fun bt135 => (if 0 < (l1.length : Int) then (some ((l1.set (0 : Int).toNat bt135.1), bt135.2.1, bt135.2.2)) else (none))) else (if r = 2 then (spec_l1Cur_ages.l0 k l1 s a2 u2) else (some (l1, a2, u2))))) (l, a', u') → Ev (fun k => spec_l1Cur_ages.f k s a u) (l, a', u') :=
    fun l a' u' h => Ev.congr (fun k => by unfold spec_l1Cur_ages.f; rfl) (Ev.bind e1 (Ev.got e2 h))
  by_cases k0 : r = 0
  · exact ⟨[], a2, u2, go _ _ _ (Ev.if_pos k0 (Ev.now _)), by simp, by omega, by omega⟩
  · by_cases k1 : r = 1
    · obtain ⟨q, a3, u3, e3, _, d0, d1⟩ := among_f hs u2 [(-1), 120, 121, 4611686018427387904] (by decide) (show 0 ≤ a2 by omega) (by omega)
      exact ⟨l1.set (0 : Int).toNat q, a3, u3, go _ _ _ (Ev.if_neg k0 (Ev.if_pos k1 (Ev.got e3 (Ev.if_pos (by omega) (Ev.now _))))), by simp; omega, by omega, by omega⟩
    · by_cases k2 : r = 2
      · obtain ⟨l, a3, u3, h, hl, d0, d1⟩ := ages_l hs (10 - l1.length) l1 a2 u2 (by omega) (by omega) (by omega)
        exact ⟨l, a3, u3, go _ _ _ (Ev.if_neg k0 (Ev.if_neg k1 (Ev.if_pos k2 h))), hl, by omega, by omega⟩
      · exact ⟨l1, a2, u2, go _ _ _ (Ev.if_neg k0 (Ev.if_neg k1 (Ev.if_neg k2 (Ev.now _)))), by omega, by omega, by omega⟩

/-! #### range -/
/-! ### fit years -/
theorem minFrom_le (l : List Int) : ∀ m, minFrom l m ≤ m ∧ ∀ x ∈ l, minFrom l m ≤ x := by
  induction l with
  | nil => intro m; simp [minFrom]
  | cons a l ih =>
    intro m
    simp only [minFrom]
    by_cases h : a < m
    · rw [if_pos h]
      obtain ⟨h1, h2⟩ := ih a
      refine ⟨by omega, fun x hx => ?_⟩
      rcases List.mem_cons.mp hx with rfl | hx
      · exact h1
      · exact h2 x hx
    · rw [if_neg h]
      obtain ⟨h1, h2⟩ := ih m
      refine ⟨h1, fun x hx => ?_⟩
      rcases List.mem_cons.mp hx with rfl | hx
      · omega
      · exact h2 x hx
theorem maxFrom_ge (l : List Int) : ∀ m, m ≤ maxFrom l m ∧ ∀ x ∈ l, x ≤ maxFrom l m := by
  induction l with
  | nil => intro m; simp [maxFrom]
  | cons a l ih =>
    intro m
    simp only [maxFrom]
    by_cases h : m < a
    · rw [if_pos h]
      obtain ⟨h1, h2⟩ := ih a
      refine ⟨by omega, fun x hx => ?_⟩
      rcases List.mem_cons.mp hx with rfl | hx
      · exact h1
      · exact h2 x hx
    · rw [if_neg h]
      obtain ⟨h1, h2⟩ := ih m
      refine ⟨h1, fun x hx => ?_⟩
      rcases List.mem_cons.mp hx with rfl | hx
      · omega
      · exact h2 x hx
theorem minFrom_mem (l : List Int) : ∀ m, minFrom l m = m ∨ minFrom l m ∈ l := by
  induction l with
  | nil => intro m; simp [minFrom]
  | cons a l ih =>
    intro m
    simp only [minFrom]
    by_cases h : a < m
    · rw [if_pos h]
      rcases ih a with e | e
      · exact .inr (by rw [e]; simp)
      · exact .inr (List.mem_cons_of_mem _ e)
    · rw [if_neg h]
      rcases ih m with e | e
      · exact .inl e
      · exact .inr (List.mem_cons_of_mem _ e)
theorem maxFrom_mem (l : List Int) : ∀ m, maxFrom l m = m ∨ maxFrom l m ∈ l := by
  induction l with
  | nil => intro m; simp [maxFrom]
  | cons a l ih =>
    intro m
    simp only [maxFrom]
    by_cases h : m < a
    · rw [if_pos h]
      rcases ih a with e | e
      · exact .inr (by rw [e]; simp)
      · exact .inr (List.mem_cons_of_mem _ e)
    · rw [if_neg h]
      rcases ih m with e | e
      · exact .inl e
      · exact .inr (List.mem_cons_of_mem _ e)
def loY (l : List Int) : Int := -(minFrom (l.drop 1) (rd l 0))
def hiY (l : List Int) : Int := 120 - maxFrom (l.drop 1) (rd l 0)
theorem head_drop {l : List Int} (h : 1 ≤ l.length) : l = rd l 0 :: l.drop 1 := by
  have := drop_rd l 0 (by omega)
  simpa using this
theorem min_all {l : List Int} (h : 1 ≤ l.length) {x : Int} (hx : x ∈ l) : minFrom (l.drop 1) (rd l 0) ≤ x := by
  obtain ⟨h1, h2⟩ := minFrom_le (l.drop 1) (rd l 0)
  rw [head_drop h] at hx
  rcases List.mem_cons.mp hx with rfl | hx
  · exact h1
  · exact h2 x hx
theorem max_all {l : List Int} (h : 1 ≤ l.length) {x : Int} (hx : x ∈ l) : x ≤ maxFrom (l.drop 1) (rd l 0) := by
  obtain ⟨h1, h2⟩ := maxFrom_ge (l.drop 1) (rd l 0)
  rw [head_drop h] at hx
  rcases List.mem_cons.mp hx with rfl | hx
  · exact h1
  · exact h2 x hx
theorem min_in {l : List Int} (h : 1 ≤ l.length) : minFrom (l.drop 1) (rd l 0) ∈ l := by
  rcases minFrom_mem (l.drop 1) (rd l 0) with e | e
  · rw [e]; exact rd_mem (by omega) (by omega)
  · exact List.mem_of_mem_drop e
theorem max_in {l : List Int} (h : 1 ≤ l.length) : maxFrom (l.drop 1) (rd l 0) ∈ l := by
  rcases maxFrom_mem (l.drop 1) (rd l 0) with e | e
  · rw [e]; exact rd_mem (by omega) (by omega)
  · exact List.mem_of_mem_drop e
theorem range_bounds {l : List Int} (hg : goodB l = true) : -120 ≤ loY l ∧ loY l ≤ 0 ∧ 0 ≤ hiY l ∧ hiY l ≤ 120 := by
  have h1 := good_mem hg (min_in (good_len hg).1)
  have h2 := good_mem hg (max_in (good_len hg).1)
  unfold loY hiY
  omega
/-- Years are fit just if all are of an age then. -/
theorem fit_iff {l : List Int} (h : 1 ≤ l.length) (y : Int) : (loY l ≤ y ∧ y ≤ hiY l) ↔ ∀ x ∈ l, 0 ≤ x + y ∧ x + y ≤ 120 := by
  constructor
  · intro hy x hx
    have h1 := min_all h hx
    have h2 := max_all h hx
    unfold loY hiY at hy
    omega
  · intro ha
    have h1 := ha _ (min_in h)
    have h2 := ha _ (max_in h)
    unfold loY hiY
    omega
theorem least_f (m x : Int) : spec_l1Least.f m x = some (if x < m then x else m) := by
  unfold spec_l1Least.f
  by_cases h : m < x
  · rw [if_pos h, if_neg (by omega)]
  · rw [if_neg h]
    by_cases h2 : x < m
    · rw [if_pos h2]
    · rw [if_neg h2]; congr 1; omega
theorem most_f (m x : Int) : spec_l1Most.f m x = some (if m < x then x else m) := by
  unfold spec_l1Most.f
  by_cases h : m > x
  · rw [if_pos h, if_neg (by omega)]
  · rw [if_neg h]
    by_cases h2 : m < x
    · rw [if_pos h2]
    · rw [if_neg h2]; congr 1; omega
theorem agRange_l (l : List Int) (hb : l.length ≤ 1048576) (d : Nat) : ∀ (i : Nat) (m n : Int), i + d = l.length → Ev (fun k => spec_agRange.l0 k m n l (l.length : Int) (i : Int)) (wrap64 (-(minFrom (l.drop i) m)), wrap64 (120 - maxFrom (l.drop i) n)) := by
  induction d with
  | zero =>
    intro i m n hi
    exact Ev.step (f := fun _ => some (wrap64 (-m), wrap64 (120 - n))) (fun k => by simp only [spec_agRange.l0]; rw [if_neg (by omega)]) (Ev.same (Ev.now _) (by rw [List.drop_of_length_le (by omega)]; rfl))
  | succ d ih =>
    intro i m n hi
    have ew : wrap64 ((i : Int) + 1) = ((i + 1 : Nat) : Int) := by rw [w64 (by omega) (by omega)]; omega
    refine Ev.step (f := fun k => spec_agRange.l0 k (if rd l (i : Int) < m then rd l (i : Int) else m) (if n < rd l (i : Int) then rd l (i : Int) else n) l (l.length : Int) ((i + 1 : Nat) : Int)) (fun k => ?_) (Ev.same (ih (i + 1) _ _ (by omega)) (by rw [drop_rd l i (by omega)]; rfl))
    simp only [spec_agRange.l0]; rw [if_pos (by omega), if_pos (by omega), if_pos (by omega), ew, least_f, most_f]; rfl
theorem agRange_f {l : List Int} (hg : goodB l = true) : Ev (fun k => spec_agRange.f k l) (loY l, hiY l) := by
  have hl := good_len hg
  have hb := range_bounds hg
  refine Ev.congr (fun k => by unfold spec_agRange.f; rfl) (Ev.if_pos (by omega) (Ev.same (agRange_l l (by omega) l.length 0 _ _ (by omega)) ?_))
  have e1 : minFrom (l.drop 0) (rd l 0) = minFrom (l.drop 1) (rd l 0) := by
    have := drop_rd l 0 (by omega)
    simp only [Int.ofNat_zero, Nat.zero_add] at this
    rw [this]; simp [minFrom]
  have e2 : maxFrom (l.drop 0) (rd l 0) = maxFrom (l.drop 1) (rd l 0) := by
    have := drop_rd l 0 (by omega)
    simp only [Int.ofNat_zero, Nat.zero_add] at this
    rw [this]; simp [maxFrom]
  rw [e1, e2]
  unfold loY hiY at hb ⊢
  rw [w64 (by omega) (by omega), w64 (by omega) (by omega)]
theorem fitYears_f {l : List Int} (hg : goodB l = true) : impl_fitYears.f l = some (loY l, hiY l) := by
  have hl := good_len hg
  have hb := range_bounds hg
  unfold impl_fitYears.f slices_Min_int_int.f slices_Max_int_int.f
  rw [if_pos (by omega), if_pos (by omega)]
  simp only [Option.bind_some]
  unfold loY hiY at hb ⊢
  rw [w64 (by omega) (by omega), w64 (by omega) (by omega)]

/-! #### fit -/
def fitB (l : List Int) (y : Int) : Bool := goodB l && decide (loY l ≤ y ∧ y ≤ hiY l)
theorem fit_good {l : List Int} {y : Int} (h : fitB l y = true) : goodB l = true ∧ loY l ≤ y ∧ y ≤ hiY l := by
  unfold fitB at h
  simpa using h
theorem agFit_f (l : List Int) (y : Int) : Ev (fun k => spec_agFit.f k l y) (fitB l y) := by
  refine Ev.congr (fun k => by unfold spec_agFit.f; rfl) (Ev.bind (agGood_f l) ?_)
  cases hg : goodB l with
  | true =>
    refine Ev.if_pos rfl (Ev.bind (agRange_f hg) (Ev.got (l1In_f y _ _) (Ev.same (Ev.now _) ?_)))
    unfold fitB; rw [hg]; rfl
  | false => exact Ev.if_neg (by simp) (Ev.same (Ev.now _) (by unfold fitB; rw [hg]; rfl))
theorem isFit_f {l : List Int} (hg : goodB l = true) (y : Int) : impl_isFit.f l y = some (fitB l y) := by
  unfold impl_isFit.f
  rw [fitYears_f hg]
  simp only [Option.bind_some, between_f]
  unfold fitB; rw [hg]; rfl

/-! #### inyears -/
/-! ### ages in other years -/
def inY (l : List Int) (y : Int) : List Int := l.map fun x => wrap64 (x + y)
theorem inY_length (l : List Int) (y : Int) : (inY l y).length = l.length := by simp [inY]
theorem inYears_l (y : Int) (l : List Int) (hb : l.length ≤ 1048576) (d : Nat) : ∀ (i : Nat) (acc : List Int), i + d = l.length → acc.length + d ≤ 1048576 → Ev (fun k => impl_inYears.l0 k y acc l (l.length : Int) (i : Int)) (acc ++ (l.drop i).map (fun x => wrap64 (x + y))) := by
  induction d with
  | zero =>
    intro i acc hi ha
    exact Ev.step (f := fun _ => some acc) (fun k => by simp only [impl_inYears.l0]; rw [if_neg (by omega)]) (Ev.same (Ev.now _) (by rw [List.drop_of_length_le (by omega)]; simp))
  | succ d ih =>
    intro i acc hi ha
    have ew : wrap64 ((i : Int) + 1) = ((i + 1 : Nat) : Int) := by rw [w64 (by omega) (by omega)]; omega
    refine Ev.step (f := fun k => impl_inYears.l0 k y (acc ++ [wrap64 (rd l (i : Int) + y)]) l (l.length : Int) ((i + 1 : Nat) : Int)) (fun k => ?_) (Ev.same (ih (i + 1) _ (by omega) (by simp; omega)) (by rw [drop_rd l i (by omega)]; simp))
    simp only [impl_inYears.l0]; rw [if_pos (by omega), if_pos (by omega), if_pos (by omega), if_pos (by omega), ew]
theorem inYears_f (l : List Int) (y : Int) (hb : l.length ≤ 1048576) : Ev (fun k => impl_inYears.f k l y) (inY l y) := Ev.same (inYears_l y l hb l.length 0 [] (by omega) (by simp; omega)) (by simp [inY])

/-! #### kindage -/
theorem one_f {s : List Int} (hs : Byt s) {a : Int} (u n : Int) (h0 : 0 ≤ a) (h1 : a ≤ 1000000000) : ∃ b a' u', spec_l1Cur_one.f s a u n = some (b, a', u') ∧ a ≤ a' ∧ a' ≤ a + 2 := by
  obtain ⟨r, a', u', e, -, -, b0, b1⟩ := pick_f hs u n h0 h1
  unfold spec_l1Cur_one.f
  rw [e]
  exact ⟨_, _, _, rfl, b0, b1⟩
theorem kindAge_f {s : List Int} (hs : Byt s) {a : Int} (u : Int) (h0 : 0 ≤ a) (h1 : a ≤ 1000000) : ∃ r a' u', spec_l1Cur_kindAge.f s a u = some (r, a', u') ∧ a ≤ a' ∧ a' ≤ a + 4 := by
  obtain ⟨b, a1, u1, e, b0, b1⟩ := one_f hs u 8 h0 (by omega)
  unfold spec_l1Cur_kindAge.f
  rw [e]
  simp only [Option.bind_some]
  cases b with
  | true =>
    obtain ⟨r, a2, u2, e2, _, c0, c1⟩ := among_f hs u1 [(-1), 0, 1, 99, 100, 120, 121, 4611686018427387904] (by decide) (show 0 ≤ a1 by omega) (by omega)
    rw [if_pos rfl, e2]
    exact ⟨_, a2, u2, rfl, by omega, by omega⟩
  | false =>
    obtain ⟨r, a2, u2, e2, -, -, c0, c1⟩ := pick_f hs u1 121 (show 0 ≤ a1 by omega) (by omega)
    rw [if_neg (by simp), e2]
    exact ⟨_, a2, u2, rfl, by omega, by omega⟩

/-! #### years -/
/-! ### years looked through, one by one -/
def firstOf (q : Int → Bool) : Int → Nat → Int × Bool
  | _, 0 => (0, false)
  | y, d + 1 => if q y = true then (y, true) else firstOf q (y + 1) d
theorem loop_first {g : Nat → Int → Option (Int × Bool)} {q : Int → Bool} {lo hi : Int} (hs : ∀ (y : Int) (r : Int × Bool), lo ≤ y → y ≤ hi → Ev (fun k => g k (y + 1)) r → Ev (fun k => g k y) (if q y = true then (y, true) else r))
    (h0 : Ev (fun k => g k (hi + 1)) (0, false)) (d : Nat) : ∀ y, lo ≤ y → y + d = hi + 1 → Ev (fun k => g k y) (firstOf q y d) := by
  induction d with
  | zero =>
    intro y h1 h2
    have : y = hi + 1 := by omega
    subst this
    exact h0
  | succ d ih =>
    intro y h1 h2
    exact hs y _ h1 (by omega) (ih (y + 1) (by omega) (by omega))
theorem loop_all {β : Type} {g : Nat → List Int → Int → Option β} {q : Int → Bool} {lo hi : Int} (F : List Int → β) (hs : ∀ (acc : List Int) (y : Int) (r : β), lo ≤ y → y ≤ hi → acc.length ≤ 1000 → Ev (fun k => g k (if q y = true then acc ++ [y] else acc) (y + 1)) r → Ev (fun k => g k acc y) r)
    (h0 : ∀ acc : List Int, Ev (fun k => g k acc (hi + 1)) (F acc)) (d : Nat) : ∀ (y : Int) (acc : List Int), lo ≤ y → y + d = hi + 1 → acc.length + d ≤ 1000 → Ev (fun k => g k acc y) (F (acc ++ coll q (fun j => j) y d)) := by
  induction d with
  | zero =>
    intro y acc h1 h2 _
    have : y = hi + 1 := by omega
    subst this
    simpa [coll] using h0 acc
  | succ d ih =>
    intro y acc h1 h2 h3
    refine hs acc y _ h1 (by omega) (by omega) ?_
    by_cases hq : q y = true
    · have := ih (y + 1) (acc ++ [y]) (by omega) (by omega) (by simp; omega)
      simp only [if_pos hq]
      simpa [coll, hq] using this
    · have := ih (y + 1) acc (by omega) (by omega) (by omega)
      simp only [if_neg hq]
      simpa [coll, hq] using this
/-- How many years are fit. -/
def nY (l : List Int) : Nat := (hiY l + 1 - loY l).toNat
theorem nY_eq {l : List Int} (hg : goodB l = true) : loY l + (nY l : Int) = hiY l + 1 ∧ nY l ≤ 241 := by
  have := range_bounds hg
  unfold nY
  omega
theorem inY_rd {l : List Int} {y i : Int} (h0 : 0 ≤ i) (h1 : i < (l.length : Int)) : rd (inY l y) i = wrap64 (rd l i + y) := by
  obtain ⟨n, rfl⟩ := Int.eq_ofNat_of_zero_le h0
  rw [rd_at l n (by omega), rd_at (inY l y) n (by rw [inY_length]; omega)]
  simp [inY]
theorem inY_fit {l : List Int} (hg : goodB l = true) {y : Int} (h0 : loY l ≤ y) (h1 : y ≤ hiY l) : inY l y = l.map (· + y) := by
  unfold inY
  refine List.map_congr_left fun x hx => ?_
  have := (fit_iff (good_len hg).1 y).mp ⟨h0, h1⟩ x hx
  exact w64 (by omega) (by omega)
theorem rd_fit {l : List Int} (hg : goodB l = true) {y i : Int} (h0 : loY l ≤ y) (h1 : y ≤ hiY l) (i0 : 0 ≤ i) (i1 : i < (l.length : Int)) : 0 ≤ rd l i + y ∧ rd l i + y ≤ 120 ∧ wrap64 (rd l i + y) = rd l i + y := by
  have := (fit_iff (good_len hg).1 y).mp ⟨h0, h1⟩ _ (rd_mem i0 i1)
  exact ⟨this.1, this.2, w64 (by omega) (by omega)⟩

/-! #### ally -/
theorem allY_f (p : Nat → List Int → Option Bool) (q : Int → Bool) {l : List Int} (hg : goodB l = true) (hq : ∀ y, loY l ≤ y → y ≤ hiY l → Ev (fun k => p k (inY l y)) (q y)) : Ev (fun k => allY.f p k l) (coll q (fun j => j) (loY l) (nY l)) := by
  have hb := range_bounds hg
  have hl := good_len hg
  have hn := nY_eq hg
  refine Ev.congr (fun k => by unfold allY.f; rfl) (Ev.got (fitYears_f hg) ?_)
  refine Ev.same (loop_all (g := fun k acc y => allY.l0 p k l acc (hiY l) y) (q := q) (lo := loY l) (hi := hiY l) (fun z => z) (fun acc y r h0 h1 h2 h3 => ?_) (fun acc => ?_) (nY l) (loY l) [] (Int.le_refl _) hn.1 (by simp; omega)) (by simp)
  · have ew : wrap64 (y + 1) = y + 1 := w64 (by omega) (by omega)
    refine Ev.step (fun k => by simp only [allY.l0]; rw [if_pos h1, ew]) (Ev.bind (inYears_f l y (by omega)) (Ev.bind (hq y h0 h1) ?_))
    cases hqy : q y with
    | true => exact Ev.if_pos rfl (Ev.if_pos (by omega) (by simpa [hqy] using h3))
    | false => exact Ev.if_neg (by simp) (by simpa [hqy] using h3)
  · exact Ev.step (f := fun _ => some acc) (fun k => by simp only [allY.l0]; rw [if_neg (by omega)]) (Ev.now _)

/-! #### kinds -/
/-! ### kinds of numbers -/
def sqNext (m : Nat) (s i : Int) : Int := match m with | 0 => wrap64 (i * i) | 1 => wrap64 (wrap64 (i * i) * i) | _ => wrap64 (s + i)
/-- The reference's search, with no text in it. -/
def sqL (m : Nat) : Nat → Int → Int → Int → Option Bool
  | 0, _, _, _ => none
  | k + 1, n, s, i => if s ≤ n then (if sqNext m s i = n then some true else sqL m k n (sqNext m s i) (wrap64 (i + 1))) else some false
theorem l1_s (a : ByteArray) (h : a.toList = [115]) : ∀ k n s i, spec_kiIs.l1 k n a s i = sqL 0 k n s i
  | 0, _, _, _ => by simp [spec_kiIs.l1, sqL]
  | k + 1, n, s, i => by
    rw [spec_kiIs.l1, sqL]
    simp only [l1_s a h k, if_pos h]
    rfl
theorem l1_c (a : ByteArray) (h : a.toList = [99]) : ∀ k n s i, spec_kiIs.l1 k n a s i = sqL 1 k n s i
  | 0, _, _, _ => by simp [spec_kiIs.l1, sqL]
  | k + 1, n, s, i => by
    rw [spec_kiIs.l1, sqL]
    simp only [l1_c a h k, if_neg (show ¬ a.toList = [115] by rw [h]; decide), if_pos h]
    rfl
theorem l1_t (a : ByteArray) (h : a.toList = [116]) : ∀ k n s i, spec_kiIs.l1 k n a s i = sqL 2 k n s i
  | 0, _, _, _ => by simp [spec_kiIs.l1, sqL]
  | k + 1, n, s, i => by
    rw [spec_kiIs.l1, sqL]
    simp only [l1_t a h k, if_neg (show ¬ a.toList = [115] by rw [h]; decide), if_neg (show ¬ a.toList = [99] by rw [h]; decide)]
    rfl
/-- What the program tells of a number, by the letter's place. -/
def kI (c : Nat) (k : Nat) (n : Int) : Option Bool := match c with
  | 0 => impl_isPrime.f k n
  | 1 => madeO.f impl_ofKind_1.f k n
  | 2 => madeO.f impl_ofKind_2.f k n
  | 3 => madeO.f impl_ofKind_3.f k n
  | 4 => impl_areAlike.f k n
  | _ => if n ≥ 10 then some (Int.tmod n 10 == 0) else some false
/-- What the reference tells of it. -/
def kS (c : Nat) (k : Nat) (n : Int) : Option Bool := match c with
  | 0 => spec_kiPrime.f k n
  | 1 => sqL 0 k n 0 0
  | 2 => sqL 1 k n 0 0
  | 3 => sqL 2 k n 0 0
  | 4 => spec_kiIs.l0 k n (Int.tmod n 10) n
  | _ => if n ≥ 10 then some (Int.tmod n 10 == 0) else some false
def kLetter (c : Nat) : UInt8 := match c with | 0 => 112 | 1 => 115 | 2 => 99 | 3 => 116 | 4 => 100 | _ => 114
def kV (c : Nat) (n : Int) : Bool := (kI c 50 n).getD false
set_option maxRecDepth 100000 in
theorem kTable0 : (List.range 961).all (fun n => kI 0 50 (n : Int) == kS 0 50 (n : Int) && (kI 0 50 (n : Int)).isSome) = true := by decide +kernel
set_option maxRecDepth 100000 in
theorem kTable1 : (List.range 961).all (fun n => kI 1 50 (n : Int) == kS 1 50 (n : Int) && (kI 1 50 (n : Int)).isSome) = true := by decide +kernel
set_option maxRecDepth 100000 in
theorem kTable2 : (List.range 961).all (fun n => kI 2 50 (n : Int) == kS 2 50 (n : Int) && (kI 2 50 (n : Int)).isSome) = true := by decide +kernel
set_option maxRecDepth 100000 in
theorem kTable3 : (List.range 961).all (fun n => kI 3 50 (n : Int) == kS 3 50 (n : Int) && (kI 3 50 (n : Int)).isSome) = true := by decide +kernel
set_option maxRecDepth 100000 in
theorem kTable4 : (List.range 961).all (fun n => kI 4 50 (n : Int) == kS 4 50 (n : Int) && (kI 4 50 (n : Int)).isSome) = true := by decide +kernel
theorem kTable5 (n : Int) : kI 5 50 n = kS 5 50 n ∧ (kI 5 50 n).isSome = true := by
  refine ⟨rfl, ?_⟩
  show (if n ≥ 10 then some (Int.tmod n 10 == 0) else some false).isSome = true
  split <;> rfl
theorem kTable {c : Nat} (hc : c < 6) {n : Int} (h0 : 0 ≤ n) (h1 : n ≤ 960) : kI c 50 n = some (kV c n) ∧ kS c 50 n = some (kV c n) := by
  have key : kI c 50 n = kS c 50 n ∧ (kI c 50 n).isSome = true := by
    have pick : ∀ d, (List.range 961).all (fun n => kI d 50 (n : Int) == kS d 50 (n : Int) && (kI d 50 (n : Int)).isSome) = true → kI d 50 n = kS d 50 n ∧ (kI d 50 n).isSome = true := by
      intro d h
      have := List.all_eq_true.mp h n.toNat (List.mem_range.mpr (by omega))
      rw [show ((n.toNat : Nat) : Int) = n by omega] at this
      simpa using this
    match c, hc with
    | 0, _ => exact pick 0 kTable0
    | 1, _ => exact pick 1 kTable1
    | 2, _ => exact pick 2 kTable2
    | 3, _ => exact pick 3 kTable3
    | 4, _ => exact pick 4 kTable4
    | 5, _ => exact kTable5 n
  obtain ⟨b, hb⟩ := Option.isSome_iff_exists.mp key.2
  rw [← key.1]
  unfold kV
  rw [hb]
  exact ⟨rfl, rfl⟩
theorem implK_eq {c : Nat} (hc : c < 6) {a : ByteArray} (h : a.toList = [kLetter c]) (k : Nat) (n : Int) : impl_ofKind.f k n a = kI c k n := by
  unfold impl_ofKind.f
  rw [h]
  match c, hc with
  | 0, _ => rfl
  | 1, _ => rfl
  | 2, _ => rfl
  | 3, _ => rfl
  | 4, _ => rfl
  | 5, _ => rfl
theorem specK_eq {c : Nat} (hc : c < 6) {a : ByteArray} (h : a.toList = [kLetter c]) (k : Nat) (n : Int) : spec_kiIs.f k n a = kS c k n := by
  unfold spec_kiIs.f
  match c, hc with
  | 0, _ => rw [h]; exact (if_pos rfl).trans (by show (spec_kiPrime.f k n).bind (fun t => some t) = spec_kiPrime.f k n; cases spec_kiPrime.f k n <;> rfl)
  | 1, _ => rw [l1_s a h k]; rw [h]; rfl
  | 2, _ => rw [l1_c a h k]; rw [h]; rfl
  | 3, _ => rw [l1_t a h k]; rw [h]; rfl
  | 4, _ => rw [h]; rfl
  | 5, _ => rw [h]; rfl
theorem Ev.mono {α : Type} {g : Nat → Option α} (hm : ∀ k, LeO (g k) (g (k + 1))) {K : Nat} {r : α} (h : g K = some r) : Ev g r :=
  ⟨K, fun k hk => by induction hk with | refl => exact h | step _ ih => exact hm _ _ ih⟩
theorem implK_f {c : Nat} (hc : c < 6) {a : ByteArray} (h : a.toList = [kLetter c]) {n : Int} (h0 : 0 ≤ n) (h1 : n ≤ 960) : Ev (fun k => impl_ofKind.f k n a) (kV c n) :=
  Ev.mono (fun k => impl_ofKind.mono n a k) (K := 50) ((implK_eq hc h 50 n).trans (kTable hc h0 h1).1)
theorem specK_f {c : Nat} (hc : c < 6) {a : ByteArray} (h : a.toList = [kLetter c]) {n : Int} (h0 : 0 ≤ n) (h1 : n ≤ 960) : Ev (fun k => spec_kiIs.f k n a) (kV c n) :=
  Ev.mono (fun k => spec_kiIs.mono n a k) (K := 50) ((specK_eq hc h 50 n).trans (kTable hc h0 h1).2)
theorem kind_letter {a : ByteArray} (h : kindB a = true) : ∃ c, c < 6 ∧ a.toList = [kLetter c] := by
  unfold kindB at h
  simp only [List.any_cons, List.any_nil, Bool.or_eq_true, beq_iff_eq] at h
  rcases h with h | h | h | h | h | h | h
  · exact ⟨0, by omega, h⟩
  · exact ⟨1, by omega, h⟩
  · exact ⟨2, by omega, h⟩
  · exact ⟨3, by omega, h⟩
  · exact ⟨4, by omega, h⟩
  · exact ⟨5, by omega, h⟩
  · cases h
theorem letter_kind {a : ByteArray} {c : Nat} (hc : c < 6) (h : a.toList = [kLetter c]) : kindB a = true := by
  unfold kindB
  rw [h]
  match c, hc with
  | 0, _ => rfl
  | 1, _ => rfl
  | 2, _ => rfl
  | 3, _ => rfl
  | 4, _ => rfl
  | 5, _ => rfl
theorem kiKind_f (a : ByteArray) : spec_kiKind.f a = some (kindB a) := by
  unfold spec_kiKind.f kindB
  simp only [List.any_cons, List.any_nil, Bool.or_false]
  by_cases h1 : a.toList = [112]
  · rw [if_pos h1]; simp [h1]
  · rw [if_neg h1]
    by_cases h2 : a.toList = [115]
    · rw [if_pos h2]; simp [h2]
    · rw [if_neg h2]
      by_cases h3 : a.toList = [99]
      · rw [if_pos h3]; simp [h3]
      · rw [if_neg h3]
        by_cases h4 : a.toList = [116]
        · rw [if_pos h4]; simp [h4]
        · rw [if_neg h4]
          by_cases h5 : a.toList = [100]
          · rw [if_pos h5]; simp [h5]
          · rw [if_neg h5, beq_eq_false_iff_ne.mpr h1, beq_eq_false_iff_ne.mpr h2, beq_eq_false_iff_ne.mpr h3, beq_eq_false_iff_ne.mpr h4, beq_eq_false_iff_ne.mpr h5]; rfl
theorem isKind_f (a : ByteArray) : impl_isKind.f a = some (kindB a) := rfl

/-! #### kindcount -/
/-! ### how many are of a kind -/
def cntK (c : Nat) (l : List Int) : Int := ((l.filter (kV c)).length : Int)
theorem cntK_le (c : Nat) (l : List Int) : cntK c l ≤ (l.length : Int) := by
  unfold cntK
  have := List.length_filter_le (kV c) l
  omega
theorem kiCount_l {c : Nat} (hc : c < 6) {a : ByteArray} (h : a.toList = [kLetter c]) (y : Int) (l : List Int) (hb : l.length ≤ 8) (ok : ∀ x ∈ inY l y, 0 ≤ x ∧ x ≤ 120) (d : Nat) : ∀ (i : Nat) (s : Int), i + d = l.length → 0 ≤ s → s ≤ i → Ev (fun k => spec_kiCount.l0 k y a s l (l.length : Int) (i : Int)) (s + cntK c ((inY l y).drop i)) := by
  have hn := inY_length l y
  induction d with
  | zero =>
    intro i s hi h0 h1
    exact Ev.step (f := fun _ => some s) (fun k => by simp only [spec_kiCount.l0]; rw [if_neg (by omega)]) (Ev.same (Ev.now _) (by rw [List.drop_of_length_le (by omega)]; simp [cntK]))
  | succ d ih =>
    intro i s hi h0 h1
    have ew : wrap64 ((i : Int) + 1) = ((i + 1 : Nat) : Int) := by rw [w64 (by omega) (by omega)]; omega
    have ew2 : wrap64 (s + 1) = s + 1 := w64 (by omega) (by omega)
    have er : wrap64 (rd l (i : Int) + y) = rd (inY l y) (i : Int) := (inY_rd (by omega) (by omega)).symm
    have hm := ok _ (rd_mem (l := inY l y) (i := (i : Int)) (by omega) (by omega))
    have h9 : rd (inY l y) (i : Int) ≤ 960 := by omega
    refine Ev.step (fun k => by simp only [spec_kiCount.l0]; rw [if_pos (show (i : Int) < (l.length : Int) by omega), if_pos (show 0 ≤ (i : Int) by omega), if_pos (show (i : Int) < (l.length : Int) by omega), ew, ew2, er]) (Ev.bind (specK_f hc h hm.1 h9) ?_)
    rw [drop_rd (inY l y) i (by omega)]
    cases hv : kV c (rd (inY l y) (i : Int)) with
    | true => exact Ev.if_pos rfl (Ev.same (ih (i + 1) (s + 1) (by omega) (by omega) (by omega)) (by simp [cntK, List.filter_cons, hv]; omega))
    | false => exact Ev.if_neg (show ¬ (false = true) by decide) (Ev.same (ih (i + 1) s (by omega) (by omega) (by omega)) (by simp [cntK, List.filter_cons, hv]))
theorem kiCount_f {c : Nat} (hc : c < 6) {a : ByteArray} (h : a.toList = [kLetter c]) (y : Int) (l : List Int) (hb : l.length ≤ 8) (ok : ∀ x ∈ inY l y, 0 ≤ x ∧ x ≤ 120) : Ev (fun k => spec_kiCount.f k l y a) (cntK c (inY l y)) := Ev.same (kiCount_l hc h y l hb ok l.length 0 0 (by omega) (by omega) (by omega)) (by simp)
theorem countOf_l {c : Nat} (hc : c < 6) {a : ByteArray} (h : a.toList = [kLetter c]) (l : List Int) (hb : l.length ≤ 8) (ok : ∀ x ∈ l, 0 ≤ x ∧ x ≤ 120) (d : Nat) : ∀ (i : Nat) (s : Int), i + d = l.length → 0 ≤ s → s ≤ i → Ev (fun k => impl_countOf.l0 k a s l (l.length : Int) (i : Int)) (s + cntK c (l.drop i)) := by
  induction d with
  | zero =>
    intro i s hi h0 h1
    exact Ev.step (f := fun _ => some s) (fun k => by simp only [impl_countOf.l0]; rw [if_neg (by omega)]) (Ev.same (Ev.now _) (by rw [List.drop_of_length_le (by omega)]; simp [cntK]))
  | succ d ih =>
    intro i s hi h0 h1
    have ew : wrap64 ((i : Int) + 1) = ((i + 1 : Nat) : Int) := by rw [w64 (by omega) (by omega)]; omega
    have ew2 : wrap64 (s + 1) = s + 1 := w64 (by omega) (by omega)
    have hm := ok _ (rd_mem (l := l) (i := (i : Int)) (by omega) (by omega))
    have h9 : rd l (i : Int) ≤ 960 := by omega
    refine Ev.step (fun k => by simp only [impl_countOf.l0]; rw [if_pos (show (i : Int) < (l.length : Int) by omega), if_pos (show 0 ≤ (i : Int) by omega), if_pos (show (i : Int) < (l.length : Int) by omega), ew, ew2]) (Ev.bind (implK_f hc h hm.1 h9) ?_)
    rw [drop_rd l i (by omega)]
    cases hv : kV c (rd l (i : Int)) with
    | true => exact Ev.if_pos rfl (Ev.same (ih (i + 1) (s + 1) (by omega) (by omega) (by omega)) (by simp [cntK, List.filter_cons, hv]; omega))
    | false => exact Ev.if_neg (show ¬ (false = true) by decide) (Ev.same (ih (i + 1) s (by omega) (by omega) (by omega)) (by simp [cntK, List.filter_cons, hv]))
theorem countOf_f {c : Nat} (hc : c < 6) {a : ByteArray} (h : a.toList = [kLetter c]) (l : List Int) (hb : l.length ≤ 8) (ok : ∀ x ∈ l, 0 ≤ x ∧ x ≤ 120) : Ev (fun k => impl_countOf.f k l a) (cntK c l) := Ev.same (countOf_l hc h l hb ok l.length 0 0 (by omega) (by omega) (by omega)) (by simp)
theorem inY_ok {l : List Int} (hg : goodB l = true) {y : Int} (h0 : loY l ≤ y) (h1 : y ≤ hiY l) : ∀ x ∈ inY l y, 0 ≤ x ∧ x ≤ 120 := by
  rw [inY_fit hg h0 h1]
  intro x hx
  obtain ⟨z, hz, rfl⟩ := List.mem_map.mp hx
  exact (fit_iff (good_len hg).1 y).mp ⟨h0, h1⟩ z hz

/-! #### kres -/
/-! ### what is told of a kind -/
/-- What a function tells of a kind: nothing (bad), or by the kind's place. -/
def KRes {β : Type} (g : Bool) (a : ByteArray) (bad : β) (good : Nat → β) (r : β) : Prop := ((g && kindB a) = false ∧ r = bad) ∨ (g = true ∧ kindB a = true ∧ ∃ c, c < 6 ∧ a.toList = [kLetter c] ∧ r = good c)
theorem kLetter_inj {c d : Nat} (hc : c < 6) (hd : d < 6) (h : kLetter c = kLetter d) : c = d := by
  have key : ∀ c d : Fin 6, kLetter c.val = kLetter d.val → c = d := by decide
  have := key ⟨c, hc⟩ ⟨d, hd⟩ h
  exact congrArg Fin.val this
theorem KRes.is {β : Type} {g : Bool} {a : ByteArray} {bad : β} {good : Nat → β} {r : β} (h : KRes g a bad good r) {c : Nat} (hc : c < 6) (ha : a.toList = [kLetter c]) (hg : g = true) : r = good c := by
  rcases h with ⟨h1, _⟩ | ⟨_, _, d, hd, hx, e⟩
  · rw [hg, letter_kind hc ha] at h1
    cases h1
  · rw [ha] at hx
    have := kLetter_inj hc hd (List.cons.inj hx).1
    rw [this]
    exact e
theorem KRes.not {β : Type} {g : Bool} {a : ByteArray} {bad : β} {good : Nat → β} {r : β} (h : KRes g a bad good r) (hg : (g && kindB a) = false) : r = bad := by
  rcases h with ⟨_, e⟩ | ⟨h1, h2, _⟩
  · exact e
  · rw [h1, h2] at hg
    cases hg
theorem KRes.all {β : Type} {g : Bool} {a : ByteArray} {bad : β} {good : Nat → β} {r : β} (P : β → Prop) (h : KRes g a bad good r) (hb : P bad) (hg : ∀ c, P (good c)) : P r := by
  rcases h with ⟨_, e⟩ | ⟨_, _, c, _, _, e⟩
  · rw [e]; exact hb
  · rw [e]; exact hg c

/-! #### kindlists -/
/-! ### all ages of a kind -/
theorem kiAll_f {c : Nat} (hc : c < 6) {a : ByteArray} (h : a.toList = [kLetter c]) : Ev (fun k => spec_kiAll.f k a) (coll (kV c) (fun j => j) 0 121) := by
  refine Ev.congr (fun k => by unfold spec_kiAll.f; rfl) ?_
  refine Ev.same (loop_all (g := fun k acc y => spec_kiAll.l0 k a acc y) (q := kV c) (lo := 0) (hi := 120) (fun z => z) (fun acc y r h0 h1 h2 h3 => ?_) (fun acc => ?_) 121 0 [] (Int.le_refl _) (by omega) (by simp)) (by simp)
  · have ew : wrap64 (y + 1) = y + 1 := w64 (by omega) (by omega)
    refine Ev.step (fun k => by simp only [spec_kiAll.l0]; rw [if_pos h1, ew]) (Ev.bind (specK_f hc h h0 (by omega)) ?_)
    cases hv : kV c y with
    | true => exact Ev.if_pos rfl (Ev.if_pos (by omega) (by simpa [hv] using h3))
    | false => exact Ev.if_neg (by simp) (by simpa [hv] using h3)
  · exact Ev.step (f := fun _ => some acc) (fun k => by simp only [spec_kiAll.l0]; rw [if_neg (by omega)]) (Ev.now _)
theorem kindAges_f {c : Nat} (hc : c < 6) {a : ByteArray} (h : a.toList = [kLetter c]) : Ev (fun k => impl_kindAges.f k a) (coll (kV c) (fun j => j) 0 121) := by
  refine Ev.congr (fun k => by unfold impl_kindAges.f; rfl) ?_
  refine Ev.same (loop_all (g := fun k acc y => impl_kindAges.l0 k a acc y) (q := kV c) (lo := 0) (hi := 120) (fun z => z) (fun acc y r h0 h1 h2 h3 => ?_) (fun acc => ?_) 121 0 [] (Int.le_refl _) (by omega) (by simp)) (by simp)
  · have ew : wrap64 (y + 1) = y + 1 := w64 (by omega) (by omega)
    refine Ev.step (fun k => by simp only [impl_kindAges.l0]; rw [if_pos (show y < 121 by omega), ew]) (Ev.bind (implK_f hc h h0 (by omega)) ?_)
    cases hv : kV c y with
    | true => exact Ev.if_pos rfl (Ev.if_pos (by omega) (by simpa [hv] using h3))
    | false => exact Ev.if_neg (by simp) (by simpa [hv] using h3)
  · exact Ev.step (f := fun _ => some acc) (fun k => by simp only [impl_kindAges.l0]; rw [if_neg (by omega)]) (Ev.now _)
theorem kind_cases (a : ByteArray) : kindB a = false ∨ ∃ c, c < 6 ∧ a.toList = [kLetter c] ∧ kindB a = true := by
  cases h : kindB a with
  | false => exact .inl rfl
  | true => obtain ⟨c, hc, e⟩ := kind_letter h; exact .inr ⟨c, hc, e, rfl⟩
theorem agesK_res (a : ByteArray) : ∃ r : List Int × Bool, KRes true a ([], false) (fun c => (coll (kV c) (fun j => j) 0 121, true)) r ∧ Ev (fun k => spec_AgesOfKind.f k a) r ∧ Ev (fun k => impl_AgesOfKind.f k a) r := by
  rcases kind_cases a with h | ⟨c, hc, h, hk⟩
  · refine ⟨([], false), .inl ⟨by rw [h]; rfl, rfl⟩, ?_, ?_⟩
    · refine Ev.congr (fun k => by unfold spec_AgesOfKind.f; rfl) ?_
      exact Ev.got (kiKind_f a) (by rw [h]; exact Ev.if_neg (show ¬ (false = true) by decide) (Ev.now _))
    · refine Ev.congr (fun k => by unfold impl_AgesOfKind.f; rfl) ?_
      exact Ev.got (isKind_f a) (by rw [h]; exact Ev.if_neg (show ¬ (false = true) by decide) (Ev.now _))
  · refine ⟨(coll (kV c) (fun j => j) 0 121, true), .inr ⟨rfl, hk, c, hc, h, rfl⟩, ?_, ?_⟩
    · refine Ev.congr (fun k => by unfold spec_AgesOfKind.f; rfl) ?_
      exact Ev.got (kiKind_f a) (by rw [hk]; exact Ev.if_pos rfl (Ev.bind (kiAll_f hc h) (Ev.now _)))
    · refine Ev.congr (fun k => by unfold impl_AgesOfKind.f; rfl) ?_
      exact Ev.got (isKind_f a) (by rw [hk]; exact Ev.if_pos rfl (Ev.bind (kindAges_f hc h) (Ev.now _)))
theorem kinds_specAK (a : ByteArray) : ∃ r : List Int × Bool, r.1.length ≤ 121 ∧ Ev (fun k => spec_AgesOfKind.f k a) r ∧ Ev (fun k => impl_AgesOfKind.f k a) r := by
  obtain ⟨r, hr, hs, hi⟩ := agesK_res a
  exact ⟨r, hr.all (fun r => r.1.length ≤ 121) (by simp) (fun c => coll_length _ _ _ _), hs, hi⟩

/-! #### kindwho -/
/-! ### people of a kind -/
theorem kiBoth_f (l : List Int) (a : ByteArray) : Ev (fun k => spec_kiBoth.f k l a) (goodB l && kindB a) := by
  refine Ev.congr (fun k => by unfold spec_kiBoth.f; rfl) ?_
  refine Ev.bind (agGood_f l) ?_
  cases goodB l with
  | true => exact Ev.if_pos rfl (Ev.got (kiKind_f a) (Ev.now _))
  | false => exact Ev.if_neg (show ¬ (false = true) by decide) (Ev.now _)
def whQ (c : Nat) (l : List Int) (i : Int) : Bool := kV c (rd l i)
theorem whoK_res (l : List Int) (a : ByteArray) : ∃ r : List Int × Bool, KRes (goodB l) a ([], false) (fun c => (coll (whQ c l) (fun j => j) 0 l.length, true)) r ∧ Ev (fun k => spec_WhoOfKind.f k l a) r ∧ Ev (fun k => impl_WhoOfKind.f k l a) r := by
  have bad : Ev (fun k => impl_WhoOfKind.j0 k l a true) (([] : List Int), false) := Ev.step (f := fun _ => some ([], false)) (fun k => by simp only [impl_WhoOfKind.j0, if_true]) (Ev.now _)
  cases hg : goodB l with
  | false =>
    refine ⟨([], false), .inl ⟨by simp, rfl⟩, ?_, ?_⟩
    · refine Ev.congr (fun k => by unfold spec_WhoOfKind.f; rfl) ?_
      refine Ev.bind (kiBoth_f l a) ?_
      rw [hg]
      exact Ev.if_neg (show ¬ ((false && kindB a) = true) by simp) (Ev.now _)
    · refine Ev.congr (fun k => by unfold impl_WhoOfKind.f; rfl) ?_
      refine Ev.got (areAges_f l) ?_
      rw [hg]
      exact Ev.if_neg (show ¬ (false = true) by decide) bad
  | true =>
    have hl := good_len hg
    rcases kind_cases a with h | ⟨c, hc, h, hk⟩
    · refine ⟨([], false), .inl ⟨by rw [h]; rfl, rfl⟩, ?_, ?_⟩
      · refine Ev.congr (fun k => by unfold spec_WhoOfKind.f; rfl) ?_
        refine Ev.bind (kiBoth_f l a) ?_
        rw [hg, h]
        exact Ev.if_neg (show ¬ ((true && false) = true) by decide) (Ev.now _)
      · refine Ev.congr (fun k => by unfold impl_WhoOfKind.f; rfl) ?_
        refine Ev.got (areAges_f l) ?_
        rw [hg]
        refine Ev.if_pos rfl (Ev.got (isKind_f a) ?_)
        rw [h]
        exact bad
    · refine ⟨(coll (whQ c l) (fun j => j) 0 l.length, true), .inr ⟨rfl, hk, c, hc, h, rfl⟩, ?_, ?_⟩
      · refine Ev.congr (fun k => by unfold spec_WhoOfKind.f; rfl) ?_
        refine Ev.bind (kiBoth_f l a) ?_
        rw [hg, hk]
        refine Ev.if_pos rfl ?_
        refine Ev.same (loop_all (g := fun k acc y => spec_WhoOfKind.l0 k a acc l (l.length : Int) y) (q := whQ c l) (lo := 0) (hi := (l.length : Int) - 1) (fun z => (z, true)) (fun acc y r h0 h1 h2 h3 => ?_) (fun acc => ?_) l.length 0 [] (Int.le_refl _) (by omega) (by simp; omega)) (by simp)
        · have ew : wrap64 (y + 1) = y + 1 := w64 (by omega) (by omega)
          have hm := good_mem hg (rd_mem h0 (show y < (l.length : Int) by omega))
          have h9 : rd l y ≤ 960 := by omega
          refine Ev.step (fun k => by simp only [spec_WhoOfKind.l0]; rw [if_pos (show y < (l.length : Int) by omega), if_pos h0, if_pos (show y < (l.length : Int) by omega), ew]) (Ev.bind (specK_f hc h hm.1 h9) ?_)
          cases hv : kV c (rd l y) with
          | true => exact Ev.if_pos rfl (Ev.if_pos (by omega) (by simpa [whQ, hv] using h3))
          | false => exact Ev.if_neg (by simp) (by simpa [whQ, hv] using h3)
        · exact Ev.step (f := fun _ => some (acc, true)) (fun k => by simp only [spec_WhoOfKind.l0]; rw [if_neg (by omega)]) (Ev.now _)
      · refine Ev.congr (fun k => by unfold impl_WhoOfKind.f; rfl) ?_
        refine Ev.got (areAges_f l) ?_
        rw [hg]
        refine Ev.if_pos rfl (Ev.got (isKind_f a) ?_)
        rw [hk]
        refine Ev.step (f := fun k => impl_WhoOfKind.l0 k a ([] : List Int) l (l.length : Int) 0) (fun k => by simp only [impl_WhoOfKind.j0]; rfl) ?_
        refine Ev.same (loop_all (g := fun k acc y => impl_WhoOfKind.l0 k a acc l (l.length : Int) y) (q := whQ c l) (lo := 0) (hi := (l.length : Int) - 1) (fun z => (z, true)) (fun acc y r h0 h1 h2 h3 => ?_) (fun acc => ?_) l.length 0 [] (Int.le_refl _) (by omega) (by simp; omega)) (by simp)
        · have ew : wrap64 (y + 1) = y + 1 := w64 (by omega) (by omega)
          have hm := good_mem hg (rd_mem h0 (show y < (l.length : Int) by omega))
          have h9 : rd l y ≤ 960 := by omega
          refine Ev.step (fun k => by simp only [impl_WhoOfKind.l0]; rw [if_pos (show y < (l.length : Int) by omega), if_pos h0, if_pos (show y < (l.length : Int) by omega), ew]) (Ev.bind (implK_f hc h hm.1 h9) ?_)
          cases hv : kV c (rd l y) with
          | true => exact Ev.if_pos rfl (Ev.if_pos (by omega) (by simpa [whQ, hv] using h3))
          | false => exact Ev.if_neg (by simp) (by simpa [whQ, hv] using h3)
        · exact Ev.step (f := fun _ => some (acc, true)) (fun k => by simp only [impl_WhoOfKind.l0]; rw [if_neg (by omega)]) (Ev.now _)
theorem whoK_both (l : List Int) (a : ByteArray) : ∃ r : List Int × Bool, r.1.length ≤ 1000 ∧ Ev (fun k => spec_WhoOfKind.f k l a) r ∧ Ev (fun k => impl_WhoOfKind.f k l a) r := by
  obtain ⟨r, hr, hs, hi⟩ := whoK_res l a
  refine ⟨r, ?_, hs, hi⟩
  rcases hr with ⟨_, e⟩ | ⟨hg, _, c, _, _, e⟩
  · rw [e]; simp
  · rw [e]
    have hl := good_len hg
    have := coll_length (whQ c l) (fun j => j) (l.length) (0)
    show (coll (whQ c l) (fun j => j) (0) (l.length)).length ≤ 1000
    omega

/-! #### kindall -/
/-! ### years in which all are of a kind -/
def akQ (c : Nat) (l : List Int) (y : Int) : Bool := cntK c (inY l y) == (l.length : Int)
theorem allK_res (l : List Int) (a : ByteArray) : ∃ r : List Int × Bool, KRes (goodB l) a ([], false) (fun c => (coll (akQ c l) (fun j => j) (loY l) (nY l), true)) r ∧ Ev (fun k => spec_YearsAllKind.f k l a) r ∧ Ev (fun k => impl_YearsAllKind.f k l a) r := by
  cases hg : goodB l with
  | false =>
    refine ⟨([], false), .inl ⟨by simp, rfl⟩, ?_, ?_⟩
    · refine Ev.congr (fun k => by unfold spec_YearsAllKind.f; rfl) ?_
      refine Ev.bind (kiBoth_f l a) ?_
      rw [hg]
      exact Ev.if_neg (show ¬ ((false && kindB a) = true) by simp) (Ev.now _)
    · refine Ev.congr (fun k => by unfold impl_YearsAllKind.f; rfl) ?_
      refine Ev.got (areAges_f l) ?_
      rw [hg]
      exact Ev.if_neg (show ¬ (false = true) by decide) (Ev.now _)
  | true =>
    have hl := good_len hg
    have hb := range_bounds hg
    have hn := nY_eq hg
    rcases kind_cases a with h | ⟨c, hc, h, hk⟩
    · refine ⟨([], false), .inl ⟨by rw [h]; rfl, rfl⟩, ?_, ?_⟩
      · refine Ev.congr (fun k => by unfold spec_YearsAllKind.f; rfl) ?_
        refine Ev.bind (kiBoth_f l a) ?_
        rw [hg, h]
        exact Ev.if_neg (show ¬ ((true && false) = true) by decide) (Ev.now _)
      · refine Ev.congr (fun k => by unfold impl_YearsAllKind.f; rfl) ?_
        refine Ev.got (areAges_f l) ?_
        rw [hg]
        refine Ev.if_pos rfl (Ev.got (isKind_f a) ?_)
        rw [h]
        exact Ev.if_neg (show ¬ (false = true) by decide) (Ev.now _)
    · refine ⟨(coll (akQ c l) (fun j => j) (loY l) (nY l), true), .inr ⟨rfl, hk, c, hc, h, rfl⟩, ?_, ?_⟩
      · refine Ev.congr (fun k => by unfold spec_YearsAllKind.f; rfl) ?_
        refine Ev.bind (kiBoth_f l a) ?_
        rw [hg, hk]
        refine Ev.if_pos rfl (Ev.bind (agRange_f hg) ?_)
        refine Ev.same (loop_all (g := fun k acc y => spec_YearsAllKind.l0 k l a acc (hiY l) y) (q := akQ c l) (lo := loY l) (hi := hiY l) (fun z => (z, true)) (fun acc y r h0 h1 h2 h3 => ?_) (fun acc => ?_) (nY l) (loY l) [] (Int.le_refl _) hn.1 (by simp; omega)) (by simp)
        · have ew : wrap64 (y + 1) = y + 1 := w64 (by omega) (by omega)
          have ok := inY_ok hg h0 h1
          refine Ev.step (fun k => by simp only [spec_YearsAllKind.l0]; rw [if_pos h1, ew]) (Ev.bind (kiCount_f hc h y l hl.2 ok) ?_)
          by_cases hq : cntK c (inY l y) = (l.length : Int)
          · have e : akQ c l y = true := by unfold akQ; exact beq_iff_eq.mpr hq
            exact Ev.if_pos hq (Ev.if_pos (by omega) (by simpa [e] using h3))
          · have e : akQ c l y = false := by unfold akQ; exact beq_eq_false_iff_ne.mpr hq
            exact Ev.if_neg hq (by simpa [e] using h3)
        · exact Ev.step (f := fun _ => some (acc, true)) (fun k => by simp only [spec_YearsAllKind.l0]; rw [if_neg (by omega)]) (Ev.now _)
      · refine Ev.congr (fun k => by unfold impl_YearsAllKind.f; rfl) ?_
        refine Ev.got (areAges_f l) ?_
        rw [hg]
        refine Ev.if_pos rfl (Ev.got (isKind_f a) ?_)
        rw [hk]
        refine Ev.if_pos rfl (Ev.bind (allY_f _ (akQ c l) hg (fun y h0 h1 => ?_)) (Ev.now _))
        have ok := inY_ok hg h0 h1
        refine Ev.congr (fun k => by unfold impl_YearsAllKind_1.p; rfl) ?_
        refine Ev.bind (countOf_f hc h (inY l y) (by rw [inY_length]; exact hl.2) ok) ?_
        exact Ev.same (Ev.now _) (by unfold akQ; rw [inY_length])
theorem allK_both (l : List Int) (a : ByteArray) : ∃ r : List Int × Bool, r.1.length ≤ 1000 ∧ Ev (fun k => spec_YearsAllKind.f k l a) r ∧ Ev (fun k => impl_YearsAllKind.f k l a) r := by
  obtain ⟨r, hr, hs, hi⟩ := allK_res l a
  refine ⟨r, ?_, hs, hi⟩
  rcases hr with ⟨_, e⟩ | ⟨hg, _, c, _, _, e⟩
  · rw [e]; simp
  · rw [e]
    have hl := good_len hg
    have hn := nY_eq hg
    have := coll_length (akQ c l) (fun j => j) (nY l) (loY l)
    show (coll (akQ c l) (fun j => j) (loY l) (nY l)).length ≤ 1000
    omega

/-! #### kindis -/
/-! ### one age and a kind -/
theorem kiAge_f (n : Int) : spec_kiAge.f n = some (decide (0 ≤ n ∧ n ≤ 120)) := by
  unfold spec_kiAge.f
  rw [l1In_f]
  rfl
theorem isAge_f (n : Int) : impl_isAge.f n = some (decide (0 ≤ n ∧ n ≤ 120)) := by
  unfold impl_isAge.f
  rw [between_f]
  rfl
theorem isKind_res (n : Int) (a : ByteArray) : ∃ r : Bool × Bool, KRes (decide (0 ≤ n ∧ n ≤ 120)) a (false, false) (fun c => (kV c n, true)) r ∧ Ev (fun k => spec_IsKind.f k n a) r ∧ Ev (fun k => impl_IsKind.f k n a) r := by
  by_cases hn : 0 ≤ n ∧ n ≤ 120
  · rcases kind_cases a with h | ⟨c, hc, h, hk⟩
    · refine ⟨(false, false), .inl ⟨by rw [h]; simp, rfl⟩, ?_, ?_⟩
      · refine Ev.congr (fun k => by unfold spec_IsKind.f; rfl) ?_
        exact Ev.got (kiAge_f n) (Ev.if_pos (decide_eq_true hn) (Ev.got (kiKind_f a) (by rw [h]; exact Ev.if_neg (show ¬ (false = true) by decide) (Ev.now _))))
      · refine Ev.congr (fun k => by unfold impl_IsKind.f; rfl) ?_
        exact Ev.got (isAge_f n) (Ev.if_pos (decide_eq_true hn) (Ev.got (isKind_f a) (by rw [h]; exact Ev.if_neg (show ¬ (false = true) by decide) (Ev.now _))))
    · have h9 : n ≤ 960 := by omega
      refine ⟨(kV c n, true), .inr ⟨decide_eq_true hn, hk, c, hc, h, rfl⟩, ?_, ?_⟩
      · refine Ev.congr (fun k => by unfold spec_IsKind.f; rfl) ?_
        exact Ev.got (kiAge_f n) (Ev.if_pos (decide_eq_true hn) (Ev.got (kiKind_f a) (by rw [hk]; exact Ev.if_pos rfl (Ev.bind (specK_f hc h hn.1 h9) (Ev.now _)))))
      · refine Ev.congr (fun k => by unfold impl_IsKind.f; rfl) ?_
        exact Ev.got (isAge_f n) (Ev.if_pos (decide_eq_true hn) (Ev.got (isKind_f a) (by rw [hk]; exact Ev.if_pos rfl (Ev.bind (implK_f hc h hn.1 h9) (Ev.now _)))))
  · refine ⟨(false, false), .inl ⟨by rw [decide_eq_false hn]; rfl, rfl⟩, ?_, ?_⟩
    · refine Ev.congr (fun k => by unfold spec_IsKind.f; rfl) ?_
      exact Ev.got (kiAge_f n) (Ev.if_neg (fun e => hn (of_decide_eq_true e)) (Ev.now _))
    · refine Ev.congr (fun k => by unfold impl_IsKind.f; rfl) ?_
      exact Ev.got (isAge_f n) (Ev.if_neg (fun e => hn (of_decide_eq_true e)) (Ev.now _))
theorem isKind_both (n : Int) (a : ByteArray) : ∃ r : Bool × Bool, Ev (fun k => spec_IsKind.f k n a) r ∧ Ev (fun k => impl_IsKind.f k n a) r := by
  obtain ⟨r, _, hs, hi⟩ := isKind_res n a
  exact ⟨r, hs, hi⟩

/-! #### kindlong -/
/-! ### the longest time without an age of a kind -/
def kAges (c : Nat) : List Int := coll (kV c) (fun j => j) 0 121
def longS (c : Nat) : Option (Int × Int × Bool) := spec_LongestWithout.l0 130 (kAges c) 0 (-1) 1
def longI (c : Nat) : Option (Int × Int × Bool) := impl_LongestWithout.j0 130 (kAges c) (decide (((kAges c).length : Int) < 2))
set_option maxRecDepth 100000 in
theorem longTable : (List.range 6).all (fun c => longS c == longI c && (longS c).isSome) = true := by decide +kernel
theorem longK_res (a : ByteArray) : ∃ r : Int × Int × Bool, KRes true a (0, 0, false) (fun c => (longS c).getD (0, 0, false)) r ∧ Ev (fun k => spec_LongestWithout.f k a) r ∧ Ev (fun k => impl_LongestWithout.f k a) r := by
  rcases kind_cases a with h | ⟨c, hc, h, hk⟩
  · refine ⟨(0, 0, false), .inl ⟨by rw [h]; rfl, rfl⟩, ?_, ?_⟩
    · refine Ev.congr (fun k => by unfold spec_LongestWithout.f; rfl) ?_
      exact Ev.got (kiKind_f a) (by rw [h]; exact Ev.if_neg (show ¬ (false = true) by decide) (Ev.now _))
    · refine Ev.congr (fun k => by unfold impl_LongestWithout.f impl_AgesOfKind.f; rfl) ?_
      refine Ev.bind (a := (([] : List Int), false)) ?_ ?_
      · exact Ev.got (isKind_f a) (by rw [h]; exact Ev.if_neg (show ¬ (false = true) by decide) (Ev.now _))
      · exact Ev.if_neg (show ¬ (false = true) by decide) (Ev.step (f := fun _ => some (0, 0, false)) (fun k => by simp only [impl_LongestWithout.j0, if_true]) (Ev.now _))
  · have key := List.all_eq_true.mp longTable c (List.mem_range.mpr hc)
    simp only [Bool.and_eq_true, beq_iff_eq] at key
    obtain ⟨r, hr⟩ := Option.isSome_iff_exists.mp key.2
    refine ⟨r, .inr ⟨rfl, hk, c, hc, h, by show r = (longS c).getD (0, 0, false); rw [hr]; rfl⟩, ?_, ?_⟩
    · refine Ev.congr (fun k => by unfold spec_LongestWithout.f; rfl) ?_
      refine Ev.got (kiKind_f a) ?_
      rw [hk]
      refine Ev.if_pos rfl (Ev.bind (kiAll_f hc h) ?_)
      exact Ev.mono (fun k => spec_LongestWithout.mono_l k _ _ _ _) (K := 130) hr
    · refine Ev.congr (fun k => by unfold impl_LongestWithout.f impl_AgesOfKind.f; rfl) ?_
      refine Ev.bind (a := (kAges c, true)) ?_ ?_
      · refine Ev.got (isKind_f a) ?_
        rw [hk]
        exact Ev.if_pos rfl (Ev.bind (kindAges_f hc h) (Ev.now _))
      · refine Ev.if_pos rfl ?_
        exact Ev.mono (fun k => (impl_LongestWithout.mono_l k).1 _ _) (K := 130) (key.1.symm.trans hr)
theorem longK_both (a : ByteArray) : ∃ r : Int × Int × Bool, Ev (fun k => spec_LongestWithout.f k a) r ∧ Ev (fun k => impl_LongestWithout.f k a) r := by
  obtain ⟨r, _, hs, hi⟩ := longK_res a
  exact ⟨r, hs, hi⟩

/-! #### kindnext -/
/-! ### the next age of a kind -/
def nextOf (n : Int) (t : List Int) : Int × Bool := match t with | [] => (0, false) | x :: xs => if x > n then (x, true) else nextOf n xs
theorem next_l (n : Int) (t : List Int) (hb : t.length ≤ 1048576) (d : Nat) : ∀ (i : Nat), i + d = t.length → Ev (fun k => spec_NextOfKind.l0 k n t (t.length : Int) (i : Int)) (nextOf n (t.drop i)) := by
  induction d with
  | zero =>
    intro i hi
    exact Ev.step (f := fun _ => some (0, false)) (fun k => by simp only [spec_NextOfKind.l0]; rw [if_neg (by omega)]) (Ev.same (Ev.now _) (by rw [List.drop_of_length_le (by omega)]; rfl))
  | succ d ih =>
    intro i hi
    have ew : wrap64 ((i : Int) + 1) = ((i + 1 : Nat) : Int) := by rw [w64 (by omega) (by omega)]; omega
    refine Ev.step (fun k => by simp only [spec_NextOfKind.l0]; rw [if_pos (show (i : Int) < (t.length : Int) by omega), if_pos (show 0 ≤ (i : Int) by omega), if_pos (show (i : Int) < (t.length : Int) by omega), ew]) ?_
    rw [drop_rd t i (by omega), nextOf]
    by_cases h : rd t (i : Int) > n
    · rw [if_pos h]; exact Ev.if_pos h (Ev.now _)
    · rw [if_neg h]; exact Ev.if_neg h (ih (i + 1) (by omega))
theorem idx_next (n : Int) (t : List Int) : ∀ (pre : List Int), (idxOf (fun x => decide (x > n)) t (pre.length : Int) = -1 ∧ nextOf n t = (0, false)) ∨ (∃ i : Int, 0 ≤ i ∧ i < ((pre ++ t).length : Int) ∧ idxOf (fun x => decide (x > n)) t (pre.length : Int) = i ∧ nextOf n t = (rd (pre ++ t) i, true)) := by
  induction t with
  | nil => intro pre; exact .inl ⟨rfl, rfl⟩
  | cons x xs ih =>
    intro pre
    simp only [idxOf, nextOf]
    by_cases h : x > n
    · refine .inr ⟨pre.length, by omega, by simp; omega, by simp [h], ?_⟩
      rw [if_pos h]
      rw [rd_at (pre ++ x :: xs) pre.length (by simp)]
      simp
    · rw [if_neg (by simpa using h), if_neg h]
      have := ih (pre ++ [x])
      rw [show ((pre ++ [x]).length : Int) = (pre.length : Int) + 1 by simp] at this
      simpa using this
theorem nextK_res (n : Int) (a : ByteArray) : ∃ r : Int × Bool, KRes (decide (0 ≤ n ∧ n ≤ 120)) a (0, false) (fun c => nextOf n (coll (kV c) (fun j => j) 0 121)) r ∧ Ev (fun k => spec_NextOfKind.f k n a) r ∧ Ev (fun k => impl_NextOfKind.f k n a) r := by
  have bad : Ev (fun k => spec_NextOfKind.j0 k n a true) (0, false) := Ev.step (f := fun _ => some (0, false)) (fun k => by simp only [spec_NextOfKind.j0, if_true]) (Ev.now _)
  by_cases hn : 0 ≤ n ∧ n ≤ 120
  · rcases kind_cases a with h | ⟨c, hc, h, hk⟩
    · refine ⟨(0, false), .inl ⟨by rw [h]; simp, rfl⟩, ?_, ?_⟩
      · refine Ev.congr (fun k => by unfold spec_NextOfKind.f; rfl) ?_
        exact Ev.got (kiAge_f n) (Ev.if_pos (decide_eq_true hn) (Ev.got (kiKind_f a) (by rw [h]; exact bad)))
      · refine Ev.congr (fun k => by unfold impl_NextOfKind.f; rfl) ?_
        exact Ev.got (isAge_f n) (Ev.if_pos (decide_eq_true hn) (Ev.got (isKind_f a) (by rw [h]; exact Ev.if_neg (show ¬ (false = true) by decide) (Ev.now _))))
    · have hs := kiAll_f hc h
      have hi := kindAges_f hc h
      have hl := coll_length (kV c) (fun j => j) 121 0
      have hr : KRes (decide (0 ≤ n ∧ n ≤ 120)) a (0, false) (fun c => nextOf n (coll (kV c) (fun j => j) 0 121)) (nextOf n (coll (kV c) (fun j => j) 0 121)) := .inr ⟨decide_eq_true hn, hk, c, hc, h, rfl⟩
      generalize coll (kV c) (fun j => j) 0 121 = t at hs hi hl hr
      refine ⟨nextOf n t, hr, ?_, ?_⟩
      · refine Ev.congr (fun k => by unfold spec_NextOfKind.f; rfl) ?_
        refine Ev.got (kiAge_f n) (Ev.if_pos (decide_eq_true hn) (Ev.got (kiKind_f a) ?_))
        rw [hk]
        refine Ev.step (fun k => by simp only [spec_NextOfKind.j0]; rw [if_neg (by simp)]) (Ev.bind hs ?_)
        exact Ev.same (next_l n t (by omega) t.length 0 (by omega)) (by simp)
      · refine Ev.congr (fun k => by unfold impl_NextOfKind.f; rfl) ?_
        refine Ev.got (isAge_f n) (Ev.if_pos (decide_eq_true hn) (Ev.got (isKind_f a) ?_))
        rw [hk]
        refine Ev.if_pos rfl (Ev.bind hi ?_)
        rcases idx_next n t [] with ⟨e1, e2⟩ | ⟨i, i0, i1, e1, e2⟩
        · simp only [List.length_nil, Int.ofNat_zero] at e1
          have e1' : idxOf (fun x => decide (x > n)) t 0 = -1 := e1
          rw [e2]
          exact Ev.if_pos (show idxOf (fun x => decide (x > n)) t 0 < 0 by rw [e1']; omega) (Ev.now _)
        · have e1' : idxOf (fun x => decide (x > n)) t 0 = i := e1
          have i1' : i < (t.length : Int) := i1
          rw [show nextOf n t = (rd t i, true) from e2]
          refine Ev.if_neg (show ¬ idxOf (fun x => decide (x > n)) t 0 < 0 by rw [e1']; omega) (Ev.if_pos (show idxOf (fun x => decide (x > n)) t 0 < (t.length : Int) by rw [e1']; omega) ?_)
          rw [e1']
          exact Ev.now _
  · refine ⟨(0, false), .inl ⟨by rw [decide_eq_false hn]; rfl, rfl⟩, ?_, ?_⟩
    · refine Ev.congr (fun k => by unfold spec_NextOfKind.f; rfl) ?_
      exact Ev.got (kiAge_f n) (Ev.if_neg (fun e => hn (of_decide_eq_true e)) bad)
    · refine Ev.congr (fun k => by unfold impl_NextOfKind.f; rfl) ?_
      exact Ev.got (isAge_f n) (Ev.if_neg (fun e => hn (of_decide_eq_true e)) (Ev.now _))
theorem nextK_both (n : Int) (a : ByteArray) : ∃ r : Int × Bool, Ev (fun k => spec_NextOfKind.f k n a) r ∧ Ev (fun k => impl_NextOfKind.f k n a) r := by
  obtain ⟨r, _, hs, hi⟩ := nextK_res n a
  exact ⟨r, hs, hi⟩

/-! #### kindsof -/
/-! ### all kinds of an age -/
def kGot (n : Int) : Nat → Nat → ByteArray → ByteArray
  | 0, _, acc => acc
  | d + 1, i, acc => if kV i n = true then kGot n d (i + 1) (acc ++ ⟨#[kLetter i]⟩) else kGot n d (i + 1) acc
theorem one_size (acc : ByteArray) (c : UInt8) : (acc ++ (⟨#[c]⟩ : ByteArray)).size = acc.size + 1 := by rw [ByteArray.size_append]; rfl
theorem one_list (c : UInt8) : (⟨#[c]⟩ : ByteArray).toList = [c] := Lib.toList_data _
theorem piece (i : Nat) (h : i < 6) : (⟨#[112, 115, 99, 116, 100, 114]⟩ : ByteArray).extract i (i + 1) = ⟨#[kLetter i]⟩ := by
  match i, h with
  | 0, _ => decide
  | 1, _ => decide
  | 2, _ => decide
  | 3, _ => decide
  | 4, _ => decide
  | 5, _ => decide
theorem specKO_l {n : Int} (h0 : 0 ≤ n) (h1 : n ≤ 120) (d : Nat) : ∀ (i : Nat) (acc : ByteArray), i + d = 6 → acc.size ≤ i → Ev (fun k => spec_KindsOf.l0 k n acc (i : Int)) (kGot n d i acc, true) := by
  induction d with
  | zero =>
    intro i acc hi _
    exact Ev.step (f := fun _ => some (acc, true)) (fun k => by simp only [spec_KindsOf.l0]; rw [if_neg (by omega)]) (Ev.now _)
  | succ d ih =>
    intro i acc hi ha
    have ew : wrap64 ((i : Int) + 1) = ((i + 1 : Nat) : Int) := by rw [w64 (by omega) (by omega)]; omega
    have h9 : n ≤ 960 := by omega
    have hp := piece i (by omega)
    refine Ev.step (fun k => by simp only [spec_KindsOf.l0]; rw [if_pos (show (i : Int) < 6 by omega), if_pos (show 0 ≤ (i : Int) by omega), ew, if_pos (show (i : Int) ≤ ((i + 1 : Nat) : Int) by omega), if_pos (show ((i + 1 : Nat) : Int) ≤ 6 by omega), Int.toNat_natCast, Int.toNat_natCast, hp]) ?_
    refine Ev.bind (specK_f (show i < 6 by omega) (one_list _) h0 h9) ?_
    simp only [kGot]
    cases hv : kV i n with
    | true =>
      refine Ev.if_pos rfl (Ev.if_pos (show acc.size + (⟨#[kLetter i]⟩ : ByteArray).size ≤ 9223372036854775807 by have : (⟨#[kLetter i]⟩ : ByteArray).size = 1 := rfl; omega) ?_)
      exact Ev.same (ih (i + 1) _ (by omega) (by rw [one_size]; omega)) (by simp)
    | false => exact Ev.if_neg (show ¬ (false = true) by decide) (Ev.same (ih (i + 1) acc (by omega) (by omega)) (by simp))
def kNames : List ByteArray := [(⟨#[112]⟩ : ByteArray), (⟨#[115]⟩ : ByteArray), (⟨#[99]⟩ : ByteArray), (⟨#[116]⟩ : ByteArray), (⟨#[100]⟩ : ByteArray), (⟨#[114]⟩ : ByteArray)]
theorem names_at (i : Nat) (h : i < 6) : rdOf ByteArray.empty kNames (i : Int) = ⟨#[kLetter i]⟩ := by
  match i, h with
  | 0, _ => rfl
  | 1, _ => rfl
  | 2, _ => rfl
  | 3, _ => rfl
  | 4, _ => rfl
  | 5, _ => rfl
theorem implKO_l {n : Int} (h0 : 0 ≤ n) (h1 : n ≤ 120) (d : Nat) : ∀ (i : Nat) (acc : ByteArray), i + d = 6 → acc.size ≤ i → Ev (fun k => impl_KindsOf.l0 k n acc kNames 6 (i : Int)) (kGot n d i acc, true) := by
  induction d with
  | zero =>
    intro i acc hi _
    exact Ev.step (f := fun _ => some (acc, true)) (fun k => by simp only [impl_KindsOf.l0]; rw [if_neg (by omega)]) (Ev.now _)
  | succ d ih =>
    intro i acc hi ha
    have ew : wrap64 ((i : Int) + 1) = ((i + 1 : Nat) : Int) := by rw [w64 (by omega) (by omega)]; omega
    have h9 : n ≤ 960 := by omega
    have hp := names_at i (by omega)
    have hl : (kNames.length : Int) = 6 := rfl
    refine Ev.step (fun k => by simp only [impl_KindsOf.l0]; rw [if_pos (show (i : Int) < 6 by omega), if_pos (show 0 ≤ (i : Int) by omega), if_pos (show (i : Int) < (kNames.length : Int) by omega), ew, hp]) ?_
    refine Ev.bind (implK_f (show i < 6 by omega) (one_list _) h0 h9) ?_
    simp only [kGot]
    cases hv : kV i n with
    | true =>
      refine Ev.if_pos rfl (Ev.if_pos (show acc.size + (⟨#[kLetter i]⟩ : ByteArray).size ≤ 9223372036854775807 by have : (⟨#[kLetter i]⟩ : ByteArray).size = 1 := rfl; omega) ?_)
      exact Ev.same (ih (i + 1) _ (by omega) (by rw [one_size]; omega)) (by simp)
    | false => exact Ev.if_neg (show ¬ (false = true) by decide) (Ev.same (ih (i + 1) acc (by omega) (by omega)) (by simp))
theorem kindsOf_res (n : Int) : ∃ r : ByteArray × Bool, r = (if 0 ≤ n ∧ n ≤ 120 then (kGot n 6 0 ⟨#[]⟩, true) else (⟨#[]⟩, false)) ∧ Ev (fun k => spec_KindsOf.f k n) r ∧ Ev (fun k => impl_KindsOf.f k n) r := by
  by_cases hn : 0 ≤ n ∧ n ≤ 120
  · refine ⟨(kGot n 6 0 ⟨#[]⟩, true), (if_pos hn).symm, ?_, ?_⟩
    · refine Ev.congr (fun k => by unfold spec_KindsOf.f; rfl) ?_
      exact Ev.got (kiAge_f n) (Ev.if_pos (decide_eq_true hn) (specKO_l hn.1 hn.2 6 0 _ (by omega) (Nat.le_refl _)))
    · refine Ev.congr (fun k => by unfold impl_KindsOf.f; rfl) ?_
      refine Ev.got (isAge_f n) (Ev.if_pos (decide_eq_true hn) ?_)
      exact implKO_l hn.1 hn.2 6 0 _ (by omega) (Nat.le_refl _)
  · refine ⟨(⟨#[]⟩, false), (if_neg hn).symm, ?_, ?_⟩
    · refine Ev.congr (fun k => by unfold spec_KindsOf.f; rfl) ?_
      exact Ev.got (kiAge_f n) (Ev.if_neg (fun e => hn (of_decide_eq_true e)) (Ev.now _))
    · refine Ev.congr (fun k => by unfold impl_KindsOf.f; rfl) ?_
      exact Ev.got (isAge_f n) (Ev.if_neg (fun e => hn (of_decide_eq_true e)) (Ev.now _))
theorem kindsOf_both (n : Int) : ∃ r : ByteArray × Bool, Ev (fun k => spec_KindsOf.f k n) r ∧ Ev (fun k => impl_KindsOf.f k n) r := by
  obtain ⟨r, _, hs, hi⟩ := kindsOf_res n
  exact ⟨r, hs, hi⟩

/-! #### sum -/
/-! ### sums -/
def sumW : List Int → Int → Int
  | [], s => s
  | x :: xs, s => sumW xs (wrap64 (s + x))
theorem agSum_l (l : List Int) (hb : l.length ≤ 1048576) (d : Nat) : ∀ (i : Nat) (s : Int), i + d = l.length → Ev (fun k => spec_agSum.l0 k s l (l.length : Int) (i : Int)) (sumW (l.drop i) s) := by
  induction d with
  | zero =>
    intro i s hi
    exact Ev.step (f := fun _ => some s) (fun k => by simp only [spec_agSum.l0]; rw [if_neg (by omega)]) (Ev.same (Ev.now _) (by rw [List.drop_of_length_le (by omega)]; rfl))
  | succ d ih =>
    intro i s hi
    have ew : wrap64 ((i : Int) + 1) = ((i + 1 : Nat) : Int) := by rw [w64 (by omega) (by omega)]; omega
    refine Ev.step (f := fun k => spec_agSum.l0 k (wrap64 (s + rd l (i : Int))) l (l.length : Int) ((i + 1 : Nat) : Int)) (fun k => ?_) (Ev.same (ih (i + 1) _ (by omega)) (by rw [drop_rd l i (by omega)]; rfl))
    simp only [spec_agSum.l0]; rw [if_pos (by omega), if_pos (by omega), if_pos (by omega), ew]
theorem agSum_f (l : List Int) (hb : l.length ≤ 1048576) : Ev (fun k => spec_agSum.f k l) (sumW l 0) := Ev.same (agSum_l l hb l.length 0 _ (by omega)) (by simp)
theorem total_l (l : List Int) (hb : l.length ≤ 1048576) (d : Nat) : ∀ (i : Nat) (s : Int), i + d = l.length → Ev (fun k => impl_total.l0 k s l (l.length : Int) (i : Int)) (sumW (l.drop i) s) := by
  induction d with
  | zero =>
    intro i s hi
    exact Ev.step (f := fun _ => some s) (fun k => by simp only [impl_total.l0]; rw [if_neg (by omega)]) (Ev.same (Ev.now _) (by rw [List.drop_of_length_le (by omega)]; rfl))
  | succ d ih =>
    intro i s hi
    have ew : wrap64 ((i : Int) + 1) = ((i + 1 : Nat) : Int) := by rw [w64 (by omega) (by omega)]; omega
    refine Ev.step (f := fun k => impl_total.l0 k (wrap64 (s + rd l (i : Int))) l (l.length : Int) ((i + 1 : Nat) : Int)) (fun k => ?_) (Ev.same (ih (i + 1) _ (by omega)) (by rw [drop_rd l i (by omega)]; rfl))
    simp only [impl_total.l0]; rw [if_pos (by omega), if_pos (by omega), if_pos (by omega), ew]
theorem total_f (l : List Int) (hb : l.length ≤ 1048576) : Ev (fun k => impl_total.f k l) (sumW l 0) := Ev.same (total_l l hb l.length 0 _ (by omega)) (by simp)
theorem sumW_eq (l : List Int) : ∀ s, (∀ x ∈ l, -1000000 ≤ x ∧ x ≤ 1000000) → -4611686018427387904 + 1000000 * (l.length : Int) ≤ s → s + 1000000 * (l.length : Int) ≤ 4611686018427387904 → sumW l s = s + l.sum := by
  induction l with
  | nil => intro s _ _ _; simp [sumW]
  | cons x xs ih =>
    intro s h h3 h4
    have hx := h x (by simp)
    simp only [List.length_cons] at h3 h4
    simp only [sumW]
    rw [w64 (by omega) (by omega), ih (s + x) (fun y hy => h y (by simp [hy])) (by omega) (by omega)]
    simp; omega

/-! #### goodsum -/
theorem good_sum {l : List Int} (hg : goodB l = true) : sumW l 0 = l.sum ∧ 0 ≤ l.sum ∧ l.sum ≤ 960 := by
  have hl := good_len hg
  have key : ∀ m : List Int, (∀ x ∈ m, 0 ≤ x ∧ x ≤ 120) → 0 ≤ m.sum ∧ m.sum ≤ 120 * (m.length : Int) := by
    intro m
    induction m with
    | nil => intro _; simp
    | cons x xs ih =>
      intro h
      have hx := h x (by simp)
      have := ih (fun y hy => h y (by simp [hy]))
      simp only [List.sum_cons, List.length_cons]
      omega
  have hs := key l (fun x hx => good_mem hg hx)
  refine ⟨?_, hs.1, by omega⟩
  have := sumW_eq l 0 (fun x hx => by have := good_mem hg hx; omega) (by omega) (by omega)
  simpa using this

/-! #### kindsum -/
/-! ### years in which the sum is of a kind -/
theorem map_sum (y : Int) (l : List Int) : (l.map (· + y)).sum = l.sum + y * (l.length : Int) := by
  induction l with
  | nil => simp
  | cons x xs ih =>
    simp only [List.map_cons, List.sum_cons, List.length_cons, ih]
    rw [show ((xs.length + 1 : Nat) : Int) = (xs.length : Int) + 1 by omega, Int.mul_add]
    omega
theorem inY_good {l : List Int} (hg : goodB l = true) {y : Int} (h0 : loY l ≤ y) (h1 : y ≤ hiY l) : goodB (inY l y) = true := by
  have hl := good_len hg
  have ok := inY_ok hg h0 h1
  unfold goodB allB
  rw [inY_length]
  simp only [Bool.and_eq_true, decide_eq_true_eq, List.all_eq_true]
  exact ⟨by omega, fun x hx => ok x hx⟩
theorem sum_in {l : List Int} (hg : goodB l = true) {y : Int} (h0 : loY l ≤ y) (h1 : y ≤ hiY l) : sumW (inY l y) 0 = (inY l y).sum ∧ wrap64 (sumW l 0 + wrap64 (y * (l.length : Int))) = (inY l y).sum ∧ 0 ≤ (inY l y).sum ∧ (inY l y).sum ≤ 960 := by
  have hs := good_sum (inY_good hg h0 h1)
  have ht := good_sum hg
  have e : (inY l y).sum = l.sum + y * (l.length : Int) := by rw [inY_fit hg h0 h1, map_sum]
  refine ⟨hs.1, ?_, hs.2⟩
  rw [ht.1, w64 (x := y * (l.length : Int)) (by omega) (by omega), w64 (by omega) (by omega), e]
def skQ (c : Nat) (l : List Int) (y : Int) : Bool := kV c (inY l y).sum
theorem sumK_res (l : List Int) (a : ByteArray) : ∃ r : List Int × Bool, KRes (goodB l) a ([], false) (fun c => (coll (skQ c l) (fun j => j) (loY l) (nY l), true)) r ∧ Ev (fun k => spec_YearsSumKind.f k l a) r ∧ Ev (fun k => impl_YearsSumKind.f k l a) r := by
  cases hg : goodB l with
  | false =>
    refine ⟨([], false), .inl ⟨by simp, rfl⟩, ?_, ?_⟩
    · refine Ev.congr (fun k => by unfold spec_YearsSumKind.f; rfl) ?_
      refine Ev.bind (kiBoth_f l a) ?_
      rw [hg]
      exact Ev.if_neg (show ¬ ((false && kindB a) = true) by simp) (Ev.now _)
    · refine Ev.congr (fun k => by unfold impl_YearsSumKind.f; rfl) ?_
      refine Ev.got (areAges_f l) ?_
      rw [hg]
      exact Ev.if_neg (show ¬ (false = true) by decide) (Ev.now _)
  | true =>
    have hl := good_len hg
    have hb := range_bounds hg
    have hn := nY_eq hg
    rcases kind_cases a with h | ⟨c, hc, h, hk⟩
    · refine ⟨([], false), .inl ⟨by rw [h]; rfl, rfl⟩, ?_, ?_⟩
      · refine Ev.congr (fun k => by unfold spec_YearsSumKind.f; rfl) ?_
        refine Ev.bind (kiBoth_f l a) ?_
        rw [hg, h]
        exact Ev.if_neg (show ¬ ((true && false) = true) by decide) (Ev.now _)
      · refine Ev.congr (fun k => by unfold impl_YearsSumKind.f; rfl) ?_
        refine Ev.got (areAges_f l) ?_
        rw [hg]
        refine Ev.if_pos rfl (Ev.got (isKind_f a) ?_)
        rw [h]
        exact Ev.if_neg (show ¬ (false = true) by decide) (Ev.now _)
    · refine ⟨(coll (skQ c l) (fun j => j) (loY l) (nY l), true), .inr ⟨rfl, hk, c, hc, h, rfl⟩, ?_, ?_⟩
      · refine Ev.congr (fun k => by unfold spec_YearsSumKind.f; rfl) ?_
        refine Ev.bind (kiBoth_f l a) ?_
        rw [hg, hk]
        refine Ev.if_pos rfl (Ev.bind (agRange_f hg) ?_)
        refine Ev.same (loop_all (g := fun k acc y => spec_YearsSumKind.l0 k l a acc (hiY l) y) (q := skQ c l) (lo := loY l) (hi := hiY l) (fun z => (z, true)) (fun acc y r h0 h1 h2 h3 => ?_) (fun acc => ?_) (nY l) (loY l) [] (Int.le_refl _) hn.1 (by simp; omega)) (by simp)
        · have ew : wrap64 (y + 1) = y + 1 := w64 (by omega) (by omega)
          obtain ⟨e1, e2, s0, s1⟩ := sum_in hg h0 h1
          refine Ev.step (fun k => by simp only [spec_YearsSumKind.l0]; rw [if_pos h1, ew]) (Ev.bind (agSum_f l (by omega)) ?_)
          rw [e2]
          refine Ev.bind (specK_f hc h s0 s1) ?_
          cases hv : kV c (inY l y).sum with
          | true => exact Ev.if_pos rfl (Ev.if_pos (by omega) (by simpa [skQ, hv] using h3))
          | false => exact Ev.if_neg (show ¬ (false = true) by decide) (by simpa [skQ, hv] using h3)
        · exact Ev.step (f := fun _ => some (acc, true)) (fun k => by simp only [spec_YearsSumKind.l0]; rw [if_neg (by omega)]) (Ev.now _)
      · refine Ev.congr (fun k => by unfold impl_YearsSumKind.f; rfl) ?_
        refine Ev.got (areAges_f l) ?_
        rw [hg]
        refine Ev.if_pos rfl (Ev.got (isKind_f a) ?_)
        rw [hk]
        refine Ev.if_pos rfl (Ev.bind (allY_f _ (skQ c l) hg (fun y h0 h1 => ?_)) (Ev.now _))
        obtain ⟨e1, e2, s0, s1⟩ := sum_in hg h0 h1
        refine Ev.congr (fun k => by unfold impl_YearsSumKind_1.p; rfl) ?_
        refine Ev.bind (total_f (inY l y) (by rw [inY_length]; omega)) ?_
        rw [e1]
        exact implK_f hc h s0 s1
theorem sumK_both (l : List Int) (a : ByteArray) : ∃ r : List Int × Bool, r.1.length ≤ 1000 ∧ Ev (fun k => spec_YearsSumKind.f k l a) r ∧ Ev (fun k => impl_YearsSumKind.f k l a) r := by
  obtain ⟨r, hr, hs, hi⟩ := sumK_res l a
  refine ⟨r, ?_, hs, hi⟩
  rcases hr with ⟨_, e⟩ | ⟨hg, _, c, _, _, e⟩
  · rw [e]; simp
  · rw [e]
    have hl := good_len hg
    have hn := nY_eq hg
    have := coll_length (skQ c l) (fun j => j) (nY l) (loY l)
    show (coll (skQ c l) (fun j => j) (loY l) (nY l)).length ≤ 1000
    omega

/-! #### aiof -/
/-! ### ages in a year, as the program tells them -/
def aiOf (l : List Int) (y : Int) : List Int × Bool := if fitB l y = true then (inY l y, true) else ([], false)
theorem implAI_f (l : List Int) (y : Int) : Ev (fun k => impl_AgesIn.f k l y) (aiOf l y) := by
  refine Ev.congr (fun k => by unfold impl_AgesIn.f; rfl) (Ev.got (areAges_f l) ?_)
  cases hg : goodB l with
  | true =>
    have := good_len hg
    refine Ev.if_pos rfl (Ev.got (isFit_f hg y) ?_)
    cases hf : fitB l y with
    | true => exact Ev.if_pos rfl (Ev.bind (inYears_f l y (by omega)) (Ev.same (Ev.now _) (by unfold aiOf; rw [hf]; rfl)))
    | false => exact Ev.if_neg (by simp) (Ev.same (Ev.now _) (by unfold aiOf; rw [hf]; rfl))
  | false =>
    have hf : fitB l y = false := by unfold fitB; rw [hg]; rfl
    exact Ev.if_neg (by simp) (Ev.same (Ev.now _) (by unfold aiOf; rw [hf]; rfl))
theorem aiOf_length (l : List Int) (y : Int) : (aiOf l y).1.length ≤ 8 := by
  unfold aiOf
  split
  · rename_i h; have := good_len (fit_good h).1; simp [inY_length]; omega
  · simp

/-! #### kindyears -/
/-! ### kinds over years -/
theorem cntK_res (l : List Int) (y : Int) (a : ByteArray) : ∃ r : Int × Bool, KRes (fitB l y) a (0, false) (fun c => (cntK c (inY l y), true)) r ∧ Ev (fun k => spec_CountOfKind.f k l y a) r ∧ Ev (fun k => impl_CountOfKind.f k l y a) r := by
  rcases kind_cases a with h | ⟨c, hc, h, hk⟩
  · refine ⟨(0, false), .inl ⟨by rw [h]; simp, rfl⟩, ?_, ?_⟩
    · refine Ev.congr (fun k => by unfold spec_CountOfKind.f; rfl) ?_
      refine Ev.bind (kiBoth_f l a) ?_
      rw [h]
      exact Ev.if_neg (show ¬ ((goodB l && false) = true) by simp) (Ev.now _)
    · refine Ev.congr (fun k => by unfold impl_CountOfKind.f; rfl) ?_
      refine Ev.bind (implAI_f l y) ?_
      cases hf : (aiOf l y).2 with
      | true =>
        refine Ev.if_pos rfl (Ev.got (isKind_f a) ?_)
        rw [h]
        exact Ev.if_neg (show ¬ (false = true) by decide) (Ev.now _)
      | false => exact Ev.if_neg (show ¬ (false = true) by decide) (Ev.now _)
  · cases hf : fitB l y with
    | true =>
      have hg := (fit_good hf).1
      have hl := good_len hg
      have ok := inY_ok hg (fit_good hf).2.1 (fit_good hf).2.2
      refine ⟨(cntK c (inY l y), true), .inr ⟨rfl, hk, c, hc, h, rfl⟩, ?_, ?_⟩
      · refine Ev.congr (fun k => by unfold spec_CountOfKind.f; rfl) ?_
        refine Ev.bind (kiBoth_f l a) ?_
        rw [hg, hk]
        refine Ev.if_pos rfl (Ev.bind (agFit_f l y) ?_)
        rw [hf]
        exact Ev.if_pos rfl (Ev.bind (kiCount_f hc h y l hl.2 ok) (Ev.now _))
      · refine Ev.congr (fun k => by unfold impl_CountOfKind.f; rfl) ?_
        refine Ev.bind (implAI_f l y) ?_
        have e : aiOf l y = (inY l y, true) := by unfold aiOf; rw [if_pos hf]
        rw [e]
        refine Ev.if_pos rfl (Ev.got (isKind_f a) ?_)
        rw [hk]
        exact Ev.if_pos rfl (Ev.bind (countOf_f hc h (inY l y) (by rw [inY_length]; exact hl.2) ok) (Ev.now _))
    | false =>
      refine ⟨(0, false), .inl ⟨rfl, rfl⟩, ?_, ?_⟩
      · refine Ev.congr (fun k => by unfold spec_CountOfKind.f; rfl) ?_
        refine Ev.bind (kiBoth_f l a) ?_
        rw [hk]
        cases hg : goodB l with
        | true =>
          refine Ev.if_pos rfl (Ev.bind (agFit_f l y) ?_)
          rw [hf]
          exact Ev.if_neg (show ¬ (false = true) by decide) (Ev.now _)
        | false => exact Ev.if_neg (show ¬ ((false && true) = true) by decide) (Ev.now _)
      · refine Ev.congr (fun k => by unfold impl_CountOfKind.f; rfl) ?_
        refine Ev.bind (implAI_f l y) ?_
        have e : aiOf l y = ([], false) := by unfold aiOf; rw [if_neg (by rw [hf]; decide)]
        rw [e]
        exact Ev.if_neg (show ¬ (false = true) by decide) (Ev.now _)
/-- The first years with the most, and how many. -/
def mostF (f : Int → Int) : Nat → Int → Int → Int → Int × Int
  | 0, _, b, m => (b, m)
  | d + 1, y, b, m => if f y > m then mostF f d (y + 1) y (f y) else mostF f d (y + 1) b m
theorem specMK_l {c : Nat} (hc : c < 6) {a : ByteArray} (h : a.toList = [kLetter c]) {l : List Int} (hg : goodB l = true) (d : Nat) : ∀ (y b m : Int), loY l ≤ y → y + d = hiY l + 1 → Ev (fun k => spec_YearsMostKind.l0 k l a (hiY l) b m y) ((mostF (fun y => cntK c (inY l y)) d y b m).1, (mostF (fun y => cntK c (inY l y)) d y b m).2, true) := by
  have hb := range_bounds hg
  have hl := good_len hg
  induction d with
  | zero =>
    intro y b m h0 h1
    exact Ev.step (f := fun _ => some (b, m, true)) (fun k => by simp only [spec_YearsMostKind.l0]; rw [if_neg (by omega)]) (Ev.now _)
  | succ d ih =>
    intro y b m h0 h1
    have ew : wrap64 (y + 1) = y + 1 := w64 (by omega) (by omega)
    have ok := inY_ok hg h0 (show y ≤ hiY l by omega)
    refine Ev.step (fun k => by simp only [spec_YearsMostKind.l0]; rw [if_pos (show y ≤ hiY l by omega), ew]) (Ev.bind (kiCount_f hc h y l hl.2 ok) ?_)
    simp only [mostF]
    by_cases hm : cntK c (inY l y) > m
    · rw [if_pos hm]; exact Ev.if_pos hm (ih (y + 1) _ _ (by omega) (by omega))
    · rw [if_neg hm]; exact Ev.if_neg hm (ih (y + 1) _ _ (by omega) (by omega))
theorem implMK_l {c : Nat} (hc : c < 6) {a : ByteArray} (h : a.toList = [kLetter c]) {l : List Int} (hg : goodB l = true) (d : Nat) : ∀ (y b m : Int), loY l ≤ y → y + d = hiY l + 1 → Ev (fun k => impl_YearsMostKind.l0 k l a (hiY l) b m y) ((mostF (fun y => cntK c (inY l y)) d y b m).1, (mostF (fun y => cntK c (inY l y)) d y b m).2, true) := by
  have hb := range_bounds hg
  have hl := good_len hg
  induction d with
  | zero =>
    intro y b m h0 h1
    exact Ev.step (f := fun _ => some (b, m, true)) (fun k => by simp only [impl_YearsMostKind.l0]; rw [if_neg (by omega)]) (Ev.now _)
  | succ d ih =>
    intro y b m h0 h1
    have ew : wrap64 (y + 1) = y + 1 := w64 (by omega) (by omega)
    have ok := inY_ok hg h0 (show y ≤ hiY l by omega)
    refine Ev.step (fun k => by simp only [impl_YearsMostKind.l0]; rw [if_pos (show y ≤ hiY l by omega), ew]) (Ev.bind (inYears_f l y (by omega)) (Ev.bind (countOf_f hc h (inY l y) (by rw [inY_length]; exact hl.2) ok) ?_))
    simp only [mostF]
    by_cases hm : cntK c (inY l y) > m
    · rw [if_pos hm]; exact Ev.if_pos hm (ih (y + 1) _ _ (by omega) (by omega))
    · rw [if_neg hm]; exact Ev.if_neg hm (ih (y + 1) _ _ (by omega) (by omega))
theorem mostF_first (f : Int → Int) (d : Nat) (y b b' : Int) (hd : 1 ≤ d) (h : f y > -1) : mostF f d y b (-1) = mostF f d y b' (-1) := by
  obtain ⟨e, rfl⟩ : ∃ e, d = e + 1 := ⟨d - 1, by omega⟩
  simp only [mostF]
  rw [if_pos h, if_pos h]
theorem cntK_both (l : List Int) (y : Int) (a : ByteArray) : ∃ r : Int × Bool, Ev (fun k => spec_CountOfKind.f k l y a) r ∧ Ev (fun k => impl_CountOfKind.f k l y a) r := by
  obtain ⟨r, _, hs, hi⟩ := cntK_res l y a
  exact ⟨r, hs, hi⟩
theorem mostK_res (l : List Int) (a : ByteArray) : ∃ r : Int × Int × Bool, KRes (goodB l) a (0, 0, false) (fun c => ((mostF (fun y => cntK c (inY l y)) (nY l) (loY l) (loY l) (-1)).1, (mostF (fun y => cntK c (inY l y)) (nY l) (loY l) (loY l) (-1)).2, true)) r ∧ Ev (fun k => spec_YearsMostKind.f k l a) r ∧ Ev (fun k => impl_YearsMostKind.f k l a) r := by
  have bad : Ev (fun k => impl_YearsMostKind.j0 k l a true) ((0 : Int), (0 : Int), false) := Ev.step (f := fun _ => some (0, 0, false)) (fun k => by simp only [impl_YearsMostKind.j0, if_true]) (Ev.now _)
  cases hg : goodB l with
  | false =>
    refine ⟨(0, 0, false), .inl ⟨by simp, rfl⟩, ?_, ?_⟩
    · refine Ev.congr (fun k => by unfold spec_YearsMostKind.f; rfl) ?_
      refine Ev.bind (kiBoth_f l a) ?_
      rw [hg]
      exact Ev.if_neg (show ¬ ((false && kindB a) = true) by simp) (Ev.now _)
    · refine Ev.congr (fun k => by unfold impl_YearsMostKind.f; rfl) ?_
      refine Ev.got (areAges_f l) ?_
      rw [hg]
      exact Ev.if_neg (show ¬ (false = true) by decide) bad
  | true =>
    have hl := good_len hg
    have hb := range_bounds hg
    have hn := nY_eq hg
    rcases kind_cases a with h | ⟨c, hc, h, hk⟩
    · refine ⟨(0, 0, false), .inl ⟨by rw [h]; rfl, rfl⟩, ?_, ?_⟩
      · refine Ev.congr (fun k => by unfold spec_YearsMostKind.f; rfl) ?_
        refine Ev.bind (kiBoth_f l a) ?_
        rw [hg, h]
        exact Ev.if_neg (show ¬ ((true && false) = true) by decide) (Ev.now _)
      · refine Ev.congr (fun k => by unfold impl_YearsMostKind.f; rfl) ?_
        refine Ev.got (areAges_f l) ?_
        rw [hg]
        refine Ev.if_pos rfl (Ev.got (isKind_f a) ?_)
        rw [h]
        exact bad
    · refine ⟨((mostF (fun y => cntK c (inY l y)) (nY l) (loY l) (loY l) (-1)).1, (mostF (fun y => cntK c (inY l y)) (nY l) (loY l) (loY l) (-1)).2, true), .inr ⟨rfl, hk, c, hc, h, rfl⟩, ?_, ?_⟩
      · refine Ev.congr (fun k => by unfold spec_YearsMostKind.f; rfl) ?_
        refine Ev.bind (kiBoth_f l a) ?_
        rw [hg, hk]
        exact Ev.if_pos rfl (Ev.bind (agRange_f hg) (specMK_l hc h hg (nY l) (loY l) (loY l) (-1) (Int.le_refl _) hn.1))
      · refine Ev.congr (fun k => by unfold impl_YearsMostKind.f; rfl) ?_
        refine Ev.got (areAges_f l) ?_
        rw [hg]
        refine Ev.if_pos rfl (Ev.got (isKind_f a) ?_)
        rw [hk]
        rw [mostF_first (fun y => cntK c (inY l y)) (nY l) (loY l) (loY l) 0 (by omega) (by show cntK c (inY l (loY l)) > -1; unfold cntK; omega)]
        refine Ev.step (f := fun k => (impl_fitYears.f l).bind fun q => impl_YearsMostKind.l0 k l a q.2 0 (-1) q.1) (fun k => by simp only [impl_YearsMostKind.j0]; rfl) ?_
        exact Ev.got (fitYears_f hg) (implMK_l hc h hg (nY l) (loY l) 0 (-1) (Int.le_refl _) hn.1)
theorem mostK_both (l : List Int) (a : ByteArray) : ∃ r : Int × Int × Bool, Ev (fun k => spec_YearsMostKind.f k l a) r ∧ Ev (fun k => impl_YearsMostKind.f k l a) r := by
  obtain ⟨r, _, hs, hi⟩ := mostK_res l a
  exact ⟨r, hs, hi⟩

/-! #### qlaws -/
/-! ### the laws' own looks at lists: same, rising, held -/
theorem qSame_l (l : List Int) (hb : l.length ≤ 1048576) (d : Nat) : ∀ (i : Nat), i + d = l.length → Ev (fun k => laws_qSame.l0 k l l (l.length : Int) (i : Int)) true := by
  induction d with
  | zero =>
    intro i hi
    exact Ev.step (f := fun _ => some true) (fun k => by simp only [laws_qSame.l0]; rw [if_neg (by omega)]) (Ev.now _)
  | succ d ih =>
    intro i hi
    have ew : wrap64 ((i : Int) + 1) = ((i + 1 : Nat) : Int) := by rw [w64 (by omega) (by omega)]; omega
    exact Ev.step (f := fun k => laws_qSame.l0 k l l (l.length : Int) ((i + 1 : Nat) : Int)) (fun k => by simp only [laws_qSame.l0]; rw [if_pos (by omega), if_pos (by omega), if_pos (by omega), if_pos (by omega), if_pos trivial, ew]) (ih (i + 1) (by omega))
theorem qSame_f (l : List Int) (hb : l.length ≤ 1048576) : Ev (fun k => laws_qSame.f k l l) true :=
  Ev.congr (fun k => by unfold laws_qSame.f; rfl) (Ev.if_pos rfl (qSame_l l hb l.length 0 (by omega)))
theorem qRises_l (l : List Int) (hp : l.Pairwise (· < ·)) (hb : l.length ≤ 1048576) (d : Nat) : ∀ (i : Nat), 1 ≤ i → i + d = max l.length 1 → Ev (fun k => laws_qRises.l0 k l (i : Int)) true := by
  induction d with
  | zero =>
    intro i h1 hi
    exact Ev.step (f := fun _ => some true) (fun k => by simp only [laws_qRises.l0]; rw [if_neg (by omega)]) (Ev.now _)
  | succ d ih =>
    intro i h1 hi
    have ew : wrap64 ((i : Int) + 1) = ((i + 1 : Nat) : Int) := by rw [w64 (by omega) (by omega)]; omega
    have ew2 : wrap64 ((i : Int) - 1) = ((i - 1 : Nat) : Int) := by rw [w64 (by omega) (by omega)]; omega
    have hlt : ¬ rd l ((i - 1 : Nat) : Int) ≥ rd l (i : Int) := by
      rw [rd_at l (i - 1) (by omega), rd_at l i (by omega)]
      have := List.pairwise_iff_getElem.mp hp (i - 1) i (by omega) (by omega) (by omega)
      omega
    refine Ev.step (f := fun k => laws_qRises.l0 k l ((i + 1 : Nat) : Int)) (fun k => ?_) (ih (i + 1) (by omega) (by omega))
    simp only [laws_qRises.l0]
    rw [if_pos (by omega), ew2, if_pos (by omega), if_pos (by omega), if_pos (by omega), if_neg hlt, ew]
theorem qRises_f (l : List Int) (hp : l.Pairwise (· < ·)) (hb : l.length ≤ 1048576) : Ev (fun k => laws_qRises.f k l) true :=
  Ev.congr (fun k => by unfold laws_qRises.f; rfl) (qRises_l l hp hb (max l.length 1 - 1) 1 (by omega) (by omega))
theorem qHas_l (l : List Int) (n : Int) (hb : l.length ≤ 1048576) (d : Nat) : ∀ (i : Nat), i + d = l.length → Ev (fun k => laws_qHas.l0 k n l (l.length : Int) (i : Int)) (decide (n ∈ l.drop i)) := by
  induction d with
  | zero =>
    intro i hi
    exact Ev.step (f := fun _ => some false) (fun k => by simp only [laws_qHas.l0]; rw [if_neg (by omega)]) (Ev.same (Ev.now _) (by rw [List.drop_of_length_le (by omega)]; simp))
  | succ d ih =>
    intro i hi
    have ew : wrap64 ((i : Int) + 1) = ((i + 1 : Nat) : Int) := by rw [w64 (by omega) (by omega)]; omega
    rw [drop_rd l i (by omega)]
    refine Ev.step (f := fun k => if rd l (i : Int) = n then some true else laws_qHas.l0 k n l (l.length : Int) ((i + 1 : Nat) : Int)) (fun k => ?_) ?_
    · simp only [laws_qHas.l0]
      rw [if_pos (by omega), if_pos (by omega), if_pos (by omega), ew]
    · by_cases h : rd l (i : Int) = n
      · exact Ev.if_pos h (Ev.same (Ev.now _) (by simp [h]))
      · refine Ev.if_neg h (Ev.same (ih (i + 1) (by omega)) ?_)
        have h2 : ¬ n = rd l (i : Int) := fun e => h e.symm
        simp [h2]
theorem qHas_f (l : List Int) (n : Int) (hb : l.length ≤ 1048576) : Ev (fun k => laws_qHas.f k l n) (decide (n ∈ l)) :=
  Ev.congr (fun k => by unfold laws_qHas.f; rfl) (Ev.same (qHas_l l n hb l.length 0 (by omega)) (by simp))
theorem coll_mem (q : Int → Bool) (f : Int → Int) (x : Int) (d : Nat) : ∀ y, x ∈ coll q f y d ↔ ∃ j, y ≤ j ∧ j < y + d ∧ q j = true ∧ x = f j := by
  induction d with
  | zero => intro y; simp only [coll, List.not_mem_nil, false_iff]; rintro ⟨j, h1, h2, _⟩; omega
  | succ d ih =>
    intro y
    by_cases hq : q y = true
    · simp only [coll, hq, if_true, List.mem_cons, ih]
      constructor
      · rintro (rfl | ⟨j, h1, h2, h3, h4⟩)
        · exact ⟨y, by omega, by omega, hq, rfl⟩
        · exact ⟨j, by omega, by omega, h3, h4⟩
      · rintro ⟨j, h1, h2, h3, h4⟩
        by_cases hj : j = y
        · subst hj; exact .inl h4
        · exact .inr ⟨j, by omega, by omega, h3, h4⟩
    · rw [coll, if_neg hq, ih]
      constructor
      · rintro ⟨j, h1, h2, h3, h4⟩; exact ⟨j, by omega, by omega, h3, h4⟩
      · rintro ⟨j, h1, h2, h3, h4⟩
        by_cases hj : j = y
        · subst hj; exact absurd h3 hq
        · exact ⟨j, by omega, by omega, h3, h4⟩
theorem coll_rises (q : Int → Bool) (f : Int → Int) (hf : ∀ a b, a < b → f a < f b) (d : Nat) : ∀ y, (coll q f y d).Pairwise (· < ·) := by
  induction d with
  | zero => intro y; simp [coll]
  | succ d ih =>
    intro y
    by_cases hq : q y = true
    · rw [coll, if_pos hq]
      refine List.pairwise_cons.mpr ⟨fun x hx => ?_, ih (y + 1)⟩
      obtain ⟨j, h1, h2, h3, rfl⟩ := (coll_mem q f x d (y + 1)).mp hx
      exact hf y j (by omega)
    · rw [coll, if_neg hq]; exact ih (y + 1)
theorem coll_has (q : Int → Bool) (x y : Int) (d : Nat) (h0 : y ≤ x) (h1 : x < y + d) : decide (x ∈ coll q (fun j => j) y d) = q x := by
  cases hq : q x with
  | true => exact decide_eq_true ((coll_mem q _ x d y).mpr ⟨x, h0, h1, hq, rfl⟩)
  | false => exact decide_eq_false fun h => by obtain ⟨j, _, _, h3, rfl⟩ := (coll_mem q _ x d y).mp h; rw [hq] at h3; cases h3

/-! #### yearsrange -/
def yrOf (l : List Int) : Int × Int × Bool := if goodB l = true then (loY l, hiY l, true) else (0, 0, false)
theorem implYR_f (l : List Int) : impl_YearsRange.f l = some (yrOf l) := by
  unfold impl_YearsRange.f
  rw [areAges_f]
  simp only [Option.bind_some]
  cases hg : goodB l with
  | true => rw [if_pos rfl, fitYears_f hg]; unfold yrOf; rw [if_pos hg]; rfl
  | false => rw [if_neg (by simp)]; unfold yrOf; rw [if_neg (by rw [hg]; simp)]

end Go.Proofs.Ytmkjopglibgleaa.P
