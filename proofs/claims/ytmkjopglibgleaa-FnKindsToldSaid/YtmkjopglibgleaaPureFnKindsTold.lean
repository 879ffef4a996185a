/- In one sentence: the law FnKindsTold answers true for all arguments and leaves them as they were. Conditions: none. -/
import Derived.Test.YtmkjopglibgleaaLAll
import Derived.Test.YtmkjopglibgleaaP1
import Derived.Test.YtmkjopglibgleaaP10
import Derived.Test.YtmkjopglibgleaaP2
import Derived.Test.YtmkjopglibgleaaP7
import Derived.Test.YtmkjopglibgleaaP8
import Derived.Test.YtmkjopglibgleaaP9
namespace Go.Proofs.Ytmkjopglibgleaa.Pure
open Go.RowKit Go.Proofs.Ytmkjopglibgleaa.P Go.Proofs.YtmkjopglibgleaaW.PrintWords Go.Proofs.YtmkjopglibgleaaW.PrintLast Go.Proofs.YtmkjopglibgleaaW.PrintMore
set_option linter.unusedVariables false
set_option linter.unusedSimpArgs false

theorem of_f {s : List Int} (hs : Byt s) {a : Int} (u : Int) (l : List ByteArray) (hl : 0 < l.length) (h0 : 0 ≤ a) (h1 : a ≤ 1000000) : ∃ r a' u', spec_l1Cur_of.f s a u l = some (r, a', u') ∧ a ≤ a' ∧ a' ≤ a + 2 := by
  unfold spec_l1Cur_of.f
  obtain ⟨r, a', u', e, r0, r1, b0, b1⟩ := pick_f hs u (l.length : Int) h0 (by omega)
  rw [e]
  simp only [Option.bind_some]
  have hr : r < (l.length : Int) := by omega
  rw [if_pos r0, if_pos hr]
  exact ⟨_, _, _, rfl, b0, b1⟩
theorem kind_f {s : List Int} (hs : Byt s) {a : Int} (u : Int) (h0 : 0 ≤ a) (h1 : a ≤ 1000000) : ∃ r a' u', spec_l1Cur_kind.f s a u = some (r, a', u') := by
  unfold spec_l1Cur_kind.f
  obtain ⟨r, a', u', e, _, _⟩ := of_f hs u [(⟨#[112]⟩ : ByteArray), (⟨#[112]⟩ : ByteArray), (⟨#[115]⟩ : ByteArray), (⟨#[99]⟩ : ByteArray), (⟨#[116]⟩ : ByteArray), (⟨#[100]⟩ : ByteArray), (⟨#[114]⟩ : ByteArray), (⟨#[114]⟩ : ByteArray), (⟨#[]⟩ : ByteArray), (⟨#[120]⟩ : ByteArray), (⟨#[112, 115]⟩ : ByteArray)] (by decide) h0 h1
  rw [e]
  exact ⟨_, _, _, rfl⟩
theorem drawAK {s : List Int} (hs : Byt s) : ∃ l a, Ev (fun k => spec_DrawYearsAllKind.f k s) (l, a) ∧ l.length ≤ 10 := by
  obtain ⟨l, a, u, h, hl, b0, b1⟩ := ages_f hs 0 (Int.le_refl _) (by omega)
  obtain ⟨r, a2, u2, e⟩ := kind_f hs u (show 0 ≤ a by omega) (by omega)
  exact ⟨l, r, Ev.congr (fun k => by unfold spec_DrawYearsAllKind.f; rfl) (Ev.bind h (by exact Ev.got e (Ev.now _))), hl⟩
theorem drawNK {s : List Int} (hs : Byt s) : ∃ n a, spec_DrawNextOfKind.f s = some (n, a) := by
  obtain ⟨n, a1, u1, e1, c0, c1⟩ := kindAge_f hs 0 (Int.le_refl _) (by omega)
  obtain ⟨r, a2, u2, e2⟩ := kind_f hs u1 (show 0 ≤ a1 by omega) (by omega)
  unfold spec_DrawNextOfKind.f spec_DrawIsKind.f
  rw [e1, Option.bind_some, e2]
  exact ⟨_, _, rfl⟩
theorem drawKO {s : List Int} (hs : Byt s) : ∃ n, spec_DrawKindsOf.f s = some n := by
  obtain ⟨n, a1, u1, e1, c0, c1⟩ := kindAge_f hs 0 (Int.le_refl _) (by omega)
  unfold spec_DrawKindsOf.f
  rw [e1]
  exact ⟨_, rfl⟩
theorem drawCK {s : List Int} (hs : Byt s) : ∃ l y a, Ev (fun k => spec_DrawCountOfKind.f k s) (l, y, a) := by
  obtain ⟨l, a, u, h, hl, b0, b1⟩ := ages_f hs 0 (Int.le_refl _) (by omega)
  obtain ⟨p, a1, u1, e1, -, -, c0, c1⟩ := pick_f hs u 40 (show 0 ≤ a by omega) (by omega)
  obtain ⟨r, a2, u2, e⟩ := kind_f hs u1 (show 0 ≤ a1 by omega) (by omega)
  exact ⟨l, _, r, Ev.congr (fun k => by unfold spec_DrawCountOfKind.f; rfl) (Ev.bind h (by exact Ev.got e1 (by exact Ev.got e (Ev.now _))))⟩
/-! #### the next one is the least that follows -/
theorem nextOf_spec (q : Int → Bool) (n : Int) (d : Nat) : ∀ y, (nextOf n (coll q (fun j => j) y d)).2 = true → n < (nextOf n (coll q (fun j => j) y d)).1 ∧ y ≤ (nextOf n (coll q (fun j => j) y d)).1 ∧ (nextOf n (coll q (fun j => j) y d)).1 < y + d ∧ q (nextOf n (coll q (fun j => j) y d)).1 = true ∧ ∀ x, n < x → y ≤ x → x < (nextOf n (coll q (fun j => j) y d)).1 → q x = false := by
  induction d with
  | zero => intro y h; simp [coll, nextOf] at h
  | succ d ih =>
    intro y h
    have h2 := ih (y + 1)
    by_cases hq : q y = true
    · simp only [coll, hq, if_true, nextOf] at h ⊢
      by_cases hn : y > n
      · simp only [if_pos hn] at h ⊢
        exact ⟨hn, Int.le_refl _, by omega, hq, fun x _ h4 h5 => by omega⟩
      · simp only [if_neg hn] at h ⊢
        obtain ⟨k1, k2, k3, k4, k5⟩ := h2 h
        exact ⟨k1, by omega, by omega, k4, fun x h3 h4 h5 => k5 x h3 (by omega) h5⟩
    · have hq' : q y = false := by simpa using hq
      simp only [coll, hq', Bool.false_eq_true, if_false] at h ⊢
      obtain ⟨k1, k2, k3, k4, k5⟩ := h2 h
      refine ⟨k1, by omega, by omega, k4, fun x h3 h4 h5 => ?_⟩
      by_cases e : x = y
      · rw [e]; exact hq'
      · exact k5 x h3 (by omega) h5
theorem isK_of {n : Int} {a : ByteArray} {c : Nat} (hc : c < 6) (ha : a.toList = [kLetter c]) (h0 : 0 ≤ n) (h1 : n ≤ 120) : Ev (fun k => impl_IsKind.f k n a) (kV c n, true) := by
  obtain ⟨r, hr, _, hi⟩ := isKind_res n a
  have e := hr.is hc ha (decide_eq_true ⟨h0, h1⟩)
  rw [e] at hi
  exact hi
theorem told_l3 {a : ByteArray} {c : Nat} (hc : c < 6) (ha : a.toList = [kLetter c]) {n m : Int} (h0 : 0 ≤ n) (hm : m ≤ 120) (ho : ∀ x, n < x → x < m → kV c x = false) (d : Nat) : ∀ x, n < x → x + d = m → Ev (fun k => laws_FnKindsTold.l3 k a m x) true := by
  induction d with
  | zero =>
    intro x _ hx
    exact Ev.step (f := fun _ => some true) (fun k => by simp only [laws_FnKindsTold.l3]; rw [if_neg (by omega)]) (Ev.now _)
  | succ d ih =>
    intro x hx h
    have ew : wrap64 (x + 1) = x + 1 := w64 (by omega) (by omega)
    refine Ev.step (fun k => by simp only [laws_FnKindsTold.l3]; rw [if_pos (show x < m by omega), ew]) (Ev.bind (isK_of hc ha (show 0 ≤ x by omega) (by omega)) (Ev.if_pos rfl ?_))
    refine Ev.if_neg (by rw [ho x hx (by omega)]; simp) (ih (x + 1) (by omega) (by omega))
theorem told_j7 {l1 : List Int} (hs : Byt l1) : Ev (fun k => laws_FnKindsTold.j7 k l1) true := by
  obtain ⟨n, a, d1⟩ := drawNK hs
  obtain ⟨n2, d2⟩ := drawKO hs
  obtain ⟨l, y, a2, d3⟩ := drawCK hs
  obtain ⟨rn, hrn, n1s, n1i⟩ := nextK_res n a
  obtain ⟨ri, hri, i1s, i1i⟩ := isKind_res n a
  obtain ⟨rk, k1s, k1i⟩ := kindsOf_both n2
  obtain ⟨rc, c1s, c1i⟩ := cntK_both l y a2
  refine Ev.step (fun k => by simp only [laws_FnKindsTold.j7]; rfl) (Ev.got d1 (Ev.bind n1i (Ev.bind n1s (Ev.bind i1i (Ev.bind i1s (Ev.got d2 (Ev.bind k1i (Ev.bind k1s (Ev.bind d3 (Ev.bind c1i (Ev.bind c1s ?_)))))))))))
  refine Ev.if_neg (by simp) (Ev.if_pos rfl (Ev.if_neg (by simp) (Ev.if_neg (by simp) (Ev.if_neg (by simp) (Ev.if_pos rfl (Ev.if_neg (by simp) (Ev.if_pos rfl ?_)))))))
  cases h2 : rn.2 with
  | false =>
    refine Ev.if_neg (by simp) ?_
    exact Ev.step (fun k => by simp only [laws_FnKindsTold.j8]; rfl) (Ev.if_neg (by simp) (Ev.if_neg (by simp) (Ev.now _)))
  | true =>
    refine Ev.if_pos rfl ?_
    rcases hrn with ⟨_, e⟩ | ⟨hg, _, c, hc, ha, e⟩
    · rw [e] at h2; cases h2
    · have hn := of_decide_eq_true hg
      have ei := hri.is hc ha hg
      have e : rn = nextOf n (coll (kV c) (fun j => j) 0 121) := e
      have sp := nextOf_spec (kV c) n 121 0 (by rw [← e]; exact h2)
      rw [← e] at sp
      obtain ⟨p1, p2, p3, p4, p5⟩ := sp
      have ew : wrap64 (n + 1) = n + 1 := w64 (by omega) (by omega)
      rw [ei]
      refine Ev.step (fun k => by simp only [laws_FnKindsTold.j8]; rfl) ?_
      refine Ev.if_neg (by simp) ?_
      refine Ev.if_pos (by simp) (Ev.bind (isK_of hc ha (show 0 ≤ rn.1 by omega) (by omega)) (Ev.if_neg (by show ¬ rn.1 ≤ n; omega) (Ev.if_pos rfl ?_)))
      rw [p4]
      refine Ev.step (fun k => by simp only [laws_FnKindsTold.j9]; rfl) (Ev.if_neg (by simp) ?_)
      rw [ew]
      exact told_l3 hc ha hn.1 (by omega) (fun x h1 h2 => p5 x h1 (by omega) h2) (rn.1 - (n + 1)).toNat (n + 1) (by omega) (by omega)
/-! #### the years with the most -/
theorem mostF_spec (f : Int → Int) (d : Nat) : ∀ y b m, m ≤ (mostF f d y b m).2 ∧ (∀ z, y ≤ z → z < y + d → f z ≤ (mostF f d y b m).2) ∧ ((mostF f d y b m = (b, m)) ∨ (y ≤ (mostF f d y b m).1 ∧ (mostF f d y b m).1 < y + d ∧ f (mostF f d y b m).1 = (mostF f d y b m).2 ∧ m < (mostF f d y b m).2 ∧ ∀ z, y ≤ z → z < (mostF f d y b m).1 → f z < (mostF f d y b m).2)) := by
  induction d with
  | zero => intro y b m; exact ⟨Int.le_refl _, fun z h0 h1 => by omega, .inl rfl⟩
  | succ d ih =>
    intro y b m
    by_cases hf : f y > m
    · simp only [mostF, if_pos hf]
      obtain ⟨h1, h2, h3⟩ := ih (y + 1) y (f y)
      refine ⟨by omega, fun z z0 z1 => ?_, .inr ?_⟩
      · by_cases e : z = y
        · rw [e]; exact h1
        · exact h2 z (by omega) (by omega)
      · rcases h3 with h3 | ⟨k1, k2, k3, k4, k5⟩
        · rw [h3]
          exact ⟨Int.le_refl _, by show y < y + ((d + 1 : Nat) : Int); omega, rfl, hf, fun z z0 z1 => by have : z < y := z1; omega⟩
        · refine ⟨by omega, by omega, k3, by omega, fun z z0 z1 => ?_⟩
          by_cases e : z = y
          · rw [e]; exact k4
          · exact k5 z (by omega) z1
    · simp only [mostF, if_neg hf]
      obtain ⟨h1, h2, h3⟩ := ih (y + 1) b m
      refine ⟨h1, fun z z0 z1 => ?_, ?_⟩
      · by_cases e : z = y
        · rw [e]; omega
        · exact h2 z (by omega) (by omega)
      · rcases h3 with h3 | ⟨k1, k2, k3, k4, k5⟩
        · exact .inl h3
        · refine .inr ⟨by omega, by omega, k3, k4, fun z z0 z1 => ?_⟩
          by_cases e : z = y
          · rw [e]; omega
          · exact k5 z (by omega) z1
theorem mostF_top (f : Int → Int) (hf : ∀ y, 0 ≤ f y) (d : Nat) (hd : 1 ≤ d) (y b : Int) : (∀ z, y ≤ z → z < y + d → f z ≤ (mostF f d y b (-1)).2) ∧ y ≤ (mostF f d y b (-1)).1 ∧ (mostF f d y b (-1)).1 < y + d ∧ f (mostF f d y b (-1)).1 = (mostF f d y b (-1)).2 ∧ ∀ z, y ≤ z → z < (mostF f d y b (-1)).1 → f z < (mostF f d y b (-1)).2 := by
  obtain ⟨h1, h2, h3⟩ := mostF_spec f d y b (-1)
  refine ⟨h2, ?_⟩
  rcases h3 with h3 | ⟨k1, k2, k3, _, k5⟩
  · have := h2 y (Int.le_refl _) (by omega)
    have h0 := hf y
    rw [h3] at this
    have : f y ≤ -1 := this
    omega
  · exact ⟨k1, k2, k3, k5⟩
theorem cntK_nonneg (c : Nat) (l : List Int) : 0 ≤ cntK c l := by unfold cntK; omega
theorem who_count (c : Nat) (l : List Int) (d : Nat) : ∀ i : Nat, i + d = l.length → (coll (whQ c l) (fun j => j) (i : Int) d).length = ((l.drop i).filter (kV c)).length := by
  induction d with
  | zero => intro i hi; rw [List.drop_of_length_le (by omega)]; rfl
  | succ d ih =>
    intro i hi
    have h := ih (i + 1) (by omega)
    rw [drop_rd l i (by omega)]
    have ei : ((i + 1 : Nat) : Int) = (i : Int) + 1 := by omega
    rw [ei] at h
    simp only [coll, List.filter_cons]
    show (if kV c (rd l (i : Int)) = true then _ else _ : List Int).length = _
    cases hv : kV c (rd l (i : Int)) with
    | true => simp only [if_true, List.length_cons, h]
    | false => simp only [Bool.false_eq_true, if_false, h]
theorem inY_zero {l : List Int} (hg : goodB l = true) : inY l 0 = l := by
  have hb := range_bounds hg
  rw [inY_fit hg hb.2.1 hb.2.2.1]
  simp
theorem cnt_of {l : List Int} {a : ByteArray} {c : Nat} (hc : c < 6) (ha : a.toList = [kLetter c]) (hg : goodB l = true) {y : Int} (h0 : loY l ≤ y) (h1 : y ≤ hiY l) : Ev (fun k => impl_CountOfKind.f k l y a) (cntK c (inY l y), true) := by
  obtain ⟨r, hr, _, hi⟩ := cntK_res l y a
  have hf : fitB l y = true := by unfold fitB; rw [hg, decide_eq_true (show loY l ≤ y ∧ y ≤ hiY l from ⟨h0, h1⟩)]; rfl
  rw [hr.is hc ha hf] at hi
  exact hi
theorem told_l2 {l1 : List Int} (hs : Byt l1) {l : List Int} {a : ByteArray} {c : Nat} (hc : c < 6) (ha : a.toList = [kLetter c]) (hg : goodB l = true) {b m : Int} (m1 : ∀ z, loY l ≤ z → z ≤ hiY l → cntK c (inY l z) ≤ m) (m2 : cntK c (inY l b) = m) (m3 : ∀ z, loY l ≤ z → z < b → cntK c (inY l z) < m) (d : Nat) :
    ∀ y, loY l ≤ y → y + d = hiY l + 1 → Ev (fun k => laws_FnKindsTold.l2 k l1 l a (coll (akQ c l) (fun j => j) (loY l) (nY l)) b m (coll (whQ c l) (fun j => j) 0 l.length) (hiY l) y) true := by
  have hb := range_bounds hg
  have hl := good_len hg
  have hn := nY_eq hg
  have hlen := coll_length (akQ c l) (fun j => j) (nY l) (loY l)
  induction d with
  | zero =>
    intro y h0 h1
    refine Ev.step (fun k => by simp only [laws_FnKindsTold.l2]; rw [if_neg (by omega)]) (Ev.bind (cnt_of hc ha hg hb.2.1 hb.2.2.1) (Ev.if_pos rfl (Ev.if_pos ?_ (told_j7 hs))))
    have := who_count c l l.length 0 (by omega)
    rw [inY_zero hg]
    show cntK c l = _
    unfold cntK
    rw [show ((0 : Nat) : Int) = 0 from rfl] at this
    rw [this]
    simp
  | succ d ih =>
    intro y h0 h1
    have ew : wrap64 (y + 1) = y + 1 := w64 (by omega) (by omega)
    have hle := m1 y h0 (by omega)
    have hh : Ev (fun k => laws_qHas.f k (coll (akQ c l) (fun j => j) (loY l) (nY l)) y) (akQ c l y) := Ev.same (qHas_f _ y (by omega)) (coll_has (akQ c l) y (loY l) (nY l) h0 (by omega))
    have hn := ih (y + 1) (by omega) (by omega)
    have last : ∀ {f : Nat → Option Bool}, Ev f true → Ev (fun k => if (akQ c l y != (cntK c (inY l y) == (l.length : Int))) = true then none else f k) true := fun h => Ev.if_neg (by unfold akQ; simp) h
    refine Ev.step (fun k => by simp only [laws_FnKindsTold.l2]; rw [if_pos (show y ≤ hiY l by omega), ew]) (Ev.bind (cnt_of hc ha hg h0 (by omega)) (Ev.if_pos rfl (Ev.if_neg (by show ¬ cntK c (inY l y) > m; omega) ?_)))
    by_cases e : cntK c (inY l y) = m
    · refine Ev.if_pos e (Ev.if_neg (fun hlt => by have := m3 y h0 hlt; omega) ?_)
      by_cases e2 : y = b
      · exact Ev.if_pos e2 (Ev.bind hh (last hn))
      · exact Ev.if_neg e2 (Ev.bind hh (last hn))
    · refine Ev.if_neg e (Ev.if_neg (fun e2 => e (by rw [e2]; exact m2)) (Ev.bind hh (last hn)))
theorem told_j4_good {l1 : List Int} (hs : Byt l1) {l : List Int} {a : ByteArray} {c : Nat} (hc : c < 6) (ha : a.toList = [kLetter c]) (hg : goodB l = true) :
    Ev (fun k => laws_FnKindsTold.j4 k l1 l a (coll (akQ c l) (fun j => j) (loY l) (nY l)) true (mostF (fun y => cntK c (inY l y)) (nY l) (loY l) (loY l) (-1)).1 (mostF (fun y => cntK c (inY l y)) (nY l) (loY l) (loY l) (-1)).2 (coll (skQ c l) (fun j => j) (loY l) (nY l)) (coll (whQ c l) (fun j => j) 0 l.length)) true := by
  have hb := range_bounds hg
  have hl := good_len hg
  have hn := nY_eq hg
  have n1 := coll_length (akQ c l) (fun j => j) (nY l) (loY l)
  have n2 := coll_length (skQ c l) (fun j => j) (nY l) (loY l)
  obtain ⟨t1, t2, t3, t4, t5⟩ := mostF_top (fun y => cntK c (inY l y)) (fun y => cntK_nonneg c _) (nY l) (by omega) (loY l) (loY l)
  generalize (mostF (fun y => cntK c (inY l y)) (nY l) (loY l) (loY l) (-1)).1 = b at *
  generalize (mostF (fun y => cntK c (inY l y)) (nY l) (loY l) (loY l) (-1)).2 = m at *
  have ey : yrOf l = (loY l, hiY l, true) := by unfold yrOf; rw [if_pos hg]
  have hi := implYR_f l
  rw [ey] at hi
  have m0 := cntK_nonneg c (inY l b)
  have mL := cntK_le c (inY l b)
  rw [inY_length] at mL
  have hall : (m == (l.length : Int)) = decide (((coll (akQ c l) (fun j => j) (loY l) (nY l)).length : Int) > 0) := by
    by_cases e : m = (l.length : Int)
    · rw [beq_iff_eq.mpr e]
      symm
      refine decide_eq_true ?_
      have hm := (coll_mem (akQ c l) (fun j => j) b (nY l) (loY l)).mpr ⟨b, t2, t3, by unfold akQ; rw [t4, e]; simp, rfl⟩
      have := List.length_pos_of_mem hm
      omega
    · rw [beq_eq_false_iff_ne.mpr e]
      symm
      refine decide_eq_false ?_
      intro hp
      obtain ⟨z, hz⟩ := List.exists_mem_of_length_pos (show 0 < (coll (akQ c l) (fun j => j) (loY l) (nY l)).length by omega)
      obtain ⟨j, j0, j1, jq, _⟩ := (coll_mem (akQ c l) (fun j => j) z (nY l) (loY l)).mp hz
      have hj := t1 j j0 j1
      unfold akQ at jq
      have := beq_iff_eq.mp jq
      omega
  have r1 : Ev (fun k => laws_qRises.f k (coll (akQ c l) (fun j => j) (loY l) (nY l))) true := qRises_f _ (coll_rises _ _ (fun _ _ h => h) _ _) (by omega)
  have r2 : Ev (fun k => laws_qRises.f k (coll (skQ c l) (fun j => j) (loY l) (nY l))) true := qRises_f _ (coll_rises _ _ (fun _ _ h => h) _ _) (by omega)
  refine Ev.step (fun k => by simp only [laws_FnKindsTold.j4]; rfl) ?_
  refine Ev.if_pos (by simp) (Ev.got hi (Ev.if_pos rfl (Ev.bind r1 (Ev.if_pos rfl (Ev.bind r2 (Ev.if_pos rfl ?_))))))
  refine Ev.if_neg (show ¬ m < 0 by omega) (Ev.if_neg (show ¬ m > (l.length : Int) by omega) ?_)
  rw [hall]
  refine Ev.step (fun k => by simp only [laws_FnKindsTold.j5]; rfl) (Ev.if_neg (by simp) ?_)
  exact told_l2 hs hc ha hg (fun z z0 z1 => t1 z z0 (by omega)) t4 t5 (nY l) (loY l) (Int.le_refl _) hn.1
theorem told_j4_bad {l1 : List Int} (hs : Byt l1) (l : List Int) (a : ByteArray) (x7 : List Int) (x11 x12 : Int) (x17 x21 : List Int) : Ev (fun k => laws_FnKindsTold.j4 k l1 l a x7 false x11 x12 x17 x21) true :=
  Ev.step (fun k => by simp only [laws_FnKindsTold.j4]; rfl) (Ev.if_neg (by simp) (told_j7 hs))
/-! #### the letters of an age -/
theorem one_extract (ks : ByteArray) (i : Nat) (h : i < ks.size) : (ks.extract i (i + 1)).toList = [ks[i]'h] := by
  rw [Lib.toList_data, ByteArray.data_extract]
  have hs : i < ks.data.toList.length := by simpa using h
  apply List.ext_getElem
  · simp; omega
  · intro j h1 h2
    have : j = 0 := by simp at h2; omega
    subst this
    simp
    rfl
theorem kGot_list (n : Int) (d : Nat) : ∀ (i : Nat) (acc : ByteArray), (kGot n d i acc).toList = acc.toList ++ (((List.range' i d).filter fun j => kV j n).map kLetter) := by
  induction d with
  | zero => intro i acc; simp [kGot]
  | succ d ih =>
    intro i acc
    simp only [kGot, List.range'_succ, List.filter_cons]
    cases hv : kV i n with
    | true =>
      rw [if_pos rfl, ih, if_pos rfl, List.map_cons]
      rw [Lib.toList_data, ByteArray.data_append, Array.toList_append, ← Lib.toList_data, List.append_assoc]
      rfl
    | false => rw [if_neg (by simp), ih, if_neg (by simp)]
theorem any_bytes (ks : ByteArray) (x : UInt8) (kind : ByteArray) (hk : kind.toList = [x]) : toldTo ks kind ks.size = ks.toList.any (fun b => b == x) := by
  unfold toldTo
  rw [hk, Bool.eq_iff_iff, List.any_eq_true, List.any_eq_true]
  constructor
  · rintro ⟨i, hi, h⟩
    have hi' := List.mem_range.mp hi
    rw [one_extract ks i hi'] at h
    refine ⟨ks[i]'hi', ?_, by simpa using h⟩
    rw [Lib.toList_data]
    exact Array.mem_toList_iff.mpr (Array.getElem_mem (xs := ks.data) hi')
  · rintro ⟨b, hb, h⟩
    rw [Lib.toList_data] at hb
    obtain ⟨i, hi, e⟩ := Array.getElem_of_mem (Array.mem_toList_iff.mp hb)
    have hi' : i < ks.size := hi
    refine ⟨i, List.mem_range.mpr hi', ?_⟩
    rw [one_extract ks i hi']
    have : ks[i]'hi' = b := e
    rw [this]
    simpa using h
theorem told_in {n : Int} {a : ByteArray} {c : Nat} (hc : c < 6) (ha : a.toList = [kLetter c]) : toldIn.f (kGot n 6 0 ⟨#[]⟩) a = some (kV c n) := by
  have hL := kGot_list n 6 0 ⟨#[]⟩
  rw [show (⟨#[]⟩ : ByteArray).toList = [] from Lib.toList_data _, List.nil_append] at hL
  have hany := any_bytes (kGot n 6 0 ⟨#[]⟩) (kLetter c) a ha
  generalize kGot n 6 0 ⟨#[]⟩ = ks at hL hany
  have hsz : ks.size = ks.toList.length := by rw [Lib.toList_data]; rfl
  have hmem : ∀ b ∈ ks.toList, b.toNat < 128 := by
    intro b hb
    rw [hL] at hb
    obtain ⟨j, hj, rfl⟩ := List.mem_map.mp hb
    have hj6 := List.mem_range'.mp (List.mem_filter.mp hj).1
    obtain ⟨i, hi, e⟩ := hj6
    have hj6 : j < 6 := by omega
    have key : ∀ j : Fin 6, (kLetter j.val).toNat < 128 := by decide
    exact key ⟨j, hj6⟩
  have h100 : ks.size ≤ 100 := by
    rw [hsz, hL, List.length_map]
    have := List.length_filter_le (fun j => kV j n) (List.range' 0 6)
    simp at this
    simp
    omega
  unfold toldIn.f
  rw [if_pos ⟨h100, fun i h => hmem _ (by rw [Lib.toList_data]; exact Array.mem_toList_iff.mpr (Array.getElem_mem (xs := ks.data) h))⟩, hany, hL]
  congr 1
  rw [Bool.eq_iff_iff, List.any_eq_true]
  constructor
  · rintro ⟨b, hb, h⟩
    obtain ⟨j, hj, rfl⟩ := List.mem_map.mp hb
    obtain ⟨hj1, hj2⟩ := List.mem_filter.mp hj
    obtain ⟨i, hi, e⟩ := List.mem_range'.mp hj1
    have := kLetter_inj (show j < 6 by omega) hc (by simpa using h)
    rw [← this]
    exact hj2
  · intro h
    exact ⟨kLetter c, List.mem_map.mpr ⟨c, List.mem_filter.mpr ⟨List.mem_range'.mpr ⟨c, by omega, by omega⟩, h⟩, rfl⟩, by simp⟩
/-! #### the longest part without -/
def gapsOk (c : Nat) : Bool := match longS c with
  | some (L, M, true) => decide (0 ≤ L) && decide (L ≤ 120) && kV c L && decide (0 ≤ M) && decide (M ≤ 200) && (nextOf L (kAges c) == (L + M + 1, true)) && (List.range 121).all (fun i => !decide (i + 1 < (kAges c).length) || (decide (rd (kAges c) ((i : Int) + 1) - rd (kAges c) (i : Int) - 1 ≤ M) && (!decide (rd (kAges c) ((i : Int) + 1) - rd (kAges c) (i : Int) - 1 = M) || decide (L ≤ rd (kAges c) (i : Int)))))
  | _ => false
set_option maxRecDepth 100000 in
theorem gapsTable : (List.range 6).all gapsOk = true := by decide +kernel
theorem gaps_of {c : Nat} (hc : c < 6) : ∃ L M : Int, longS c = some (L, M, true) ∧ 0 ≤ L ∧ L ≤ 120 ∧ kV c L = true ∧ 0 ≤ M ∧ M ≤ 200 ∧ nextOf L (kAges c) = (L + M + 1, true) ∧ ∀ i : Nat, i + 1 < (kAges c).length → rd (kAges c) ((i : Int) + 1) - rd (kAges c) (i : Int) - 1 ≤ M ∧ (rd (kAges c) ((i : Int) + 1) - rd (kAges c) (i : Int) - 1 = M → L ≤ rd (kAges c) (i : Int)) := by
  have key := List.all_eq_true.mp gapsTable c (List.mem_range.mpr hc)
  unfold gapsOk at key
  split at key
  · rename_i L M h
    simp only [Bool.and_eq_true, decide_eq_true_eq, beq_iff_eq, List.all_eq_true, Bool.or_eq_true, Bool.not_eq_true'] at key
    obtain ⟨⟨⟨⟨⟨⟨k1, k2⟩, k3⟩, k4⟩, k5⟩, k6⟩, k7⟩ := key
    refine ⟨L, M, h, k1, k2, k3, k4, k5, k6, fun i hi => ?_⟩
    have hlen := coll_length (kV c) (fun j => j) 121 0
    have h121 : i < 121 := by unfold kAges at hi; omega
    rcases k7 i (List.mem_range.mpr h121) with h7 | ⟨h8, h9⟩
    · exact absurd hi (of_decide_eq_false h7)
    · refine ⟨h8, fun e => ?_⟩
      rcases h9 with h9 | h9
      · exact absurd e (of_decide_eq_false h9)
      · exact h9
  · cases key
theorem kAges_rd {c : Nat} {i : Int} (h0 : 0 ≤ i) (h1 : i < ((kAges c).length : Int)) : 0 ≤ rd (kAges c) i ∧ rd (kAges c) i ≤ 120 := by
  have hm := rd_mem h0 h1
  unfold kAges at hm ⊢
  obtain ⟨j, j0, j1, _, e⟩ := (coll_mem (kV c) (fun j => j) _ 121 0).mp hm
  omega
theorem told_l1 {l1 l : List Int} {a : ByteArray} {x7 x17 x21 : List Int} {x8 : Bool} {x11 x12 : Int} (h4 : Ev (fun k => laws_FnKindsTold.j4 k l1 l a x7 x8 x11 x12 x17 x21) true) {c : Nat} {L M : Int} (L0 : 0 ≤ L) (M0 : 0 ≤ M)
    (hg : ∀ i : Nat, i + 1 < (kAges c).length → rd (kAges c) ((i : Int) + 1) - rd (kAges c) (i : Int) - 1 ≤ M ∧ (rd (kAges c) ((i : Int) + 1) - rd (kAges c) (i : Int) - 1 = M → L ≤ rd (kAges c) (i : Int))) (d : Nat) :
    ∀ i : Nat, i + d = (kAges c).length ∨ d = 0 ∧ (kAges c).length ≤ i → Ev (fun k => laws_FnKindsTold.l1 k l1 l a x7 x8 x11 x12 x17 x21 (kAges c) L M ((i : Int) + 1)) true := by
  have hlen := coll_length (kV c) (fun j => j) 121 0
  induction d with
  | zero =>
    intro i hi
    exact Ev.step (fun k => by simp only [laws_FnKindsTold.l1]; rw [if_neg (by omega)]) h4
  | succ d ih =>
    intro i hi
    have hi' : i + (d + 1) = (kAges c).length := by omega
    by_cases hl : i + 1 < (kAges c).length
    · have hl2 : (kAges c).length ≤ 121 := hlen
      obtain ⟨g1, g2⟩ := hg i hl
      have b1 := kAges_rd (c := c) (show 0 ≤ (i : Int) + 1 by omega) (by omega)
      have b0 := kAges_rd (c := c) (show 0 ≤ (i : Int) by omega) (by omega)
      have ew : wrap64 ((i : Int) + 1 - 1) = (i : Int) := by rw [w64 (by omega) (by omega)]; omega
      have ew2 : wrap64 ((i : Int) + 1 + 1) = ((i + 1 : Nat) : Int) + 1 := by rw [w64 (by omega) (by omega)]; omega
      have eg : wrap64 (wrap64 (rd (kAges c) ((i : Int) + 1) - rd (kAges c) (i : Int)) - 1) = rd (kAges c) ((i : Int) + 1) - rd (kAges c) (i : Int) - 1 := by rw [w64 (x := rd (kAges c) ((i : Int) + 1) - rd (kAges c) (i : Int)) (by omega) (by omega), w64 (by omega) (by omega)]
      have hn := ih (i + 1) (by omega)
      refine Ev.step (fun k => by simp only [laws_FnKindsTold.l1]; rw [if_pos (show (i : Int) + 1 < ((kAges c).length : Int) by omega), if_pos (show 0 ≤ (i : Int) + 1 by omega), ew, if_pos (show 0 ≤ (i : Int) by omega), if_pos (show (i : Int) < ((kAges c).length : Int) by omega), eg, ew2]) ?_
      refine Ev.if_neg (by omega) ?_
      by_cases e : rd (kAges c) ((i : Int) + 1) - rd (kAges c) (i : Int) - 1 = M
      · have := g2 e
        exact Ev.if_pos e (Ev.if_neg (by omega) hn)
      · exact Ev.if_neg e hn
    · exact Ev.step (fun k => by simp only [laws_FnKindsTold.l1]; rw [if_neg (by omega)]) h4
theorem told_l0 {l1 l : List Int} {a : ByteArray} {x7 x17 x21 : List Int} {x8 : Bool} {x11 x12 : Int} (h4 : Ev (fun k => laws_FnKindsTold.j4 k l1 l a x7 x8 x11 x12 x17 x21) true) {c : Nat} (hc : c < 6) (ha : a.toList = [kLetter c]) {L M : Int} (hL : longS c = some (L, M, true)) (d : Nat) :
    ∀ y : Int, 0 ≤ y → y + d = 121 → Ev (fun k => laws_FnKindsTold.l0 k l1 l a x7 x8 x11 x12 x17 x21 (kAges c) L M y) true := by
  have hlen := coll_length (kV c) (fun j => j) 121 0
  have hl2 : (kAges c).length ≤ 121 := hlen
  induction d with
  | zero =>
    intro y h0 h1
    obtain ⟨L', M', e, k1, k2, k3, k4, k5, k6, k7⟩ := gaps_of hc
    rw [hL] at e
    injection e with e
    injection e with e1 e
    injection e with e2 e
    subst e1; subst e2
    obtain ⟨r, hr, _, hi⟩ := nextK_res L a
    rw [hr.is hc ha (decide_eq_true ⟨k1, k2⟩)] at hi
    rw [show nextOf L (coll (kV c) (fun j => j) 0 121) = (L + M + 1, true) from k6] at hi
    have ew : wrap64 (wrap64 (L + M + 1 - L) - 1) = M := by rw [w64 (x := L + M + 1 - L) (by omega) (by omega), w64 (by omega) (by omega)]; omega
    have hr2 : Ev (fun k => laws_qRises.f k (kAges c)) true := qRises_f _ (coll_rises _ _ (fun _ _ h => h) _ _) (by omega)
    have hh : Ev (fun k => laws_qHas.f k (kAges c) L) true := Ev.same (qHas_f _ L (by omega)) ((coll_has (kV c) L 0 121 k1 (by omega)).trans k3)
    refine Ev.step (fun k => by simp only [laws_FnKindsTold.l0]; rw [if_neg (by omega)]) (Ev.bind hi (Ev.bind hr2 (Ev.if_pos rfl (Ev.bind hh (Ev.if_pos rfl (Ev.if_pos rfl ?_))))))
    simp only [ew]
    refine Ev.step (fun k => by simp only [laws_FnKindsTold.j2]; rfl) (Ev.if_neg (by simp) ?_)
    exact told_l1 h4 k1 k4 k7 (kAges c).length 0 (.inl (by omega))
  | succ d ih =>
    intro y h0 h1
    have ew : wrap64 (y + 1) = y + 1 := w64 (by omega) (by omega)
    obtain ⟨r, hr, _, hi⟩ := kindsOf_res y
    rw [hr, if_pos (show 0 ≤ y ∧ y ≤ 120 by omega)] at hi
    have hh : Ev (fun k => laws_qHas.f k (kAges c) y) (kV c y) := Ev.same (qHas_f _ y (by omega)) (coll_has (kV c) y 0 121 h0 (by omega))
    have hn := ih (y + 1) (by omega) (by omega)
    refine Ev.step (fun k => by simp only [laws_FnKindsTold.l0]; rw [if_pos (show y ≤ 120 by omega), ew]) (Ev.bind (isK_of hc ha h0 (by omega)) (Ev.bind hi (Ev.got (told_in hc ha) (Ev.if_pos rfl (Ev.bind hh (Ev.if_neg (show ¬ ((kV c y != kV c y) = true) by simp) (Ev.if_pos rfl (Ev.if_neg (show ¬ ((kV c y != kV c y) = true) by simp) hn))))))))
theorem told_j0 {l1 : List Int} (hs : Byt l1) (l : List Int) (a : ByteArray) {rA : List Int × Bool} {rM : Int × Int × Bool} {rS rW rK : List Int × Bool} {rL : Int × Int × Bool}
    (hA : KRes (goodB l) a ([], false) (fun c => (coll (akQ c l) (fun j => j) (loY l) (nY l), true)) rA)
    (hM : KRes (goodB l) a (0, 0, false) (fun c => ((mostF (fun y => cntK c (inY l y)) (nY l) (loY l) (loY l) (-1)).1, (mostF (fun y => cntK c (inY l y)) (nY l) (loY l) (loY l) (-1)).2, true)) rM)
    (hS : KRes (goodB l) a ([], false) (fun c => (coll (skQ c l) (fun j => j) (loY l) (nY l), true)) rS)
    (hW : KRes (goodB l) a ([], false) (fun c => (coll (whQ c l) (fun j => j) 0 l.length, true)) rW)
    (hK : KRes true a ([], false) (fun c => (coll (kV c) (fun j => j) 0 121, true)) rK)
    (hL : KRes true a (0, 0, false) (fun c => (longS c).getD (0, 0, false)) rL) :
    (rM.2.2 = rA.2 ∧ rS.2 = rA.2 ∧ rW.2 = rA.2 ∧ (rA.2 = true → rK.2 = true) ∧ rL.2.2 = rK.2) ∧ Ev (fun k => laws_FnKindsTold.j0 k l1 l a rA.1 rA.2 rM.1 rM.2.1 rS.1 rW.1 rK.1 rK.2 rL.1 rL.2.1 false) true := by
  rcases kind_cases a with hk | ⟨c, hc, ha, hk⟩
  · have g1 : (goodB l && kindB a) = false := by rw [hk]; simp
    have g2 : (true && kindB a) = false := by rw [hk]; rfl
    rw [hA.not g1, hM.not g1, hS.not g1, hW.not g1, hK.not g2, hL.not g2]
    refine ⟨⟨rfl, rfl, rfl, fun h => h, rfl⟩, ?_⟩
    exact Ev.step (fun k => by simp only [laws_FnKindsTold.j0]; rfl) (Ev.if_neg (by simp) (Ev.if_neg (by simp) (told_j4_bad hs _ _ _ _ _ _ _)))
  · obtain ⟨L, M, e, -⟩ := gaps_of hc
    have eK : rK = (kAges c, true) := hK.is hc ha rfl
    have eL : rL = (longS c).getD (0, 0, false) := hL.is hc ha rfl
    rw [e] at eL
    have eL : rL = (L, M, true) := eL
    rw [eK, eL]
    have main : Ev (fun k => laws_FnKindsTold.j4 k l1 l a rA.1 rA.2 rM.1 rM.2.1 rS.1 rW.1) true ∧ rM.2.2 = rA.2 ∧ rS.2 = rA.2 ∧ rW.2 = rA.2 := by
      cases hg : goodB l with
      | true =>
        rw [hA.is hc ha hg, hM.is hc ha hg, hS.is hc ha hg, hW.is hc ha hg]
        exact ⟨told_j4_good hs hc ha hg, rfl, rfl, rfl⟩
      | false =>
        have g1 : (goodB l && kindB a) = false := by rw [hg]; rfl
        rw [hA.not g1, hM.not g1, hS.not g1, hW.not g1]
        exact ⟨told_j4_bad hs _ _ _ _ _ _ _, rfl, rfl, rfl⟩
    refine ⟨⟨main.2.1, main.2.2.1, main.2.2.2, fun _ => rfl, rfl⟩, ?_⟩
    refine Ev.step (fun k => by simp only [laws_FnKindsTold.j0]; rfl) ?_
    exact Ev.if_neg (by simp) (Ev.if_pos (by simp) (told_l0 main.1 hc ha e 121 0 (Int.le_refl _) (by omega)))
theorem FnKindsTold : laws_FnKindsTold.Pure := by
  intro l0 l1 h1 h2 h3 h4 h5 h6
  apply Ev.rounds
  obtain ⟨c, hb⟩ := big_f l0 l1 (by omega) (by omega)
  refine Ev.congr (fun k => by unfold laws_FnKindsTold.f; rfl) (Ev.got hb ?_)
  cases c with
  | true => exact Ev.if_pos rfl (Ev.now _)
  | false =>
    have hs0 := byt_of h3
    have hs1 := byt_of h6
    obtain ⟨l, a, d1, hl⟩ := drawAK hs0
    obtain ⟨rA, hA, As, Ai⟩ := allK_res l a
    obtain ⟨rM, hM, Ms, Mi⟩ := mostK_res l a
    obtain ⟨rS, hS, Ss, Si⟩ := sumK_res l a
    obtain ⟨rW, hW, Ws, Wi⟩ := whoK_res l a
    obtain ⟨rK, hK, Ks, Ki⟩ := agesK_res a
    obtain ⟨rL, hL, Ls, Li⟩ := longK_res a
    obtain ⟨⟨e1, e2, e3, e4, e5⟩, hj⟩ := told_j0 hs1 l a hA hM hS hW hK hL
    have nA : rA.1.length ≤ 1048576 := by
      rcases hA with ⟨_, e⟩ | ⟨hg, _, c, _, _, e⟩
      · rw [e]; simp
      · rw [e]; have := coll_length (akQ c l) (fun j => j) (nY l) (loY l); have := nY_eq hg; show (coll _ _ _ _).length ≤ _; omega
    have nS : rS.1.length ≤ 1048576 := by
      rcases hS with ⟨_, e⟩ | ⟨hg, _, c, _, _, e⟩
      · rw [e]; simp
      · rw [e]; have := coll_length (skQ c l) (fun j => j) (nY l) (loY l); have := nY_eq hg; show (coll _ _ _ _).length ≤ _; omega
    have nW : rW.1.length ≤ 1048576 := by
      rcases hW with ⟨_, e⟩ | ⟨hg, _, c, _, _, e⟩
      · rw [e]; simp
      · rw [e]; have := coll_length (whQ c l) (fun j => j) l.length 0; show (coll _ _ _ _).length ≤ _; omega
    have nK : rK.1.length ≤ 1048576 := hK.all (fun r => r.1.length ≤ 1048576) (by simp) (fun c => by have := coll_length (kV c) (fun j => j) 121 0; show (coll _ _ _ _).length ≤ _; omega)
    refine Ev.if_neg (by simp) (Ev.bind d1 (Ev.bind Ai (Ev.bind As (Ev.bind Mi (Ev.bind Ms (Ev.bind Si (Ev.bind Ss (Ev.bind Wi (Ev.bind Ws (Ev.bind Ki (Ev.bind Ks (Ev.bind Li (Ev.bind Ls ?_)))))))))))))
    refine Ev.if_neg (by simp) (Ev.bind (qSame_f _ nA) (Ev.if_pos rfl (Ev.if_neg (by simp) (Ev.if_pos rfl (Ev.if_pos rfl (Ev.if_neg (by simp) (Ev.bind (qSame_f _ nS) (Ev.if_pos rfl (Ev.if_neg (by simp) (Ev.bind (qSame_f _ nW) (Ev.if_pos rfl (Ev.if_neg (by simp) (Ev.bind (qSame_f _ nK) (Ev.if_pos rfl (Ev.if_neg (by simp) (Ev.if_pos rfl (Ev.if_pos rfl ?_)))))))))))))))))
    refine Ev.if_neg (by rw [e1]; simp) (Ev.if_neg (by rw [e2]; simp) (Ev.if_neg (by rw [e3]; simp) ?_))
    have ex : (rL.2.2 != rK.2) = false := by rw [e5]; simp
    cases hok : rA.2 with
    | true =>
      rw [hok] at hj
      refine Ev.if_pos rfl (Ev.if_pos (e4 hok) ?_)
      simp only [ex]
      exact hj
    | false =>
      rw [hok] at hj
      refine Ev.if_neg (by simp) ?_
      simp only [ex]
      exact hj

end Go.Proofs.Ytmkjopglibgleaa.Pure
