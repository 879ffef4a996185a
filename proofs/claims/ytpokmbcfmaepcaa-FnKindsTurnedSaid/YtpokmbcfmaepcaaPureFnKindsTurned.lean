/- In one sentence: the law FnKindsTurned answers true for all arguments and leaves them as they were. Conditions: none. -/
import Derived.Test.YtpokmbcfmaepcaaLAll
import Derived.Test.YtpokmbcfmaepcaaP4
import Derived.Test.YtpokmbcfmaepcaaP5
import Derived.Test.YtpokmbcfmaepcaaP8
namespace Go.Proofs.Ytpokmbcfmaepcaa.Pure
open Go.RowKit Go.Proofs.Ytpokmbcfmaepcaa.P Go.Proofs.YtpokmbcfmaepcaaW.PrintWords Go.Proofs.YtpokmbcfmaepcaaW.PrintLast Go.Proofs.YtpokmbcfmaepcaaW.PrintMore
set_option linter.unusedVariables false
set_option linter.unusedSimpArgs false

theorem turn_l6 {b x y : Int} (ok : divOk b x y) (d : Nat) : ∀ (i : Int), x ≤ i → i + d = y + 1 → Ev (fun k => laws_FnKindsTurned.l6 k b y (divOf b x y) i) true := by
  have hl := divOf_length b x y ok
  have hk := ok
  obtain ⟨b0, b1, x0, xy, y1, _⟩ := hk
  have has : ∀ i, x ≤ i → i ≤ y → Ev (fun k => laws_qHas.f k (divOf b x y) i) (dyP b i) := fun i h0 h1 => Ev.same (qHas_f _ i (by omega)) (coll_has (dyP b) i x (y + 1 - x).toNat h0 (by omega))
  induction d with
  | zero =>
    intro i h0 h1
    exact Ev.step (fun k => by simp only [laws_FnKindsTurned.l6]; rw [if_neg (by omega)]) (Ev.bind (qRises_f (divOf b x y) (coll_rises _ _ (fun _ _ h => h) _ _) (by omega)) (Ev.if_pos rfl (Ev.now _)))
  | succ d ih =>
    intro i h0 h1
    have ew : wrap64 (i + 1) = i + 1 := w64 (by omega) (by omega)
    have ew2 : wrap64 (i - b) = i - b := w64 (by omega) (by omega)
    have hh := has i h0 (by omega)
    have hn := ih (i + 1) (by omega) (by omega)
    refine Ev.step (fun k => by simp only [laws_FnKindsTurned.l6]; rw [if_pos (show i ≤ y by omega), ew2, ew]) ?_
    by_cases c1 : i > b
    · refine Ev.if_pos c1 ?_
      by_cases c2 : i - b ≤ 120
      · refine Ev.if_pos c2 (Ev.if_neg (show ¬ i - b = 0 by omega) (Ev.bind hh (Ev.if_neg ?_ hn)))
        unfold dyP
        rw [decide_eq_true (show 1 ≤ i - b ∧ i - b ≤ 120 by omega), Bool.true_and, Bool.beq_eq_decide_eq]
        simp
      · refine Ev.if_neg c2 (Ev.bind hh (Ev.if_neg ?_ hn))
        unfold dyP
        rw [decide_eq_false (show ¬ (1 ≤ i - b ∧ i - b ≤ 120) by omega)]
        simp
    · refine Ev.if_neg c1 (Ev.bind hh (Ev.if_neg ?_ hn))
      unfold dyP
      rw [decide_eq_false (show ¬ (1 ≤ i - b ∧ i - b ≤ 120) by omega)]
      simp
theorem turn_j18 (b x y : Int) : Ev (fun k => laws_FnKindsTurned.j18 k b x y (dvF b x y).1 (dvF b x y).2) true := by
  refine Ev.step (fun k => by simp only [laws_FnKindsTurned.j18]; rfl) ?_
  unfold dvF
  by_cases ok : divOk b x y
  · rw [if_pos ok]
    have h := ok.2.2.2.1
    exact Ev.if_pos rfl (turn_l6 ok (y + 1 - x).toNat x (Int.le_refl _) (by omega))
  · rw [if_neg ok]
    exact Ev.if_neg (by simp) (Ev.now _)
theorem turn_l5 {f t : Int} (ok : sbOk f t) (b x y : Int) (d : Nat) : ∀ (i : Nat), i + d = (sbOf f t).length → Ev (fun k => laws_FnKindsTurned.l5 k f t (sbOf f t) b x y (dvF b x y).1 (dvF b x y).2 (sbOf f t) ((sbOf f t).length : Int) (i : Int)) true := by
  have hl := sbOf_length f t ok
  obtain ⟨f0, ft, t1⟩ := ok
  induction d with
  | zero =>
    intro i hi
    have hh : Ev (fun k => laws_qHas.f k (sbOf f t) f) (decide (0 ≤ sq f 2 119)) := Ev.same (qHas_f _ f (by omega)) (coll_has (fun j => decide (0 ≤ sq j 2 119)) f f (t + 1 - f).toNat (Int.le_refl _) (by omega))
    refine Ev.step (fun k => by simp only [laws_FnKindsTurned.l5]; rw [if_neg (by omega)]) (Ev.bind (implSquareYearOf_f f) (Ev.bind hh (Ev.if_neg ?_ (turn_j18 b x y))))
    by_cases c : 0 ≤ sq f 2 119
    · rw [if_pos ⟨f0, by omega, c⟩, decide_eq_true c]; simp
    · rw [if_neg (fun h => c h.2.2), decide_eq_false c]; simp
  | succ d ih =>
    intro i hi
    have ew : wrap64 ((i : Int) + 1) = ((i + 1 : Nat) : Int) := by rw [w64 (by omega) (by omega)]; omega
    have hm := rd_mem (l := sbOf f t) (i := (i : Int)) (by omega) (by omega)
    obtain ⟨j, j0, j1, j2, j3⟩ := (coll_mem _ _ _ _ _).mp hm
    have j3' : rd (sbOf f t) (i : Int) = j := j3
    have hs := implSquareYearOf_f j
    rw [if_pos ⟨by omega, by omega, of_decide_eq_true j2⟩] at hs
    refine Ev.step (fun k => by simp only [laws_FnKindsTurned.l5]; rw [if_pos (show (i : Int) < ((sbOf f t).length : Int) by omega), if_pos (show (0 : Int) ≤ (i : Int) by omega), if_pos (show (i : Int) < ((sbOf f t).length : Int) by omega), ew, j3']) ?_
    exact Ev.bind hs (Ev.if_neg (by omega) (Ev.if_neg (by omega) (Ev.if_pos rfl (ih (i + 1) (by omega)))))
theorem turn_j16 (f t b x y : Int) : Ev (fun k => laws_FnKindsTurned.j16 k f t (sbF f t).1 (sbF f t).2 b x y (dvF b x y).1 (dvF b x y).2) true := by
  refine Ev.step (fun k => by simp only [laws_FnKindsTurned.j16]; rfl) ?_
  unfold sbF
  by_cases ok : sbOk f t
  · rw [if_pos ok]
    have hl := sbOf_length f t ok
    exact Ev.if_pos rfl (Ev.bind (qRises_f (sbOf f t) (coll_rises _ _ (fun _ _ h => h) _ _) (by show (sbOf f t).length ≤ 1048576; omega)) (Ev.if_pos rfl (turn_l5 ok b x y (sbOf f t).length 0 (by omega))))
  · rw [if_neg ok]
    exact Ev.if_neg (by simp) (turn_j18 b x y)
theorem ds_four {n : Int} (h0 : 0 ≤ n) (h1 : n < 10000) : ds 5 n = n % 10 + n / 10 % 10 + n / 100 % 10 + n / 1000 := by
  have e1 : n / 10 / 10 = n / 100 := by omega
  have e2 : n / 100 / 10 = n / 1000 := by omega
  have e3 : n / 1000 / 10 = 0 := by omega
  have e4 : n / 1000 % 10 = n / 1000 := by omega
  simp only [ds, e1, e2, e3, e4]
  omega
theorem turn_l4 {n : Int} (n0 : 0 ≤ n) (n1 : n ≤ 2900) (f t b x y : Int) (d : Nat) : ∀ (i : Nat), i + d = (dyOf n).length → Ev (fun k => laws_FnKindsTurned.l4 k n f t (sbF f t).1 (sbF f t).2 b x y (dvF b x y).1 (dvF b x y).2 (dyOf n) ((dyOf n).length : Int) (i : Int)) true := by
  have hl := dyOf_length n
  induction d with
  | zero =>
    intro i hi
    exact Ev.step (fun k => by simp only [laws_FnKindsTurned.l4]; rw [if_neg (by omega)]) (turn_j16 f t b x y)
  | succ d ih =>
    intro i hi
    have ew : wrap64 ((i : Int) + 1) = ((i + 1 : Nat) : Int) := by rw [w64 (by omega) (by omega)]; omega
    have hm := rd_mem (l := dyOf n) (i := (i : Int)) (by omega) (by omega)
    obtain ⟨j, j0, j1, j2, j3⟩ := (coll_mem _ _ _ _ _).mp hm
    have j4 : ds 5 (n + j) = j := of_decide_eq_true j2
    have j3' : rd (dyOf n) (i : Int) = n + j := j3
    refine Ev.step (f := fun k => laws_FnKindsTurned.l4 k n f t (sbF f t).1 (sbF f t).2 b x y (dvF b x y).1 (dvF b x y).2 (dyOf n) ((dyOf n).length : Int) ((i + 1 : Nat) : Int)) (fun k => ?_) (ih (i + 1) (by omega))
    simp only [laws_FnKindsTurned.l4]
    rw [if_pos (show (i : Int) < ((dyOf n).length : Int) by omega), if_pos (show (0 : Int) ≤ (i : Int) by omega), if_pos (show (i : Int) < ((dyOf n).length : Int) by omega), ew, j3']
    refine if_pos ?_
    obtain ⟨m, hm2⟩ : ∃ m, m = n + j := ⟨_, rfl⟩
    have m0 : 0 ≤ m := by omega
    have m1 : m < 10000 := by omega
    have h4 := ds_four m0 m1
    rw [← hm2] at j4 ⊢
    rw [j4] at h4
    rw [Int.tdiv_eq_ediv_of_nonneg m0, Int.tdiv_eq_ediv_of_nonneg m0, Int.tdiv_eq_ediv_of_nonneg m0, Int.tmod_eq_emod_of_nonneg m0]
    have q1 : 0 ≤ m / 10 ∧ m / 10 < 1000 := by omega
    have q2 : 0 ≤ m / 100 ∧ m / 100 < 100 := by omega
    have q3 : 0 ≤ m / 1000 ∧ m / 1000 < 10 := by omega
    rw [w64 (x := m / 10) (by omega) (by omega), w64 (x := m / 100) (by omega) (by omega), w64 (x := m / 1000) (by omega) (by omega), Int.tmod_eq_emod_of_nonneg q1.1, Int.tmod_eq_emod_of_nonneg q2.1]
    have r0 : 0 ≤ m % 10 ∧ m % 10 < 10 := by omega
    have r1 : 0 ≤ m / 10 % 10 ∧ m / 10 % 10 < 10 := by omega
    have r2 : 0 ≤ m / 100 % 10 ∧ m / 100 % 10 < 10 := by omega
    rw [w64 (x := m % 10 + m / 10 % 10) (by omega) (by omega), w64 (x := m % 10 + m / 10 % 10 + m / 100 % 10) (by omega) (by omega), w64 (x := m % 10 + m / 10 % 10 + m / 100 % 10 + m / 1000) (by omega) (by omega), w64 (by omega) (by omega)]
    omega
theorem turn_j13 (n f t b x y : Int) : Ev (fun k => laws_FnKindsTurned.j13 k n (dyF n).1 (dyF n).2 (lyOf n).1 f t (sbF f t).1 (sbF f t).2 b x y (dvF b x y).1 (dvF b x y).2 false) true := by
  refine Ev.step (fun k => by simp only [laws_FnKindsTurned.j13]; rfl) (Ev.if_neg (by simp) ?_)
  unfold dyF lyOf
  by_cases ok : 0 ≤ n ∧ n ≤ 2900
  · rw [if_pos ok, if_pos ok]
    have hl := dyOf_length n
    have hmod : Int.tmod n 100 = n % 100 := Int.tmod_eq_emod_of_nonneg ok.1
    refine Ev.if_pos rfl (Ev.bind (qRises_f (dyOf n) (coll_rises _ _ (fun a b h => by show n + a < n + b; omega) _ _) (by show (dyOf n).length ≤ 1048576; omega)) (Ev.if_pos rfl ?_))
    have e : (wrap64 (wrap64 (n + Int.tmod n 100) - n) != Int.tmod n 100) = false := by
      rw [hmod, w64 (x := n + n % 100) (by omega) (by omega), w64 (by omega) (by omega)]
      have : n + n % 100 - n = n % 100 := by omega
      rw [this]; simp
    show Ev (fun k => laws_FnKindsTurned.j14 k n (dyOf n) f t (sbF f t).1 (sbF f t).2 b x y (dvF b x y).1 (dvF b x y).2 (wrap64 (wrap64 (n + Int.tmod n 100) - n) != Int.tmod n 100)) true
    rw [e]
    exact Ev.step (fun k => by simp only [laws_FnKindsTurned.j14]; rfl) (Ev.if_neg (by simp) (turn_l4 ok.1 ok.2 f t b x y (dyOf n).length 0 (by omega)))
  · rw [if_neg ok, if_neg ok]
    exact Ev.if_neg (by simp) (turn_j16 f t b x y)
theorem turn_j12 (n f t b x y : Int) : Ev (fun k => laws_FnKindsTurned.j12 k n (sqF n).1 (sqF n).2 (dyF n).1 (dyF n).2 (lyOf n).1 f t (sbF f t).1 (sbF f t).2 b x y (dvF b x y).1 (dvF b x y).2) true := by
  refine Ev.step (fun k => by simp only [laws_FnKindsTurned.j12]; rfl) ?_
  have h13 := turn_j13 n f t b x y
  unfold sqF
  by_cases ok : 0 ≤ n ∧ n ≤ 2900 ∧ 0 ≤ sq n 2 119
  · rw [if_pos ok]
    have hs := sq_some n 119 2 (by omega)
    have hb : sq n 2 119 ≤ 3000 := by
      rcases hs with h | h
      · omega
      · have h1 : sq n 2 119 * 1 ≤ sq n 2 119 * (sq n 2 119 - 1) := Int.mul_le_mul_of_nonneg_left (by omega) (by omega)
        have h2 : sq n 2 119 * (sq n 2 119 - 1) = sq n 2 119 * sq n 2 119 - sq n 2 119 := by rw [Int.mul_sub, Int.mul_one]
        omega
    rcases hs with h | h
    · omega
    · have hsq : 0 ≤ sq n 2 119 * sq n 2 119 ∧ sq n 2 119 * sq n 2 119 ≤ 6000 := by omega
      refine Ev.if_pos rfl (Ev.if_pos ?_ ?_)
      · show wrap64 (wrap64 (sq n 2 119 * sq n 2 119) - sq n 2 119) = n
        rw [w64 (x := sq n 2 119 * sq n 2 119) (by omega) (by omega), w64 (by omega) (by omega)]; omega
      · rw [show decide ((sq n 2 119, true).1 < 2) = false from decide_eq_false (by show ¬ sq n 2 119 < 2; omega)]
        exact h13
  · rw [if_neg ok]
    exact Ev.if_neg (by simp) h13
theorem turn_l3 {g : Int} (g0 : 1 ≤ g) (g1 : g ≤ 120) (n f t b x y : Int) (d : Nat) : ∀ (i : Nat), i + d = (tbOf g).length → Ev (fun k => laws_FnKindsTurned.l3 k g n (sqF n).1 (sqF n).2 (dyF n).1 (dyF n).2 (lyOf n).1 f t (sbF f t).1 (sbF f t).2 b x y (dvF b x y).1 (dvF b x y).2 (tbOf g) ((tbOf g).length : Int) (i : Int)) true := by
  have hl := tbOf_length g g0
  induction d with
  | zero =>
    intro i hi
    exact Ev.step (fun k => by simp only [laws_FnKindsTurned.l3]; rw [if_neg (by omega)]) (turn_j12 n f t b x y)
  | succ d ih =>
    intro i hi
    have ew : wrap64 ((i : Int) + 1) = ((i + 1 : Nat) : Int) := by rw [w64 (by omega) (by omega)]; omega
    have hm := rd_mem (l := tbOf g) (i := (i : Int)) (by omega) (by omega)
    obtain ⟨j, j0, j1, j2, j3⟩ := (coll_mem _ _ _ _ _).mp hm
    have j4 : tu j = j + g := of_decide_eq_true j2
    have j3' : rd (tbOf g) (i : Int) = j := j3
    have et : taOf j = (tu j, true) := by unfold taOf; rw [if_pos (by omega)]
    have hi2 := implTA_f j
    rw [et] at hi2
    have ew2 : wrap64 (j + g) = j + g := w64 (by omega) (by omega)
    refine Ev.step (fun k => by simp only [laws_FnKindsTurned.l3]; rw [if_pos (show (i : Int) < ((tbOf g).length : Int) by omega), if_pos (show (0 : Int) ≤ (i : Int) by omega), if_pos (show (i : Int) < ((tbOf g).length : Int) by omega), ew, j3', ew2]) ?_
    exact Ev.got hi2 (Ev.if_pos rfl (Ev.if_pos j4 (ih (i + 1) (by omega))))
theorem turn_j9 (g n f t b x y : Int) : Ev (fun k => laws_FnKindsTurned.j9 k g (tbF g).1 (tbF g).2 n (sqF n).1 (sqF n).2 (dyF n).1 (dyF n).2 (lyOf n).1 f t (sbF f t).1 (sbF f t).2 b x y (dvF b x y).1 (dvF b x y).2) true := by
  refine Ev.step (fun k => by simp only [laws_FnKindsTurned.j9]; rfl) ?_
  have h12 := turn_j12 n f t b x y
  unfold tbF
  by_cases ok : 1 ≤ g ∧ g ≤ 120
  · rw [if_pos ok]
    have hl := tbOf_length g ok.1
    have h10 : Ev (fun k => laws_FnKindsTurned.j10 k g (tbOf g) n (sqF n).1 (sqF n).2 (dyF n).1 (dyF n).2 (lyOf n).1 f t (sbF f t).1 (sbF f t).2 b x y (dvF b x y).1 (dvF b x y).2 false) true :=
      Ev.step (fun k => by simp only [laws_FnKindsTurned.j10]; rfl) (Ev.if_neg (by simp) (turn_l3 ok.1 ok.2 n f t b x y (tbOf g).length 0 (by omega)))
    refine Ev.if_pos rfl (Ev.bind (qRises_f (tbOf g) (coll_rises _ _ (fun _ _ h => h) _ _) (by omega)) (Ev.if_pos rfl ?_))
    by_cases c : Int.tmod g 9 = 0
    · exact Ev.if_pos c h10
    · refine Ev.if_neg c ?_
      have e0 : tbOf g = [] := by
        cases hc : tbOf g with
        | nil => rfl
        | cons z zs =>
          have hz : z ∈ tbOf g := by rw [hc]; simp
          obtain ⟨j, j0, j1, j2, j3⟩ := (coll_mem _ _ _ _ _).mp hz
          have j4 : tu j = j + g := of_decide_eq_true j2
          unfold tu at j4
          rw [Int.tmod_eq_emod_of_nonneg (by omega)] at c
          omega
      show Ev (fun k => laws_FnKindsTurned.j10 k g (tbOf g) n (sqF n).1 (sqF n).2 (dyF n).1 (dyF n).2 (lyOf n).1 f t (sbF f t).1 (sbF f t).2 b x y (dvF b x y).1 (dvF b x y).2 (((tbOf g).length : Int) != 0)) true
      rw [show (((tbOf g).length : Int) != 0) = false by rw [e0]; rfl]
      exact h10
  · rw [if_neg ok]
    exact Ev.if_neg (by simp) h12
theorem turn_j8 (a g n f t b x y : Int) : Ev (fun k => laws_FnKindsTurned.j8 k a (taOf a).1 (taOf a).2 (dgOf a).1 g (tbF g).1 (tbF g).2 n (sqF n).1 (sqF n).2 (dyF n).1 (dyF n).2 (lyOf n).1 f t (sbF f t).1 (sbF f t).2 b x y (dvF b x y).1 (dvF b x y).2 false) true := by
  refine Ev.step (fun k => by simp only [laws_FnKindsTurned.j8]; rfl) (Ev.if_neg (by simp) ?_)
  have h9 := turn_j9 g n f t b x y
  by_cases ok : 10 ≤ a ∧ a ≤ 99
  · have et : taOf a = (tu a, true) := by unfold taOf; rw [if_pos ok]
    have ed : dgOf a = (ds 5 a, true) := by unfold dgOf; rw [if_pos (by omega)]
    have tb : 1 ≤ tu a ∧ tu a ≤ 99 := by unfold tu; omega
    have ed2 : dgOf (tu a) = (ds 5 (tu a), true) := by unfold dgOf; rw [if_pos (by omega)]
    have hd := implDS_f (tu a)
    rw [ed2] at hd
    have es : ds 5 (tu a) = ds 5 a := by
      have key : ∀ p q : Int, 0 ≤ p → p ≤ 9 → 0 ≤ q → q ≤ 9 → ds 5 (10 * p + q) = p + q := by
        intro p q p0 p1 q0 q1
        have e1 : (10 * p + q) % 10 = q := by omega
        have e2 : (10 * p + q) / 10 % 10 = p := by omega
        have e3 : (10 * p + q) / 100 % 10 = 0 := by omega
        have e4 : (10 * p + q) / 1000 = 0 := by omega
        rw [ds_four (by omega) (by omega), e1, e2, e3, e4]; omega
      have k1 := key (a / 10) (a % 10) (by omega) (by omega) (by omega) (by omega)
      have k2 := key (a % 10) (a / 10) (by omega) (by omega) (by omega) (by omega)
      rw [show tu a = 10 * (a % 10) + a / 10 by unfold tu; omega, k2]
      conv => rhs; rw [show a = 10 * (a / 10) + a % 10 by omega]
      rw [k1]; omega
    rw [et, ed]
    have q1 : wrap64 (Int.tdiv (tu a) 10) = Int.tmod a 10 := by
      rw [Int.tdiv_eq_ediv_of_nonneg (by omega), Int.tmod_eq_emod_of_nonneg (by omega), w64 (by omega) (by omega)]
      unfold tu; omega
    have q2 : Int.tmod (tu a) 10 = wrap64 (Int.tdiv a 10) := by
      rw [Int.tdiv_eq_ediv_of_nonneg (by omega), Int.tmod_eq_emod_of_nonneg (by omega), w64 (by omega) (by omega)]
      unfold tu; omega
    exact Ev.if_pos rfl (Ev.bind hd (Ev.if_neg (show ¬ tu a < 1 by omega) (Ev.if_neg (show ¬ tu a > 99 by omega) (Ev.if_pos rfl (Ev.if_pos es (Ev.if_pos q1 (Ev.if_pos q2 h9)))))))
  · have et : taOf a = (0, false) := by unfold taOf; rw [if_neg ok]
    rw [et]
    exact Ev.if_neg (by simp) h9
theorem turn_j7 {l1 : List Int} (hs : Byt l1) : Ev (fun k => laws_FnKindsTurned.j7 k l1) true := by
  obtain ⟨a, da⟩ := drawTA hs
  obtain ⟨g, dg⟩ := drawTB hs
  obtain ⟨n, dn⟩ := drawSY hs
  obtain ⟨f, t, df⟩ := drawSB hs
  obtain ⟨b, x, y, db⟩ := drawDY hs
  have h8 := turn_j8 a g n f t b x y
  have l1' := tbF_length g
  have l2' := dyF_length n
  have l3' := sbF_length f t
  have l4' := dvF_length b x y
  refine Ev.step (fun k => by simp only [laws_FnKindsTurned.j7]; rfl) ?_
  refine Ev.got da (Ev.got (implTA_f a) (Ev.got (specTA_f a) (Ev.bind (implDS_f a) (Ev.bind (specDS_f a) (Ev.got dg (Ev.bind (a := tbF g) (implTB_f g) (Ev.bind (a := tbF g) (specTB_f g) (Ev.got dn (Ev.bind (a := sqF n) (implSquareYearOf_f n) (Ev.bind (a := sqF n) (specSquareYearOf_f n) (Ev.bind (a := dyF n) (implDY_f n) (Ev.bind (a := dyF n) (specDY_f n) (Ev.got (implLY_f n) (Ev.got (specLY_f n) (Ev.got df (Ev.bind (a := sbF f t) (implSB_f f t) (Ev.bind (a := sbF f t) (specSB_f f t) (Ev.got db (Ev.bind (a := dvF b x y) (implDiv_f b x y) (Ev.bind (a := dvF b x y) (specDiv_f b x y) ?_))))))))))))))))))))
  have ely : (lyOf n).2 = (dyF n).2 := by unfold lyOf dyF; split <;> rfl
  have fin : Ev (fun k => if ((lyOf n).2 != (dyF n).2) = true then none else (if (sqF n).2 = true then (laws_FnKindsTurned.j8 k a (taOf a).1 (taOf a).2 (dgOf a).1 g (tbF g).1 (tbF g).2 n (sqF n).1 (sqF n).2 (dyF n).1 (dyF n).2 (lyOf n).1 f t (sbF f t).1 (sbF f t).2 b x y (dvF b x y).1 (dvF b x y).2 (!(dyF n).2)) else (laws_FnKindsTurned.j8 k a (taOf a).1 (taOf a).2 (dgOf a).1 g (tbF g).1 (tbF g).2 n (sqF n).1 (sqF n).2 (dyF n).1 (dyF n).2 (lyOf n).1 f t (sbF f t).1 (sbF f t).2 b x y (dvF b x y).1 (dvF b x y).2 false))) true := by
    refine Ev.if_neg (by rw [ely]; simp) ?_
    by_cases hq : (sqF n).2 = true
    · refine Ev.if_pos hq ?_
      have hdy : (dyF n).2 = true := by
        unfold sqF at hq
        by_cases c : 0 ≤ n ∧ n ≤ 2900 ∧ 0 ≤ sq n 2 119
        · unfold dyF; rw [if_pos ⟨c.1, c.2.1⟩]
        · rw [if_neg c] at hq; simp at hq
      rw [show (!(dyF n).2) = false by rw [hdy]; rfl]
      exact h8
    · exact Ev.if_neg hq h8
  refine Ev.if_neg (by simp) (Ev.if_pos rfl (Ev.if_neg (by simp) (Ev.if_pos rfl (Ev.if_neg (by simp) (Ev.bind (qSame_f _ (by omega)) (Ev.if_pos rfl (Ev.if_neg (by simp) (Ev.if_pos rfl (Ev.if_neg (by simp) (Ev.bind (qSame_f _ (by omega)) (Ev.if_pos rfl (Ev.if_neg (by simp) (Ev.if_pos rfl (Ev.if_neg (by simp) (Ev.bind (qSame_f _ (by omega)) (Ev.if_pos rfl (Ev.if_neg (by simp) (Ev.bind (qSame_f _ (by omega)) (Ev.if_pos rfl ?_)))))))))))))))))))
  by_cases ht : (taOf a).2 = true
  · have hd : (dgOf a).2 = true := by
      unfold taOf at ht
      by_cases c : 10 ≤ a ∧ a ≤ 99
      · unfold dgOf; rw [if_pos (by omega)]
      · rw [if_neg c] at ht; simp at ht
    exact Ev.if_pos ht (Ev.if_pos hd fin)
  · exact Ev.if_neg ht fin
theorem turn_l2 {l1 u : List Int} (hg : goodB u = true) {y : Int} (h0 : loY u ≤ y) (h1 : y ≤ hiY u) (hn : Ev (fun k => laws_FnKindsTurned.l1 k l1 u (yaOf u).1 (hiY u) (y + 1)) true) (d : Nat) : ∀ (i : Nat) (s : Bool), i + d = u.length → s = (u.take i).all (fun x => decide (ds 5 (x + y) = ds 5 (rd u 0 + y))) →
    Ev (fun k => laws_FnKindsTurned.l2 k l1 u (yaOf u).1 (hiY u) y s (ds 5 (rd u 0 + y)) true u (u.length : Int) (i : Int)) true := by
  have hl := good_len hg
  have hb := range_bounds hg
  have hnY := nY_eq hg
  have hya := yaOf_length u
  induction d with
  | zero =>
    intro i s hi hs
    have hh : Ev (fun k => laws_qHas.f k (yaOf u).1 y) (yaQ u y) := by
      refine Ev.same (qHas_f _ y (by omega)) ?_
      unfold yaOf
      rw [if_pos hg]
      exact coll_has (yaQ u) y (loY u) (nY u) h0 (by omega)
    rw [List.take_of_length_le (by omega)] at hs
    have ew : wrap64 (y + 1) = y + 1 := w64 (by omega) (by omega)
    refine Ev.step (fun k => by simp only [laws_FnKindsTurned.l2]; rw [if_neg (by omega), ew]) (Ev.if_pos (show true = true from rfl) (Ev.bind hh (Ev.if_neg ?_ hn)))
    rw [hs]
    unfold yaQ
    simp
  | succ d ih =>
    intro i s hi hs
    have ew : wrap64 ((i : Int) + 1) = ((i + 1 : Nat) : Int) := by rw [w64 (by omega) (by omega)]; omega
    obtain ⟨m0, m1, me⟩ := rd_fit hg h0 h1 (i := (i : Int)) (by omega) (by omega)
    have hd := implDS_f (rd u (i : Int) + y)
    have ed : dgOf (rd u (i : Int) + y) = (ds 5 (rd u (i : Int) + y), true) := by unfold dgOf; rw [if_pos ⟨m0, m1⟩]
    rw [ed] at hd
    have et : (u.take (i + 1)).all (fun x => decide (ds 5 (x + y) = ds 5 (rd u 0 + y))) = (s && decide (ds 5 (rd u (i : Int) + y) = ds 5 (rd u 0 + y))) := by
      rw [List.take_succ_eq_append_getElem (by omega), List.all_append, ← hs, rd_at u i (by omega)]
      simp
    refine Ev.step (fun k => by simp only [laws_FnKindsTurned.l2]; rw [if_pos (show (i : Int) < (u.length : Int) by omega), if_pos (show (0 : Int) ≤ (i : Int) by omega), if_pos (show (i : Int) < (u.length : Int) by omega), ew, me]) (Ev.bind hd ?_)
    cases s with
    | true =>
      refine Ev.if_pos rfl (Ev.if_pos rfl (ih (i + 1) _ (by omega) ?_))
      rw [et, Bool.true_and, Bool.beq_eq_decide_eq]
    | false =>
      exact Ev.if_neg (by simp) (ih (i + 1) _ (by omega) (by rw [et]; rfl))
theorem turn_l1 {l1 u : List Int} (hs : Byt l1) (hg : goodB u = true) (d : Nat) : ∀ (y : Int), loY u ≤ y → y + d = hiY u + 1 → Ev (fun k => laws_FnKindsTurned.l1 k l1 u (yaOf u).1 (hiY u) y) true := by
  have hl := good_len hg
  have hb := range_bounds hg
  induction d with
  | zero =>
    intro y h0 h1
    exact Ev.step (fun k => by simp only [laws_FnKindsTurned.l1]; rw [if_neg (by omega)]) (turn_j7 hs)
  | succ d ih =>
    intro y h0 h1
    obtain ⟨m0, m1, me⟩ := rd_fit hg h0 (show y ≤ hiY u by omega) (i := 0) (by omega) (by omega)
    have hd := implDS_f (rd u 0 + y)
    have ed : dgOf (rd u 0 + y) = (ds 5 (rd u 0 + y), true) := by unfold dgOf; rw [if_pos ⟨m0, m1⟩]
    rw [ed] at hd
    refine Ev.step (fun k => by simp only [laws_FnKindsTurned.l1]; rw [if_pos (show y ≤ hiY u by omega), if_pos (show (0 : Int) < (u.length : Int) by omega), me]) (Ev.bind hd ?_)
    exact turn_l2 hg h0 (by omega) (ih (y + 1) (by omega) (by omega)) u.length 0 true (by omega) (by simp)
theorem turn_j3 {l1 : List Int} (hs : Byt l1) (u : List Int) : Ev (fun k => laws_FnKindsTurned.j3 k l1 u (yaOf u).1 (yaOf u).2) true := by
  refine Ev.step (fun k => by simp only [laws_FnKindsTurned.j3]; rfl) ?_
  by_cases hg : goodB u = true
  · have hn := nY_eq hg
    have hl1 := turn_l1 hs hg (nY u) (loY u) (Int.le_refl _) hn.1
    have ey : yrOf u = (loY u, hiY u, true) := by unfold yrOf; rw [if_pos hg]
    have hi := implYR_f u
    rw [ey] at hi
    have e2 : (yaOf u).2 = true := by unfold yaOf; rw [if_pos hg]
    have hr : Ev (fun k => laws_qRises.f k (yaOf u).1) true := by
      have := yaOf_length u
      refine qRises_f _ ?_ (by omega)
      unfold yaOf; rw [if_pos hg]
      exact coll_rises _ _ (fun _ _ h => h) _ _
    refine Ev.if_pos e2 (Ev.got hi (Ev.if_pos rfl (Ev.bind hr ?_)))
    exact Ev.step (fun k => by simp only [laws_FnKindsTurned.j4]; rfl) (Ev.if_neg (by simp) hl1)
  · have e2 : (yaOf u).2 = false := by unfold yaOf; rw [if_neg hg]
    exact Ev.if_neg (by rw [e2]; simp) (turn_j7 hs)
theorem turn_l0 {l1 l : List Int} {a b : Int} (hs : Byt l1) (two : twoB l a b = true) (u : List Int) (d : Nat) : ∀ (y : Int), loY l ≤ y → y + d = hiY l + 1 → Ev (fun k => laws_FnKindsTurned.l0 k l1 l a b (ytOf l a b).1 u (yaOf u).1 (yaOf u).2 (hiY l) y) true := by
  obtain ⟨hg, ⟨a0, a1⟩, ⟨b0, b1⟩, _⟩ := two_good two
  have hl := good_len hg
  have hb := range_bounds hg
  have hnY := nY_eq hg
  have hyt := ytOf_length l a b
  induction d with
  | zero =>
    intro y h0 h1
    exact Ev.step (fun k => by simp only [laws_FnKindsTurned.l0]; rw [if_neg (by omega)]) (turn_j3 hs u)
  | succ d ih =>
    intro y h0 h1
    have ew : wrap64 (y + 1) = y + 1 := w64 (by omega) (by omega)
    obtain ⟨m0, m1, me⟩ := rd_fit hg h0 (show y ≤ hiY l by omega) b0 b1
    obtain ⟨n0, n1, ne⟩ := rd_fit hg h0 (show y ≤ hiY l by omega) a0 a1
    have hh : Ev (fun k => laws_qHas.f k (ytOf l a b).1 y) (ytQ l a b y) := by
      refine Ev.same (qHas_f _ y (by omega)) ?_
      unfold ytOf
      rw [if_pos two]
      exact coll_has (ytQ l a b) y (loY l) (nY l) h0 (by omega)
    have hi := implTA_f (rd l b + y)
    have hn := ih (y + 1) (by omega) (by omega)
    refine Ev.step (fun k => by simp only [laws_FnKindsTurned.l0]; rw [if_pos (show y ≤ hiY l by omega), if_pos b0, if_pos b1, me, ne, ew]) (Ev.got hi (Ev.bind hh ?_))
    unfold taOf ytQ
    by_cases c : 10 ≤ rd l b + y ∧ rd l b + y ≤ 99
    · rw [if_pos c, decide_eq_true c, Bool.true_and, ← Bool.beq_eq_decide_eq]
      exact Ev.if_pos rfl (Ev.if_pos a0 (Ev.if_pos a1 (Ev.if_neg (by simp) hn)))
    · rw [if_neg c, decide_eq_false c, Bool.false_and]
      exact Ev.if_neg (by simp) (Ev.if_neg (by simp) hn)
theorem turn_j0 {l1 : List Int} (hs : Byt l1) (l : List Int) (a b : Int) (u : List Int) : Ev (fun k => laws_FnKindsTurned.j0 k l1 l a b (ytOf l a b).1 (ytOf l a b).2 u (yaOf u).1 (yaOf u).2 false) true := by
  refine Ev.step (fun k => by simp only [laws_FnKindsTurned.j0]; rfl) (Ev.if_neg (by simp) ?_)
  by_cases two : twoB l a b = true
  · have hg := (two_good two).1
    have hn := nY_eq hg
    have hl0 := turn_l0 hs two u (nY l) (loY l) (Int.le_refl _) hn.1
    have ey : yrOf l = (loY l, hiY l, true) := by unfold yrOf; rw [if_pos hg]
    have hi := implYR_f l
    rw [ey] at hi
    have e2 : (ytOf l a b).2 = true := by unfold ytOf; rw [if_pos two]
    have hr : Ev (fun k => laws_qRises.f k (ytOf l a b).1) true := by
      have := ytOf_length l a b
      refine qRises_f _ ?_ (by omega)
      unfold ytOf; rw [if_pos two]
      exact coll_rises _ _ (fun _ _ h => h) _ _
    refine Ev.if_pos e2 (Ev.got hi (Ev.if_pos rfl (Ev.bind hr ?_)))
    exact Ev.step (fun k => by simp only [laws_FnKindsTurned.j1]; rfl) (Ev.if_neg (by simp) hl0)
  · have e2 : (ytOf l a b).2 = false := by unfold ytOf; rw [if_neg two]
    exact Ev.if_neg (by rw [e2]; simp) (turn_j3 hs u)
theorem FnKindsTurned : laws_FnKindsTurned.Pure := by
  intro l0 l1 h1 h2 h3 h4 h5 h6
  apply Ev.rounds
  obtain ⟨c, hb⟩ := big_f l0 l1 (by omega) (by omega)
  refine Ev.congr (fun k => by unfold laws_FnKindsTurned.f; rfl) (Ev.got hb ?_)
  cases c with
  | true => exact Ev.if_pos rfl (Ev.now _)
  | false =>
    have hs0 := byt_of h3
    have hs1 := byt_of h6
    obtain ⟨l, a, b, d1, _⟩ := drawYT hs0
    obtain ⟨u, d2, _⟩ := drawYA hs0
    have h0 := turn_j0 hs1 l a b u
    have n1 := ytOf_length l a b
    have n2 := yaOf_length u
    refine Ev.if_neg (by simp) (Ev.bind d1 (Ev.bind (implYT_f l a b) (Ev.bind (specYT_f l a b) (Ev.bind d2 (Ev.bind (implYA_f u) (Ev.bind (specYA_f u) ?_))))))
    refine Ev.if_neg (by simp) (Ev.bind (qSame_f _ (by omega)) (Ev.if_pos rfl (Ev.if_neg (by simp) (Ev.bind (qSame_f _ (by omega)) ?_))))
    exact h0

end Go.Proofs.Ytpokmbcfmaepcaa.Pure
