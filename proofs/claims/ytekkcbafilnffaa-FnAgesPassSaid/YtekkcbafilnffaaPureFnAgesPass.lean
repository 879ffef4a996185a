/- In one sentence: the law FnAgesPass answers true for all arguments and leaves them as they were. Conditions: none. -/
import Derived.Test.YtekkcbafilnffaaLAll
import Derived.Test.YtekkcbafilnffaaP4
import Derived.Test.YtekkcbafilnffaaP8
namespace Go.Proofs.Ytekkcbafilnffaa.Pure
open Go.RowKit Go.Proofs.Ytekkcbafilnffaa.P Go.Proofs.YtekkcbafilnffaaW.PrintWords Go.Proofs.YtekkcbafilnffaaW.PrintLast Go.Proofs.YtekkcbafilnffaaW.PrintMore
set_option linter.unusedVariables false
set_option linter.unusedSimpArgs false

theorem by_back {l : List Int} {y : Int} (h : (byOf l y).2 = true) : abOf (byOf l y).1 y = (l, true) := by
  unfold byOf at h ⊢
  by_cases hc : goodB l = true ∧ 120 ≤ y ∧ y ≤ 3000
  · rw [if_pos hc]
    obtain ⟨hg, h0, h1⟩ := hc
    have hl := good_len hg
    have e : l.map (fun x => wrap64 (y - x)) = l.map (fun x => y - x) := List.map_congr_left fun x hx => by
      have := good_mem hg hx
      exact w64 (by omega) (by omega)
    have ok : abOk (l.map (fun x => wrap64 (y - x))) y := by
      refine ⟨by simp; omega, ?_, by omega⟩
      unfold allB
      rw [e]
      refine List.all_eq_true.mpr fun x hx => ?_
      obtain ⟨z, hz, rfl⟩ := List.mem_map.mp hx
      have := good_mem hg hz
      exact decide_eq_true (by omega)
    have e2 : (l.map (fun x => wrap64 (y - x))).map (fun x => wrap64 (y - x)) = l := by
      rw [e, List.map_map]
      conv => rhs; rw [← List.map_id l]
      refine List.map_congr_left fun x hx => ?_
      have := good_mem hg hx
      show wrap64 (y - (y - x)) = x
      rw [w64 (by omega) (by omega)]; omega
    show abOf (l.map (fun x => wrap64 (y - x))) y = (l, true)
    unfold abOf
    rw [if_pos ok, e2]
    unfold abL
    rw [if_pos hg]
  · rw [if_neg hc] at h; simp at h
theorem pass_l1 (e old : List Int) (y : Int) (ho : old = e.map (fun x => wrap64 (y - x))) (hl : old.length ≤ 1048576) (d : Nat) : ∀ (i : Nat), i + d = old.length → Ev (fun k => laws_FnAgesPass.l1 k e y old (old.length : Int) (i : Int)) true := by
  have hle : e.length = old.length := by rw [ho]; simp
  induction d with
  | zero =>
    intro i hi
    exact Ev.step (f := fun _ => some true) (fun k => by simp only [laws_FnAgesPass.l1]; rw [if_neg (by omega)]) (Ev.now _)
  | succ d ih =>
    intro i hi
    have ew : wrap64 ((i : Int) + 1) = ((i + 1 : Nat) : Int) := by rw [w64 (by omega) (by omega)]; omega
    have er : rd old (i : Int) = wrap64 (y - rd e (i : Int)) := by
      rw [rd_at old i (by omega), rd_at e i (by omega)]
      subst ho
      simp
    refine Ev.step (f := fun k => laws_FnAgesPass.l1 k e y old (old.length : Int) ((i + 1 : Nat) : Int)) (fun k => ?_) (ih (i + 1) (by omega))
    simp only [laws_FnAgesPass.l1]
    rw [if_pos (by omega), if_pos (by omega), if_pos (by omega), if_pos (by omega), if_pos er, ew]
theorem pass_j9 (e : List Int) (y : Int) : Ev (fun k => laws_FnAgesPass.j9 k e y (abOf e y).1 (abOf e y).2) true := by
  have hl := abOf_length e y
  refine Ev.step (fun k => by simp only [laws_FnAgesPass.j9]; rfl) ?_
  cases hb : (abOf e y).2 with
  | true =>
    refine Ev.if_pos rfl (pass_l1 e _ y ?_ (by omega) (abOf e y).1.length 0 (by omega))
    unfold abOf abL at hb ⊢
    by_cases h1 : abOk e y
    · rw [if_pos h1] at hb ⊢
      by_cases h2 : goodB (e.map (fun x => wrap64 (y - x))) = true
      · rw [if_pos h2]
      · rw [if_neg h2] at hb; simp at hb
    · rw [if_neg h1] at hb; simp at hb
  | false => exact Ev.if_neg (by simp) (Ev.now _)
theorem pass_j8 (d : List Int) (y : Int) (e : List Int) (z : Int) : Ev (fun k => laws_FnAgesPass.j8 k d y (byOf d y).1 (byOf d y).2 e z (abOf e z).1 (abOf e z).2) true := by
  refine Ev.step (fun k => by simp only [laws_FnAgesPass.j8]; rfl) ?_
  have h9 := pass_j9 e z
  cases hb : (byOf d y).2 with
  | true =>
    have hk := by_back hb
    have hi := implAB_f (byOf d y).1 y
    rw [hk] at hi
    have hd : d.length ≤ 8 := by
      have := abOf_length (byOf d y).1 y
      rw [hk] at this
      exact this
    exact Ev.if_pos rfl (Ev.bind hi (Ev.if_pos rfl (Ev.bind (gSame_f d (by omega)) (Ev.if_pos rfl h9))))
  | false => exact Ev.if_neg (by simp) h9
theorem tp_spec {l : List Int} {m : Int} (h : (tpOf l m).2 = true) : fitB l (tpOf l m).1 = true ∧ prodW (inY l (tpOf l m).1) 1 ≤ m ∧ (fitB l ((tpOf l m).1 + 1) = true → ¬ prodW (inY l ((tpOf l m).1 + 1)) 1 ≤ m) := by
  unfold tpOf at h ⊢
  by_cases ok : tpOk l m
  · rw [if_pos ok] at h ⊢
    have hg := ok.1
    have hn := nY_eq hg
    have ed := down_last (tpQ l m) (nY l) (loY l)
    rw [show loY l + (nY l : Int) - 1 = hiY l by omega] at ed
    rw [← ed] at h ⊢
    obtain ⟨hq, h0, h1, h2⟩ := downOf_spec _ _ _ h
    refine ⟨by unfold fitB; rw [hg, decide_eq_true (by omega)]; rfl, of_decide_eq_true hq, fun hf => ?_⟩
    have hf2 := fit_good hf
    exact of_decide_eq_false (h2 _ (by omega) hf2.2.2)
  · rw [if_neg ok] at h; simp at h
theorem pass_j6 (c : List Int) (m : Int) (d : List Int) (y : Int) (e : List Int) (z : Int) : Ev (fun k => laws_FnAgesPass.j6 k c m (tpOf c m).1 (tpOf c m).2 d y (byOf d y).1 (byOf d y).2 e z (abOf e z).1 (abOf e z).2) true := by
  refine Ev.step (fun k => by simp only [laws_FnAgesPass.j6]; rfl) ?_
  have h8 := pass_j8 d y e z
  cases hb : (tpOf c m).2 with
  | true =>
    obtain ⟨hf, hp, hx⟩ := tp_spec hb
    have hi := implPI_f c (tpOf c m).1
    have ep : piOf c (tpOf c m).1 = (prodW (inY c (tpOf c m).1) 1, true) := by unfold piOf; rw [if_pos hf]
    rw [ep] at hi
    have hf2 := fit_good hf
    have hb2 := range_bounds hf2.1
    have hi2 := implPI_f c ((tpOf c m).1 + 1)
    generalize (tpOf c m).1 = t at hf hp hx hi ep hf2 hi2 ⊢
    have ew : wrap64 (t + 1) = t + 1 := w64 (by omega) (by omega)
    refine Ev.if_pos rfl (Ev.bind hi (Ev.if_pos rfl ?_))
    refine Ev.step (fun k => by simp only [laws_FnAgesPass.j7]; rw [ew]) ?_
    refine Ev.if_neg (by simp; omega) ?_
    cases hf3 : fitB c (t + 1) with
    | true =>
      have ep2 : piOf c (t + 1) = (prodW (inY c (t + 1)) 1, true) := by unfold piOf; rw [if_pos hf3]
      rw [ep2] at hi2
      exact Ev.bind hi2 (Ev.if_pos rfl (Ev.if_neg (hx hf3) h8))
    | false =>
      have ep2 : piOf c (t + 1) = (0, false) := by unfold piOf; rw [if_neg (by rw [hf3]; simp)]
      rw [ep2] at hi2
      exact Ev.bind hi2 (Ev.if_neg (by simp) h8)
  | false => exact Ev.if_neg (by simp) h8
theorem tm_spec {l : List Int} {n d : Int} (h : (tmOf l n d).2 = true) : fitB l (tmOf l n d).1 = true ∧ (0 ≤ n ∧ n ≤ 10000) ∧ (1 ≤ d ∧ d ≤ 100) ∧ sumW (inY l (tmOf l n d).1) 0 * d = n * (l.length : Int) := by
  unfold tmOf at h ⊢
  by_cases ok : tmOk l n d
  · rw [if_pos ok] at h ⊢
    obtain ⟨hg, hn, hd⟩ := ok
    have hl := good_len hg
    have h1 := nY_eq hg
    obtain ⟨hq, h0, h2⟩ := firstOf_spec _ _ _ h
    have hf : fitB l (firstOf (tmQ l n d) (loY l) (nY l)).1 = true := by unfold fitB; rw [hg, decide_eq_true (by omega)]; rfl
    refine ⟨hf, hn, hd, ?_⟩
    have hq2 : wrap64 (sumW (inY l (firstOf (tmQ l n d) (loY l) (nY l)).1) 0 * d) = wrap64 (n * (l.length : Int)) := of_decide_eq_true hq
    have hs := sum_fit hf
    rw [hs.1] at hq2 ⊢
    generalize l.sum + (firstOf (tmQ l n d) (loY l) (nY l)).1 * (l.length : Int) = s at hs hq2 ⊢
    have b1 : 0 ≤ s * d := Int.mul_nonneg hs.2.1 (by omega)
    have b2 : s * d ≤ 960 * 100 := Int.mul_le_mul hs.2.2 hd.2 (by omega) (by omega)
    have b3 : 0 ≤ n * (l.length : Int) := Int.mul_nonneg hn.1 (by omega)
    have b4 : n * (l.length : Int) ≤ 10000 * 8 := Int.mul_le_mul hn.2 (by omega) (by omega) (by omega)
    rw [w64 (by omega) (by omega), w64 (by omega) (by omega)] at hq2
    exact hq2
  · rw [if_neg ok] at h; simp at h
theorem pass_j5 (b : List Int) (n q : Int) (c : List Int) (m : Int) (d : List Int) (y : Int) (e : List Int) (z : Int) : Ev (fun k => laws_FnAgesPass.j5 k b n q (tmOf b n q).1 (tmOf b n q).2 c m (tpOf c m).1 (tpOf c m).2 d y (byOf d y).1 (byOf d y).2 e z (abOf e z).1 (abOf e z).2) true := by
  refine Ev.step (fun k => by simp only [laws_FnAgesPass.j5]; rfl) ?_
  have h6 := pass_j6 c m d y e z
  cases hb : (tmOf b n q).2 with
  | true =>
    obtain ⟨hf, hn, hq, hs⟩ := tm_spec hb
    have hi := implAI_f b (tmOf b n q).1
    have ea : aiOf b (tmOf b n q).1 = (inY b (tmOf b n q).1, true) := by unfold aiOf; rw [if_pos hf]
    rw [ea] at hi
    have hm := implMean_f (inY b (tmOf b n q).1)
    obtain ⟨hg2, _⟩ := fit_in hf
    have hl2 := good_len hg2
    have hs2 := good_sum hg2
    have em : meanOf (inY b (tmOf b n q).1) = ((lowOf (sumW (inY b (tmOf b n q).1) 0) ((inY b (tmOf b n q).1).length : Int)).1, (lowOf (sumW (inY b (tmOf b n q).1) 0) ((inY b (tmOf b n q).1).length : Int)).2, true) := by unfold meanOf; rw [if_pos hg2]
    rw [em] at hm
    rw [show (b.length : Int) = ((inY b (tmOf b n q).1).length : Int) by rw [inY_length]] at hs
    rw [← hs2.1] at hs2
    generalize inY b (tmOf b n q).1 = l at hi hm hl2 hs2 hs hg2
    obtain ⟨x0, x1, y0, y1, hxy, hlow⟩ := low_spec (a := sumW l 0) (b := (l.length : Int)) hs2.2.1 (by omega) (by omega) (by omega)
    generalize (lowOf (sumW l 0) (l.length : Int)).1 = x at hm x0 x1 hxy hlow
    generalize (lowOf (sumW l 0) (l.length : Int)).2 = v at hm y0 y1 hxy hlow
    have key : x * q = n * v := by
      refine Int.eq_of_mul_eq_mul_right (show (l.length : Int) ≠ 0 by omega) ?_
      calc x * q * (l.length : Int) = x * (l.length : Int) * q := by rw [Int.mul_assoc, Int.mul_comm q, ← Int.mul_assoc]
        _ = sumW l 0 * v * q := by rw [hxy]
        _ = sumW l 0 * q * v := by rw [Int.mul_assoc, Int.mul_comm v, ← Int.mul_assoc]
        _ = n * (l.length : Int) * v := by rw [hs]
        _ = n * v * (l.length : Int) := by rw [Int.mul_assoc, Int.mul_comm (l.length : Int), ← Int.mul_assoc]
    exact Ev.if_pos rfl (Ev.bind hi (Ev.bind hm (Ev.if_pos rfl (Ev.if_pos rfl (Ev.bind hlow (Ev.if_pos rfl (Ev.if_pos (by rw [key]) h6)))))))
  | false => exact Ev.if_neg (by simp) h6
theorem pass_j4 (a : List Int) (s : Int) (b : List Int) (n q : Int) (c : List Int) (m : Int) (d : List Int) (y : Int) (e : List Int) (z : Int) : Ev (fun k => laws_FnAgesPass.j4 k a s (tsOf a s).1 (tsOf a s).2 b n q (tmOf b n q).1 (tmOf b n q).2 c m (tpOf c m).1 (tpOf c m).2 d y (byOf d y).1 (byOf d y).2 e z (abOf e z).1 (abOf e z).2 false) true := by
  refine Ev.step (fun k => by simp only [laws_FnAgesPass.j4]; rfl) (Ev.if_neg (by simp) ?_)
  have h5 := pass_j5 b n q c m d y e z
  cases hb : (tsOf a s).2 with
  | true =>
    have hi := implSI_f a (tsOf a s).1
    rw [ts_spec hb] at hi
    exact Ev.if_pos rfl (Ev.bind hi (Ev.if_pos rfl (Ev.if_pos rfl h5)))
  | false => exact Ev.if_neg (by simp) h5
theorem pass_j3 {l1 : List Int} (hs : Byt l1) : Ev (fun k => laws_FnAgesPass.j3 k l1) true := by
  obtain ⟨a, s, d1, _⟩ := drawTS hs
  obtain ⟨b, n, q, d2, _⟩ := drawTM hs
  obtain ⟨c, m, d3, _⟩ := drawTP hs
  obtain ⟨d, y, d4, _⟩ := drawBY hs
  obtain ⟨e, z, d5, _⟩ := drawAB hs
  have h4 := pass_j4 a s b n q c m d y e z
  have hby := byOf_length d y
  have hab := abOf_length e z
  refine Ev.step (fun k => by simp only [laws_FnAgesPass.j3]; rfl) ?_
  refine Ev.bind d1 (Ev.bind (implTS_f a s) (Ev.bind (specTS_f a s) (Ev.bind d2 (Ev.bind (implTM_f b n q) (Ev.bind (specTM_f b n q) (Ev.bind d3 (Ev.bind (implTP_f c m) (Ev.bind (specTP_f c m) (Ev.bind d4 (Ev.bind (implBY_f d y) (Ev.bind (specBY_f d y) (Ev.bind d5 (Ev.bind (implAB_f e z) (Ev.bind (specAB_f e z) ?_))))))))))))))
  refine Ev.if_neg (by simp) (Ev.if_pos rfl (Ev.if_neg (by simp) (Ev.if_pos rfl (Ev.if_neg (by simp) (Ev.if_pos rfl (Ev.if_neg (by simp) (Ev.bind (gSame_f _ (by omega)) (Ev.if_pos rfl (Ev.if_neg (by simp) (Ev.bind (gSame_f _ (by omega)) ?_))))))))))
  exact h4
theorem pass_l0 {l1 : List Int} (hs : Byt l1) {l : List Int} {y : Int} (hf : fitB l y = true) (d : Nat) : ∀ (i : Nat) (p : Int), i + d = l.length → prodW ((inY l y).drop i) p = prodW (inY l y) 1 → Ev (fun k => laws_FnAgesPass.l0 k l1 l y (sumW (inY l y) 0) (prodW (inY l y) 1) p (inY l y) ((inY l y).length : Int) (i : Int)) true := by
  have hl := good_len (fit_good hf).1
  have hlen := inY_length l y
  induction d with
  | zero =>
    intro i p hi hp
    rw [List.drop_of_length_le (by omega)] at hp
    have hi2 := implTS_f l (sumW (inY l y) 0)
    rw [ts_back hf] at hi2
    exact Ev.step (fun k => by simp only [laws_FnAgesPass.l0]; rw [if_neg (by omega)]) (Ev.bind hi2 (Ev.if_pos hp (Ev.if_pos rfl (Ev.if_pos rfl (pass_j3 hs)))))
  | succ d ih =>
    intro i p hi hp
    have ew : wrap64 ((i : Int) + 1) = ((i + 1 : Nat) : Int) := by rw [w64 (by omega) (by omega)]; omega
    have er := inY_rd (l := l) (y := y) (i := (i : Int)) (by omega) (by omega)
    have hm := good_mem (fit_in hf).1 (rd_mem (l := inY l y) (i := (i : Int)) (by omega) (by omega))
    rw [drop_rd (inY l y) i (by omega)] at hp
    refine Ev.step (f := fun k => laws_FnAgesPass.l0 k l1 l y (sumW (inY l y) 0) (prodW (inY l y) 1) (wrap64 (p * rd (inY l y) (i : Int))) (inY l y) ((inY l y).length : Int) ((i + 1 : Nat) : Int)) (fun k => ?_) (ih (i + 1) _ (by omega) hp)
    simp only [laws_FnAgesPass.l0]
    rw [if_pos (by omega), if_pos (by omega), if_pos (by omega), if_pos (by omega), if_pos er, if_neg (by omega), if_neg (by omega), ew]
theorem pass_j0 {l1 : List Int} (hs : Byt l1) (l : List Int) (y : Int) : Ev (fun k => laws_FnAgesPass.j0 k l1 l y (aiOf l y).1 (aiOf l y).2 (siOf l y).1 (piOf l y).1 false) true := by
  refine Ev.step (fun k => by simp only [laws_FnAgesPass.j0]; rfl) (Ev.if_neg (by simp) ?_)
  have h3 := pass_j3 hs
  cases hf : fitB l y with
  | true =>
    obtain ⟨hg, h0, h1⟩ := fit_good hf
    have hl := good_len hg
    have hb := range_bounds hg
    have ea : aiOf l y = (inY l y, true) := by unfold aiOf; rw [if_pos hf]
    have es : siOf l y = (sumW (inY l y) 0, true) := by unfold siOf; rw [if_pos hf]
    have ep : piOf l y = (prodW (inY l y) 1, true) := by unfold piOf; rw [if_pos hf]
    obtain ⟨hk, hkk⟩ := fit_back hf
    have hi := implAI_f (inY l y) (-y)
    have ea2 : aiOf (inY l y) (-y) = (l, true) := by unfold aiOf; rw [if_pos hk, hkk]
    rw [ea2] at hi
    have hz := fit_zero hg
    have hi2 := implSI_f l 0
    have es2 : siOf l 0 = (sumW (inY l 0) 0, true) := by unfold siOf; rw [if_pos hz]
    rw [es2] at hi2
    have ew : wrap64 (-y) = -y := w64 (by omega) (by omega)
    have s1 := sum_fit hf
    have s2 := sum_fit hz
    have b1 : -1000000 ≤ y * (l.length : Int) ∧ y * (l.length : Int) ≤ 1000000 := by omega
    have e3 : sumW (inY l y) 0 = wrap64 (sumW (inY l 0) 0 + wrap64 (y * (l.length : Int))) := by
      rw [s1.1, s2.1, w64 (x := y * (l.length : Int)) (by omega) (by omega), w64 (by omega) (by omega)]; omega
    rw [ea, es, ep]
    rw [ew]
    refine Ev.if_pos rfl (Ev.bind hi (Ev.bind hi2 (Ev.if_pos (by rw [inY_length]) (Ev.if_pos rfl (Ev.bind (gSame_f l (by omega)) (Ev.if_pos rfl (Ev.if_pos rfl ?_)))))))
    rw [← e3, show (sumW (inY l y) 0 != sumW (inY l y) 0) = false from bne_self_eq_false _]
    refine Ev.step (fun k => by simp only [laws_FnAgesPass.j1]; rfl) (Ev.if_neg (by simp) ?_)
    exact pass_l0 hs hf l.length 0 1 (by omega) (by simp)
  | false =>
    have ea : aiOf l y = ([], false) := by unfold aiOf; rw [if_neg (by rw [hf]; simp)]
    rw [ea]
    exact Ev.if_neg (by simp) h3
theorem FnAgesPass : laws_FnAgesPass.Pure := by
  intro l0 l1 h1 h2 h3 h4 h5 h6
  apply Ev.rounds
  obtain ⟨b, hb⟩ := big_f l0 l1 (by omega) (by omega)
  refine Ev.congr (fun k => by unfold laws_FnAgesPass.f; rfl) (Ev.got hb ?_)
  cases b with
  | true => exact Ev.if_pos rfl (Ev.now _)
  | false =>
    have hs0 := byt_of h3
    have hs1 := byt_of h6
    obtain ⟨l, y, hd, hl⟩ := drawAI hs0
    have hai := aiOf_length l y
    have h0 := pass_j0 hs1 l y
    refine Ev.if_neg (by simp) (Ev.bind hd (Ev.bind (implAI_f l y) (Ev.bind (specAI_f l y) (Ev.bind (implSI_f l y) (Ev.bind (specSI_f l y) (Ev.bind (implPI_f l y) (Ev.bind (specPI_f l y) (Ev.got (implYR_f l) (Ev.bind (specYR_f l) ?_)))))))))
    refine Ev.if_neg (by simp) (Ev.bind (gSame_f _ (by omega)) (Ev.if_pos rfl (Ev.if_neg (by simp) (Ev.if_pos rfl (Ev.if_neg (by simp) (Ev.if_pos rfl (Ev.if_neg (by simp) (Ev.if_pos rfl (Ev.if_pos rfl (Ev.got (areAges_f l) ?_))))))))))
    have e1 : (yrOf l).2.2 = goodB l := by
      unfold yrOf
      cases hg : goodB l <;> simp
    have e2 : (siOf l y).2 = (aiOf l y).2 := by unfold siOf aiOf; split <;> rfl
    have e3 : (piOf l y).2 = (aiOf l y).2 := by unfold piOf aiOf; split <;> rfl
    have hsa : Ev (fun k => spec_AreAges.f k l) (goodB l) := Ev.congr (fun k => by unfold spec_AreAges.f; rfl) (Ev.bind (agGood_f l) (Ev.now _))
    refine Ev.if_neg (by rw [e1]; simp) (Ev.bind hsa (Ev.if_neg (by simp) (Ev.if_neg (by rw [e2]; simp) (Ev.if_neg (by rw [e3]; simp) ?_))))
    cases hg : goodB l with
    | true =>
      have ey : yrOf l = (loY l, hiY l, true) := by unfold yrOf; rw [if_pos hg]
      rw [ey]
      refine Ev.if_pos rfl ?_
      by_cases c : y ≥ loY l
      · refine Ev.if_pos c ?_
        rw [show ((aiOf l y).2 != decide (y ≤ hiY l)) = false by
          unfold aiOf fitB
          rw [hg]
          by_cases c2 : y ≤ hiY l
          · rw [decide_eq_true (show loY l ≤ y ∧ y ≤ hiY l from ⟨c, c2⟩), decide_eq_true c2]; rfl
          · rw [decide_eq_false (show ¬ (loY l ≤ y ∧ y ≤ hiY l) from fun h => c2 h.2), decide_eq_false c2]; rfl]
        exact h0
      · refine Ev.if_neg c ?_
        rw [show ((aiOf l y).2 != false) = false by
          unfold aiOf fitB
          rw [hg, decide_eq_false (show ¬ (loY l ≤ y ∧ y ≤ hiY l) from fun h => c h.1)]; rfl]
        exact h0
    | false =>
      have ey : yrOf l = (0, 0, false) := by unfold yrOf; rw [if_neg (by rw [hg]; simp)]
      rw [ey]
      refine Ev.if_neg (by simp) ?_
      rw [show ((aiOf l y).2 != false) = false by unfold aiOf fitB; rw [hg]; rfl]
      exact h0

end Go.Proofs.Ytekkcbafilnffaa.Pure
