/- In one sentence: the law FnAgesCompared answers true for all arguments and leaves them as they were. Conditions: none. -/
import Derived.Test.YtcfgkpifloghlaaGreatDoorLCmp
import Derived.Test.YtcfgkpifloghlaaGreatDoorP0
import Derived.Test.YtcfgkpifloghlaaGreatDoorP11
import Derived.Test.YtcfgkpifloghlaaGreatDoorP16
import Derived.Test.YtcfgkpifloghlaaGreatDoorP7
import Derived.Test.YtcfgkpifloghlaaGreatDoorP8
import Derived.Test.YtcfgkpifloghlaaGreatDoorP9
namespace Go.Proofs.YtcfgkpifloghlaaGreatDoor.Pure
open Go.RowKit Go.Proofs.YtcfgkpifloghlaaGreatDoor.P Go.Proofs.YtcfgkpifloghlaaGreatDoorW.PrintWords Go.Proofs.YtcfgkpifloghlaaGreatDoorW.PrintLast Go.Proofs.YtcfgkpifloghlaaGreatDoorW.PrintMore
set_option linter.unusedVariables false
set_option linter.unusedSimpArgs false

theorem gSum_l (l : List Int) (hb : l.length ≤ 1048576) (d : Nat) : ∀ (i : Nat) (s : Int), i + d = l.length → Ev (fun k => laws_gSum.l0 k s l (l.length : Int) (i : Int)) (sumW (l.drop i) s) := by
  induction d with
  | zero =>
    intro i s hi
    exact Ev.step (f := fun _ => some s) (fun k => by simp only [laws_gSum.l0]; rw [if_neg (by omega)]) (Ev.same (Ev.now _) (by rw [List.drop_of_length_le (by omega)]; rfl))
  | succ d ih =>
    intro i s hi
    have ew : wrap64 ((i : Int) + 1) = ((i + 1 : Nat) : Int) := by rw [w64 (by omega) (by omega)]; omega
    refine Ev.step (f := fun k => laws_gSum.l0 k (wrap64 (s + rd l (i : Int))) l (l.length : Int) ((i + 1 : Nat) : Int)) (fun k => ?_) (Ev.same (ih (i + 1) _ (by omega)) (by rw [drop_rd l i (by omega)]; rfl))
    simp only [laws_gSum.l0]; rw [if_pos (by omega), if_pos (by omega), if_pos (by omega), ew]
theorem gSum_f (l : List Int) (hb : l.length ≤ 1048576) : Ev (fun k => laws_gSum.f k l) (sumW l 0) := Ev.congr (fun k => by unfold laws_gSum.f; rfl) (Ev.same (gSum_l l hb l.length 0 _ (by omega)) (by simp))
theorem gHas_l (l : List Int) (n : Int) (hb : l.length ≤ 1048576) (d : Nat) : ∀ (i : Nat), i + d = l.length → Ev (fun k => laws_gHas.l0 k n l (l.length : Int) (i : Int)) (decide (n ∈ l.drop i)) := by
  induction d with
  | zero =>
    intro i hi
    exact Ev.step (f := fun _ => some false) (fun k => by simp only [laws_gHas.l0]; rw [if_neg (by omega)]) (Ev.same (Ev.now _) (by rw [List.drop_of_length_le (by omega)]; simp))
  | succ d ih =>
    intro i hi
    have ew : wrap64 ((i : Int) + 1) = ((i + 1 : Nat) : Int) := by rw [w64 (by omega) (by omega)]; omega
    rw [drop_rd l i (by omega)]
    refine Ev.step (f := fun k => if rd l (i : Int) = n then some true else laws_gHas.l0 k n l (l.length : Int) ((i + 1 : Nat) : Int)) (fun k => ?_) ?_
    · simp only [laws_gHas.l0]
      rw [if_pos (by omega), if_pos (by omega), if_pos (by omega), ew]
    · by_cases h : rd l (i : Int) = n
      · exact Ev.if_pos h (Ev.same (Ev.now _) (by simp [h]))
      · refine Ev.if_neg h (Ev.same (ih (i + 1) (by omega)) ?_)
        have h2 : ¬ n = rd l (i : Int) := fun e => h e.symm
        simp [h2]
theorem gHas_f (l : List Int) (n : Int) (hb : l.length ≤ 1048576) : Ev (fun k => laws_gHas.f k l n) (decide (n ∈ l)) :=
  Ev.congr (fun k => by unfold laws_gHas.f; rfl) (Ev.same (gHas_l l n hb l.length 0 (by omega)) (by simp))
theorem gRows_l (s : List (List Int)) (hb : s.length ≤ 1048576) (hr : ∀ x ∈ s, x.length ≤ 1048576) (d : Nat) : ∀ (i : Nat), i + d = s.length → Ev (fun k => laws_gRows.l0 k s s (s.length : Int) (i : Int)) true := by
  induction d with
  | zero =>
    intro i hi
    exact Ev.step (f := fun _ => some true) (fun k => by simp only [laws_gRows.l0]; rw [if_neg (by omega)]) (Ev.now _)
  | succ d ih =>
    intro i hi
    have ew : wrap64 ((i : Int) + 1) = ((i + 1 : Nat) : Int) := by rw [w64 (by omega) (by omega)]; omega
    refine Ev.step (fun k => by simp only [laws_gRows.l0]; rw [if_pos (show (i : Int) < (s.length : Int) by omega), if_pos (show 0 ≤ (i : Int) by omega), if_pos (show (i : Int) < (s.length : Int) by omega), if_pos (show (i : Int) < (s.length : Int) by omega), ew]) ?_
    have hm := hr _ (List.getElem_mem (show i < s.length by omega))
    rw [← rdL_at s i (by omega)] at hm
    exact Ev.bind (gSame_f _ hm) (Ev.if_pos rfl (ih (i + 1) (by omega)))
theorem gRows_f (s : List (List Int)) (hb : s.length ≤ 1048576) (hr : ∀ x ∈ s, x.length ≤ 1048576) : Ev (fun k => laws_gRows.f k s s) true :=
  Ev.congr (fun k => by unfold laws_gRows.f; rfl) (Ev.if_pos rfl (gRows_l s hb hr s.length 0 (by omega)))
theorem gPairs_l (s : List (List Int)) (hb : s.length ≤ 1048576) (h2 : ∀ x ∈ s, x.length = 2) (hp : s.Pairwise LexR) (d : Nat) : ∀ (i : Nat), i + d = s.length → Ev (fun k => laws_gPairs.l0 k s s (s.length : Int) (i : Int)) true := by
  induction d with
  | zero =>
    intro i hi
    exact Ev.step (f := fun _ => some true) (fun k => by simp only [laws_gPairs.l0]; rw [if_neg (by omega)]) (Ev.now _)
  | succ d ih =>
    intro i hi
    have h := ih (i + 1) (by omega)
    have ew : wrap64 ((i : Int) + 1) = ((i + 1 : Nat) : Int) := by rw [w64 (by omega) (by omega)]; omega
    have l1 := h2 _ (List.getElem_mem (show i < s.length by omega))
    rw [← rdL_at s i (by omega)] at l1
    refine Ev.step (fun k => by simp only [laws_gPairs.l0]; rw [if_pos (show (i : Int) < (s.length : Int) by omega), if_pos (show 0 ≤ (i : Int) by omega), if_pos (show (i : Int) < (s.length : Int) by omega), if_pos (show ((rd_L2 s (i : Int)).length : Int) = 2 by omega), ew]) ?_
    by_cases hz : (i : Int) > 0
    · have em : wrap64 ((i : Int) - 1) = ((i - 1 : Nat) : Int) := by rw [w64 (by omega) (by omega)]; omega
      have l0 := h2 _ (List.getElem_mem (show i - 1 < s.length by omega))
      have hq := pair_at hp (show 0 < i by omega) (show i < s.length by omega)
      rw [← rdL_at s i (by omega), ← rdL_at s (i - 1) (by omega)] at hq
      rw [← rdL_at s (i - 1) (by omega)] at l0
      rw [em]
      refine Ev.if_pos hz (Ev.if_pos (by omega) (Ev.if_pos (by omega) (Ev.if_pos (by omega) (Ev.if_pos (by omega) ?_))))
      rcases hq with hq | ⟨hq, hq2⟩
      · exact Ev.if_neg (by omega) (Ev.if_neg (by omega) h)
      · exact Ev.if_neg (by omega) (Ev.if_pos hq (Ev.if_pos (by omega) (Ev.if_pos (by omega) (Ev.if_neg (by omega) h))))
    · exact Ev.if_neg hz h
theorem gPairs_f (s : List (List Int)) (hb : s.length ≤ 1048576) (h2 : ∀ x ∈ s, x.length = 2) (hp : s.Pairwise LexR) : Ev (fun k => laws_gPairs.f k s) true :=
  Ev.congr (fun k => by unfold laws_gPairs.f; rfl) (gPairs_l s hb h2 hp s.length 0 (by omega))
theorem alOf_len (l : List Int) : (alOf l).1.length ≤ 64 ∧ ((alOf l).2 = true → ((alOf l).1.length : Int) = (prs l (orOf l).1 : Nat)) := by
  unfold alOf
  cases hg : goodB l with
  | false => simp
  | true =>
    rw [if_pos rfl]
    have hl := good_len hg
    have h := prA_length l l.length 0 []
    have hp := prs_perm l (sortN_perm l l.length)
    have hb := prs_le l (sortN l l.length) 8 (by rw [sortN_length]; omega)
    rw [sortN_length] at hb
    have e : (orOf l).1 = sortN l l.length := by unfold orOf; rw [if_pos hg]
    simp only [List.length_nil, Nat.zero_add] at h
    rw [e]
    exact ⟨by show (prA l l.length 0 []).length ≤ 64; omega, fun _ => by show ((prA l l.length 0 []).length : Int) = _; omega⟩
theorem pairOk_two {l r : List Int} (h : PairOk l r) : r.length = 2 := by
  obtain ⟨a, b, rfl, _⟩ := h; rfl
theorem implAL_f (l : List Int) : Ev (fun k => impl_AlikePairs.f k l) (alOf l) := by
  refine Ev.congr (fun k => by unfold impl_AlikePairs.f; rfl) (Ev.got (areAges_f l) ?_)
  unfold alOf
  cases hg : goodB l with
  | false => exact Ev.if_neg (show ¬ (false = true) by decide) (Ev.now _)
  | true =>
    have hl := good_len hg
    exact Ev.if_pos rfl (impl_AlikePairs_l0 hl.2 l.length 0 [] (Int.le_refl _) (by omega) ⟨by simp, by simp⟩)
theorem specAL_f (l : List Int) : Ev (fun k => spec_AlikePairs.f k l) (alOf l) := by
  refine Ev.congr (fun k => by unfold spec_AlikePairs.f; rfl) (Ev.bind (agGood_f l) ?_)
  unfold alOf
  cases hg : goodB l with
  | false => exact Ev.if_neg (show ¬ (false = true) by decide) (Ev.now _)
  | true =>
    have hl := good_len hg
    exact Ev.if_pos rfl (spec_AlikePairs_l0 hl.2 l.length 0 [] (Int.le_refl _) (by omega) ⟨by simp, by simp⟩)
theorem cmp_text {s : ByteArray} (h : (paF s).2 = true) : atOf (paF s).1 = (s, true) := by
  obtain ⟨hg, he⟩ := paF_back h
  unfold atOf
  rw [if_pos hg, he]
theorem cmp_last (s : ByteArray) : Ev (fun k => if (paF s).2 = true then ((impl_AgesText.f k (paF s).1).bind fun b => (if b.2 = true then (some (b.1.toList == s.toList)) else (none))) else (some true)) true := by
  cases h : (paF s).2 with
  | true =>
    have hi := implAT_f (paF s).1
    rw [cmp_text h] at hi
    exact Ev.if_pos rfl (Ev.bind hi (Ev.if_pos rfl (Ev.same (Ev.now _) (beq_self_eq_true _))))
  | false => exact Ev.if_neg (by simp) (Ev.now _)
theorem cmp_j12 (e : List Int) (g : Int) (s : ByteArray) : Ev (fun k => laws_FnAgesCompared.j12 k e (addOf e g).1 (addOf e g).2 s (paF s).1 (paF s).2) true := by
  have hz := cmp_last s
  refine Ev.step (fun k => by simp only [laws_FnAgesCompared.j12]; rfl) ?_
  cases h : (addOf e g).2 with
  | true =>
    obtain ⟨h1, h2⟩ := add_drop h
    have hd := implDA_f (e ++ [g]) (e.length : Int)
    rw [h2, ← h1] at hd
    have hl : e.length ≤ 1048576 := by
      have := addOf_length e g
      rw [h1] at this
      simp at this
      omega
    refine Ev.if_pos rfl (Ev.got hd (Ev.if_pos rfl (Ev.bind (gSame_f e hl) ?_)))
    exact Ev.step (fun k => by simp only [laws_FnAgesCompared.j13]; rfl) (Ev.if_neg (by simp) hz)
  | false => exact Ev.if_neg (by simp) hz
theorem cmp_j11 (d : List Int) (w : Int) (e : List Int) (g : Int) (s : ByteArray) : Ev (fun k => laws_FnAgesCompared.j11 k d w (asOf d w).1 (asOf d w).2 e (addOf e g).1 (addOf e g).2 s (paF s).1 (paF s).2) true := by
  have hz := cmp_j12 e g s
  refine Ev.step (fun k => by simp only [laws_FnAgesCompared.j11]; rfl) ?_
  cases h : (asOf d w).2 with
  | true =>
    obtain ⟨hw, hf, hs⟩ := as_spec h
    have hi := implAI_f d (asOf d w).1
    have ea : aiOf d (asOf d w).1 = (inY d (asOf d w).1, true) := by unfold aiOf; rw [if_pos hf]
    rw [ea] at hi
    obtain ⟨hg, w0, w1⟩ := who_good hw
    have hl := good_len hg
    have hn := inY_length d (asOf d w).1
    exact Ev.if_pos rfl (Ev.bind hi (Ev.if_pos rfl (Ev.if_pos w0 (Ev.if_pos (show w < ((inY d (asOf d w).1).length : Int) by omega) (Ev.bind (gSum_f (inY d (asOf d w).1) (by omega)) (Ev.if_pos hs.symm hz))))))
  | false => exact Ev.if_neg (by simp) hz
theorem cmp_j10 (c : List Int) (a b t : Int) (d : List Int) (w : Int) (e : List Int) (g : Int) (s : ByteArray) : Ev (fun k => laws_FnAgesCompared.j10 k c a b t (omOf c a b t).1 (omOf c a b t).2 d w (asOf d w).1 (asOf d w).2 e (addOf e g).1 (addOf e g).2 s (paF s).1 (paF s).2 false) true := by
  have hz := cmp_j11 d w e g s
  refine Ev.step (fun k => by simp only [laws_FnAgesCompared.j10]; rfl) (Ev.if_neg (by simp) ?_)
  cases h : (omOf c a b t).2 with
  | true =>
    obtain ⟨two, ht, hf, h1, h2⟩ := om_spec h
    have hi := implAI_f c (omOf c a b t).1
    generalize (omOf c a b t).1 = y at hi hf h1 h2 ⊢
    have ea : aiOf c y = (inY c y, true) := by unfold aiOf; rw [if_pos hf]
    rw [ea] at hi
    obtain ⟨hg, a0, b0, _⟩ := two_good two
    obtain ⟨_, y0, y1⟩ := fit_good hf
    have hn := inY_length c y
    have ra := rd_fit hg y0 y1 a0.1 a0.2
    have rb := rd_fit hg y0 y1 b0.1 b0.2
    have ia := inY_rd (l := c) (y := y) a0.1 a0.2
    have ib := inY_rd (l := c) (y := y) b0.1 b0.2
    rw [ra.2.2] at ia
    rw [rb.2.2] at ib
    refine Ev.if_pos rfl (Ev.bind hi (Ev.if_pos rfl (Ev.if_pos b0.1 (Ev.if_pos (show b < ((inY c y).length : Int) by omega) (Ev.if_neg (show ¬ rd (inY c y) b < 1 by omega) (Ev.if_pos a0.1 (Ev.if_pos (show a < ((inY c y).length : Int) by omega) (Ev.if_pos ?_ hz))))))))
    show rd (inY c y) a = wrap64 (t * rd (inY c y) b)
    rw [ia, ib, ← h2]
    exact (w64 (by omega) (by omega)).symm
  | false => exact Ev.if_neg (by simp) hz
theorem cmp_j9 {l1 : List Int} (hs : Byt l1) : Ev (fun k => laws_FnAgesCompared.j9 k l1) true := by
  obtain ⟨c, a, b, t, d1, _⟩ := drawOM hs
  obtain ⟨d, w, d2, _⟩ := drawAS hs
  obtain ⟨e, g, d3, _⟩ := drawAdd hs
  obtain ⟨s, d4⟩ := drawPA hs
  have hz := cmp_j10 c a b t d w e g s
  have h1 := drOf_length d w
  have h2 := addOf_length e g
  have h3 := paF_length s
  refine Ev.step (fun k => by simp only [laws_FnAgesCompared.j9]; rfl) ?_
  refine Ev.bind d1 (Ev.bind (implOM_f c a b t) (Ev.bind (specOM_f c a b t) (Ev.bind d2 (Ev.bind (implAS_f d w) (Ev.bind (specAS_f d w) (Ev.got (implDA_f d w) (Ev.bind (specDA_f d w) (Ev.bind d3 (Ev.got (implAdd_f e g) (Ev.bind (specAdd_f e g) (Ev.bind d4 (Ev.bind (implPA_f s) (Ev.bind (specPA_f s) ?_)))))))))))))
  exact Ev.if_neg (by simp) (Ev.if_pos rfl (Ev.if_neg (by simp) (Ev.if_pos rfl (Ev.if_neg (by simp) (Ev.bind (gSame_f _ (by omega)) (Ev.if_pos rfl (Ev.if_neg (by simp) (Ev.bind (gSame_f _ (by omega)) (Ev.if_pos rfl (Ev.if_neg (by simp) (Ev.bind (gSame_f _ (by omega)) hz)))))))))))
theorem cmp_l3 {l1 : List Int} (hs : Byt l1) (l : List Int) (hl : l.length ≤ 8) (al : List (List Int)) (hb : al.length ≤ 64) (hp : ∀ r ∈ al, PairOk l r) (n : Int) (hn : n = (al.length : Int)) (d : Nat) : ∀ (i : Nat), i + d = al.length → Ev (fun k => laws_FnAgesCompared.l3 k l1 l al n al (al.length : Int) (i : Int)) true := by
  induction d with
  | zero =>
    intro i hi
    exact Ev.step (fun k => by simp only [laws_FnAgesCompared.l3]; rw [if_neg (by omega), if_pos hn]) (cmp_j9 hs)
  | succ d ih =>
    intro i hi
    have h := ih (i + 1) (by omega)
    have ew : wrap64 ((i : Int) + 1) = ((i + 1 : Nat) : Int) := by rw [w64 (by omega) (by omega)]; omega
    obtain ⟨a, b, hr, a0, a1, b1, e⟩ := hp _ (List.getElem_mem (show i < al.length by omega))
    rw [← rdL_at al i (by omega)] at hr
    refine Ev.step (fun k => by simp only [laws_FnAgesCompared.l3]; rw [if_pos (show (i : Int) < (al.length : Int) by omega), if_pos (show 0 ≤ (i : Int) by omega), if_pos (show (i : Int) < (al.length : Int) by omega), hr, ew]) ?_
    refine Ev.if_pos (show (0 : Int) < (([a, b] : List Int).length : Int) by simp) (Ev.if_neg (show ¬ a < 0 by omega) (Ev.if_pos (show (1 : Int) < (([a, b] : List Int).length : Int) by simp) (Ev.if_neg (show ¬ a ≥ b by omega) (Ev.if_neg (show ¬ b ≥ (l.length : Int) by omega) (Ev.if_pos (show 0 ≤ a by omega) (Ev.if_pos (show a < (l.length : Int) by omega) (Ev.if_pos (show 0 ≤ b by omega) (Ev.if_pos (show b < (l.length : Int) by omega) (Ev.if_pos (show rd l a = rd l b from e) h)))))))))
theorem cmp_l2 (l1 l od ga : List Int) (al : List (List Int)) (w : Int) (len i : Int) (p : List Int) (hl : l.length ≤ 8) (hb : p.length ≤ 8) (hp : ∀ x ∈ p, 0 ≤ x ∧ x < (l.length : Int)) (hw : 0 ≤ w ∧ w < (l.length : Int)) (d : Nat) : ∀ (j c : Nat), j + d = p.length → c + d ≤ 1000 →
    Ev (fun k => laws_FnAgesCompared.l1 k l1 l od ga al ((c + cntE l w (p.drop j) : Nat) : Int) od len (wrap64 (i + 1))) true → Ev (fun k => laws_FnAgesCompared.l2 k l1 l od ga al (c : Int) w od len i p (p.length : Int) (j : Int)) true := by
  induction d with
  | zero =>
    intro j c hj hc h
    rw [List.drop_of_length_le (by omega), cntE, Nat.add_zero] at h
    exact Ev.step (fun k => by simp only [laws_FnAgesCompared.l2]; rw [if_neg (by omega)]) h
  | succ d ih =>
    intro j c hj hc h
    have ew : wrap64 ((j : Int) + 1) = ((j + 1 : Nat) : Int) := by rw [w64 (by omega) (by omega)]; omega
    have ec : wrap64 ((c : Int) + 1) = ((c + 1 : Nat) : Int) := by rw [w64 (by omega) (by omega)]; omega
    have hm := hp _ (rd_mem (l := p) (i := (j : Int)) (by omega) (by omega))
    rw [drop_rd p j (by omega)] at h
    refine Ev.step (fun k => by simp only [laws_FnAgesCompared.l2]; rw [if_pos (show (j : Int) < (p.length : Int) by omega), if_pos (show 0 ≤ (j : Int) by omega), if_pos (show (j : Int) < (p.length : Int) by omega), if_pos hm.1, if_pos hm.2, if_pos hw.1, if_pos hw.2, ew, ec]) ?_
    by_cases e : rd l (rd p (j : Int)) = rd l w
    · refine Ev.if_pos e (ih (j + 1) (c + 1) (by omega) (by omega) ?_)
      rw [cntE, if_pos e, ← Nat.add_assoc] at h
      exact h
    · refine Ev.if_neg e (ih (j + 1) c (by omega) (by omega) ?_)
      rw [cntE, if_neg e, Nat.zero_add] at h
      exact h
theorem cmp_l1 {l1 : List Int} (hs : Byt l1) {l : List Int} (hg : goodB l = true) (d : Nat) : ∀ (i : Nat), i + d = l.length → Ev (fun k => laws_FnAgesCompared.l1 k l1 l (sortN l l.length) (gpL l (sortN l l.length) (l.length - 1) 1) (alOf l).1 ((prs l ((sortN l l.length).take i) : Nat) : Int) (sortN l l.length) ((sortN l l.length).length : Int) (i : Int)) true := by
  have hl := good_len hg
  have ho := sortN_length l l.length
  have hm := sortN_mem l l.length
  have hsr := sortN_srt l l.length
  have hti := sortN_tie l l.length
  have hnd := sortN_nodup l l.length
  have hgl := gpL_length l (sortN l l.length) (l.length - 1) 1
  have hga := gpL_at l (sortN l l.length) (l.length - 1) 1
  obtain ⟨ha1, ha2⟩ := alOf_len l
  have ha2 := ha2 (by unfold alOf; rw [if_pos hg])
  rw [show (orOf l).1 = sortN l l.length by unfold orOf; rw [if_pos hg]] at ha2
  have hpo := (alOf_ok l).1
  have hpb : ∀ q : List Int, q.length ≤ 8 → prs l q ≤ 64 := fun q hq => by have := prs_le l q 8 hq; omega
  generalize sortN l l.length = od at ho hm hsr hti hnd hgl hga ha2
  generalize gpL l od (l.length - 1) 1 = ga at hgl hga
  induction d with
  | zero =>
    intro i hi
    rw [List.take_of_length_le (by omega)]
    exact Ev.step (fun k => by simp only [laws_FnAgesCompared.l1]; rw [if_neg (by omega)]; rfl) (cmp_l3 hs l hl.2 (alOf l).1 ha1 hpo _ ha2.symm (alOf l).1.length 0 (by omega))
  | succ d ih =>
    intro i hi
    have h := ih (i + 1) (by omega)
    have hio : i < od.length := by omega
    have ew : wrap64 ((i : Int) + 1) = ((i + 1 : Nat) : Int) := by rw [w64 (by omega) (by omega)]; omega
    have hw := hm _ (rd_mem (l := od) (i := (i : Int)) (by omega) (by omega))
    have er := rd_at od i hio
    have hno : rd od (i : Int) ∉ od.take i := by
      rw [er]
      intro hx
      have h3 : (od.take i ++ od.drop i).Nodup := by rw [List.take_append_drop]; exact hnd
      rw [List.drop_eq_getElem_cons hio] at h3
      exact (List.pairwise_append.mp h3).2.2 od[i] hx od[i] (List.mem_cons.mpr (.inl rfl)) rfl
    have htl : (od.take i).length = i := by rw [List.length_take]; omega
    have hh := gHas_f (od.take i) (rd od (i : Int)) (by omega)
    rw [decide_eq_false hno] at hh
    have hcnt : prs l (od.take (i + 1)) = prs l (od.take i) + cntE l (rd od (i : Int)) (od.take i) := by
      rw [List.take_succ_eq_append_getElem hio, prs_snoc, er]
    have hj6 : Ev (fun k => laws_FnAgesCompared.j6 k l1 l od ga (alOf l).1 ((prs l (od.take i) : Nat) : Int) (i : Int) (rd od (i : Int)) od (od.length : Int) (i : Int) false) true := by
      refine Ev.step (fun k => by simp only [laws_FnAgesCompared.j6]; rfl) (Ev.if_neg (by simp) (Ev.if_pos (by omega) (Ev.if_pos (by omega) (Ev.got rfl ?_))))
      rw [Int.toNat_natCast]
      refine cmp_l2 l1 l od ga (alOf l).1 (rd od (i : Int)) (od.length : Int) (i : Int) (od.take i) hl.2 (by omega) (fun x hx => hm x (List.mem_of_mem_take hx)) hw (od.take i).length 0 (prs l (od.take i)) (by omega) (by have := hpb (od.take i) (by omega); omega) ?_
      rw [List.drop_zero, ← hcnt, ew]
      exact h
    refine Ev.step (fun k => by simp only [laws_FnAgesCompared.l1]; rw [if_pos (show (i : Int) < (od.length : Int) by omega), if_pos (show 0 ≤ (i : Int) by omega), if_pos (show (i : Int) < (od.length : Int) by omega), if_neg (show ¬ rd od (i : Int) < 0 by omega), if_neg (show ¬ rd od (i : Int) ≥ (l.length : Int) by omega), if_pos (show (i : Int) ≤ (od.length : Int) by omega), Int.toNat_natCast]) ?_
    refine Ev.bind hh (Ev.if_neg (by simp) ?_)
    by_cases hz : (i : Int) > 0
    · have em : wrap64 ((i : Int) - 1) = ((i - 1 : Nat) : Int) := by rw [w64 (by omega) (by omega)]; omega
      have hv := hm _ (rd_mem (l := od) (i := ((i - 1 : Nat) : Int)) (by omega) (by omega))
      have ev := rd_at od (i - 1) (by omega)
      have hq1 := pair_at hsr (show 0 < i by omega) hio
      have hq2 := pair_at hti (show 0 < i by omega) hio
      rw [← er, ← ev] at hq1 hq2
      have hq3 := hga (i - 1) (by omega)
      rw [show 1 + (i - 1) = i by omega, show (i : Int) - 1 = ((i - 1 : Nat) : Int) by omega] at hq3
      have g1 := good_mem hg (rd_mem hw.1 hw.2)
      have g2 := good_mem hg (rd_mem hv.1 hv.2)
      have hq4 : rd ga ((i - 1 : Nat) : Int) = rd l (rd od ((i - 1 : Nat) : Int)) - rd l (rd od (i : Int)) := by rw [hq3]; exact w64 (by omega) (by omega)
      rw [em]
      refine Ev.if_pos hz (Ev.if_pos (by omega) (Ev.if_pos (by omega) (Ev.if_pos (by omega) (Ev.if_pos hv.1 (Ev.if_pos hv.2 (Ev.if_pos hw.1 (Ev.if_pos hw.2 (Ev.if_pos hq3 (Ev.if_neg (by omega) ?_)))))))))
      by_cases hq5 : rd ga ((i - 1 : Nat) : Int) = 0
      · have hlt := hq2 (by omega)
        rw [decide_eq_false (show ¬ rd od ((i - 1 : Nat) : Int) > rd od (i : Int) by omega)]
        exact Ev.if_pos hq5 hj6
      · exact Ev.if_neg hq5 hj6
    · exact Ev.if_neg hz hj6
theorem cmp_j3 {l1 : List Int} (hs : Byt l1) (l : List Int) : Ev (fun k => laws_FnAgesCompared.j3 k l1 l (orOf l).1 (orOf l).2 (gaOf l).1 (alOf l).1 (atOf l).1 (meanOf l).1 (meanOf l).2.1 false) true := by
  refine Ev.step (fun k => by simp only [laws_FnAgesCompared.j3]; rfl) (Ev.if_neg (by simp) ?_)
  have h9 := cmp_j9 hs
  cases hg : goodB l with
  | true =>
    have hl := good_len hg
    have e1 : orOf l = (sortN l l.length, true) := by unfold orOf; rw [if_pos hg]
    have e2 : gaOf l = (gpL l (sortN l l.length) (l.length - 1) 1, true) := by unfold gaOf; rw [if_pos hg]
    have e3 : atOf l = (bl (ageText l), true) := by unfold atOf; rw [if_pos hg]
    have e4 : meanOf l = ((lowOf (sumW l 0) (l.length : Int)).1, (lowOf (sumW l 0) (l.length : Int)).2, true) := by unfold meanOf; rw [if_pos hg]
    have hp := implPA_f (bl (ageText l))
    rw [paF_text hg] at hp
    have ho := sortN_length l l.length
    have hgl := gpL_length l (sortN l l.length) (l.length - 1) 1
    obtain ⟨ha1, _⟩ := alOf_len l
    have hok := alOf_ok l
    have hpr := gPairs_f (alOf l).1 (by omega) (fun x hx => pairOk_two (hok.1 x hx)) hok.2
    have hs2 := good_sum hg
    rw [← hs2.1] at hs2
    obtain ⟨x0, x1, y0, y1, hxy, hlow⟩ := low_spec (a := sumW l 0) (b := (l.length : Int)) hs2.2.1 (by omega) (by omega) (by omega)
    have ew : wrap64 ((l.length : Int) - 1) = (l.length : Int) - 1 := w64 (by omega) (by omega)
    have h1 := cmp_l1 hs hg l.length 0 (by omega)
    rw [e1, e2, e3, e4]
    refine Ev.if_pos rfl (Ev.bind hp (Ev.if_pos (by show ((sortN l l.length).length : Int) = _; omega) (Ev.if_pos (by show ((gpL l (sortN l l.length) (l.length - 1) 1).length : Int) = _; omega) (Ev.bind hpr (Ev.if_pos rfl (Ev.bind hlow (Ev.if_pos rfl (Ev.bind (gSum_f l (by omega)) (Ev.if_pos (by rw [hxy]) (Ev.if_pos rfl (Ev.bind (gSame_f l (by omega)) ?_)))))))))))
    exact Ev.step (fun k => by simp only [laws_FnAgesCompared.j4]; rfl) (Ev.if_neg (by simp) h1)
  | false =>
    have e1 : orOf l = ([], false) := by unfold orOf; rw [if_neg (by rw [hg]; simp)]
    rw [e1]
    exact Ev.if_neg (by simp) h9
theorem cmp_j2 {l1 : List Int} (hs : Byt l1) (l : List Int) (a b : Int) : Ev (fun k => laws_FnAgesCompared.j2 k l1 l a b (toOf l a b).1 (toOf l a b).2.1 (toOf l a b).2.2 (orOf l).1 (orOf l).2 (gaOf l).1 (alOf l).1 (atOf l).1 (meanOf l).1 (meanOf l).2.1) true := by
  refine Ev.step (fun k => by simp only [laws_FnAgesCompared.j2]; rfl) ?_
  have h3 := cmp_j3 hs l
  by_cases ok : toOk l a b
  · have e : toOf l a b = ((lowOf (rd l a) (rd l b)).1, (lowOf (rd l a) (rd l b)).2, true) := by unfold toOf; rw [if_pos ok]
    obtain ⟨hg, a0, a1⟩ := who_good ok.1
    obtain ⟨_, b0, b1⟩ := who_good ok.2.1
    have ga := good_mem hg (rd_mem a0 a1)
    have gb := good_mem hg (rd_mem b0 b1)
    have hne := ok.2.2
    obtain ⟨x0, x1, y0, y1, hxy, hlow⟩ := low_spec (a := rd l a) (b := rd l b) ga.1 (by omega) (by omega) (by omega)
    rw [e]
    refine Ev.if_pos rfl (Ev.bind hlow (Ev.if_pos rfl (Ev.if_pos b0 (Ev.if_pos b1 (Ev.if_pos a0 (Ev.if_pos a1 ?_))))))
    rw [hxy, show (wrap64 (rd l a * (lowOf (rd l a) (rd l b)).2) != wrap64 (rd l a * (lowOf (rd l a) (rd l b)).2)) = false from bne_self_eq_false _]
    exact h3
  · have e : toOf l a b = (0, 0, false) := by unfold toOf; rw [if_neg ok]
    rw [e]
    exact Ev.if_neg (by simp) h3
theorem cmp_l0 {l1 : List Int} (hs : Byt l1) {l : List Int} {a b : Int} (two : twoB l a b = true) (d : Nat) : ∀ (i : Nat), i + d = (mulOf l a b).length → Ev (fun k => laws_FnAgesCompared.l0 k l1 l a b (mulOf l a b) (toOf l a b).1 (toOf l a b).2.1 (toOf l a b).2.2 (orOf l).1 (orOf l).2 (gaOf l).1 (alOf l).1 (atOf l).1 (meanOf l).1 (meanOf l).2.1 (mulOf l a b) ((mulOf l a b).length : Int) (i : Int)) true := by
  obtain ⟨hg, a0, b0, _⟩ := two_good two
  have hr := fun r hr => mul_row two (r := r) hr
  have hp : (mulOf l a b).Pairwise (fun r s => rd r 0 < rd s 0) := collR_rises _ l a b (nY l) (loY l)
  have hlen : (mulOf l a b).length ≤ 300 := by
    have h := (amOf_twos l a b).1
    unfold amOf at h
    rwa [if_pos two] at h
  have hno := fun h => mul_none (l := l) (a := a) (b := b) two h
  have h2 := cmp_j2 hs l a b
  generalize mulOf l a b = m at hr hp hlen hno
  induction d with
  | zero =>
    intro i hi
    refine Ev.step (fun k => by simp only [laws_FnAgesCompared.l0]; rw [if_neg (show ¬ (i : Int) < (m.length : Int) by omega)]) (Ev.if_pos a0.1 (Ev.if_pos a0.2 (Ev.if_pos b0.1 (Ev.if_pos b0.2 ?_))))
    by_cases hc : rd l a ≤ rd l b
    · exact Ev.if_pos hc (Ev.if_pos (by rw [hno hc]; rfl) h2)
    · exact Ev.if_neg hc h2
  | succ d ih =>
    intro i hi
    have h := ih (i + 1) (by omega)
    have ew : wrap64 ((i : Int) + 1) = ((i + 1 : Nat) : Int) := by rw [w64 (by omega) (by omega)]; omega
    have el := rdL_at m i (by omega)
    obtain ⟨y, t, e, ht, hf, ho, h1, h3⟩ := hr _ (List.getElem_mem (show i < m.length by omega))
    rw [← el] at e
    have hi1 := implAI_f l y
    have ea : aiOf l y = (inY l y, true) := by unfold aiOf; rw [if_pos hf]
    rw [ea] at hi1
    have hi2 := implOM_f l a b t
    rw [ho] at hi2
    obtain ⟨_, y0, y1⟩ := fit_good hf
    have hn := inY_length l y
    have ra := rd_fit hg y0 y1 a0.1 a0.2
    have rb := rd_fit hg y0 y1 b0.1 b0.2
    have ia := inY_rd (l := l) (y := y) a0.1 a0.2
    have ib := inY_rd (l := l) (y := y) b0.1 b0.2
    rw [ra.2.2] at ia
    rw [rb.2.2] at ib
    have key : rd (inY l y) a = wrap64 (t * rd (inY l y) b) := by
      rw [ia, ib, ← h3]
      exact (w64 (by omega) (by omega)).symm
    refine Ev.step (fun k => by simp only [laws_FnAgesCompared.l0]; rw [if_pos (show (i : Int) < (m.length : Int) by omega), if_pos (show 0 ≤ (i : Int) by omega), if_pos (show (i : Int) < (m.length : Int) by omega), e, if_pos (show (([y, t] : List Int).length : Int) = 2 from rfl), ew]) ?_
    by_cases hz : (i : Int) > 0
    · have em : wrap64 ((i : Int) - 1) = ((i - 1 : Nat) : Int) := by rw [w64 (by omega) (by omega)]; omega
      have el2 := rdL_at m (i - 1) (by omega)
      obtain ⟨y', t', e', _⟩ := hr _ (List.getElem_mem (show i - 1 < m.length by omega))
      rw [← el2] at e'
      have hq := pair_at hp (show 0 < i by omega) (show i < m.length by omega)
      rw [← el, ← el2, e, e'] at hq
      have hq : y' < y := hq
      rw [em, e']
      exact Ev.if_pos hz (Ev.if_pos (by omega) (Ev.if_pos (by omega) (Ev.if_pos (show (0 : Int) < (([y', t'] : List Int).length : Int) by simp) (Ev.if_pos (show (0 : Int) < (([y, t] : List Int).length : Int) by simp) (Ev.if_neg (show ¬ y' ≥ y by omega) (Ev.if_pos (show (1 : Int) < (([y, t] : List Int).length : Int) by simp) (Ev.if_neg (show ¬ t < 2 by omega) (Ev.bind hi1 (Ev.bind hi2 (Ev.if_pos rfl (Ev.if_pos b0.1 (Ev.if_pos (show b < ((inY l y).length : Int) by omega) (Ev.if_neg (show ¬ rd (inY l y) b < 1 by omega) (Ev.if_pos a0.1 (Ev.if_pos (show a < ((inY l y).length : Int) by omega) (Ev.if_pos key (Ev.if_pos rfl (Ev.if_pos rfl h))))))))))))))))))
    · exact Ev.if_neg hz (Ev.if_pos (show (1 : Int) < (([y, t] : List Int).length : Int) by simp) (Ev.if_neg (show ¬ t < 2 by omega) (Ev.if_pos (show (0 : Int) < (([y, t] : List Int).length : Int) by simp) (Ev.bind hi1 (Ev.bind hi2 (Ev.if_pos rfl (Ev.if_pos b0.1 (Ev.if_pos (show b < ((inY l y).length : Int) by omega) (Ev.if_neg (show ¬ rd (inY l y) b < 1 by omega) (Ev.if_pos a0.1 (Ev.if_pos (show a < ((inY l y).length : Int) by omega) (Ev.if_pos key (Ev.if_pos rfl (Ev.if_pos rfl h))))))))))))))
theorem cmp_j0 {l1 : List Int} (hs : Byt l1) (l : List Int) (a b : Int) : Ev (fun k => laws_FnAgesCompared.j0 k l1 l a b (amOf l a b).1 (amOf l a b).2 (toOf l a b).1 (toOf l a b).2.1 (toOf l a b).2.2 (orOf l).1 (orOf l).2 (gaOf l).1 (alOf l).1 (atOf l).1 (meanOf l).1 (meanOf l).2.1 false) true := by
  refine Ev.step (fun k => by simp only [laws_FnAgesCompared.j0]; rfl) (Ev.if_neg (by simp) ?_)
  cases two : twoB l a b with
  | true =>
    have e : amOf l a b = (mulOf l a b, true) := by unfold amOf; rw [if_pos two]
    have h := cmp_l0 hs two (mulOf l a b).length 0 (by omega)
    rw [e]
    exact Ev.if_pos rfl h
  | false =>
    have e : amOf l a b = ([], false) := by unfold amOf; rw [if_neg (by rw [two]; simp)]
    have h := cmp_j2 hs l a b
    rw [e]
    exact Ev.if_neg (by simp) h
theorem FnAgesCompared : laws_FnAgesCompared.Pure := by
  intro l0 l1 h1 h2 h3 h4 h5 h6
  apply Ev.rounds
  obtain ⟨b, hb⟩ := big_f l0 l1 (by omega) (by omega)
  refine Ev.congr (fun k => by unfold laws_FnAgesCompared.f; rfl) (Ev.got hb ?_)
  cases b with
  | true => exact Ev.if_pos rfl (Ev.now _)
  | false =>
    have hs0 := byt_of h3
    have hs1 := byt_of h6
    obtain ⟨l, a, b, hd, hl⟩ := drawAllM hs0
    have h0 := cmp_j0 hs1 l a b
    have q1 := amOf_twos l a b
    have q2 := orOf_length l
    have q3 := gaOf_length l
    have q4 := (alOf_len l).1
    have q5 := (alOf_ok l).1
    have ga : (gaOf l).2 = (orOf l).2 := by unfold gaOf orOf; split <;> rfl
    have al : (alOf l).2 = (orOf l).2 := by unfold alOf orOf; split <;> rfl
    have at' : (atOf l).2 = (orOf l).2 := by unfold atOf orOf; split <;> rfl
    have me : (meanOf l).2.2 = (orOf l).2 := by unfold meanOf orOf; split <;> rfl
    refine Ev.if_neg (by simp) (Ev.bind hd (Ev.bind (implAM_f l a b) (Ev.bind (specAM_f l a b) (Ev.bind (implTO_f l a b) (Ev.bind (specTO_f l a b) (Ev.got (implOr_f l) (Ev.bind (specOr_f l) (Ev.bind (implGA_f l) (Ev.bind (specGA_f l) (Ev.bind (implAL_f l) (Ev.bind (specAL_f l) (Ev.bind (implAT_f l) (Ev.bind (specAT_f l) (Ev.bind (implMean_f l) (Ev.bind (specMean_f l) ?_)))))))))))))))
    refine Ev.if_neg (by simp) (Ev.bind (gRows_f _ (by have := q1.1; omega) (fun x hx => by have := q1.2 x hx; omega)) (Ev.if_pos rfl (Ev.if_neg (by simp) (Ev.if_pos rfl (Ev.if_pos rfl (Ev.if_neg (by simp) (Ev.bind (gSame_f _ (by omega)) (Ev.if_pos rfl (Ev.if_neg (by simp) (Ev.bind (gSame_f _ (by omega)) (Ev.if_pos rfl (Ev.if_neg (by simp) (Ev.bind (gRows_f _ (by omega) (fun x hx => by have := pairOk_two (q5 x hx); omega)) (Ev.if_pos rfl (Ev.if_neg (by simp) (Ev.if_pos rfl (Ev.if_neg (by simp) (Ev.if_pos rfl (Ev.if_pos rfl ?_)))))))))))))))))))
    refine Ev.if_neg (by rw [ga]; simp) (Ev.if_neg (by rw [al]; simp) (Ev.if_neg (by rw [at']; simp) (Ev.if_neg (by rw [me]; simp) ?_)))
    have t1 : (amOf l a b).2 = true → (orOf l).2 = true := fun h => by
      cases two : twoB l a b with
      | true => unfold orOf; rw [if_pos (two_good two).1]
      | false => unfold amOf at h; rw [if_neg (by rw [two]; simp)] at h; simp at h
    have t2 : (toOf l a b).2.2 = true → (orOf l).2 = true := fun h => by
      by_cases ok : toOk l a b
      · unfold orOf; rw [if_pos (who_good ok.1).1]
      · unfold toOf at h; rw [if_neg ok] at h; simp at h
    cases hm : (amOf l a b).2 with
    | true =>
      have ho := t1 hm
      rw [hm, ho] at h0
      refine Ev.if_pos rfl (Ev.if_pos ho ?_)
      rw [ho]
      cases ht : (toOf l a b).2.2 with
      | true => rw [ht] at h0; exact Ev.if_pos rfl h0
      | false => rw [ht] at h0; exact Ev.if_neg (by simp) h0
    | false =>
      rw [hm] at h0
      refine Ev.if_neg (by simp) ?_
      cases ht : (toOf l a b).2.2 with
      | true =>
        have ho := t2 ht
        rw [ht, ho] at h0
        rw [ho]
        exact Ev.if_pos rfl h0
      | false => rw [ht] at h0; exact Ev.if_neg (by simp) h0

end Go.Proofs.YtcfgkpifloghlaaGreatDoor.Pure
