import Derived.Test.YtbdgeknaddaekaaDoorLAges
import Derived.Test.YtbdgeknaddaekaaDoorLAgestext
import Derived.Test.YtbdgeknaddaekaaDoorLBase
import Derived.Test.YtbdgeknaddaekaaDoorLIn
import Derived.Test.YtbdgeknaddaekaaDoorP3
import Derived.Test.YtbdgeknaddaekaaDoorP4
namespace Go.Proofs.YtbdgeknaddaekaaDoor.P
open Go.RowKit Go.Proofs.YtbdgeknaddaekaaDoorW.PrintWords Go.Proofs.YtbdgeknaddaekaaDoorW.PrintLast Go.Proofs.YtbdgeknaddaekaaDoorW.PrintMore
set_option linter.unusedVariables false
set_option linter.unusedSimpArgs false

/-! ### ages out of a text -/
def pre (p : List UInt8) : List (List UInt8) → List (List UInt8)
  | [] => [p]
  | w :: ws => (p ++ w) :: ws
/-- The pieces between the dashes. -/
def spl : List UInt8 → List (List UInt8)
  | [] => [[]]
  | b :: r => if b = 45 then [] :: spl r else pre [b] (spl r)
theorem pre_ne (p : List UInt8) (x : List (List UInt8)) : pre p x ≠ [] := by cases x <;> simp [pre]
theorem spl_ne (l : List UInt8) : spl l ≠ [] := by
  cases l with
  | nil => simp [spl]
  | cons b r =>
    unfold spl
    by_cases h : b = 45
    · rw [if_pos h]; simp
    · rw [if_neg h]; exact pre_ne _ _
theorem pre_pre (p q : List UInt8) (x : List (List UInt8)) (hx : x ≠ []) : pre p (pre q x) = pre (p ++ q) x := by
  cases x with
  | nil => exact absurd rfl hx
  | cons w ws => simp [pre]
theorem pre_nil (x : List (List UInt8)) (hx : x ≠ []) : pre [] x = x := by
  cases x with
  | nil => exact absurd rfl hx
  | cons w ws => simp [pre]
theorem spl_len (l : List UInt8) : ((spl l).map (fun w => w.length + 1)).sum = l.length + 1 := by
  induction l with
  | nil => rfl
  | cons b r ih =>
    unfold spl
    by_cases h : b = 45
    · rw [if_pos h]
      simp only [List.map_cons, List.sum_cons, List.length_nil, List.length_cons, ih]
      omega
    · rw [if_neg h]
      cases hx : spl r with
      | nil => exact absurd hx (spl_ne r)
      | cons w ws =>
        rw [hx] at ih
        simp only [pre, List.map_cons, List.sum_cons, List.length_append, List.length_cons, List.length_nil] at ih ⊢
        omega
theorem sum_ge (ws : List (List UInt8)) : ws.length ≤ (ws.map (fun w => w.length + 1)).sum := by
  induction ws with
  | nil => simp
  | cons w ws ih => simp only [List.length_cons, List.map_cons, List.sum_cons]; omega
theorem spl_count (l : List UInt8) : (spl l).length ≤ l.length + 1 := by
  have := sum_ge (spl l)
  rw [spl_len] at this
  exact this
theorem one_pref (b : UInt8) (r : List UInt8) : [45].isPrefixOf (b :: r) = (b == 45) := by
  show ((45 : UInt8) == b && _) = _
  rw [List.isPrefixOf_nil_left, Bool.and_true, Bool.eq_iff_iff]
  constructor <;> (intro h; rw [beq_iff_eq] at h ⊢; exact h.symm)
theorem spl_miss (l : List UInt8) : Lib.index l [45] = -1 → spl l = [l] := by
  induction l with
  | nil => intro _; rfl
  | cons b r ih =>
    intro h
    unfold Lib.index at h
    rw [one_pref] at h
    by_cases hb : b = 45
    · rw [if_pos (by simp [hb])] at h; cases h
    · rw [if_neg (by simp [hb])] at h
      have hge := Lib.index_ge r [45]
      by_cases hr : Lib.index r [45] = -1
      · unfold spl
        rw [if_neg hb, ih hr]
        rfl
      · rw [if_neg (by simpa using hr)] at h
        omega
theorem spl_hit (l : List UInt8) : ∀ i : Nat, Lib.index l [45] = (i : Int) → spl l = l.take i :: spl (l.drop (i + 1)) := by
  induction l with
  | nil => intro i h; simp [Lib.index] at h
  | cons b r ih =>
    intro i h
    unfold Lib.index at h
    rw [one_pref] at h
    by_cases hb : b = 45
    · rw [if_pos (by simp [hb])] at h
      obtain rfl : i = 0 := by omega
      show (if b = 45 then [] :: spl r else pre [b] (spl r)) = [] :: spl r
      rw [if_pos hb]
    · rw [if_neg (by simp [hb])] at h
      by_cases hr : Lib.index r [45] = -1
      · rw [if_pos (by simpa using hr)] at h; omega
      · rw [if_neg (by simpa using hr)] at h
        have hge := Lib.index_ge r [45]
        obtain ⟨j, hj⟩ : ∃ j : Nat, Lib.index r [45] = (j : Int) := ⟨(Lib.index r [45]).toNat, by omega⟩
        obtain rfl : i = j + 1 := by omega
        have hi := ih j hj
        rw [spl, if_neg hb, hi]
        simp [pre]
theorem bl_of (s : ByteArray) : bl s.data.toList = s := by
  apply ByteArray.ext
  simp [bl]
theorem bl_extract (s : ByteArray) (a b : Nat) : s.extract a b = bl ((s.data.toList.take b).drop a) := by
  rw [← bl_of (s.extract a b)]
  congr 1
  rw [ByteArray.data_extract, Array.toList_extract, List.extract_eq_take_drop, List.drop_take]
theorem splitB_spl (n : Nat) : ∀ s : ByteArray, s.size ≤ n → Lib.splitB (bl [45]) 0 (Lib.countB s (bl [45])) s = (spl s.data.toList).map bl := by
  induction n with
  | zero =>
    intro s hs
    have h0 : s.data.toList = [] := by
      have := Lib.size_eq s
      exact List.length_eq_zero_iff.mp (by omega)
    have hm : Lib.indexB s (bl [45]) = -1 := by show Lib.index s.data.toList _ = -1; rw [h0]; rfl
    rw [Lib.countB_miss s _ hm, Lib.splitB_zero, h0]
    show [s] = [bl []]
    rw [← h0, bl_of]
  | succ n ih =>
    intro s hs
    have hb1 : (bl [45]).size = 1 := rfl
    rcases Lib.indexB_cases s (bl [45]) with h | ⟨i, h, hi⟩
    · rw [Lib.countB_miss s _ h, Lib.splitB_zero, spl_miss s.data.toList h]
      simp [bl_of]
    · rw [hb1] at hi
      rw [Lib.countB_hit s _ i (by rw [hb1]; omega) h, Nat.add_comm 1, Lib.splitB_hit _ 0 _ s i h, hb1, spl_hit s.data.toList i h, List.map_cons]
      have hr := ih (s.extract (i + 1) s.size) (by rw [bl_extract, bl_size, List.length_drop, List.length_take]; omega)
      rw [hr, bl_extract s 0, bl_extract s (i + 1), bl_list]
      have e : s.data.toList.take s.size = s.data.toList := List.take_of_length_le (by rw [Lib.size_eq s]; exact Nat.le_refl _)
      rw [e]
      simp
theorem bt_list (s : ByteArray) (i : Nat) (h : i < s.size) : bt s (i : Int) = ((s.data.toList[i]'(by rw [← Lib.size_eq]; exact h)).toNat : Int) := by
  unfold bt
  rw [dif_pos (by rw [Int.toNat_natCast]; exact h)]
  simp only [Int.toNat_natCast]
  rfl
theorem specSplit_l (s : ByteArray) (hs : s.size ≤ 1000) (d : Nat) : ∀ (i f : Nat) (out : List ByteArray), i + d = s.size → f ≤ i → out.length ≤ f → Ev (fun k => spec_l1Split.l0 k s 45 out (f : Int) (i : Int)) (out ++ (pre ((s.data.toList.take i).drop f) (spl (s.data.toList.drop i))).map bl) := by
  have hz := Lib.size_eq s
  induction d with
  | zero =>
    intro i f out hi hf ho
    refine Ev.step (f := fun _ => some (out ++ [s.extract f s.size])) (fun k => ?_) ?_
    · simp only [spec_l1Split.l0]
      rw [if_neg (by omega), if_pos (by omega), if_pos (by omega), if_pos (by omega), Int.toNat_natCast]
    · refine Ev.same (Ev.now _) ?_
      obtain rfl : i = s.size := by omega
      rw [bl_extract, List.drop_of_length_le (l := s.data.toList) (by omega)]
      simp [spl, pre]
  | succ d ih =>
    intro i f out hi hf ho
    have hlt : i < s.data.toList.length := by omega
    have ew : wrap64 ((i : Int) + 1) = ((i + 1 : Nat) : Int) := by rw [w64 (by omega) (by omega)]; omega
    have eb := bt_list s i (by omega)
    have ed : s.data.toList.drop i = s.data.toList[i] :: s.data.toList.drop (i + 1) := List.drop_eq_getElem_cons hlt
    refine Ev.step (fun k => by simp only [spec_l1Split.l0]; rw [if_pos (show (i : Int) < (s.size : Int) by omega), if_pos (show 0 ≤ (i : Int) by omega), ew, eb, if_pos (show 0 ≤ (f : Int) by omega), if_pos (show (f : Int) ≤ (i : Int) by omega), if_pos (show (i : Int) ≤ (s.size : Int) by omega), if_pos (show out.length < 8796093022208 by omega), Int.toNat_natCast, Int.toNat_natCast]) ?_
    rw [ed]
    by_cases h : s.data.toList[i] = 45
    · refine Ev.if_pos (by rw [h]; rfl) ?_
      refine Ev.same (ih (i + 1) (i + 1) (out ++ [s.extract f i]) (by omega) (Nat.le_refl _) (by rw [List.length_append, List.length_singleton]; omega)) ?_
      rw [bl_extract, spl, if_pos h, List.append_assoc]
      congr 1
      rw [List.drop_of_length_le (l := s.data.toList.take (i + 1)) (by rw [List.length_take]; omega), pre_nil _ (spl_ne _)]
      simp [pre]
    · refine Ev.if_neg (fun e => h (UInt8.toNat_inj.mp (by have : ((45 : UInt8).toNat : Int) = 45 := rfl; omega))) ?_
      refine Ev.same (ih (i + 1) f out (by omega) (by omega) ho) ?_
      rw [spl, if_neg h, pre_pre _ _ _ (spl_ne _)]
      congr 3
      rw [List.take_succ_eq_append_getElem hlt, List.drop_append_of_le_length (by rw [List.length_take]; omega)]
theorem specSplit_f (s : ByteArray) (hs : s.size ≤ 1000) : Ev (fun k => spec_l1Split.f k s 45) ((spl s.data.toList).map bl) := by
  refine Ev.congr (fun k => by unfold spec_l1Split.f; rfl) ?_
  refine Ev.same (specSplit_l s hs s.size 0 0 [] (by omega) (Nat.le_refl _) (Nat.le_refl _)) ?_
  simp [pre_nil _ (spl_ne _)]
/-! #### one number -/
def digs (w : List UInt8) : Bool := w.all fun b => decide (48 ≤ b.toNat ∧ b.toNat ≤ 57)
def valF : List UInt8 → Nat → Nat
  | [], a => a
  | b :: r, a => valF r (10 * a + (b.toNat - 48))
theorem valF_append (x y : List UInt8) : ∀ a, valF (x ++ y) a = valF y (valF x a) := by
  induction x with
  | nil => intro a; rfl
  | cons b r ih => intro a; simp only [List.cons_append, valF]; exact ih _
theorem valF_ge (w : List UInt8) : ∀ a, a ≤ valF w a := by
  induction w with
  | nil => intro a; exact Nat.le_refl _
  | cons b r ih => intro a; simp only [valF]; have := ih (10 * a + (b.toNat - 48)); omega
def canonB (w : List UInt8) : Bool := decide (1 ≤ w.length ∧ w.length ≤ 6) && !(decide (w.head? = some 48) && decide (1 < w.length))
/-- What the reference reads. -/
def rv (w : List UInt8) : Int := if canonB w = true ∧ digs w = true then (valF w 0 : Int) else -1
theorem read_l (w : List UInt8) (hw : w.length ≤ 6) (d : Nat) : ∀ (i a : Nat), i + d = w.length → a < 10 ^ i → Ev (fun k => spec_l1Read.l0 k (bl w) (a : Int) (i : Int)) (if digs (w.drop i) = true then (valF (w.drop i) a : Int) else -1) := by
  have hz : (bl w).size = w.length := bl_size w
  induction d with
  | zero =>
    intro i a hi _
    refine Ev.step (f := fun _ => some (a : Int)) (fun k => by simp only [spec_l1Read.l0]; rw [if_neg (by omega)]) ?_
    rw [List.drop_of_length_le (by omega)]
    exact Ev.now _
  | succ d ih =>
    intro i a hi ha
    have hlt : i < w.length := by omega
    have ew : wrap64 ((i : Int) + 1) = ((i + 1 : Nat) : Int) := by rw [w64 (by omega) (by omega)]; omega
    have eb : bt (bl w) (i : Int) = ((w[i]).toNat : Int) := by
      rw [bt_list (bl w) i (by omega)]
      simp only [bl_list]
    have ed : w.drop i = w[i] :: w.drop (i + 1) := List.drop_eq_getElem_cons hlt
    have hp : (10 : Nat) ^ i ≤ 10 ^ 6 := Nat.pow_le_pow_right (by decide) (by omega)
    have hq : (10 : Nat) ^ (i + 1) = 10 * 10 ^ i := by rw [Nat.pow_succ]; omega
    have h6 : (10 : Nat) ^ 6 = 1000000 := rfl
    generalize 10 ^ i = P at ha hp hq
    refine Ev.step (fun k => by simp only [spec_l1Read.l0]; rw [if_pos (show (i : Int) < ((bl w).size : Int) by omega), if_pos (show 0 ≤ (i : Int) by omega), ew, eb]) ?_
    rw [ed]
    have hd : digs (w[i] :: w.drop (i + 1)) = (decide (48 ≤ w[i].toNat ∧ w[i].toNat ≤ 57) && digs (w.drop (i + 1))) := rfl
    by_cases h1 : w[i].toNat < 48
    · refine Ev.if_pos (by omega) ?_
      rw [hd, decide_eq_false (by omega), Bool.false_and, if_neg (by simp)]
      exact Ev.now _
    · refine Ev.if_neg (by omega) ?_
      by_cases h2 : w[i].toNat > 57
      · refine Ev.if_pos (by omega) ?_
        rw [hd, decide_eq_false (by omega), Bool.false_and, if_neg (by simp)]
        exact Ev.now _
      · refine Ev.if_neg (by omega) ?_
        have ev : wrap64 (wrap64 (10 * (a : Int)) + ((w[i].toNat : Int) - 48) % 256) = ((10 * a + (w[i].toNat - 48) : Nat) : Int) := by
          rw [w64 (x := 10 * (a : Int)) (by omega) (by omega), w64 (by omega) (by omega)]
          omega
        rw [ev, hd, decide_eq_true (show 48 ≤ w[i].toNat ∧ w[i].toNat ≤ 57 by omega), Bool.true_and]
        exact ih (i + 1) _ (by omega) (by rw [hq]; omega)
theorem specRead_f (w : List UInt8) (hw : w.length ≤ 1000) : Ev (fun k => spec_l1Read.f k (bl w)) (rv w) := by
  have hz : (bl w).size = w.length := bl_size w
  refine Ev.congr (fun k => by unfold spec_l1Read.f; rfl) ?_
  rw [hz]
  refine Ev.got (l1In_f _ _ _) ?_
  have bad : Ev (fun k => spec_l1Read.j0 k (bl w) true) (-1) := Ev.step (f := fun _ => some (-1)) (fun k => by simp only [spec_l1Read.j0, if_true]) (Ev.now _)
  by_cases h : 1 ≤ w.length ∧ w.length ≤ 6
  · have good : Ev (fun k => spec_l1Read.j0 k (bl w) false) (if digs w = true then (valF w 0 : Int) else -1) := by
      refine Ev.step (f := fun k => spec_l1Read.l0 k (bl w) 0 0) (fun k => by simp only [spec_l1Read.j0]; rfl) ?_
      exact Ev.same (read_l w h.2 w.length 0 0 (by omega) (by decide)) (by simp)
    refine Ev.if_pos (decide_eq_true (by omega)) (Ev.if_pos (by omega) ?_)
    have eb : bt (bl w) 0 = ((w[0]'(by omega)).toNat : Int) := by
      have := bt_list (bl w) 0 (by omega)
      simp only [bl_list] at this
      exact this
    rw [eb]
    have hh : w.head? = some (w[0]'(by omega)) := List.head?_eq_getElem? ▸ List.getElem?_eq_getElem (by omega)
    by_cases h48 : w[0]'(by omega) = 48
    · refine Ev.if_pos (by rw [h48]; rfl) ?_
      by_cases hl : 1 < w.length
      · rw [decide_eq_true (show (w.length : Int) > 1 by omega)]
        have : rv w = -1 := by
          unfold rv canonB
          rw [if_neg]
          rw [hh, h48, decide_eq_true hl]
          simp
        rw [this]
        exact bad
      · rw [decide_eq_false (show ¬ (w.length : Int) > 1 by omega)]
        have : rv w = (if digs w = true then (valF w 0 : Int) else -1) := by
          unfold rv canonB
          rw [decide_eq_true h, decide_eq_false hl]
          simp
        rw [this]
        exact good
    · refine Ev.if_neg (fun e => h48 (UInt8.toNat_inj.mp (by have : ((48 : UInt8).toNat : Int) = 48 := rfl; omega))) ?_
      have : rv w = (if digs w = true then (valF w 0 : Int) else -1) := by
        unfold rv canonB
        rw [decide_eq_true h, hh, decide_eq_false (show ¬ some (w[0]'(by omega)) = some 48 from fun e => h48 (Option.some.inj e))]
        simp
      rw [this]
      exact good
  · refine Ev.if_neg (fun e => h (by have := of_decide_eq_true e; omega)) ?_
    have : rv w = -1 := by
      unfold rv canonB
      rw [decide_eq_false h]
      simp
    rw [this]
    exact bad
/-! #### digits and numbers -/
theorem ofNat_digit (u : Nat) (h : u < 10) : (UInt8.ofNat (48 + u)).toNat = 48 + u := by
  rw [UInt8.toNat_ofNat']
  exact Nat.mod_eq_of_lt (by omega)
theorem digs_append (x y : List UInt8) : digs (x ++ y) = (digs x && digs y) := List.all_append
theorem dd_digs (u : Nat) : digs (Lib.decDigits u) = true := by
  induction u using Nat.strongRecOn with
  | _ u ih =>
    by_cases h : u < 10
    · rw [Lib.decDigits, dif_pos h]
      show (decide (48 ≤ (UInt8.ofNat (48 + u)).toNat ∧ (UInt8.ofNat (48 + u)).toNat ≤ 57) && true) = true
      rw [ofNat_digit u h, decide_eq_true (by omega)]; rfl
    · rw [Lib.decDigits, dif_neg h, digs_append, ih (u / 10) (by omega), Bool.true_and]
      show (decide (48 ≤ (UInt8.ofNat (48 + u % 10)).toNat ∧ (UInt8.ofNat (48 + u % 10)).toNat ≤ 57) && true) = true
      rw [ofNat_digit (u % 10) (by omega), decide_eq_true (by omega)]; rfl
theorem dd_val (u : Nat) : valF (Lib.decDigits u) 0 = u := by
  induction u using Nat.strongRecOn with
  | _ u ih =>
    by_cases h : u < 10
    · rw [Lib.decDigits, dif_pos h]
      show 10 * 0 + ((UInt8.ofNat (48 + u)).toNat - 48) = u
      rw [ofNat_digit u h]; omega
    · rw [Lib.decDigits, dif_neg h, valF_append, ih (u / 10) (by omega)]
      show 10 * (u / 10) + ((UInt8.ofNat (48 + u % 10)).toNat - 48) = u
      rw [ofNat_digit (u % 10) (by omega)]; omega
theorem dd_head (u : Nat) (h1 : 1 ≤ u) : ∃ b, (Lib.decDigits u).head? = some b ∧ b ≠ 48 := by
  induction u using Nat.strongRecOn with
  | _ u ih =>
    by_cases h : u < 10
    · rw [Lib.decDigits, dif_pos h]
      refine ⟨_, rfl, fun e => ?_⟩
      have := congrArg UInt8.toNat e
      rw [ofNat_digit u h] at this
      have h48 : (48 : UInt8).toNat = 48 := rfl
      omega
    · rw [Lib.decDigits, dif_neg h]
      obtain ⟨b, hb, hn⟩ := ih (u / 10) (by omega) (by omega)
      refine ⟨b, ?_, hn⟩
      rw [List.head?_append, hb]; rfl
theorem rv_dd (u : Nat) (h : u ≤ 120) : rv (Lib.itoa (u : Int)) = (u : Int) := by
  have hl := itoa_len (n := (u : Int)) (by omega) (by omega)
  rw [Lib.itoa_nonneg] at hl ⊢
  unfold rv
  rw [if_pos, dd_val]
  refine ⟨?_, dd_digs u⟩
  unfold canonB
  by_cases h0 : u = 0
  · subst h0
    rw [Lib.decDigits, dif_pos (by decide)]
    rfl
  · obtain ⟨b, hb, hn⟩ := dd_head u (by omega)
    have hne : 1 ≤ (Lib.decDigits u).length := by
      cases hx : Lib.decDigits u with
      | nil => rw [hx] at hb; cases hb
      | cons c r => simp
    rw [decide_eq_true (show 1 ≤ (Lib.decDigits u).length ∧ (Lib.decDigits u).length ≤ 6 by omega), hb, decide_eq_false (show ¬ some b = some 48 from fun e => hn (Option.some.inj e))]
    rfl
theorem canon (n : Nat) : ∀ w : List UInt8, w.length = n → 1 ≤ n → digs w = true → (n = 1 ∨ w.head? ≠ some 48) → Lib.decDigits (valF w 0) = w ∧ (w.head? ≠ some 48 → 1 ≤ valF w 0) := by
  induction n with
  | zero => intro w _ h; omega
  | succ n ih =>
    intro w hw _ hd hc
    rcases List.eq_nil_or_concat w with rfl | ⟨M, d, rfl⟩
    · simp at hw
    · rw [List.concat_eq_append] at *
      rw [digs_append] at hd
      obtain ⟨hM, hd1⟩ := Bool.and_eq_true_iff.mp hd
      have hdd : 48 ≤ d.toNat ∧ d.toNat ≤ 57 := by
        have : (decide (48 ≤ d.toNat ∧ d.toNat ≤ 57) && true) = true := hd1
        simpa using this
      have ed : UInt8.ofNat (48 + (d.toNat - 48)) = d := by
        apply UInt8.toNat_inj.mp
        rw [ofNat_digit _ (by omega)]; omega
      have hML : M.length = n := by simpa using hw
      rw [valF_append]
      show Lib.decDigits (10 * valF M 0 + (d.toNat - 48)) = M ++ [d] ∧ (_ → 1 ≤ 10 * valF M 0 + (d.toNat - 48))
      by_cases hn : n = 0
      · obtain rfl : M = [] := List.length_eq_zero_iff.mp (by omega)
        refine ⟨?_, fun hh => ?_⟩
        · show Lib.decDigits (10 * 0 + (d.toNat - 48)) = [d]
          rw [Lib.decDigits, dif_pos (by omega), show 48 + (10 * 0 + (d.toNat - 48)) = 48 + (d.toNat - 48) by omega, ed]
        · show 1 ≤ 10 * 0 + (d.toNat - 48)
          have : d ≠ 48 := fun e => hh (by rw [e]; rfl)
          have h48 : d.toNat ≠ 48 := fun e => this (UInt8.toNat_inj.mp e)
          omega
      · have hhM : (M ++ [d]).head? = M.head? := by
          cases M with
          | nil => simp at hML; omega
          | cons c r => rfl
        have hne : M.head? ≠ some 48 := by
          rcases hc with hc | hc
          · omega
          · rwa [hhM] at hc
        obtain ⟨e1, e2⟩ := ih M hML (by omega) hM (.inr hne)
        have hv := e2 hne
        refine ⟨?_, fun _ => by omega⟩
        rw [Lib.decDigits, dif_neg (by omega), show (10 * valF M 0 + (d.toNat - 48)) / 10 = valF M 0 by omega, e1, show (10 * valF M 0 + (d.toNat - 48)) % 10 = d.toNat - 48 by omega, ed]
theorem parse_digs (w : List UInt8) : ∀ a : Nat, digs w = true → valF w a ≤ 1000000000000 → Lib.parseUint10 a w = .ok (valF w a) := by
  induction w with
  | nil => intro a _ _; rfl
  | cons b r ih =>
    intro a hd hv
    obtain ⟨hb, hr⟩ := Bool.and_eq_true_iff.mp (show (decide (48 ≤ b.toNat ∧ b.toNat ≤ 57) && digs r) = true from hd)
    have hb := of_decide_eq_true hb
    simp only [valF] at hv ⊢
    have hge := valF_ge r (10 * a + (b.toNat - 48))
    unfold Lib.parseUint10
    rw [if_pos hb, if_neg (by omega), if_neg (by omega), show a * 10 + (b.toNat - 48) = 10 * a + (b.toNat - 48) by omega]
    exact ih _ hr hv
/-- What the program reads, and whether it is just the text. -/
def ir (w : List UInt8) : Int × Bool := match Lib.atoiAll w with | .ok v => (v, (⟨(Lib.itoa v).toArray⟩ : ByteArray).toList == (bl w).toList) | .range => (Lib.atoiSat w, false) | _ => (0, false)
theorem implRead_f (w : List UInt8) (hw : w.length ≤ 1000) : impl_readNumber.f (bl w) = some (ir w) := by
  unfold impl_readNumber.f ir
  rw [if_pos (by rw [bl_size]; exact hw), bl_list]
  cases Lib.atoiAll w <;> rfl
theorem ir_of_rv {w : List UInt8} (h : 0 ≤ rv w) : ir w = (rv w, true) := by
  unfold rv at h ⊢
  by_cases hc : canonB w = true ∧ digs w = true
  · rw [if_pos hc]
    obtain ⟨h1, h2⟩ := hc
    unfold canonB at h1
    obtain ⟨k1, k2⟩ := Bool.and_eq_true_iff.mp h1
    have k1 := of_decide_eq_true k1
    have hcan : w.length = 1 ∨ w.head? ≠ some 48 := by
      by_cases hl : w.length = 1
      · exact .inl hl
      · refine .inr fun e => ?_
        rw [e, decide_eq_true (show 1 < w.length by omega)] at k2
        simp at k2
    have e1 := (canon w.length w rfl k1.1 h2 hcan).1
    have hvb : valF w 0 ≤ 1000000000000 := by
      have key : ∀ (x : List UInt8) (a : Nat), digs x = true → valF x a < (a + 1) * 10 ^ x.length := by
        intro x
        induction x with
        | nil => intro a _; simp [valF]
        | cons b r ih =>
          intro a hd
          obtain ⟨hb, hr⟩ := Bool.and_eq_true_iff.mp (show (decide (48 ≤ b.toNat ∧ b.toNat ≤ 57) && digs r) = true from hd)
          have hb := of_decide_eq_true hb
          have := ih (10 * a + (b.toNat - 48)) hr
          simp only [valF, List.length_cons]
          refine Nat.lt_of_lt_of_le this ?_
          rw [Nat.pow_succ, Nat.mul_comm (10 ^ r.length) 10, ← Nat.mul_assoc]
          exact Nat.mul_le_mul_right _ (by omega)
      have h6 := key w 0 h2
      have hp : (10 : Nat) ^ w.length ≤ 10 ^ 6 := Nat.pow_le_pow_right (by decide) k1.2
      have e6 : (10 : Nat) ^ 6 = 1000000 := rfl
      omega
    have hat : Lib.atoiAll w = .ok (valF w 0 : Int) := by
      cases w with
      | nil => simp at k1
      | cons c r =>
        have hb : (decide (48 ≤ c.toNat ∧ c.toNat ≤ 57) && digs r) = true := h2
        have hb := of_decide_eq_true (Bool.and_eq_true_iff.mp hb).1
        simp only [Lib.atoiAll]
        rw [if_neg (show ¬ (c.toNat = 43 ∨ c.toNat = 45) by omega)]
        unfold Lib.parseMag
        rw [if_neg (by simp), parse_digs (c :: r) 0 h2 hvb]
        simp only
        rw [if_neg (by omega), if_neg (by omega), if_neg (by omega)]
    unfold ir
    rw [hat]
    simp only [Prod.mk.injEq, true_and]
    rw [Lib.itoa_nonneg, e1]
    exact beq_self_eq_true _
  · rw [if_neg hc] at h
    omega
theorem rv_of_ir {w : List UInt8} (h2 : (ir w).2 = true) (h0 : 0 ≤ (ir w).1) (h1 : (ir w).1 ≤ 120) : rv w = (ir w).1 ∧ w.length ≤ 3 := by
  unfold ir at h2 h0 h1 ⊢
  cases ha : Lib.atoiAll w with
  | range => rw [ha] at h2; cases h2
  | ok v =>
    rw [ha] at h2 h0 h1
    simp only at h2 h0 h1 ⊢
    have e := beq_iff_eq.mp h2
    rw [Lib.toList_data, Lib.toList_data, bl_list] at e
    have e : Lib.itoa v = w := by simpa using e
    rw [← e]
    obtain ⟨u, rfl⟩ : ∃ u : Nat, v = (u : Int) := ⟨v.toNat, by omega⟩
    exact ⟨rv_dd u (by omega), itoa_len h0 (by omega)⟩
  | _ => rw [ha] at h2; cases h2
/-! #### all of them -/
theorem words_at (ws : List (List UInt8)) (i : Nat) (h : i < ws.length) : rdOf ByteArray.empty (ws.map bl) (i : Int) = bl ws[i] := by
  unfold rdOf
  rw [Int.toNat_natCast, List.getD_eq_getElem?_getD, List.getElem?_eq_getElem (by simpa using h)]
  simp
def goodOr (l : List Int) : List Int × Bool := if goodB l = true then (l, true) else ([], false)
theorem agParse_l (ws : List (List UInt8)) (hn : ws.length ≤ 100) (hw : ∀ w ∈ ws, w.length ≤ 1000) (d : Nat) : ∀ (i : Nat) (acc : List Int), i + d = ws.length → acc.length ≤ i → Ev (fun k => spec_agParse.l0 k acc (ws.map bl) ((ws.map bl).length : Int) (i : Int)) (goodOr (acc ++ (ws.drop i).map rv)) := by
  have hm : (ws.map bl).length = ws.length := List.length_map ..
  induction d with
  | zero =>
    intro i acc hi _
    refine Ev.step (fun k => by simp only [spec_agParse.l0]; rw [if_neg (by omega)]) (Ev.bind (agGood_f acc) ?_)
    rw [List.drop_of_length_le (by omega), List.map_nil, List.append_nil]
    by_cases hg : goodB acc = true
    · rw [show goodOr acc = (acc, true) from if_pos hg]
      exact Ev.if_pos hg (Ev.now _)
    · rw [show goodOr acc = ([], false) from if_neg hg]
      exact Ev.if_neg hg (Ev.now _)
  | succ d ih =>
    intro i acc hi ha
    have hlt : i < ws.length := by omega
    have ew : wrap64 ((i : Int) + 1) = ((i + 1 : Nat) : Int) := by rw [w64 (by omega) (by omega)]; omega
    refine Ev.step (fun k => by simp only [spec_agParse.l0]; rw [if_pos (show (i : Int) < ((ws.map bl).length : Int) by omega), if_pos (show 0 ≤ (i : Int) by omega), ew, words_at ws i hlt]) ?_
    refine Ev.if_pos (show (i : Int) < ((ws.map bl).length : Int) by omega) ?_
    refine (Ev.bind (specRead_f _ (hw _ (List.getElem_mem hlt))) (Ev.if_pos (show acc.length < 17592186044416 by omega) ?_))
    refine Ev.same (ih (i + 1) _ (by omega) (by rw [List.length_append, List.length_singleton]; omega)) ?_
    rw [List.drop_eq_getElem_cons hlt, List.map_cons, List.append_assoc]
    rfl
def rdAll : List (List UInt8) → List Int → List Int × Bool
  | [], acc => (acc, true)
  | w :: ws, acc => if (ir w).2 = true then rdAll ws (acc ++ [(ir w).1]) else ([], false)
theorem readN_l (ws : List (List UInt8)) (hn : ws.length ≤ 100) (hw : ∀ w ∈ ws, w.length ≤ 1000) (d : Nat) : ∀ (i : Nat) (acc : List Int), i + d = ws.length → acc.length ≤ i → Ev (fun k => impl_readNumbers.l0 k acc (ws.map bl) ((ws.map bl).length : Int) (i : Int)) (rdAll (ws.drop i) acc) := by
  have hm : (ws.map bl).length = ws.length := List.length_map ..
  induction d with
  | zero =>
    intro i acc hi _
    refine Ev.step (f := fun _ => some (acc, true)) (fun k => by simp only [impl_readNumbers.l0]; rw [if_neg (by omega)]) ?_
    rw [List.drop_of_length_le (by omega)]
    exact Ev.now _
  | succ d ih =>
    intro i acc hi ha
    have hlt : i < ws.length := by omega
    have ew : wrap64 ((i : Int) + 1) = ((i + 1 : Nat) : Int) := by rw [w64 (by omega) (by omega)]; omega
    refine Ev.step (fun k => by simp only [impl_readNumbers.l0]; rw [if_pos (show (i : Int) < ((ws.map bl).length : Int) by omega), if_pos (show 0 ≤ (i : Int) by omega), ew, words_at ws i hlt]) ?_
    refine Ev.if_pos (show (i : Int) < ((ws.map bl).length : Int) by omega) ?_
    refine (Ev.got (implRead_f _ (hw _ (List.getElem_mem hlt))) ?_)
    rw [List.drop_eq_getElem_cons hlt, rdAll]
    cases h : (ir ws[i]).2 with
    | true =>
      rw [if_pos rfl]
      exact Ev.if_pos rfl (Ev.if_pos (by omega) (ih (i + 1) _ (by omega) (by rw [List.length_append, List.length_singleton]; omega)))
    | false => rw [if_neg (by simp)]; exact Ev.if_neg (by simp) (Ev.now _)
theorem rdAll_ok (ws : List (List UInt8)) : ∀ acc, (∀ w ∈ ws, (ir w).2 = true) → rdAll ws acc = (acc ++ ws.map (fun w => (ir w).1), true) := by
  induction ws with
  | nil => intro acc _; simp [rdAll]
  | cons w ws ih =>
    intro acc h
    rw [rdAll, if_pos (h w (by simp)), ih _ (fun x hx => h x (by simp [hx])), List.map_cons, List.append_assoc]
    rfl
theorem rdAll_bad (ws : List (List UInt8)) : ∀ acc, ¬ (∀ w ∈ ws, (ir w).2 = true) → rdAll ws acc = ([], false) := by
  induction ws with
  | nil => intro acc h; exact absurd (fun w hw => by cases hw) h
  | cons w ws ih =>
    intro acc h
    rw [rdAll]
    by_cases h1 : (ir w).2 = true
    · rw [if_pos h1]
      refine ih _ (fun h2 => h (fun x hx => ?_))
      rcases List.mem_cons.mp hx with rfl | hx
      · exact h1
      · exact h2 x hx
    · rw [if_neg h1]
/-- The ages with a text. -/
def paF (s : ByteArray) : List Int × Bool := if s.size ≤ 31 then goodOr ((spl s.data.toList).map rv) else ([], false)
theorem goodOr_length (l : List Int) : (goodOr l).1.length ≤ 8 := by
  unfold goodOr
  by_cases h : goodB l = true
  · rw [if_pos h]; exact (good_len h).2
  · rw [if_neg h]; simp
theorem paF_length (s : ByteArray) : (paF s).1.length ≤ 8 := by
  unfold paF
  by_cases h : s.size ≤ 31
  · rw [if_pos h]; exact goodOr_length _
  · rw [if_neg h]; simp
theorem mem_sum (ws : List (List UInt8)) (w : List UInt8) (hw : w ∈ ws) : w.length + 1 ≤ (ws.map (fun w => w.length + 1)).sum := by
  induction ws with
  | nil => cases hw
  | cons x xs ih =>
    simp only [List.map_cons, List.sum_cons]
    rcases List.mem_cons.mp hw with rfl | h
    · omega
    · have := ih h; omega
theorem word_short {l : List UInt8} (hl : l.length ≤ 100) : ∀ w ∈ spl l, w.length ≤ 1000 := by
  intro w hw
  have h1 := spl_len l
  have h2 := mem_sum (spl l) w hw
  omega
theorem specPA_f (s : ByteArray) : Ev (fun k => spec_ParseAges.f k s) (paF s) := by
  refine Ev.congr (fun k => by unfold spec_ParseAges.f; rfl) ?_
  refine Ev.bind (a := paF s) ?_ (Ev.now _)
  refine Ev.congr (fun k => by unfold spec_agParse.f; rfl) ?_
  unfold paF
  by_cases h : s.size ≤ 31
  · have hz := Lib.size_eq s
    have hc := spl_count s.data.toList
    rw [if_pos h]
    refine Ev.if_neg (by omega) (Ev.bind (specSplit_f s (by omega)) ?_)
    exact agParse_l (spl s.data.toList) (by omega) (word_short (by omega)) (spl s.data.toList).length 0 [] (by omega) (Nat.le_refl _)
  · rw [if_neg h]
    exact Ev.if_pos (by omega) (Ev.now _)
theorem sum_short (ws : List (List UInt8)) (h : ∀ w ∈ ws, w.length ≤ 3) : (ws.map (fun w => w.length + 1)).sum ≤ 4 * ws.length := by
  induction ws with
  | nil => simp
  | cons w ws ih =>
    have h1 := h w (by simp)
    have h2 := ih (fun x hx => h x (by simp [hx]))
    simp only [List.map_cons, List.sum_cons, List.length_cons]
    omega
theorem readN_f (s : ByteArray) (hs : s.size ≤ 32) : Ev (fun k => impl_readNumbers.f k s (⟨#[45]⟩ : ByteArray)) (rdAll (spl s.data.toList) []) := by
  have hz := Lib.size_eq s
  have hc := spl_count s.data.toList
  have hsp : strings_Split.f s (⟨#[45]⟩ : ByteArray) = some ((spl s.data.toList).map bl) := by
    unfold strings_Split.f
    rw [if_pos ⟨by omega, by decide⟩]
    exact congrArg some (splitB_spl s.size s (Nat.le_refl _))
  refine Ev.congr (fun k => by unfold impl_readNumbers.f; rfl) (Ev.got hsp ?_)
  exact readN_l (spl s.data.toList) (by omega) (word_short (by omega)) (spl s.data.toList).length 0 [] (by omega) (Nat.le_refl _)
theorem implPA_f (s : ByteArray) : Ev (fun k => impl_ParseAges.f k s) (paF s) := by
  refine Ev.congr (fun k => by unfold impl_ParseAges.f; rfl) ?_
  by_cases h32 : s.size ≤ 32
  · refine Ev.if_neg (by omega) (Ev.bind (readN_f s h32) ?_)
    have hz := Lib.size_eq s
    have hlen := spl_len s.data.toList
    generalize hws : spl s.data.toList = ws at hlen
    have key : (if (rdAll ws []).2 = true then goodOr (rdAll ws []).1 else ([], false)) = paF s := by
      unfold paF
      rw [hws]
      by_cases hall : ∀ w ∈ ws, (ir w).2 = true
      · rw [rdAll_ok ws [] hall, if_pos rfl, List.nil_append]
        by_cases hg : goodB (ws.map fun w => (ir w).1) = true
        · have hb : ∀ w ∈ ws, rv w = (ir w).1 ∧ w.length ≤ 3 := fun w hw => by
            have := good_mem hg (List.mem_map.mpr ⟨w, hw, rfl⟩)
            exact rv_of_ir (hall w hw) this.1 this.2
          have hn := (good_len hg).2
          rw [List.length_map] at hn
          have hsm := sum_short ws (fun w hw => (hb w hw).2)
          rw [if_pos (by omega), show ws.map rv = ws.map (fun w => (ir w).1) from List.map_congr_left (fun w hw => (hb w hw).1)]
        · have e1 : goodOr (ws.map fun w => (ir w).1) = ([], false) := by unfold goodOr; rw [if_neg hg]
          rw [e1]
          by_cases h31 : s.size ≤ 31
          · rw [if_pos h31]
            unfold goodOr
            rw [if_neg]
            intro hr
            apply hg
            rw [show (ws.map fun w => (ir w).1) = ws.map rv from List.map_congr_left (fun w hw => by
              have := good_mem hr (List.mem_map.mpr ⟨w, hw, rfl⟩)
              rw [ir_of_rv this.1])]
            exact hr
          · rw [if_neg h31]
      · rw [rdAll_bad ws [] hall, if_neg (by simp)]
        by_cases h31 : s.size ≤ 31
        · rw [if_pos h31]
          unfold goodOr
          rw [if_neg]
          intro hr
          apply hall
          intro w hw
          have := good_mem hr (List.mem_map.mpr ⟨w, hw, rfl⟩)
          rw [ir_of_rv this.1]
        · rw [if_neg h31]
    rw [← key]
    have ho : impl_agesOr.f (rdAll ws []).1 = some (goodOr (rdAll ws []).1) := by
      unfold impl_agesOr.f goodOr
      rw [areAges_f, Option.bind_some]
      cases goodB (rdAll ws []).1 <;> rfl
    by_cases hr : (rdAll ws []).2 = true
    · have e : (if (rdAll ws []).2 = true then goodOr (rdAll ws []).1 else ([], false)) = goodOr (rdAll ws []).1 := if_pos hr
      rw [e]
      exact Ev.if_pos hr (Ev.got ho (Ev.now _))
    · have e : (if (rdAll ws []).2 = true then goodOr (rdAll ws []).1 else ([], false)) = ([], false) := if_neg hr
      rw [e]
      exact Ev.if_neg hr (Ev.now _)
  · refine Ev.if_pos (by omega) ?_
    unfold paF
    rw [if_neg (by omega)]
    exact Ev.now _

end Go.Proofs.YtbdgeknaddaekaaDoor.P
