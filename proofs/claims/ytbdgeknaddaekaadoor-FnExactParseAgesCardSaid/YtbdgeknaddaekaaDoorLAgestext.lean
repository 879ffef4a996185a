import Derived.Test.YtbdgeknaddaekaaDoorLAges
import Derived.Test.YtbdgeknaddaekaaDoorLBase
import Derived.Test.YtbdgeknaddaekaaDoorP1
import Derived.Test.YtbdgeknaddaekaaDoorP2
namespace Go.Proofs.YtbdgeknaddaekaaDoor.P
open Go.RowKit Go.Proofs.YtbdgeknaddaekaaDoorW.PrintWords Go.Proofs.YtbdgeknaddaekaaDoorW.PrintLast Go.Proofs.YtbdgeknaddaekaaDoorW.PrintMore
set_option linter.unusedVariables false
set_option linter.unusedSimpArgs false

/-! ### the text of ages -/
def bl (x : List UInt8) : ByteArray := ⟨x.toArray⟩
theorem bl_append (x y : List UInt8) : bl x ++ bl y = bl (x ++ y) := by
  apply ByteArray.ext
  rw [ByteArray.data_append]
  simp [bl]
theorem bl_size (x : List UInt8) : (bl x).size = x.length := by
  show x.toArray.size = _
  simp
theorem bl_list (x : List UInt8) : (bl x).data.toList = x := by simp [bl]
theorem nums_one (n : Nat) (h : n < 256) : strOfNums [(n : Int)] = bl [UInt8.ofNat n] := by
  apply ByteArray.ext
  show (ByteArray.empty.push (UInt8.ofNat (n : Int).toNat)).data = _
  rw [Int.toNat_natCast]
  rfl
theorem l1Num_f (n : Nat) : n ≤ 1000000 → Ev (fun k => spec_l1Num.f k (n : Int)) (bl (Lib.decDigits n)) := by
  induction n using Nat.strongRecOn with
  | _ n ih =>
    intro hn
    by_cases h : n < 10
    · refine Ev.step (f := fun _ => some (bl (Lib.decDigits n))) (fun k => ?_) (Ev.now _)
      simp only [spec_l1Num.f]
      rw [if_pos (show (n : Int) < 10 by omega), w64 (by omega) (by omega), show (48 + (n : Int)) % 256 = ((48 + n : Nat) : Int) by omega, nums_one _ (by omega), Lib.decDigits, dif_pos h]
    · have h2 := ih (n / 10) (by omega) (by omega)
      have ed : wrap64 (Int.tdiv (n : Int) 10) = ((n / 10 : Nat) : Int) := by
        rw [Int.tdiv_eq_ediv_of_nonneg (by omega), w64 (by omega) (by omega)]; omega
      have em : wrap64 (48 + Int.tmod (n : Int) 10) % 256 = ((48 + n % 10 : Nat) : Int) := by
        rw [Int.tmod_eq_emod_of_nonneg (by omega), w64 (by omega) (by omega)]; omega
      have eD : Lib.decDigits n = Lib.decDigits (n / 10) ++ [UInt8.ofNat (48 + n % 10)] := by rw [Lib.decDigits, dif_neg h]
      have hlen : ∀ m d : Nat, m < 10 ^ (d + 1) → (Lib.decDigits m).length ≤ d + 1 := by
        intro m d
        induction d generalizing m with
        | zero => intro hm; rw [Lib.decDigits, dif_pos (by simpa using hm)]; simp
        | succ d ihd =>
          intro hm
          by_cases h1 : m < 10
          · rw [Lib.decDigits, dif_pos h1]; simp
          · rw [Lib.decDigits, dif_neg h1, List.length_append]
            have := ihd (m / 10) (by rw [Nat.pow_succ] at hm; omega)
            simp only [List.length_singleton]
            omega
      have hl := hlen (n / 10) 6 (by omega)
      refine Ev.step (fun k => by simp only [spec_l1Num.f]; rw [if_neg (show ¬ (n : Int) < 10 by omega), ed, em]) ?_
      refine Ev.bind h2 ?_
      refine Ev.congr (f := fun _ => if (bl (Lib.decDigits (n / 10))).size + (bl [UInt8.ofNat (48 + n % 10)]).size ≤ 9223372036854775807 then some (bl (Lib.decDigits (n / 10)) ++ bl [UInt8.ofNat (48 + n % 10)]) else none) (fun k => by simp only [Option.bind_some]; rw [nums_one _ (by omega)]) ?_
      refine Ev.if_pos (by rw [bl_size, bl_size]; simp only [List.length_singleton]; omega) ?_
      rw [bl_append, ← eD]
      exact Ev.now _
theorem itoa_num {n : Int} (h0 : 0 ≤ n) : Lib.itoa n = Lib.decDigits n.toNat := by unfold Lib.itoa; rw [if_neg (by omega)]
theorem itoa_len {n : Int} (h0 : 0 ≤ n) (h1 : n < 1000) : (Lib.itoa n).length ≤ 3 := by
  rw [itoa_num h0]
  have h : n.toNat < 1000 := by omega
  generalize n.toNat = m at h
  by_cases a : m < 10
  · rw [Lib.decDigits, dif_pos a]; simp
  · rw [Lib.decDigits, dif_neg a]
    by_cases b : m / 10 < 10
    · rw [Lib.decDigits, dif_pos b]; simp
    · rw [Lib.decDigits, dif_neg b, Lib.decDigits, dif_pos (by omega)]; simp
theorem num_of {n : Int} (h0 : 0 ≤ n) (h1 : n ≤ 1000000) : Ev (fun k => spec_l1Num.f k n) (bl (Lib.itoa n)) := by
  rw [itoa_num h0]
  have := l1Num_f n.toNat (by omega)
  rwa [Int.toNat_of_nonneg h0] at this
theorem tail_len (r : List Int) (hr : ∀ x ∈ r, 0 ≤ x ∧ x ≤ 120) : (Lib.joinTail [45] (r.map Lib.itoa)).length ≤ 4 * r.length := by
  induction r with
  | nil => simp [Lib.joinTail]
  | cons x xs ih =>
    have h := hr x (by simp)
    have h2 := itoa_len h.1 (by omega)
    have h3 := ih (fun y hy => hr y (by simp [hy]))
    unfold Lib.joinTail at h3 ⊢
    simp only [List.map_cons, List.flatten_cons, List.length_append, List.length_cons, List.length_nil] at h3 ⊢
    omega
theorem agText_l {l : List Int} (hl : l.length ≤ 8) (ok : ∀ x ∈ l, 0 ≤ x ∧ x ≤ 120) (d : Nat) : ∀ (i : Nat) (a : List UInt8), 1 ≤ i → i + d = l.length → a.length + 4 * d ≤ 1000000 → Ev (fun k => spec_agText.l0 k (bl a) l (l.length : Int) (i : Int)) (bl (a ++ Lib.joinTail [45] ((l.drop i).map Lib.itoa))) := by
  induction d with
  | zero =>
    intro i a _ hi _
    exact Ev.step (f := fun _ => some (bl a)) (fun k => by simp only [spec_agText.l0]; rw [if_neg (by omega)]) (Ev.same (Ev.now _) (by rw [List.drop_of_length_le (by omega)]; simp [Lib.joinTail]))
  | succ d ih =>
    intro i a h1 hi ha
    have ew : wrap64 ((i : Int) + 1) = ((i + 1 : Nat) : Int) := by rw [w64 (by omega) (by omega)]; omega
    have hm := ok _ (rd_mem (l := l) (i := (i : Int)) (by omega) (by omega))
    have h3 := itoa_len hm.1 (show rd l (i : Int) < 1000 by omega)
    have h4 := ih (i + 1) (a ++ [45] ++ Lib.itoa (rd l (i : Int))) (by omega) (by omega) (by simp only [List.length_append, List.length_singleton]; omega)
    refine Ev.step (fun k => by simp only [spec_agText.l0]; rw [if_pos (show (i : Int) < (l.length : Int) by omega), if_pos (show 0 ≤ (i : Int) by omega), if_pos (show (i : Int) < (l.length : Int) by omega), if_pos (show (i : Int) > 0 by omega), ew, show (⟨#[45]⟩ : ByteArray) = bl [45] from rfl, bl_append]) ?_
    refine Ev.if_pos (by rw [bl_size]; omega) (Ev.bind (num_of hm.1 (by omega)) (Ev.if_pos (by rw [bl_size, bl_size]; simp only [List.length_append, List.length_singleton]; omega) ?_))
    simp only [bl_append]
    refine Ev.same h4 ?_
    rw [drop_rd l i (by omega), List.map_cons]
    simp [Lib.joinTail, List.append_assoc]
def ageText (l : List Int) : List UInt8 := Lib.join (l.map Lib.itoa) [45]
theorem ageText_cons (x : Int) (xs : List Int) : ageText (x :: xs) = Lib.itoa x ++ Lib.joinTail [45] (xs.map Lib.itoa) := by unfold ageText; rw [List.map_cons, Lib.join_cons]
theorem ageText_len {l : List Int} (ok : ∀ x ∈ l, 0 ≤ x ∧ x ≤ 120) : (ageText l).length ≤ 4 * l.length := by
  cases l with
  | nil => simp [ageText, Lib.join_nil]
  | cons x xs =>
    rw [ageText_cons, List.length_append]
    have h := ok x (by simp)
    have h2 := itoa_len h.1 (by omega)
    have h3 := tail_len xs (fun y hy => ok y (by simp [hy]))
    simp only [List.length_cons]
    omega
theorem agText_f {l : List Int} (hg : goodB l = true) : Ev (fun k => spec_agText.f k l) (bl (ageText l)) := by
  have hl := good_len hg
  have ok : ∀ x ∈ l, 0 ≤ x ∧ x ≤ 120 := fun x hx => good_mem hg hx
  have hm := ok _ (rd_mem (l := l) (i := 0) (by omega) (by omega))
  have h3 := itoa_len hm.1 (show rd l 0 < 1000 by omega)
  have h4 := agText_l hl.2 ok (l.length - 1) 1 (Lib.itoa (rd l 0)) (Nat.le_refl _) (by omega) (by omega)
  have ew : wrap64 (0 + 1) = ((1 : Nat) : Int) := by rw [w64 (by omega) (by omega)]; omega
  refine Ev.congr (fun k => by unfold spec_agText.f; rfl) ?_
  refine Ev.step (fun k => by simp only [spec_agText.l0]; rw [if_pos (show (0 : Int) < (l.length : Int) by omega), if_pos (show (0 : Int) ≤ 0 by omega), if_pos (show (0 : Int) < (l.length : Int) by omega), if_neg (show ¬ (0 : Int) > 0 by omega), ew]) ?_
  refine Ev.bind (num_of hm.1 (by omega)) (Ev.if_pos (by rw [bl_size]; show (⟨#[]⟩ : ByteArray).size + _ ≤ _; rw [show (⟨#[]⟩ : ByteArray).size = 0 from rfl]; omega) ?_)
  rw [show (⟨#[]⟩ : ByteArray) = bl [] from rfl, bl_append, List.nil_append]
  refine Ev.same h4 ?_
  have hc : l = rd l 0 :: l.drop 1 := by have := drop_rd l 0 (by omega); simpa using this
  rw [show ageText l = ageText (rd l 0 :: l.drop 1) from congrArg ageText hc, ageText_cons]
theorem joined_l {l : List Int} (hl : l.length ≤ 8) (ok : ∀ x ∈ l, 0 ≤ x ∧ x ≤ 120) (d : Nat) : ∀ (i : Nat), i + d = l.length → Ev (fun k => impl_joined.l0 k (bl [45]) ((l.take i).map (fun x => bl (Lib.itoa x))) l (l.length : Int) (i : Int)) (bl (ageText l)) := by
  induction d with
  | zero =>
    intro i hi
    have hlen := ageText_len ok
    refine Ev.step (f := fun _ => some (bl (ageText l))) (fun k => ?_) (Ev.now _)
    simp only [impl_joined.l0]
    rw [if_neg (by omega), List.take_of_length_le (by omega)]
    unfold strings_Join.f
    have e : ((l.map (fun x => bl (Lib.itoa x))).map (·.data.toList)) = l.map Lib.itoa := by
      rw [List.map_map]
      exact List.map_congr_left (fun x _ => bl_list _)
    rw [e, bl_list, if_pos ⟨by rw [List.length_map]; omega, by show (ageText l).length ≤ _; omega⟩]
    rfl
  | succ d ih =>
    intro i hi
    have ew : wrap64 ((i : Int) + 1) = ((i + 1 : Nat) : Int) := by rw [w64 (by omega) (by omega)]; omega
    have hm := ok _ (rd_mem (l := l) (i := (i : Int)) (by omega) (by omega))
    have hI : strconv_Itoa_25.f (rd l (i : Int)) = some (bl (Lib.itoa (rd l (i : Int)))) := by unfold strconv_Itoa_25.f; rw [if_pos (by omega)]; rfl
    refine Ev.step (fun k => by simp only [impl_joined.l0]; rw [if_pos (show (i : Int) < (l.length : Int) by omega), if_pos (show 0 ≤ (i : Int) by omega), if_pos (show (i : Int) < (l.length : Int) by omega), ew]) ?_
    refine Ev.got hI (Ev.if_pos (by rw [List.length_map, List.length_take]; omega) ?_)
    refine Ev.congr (fun k => ?_) (ih (i + 1) (by omega))
    rw [List.take_succ_eq_append_getElem (show i < l.length by omega), List.map_append, rd_at l i (by omega)]
    rfl
theorem joined_f {l : List Int} (hg : goodB l = true) : Ev (fun k => impl_joined.f k l (⟨#[45]⟩ : ByteArray)) (bl (ageText l)) := by
  refine Ev.congr (fun k => by unfold impl_joined.f; rfl) ?_
  exact joined_l (good_len hg).2 (fun x hx => good_mem hg hx) l.length 0 (by omega)
def atOf (l : List Int) : ByteArray × Bool := if goodB l = true then (bl (ageText l), true) else (⟨#[]⟩, false)
theorem specAT_f (l : List Int) : Ev (fun k => spec_AgesText.f k l) (atOf l) := by
  refine Ev.congr (fun k => by unfold spec_AgesText.f; rfl) ?_
  refine Ev.bind (agGood_f l) ?_
  unfold atOf
  cases hg : goodB l with
  | true => exact Ev.if_pos rfl (Ev.bind (agText_f hg) (by rw [if_pos rfl]; exact Ev.now _))
  | false => exact Ev.if_neg (by simp) (by rw [if_neg (by simp)]; exact Ev.now _)
theorem implAT_f (l : List Int) : Ev (fun k => impl_AgesText.f k l) (atOf l) := by
  refine Ev.congr (fun k => by unfold impl_AgesText.f; rfl) ?_
  refine Ev.got (areAges_f l) ?_
  unfold atOf
  cases hg : goodB l with
  | true => exact Ev.if_pos rfl (Ev.bind (joined_f hg) (by rw [if_pos rfl]; exact Ev.now _))
  | false => exact Ev.if_neg (by simp) (by rw [if_neg (by simp)]; exact Ev.now _)

end Go.Proofs.YtbdgeknaddaekaaDoor.P
