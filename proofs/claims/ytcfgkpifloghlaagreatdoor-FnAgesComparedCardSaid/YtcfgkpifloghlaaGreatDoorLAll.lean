-- The kit's printed words and our lemmas, those alone that this claim uses (prune2.py).
import Derived.Test.YtcfgkpifloghlaaGreatDoorP0
import Derived.Test.YtcfgkpifloghlaaGreatDoorP1
import Derived.Test.YtcfgkpifloghlaaGreatDoorP10
import Derived.Test.YtcfgkpifloghlaaGreatDoorP11
import Derived.Test.YtcfgkpifloghlaaGreatDoorP12
import Derived.Test.YtcfgkpifloghlaaGreatDoorP13
import Derived.Test.YtcfgkpifloghlaaGreatDoorP14
import Derived.Test.YtcfgkpifloghlaaGreatDoorP15
import Derived.Test.YtcfgkpifloghlaaGreatDoorP2
import Derived.Test.YtcfgkpifloghlaaGreatDoorP3
import Derived.Test.YtcfgkpifloghlaaGreatDoorP4
import Derived.Test.YtcfgkpifloghlaaGreatDoorP5
import Derived.Test.YtcfgkpifloghlaaGreatDoorP6
import Derived.Test.YtcfgkpifloghlaaGreatDoorP7
import Derived.Test.YtcfgkpifloghlaaGreatDoorP8
import Derived.Test.YtcfgkpifloghlaaGreatDoorP9
namespace Go.Proofs.YtcfgkpifloghlaaGreatDoor.P
open Go.RowKit Go.Proofs.YtcfgkpifloghlaaGreatDoorW.PrintWords Go.Proofs.YtcfgkpifloghlaaGreatDoorW.PrintLast Go.Proofs.YtcfgkpifloghlaaGreatDoorW.PrintMore
set_option linter.unusedVariables false
set_option linter.unusedSimpArgs false

theorem w64 {x : Int} (h0 : -9223372036854775808 ≤ x) (h1 : x ≤ 9223372036854775807) : wrap64 x = x := by
 unfold wrap64
 omega
theorem Ev.same {α : Type} {g : Nat → Option α} {r s : α} (h : Ev g r) (e : r = s) : Ev g s := e ▸ h
theorem Ev.const {α : Type} {g : Nat → Option α} {r : α} (h : ∀ k, g k = some r) : Ev g r := ⟨0, fun k _ => h k⟩
theorem Ev.if_pos {α : Type} {c : Prop} [Decidable c] {g f : Nat → Option α} {r : α} (hc : c) (h : Ev g r) : Ev (fun k => if c then g k else f k) r := by
 obtain ⟨K, h⟩ := h
 exact ⟨K, fun k hk => by simp only [_root_.if_pos hc]; exact h k hk⟩
theorem Ev.if_neg {α : Type} {c : Prop} [Decidable c] {g f : Nat → Option α} {r : α} (hc : ¬ c) (h : Ev f r) : Ev (fun k => if c then g k else f k) r := by
 obtain ⟨K, h⟩ := h
 exact ⟨K, fun k hk => by simp only [_root_.if_neg hc]; exact h k hk⟩
theorem Ev.got {α β : Type} {o : Option α} {a : α} {f : Nat → α → Option β} {r : β} (ho : o = some a) (h : Ev (fun k => f k a) r) : Ev (fun k => o.bind (f k)) r := by
 subst ho
 exact h

theorem l1In_f (a b c : Int) : spec_l1In.f a b c = some (decide (b ≤ a ∧ a ≤ c)) := by
 unfold spec_l1In.f
 split
 ·
  rename_i h; simp [h]
 ·
  rename_i h; simp; omega
theorem between_f (a b c : Int) : impl_between.f a b c = some (decide (b ≤ a ∧ a ≤ c)) := by
 unfold impl_between.f
 split
 ·
  rename_i h; simp [h]
 ·
  rename_i h; simp; omega

def allB (l : List Int) (a b : Int) : Bool := l.all fun x => decide (a ≤ x ∧ x ≤ b)
def goodB (l : List Int) : Bool := decide (1 ≤ (l.length : Int) ∧ (l.length : Int) ≤ 8) && allB l 0 120
theorem allB_mem {l : List Int} {a b : Int} (h : allB l a b = true) {x : Int} (hx : x ∈ l) : a ≤ x ∧ x ≤ b := by
 unfold allB at h
 simpa using List.all_eq_true.mp h x hx
theorem good_len {l : List Int} (h : goodB l = true) : 1 ≤ l.length ∧ l.length ≤ 8 := by
 unfold goodB at h
 simp at h
 omega
theorem good_all {l : List Int} (h : goodB l = true) : allB l 0 120 = true := by
 unfold goodB at h
 simp only [Bool.and_eq_true] at h
 exact h.2
theorem good_mem {l : List Int} (h : goodB l = true) {x : Int} (hx : x ∈ l) : 0 ≤ x ∧ x ≤ 120 := allB_mem (good_all h) hx
theorem rd_at (l : List Int) (i : Nat) (h : i < l.length) : rd l (i : Int) = l[i] := by simp [rd, List.getD_eq_getElem?_getD, List.getElem?_eq_getElem h]
theorem rd_mem {l : List Int} {i : Int} (h0 : 0 ≤ i) (h1 : i < (l.length : Int)) : rd l i ∈ l := by
 obtain ⟨n, rfl⟩ := Int.eq_ofNat_of_zero_le h0
 rw [rd_at l n (by omega)]
 exact List.getElem_mem _
theorem drop_rd (l : List Int) (i : Nat) (h : i < l.length) : l.drop i = rd l (i : Int) :: l.drop (i + 1) := by rw [rd_at l i h]; exact List.drop_eq_getElem_cons h
theorem l1All_l (l : List Int) (a b : Int) (hb : l.length ≤ 4611686018427387904) (d : Nat) : ∀ (i : Nat), i + d = l.length → Ev (fun k => spec_l1All.l0 k a b l (l.length : Int) (i : Int)) (allB (l.drop i) a b) := by
 induction d with
 | zero =>
  intro i hi
  exact Ev.step (f := fun _ => some true) (fun k => by simp only [spec_l1All.l0]; rw [if_neg (by omega)]) (Ev.same (Ev.now _) (by rw [List.drop_of_length_le (by omega)]; rfl))
 | succ d ih =>
  intro i hi
  have ew : wrap64 ((i : Int) + 1) = ((i + 1 : Nat) : Int) := by rw [w64 (by omega) (by omega)]; omega
  refine Ev.step (fun k => by simp only [spec_l1All.l0]; rw [if_pos (by omega), if_pos (by omega), if_pos (by omega), ew, l1In_f]) ?_
  rw [drop_rd l i (by omega)]
  by_cases h : a ≤ rd l (i : Int) ∧ rd l (i : Int) ≤ b
  ·
   exact Ev.if_pos (by simpa using h) (Ev.same (ih (i + 1) (by omega)) (by simp [allB, h]))
  ·
   exact Ev.if_neg (by simpa using h) (Ev.same (Ev.now _) (by simp only [allB, List.all_cons, decide_eq_false h, Bool.false_and]))
theorem l1All_f (l : List Int) (a b : Int) (hb : l.length ≤ 4611686018427387904) : Ev (fun k => spec_l1All.f k l a b) (allB l a b) :=
 Ev.same (l1All_l l a b hb l.length 0 (by omega)) (by simp)
theorem agGood_f (l : List Int) : Ev (fun k => spec_agGood.f k l) (goodB l) := by
 refine Ev.congr (fun k => by unfold spec_agGood.f; rfl) (Ev.got (l1In_f (l.length : Int) 1 8) ?_)
 by_cases h : 1 ≤ (l.length : Int) ∧ (l.length : Int) ≤ 8
 ·
  refine Ev.if_pos (by simpa using h) (Ev.bind (l1All_f l 0 120 (by omega)) (Ev.same (Ev.now _) ?_))
  unfold goodB; rw [decide_eq_true h]; simp
 ·
  refine Ev.if_neg (by simpa using h) (Ev.same (Ev.now _) ?_)
  unfold goodB; rw [decide_eq_false h]; simp
theorem areBetween_f (l : List Int) (a b : Int) : impl_areBetween.f l a b = some (allB l a b) := by
 unfold impl_areBetween.f allB
 simp only [Option.some.injEq]
 induction l with
 | nil => rfl
 | cons x xs ih => simp only [List.any_cons, List.all_cons, Bool.not_or, Bool.not_not, ih]
theorem areAges_f (l : List Int) : impl_AreAges.f l = some (goodB l) := by
 unfold impl_AreAges.f goodB
 rw [between_f]
 simp only [Option.bind_some, areBetween_f]
 by_cases h : 1 ≤ (l.length : Int) ∧ (l.length : Int) ≤ 8
 ·
  rw [decide_eq_true h]; simp
 ·
  rw [decide_eq_false h]; simp

def addOf (l : List Int) (a : Int) : List Int × Bool := if goodB l = true ∧ (0 ≤ a ∧ a ≤ 120) ∧ l.length ≠ 8 then (l ++ [a], true) else ([], false)
theorem addOf_length (l : List Int) (a : Int) : (addOf l a).1.length ≤ 9 := by
 unfold addOf
 split
 ·
  rename_i h; have := good_len h.1; simp; omega
 ·
  simp
theorem good_snoc {l : List Int} (hg : goodB l = true) (a : Int) : goodB (l ++ [a]) = true ↔ (0 ≤ a ∧ a ≤ 120) ∧ l.length ≠ 8 := by
 have h1 := good_len hg
 have h2 := good_all hg
 unfold goodB allB at *
 simp only [List.all_append, h2, Bool.and_eq_true, decide_eq_true_eq, List.length_append, List.length_singleton, List.all_cons, List.all_nil]
 constructor
 ·
  intro h; exact ⟨h.2.2.1, by omega⟩
 ·
  intro h; exact ⟨by omega, trivial, h.1, trivial⟩
theorem specAdd_f (l : List Int) (a : Int) : Ev (fun k => spec_AddAge.f k l a) (addOf l a) := by
 refine Ev.congr (fun k => by unfold spec_AddAge.f; rfl) (Ev.bind (agGood_f l) ?_)
 cases hg : goodB l with
 | true =>
  have := good_len hg
  refine Ev.if_pos rfl (Ev.got (l1In_f a 0 120) ?_)
  by_cases ha : 0 ≤ a ∧ a ≤ 120
  ·
   refine Ev.if_pos (by simpa using ha) ?_
   by_cases h8 : l.length = 8
   ·
    exact Ev.if_pos (by omega) (Ev.same (Ev.now _) (by unfold addOf; rw [if_neg (fun h => h.2.2 h8)]))
   ·
    refine Ev.if_neg (by omega) (Ev.const (fun k => ?_))
    unfold addOf spec_l1Own.f
    rw [if_pos ⟨hg, ha, h8⟩]
    simp only [Option.bind_some, List.length_nil, List.nil_append]
    rw [if_pos (by omega)]
    simp only [Option.bind_some]
    rw [if_pos (by omega)]
  ·
   exact Ev.if_neg (by simpa using ha) (Ev.same (Ev.now _) (by unfold addOf; rw [if_neg (fun h => ha h.2.1)]))
 | false => exact Ev.if_neg (by simp) (Ev.same (Ev.now _) (by unfold addOf; rw [if_neg (fun h => by rw [hg] at h; simp at h)]))
theorem implAdd_f (l : List Int) (a : Int) : impl_AddAge.f l a = some (addOf l a) := by
 unfold impl_AddAge.f
 rw [areAges_f]
 simp only [Option.bind_some]
 cases hg : goodB l with
 | true =>
  have := good_len hg
  rw [if_pos rfl]
  unfold slices_Clone_int_int.f
  rw [if_pos (by omega)]
  simp only [Option.bind_some]
  rw [if_pos (by omega)]
  unfold impl_agesOr.f
  rw [areAges_f]
  simp only [Option.bind_some]
  cases hs : goodB (l ++ [a]) with
  | true => simp only [if_true, Option.bind_some]; unfold addOf; rw [if_pos ⟨hg, (good_snoc hg a).mp hs⟩]
  | false => simp only [Bool.false_eq_true, if_false, Option.bind_some]; unfold addOf; rw [if_neg (fun h => by rw [(good_snoc hg a).mpr h.2] at hs; simp at hs)]
 | false => rw [if_neg (by simp)]; unfold addOf; rw [if_neg (fun h => by rw [hg] at h; simp at h)]

def bl (x : List UInt8) : ByteArray := ⟨x.toArray⟩
theorem bl_append (x y : List UInt8) : bl x ++ bl y = bl (x ++ y) := by
 apply ByteArray.ext
 rw [ByteArray.data_append]
 simp [bl]
theorem bl_size (x : List UInt8) : (bl x).size = x.length := by
 show x.toArray.size = _
 simp
theorem bl_list (x : List UInt8) : (bl x).data.toList = x := by simp [bl]
theorem nums_one (n : Nat) (h : n < 256) : strOfNums [(n : Int)] = bl [UInt8.ofNat n] := by
 apply ByteArray.ext
 show (ByteArray.empty.push (UInt8.ofNat (n : Int).toNat)).data = _
 rw [Int.toNat_natCast]
 rfl
theorem l1Num_f (n : Nat) : n ≤ 1000000 → Ev (fun k => spec_l1Num.f k (n : Int)) (bl (Lib.decDigits n)) := by
 induction n using Nat.strongRecOn with
 | _ n ih =>
  intro hn
  by_cases h : n < 10
  ·
   refine Ev.step (f := fun _ => some (bl (Lib.decDigits n))) (fun k => ?_) (Ev.now _)
   simp only [spec_l1Num.f]
   rw [if_pos (show (n : Int) < 10 by omega), w64 (by omega) (by omega), show (48 + (n : Int)) % 256 = ((48 + n : Nat) : Int) by omega, nums_one _ (by omega), Lib.decDigits, dif_pos h]
  ·
   have h2 := ih (n / 10) (by omega) (by omega)
   have ed : wrap64 (Int.tdiv (n : Int) 10) = ((n / 10 : Nat) : Int) := by
    rw [Int.tdiv_eq_ediv_of_nonneg (by omega), w64 (by omega) (by omega)]; omega
   have em : wrap64 (48 + Int.tmod (n : Int) 10) % 256 = ((48 + n % 10 : Nat) : Int) := by
    rw [Int.tmod_eq_emod_of_nonneg (by omega), w64 (by omega) (by omega)]; omega
   have eD : Lib.decDigits n = Lib.decDigits (n / 10) ++ [UInt8.ofNat (48 + n % 10)] := by rw [Lib.decDigits, dif_neg h]
   have hlen : ∀ m d : Nat, m < 10 ^ (d + 1) → (Lib.decDigits m).length ≤ d + 1 := by
    intro m d
    induction d generalizing m with
    | zero => intro hm; rw [Lib.decDigits, dif_pos (by simpa using hm)]; simp
    | succ d ihd =>
     intro hm
     by_cases h1 : m < 10
     ·
      rw [Lib.decDigits, dif_pos h1]; simp
     ·
      rw [Lib.decDigits, dif_neg h1, List.length_append]
      have := ihd (m / 10) (by rw [Nat.pow_succ] at hm; omega)
      simp only [List.length_singleton]
      omega
   have hl := hlen (n / 10) 6 (by omega)
   refine Ev.step (fun k => by simp only [spec_l1Num.f]; rw [if_neg (show ¬ (n : Int) < 10 by omega), ed, em]) ?_
   refine Ev.bind h2 ?_
   refine Ev.congr (f := fun _ => if (bl (Lib.decDigits (n / 10))).size + (bl [UInt8.ofNat (48 + n % 10)]).size ≤ 9223372036854775807 then some (bl (Lib.decDigits (n / 10)) ++ bl [UInt8.ofNat (48 + n % 10)]) else none) (fun k => by simp only [Option.bind_some]; rw [nums_one _ (by omega)]) ?_
   refine Ev.if_pos (by rw [bl_size, bl_size]; simp only [List.length_singleton]; omega) ?_
   rw [bl_append, ← eD]
   exact Ev.now _
theorem itoa_num {n : Int} (h0 : 0 ≤ n) : Lib.itoa n = Lib.decDigits n.toNat := by unfold Lib.itoa; rw [if_neg (by omega)]
theorem itoa_len {n : Int} (h0 : 0 ≤ n) (h1 : n < 1000) : (Lib.itoa n).length ≤ 3 := by
 rw [itoa_num h0]
 have h : n.toNat < 1000 := by omega
 generalize n.toNat = m at h
 by_cases a : m < 10
 ·
  rw [Lib.decDigits, dif_pos a]; simp
 ·
  rw [Lib.decDigits, dif_neg a]
  by_cases b : m / 10 < 10
  ·
   rw [Lib.decDigits, dif_pos b]; simp
  ·
   rw [Lib.decDigits, dif_neg b, Lib.decDigits, dif_pos (by omega)]; simp
theorem num_of {n : Int} (h0 : 0 ≤ n) (h1 : n ≤ 1000000) : Ev (fun k => spec_l1Num.f k n) (bl (Lib.itoa n)) := by
 rw [itoa_num h0]
 have := l1Num_f n.toNat (by omega)
 rwa [Int.toNat_of_nonneg h0] at this
theorem tail_len (r : List Int) (hr : ∀ x ∈ r, 0 ≤ x ∧ x ≤ 120) : (Lib.joinTail [45] (r.map Lib.itoa)).length ≤ 4 * r.length := by
 induction r with
 | nil => simp [Lib.joinTail]
 | cons x xs ih =>
  have h := hr x (by simp)
  have h2 := itoa_len h.1 (by omega)
  have h3 := ih (fun y hy => hr y (by simp [hy]))
  unfold Lib.joinTail at h3 ⊢
  simp only [List.map_cons, List.flatten_cons, List.length_append, List.length_cons, List.length_nil] at h3 ⊢
  omega
theorem agText_l {l : List Int} (hl : l.length ≤ 8) (ok : ∀ x ∈ l, 0 ≤ x ∧ x ≤ 120) (d : Nat) : ∀ (i : Nat) (a : List UInt8), 1 ≤ i → i + d = l.length → a.length + 4 * d ≤ 1000000 → Ev (fun k => spec_agText.l0 k (bl a) l (l.length : Int) (i : Int)) (bl (a ++ Lib.joinTail [45] ((l.drop i).map Lib.itoa))) := by
 induction d with
 | zero =>
  intro i a _ hi _
  exact Ev.step (f := fun _ => some (bl a)) (fun k => by simp only [spec_agText.l0]; rw [if_neg (by omega)]) (Ev.same (Ev.now _) (by rw [List.drop_of_length_le (by omega)]; simp [Lib.joinTail]))
 | succ d ih =>
  intro i a h1 hi ha
  have ew : wrap64 ((i : Int) + 1) = ((i + 1 : Nat) : Int) := by rw [w64 (by omega) (by omega)]; omega
  have hm := ok _ (rd_mem (l := l) (i := (i : Int)) (by omega) (by omega))
  have h3 := itoa_len hm.1 (show rd l (i : Int) < 1000 by omega)
  have h4 := ih (i + 1) (a ++ [45] ++ Lib.itoa (rd l (i : Int))) (by omega) (by omega) (by simp only [List.length_append, List.length_singleton]; omega)
  refine Ev.step (fun k => by simp only [spec_agText.l0]; rw [if_pos (show (i : Int) < (l.length : Int) by omega), if_pos (show 0 ≤ (i : Int) by omega), if_pos (show (i : Int) < (l.length : Int) by omega), if_pos (show (i : Int) > 0 by omega), ew, show (⟨#[45]⟩ : ByteArray) = bl [45] from rfl, bl_append]) ?_
  refine Ev.if_pos (by rw [bl_size]; omega) (Ev.bind (num_of hm.1 (by omega)) (Ev.if_pos (by rw [bl_size, bl_size]; simp only [List.length_append, List.length_singleton]; omega) ?_))
  simp only [bl_append]
  refine Ev.same h4 ?_
  rw [drop_rd l i (by omega), List.map_cons]
  simp [Lib.joinTail, List.append_assoc]
def ageText (l : List Int) : List UInt8 := Lib.join (l.map Lib.itoa) [45]
theorem ageText_cons (x : Int) (xs : List Int) : ageText (x :: xs) = Lib.itoa x ++ Lib.joinTail [45] (xs.map Lib.itoa) := by unfold ageText; rw [List.map_cons, Lib.join_cons]
theorem ageText_len {l : List Int} (ok : ∀ x ∈ l, 0 ≤ x ∧ x ≤ 120) : (ageText l).length ≤ 4 * l.length := by
 cases l with
 | nil => simp [ageText, Lib.join_nil]
 | cons x xs =>
  rw [ageText_cons, List.length_append]
  have h := ok x (by simp)
  have h2 := itoa_len h.1 (by omega)
  have h3 := tail_len xs (fun y hy => ok y (by simp [hy]))
  simp only [List.length_cons]
  omega
theorem agText_f {l : List Int} (hg : goodB l = true) : Ev (fun k => spec_agText.f k l) (bl (ageText l)) := by
 have hl := good_len hg
 have ok : ∀ x ∈ l, 0 ≤ x ∧ x ≤ 120 := fun x hx => good_mem hg hx
 have hm := ok _ (rd_mem (l := l) (i := 0) (by omega) (by omega))
 have h3 := itoa_len hm.1 (show rd l 0 < 1000 by omega)
 have h4 := agText_l hl.2 ok (l.length - 1) 1 (Lib.itoa (rd l 0)) (Nat.le_refl _) (by omega) (by omega)
 have ew : wrap64 (0 + 1) = ((1 : Nat) : Int) := by rw [w64 (by omega) (by omega)]; omega
 refine Ev.congr (fun k => by unfold spec_agText.f; rfl) ?_
 refine Ev.step (fun k => by simp only [spec_agText.l0]; rw [if_pos (show (0 : Int) < (l.length : Int) by omega), if_pos (show (0 : Int) ≤ 0 by omega), if_pos (show (0 : Int) < (l.length : Int) by omega), if_neg (show ¬ (0 : Int) > 0 by omega), ew]) ?_
 refine Ev.bind (num_of hm.1 (by omega)) (Ev.if_pos (by rw [bl_size]; show (⟨#[]⟩ : ByteArray).size + _ ≤ _; rw [show (⟨#[]⟩ : ByteArray).size = 0 from rfl]; omega) ?_)
 rw [show (⟨#[]⟩ : ByteArray) = bl [] from rfl, bl_append, List.nil_append]
 refine Ev.same h4 ?_
 have hc : l = rd l 0 :: l.drop 1 := by have := drop_rd l 0 (by omega); simpa using this
 rw [show ageText l = ageText (rd l 0 :: l.drop 1) from congrArg ageText hc, ageText_cons]
theorem joined_l {l : List Int} (hl : l.length ≤ 8) (ok : ∀ x ∈ l, 0 ≤ x ∧ x ≤ 120) (d : Nat) : ∀ (i : Nat), i + d = l.length → Ev (fun k => impl_joined.l0 k (bl [45]) ((l.take i).map (fun x => bl (Lib.itoa x))) l (l.length : Int) (i : Int)) (bl (ageText l)) := by
 induction d with
 | zero =>
  intro i hi
  have hlen := ageText_len ok
  refine Ev.step (f := fun _ => some (bl (ageText l))) (fun k => ?_) (Ev.now _)
  simp only [impl_joined.l0]
  rw [if_neg (by omega), List.take_of_length_le (by omega)]
  unfold strings_Join.f
  have e : ((l.map (fun x => bl (Lib.itoa x))).map (·.data.toList)) = l.map Lib.itoa := by
   rw [List.map_map]
   exact List.map_congr_left (fun x _ => bl_list _)
  rw [e, bl_list, if_pos ⟨by rw [List.length_map]; omega, by show (ageText l).length ≤ _; omega⟩]
  rfl
 | succ d ih =>
  intro i hi
  have ew : wrap64 ((i : Int) + 1) = ((i + 1 : Nat) : Int) := by rw [w64 (by omega) (by omega)]; omega
  have hm := ok _ (rd_mem (l := l) (i := (i : Int)) (by omega) (by omega))
  have hI : strconv_Itoa_86.f (rd l (i : Int)) = some (bl (Lib.itoa (rd l (i : Int)))) := by unfold strconv_Itoa_86.f; rw [if_pos (by omega)]; rfl
  refine Ev.step (fun k => by simp only [impl_joined.l0]; rw [if_pos (show (i : Int) < (l.length : Int) by omega), if_pos (show 0 ≤ (i : Int) by omega), if_pos (show (i : Int) < (l.length : Int) by omega), ew]) ?_
  refine Ev.got hI (Ev.if_pos (by rw [List.length_map, List.length_take]; omega) ?_)
  refine Ev.congr (fun k => ?_) (ih (i + 1) (by omega))
  rw [List.take_succ_eq_append_getElem (show i < l.length by omega), List.map_append, rd_at l i (by omega)]
  rfl
theorem joined_f {l : List Int} (hg : goodB l = true) : Ev (fun k => impl_joined.f k l (⟨#[45]⟩ : ByteArray)) (bl (ageText l)) := by
 refine Ev.congr (fun k => by unfold impl_joined.f; rfl) ?_
 exact joined_l (good_len hg).2 (fun x hx => good_mem hg hx) l.length 0 (by omega)
def atOf (l : List Int) : ByteArray × Bool := if goodB l = true then (bl (ageText l), true) else (⟨#[]⟩, false)
theorem specAT_f (l : List Int) : Ev (fun k => spec_AgesText.f k l) (atOf l) := by
 refine Ev.congr (fun k => by unfold spec_AgesText.f; rfl) ?_
 refine Ev.bind (agGood_f l) ?_
 unfold atOf
 cases hg : goodB l with
 | true => exact Ev.if_pos rfl (Ev.bind (agText_f hg) (by rw [if_pos rfl]; exact Ev.now _))
 | false => exact Ev.if_neg (by simp) (by rw [if_neg (by simp)]; exact Ev.now _)
theorem implAT_f (l : List Int) : Ev (fun k => impl_AgesText.f k l) (atOf l) := by
 refine Ev.congr (fun k => by unfold impl_AgesText.f; rfl) ?_
 refine Ev.got (areAges_f l) ?_
 unfold atOf
 cases hg : goodB l with
 | true => exact Ev.if_pos rfl (Ev.bind (joined_f hg) (by rw [if_pos rfl]; exact Ev.now _))
 | false => exact Ev.if_neg (by simp) (by rw [if_neg (by simp)]; exact Ev.now _)

theorem minFrom_le (l : List Int) : ∀ m, minFrom l m ≤ m ∧ ∀ x ∈ l, minFrom l m ≤ x := by
 induction l with
 | nil => intro m; simp [minFrom]
 | cons a l ih =>
  intro m
  simp only [minFrom]
  by_cases h : a < m
  ·
   rw [if_pos h]
   obtain ⟨h1, h2⟩ := ih a
   refine ⟨by omega, fun x hx => ?_⟩
   rcases List.mem_cons.mp hx with rfl | hx
   ·
    exact h1
   ·
    exact h2 x hx
  ·
   rw [if_neg h]
   obtain ⟨h1, h2⟩ := ih m
   refine ⟨h1, fun x hx => ?_⟩
   rcases List.mem_cons.mp hx with rfl | hx
   ·
    omega
   ·
    exact h2 x hx
theorem maxFrom_ge (l : List Int) : ∀ m, m ≤ maxFrom l m ∧ ∀ x ∈ l, x ≤ maxFrom l m := by
 induction l with
 | nil => intro m; simp [maxFrom]
 | cons a l ih =>
  intro m
  simp only [maxFrom]
  by_cases h : m < a
  ·
   rw [if_pos h]
   obtain ⟨h1, h2⟩ := ih a
   refine ⟨by omega, fun x hx => ?_⟩
   rcases List.mem_cons.mp hx with rfl | hx
   ·
    exact h1
   ·
    exact h2 x hx
  ·
   rw [if_neg h]
   obtain ⟨h1, h2⟩ := ih m
   refine ⟨h1, fun x hx => ?_⟩
   rcases List.mem_cons.mp hx with rfl | hx
   ·
    omega
   ·
    exact h2 x hx
theorem minFrom_mem (l : List Int) : ∀ m, minFrom l m = m ∨ minFrom l m ∈ l := by
 induction l with
 | nil => intro m; simp [minFrom]
 | cons a l ih =>
  intro m
  simp only [minFrom]
  by_cases h : a < m
  ·
   rw [if_pos h]
   rcases ih a with e | e
   ·
    exact .inr (by rw [e]; simp)
   ·
    exact .inr (List.mem_cons_of_mem _ e)
  ·
   rw [if_neg h]
   rcases ih m with e | e
   ·
    exact .inl e
   ·
    exact .inr (List.mem_cons_of_mem _ e)
theorem maxFrom_mem (l : List Int) : ∀ m, maxFrom l m = m ∨ maxFrom l m ∈ l := by
 induction l with
 | nil => intro m; simp [maxFrom]
 | cons a l ih =>
  intro m
  simp only [maxFrom]
  by_cases h : m < a
  ·
   rw [if_pos h]
   rcases ih a with e | e
   ·
    exact .inr (by rw [e]; simp)
   ·
    exact .inr (List.mem_cons_of_mem _ e)
  ·
   rw [if_neg h]
   rcases ih m with e | e
   ·
    exact .inl e
   ·
    exact .inr (List.mem_cons_of_mem _ e)
def loY (l : List Int) : Int := -(minFrom (l.drop 1) (rd l 0))
def hiY (l : List Int) : Int := 120 - maxFrom (l.drop 1) (rd l 0)
theorem head_drop {l : List Int} (h : 1 ≤ l.length) : l = rd l 0 :: l.drop 1 := by
 have := drop_rd l 0 (by omega)
 simpa using this
theorem min_all {l : List Int} (h : 1 ≤ l.length) {x : Int} (hx : x ∈ l) : minFrom (l.drop 1) (rd l 0) ≤ x := by
 obtain ⟨h1, h2⟩ := minFrom_le (l.drop 1) (rd l 0)
 rw [head_drop h] at hx
 rcases List.mem_cons.mp hx with rfl | hx
 ·
  exact h1
 ·
  exact h2 x hx
theorem max_all {l : List Int} (h : 1 ≤ l.length) {x : Int} (hx : x ∈ l) : x ≤ maxFrom (l.drop 1) (rd l 0) := by
 obtain ⟨h1, h2⟩ := maxFrom_ge (l.drop 1) (rd l 0)
 rw [head_drop h] at hx
 rcases List.mem_cons.mp hx with rfl | hx
 ·
  exact h1
 ·
  exact h2 x hx
theorem min_in {l : List Int} (h : 1 ≤ l.length) : minFrom (l.drop 1) (rd l 0) ∈ l := by
 rcases minFrom_mem (l.drop 1) (rd l 0) with e | e
 ·
  rw [e]; exact rd_mem (by omega) (by omega)
 ·
  exact List.mem_of_mem_drop e
theorem max_in {l : List Int} (h : 1 ≤ l.length) : maxFrom (l.drop 1) (rd l 0) ∈ l := by
 rcases maxFrom_mem (l.drop 1) (rd l 0) with e | e
 ·
  rw [e]; exact rd_mem (by omega) (by omega)
 ·
  exact List.mem_of_mem_drop e
theorem range_bounds {l : List Int} (hg : goodB l = true) : -120 ≤ loY l ∧ loY l ≤ 0 ∧ 0 ≤ hiY l ∧ hiY l ≤ 120 := by
 have h1 := good_mem hg (min_in (good_len hg).1)
 have h2 := good_mem hg (max_in (good_len hg).1)
 unfold loY hiY
 omega
theorem fit_iff {l : List Int} (h : 1 ≤ l.length) (y : Int) : (loY l ≤ y ∧ y ≤ hiY l) ↔ ∀ x ∈ l, 0 ≤ x + y ∧ x + y ≤ 120 := by
 constructor
 ·
  intro hy x hx
  have h1 := min_all h hx
  have h2 := max_all h hx
  unfold loY hiY at hy
  omega
 ·
  intro ha
  have h1 := ha _ (min_in h)
  have h2 := ha _ (max_in h)
  unfold loY hiY
  omega
theorem least_f (m x : Int) : spec_l1Least.f m x = some (if x < m then x else m) := by
 unfold spec_l1Least.f
 by_cases h : m < x
 ·
  rw [if_pos h, if_neg (by omega)]
 ·
  rw [if_neg h]
  by_cases h2 : x < m
  ·
   rw [if_pos h2]
  ·
   rw [if_neg h2]; congr 1; omega
theorem most_f (m x : Int) : spec_l1Most.f m x = some (if m < x then x else m) := by
 unfold spec_l1Most.f
 by_cases h : m > x
 ·
  rw [if_pos h, if_neg (by omega)]
 ·
  rw [if_neg h]
  by_cases h2 : m < x
  ·
   rw [if_pos h2]
  ·
   rw [if_neg h2]; congr 1; omega
theorem agRange_l (l : List Int) (hb : l.length ≤ 1048576) (d : Nat) : ∀ (i : Nat) (m n : Int), i + d = l.length → Ev (fun k => spec_agRange.l0 k m n l (l.length : Int) (i : Int)) (wrap64 (-(minFrom (l.drop i) m)), wrap64 (120 - maxFrom (l.drop i) n)) := by
 induction d with
 | zero =>
  intro i m n hi
  exact Ev.step (f := fun _ => some (wrap64 (-m), wrap64 (120 - n))) (fun k => by simp only [spec_agRange.l0]; rw [if_neg (by omega)]) (Ev.same (Ev.now _) (by rw [List.drop_of_length_le (by omega)]; rfl))
 | succ d ih =>
  intro i m n hi
  have ew : wrap64 ((i : Int) + 1) = ((i + 1 : Nat) : Int) := by rw [w64 (by omega) (by omega)]; omega
  refine Ev.step (f := fun k => spec_agRange.l0 k (if rd l (i : Int) < m then rd l (i : Int) else m) (if n < rd l (i : Int) then rd l (i : Int) else n) l (l.length : Int) ((i + 1 : Nat) : Int)) (fun k => ?_) (Ev.same (ih (i + 1) _ _ (by omega)) (by rw [drop_rd l i (by omega)]; rfl))
  simp only [spec_agRange.l0]; rw [if_pos (by omega), if_pos (by omega), if_pos (by omega), ew, least_f, most_f]; rfl
theorem agRange_f {l : List Int} (hg : goodB l = true) : Ev (fun k => spec_agRange.f k l) (loY l, hiY l) := by
 have hl := good_len hg
 have hb := range_bounds hg
 refine Ev.congr (fun k => by unfold spec_agRange.f; rfl) (Ev.if_pos (by omega) (Ev.same (agRange_l l (by omega) l.length 0 _ _ (by omega)) ?_))
 have e1 : minFrom (l.drop 0) (rd l 0) = minFrom (l.drop 1) (rd l 0) := by
  have := drop_rd l 0 (by omega)
  simp only [Int.ofNat_zero, Nat.zero_add] at this
  rw [this]; simp [minFrom]
 have e2 : maxFrom (l.drop 0) (rd l 0) = maxFrom (l.drop 1) (rd l 0) := by
  have := drop_rd l 0 (by omega)
  simp only [Int.ofNat_zero, Nat.zero_add] at this
  rw [this]; simp [maxFrom]
 rw [e1, e2]
 unfold loY hiY at hb ⊢
 rw [w64 (by omega) (by omega), w64 (by omega) (by omega)]
theorem fitYears_f {l : List Int} (hg : goodB l = true) : impl_fitYears.f l = some (loY l, hiY l) := by
 have hl := good_len hg
 have hb := range_bounds hg
 unfold impl_fitYears.f slices_Min_int_int.f slices_Max_int_int.f
 rw [if_pos (by omega), if_pos (by omega)]
 simp only [Option.bind_some]
 unfold loY hiY at hb ⊢
 rw [w64 (by omega) (by omega), w64 (by omega) (by omega)]

def fitB (l : List Int) (y : Int) : Bool := goodB l && decide (loY l ≤ y ∧ y ≤ hiY l)
theorem fit_good {l : List Int} {y : Int} (h : fitB l y = true) : goodB l = true ∧ loY l ≤ y ∧ y ≤ hiY l := by
 unfold fitB at h
 simpa using h
theorem isFit_f {l : List Int} (hg : goodB l = true) (y : Int) : impl_isFit.f l y = some (fitB l y) := by
 unfold impl_isFit.f
 rw [fitYears_f hg]
 simp only [Option.bind_some, between_f]
 unfold fitB; rw [hg]; rfl

def inY (l : List Int) (y : Int) : List Int := l.map fun x => wrap64 (x + y)
theorem inY_length (l : List Int) (y : Int) : (inY l y).length = l.length := by simp [inY]
theorem inYears_l (y : Int) (l : List Int) (hb : l.length ≤ 1048576) (d : Nat) : ∀ (i : Nat) (acc : List Int), i + d = l.length → acc.length + d ≤ 1048576 → Ev (fun k => impl_inYears.l0 k y acc l (l.length : Int) (i : Int)) (acc ++ (l.drop i).map (fun x => wrap64 (x + y))) := by
 induction d with
 | zero =>
  intro i acc hi ha
  exact Ev.step (f := fun _ => some acc) (fun k => by simp only [impl_inYears.l0]; rw [if_neg (by omega)]) (Ev.same (Ev.now _) (by rw [List.drop_of_length_le (by omega)]; simp))
 | succ d ih =>
  intro i acc hi ha
  have ew : wrap64 ((i : Int) + 1) = ((i + 1 : Nat) : Int) := by rw [w64 (by omega) (by omega)]; omega
  refine Ev.step (f := fun k => impl_inYears.l0 k y (acc ++ [wrap64 (rd l (i : Int) + y)]) l (l.length : Int) ((i + 1 : Nat) : Int)) (fun k => ?_) (Ev.same (ih (i + 1) _ (by omega) (by simp; omega)) (by rw [drop_rd l i (by omega)]; simp))
  simp only [impl_inYears.l0]; rw [if_pos (by omega), if_pos (by omega), if_pos (by omega), if_pos (by omega), ew]
theorem inYears_f (l : List Int) (y : Int) (hb : l.length ≤ 1048576) : Ev (fun k => impl_inYears.f k l y) (inY l y) := Ev.same (inYears_l y l hb l.length 0 [] (by omega) (by simp; omega)) (by simp [inY])

def aiOf (l : List Int) (y : Int) : List Int × Bool := if fitB l y = true then (inY l y, true) else ([], false)
theorem implAI_f (l : List Int) (y : Int) : Ev (fun k => impl_AgesIn.f k l y) (aiOf l y) := by
 refine Ev.congr (fun k => by unfold impl_AgesIn.f; rfl) (Ev.got (areAges_f l) ?_)
 cases hg : goodB l with
 | true =>
  have := good_len hg
  refine Ev.if_pos rfl (Ev.got (isFit_f hg y) ?_)
  cases hf : fitB l y with
  | true => exact Ev.if_pos rfl (Ev.bind (inYears_f l y (by omega)) (Ev.same (Ev.now _) (by unfold aiOf; rw [hf]; rfl)))
  | false => exact Ev.if_neg (by simp) (Ev.same (Ev.now _) (by unfold aiOf; rw [hf]; rfl))
 | false =>
  have hf : fitB l y = false := by unfold fitB; rw [hg]; rfl
  exact Ev.if_neg (by simp) (Ev.same (Ev.now _) (by unfold aiOf; rw [hf]; rfl))

def Twos (n : Nat) (s : List (List Int)) : Prop := s.length ≤ n ∧ ∀ x ∈ s, x.length = 2

def prB (l : List Int) (a : Int) : Nat → Int → List (List Int) → List (List Int)
 | 0, _, acc => acc
 | d + 1, b, acc => prB l a d (b + 1) (if rd l a = rd l b then acc ++ [[a, b]] else acc)
def prA (l : List Int) : Nat → Int → List (List Int) → List (List Int)
 | 0, _, acc => acc
 | d + 1, a, acc => prA l d (a + 1) (prB l a d (a + 1) acc)
theorem prB_twos (l : List Int) (a : Int) (d : Nat) : ∀ (b : Int) (acc : List (List Int)) (n : Nat), Twos n acc → Twos (n + d) (prB l a d b acc) := by
 induction d with
 | zero => intro b acc n h; exact h
 | succ d ih =>
  intro b acc n h
  rw [prB]
  have h2 : Twos (n + 1) (if rd l a = rd l b then acc ++ [[a, b]] else acc) := by
   split
   ·
    refine ⟨by have := h.1; simp; omega, fun x hx => ?_⟩
    rcases List.mem_append.mp hx with hx | hx
    ·
     exact h.2 x hx
    ·
     rw [List.mem_singleton.mp hx]; rfl
   ·
    exact ⟨by have := h.1; omega, h.2⟩
  have := ih (b + 1) _ _ h2
  rwa [Nat.add_assoc, Nat.add_comm 1 d] at this
theorem spec_AlikePairs_l1 {l : List Int} (hl : l.length ≤ 8) (d : Nat) : ∀ (a b : Int) (acc : List (List Int)) (r : List (List Int) × Bool), 0 ≤ a → a < (l.length : Int) → 0 ≤ b → b + d = l.length → acc.length + d ≤ 1000 → Ev (fun k => spec_AlikePairs.l0 k l (prB l a d b acc) (l.length : Int) (a + 1)) r → Ev (fun k => spec_AlikePairs.l1 k l acc a b (l.length : Int) a) r := by
 induction d with
 | zero =>
  intro a b acc r h0 h1 h2 h3 h4 h
  have ew : wrap64 (a + 1) = a + 1 := w64 (by omega) (by omega)
  exact Ev.step (fun k => by simp only [spec_AlikePairs.l1]; rw [if_neg (show ¬ b < (l.length : Int) by omega), ew]; rfl) h
 | succ d ih =>
  intro a b acc r h0 h1 h2 h3 h4 h
  have ew : wrap64 (b + 1) = b + 1 := w64 (by omega) (by omega)
  refine Ev.step (fun k => by simp only [spec_AlikePairs.l1]; rw [if_pos (show b < (l.length : Int) by omega), if_pos h0, if_pos h1, if_pos h2, ew]) ?_
  by_cases he : rd l a = rd l b
  ·
   refine Ev.if_pos he (Ev.if_pos (by omega) (ih a (b + 1) (acc ++ [[a, b]]) r h0 h1 (by omega) (by omega) (by simp; omega) ?_))
   rw [prB, if_pos he] at h; exact h
  ·
   refine Ev.if_neg he (ih a (b + 1) acc r h0 h1 (by omega) (by omega) (by omega) ?_)
   rw [prB, if_neg he] at h; exact h
theorem spec_AlikePairs_l0 {l : List Int} (hl : l.length ≤ 8) (d : Nat) : ∀ (a : Int) (acc : List (List Int)), 0 ≤ a → a + d = l.length → Twos (100 - 8 * d) acc → Ev (fun k => spec_AlikePairs.l0 k l acc (l.length : Int) a) (prA l d a acc, true) := by
 induction d with
 | zero =>
  intro a acc h0 h1 h2
  exact Ev.step (f := fun _ => some (acc, true)) (fun k => by simp only [spec_AlikePairs.l0]; rw [if_neg (by omega)]) (Ev.now _)
 | succ d ih =>
  intro a acc h0 h1 h2
  have ew : wrap64 (a + 1) = a + 1 := w64 (by omega) (by omega)
  have h3 := prB_twos l a d (a + 1) acc _ h2
  refine Ev.step (fun k => by simp only [spec_AlikePairs.l0]; rw [if_pos (show a < (l.length : Int) by omega), ew]) ?_
  refine spec_AlikePairs_l1 hl d a (a + 1) acc _ h0 (by omega) (by omega) (by omega) (by have := h2.1; omega) ?_
  exact ih (a + 1) _ (by omega) (by omega) ⟨by have := h3.1; omega, h3.2⟩
theorem impl_AlikePairs_l1 {l : List Int} (hl : l.length ≤ 8) (d : Nat) : ∀ (a b : Int) (acc : List (List Int)) (r : List (List Int) × Bool), 0 ≤ a → a < (l.length : Int) → 0 ≤ b → b + d = l.length → acc.length + d ≤ 1000 → Ev (fun k => impl_AlikePairs.l0 k l (prB l a d b acc) (l.length : Int) (a + 1)) r → Ev (fun k => impl_AlikePairs.l1 k l acc a b (l.length : Int) a) r := by
 induction d with
 | zero =>
  intro a b acc r h0 h1 h2 h3 h4 h
  have ew : wrap64 (a + 1) = a + 1 := w64 (by omega) (by omega)
  exact Ev.step (fun k => by simp only [impl_AlikePairs.l1]; rw [if_neg (show ¬ b < (l.length : Int) by omega), ew]; rfl) h
 | succ d ih =>
  intro a b acc r h0 h1 h2 h3 h4 h
  have ew : wrap64 (b + 1) = b + 1 := w64 (by omega) (by omega)
  refine Ev.step (fun k => by simp only [impl_AlikePairs.l1]; rw [if_pos (show b < (l.length : Int) by omega), if_pos h0, if_pos h1, if_pos h2, ew]) ?_
  by_cases he : rd l a = rd l b
  ·
   refine Ev.if_pos he (Ev.if_pos (by omega) (ih a (b + 1) (acc ++ [[a, b]]) r h0 h1 (by omega) (by omega) (by simp; omega) ?_))
   rw [prB, if_pos he] at h; exact h
  ·
   refine Ev.if_neg he (ih a (b + 1) acc r h0 h1 (by omega) (by omega) (by omega) ?_)
   rw [prB, if_neg he] at h; exact h
theorem impl_AlikePairs_l0 {l : List Int} (hl : l.length ≤ 8) (d : Nat) : ∀ (a : Int) (acc : List (List Int)), 0 ≤ a → a + d = l.length → Twos (100 - 8 * d) acc → Ev (fun k => impl_AlikePairs.l0 k l acc (l.length : Int) a) (prA l d a acc, true) := by
 induction d with
 | zero =>
  intro a acc h0 h1 h2
  exact Ev.step (f := fun _ => some (acc, true)) (fun k => by simp only [impl_AlikePairs.l0]; rw [if_neg (by omega)]) (Ev.now _)
 | succ d ih =>
  intro a acc h0 h1 h2
  have ew : wrap64 (a + 1) = a + 1 := w64 (by omega) (by omega)
  have h3 := prB_twos l a d (a + 1) acc _ h2
  refine Ev.step (fun k => by simp only [impl_AlikePairs.l0]; rw [if_pos (show a < (l.length : Int) by omega), ew]) ?_
  refine impl_AlikePairs_l1 hl d a (a + 1) acc _ h0 (by omega) (by omega) (by omega) (by have := h2.1; omega) ?_
  exact ih (a + 1) _ (by omega) (by omega) ⟨by have := h3.1; omega, h3.2⟩

def whoB (l : List Int) (a : Int) : Bool := goodB l && decide (0 ≤ a ∧ a ≤ (l.length : Int) - 1)
theorem is_f (l : List Int) (a : Int) (hg : goodB l = true) : impl_is.f l a = some (decide (0 ≤ a ∧ a ≤ (l.length : Int) - 1)) := by
 have := good_len hg
 unfold impl_is.f
 rw [between_f, w64 (by omega) (by omega)]
 rfl
theorem who_good {l : List Int} {a : Int} (h : whoB l a = true) : goodB l = true ∧ 0 ≤ a ∧ a < (l.length : Int) := by
 unfold whoB at h
 simp only [Bool.and_eq_true, decide_eq_true_eq] at h
 exact ⟨h.1, h.2.1, by omega⟩
theorem not_who {l : List Int} {a : Int} (hg : goodB l = true) (h : whoB l a = false) : ¬ (0 ≤ a ∧ a ≤ (l.length : Int) - 1) := by
 unfold whoB at h
 rw [hg, Bool.true_and] at h
 exact of_decide_eq_false h
theorem who_is {l : List Int} {a : Int} (h : whoB l a = true) : 0 ≤ a ∧ a ≤ (l.length : Int) - 1 := by
 have := who_good h
 omega

theorem agWho_f (l : List Int) (a : Int) : Ev (fun k => spec_agWho.f k l a) (whoB l a) := by
 refine Ev.congr (fun k => by unfold spec_agWho.f; rfl) (Ev.bind (agGood_f l) ?_)
 cases hg : goodB l with
 | true =>
  have := good_len hg
  refine Ev.if_pos rfl (Ev.got (l1In_f a 0 _) (Ev.same (Ev.now _) ?_))
  rw [w64 (by omega) (by omega)]
  unfold whoB; rw [hg]; rfl
 | false => exact Ev.if_neg (by simp) (Ev.same (Ev.now _) (by unfold whoB; rw [hg]; rfl))

def twoB (l : List Int) (a b : Int) : Bool := whoB l a && whoB l b && (a != b)
theorem two_good {l : List Int} {a b : Int} (h : twoB l a b = true) : goodB l = true ∧ (0 ≤ a ∧ a < (l.length : Int)) ∧ (0 ≤ b ∧ b < (l.length : Int)) ∧ a ≠ b := by
 unfold twoB at h
 simp only [Bool.and_eq_true, bne_iff_ne] at h
 have h1 := who_good h.1.1
 have h2 := who_good h.1.2
 exact ⟨h1.1, h1.2, h2.2, h.2⟩
theorem areTwo_f (l : List Int) (a b : Int) : impl_areTwo.f l a b = some (twoB l a b) := by
 unfold impl_areTwo.f
 rw [areAges_f]
 simp only [Option.bind_some]
 cases hg : goodB l with
 | true =>
  rw [if_pos rfl, is_f l a hg, is_f l b hg]
  simp only [Option.bind_some]
  unfold twoB
  cases ha : whoB l a with
  | true =>
   rw [if_pos (by simpa using who_is ha)]
   cases hb : whoB l b with
   | true => rw [if_pos (by simpa using who_is hb)]; simp
   | false => rw [if_neg (by simpa using not_who hg hb)]; simp
  | false => rw [if_neg (by simpa using not_who hg ha)]; simp
 | false =>
  have ha : whoB l a = false := by unfold whoB; rw [hg]; rfl
  rw [if_neg (by simp)]; unfold twoB; rw [ha]; rfl

theorem agTwo_f (l : List Int) (a b : Int) : Ev (fun k => spec_agTwo.f k l a b) (twoB l a b) := by
 refine Ev.congr (fun k => by unfold spec_agTwo.f; rfl) (Ev.bind (agWho_f l a) ?_)
 unfold twoB
 cases ha : whoB l a with
 | true =>
  refine Ev.if_pos rfl (Ev.bind (agWho_f l b) ?_)
  cases hb : whoB l b with
  | true => exact Ev.if_pos rfl (Ev.same (Ev.now _) (by simp))
  | false => exact Ev.if_neg (by simp) (Ev.same (Ev.now _) (by simp))
 | false => exact Ev.if_neg (by simp) (Ev.same (Ev.now _) (by simp))

def firstOf (q : Int → Bool) : Int → Nat → Int × Bool
 | _, 0 => (0, false)
 | y, d + 1 => if q y = true then (y, true) else firstOf q (y + 1) d
theorem loop_first {g : Nat → Int → Option (Int × Bool)} {q : Int → Bool} {lo hi : Int} (hs : ∀ (y : Int) (r : Int × Bool), lo ≤ y → y ≤ hi → Ev (fun k => g k (y + 1)) r → Ev (fun k => g k y) (if q y = true then (y, true) else r))
  (h0 : Ev (fun k => g k (hi + 1)) (0, false)) (d : Nat) : ∀ y, lo ≤ y → y + d = hi + 1 → Ev (fun k => g k y) (firstOf q y d) := by
 induction d with
 | zero =>
  intro y h1 h2
  have : y = hi + 1 := by omega
  subst this
  exact h0
 | succ d ih =>
  intro y h1 h2
  exact hs y _ h1 (by omega) (ih (y + 1) (by omega) (by omega))
def nY (l : List Int) : Nat := (hiY l + 1 - loY l).toNat
theorem nY_eq {l : List Int} (hg : goodB l = true) : loY l + (nY l : Int) = hiY l + 1 ∧ nY l ≤ 241 := by
 have := range_bounds hg
 unfold nY
 omega
theorem inY_rd {l : List Int} {y i : Int} (h0 : 0 ≤ i) (h1 : i < (l.length : Int)) : rd (inY l y) i = wrap64 (rd l i + y) := by
 obtain ⟨n, rfl⟩ := Int.eq_ofNat_of_zero_le h0
 rw [rd_at l n (by omega), rd_at (inY l y) n (by rw [inY_length]; omega)]
 simp [inY]
theorem rd_fit {l : List Int} (hg : goodB l = true) {y i : Int} (h0 : loY l ≤ y) (h1 : y ≤ hiY l) (i0 : 0 ≤ i) (i1 : i < (l.length : Int)) : 0 ≤ rd l i + y ∧ rd l i + y ≤ 120 ∧ wrap64 (rd l i + y) = rd l i + y := by
 have := (fit_iff (good_len hg).1 y).mp ⟨h0, h1⟩ _ (rd_mem i0 i1)
 exact ⟨this.1, this.2, w64 (by omega) (by omega)⟩

def collR (p : Int → Bool) (f : Int → List Int) : Int → Nat → List (List Int)
 | _, 0 => []
 | i, d + 1 => if p i = true then f i :: collR p f (i + 1) d else collR p f (i + 1) d
theorem collR_length (p : Int → Bool) (f : Int → List Int) (d : Nat) : ∀ i, (collR p f i d).length ≤ d := by
 induction d with
 | zero => intro i; simp [collR]
 | succ d ih =>
  intro i
  have h := ih (i + 1)
  by_cases hp : p i = true
  ·
   simp only [collR, hp, if_true, List.length_cons]; omega
  ·
   simp only [collR, hp]; exact Nat.le_succ_of_le h
def mulC (l : List Int) (a b y : Int) : Bool := decide (1 ≤ rd l b + y) && decide (Int.tmod (rd l a + y) (rd l b + y) = 0) && decide (2 ≤ Int.tdiv (rd l a + y) (rd l b + y))
def mulR (l : List Int) (a b y : Int) : List Int := [y, Int.tdiv (rd l a + y) (rd l b + y)]
def mulOf (l : List Int) (a b : Int) : List (List Int) := collR (mulC l a b) (mulR l a b) (loY l) (nY l)
theorem tdiv_small {x z : Int} (h0 : 0 ≤ x) (h1 : x ≤ 120) (hz : 1 ≤ z) : wrap64 (Int.tdiv x z) = Int.tdiv x z := by
 have h2 : 0 ≤ Int.tdiv x z := Int.tdiv_nonneg h0 (by omega)
 have h3 : Int.tdiv x z ≤ x := by rw [Int.tdiv_eq_ediv_of_nonneg h0]; exact Int.ediv_le_self z h0
 exact w64 (by omega) (by omega)
theorem agMul_l (l : List Int) (a b : Int) (hg : goodB l = true) (a0 : 0 ≤ a) (a1 : a < (l.length : Int)) (b0 : 0 ≤ b) (b1 : b < (l.length : Int)) (d : Nat) : ∀ (y : Int) (acc : List (List Int)), loY l ≤ y → y + d = hiY l + 1 → acc.length + d ≤ 1000 →
  Ev (fun k => spec_agMultiples.l0 k l a b acc (hiY l) y) (acc ++ collR (mulC l a b) (mulR l a b) y d) := by
 have hb := range_bounds hg
 induction d with
 | zero =>
  intro y acc h1 h2 h3
  exact Ev.step (f := fun _ => some acc) (fun k => by simp only [spec_agMultiples.l0]; rw [if_neg (by omega)]) (Ev.same (Ev.now _) (by simp [collR]))
 | succ d ih =>
  intro y acc h1 h2 h3
  have ew : wrap64 (y + 1) = y + 1 := w64 (by omega) (by omega)
  obtain ⟨m0, m1, me⟩ := rd_fit hg h1 (by omega) b0 b1
  obtain ⟨n0, n1, ne⟩ := rd_fit hg h1 (by omega) a0 a1
  refine Ev.step (fun k => by simp only [spec_agMultiples.l0]; rw [if_pos (show y ≤ hiY l by omega), if_pos a0, if_pos a1, if_pos b0, if_pos b1, ew, me, ne]) ?_
  have no : mulC l a b y = false → Ev (fun k => spec_agMultiples.l0 k l a b acc (hiY l) (y + 1)) (acc ++ collR (mulC l a b) (mulR l a b) y (d + 1)) := fun e => Ev.same (ih (y + 1) acc (by omega) (by omega) (by omega)) (by simp [collR, e])
  by_cases hp : rd l b + y > 0
  ·
   refine Ev.if_pos hp (Ev.if_neg (by omega) ?_)
   have td := tdiv_small n0 n1 (show 1 ≤ rd l b + y by omega)
   by_cases hm : Int.tmod (rd l a + y) (rd l b + y) = 0
   ·
    refine Ev.if_pos hm ?_
    rw [td]
    by_cases h2' : Int.tdiv (rd l a + y) (rd l b + y) ≥ 2
    ·
     have e : mulC l a b y = true := by unfold mulC; rw [decide_eq_true (show 1 ≤ rd l b + y by omega), decide_eq_true hm, decide_eq_true h2']; rfl
     exact Ev.if_pos h2' (Ev.if_pos (by omega) (Ev.same (ih (y + 1) _ (by omega) (by omega) (by simp; omega)) (by simp [collR, e, mulR])))
    ·
     exact Ev.if_neg h2' (no (by unfold mulC; rw [decide_eq_false h2']; simp))
   ·
    exact Ev.if_neg hm (no (by unfold mulC; rw [decide_eq_false hm]; simp))
  ·
   exact Ev.if_neg hp (no (by unfold mulC; rw [decide_eq_false (show ¬ 1 ≤ rd l b + y by omega)]; rfl))
theorem agMul_f (l : List Int) (a b : Int) (two : twoB l a b = true) : Ev (fun k => spec_agMultiples.f k l a b) (mulOf l a b) := by
 obtain ⟨hg, ⟨a0, a1⟩, ⟨b0, b1⟩, _⟩ := two_good two
 have hn := nY_eq hg
 refine Ev.congr (fun k => by unfold spec_agMultiples.f; rfl) (Ev.bind (agRange_f hg) (Ev.same (agMul_l l a b hg a0 a1 b0 b1 (nY l) (loY l) [] (Int.le_refl _) hn.1 (by simp; omega)) (by simp [mulOf])))
theorem collR_two (p : Int → Bool) (l : List Int) (a b : Int) (d : Nat) : ∀ y, ∀ r ∈ collR p (mulR l a b) y d, r.length = 2 := by
 induction d with
 | zero => intro y r hr; simp [collR] at hr
 | succ d ih =>
  intro y r hr
  by_cases hp : p y = true
  ·
   simp only [collR, hp, if_true, List.mem_cons] at hr
   rcases hr with rfl | hr
   ·
    rfl
   ·
    exact ih _ r hr
  ·
   simp only [collR, hp] at hr
   exact ih _ r hr

def amOf (l : List Int) (a b : Int) : List (List Int) × Bool := if twoB l a b = true then (mulOf l a b, true) else ([], false)
theorem amOf_twos (l : List Int) (a b : Int) : Twos 300 (amOf l a b).1 := by
 unfold amOf
 split
 ·
  rename_i h
  have h1 := nY_eq (two_good h).1
  have h2 := collR_length (mulC l a b) (mulR l a b) (nY l) (loY l)
  exact ⟨by show (collR (mulC l a b) (mulR l a b) (loY l) (nY l)).length ≤ 300; omega, collR_two _ l a b _ _⟩
 ·
  exact ⟨by simp, by simp⟩
theorem specAM_f (l : List Int) (a b : Int) : Ev (fun k => spec_AllMultiples.f k l a b) (amOf l a b) := by
 refine Ev.congr (fun k => by unfold spec_AllMultiples.f; rfl) (Ev.bind (agTwo_f l a b) ?_)
 unfold amOf
 cases two : twoB l a b with
 | true => exact Ev.if_pos rfl (Ev.bind (agMul_f l a b two) (Ev.same (Ev.now _) (by simp)))
 | false => exact Ev.if_neg (by simp) (Ev.same (Ev.now _) (by simp))
theorem allYS_l {l : List Int} {a b : Int} (hg : goodB l = true) (a0 : 0 ≤ a) (a1 : a < (l.length : Int)) (b0 : 0 ≤ b) (b1 : b < (l.length : Int)) (d : Nat) : ∀ (y : Int) (acc : List (List Int)), loY l ≤ y → y + d = hiY l + 1 → acc.length + d ≤ 1000 →
  Ev (fun k => allYS.l0 (impl_AllMultiples_1.step l a b) k l acc (hiY l) y) (acc ++ collR (mulC l a b) (mulR l a b) y d) := by
 have hb := range_bounds hg
 have hl := good_len hg
 induction d with
 | zero =>
  intro y acc h1 h2 h3
  exact Ev.step (f := fun _ => some acc) (fun k => by simp only [allYS.l0]; rw [if_neg (by omega)]) (Ev.same (Ev.now _) (by simp [collR]))
 | succ d ih =>
  intro y acc h1 h2 h3
  have ew : wrap64 (y + 1) = y + 1 := w64 (by omega) (by omega)
  obtain ⟨m0, m1, me⟩ := rd_fit hg h1 (show y ≤ hiY l by omega) b0 b1
  obtain ⟨n0, n1, ne⟩ := rd_fit hg h1 (show y ≤ hiY l by omega) a0 a1
  refine Ev.step (fun k => by simp only [allYS.l0]; rw [if_pos (show y ≤ hiY l by omega), ew]) (Ev.bind (inYears_f l y (by omega)) ?_)
  have no : mulC l a b y = false → Ev (fun k => allYS.l0 (impl_AllMultiples_1.step l a b) k l acc (hiY l) (y + 1)) (acc ++ collR (mulC l a b) (mulR l a b) y (d + 1)) := fun e => Ev.same (ih (y + 1) acc (by omega) (by omega) (by omega)) (by simp [collR, e])
  have go : ∀ s : List (List Int), (∀ k, impl_AllMultiples_1.step l a b k (inY l y) acc = some s) → Ev (fun k => allYS.l0 (impl_AllMultiples_1.step l a b) k l s (hiY l) (y + 1)) (acc ++ collR (mulC l a b) (mulR l a b) y (d + 1)) →
    Ev (fun k => (impl_AllMultiples_1.step l a b k (inY l y) acc).bind fun s2 => allYS.l0 (impl_AllMultiples_1.step l a b) k l s2 (hiY l) (y + 1)) (acc ++ collR (mulC l a b) (mulR l a b) y (d + 1)) := fun s hs h => Ev.bind (Ev.const hs) h
  have st : ∀ k, impl_AllMultiples_1.step l a b k (inY l y) acc = if rd l b + y ≥ 1 then (if Int.tmod (rd l a + y) (rd l b + y) = 0 then (if wrap64 (Int.tdiv (rd l a + y) (rd l b + y)) ≥ 2 then (if acc.length < 5864062014805 then some (acc ++ [[wrap64 (rd l a + y - rd l a), wrap64 (Int.tdiv (rd l a + y) (rd l b + y))]]) else none) else some acc) else some acc) else some acc := by
   intro k
   unfold impl_AllMultiples_1.step
   rw [if_pos b0, if_pos (show b < ((inY l y).length : Int) by rw [inY_length]; exact b1), inY_rd b0 b1, me, if_pos a0, if_pos (show a < ((inY l y).length : Int) by rw [inY_length]; exact a1), inY_rd a0 a1, ne, if_pos a1]
  by_cases hp : rd l b + y ≥ 1
  ·
   have td := tdiv_small n0 n1 hp
   by_cases hm : Int.tmod (rd l a + y) (rd l b + y) = 0
   ·
    by_cases h2' : Int.tdiv (rd l a + y) (rd l b + y) ≥ 2
    ·
     have e : mulC l a b y = true := by unfold mulC; rw [decide_eq_true (show 1 ≤ rd l b + y by omega), decide_eq_true hm, decide_eq_true h2']; rfl
     refine go (acc ++ [mulR l a b y]) (fun k => ?_) (Ev.same (ih (y + 1) _ (by omega) (by omega) (by simp; omega)) (by simp [collR, e]))
     rw [st, if_pos hp, if_pos hm, td, if_pos h2', if_pos (show acc.length < 5864062014805 by omega), show rd l a + y - rd l a = y by omega, w64 (by omega) (by omega)]; rfl
    ·
     exact go acc (fun k => by rw [st, if_pos hp, if_pos hm, td, if_neg h2']) (no (by unfold mulC; rw [decide_eq_false h2']; simp))
   ·
    exact go acc (fun k => by rw [st, if_pos hp, if_neg hm]) (no (by unfold mulC; rw [decide_eq_false hm]; simp))
  ·
   exact go acc (fun k => by rw [st, if_neg hp]) (no (by unfold mulC; rw [decide_eq_false (show ¬ 1 ≤ rd l b + y by omega)]; rfl))
theorem implAM_f (l : List Int) (a b : Int) : Ev (fun k => impl_AllMultiples.f k l a b) (amOf l a b) := by
 refine Ev.congr (fun k => by unfold impl_AllMultiples.f; rfl) (Ev.got (areTwo_f l a b) ?_)
 unfold amOf
 cases two : twoB l a b with
 | true =>
  obtain ⟨hg, ⟨a0, a1⟩, ⟨b0, b1⟩, _⟩ := two_good two
  have hn := nY_eq hg
  refine Ev.if_pos rfl (Ev.bind (a := mulOf l a b) ?_ (Ev.same (Ev.now _) (by simp)))
  refine Ev.congr (fun k => by unfold allYS.f; rfl) (Ev.got (fitYears_f hg) (Ev.same (allYS_l hg a0 a1 b0 b1 (nY l) (loY l) [] (Int.le_refl _) hn.1 (by simp; omega)) (by simp [mulOf])))
 | false => exact Ev.if_neg (by simp) (Ev.same (Ev.now _) (by simp))

theorem big_f (l0 l1 : List Int) (h0 : (l0.length : Int) ≤ 140737488351232) (h1 : (l1.length : Int) ≤ 140737488351232) : ∃ b, laws_big.f l0 l1 = some b := by
 unfold laws_big.f
 by_cases h : (l0.length : Int) > 1048576
 ·
  exact ⟨true, if_pos h⟩
 ·
  exact ⟨_, if_neg h⟩

def Byt (s : List Int) : Prop := ∀ x ∈ s, 0 ≤ x ∧ x ≤ 255
theorem byt_of {s : List Int} (h : ∀ x ∈ s, (Lit.int .u8 x).wf = true) : Byt s := fun x hx => by
 have h2 := h x hx
 simp [Lit.wf] at h2
 have h3 : (0 : Int) ≤ x ∧ x ≤ 255 := by simpa [IntKind.min, IntKind.max, IntKind.bits, IntKind.signed] using h2
 exact h3
theorem and255 (y : Int) : 0 ≤ Go.bits .and .u64 (IntKind.u64.wrap y / 1099511627776) 255 ∧ Go.bits .and .u64 (IntKind.u64.wrap y / 1099511627776) 255 ≤ 255 := by
 have hw := IntKind.wrap_u64 y
 have hx0 : 0 ≤ IntKind.u64.wrap y / 1099511627776 := by omega
 have hx1 : IntKind.u64.wrap y / 1099511627776 < 2 ^ 64 := by omega
 have h := bits_mask .u64 64 (by decide) (fun n h0 h1 => by have := IntKind.wrap_u64 n; omega) 8 (by decide) _ hx0 hx1
 have h2 : Go.bits .and .u64 (IntKind.u64.wrap y / 1099511627776) 255 = IntKind.u64.wrap y / 1099511627776 % 256 := h
 rw [h2]
 omega
theorem next_f {s : List Int} (hs : Byt s) {a : Int} (u : Int) (h0 : 0 ≤ a) (h1 : a ≤ 4611686018427387904) : ∃ r u', spec_l1Cur_next.f s a u = some (r, a + 1, u') ∧ 0 ≤ r ∧ r ≤ 255 := by
 have ew : wrap64 (a + 1) = a + 1 := w64 (by omega) (by omega)
 unfold spec_l1Cur_next.f
 rw [ew]
 by_cases h : a < (s.length : Int)
 ·
  rw [if_pos h, if_pos h0, if_pos (show a + 1 ≤ (s.length : Int) by omega)]
  have hb := hs _ (rd_mem h0 h)
  exact ⟨_, _, rfl, by rw [w64 (by omega) (by omega)]; exact hb.1, by rw [w64 (by omega) (by omega)]; exact hb.2⟩
 ·
  rw [if_neg h, if_neg (show ¬ a + 1 ≤ (s.length : Int) by omega)]
  have hb := and255 (IntKind.u64.wrap (IntKind.u64.wrap (u * 6364136223846793005) + 0) + 1442695040888963407)
  exact ⟨_, _, rfl, by rw [w64 (by omega) (by omega)]; exact hb.1, by rw [w64 (by omega) (by omega)]; exact hb.2⟩
theorem tmod_lt {x n : Int} (h0 : 0 ≤ x) (hn : 0 < n) : 0 ≤ Int.tmod x n ∧ Int.tmod x n < n := by
 rw [Int.tmod_eq_emod_of_nonneg h0]
 exact ⟨Int.emod_nonneg x (by omega), Int.emod_lt_of_pos x hn⟩
theorem pick_f {s : List Int} (hs : Byt s) {a : Int} (u n : Int) (h0 : 0 ≤ a) (h1 : a ≤ 1000000000) : ∃ r a' u', spec_l1Cur_pick.f s a u n = some (r, a', u') ∧ 0 ≤ r ∧ (r < n ∨ r = 0) ∧ a ≤ a' ∧ a' ≤ a + 2 := by
 unfold spec_l1Cur_pick.f
 by_cases hn : n ≤ 1
 ·
  rw [if_pos hn]
  exact ⟨0, a, u, rfl, by omega, .inr rfl, by omega, by omega⟩
 ·
  rw [if_neg hn]
  obtain ⟨r, u1, e1, r0, r1⟩ := next_f hs u h0 (by omega)
  rw [e1]
  simp only [Option.bind_some]
  by_cases hb : n > 200
  ·
   rw [if_pos hb]
   obtain ⟨q, u2, e2, q0, q1⟩ := next_f hs u1 (show 0 ≤ a + 1 by omega) (by omega)
   rw [e2]
   simp only [Option.bind_some]
   rw [if_neg (show ¬ n = 0 by omega), w64 (show -9223372036854775808 ≤ r * 256 by omega) (by omega), w64 (by omega) (by omega)]
   have ht := tmod_lt (show 0 ≤ r * 256 + q by omega) (show 0 < n by omega)
   exact ⟨_, _, _, rfl, ht.1, .inl ht.2, by omega, by omega⟩
  ·
   rw [if_neg hb, if_neg (show ¬ n = 0 by omega)]
   have ht := tmod_lt r0 (show 0 < n by omega)
   exact ⟨_, _, _, rfl, ht.1, .inl ht.2, by omega, by omega⟩
theorem among_f {s : List Int} (hs : Byt s) {a : Int} (u : Int) (l : List Int) (hl : 0 < l.length) (h0 : 0 ≤ a) (h1 : a ≤ 1000000000) : ∃ r a' u', spec_l1Cur_among.f s a u l = some (r, a', u') ∧ r ∈ l ∧ a ≤ a' ∧ a' ≤ a + 2 := by
 unfold spec_l1Cur_among.f
 obtain ⟨r, a', u', e, r0, r1, b0, b1⟩ := pick_f hs u (l.length : Int) h0 h1
 rw [e]
 simp only [Option.bind_some]
 have hr : r < (l.length : Int) := by omega
 rw [if_pos r0, if_pos hr]
 exact ⟨_, _, _, rfl, rd_mem r0 hr, b0, b1⟩
theorem sureAges_l {s : List Int} (hs : Byt s) (d : Nat) : ∀ (acc : List Int) (a u : Int), d ≤ 10 → acc.length + d ≤ 100 → 0 ≤ a → a + 2 * d ≤ 1000000 → ∃ l a' u', Ev (fun k => spec_l1Cur_sureAges.l0 k acc (d : Int) s a u) (l, a', u') ∧ l.length = acc.length + d ∧ a ≤ a' ∧ a' ≤ a + 2 * d := by
 induction d with
 | zero =>
  intro acc a u _ _ h0 h1
  exact ⟨acc, a, u, Ev.step (f := fun _ => some (acc, a, u)) (fun k => by simp only [spec_l1Cur_sureAges.l0]; rw [if_neg (by omega)]) (Ev.now _), rfl, by omega, by omega⟩
 | succ d ih =>
  intro acc a u hd ha h0 h1
  obtain ⟨r, a1, u1, e, _, b0, b1⟩ := among_f hs u [0, 1, 3, 5, 9, 12, 17, 25, 33, 40, 64, 90] (by decide) h0 (by omega)
  obtain ⟨l, a2, u2, h, hl, c0, c1⟩ := ih (acc ++ [r]) a1 u1 (by omega) (by simp; omega) (by omega) (by push_cast at h1; omega)
  have ew : wrap64 (((d + 1 : Nat) : Int) - 1) = (d : Int) := by rw [w64 (by omega) (by omega)]; omega
  refine ⟨l, a2, u2, Ev.step (fun k => by simp only [spec_l1Cur_sureAges.l0]; rw [if_pos (show ((d + 1 : Nat) : Int) > 0 by omega), ew]) (Ev.got e (Ev.if_pos (show acc.length < 17592186044416 by omega) h)), ?_, by omega, by omega⟩
  rw [hl]; simp; omega
theorem sureAges_f {s : List Int} (hs : Byt s) {a : Int} (u : Int) (h0 : 0 ≤ a) (h1 : a ≤ 1000) : ∃ l a' u', Ev (fun k => spec_l1Cur_sureAges.f k s a u) (l, a', u') ∧ 1 ≤ l.length ∧ l.length ≤ 4 ∧ a ≤ a' ∧ a' ≤ a + 12 := by
 obtain ⟨r, a1, u1, e, r0, r1, b0, b1⟩ := pick_f hs u 4 h0 (by omega)
 obtain ⟨n, rfl⟩ := Int.eq_ofNat_of_zero_le r0
 obtain ⟨l, a2, u2, h, hl, c0, c1⟩ := sureAges_l hs (n + 1) [] a1 u1 (by omega) (by simp; omega) (by omega) (by omega)
 have ew : wrap64 (1 + (n : Int)) = ((n + 1 : Nat) : Int) := by rw [w64 (by omega) (by omega)]; omega
 refine ⟨l, a2, u2, Ev.congr (fun k => by unfold spec_l1Cur_sureAges.f; rfl) (Ev.got e (by simp only [ew]; exact h)), ?_, ?_, by omega, by omega⟩ <;> · simp at hl; omega
theorem ages_l {s : List Int} (hs : Byt s) (d : Nat) : ∀ (acc : List Int) (a u : Int), acc.length + d = 10 → 0 ≤ a → a + 4 * d ≤ 1000000 → ∃ l a' u', Ev (fun k => spec_l1Cur_ages.l0 k acc s a u) (l, a', u') ∧ l.length ≤ 10 ∧ a ≤ a' ∧ a' ≤ a + 4 * d + 2 := by
 induction d with
 | zero =>
  intro acc a u ha h0 h1
  obtain ⟨r, a1, u1, e, r0, r1, b0, b1⟩ := pick_f hs u 2 h0 (by omega)
  have ew : wrap64 (8 + r) = 8 + r := w64 (by omega) (by omega)
  exact ⟨acc, a1, u1, Ev.step (fun k => by simp only [spec_l1Cur_ages.l0]; rfl) (Ev.got e (Ev.if_neg (show ¬ (acc.length : Int) < wrap64 (8 + r) by rw [ew]; omega) (Ev.now _))), by omega, by omega, by omega⟩
 | succ d ih =>
  intro acc a u ha h0 h1
  obtain ⟨r, a1, u1, e, r0, r1, b0, b1⟩ := pick_f hs u 2 h0 (by omega)
  have ew : wrap64 (8 + r) = 8 + r := w64 (by omega) (by omega)
  by_cases hc : (acc.length : Int) < 8 + r
  ·
   obtain ⟨q, a2, u2, e2, q0, q1, c0, c1⟩ := pick_f hs u1 50 (show 0 ≤ a1 by omega) (by omega)
   obtain ⟨l, a3, u3, h, hl, d0, d1⟩ := ih (acc ++ [q]) a2 u2 (by simp; omega) (by omega) (by omega)
   exact ⟨l, a3, u3, Ev.step (fun k => by simp only [spec_l1Cur_ages.l0]; rfl) (Ev.got e (Ev.if_pos (show (acc.length : Int) < wrap64 (8 + r) by rw [ew]; omega) (Ev.got e2 (Ev.if_pos (show acc.length < 17592186044416 by omega) h)))), hl, by omega, by omega⟩
  ·
   exact ⟨acc, a1, u1, Ev.step (fun k => by simp only [spec_l1Cur_ages.l0]; rfl) (Ev.got e (Ev.if_neg (show ¬ (acc.length : Int) < wrap64 (8 + r) by rw [ew]; omega) (Ev.now _))), by omega, by omega, by omega⟩
theorem ages_f {s : List Int} (hs : Byt s) {a : Int} (u : Int) (h0 : 0 ≤ a) (h1 : a ≤ 500) : ∃ l a' u', Ev (fun k => spec_l1Cur_ages.f k s a u) (l, a', u') ∧ l.length ≤ 10 ∧ a ≤ a' ∧ a' ≤ a + 100 := by
 obtain ⟨l1, a1, u1, e1, l1a, l1b, b0, b1⟩ := sureAges_f hs u h0 (by omega)
 obtain ⟨r, a2, u2, e2, r0, r1, c0, c1⟩ := pick_f hs u1 14 (show 0 ≤ a1 by omega) (by omega)
 have go : ∀ (l : List Int) (a' u' : Int), Ev (fun k => if r = 0 then (some (([] : List Int), a2, u2)) else (if r = 1 then ((spec_l1Cur_among.f s a2 u2 (([(-1), 120, 121, 4611686018427387904] : List Int))).bind fun bt135 => (if 0 < (l1.length : Int) then (some ((l1.set (0 : Int).toNat bt135.1), bt135.2.1, bt135.2.2)) else (none))) else (if r = 2 then (spec_l1Cur_ages.l0 k l1 s a2 u2) else (some (l1, a2, u2))))) (l, a', u') → Ev (fun k => spec_l1Cur_ages.f k s a u) (l, a', u') :=
  fun l a' u' h => Ev.congr (fun k => by unfold spec_l1Cur_ages.f; rfl) (Ev.bind e1 (Ev.got e2 h))
 by_cases k0 : r = 0
 ·
  exact ⟨[], a2, u2, go _ _ _ (Ev.if_pos k0 (Ev.now _)), by simp, by omega, by omega⟩
 ·
  by_cases k1 : r = 1
  ·
   obtain ⟨q, a3, u3, e3, _, d0, d1⟩ := among_f hs u2 [(-1), 120, 121, 4611686018427387904] (by decide) (show 0 ≤ a2 by omega) (by omega)
   exact ⟨l1.set (0 : Int).toNat q, a3, u3, go _ _ _ (Ev.if_neg k0 (Ev.if_pos k1 (Ev.got e3 (Ev.if_pos (by omega) (Ev.now _))))), by simp; omega, by omega, by omega⟩
  ·
   by_cases k2 : r = 2
   ·
    obtain ⟨l, a3, u3, h, hl, d0, d1⟩ := ages_l hs (10 - l1.length) l1 a2 u2 (by omega) (by omega) (by omega)
    exact ⟨l, a3, u3, go _ _ _ (Ev.if_neg k0 (Ev.if_neg k1 (Ev.if_pos k2 h))), hl, by omega, by omega⟩
   ·
    exact ⟨l1, a2, u2, go _ _ _ (Ev.if_neg k0 (Ev.if_neg k1 (Ev.if_neg k2 (Ev.now _)))), by omega, by omega, by omega⟩

theorem one_f {s : List Int} (hs : Byt s) {a : Int} (u n : Int) (h0 : 0 ≤ a) (h1 : a ≤ 1000000000) : ∃ b a' u', spec_l1Cur_one.f s a u n = some (b, a', u') ∧ a ≤ a' ∧ a' ≤ a + 2 := by
 obtain ⟨r, a', u', e, -, -, b0, b1⟩ := pick_f hs u n h0 h1
 unfold spec_l1Cur_one.f
 rw [e]
 exact ⟨_, _, _, rfl, b0, b1⟩

def pre (p : List UInt8) : List (List UInt8) → List (List UInt8)
 | [] => [p]
 | w :: ws => (p ++ w) :: ws
def spl : List UInt8 → List (List UInt8)
 | [] => [[]]
 | b :: r => if b = 45 then [] :: spl r else pre [b] (spl r)
theorem pre_ne (p : List UInt8) (x : List (List UInt8)) : pre p x ≠ [] := by cases x <;> simp [pre]
theorem spl_ne (l : List UInt8) : spl l ≠ [] := by
 cases l with
 | nil => simp [spl]
 | cons b r =>
  unfold spl
  by_cases h : b = 45
  ·
   rw [if_pos h]; simp
  ·
   rw [if_neg h]; exact pre_ne _ _
theorem pre_pre (p q : List UInt8) (x : List (List UInt8)) (hx : x ≠ []) : pre p (pre q x) = pre (p ++ q) x := by
 cases x with
 | nil => exact absurd rfl hx
 | cons w ws => simp [pre]
theorem pre_nil (x : List (List UInt8)) (hx : x ≠ []) : pre [] x = x := by
 cases x with
 | nil => exact absurd rfl hx
 | cons w ws => simp [pre]
theorem spl_len (l : List UInt8) : ((spl l).map (fun w => w.length + 1)).sum = l.length + 1 := by
 induction l with
 | nil => rfl
 | cons b r ih =>
  unfold spl
  by_cases h : b = 45
  ·
   rw [if_pos h]
   simp only [List.map_cons, List.sum_cons, List.length_nil, List.length_cons, ih]
   omega
  ·
   rw [if_neg h]
   cases hx : spl r with
   | nil => exact absurd hx (spl_ne r)
   | cons w ws =>
    rw [hx] at ih
    simp only [pre, List.map_cons, List.sum_cons, List.length_append, List.length_cons, List.length_nil] at ih ⊢
    omega
theorem sum_ge (ws : List (List UInt8)) : ws.length ≤ (ws.map (fun w => w.length + 1)).sum := by
 induction ws with
 | nil => simp
 | cons w ws ih => simp only [List.length_cons, List.map_cons, List.sum_cons]; omega
theorem spl_count (l : List UInt8) : (spl l).length ≤ l.length + 1 := by
 have := sum_ge (spl l)
 rw [spl_len] at this
 exact this
theorem one_pref (b : UInt8) (r : List UInt8) : [45].isPrefixOf (b :: r) = (b == 45) := by
 show ((45 : UInt8) == b && _) = _
 rw [List.isPrefixOf_nil_left, Bool.and_true, Bool.eq_iff_iff]
 constructor <;> (intro h; rw [beq_iff_eq] at h ⊢; exact h.symm)
theorem spl_miss (l : List UInt8) : Lib.index l [45] = -1 → spl l = [l] := by
 induction l with
 | nil => intro _; rfl
 | cons b r ih =>
  intro h
  unfold Lib.index at h
  rw [one_pref] at h
  by_cases hb : b = 45
  ·
   rw [if_pos (by simp [hb])] at h; cases h
  ·
   rw [if_neg (by simp [hb])] at h
   have hge := Lib.index_ge r [45]
   by_cases hr : Lib.index r [45] = -1
   ·
    unfold spl
    rw [if_neg hb, ih hr]
    rfl
   ·
    rw [if_neg (by simpa using hr)] at h
    omega
theorem spl_hit (l : List UInt8) : ∀ i : Nat, Lib.index l [45] = (i : Int) → spl l = l.take i :: spl (l.drop (i + 1)) := by
 induction l with
 | nil => intro i h; simp [Lib.index] at h
 | cons b r ih =>
  intro i h
  unfold Lib.index at h
  rw [one_pref] at h
  by_cases hb : b = 45
  ·
   rw [if_pos (by simp [hb])] at h
   obtain rfl : i = 0 := by omega
   show (if b = 45 then [] :: spl r else pre [b] (spl r)) = [] :: spl r
   rw [if_pos hb]
  ·
   rw [if_neg (by simp [hb])] at h
   by_cases hr : Lib.index r [45] = -1
   ·
    rw [if_pos (by simpa using hr)] at h; omega
   ·
    rw [if_neg (by simpa using hr)] at h
    have hge := Lib.index_ge r [45]
    obtain ⟨j, hj⟩ : ∃ j : Nat, Lib.index r [45] = (j : Int) := ⟨(Lib.index r [45]).toNat, by omega⟩
    obtain rfl : i = j + 1 := by omega
    have hi := ih j hj
    rw [spl, if_neg hb, hi]
    simp [pre]
theorem bl_of (s : ByteArray) : bl s.data.toList = s := by
 apply ByteArray.ext
 simp [bl]
theorem bl_extract (s : ByteArray) (a b : Nat) : s.extract a b = bl ((s.data.toList.take b).drop a) := by
 rw [← bl_of (s.extract a b)]
 congr 1
 rw [ByteArray.data_extract, Array.toList_extract, List.extract_eq_take_drop, List.drop_take]
theorem splitB_spl (n : Nat) : ∀ s : ByteArray, s.size ≤ n → Lib.splitB (bl [45]) 0 (Lib.countB s (bl [45])) s = (spl s.data.toList).map bl := by
 induction n with
 | zero =>
  intro s hs
  have h0 : s.data.toList = [] := by
   have := Lib.size_eq s
   exact List.length_eq_zero_iff.mp (by omega)
  have hm : Lib.indexB s (bl [45]) = -1 := by show Lib.index s.data.toList _ = -1; rw [h0]; rfl
  rw [Lib.countB_miss s _ hm, Lib.splitB_zero, h0]
  show [s] = [bl []]
  rw [← h0, bl_of]
 | succ n ih =>
  intro s hs
  have hb1 : (bl [45]).size = 1 := rfl
  rcases Lib.indexB_cases s (bl [45]) with h | ⟨i, h, hi⟩
  ·
   rw [Lib.countB_miss s _ h, Lib.splitB_zero, spl_miss s.data.toList h]
   simp [bl_of]
  ·
   rw [hb1] at hi
   rw [Lib.countB_hit s _ i (by rw [hb1]; omega) h, Nat.add_comm 1, Lib.splitB_hit _ 0 _ s i h, hb1, spl_hit s.data.toList i h, List.map_cons]
   have hr := ih (s.extract (i + 1) s.size) (by rw [bl_extract, bl_size, List.length_drop, List.length_take]; omega)
   rw [hr, bl_extract s 0, bl_extract s (i + 1), bl_list]
   have e : s.data.toList.take s.size = s.data.toList := List.take_of_length_le (by rw [Lib.size_eq s]; exact Nat.le_refl _)
   rw [e]
   simp
theorem bt_list (s : ByteArray) (i : Nat) (h : i < s.size) : bt s (i : Int) = ((s.data.toList[i]'(by rw [← Lib.size_eq]; exact h)).toNat : Int) := by
 unfold bt
 rw [dif_pos (by rw [Int.toNat_natCast]; exact h)]
 simp only [Int.toNat_natCast]
 rfl
theorem specSplit_l (s : ByteArray) (hs : s.size ≤ 1000) (d : Nat) : ∀ (i f : Nat) (out : List ByteArray), i + d = s.size → f ≤ i → out.length ≤ f → Ev (fun k => spec_l1Split.l0 k s 45 out (f : Int) (i : Int)) (out ++ (pre ((s.data.toList.take i).drop f) (spl (s.data.toList.drop i))).map bl) := by
 have hz := Lib.size_eq s
 induction d with
 | zero =>
  intro i f out hi hf ho
  refine Ev.step (f := fun _ => some (out ++ [s.extract f s.size])) (fun k => ?_) ?_
  ·
   simp only [spec_l1Split.l0]
   rw [if_neg (by omega), if_pos (by omega), if_pos (by omega), if_pos (by omega), Int.toNat_natCast]
  ·
   refine Ev.same (Ev.now _) ?_
   obtain rfl : i = s.size := by omega
   rw [bl_extract, List.drop_of_length_le (l := s.data.toList) (by omega)]
   simp [spl, pre]
 | succ d ih =>
  intro i f out hi hf ho
  have hlt : i < s.data.toList.length := by omega
  have ew : wrap64 ((i : Int) + 1) = ((i + 1 : Nat) : Int) := by rw [w64 (by omega) (by omega)]; omega
  have eb := bt_list s i (by omega)
  have ed : s.data.toList.drop i = s.data.toList[i] :: s.data.toList.drop (i + 1) := List.drop_eq_getElem_cons hlt
  refine Ev.step (fun k => by simp only [spec_l1Split.l0]; rw [if_pos (show (i : Int) < (s.size : Int) by omega), if_pos (show 0 ≤ (i : Int) by omega), ew, eb, if_pos (show 0 ≤ (f : Int) by omega), if_pos (show (f : Int) ≤ (i : Int) by omega), if_pos (show (i : Int) ≤ (s.size : Int) by omega), if_pos (show out.length < 8796093022208 by omega), Int.toNat_natCast, Int.toNat_natCast]) ?_
  rw [ed]
  by_cases h : s.data.toList[i] = 45
  ·
   refine Ev.if_pos (by rw [h]; rfl) ?_
   refine Ev.same (ih (i + 1) (i + 1) (out ++ [s.extract f i]) (by omega) (Nat.le_refl _) (by rw [List.length_append, List.length_singleton]; omega)) ?_
   rw [bl_extract, spl, if_pos h, List.append_assoc]
   congr 1
   rw [List.drop_of_length_le (l := s.data.toList.take (i + 1)) (by rw [List.length_take]; omega), pre_nil _ (spl_ne _)]
   simp [pre]
  ·
   refine Ev.if_neg (fun e => h (UInt8.toNat_inj.mp (by have : ((45 : UInt8).toNat : Int) = 45 := rfl; omega))) ?_
   refine Ev.same (ih (i + 1) f out (by omega) (by omega) ho) ?_
   rw [spl, if_neg h, pre_pre _ _ _ (spl_ne _)]
   congr 3
   rw [List.take_succ_eq_append_getElem hlt, List.drop_append_of_le_length (by rw [List.length_take]; omega)]
theorem specSplit_f (s : ByteArray) (hs : s.size ≤ 1000) : Ev (fun k => spec_l1Split.f k s 45) ((spl s.data.toList).map bl) := by
 refine Ev.congr (fun k => by unfold spec_l1Split.f; rfl) ?_
 refine Ev.same (specSplit_l s hs s.size 0 0 [] (by omega) (Nat.le_refl _) (Nat.le_refl _)) ?_
 simp [pre_nil _ (spl_ne _)]
def digs (w : List UInt8) : Bool := w.all fun b => decide (48 ≤ b.toNat ∧ b.toNat ≤ 57)
def valF : List UInt8 → Nat → Nat
 | [], a => a
 | b :: r, a => valF r (10 * a + (b.toNat - 48))
theorem valF_append (x y : List UInt8) : ∀ a, valF (x ++ y) a = valF y (valF x a) := by
 induction x with
 | nil => intro a; rfl
 | cons b r ih => intro a; simp only [List.cons_append, valF]; exact ih _
theorem valF_ge (w : List UInt8) : ∀ a, a ≤ valF w a := by
 induction w with
 | nil => intro a; exact Nat.le_refl _
 | cons b r ih => intro a; simp only [valF]; have := ih (10 * a + (b.toNat - 48)); omega
def canonB (w : List UInt8) : Bool := decide (1 ≤ w.length ∧ w.length ≤ 6) && !(decide (w.head? = some 48) && decide (1 < w.length))
def rv (w : List UInt8) : Int := if canonB w = true ∧ digs w = true then (valF w 0 : Int) else -1
theorem read_l (w : List UInt8) (hw : w.length ≤ 6) (d : Nat) : ∀ (i a : Nat), i + d = w.length → a < 10 ^ i → Ev (fun k => spec_l1Read.l0 k (bl w) (a : Int) (i : Int)) (if digs (w.drop i) = true then (valF (w.drop i) a : Int) else -1) := by
 have hz : (bl w).size = w.length := bl_size w
 induction d with
 | zero =>
  intro i a hi _
  refine Ev.step (f := fun _ => some (a : Int)) (fun k => by simp only [spec_l1Read.l0]; rw [if_neg (by omega)]) ?_
  rw [List.drop_of_length_le (by omega)]
  exact Ev.now _
 | succ d ih =>
  intro i a hi ha
  have hlt : i < w.length := by omega
  have ew : wrap64 ((i : Int) + 1) = ((i + 1 : Nat) : Int) := by rw [w64 (by omega) (by omega)]; omega
  have eb : bt (bl w) (i : Int) = ((w[i]).toNat : Int) := by
   rw [bt_list (bl w) i (by omega)]
   simp only [bl_list]
  have ed : w.drop i = w[i] :: w.drop (i + 1) := List.drop_eq_getElem_cons hlt
  have hp : (10 : Nat) ^ i ≤ 10 ^ 6 := Nat.pow_le_pow_right (by decide) (by omega)
  have hq : (10 : Nat) ^ (i + 1) = 10 * 10 ^ i := by rw [Nat.pow_succ]; omega
  have h6 : (10 : Nat) ^ 6 = 1000000 := rfl
  generalize 10 ^ i = P at ha hp hq
  refine Ev.step (fun k => by simp only [spec_l1Read.l0]; rw [if_pos (show (i : Int) < ((bl w).size : Int) by omega), if_pos (show 0 ≤ (i : Int) by omega), ew, eb]) ?_
  rw [ed]
  have hd : digs (w[i] :: w.drop (i + 1)) = (decide (48 ≤ w[i].toNat ∧ w[i].toNat ≤ 57) && digs (w.drop (i + 1))) := rfl
  by_cases h1 : w[i].toNat < 48
  ·
   refine Ev.if_pos (by omega) ?_
   rw [hd, decide_eq_false (by omega), Bool.false_and, if_neg (by simp)]
   exact Ev.now _
  ·
   refine Ev.if_neg (by omega) ?_
   by_cases h2 : w[i].toNat > 57
   ·
    refine Ev.if_pos (by omega) ?_
    rw [hd, decide_eq_false (by omega), Bool.false_and, if_neg (by simp)]
    exact Ev.now _
   ·
    refine Ev.if_neg (by omega) ?_
    have ev : wrap64 (wrap64 (10 * (a : Int)) + ((w[i].toNat : Int) - 48) % 256) = ((10 * a + (w[i].toNat - 48) : Nat) : Int) := by
     rw [w64 (x := 10 * (a : Int)) (by omega) (by omega), w64 (by omega) (by omega)]
     omega
    rw [ev, hd, decide_eq_true (show 48 ≤ w[i].toNat ∧ w[i].toNat ≤ 57 by omega), Bool.true_and]
    exact ih (i + 1) _ (by omega) (by rw [hq]; omega)
theorem specRead_f (w : List UInt8) (hw : w.length ≤ 1000) : Ev (fun k => spec_l1Read.f k (bl w)) (rv w) := by
 have hz : (bl w).size = w.length := bl_size w
 refine Ev.congr (fun k => by unfold spec_l1Read.f; rfl) ?_
 rw [hz]
 refine Ev.got (l1In_f _ _ _) ?_
 have bad : Ev (fun k => spec_l1Read.j0 k (bl w) true) (-1) := Ev.step (f := fun _ => some (-1)) (fun k => by simp only [spec_l1Read.j0, if_true]) (Ev.now _)
 by_cases h : 1 ≤ w.length ∧ w.length ≤ 6
 ·
  have good : Ev (fun k => spec_l1Read.j0 k (bl w) false) (if digs w = true then (valF w 0 : Int) else -1) := by
   refine Ev.step (f := fun k => spec_l1Read.l0 k (bl w) 0 0) (fun k => by simp only [spec_l1Read.j0]; rfl) ?_
   exact Ev.same (read_l w h.2 w.length 0 0 (by omega) (by decide)) (by simp)
  refine Ev.if_pos (decide_eq_true (by omega)) (Ev.if_pos (by omega) ?_)
  have eb : bt (bl w) 0 = ((w[0]'(by omega)).toNat : Int) := by
   have := bt_list (bl w) 0 (by omega)
   simp only [bl_list] at this
   exact this
  rw [eb]
  have hh : w.head? = some (w[0]'(by omega)) := List.head?_eq_getElem? ▸ List.getElem?_eq_getElem (by omega)
  by_cases h48 : w[0]'(by omega) = 48
  ·
   refine Ev.if_pos (by rw [h48]; rfl) ?_
   by_cases hl : 1 < w.length
   ·
    rw [decide_eq_true (show (w.length : Int) > 1 by omega)]
    have : rv w = -1 := by
     unfold rv canonB
     rw [if_neg]
     rw [hh, h48, decide_eq_true hl]
     simp
    rw [this]
    exact bad
   ·
    rw [decide_eq_false (show ¬ (w.length : Int) > 1 by omega)]
    have : rv w = (if digs w = true then (valF w 0 : Int) else -1) := by
     unfold rv canonB
     rw [decide_eq_true h, decide_eq_false hl]
     simp
    rw [this]
    exact good
  ·
   refine Ev.if_neg (fun e => h48 (UInt8.toNat_inj.mp (by have : ((48 : UInt8).toNat : Int) = 48 := rfl; omega))) ?_
   have : rv w = (if digs w = true then (valF w 0 : Int) else -1) := by
    unfold rv canonB
    rw [decide_eq_true h, hh, decide_eq_false (show ¬ some (w[0]'(by omega)) = some 48 from fun e => h48 (Option.some.inj e))]
    simp
   rw [this]
   exact good
 ·
  refine Ev.if_neg (fun e => h (by have := of_decide_eq_true e; omega)) ?_
  have : rv w = -1 := by
   unfold rv canonB
   rw [decide_eq_false h]
   simp
  rw [this]
  exact bad
theorem ofNat_digit (u : Nat) (h : u < 10) : (UInt8.ofNat (48 + u)).toNat = 48 + u := by
 rw [UInt8.toNat_ofNat']
 exact Nat.mod_eq_of_lt (by omega)
theorem digs_append (x y : List UInt8) : digs (x ++ y) = (digs x && digs y) := List.all_append
theorem dd_digs (u : Nat) : digs (Lib.decDigits u) = true := by
 induction u using Nat.strongRecOn with
 | _ u ih =>
  by_cases h : u < 10
  ·
   rw [Lib.decDigits, dif_pos h]
   show (decide (48 ≤ (UInt8.ofNat (48 + u)).toNat ∧ (UInt8.ofNat (48 + u)).toNat ≤ 57) && true) = true
   rw [ofNat_digit u h, decide_eq_true (by omega)]; rfl
  ·
   rw [Lib.decDigits, dif_neg h, digs_append, ih (u / 10) (by omega), Bool.true_and]
   show (decide (48 ≤ (UInt8.ofNat (48 + u % 10)).toNat ∧ (UInt8.ofNat (48 + u % 10)).toNat ≤ 57) && true) = true
   rw [ofNat_digit (u % 10) (by omega), decide_eq_true (by omega)]; rfl
theorem dd_val (u : Nat) : valF (Lib.decDigits u) 0 = u := by
 induction u using Nat.strongRecOn with
 | _ u ih =>
  by_cases h : u < 10
  ·
   rw [Lib.decDigits, dif_pos h]
   show 10 * 0 + ((UInt8.ofNat (48 + u)).toNat - 48) = u
   rw [ofNat_digit u h]; omega
  ·
   rw [Lib.decDigits, dif_neg h, valF_append, ih (u / 10) (by omega)]
   show 10 * (u / 10) + ((UInt8.ofNat (48 + u % 10)).toNat - 48) = u
   rw [ofNat_digit (u % 10) (by omega)]; omega
theorem dd_head (u : Nat) (h1 : 1 ≤ u) : ∃ b, (Lib.decDigits u).head? = some b ∧ b ≠ 48 := by
 induction u using Nat.strongRecOn with
 | _ u ih =>
  by_cases h : u < 10
  ·
   rw [Lib.decDigits, dif_pos h]
   refine ⟨_, rfl, fun e => ?_⟩
   have := congrArg UInt8.toNat e
   rw [ofNat_digit u h] at this
   have h48 : (48 : UInt8).toNat = 48 := rfl
   omega
  ·
   rw [Lib.decDigits, dif_neg h]
   obtain ⟨b, hb, hn⟩ := ih (u / 10) (by omega) (by omega)
   refine ⟨b, ?_, hn⟩
   rw [List.head?_append, hb]; rfl
theorem rv_dd (u : Nat) (h : u ≤ 120) : rv (Lib.itoa (u : Int)) = (u : Int) := by
 have hl := itoa_len (n := (u : Int)) (by omega) (by omega)
 rw [Lib.itoa_nonneg] at hl ⊢
 unfold rv
 rw [if_pos, dd_val]
 refine ⟨?_, dd_digs u⟩
 unfold canonB
 by_cases h0 : u = 0
 ·
  subst h0
  rw [Lib.decDigits, dif_pos (by decide)]
  rfl
 ·
  obtain ⟨b, hb, hn⟩ := dd_head u (by omega)
  have hne : 1 ≤ (Lib.decDigits u).length := by
   cases hx : Lib.decDigits u with
   | nil => rw [hx] at hb; cases hb
   | cons c r => simp
  rw [decide_eq_true (show 1 ≤ (Lib.decDigits u).length ∧ (Lib.decDigits u).length ≤ 6 by omega), hb, decide_eq_false (show ¬ some b = some 48 from fun e => hn (Option.some.inj e))]
  rfl
theorem canon (n : Nat) : ∀ w : List UInt8, w.length = n → 1 ≤ n → digs w = true → (n = 1 ∨ w.head? ≠ some 48) → Lib.decDigits (valF w 0) = w ∧ (w.head? ≠ some 48 → 1 ≤ valF w 0) := by
 induction n with
 | zero => intro w _ h; omega
 | succ n ih =>
  intro w hw _ hd hc
  rcases List.eq_nil_or_concat w with rfl | ⟨M, d, rfl⟩
  ·
   simp at hw
  ·
   rw [List.concat_eq_append] at *
   rw [digs_append] at hd
   obtain ⟨hM, hd1⟩ := Bool.and_eq_true_iff.mp hd
   have hdd : 48 ≤ d.toNat ∧ d.toNat ≤ 57 := by
    have : (decide (48 ≤ d.toNat ∧ d.toNat ≤ 57) && true) = true := hd1
    simpa using this
   have ed : UInt8.ofNat (48 + (d.toNat - 48)) = d := by
    apply UInt8.toNat_inj.mp
    rw [ofNat_digit _ (by omega)]; omega
   have hML : M.length = n := by simpa using hw
   rw [valF_append]
   show Lib.decDigits (10 * valF M 0 + (d.toNat - 48)) = M ++ [d] ∧ (_ → 1 ≤ 10 * valF M 0 + (d.toNat - 48))
   by_cases hn : n = 0
   ·
    obtain rfl : M = [] := List.length_eq_zero_iff.mp (by omega)
    refine ⟨?_, fun hh => ?_⟩
    ·
     show Lib.decDigits (10 * 0 + (d.toNat - 48)) = [d]
     rw [Lib.decDigits, dif_pos (by omega), show 48 + (10 * 0 + (d.toNat - 48)) = 48 + (d.toNat - 48) by omega, ed]
    ·
     show 1 ≤ 10 * 0 + (d.toNat - 48)
     have : d ≠ 48 := fun e => hh (by rw [e]; rfl)
     have h48 : d.toNat ≠ 48 := fun e => this (UInt8.toNat_inj.mp e)
     omega
   ·
    have hhM : (M ++ [d]).head? = M.head? := by
     cases M with
     | nil => simp at hML; omega
     | cons c r => rfl
    have hne : M.head? ≠ some 48 := by
     rcases hc with hc | hc
     ·
      omega
     ·
      rwa [hhM] at hc
    obtain ⟨e1, e2⟩ := ih M hML (by omega) hM (.inr hne)
    have hv := e2 hne
    refine ⟨?_, fun _ => by omega⟩
    rw [Lib.decDigits, dif_neg (by omega), show (10 * valF M 0 + (d.toNat - 48)) / 10 = valF M 0 by omega, e1, show (10 * valF M 0 + (d.toNat - 48)) % 10 = d.toNat - 48 by omega, ed]
theorem parse_digs (w : List UInt8) : ∀ a : Nat, digs w = true → valF w a ≤ 1000000000000 → Lib.parseUint10 a w = .ok (valF w a) := by
 induction w with
 | nil => intro a _ _; rfl
 | cons b r ih =>
  intro a hd hv
  obtain ⟨hb, hr⟩ := Bool.and_eq_true_iff.mp (show (decide (48 ≤ b.toNat ∧ b.toNat ≤ 57) && digs r) = true from hd)
  have hb := of_decide_eq_true hb
  simp only [valF] at hv ⊢
  have hge := valF_ge r (10 * a + (b.toNat - 48))
  unfold Lib.parseUint10
  rw [if_pos hb, if_neg (by omega), if_neg (by omega), show a * 10 + (b.toNat - 48) = 10 * a + (b.toNat - 48) by omega]
  exact ih _ hr hv
def ir (w : List UInt8) : Int × Bool := match Lib.atoiAll w with | .ok v => (v, (⟨(Lib.itoa v).toArray⟩ : ByteArray).toList == (bl w).toList) | .range => (Lib.atoiSat w, false) | _ => (0, false)
theorem implRead_f (w : List UInt8) (hw : w.length ≤ 1000) : impl_readNumber.f (bl w) = some (ir w) := by
 unfold impl_readNumber.f ir
 rw [if_pos (by rw [bl_size]; exact hw), bl_list]
 cases Lib.atoiAll w <;> rfl
theorem ir_of_rv {w : List UInt8} (h : 0 ≤ rv w) : ir w = (rv w, true) := by
 unfold rv at h ⊢
 by_cases hc : canonB w = true ∧ digs w = true
 ·
  rw [if_pos hc]
  obtain ⟨h1, h2⟩ := hc
  unfold canonB at h1
  obtain ⟨k1, k2⟩ := Bool.and_eq_true_iff.mp h1
  have k1 := of_decide_eq_true k1
  have hcan : w.length = 1 ∨ w.head? ≠ some 48 := by
   by_cases hl : w.length = 1
   ·
    exact .inl hl
   ·
    refine .inr fun e => ?_
    rw [e, decide_eq_true (show 1 < w.length by omega)] at k2
    simp at k2
  have e1 := (canon w.length w rfl k1.1 h2 hcan).1
  have hvb : valF w 0 ≤ 1000000000000 := by
   have key : ∀ (x : List UInt8) (a : Nat), digs x = true → valF x a < (a + 1) * 10 ^ x.length := by
    intro x
    induction x with
    | nil => intro a _; simp [valF]
    | cons b r ih =>
     intro a hd
     obtain ⟨hb, hr⟩ := Bool.and_eq_true_iff.mp (show (decide (48 ≤ b.toNat ∧ b.toNat ≤ 57) && digs r) = true from hd)
     have hb := of_decide_eq_true hb
     have := ih (10 * a + (b.toNat - 48)) hr
     simp only [valF, List.length_cons]
     refine Nat.lt_of_lt_of_le this ?_
     rw [Nat.pow_succ, Nat.mul_comm (10 ^ r.length) 10, ← Nat.mul_assoc]
     exact Nat.mul_le_mul_right _ (by omega)
   have h6 := key w 0 h2
   have hp : (10 : Nat) ^ w.length ≤ 10 ^ 6 := Nat.pow_le_pow_right (by decide) k1.2
   have e6 : (10 : Nat) ^ 6 = 1000000 := rfl
   omega
  have hat : Lib.atoiAll w = .ok (valF w 0 : Int) := by
   cases w with
   | nil => simp at k1
   | cons c r =>
    have hb : (decide (48 ≤ c.toNat ∧ c.toNat ≤ 57) && digs r) = true := h2
    have hb := of_decide_eq_true (Bool.and_eq_true_iff.mp hb).1
    simp only [Lib.atoiAll]
    rw [if_neg (show ¬ (c.toNat = 43 ∨ c.toNat = 45) by omega)]
    unfold Lib.parseMag
    rw [if_neg (by simp), parse_digs (c :: r) 0 h2 hvb]
    simp only
    rw [if_neg (by omega), if_neg (by omega), if_neg (by omega)]
  unfold ir
  rw [hat]
  simp only [Prod.mk.injEq, true_and]
  rw [Lib.itoa_nonneg, e1]
  exact beq_self_eq_true _
 ·
  rw [if_neg hc] at h
  omega
theorem rv_of_ir {w : List UInt8} (h2 : (ir w).2 = true) (h0 : 0 ≤ (ir w).1) (h1 : (ir w).1 ≤ 120) : rv w = (ir w).1 ∧ w.length ≤ 3 := by
 unfold ir at h2 h0 h1 ⊢
 cases ha : Lib.atoiAll w with
 | range => rw [ha] at h2; cases h2
 | ok v =>
  rw [ha] at h2 h0 h1
  simp only at h2 h0 h1 ⊢
  have e := beq_iff_eq.mp h2
  rw [Lib.toList_data, Lib.toList_data, bl_list] at e
  have e : Lib.itoa v = w := by simpa using e
  rw [← e]
  obtain ⟨u, rfl⟩ : ∃ u : Nat, v = (u : Int) := ⟨v.toNat, by omega⟩
  exact ⟨rv_dd u (by omega), itoa_len h0 (by omega)⟩
 | _ => rw [ha] at h2; cases h2
theorem words_at (ws : List (List UInt8)) (i : Nat) (h : i < ws.length) : rdOf ByteArray.empty (ws.map bl) (i : Int) = bl ws[i] := by
 unfold rdOf
 rw [Int.toNat_natCast, List.getD_eq_getElem?_getD, List.getElem?_eq_getElem (by simpa using h)]
 simp
def goodOr (l : List Int) : List Int × Bool := if goodB l = true then (l, true) else ([], false)
theorem agParse_l (ws : List (List UInt8)) (hn : ws.length ≤ 100) (hw : ∀ w ∈ ws, w.length ≤ 1000) (d : Nat) : ∀ (i : Nat) (acc : List Int), i + d = ws.length → acc.length ≤ i → Ev (fun k => spec_agParse.l0 k acc (ws.map bl) ((ws.map bl).length : Int) (i : Int)) (goodOr (acc ++ (ws.drop i).map rv)) := by
 have hm : (ws.map bl).length = ws.length := List.length_map ..
 induction d with
 | zero =>
  intro i acc hi _
  refine Ev.step (fun k => by simp only [spec_agParse.l0]; rw [if_neg (by omega)]) (Ev.bind (agGood_f acc) ?_)
  rw [List.drop_of_length_le (by omega), List.map_nil, List.append_nil]
  by_cases hg : goodB acc = true
  ·
   rw [show goodOr acc = (acc, true) from if_pos hg]
   exact Ev.if_pos hg (Ev.now _)
  ·
   rw [show goodOr acc = ([], false) from if_neg hg]
   exact Ev.if_neg hg (Ev.now _)
 | succ d ih =>
  intro i acc hi ha
  have hlt : i < ws.length := by omega
  have ew : wrap64 ((i : Int) + 1) = ((i + 1 : Nat) : Int) := by rw [w64 (by omega) (by omega)]; omega
  refine Ev.step (fun k => by simp only [spec_agParse.l0]; rw [if_pos (show (i : Int) < ((ws.map bl).length : Int) by omega), if_pos (show 0 ≤ (i : Int) by omega), ew, words_at ws i hlt]) ?_
  refine Ev.if_pos (show (i : Int) < ((ws.map bl).length : Int) by omega) ?_
  refine (Ev.bind (specRead_f _ (hw _ (List.getElem_mem hlt))) (Ev.if_pos (show acc.length < 17592186044416 by omega) ?_))
  refine Ev.same (ih (i + 1) _ (by omega) (by rw [List.length_append, List.length_singleton]; omega)) ?_
  rw [List.drop_eq_getElem_cons hlt, List.map_cons, List.append_assoc]
  rfl
def rdAll : List (List UInt8) → List Int → List Int × Bool
 | [], acc => (acc, true)
 | w :: ws, acc => if (ir w).2 = true then rdAll ws (acc ++ [(ir w).1]) else ([], false)
theorem readN_l (ws : List (List UInt8)) (hn : ws.length ≤ 100) (hw : ∀ w ∈ ws, w.length ≤ 1000) (d : Nat) : ∀ (i : Nat) (acc : List Int), i + d = ws.length → acc.length ≤ i → Ev (fun k => impl_readNumbers.l0 k acc (ws.map bl) ((ws.map bl).length : Int) (i : Int)) (rdAll (ws.drop i) acc) := by
 have hm : (ws.map bl).length = ws.length := List.length_map ..
 induction d with
 | zero =>
  intro i acc hi _
  refine Ev.step (f := fun _ => some (acc, true)) (fun k => by simp only [impl_readNumbers.l0]; rw [if_neg (by omega)]) ?_
  rw [List.drop_of_length_le (by omega)]
  exact Ev.now _
 | succ d ih =>
  intro i acc hi ha
  have hlt : i < ws.length := by omega
  have ew : wrap64 ((i : Int) + 1) = ((i + 1 : Nat) : Int) := by rw [w64 (by omega) (by omega)]; omega
  refine Ev.step (fun k => by simp only [impl_readNumbers.l0]; rw [if_pos (show (i : Int) < ((ws.map bl).length : Int) by omega), if_pos (show 0 ≤ (i : Int) by omega), ew, words_at ws i hlt]) ?_
  refine Ev.if_pos (show (i : Int) < ((ws.map bl).length : Int) by omega) ?_
  refine (Ev.got (implRead_f _ (hw _ (List.getElem_mem hlt))) ?_)
  rw [List.drop_eq_getElem_cons hlt, rdAll]
  cases h : (ir ws[i]).2 with
  | true =>
   rw [if_pos rfl]
   exact Ev.if_pos rfl (Ev.if_pos (by omega) (ih (i + 1) _ (by omega) (by rw [List.length_append, List.length_singleton]; omega)))
  | false => rw [if_neg (by simp)]; exact Ev.if_neg (by simp) (Ev.now _)
theorem rdAll_ok (ws : List (List UInt8)) : ∀ acc, (∀ w ∈ ws, (ir w).2 = true) → rdAll ws acc = (acc ++ ws.map (fun w => (ir w).1), true) := by
 induction ws with
 | nil => intro acc _; simp [rdAll]
 | cons w ws ih =>
  intro acc h
  rw [rdAll, if_pos (h w (by simp)), ih _ (fun x hx => h x (by simp [hx])), List.map_cons, List.append_assoc]
  rfl
theorem rdAll_bad (ws : List (List UInt8)) : ∀ acc, ¬ (∀ w ∈ ws, (ir w).2 = true) → rdAll ws acc = ([], false) := by
 induction ws with
 | nil => intro acc h; exact absurd (fun w hw => by cases hw) h
 | cons w ws ih =>
  intro acc h
  rw [rdAll]
  by_cases h1 : (ir w).2 = true
  ·
   rw [if_pos h1]
   refine ih _ (fun h2 => h (fun x hx => ?_))
   rcases List.mem_cons.mp hx with rfl | hx
   ·
    exact h1
   ·
    exact h2 x hx
  ·
   rw [if_neg h1]
def paF (s : ByteArray) : List Int × Bool := if s.size ≤ 31 then goodOr ((spl s.data.toList).map rv) else ([], false)
theorem goodOr_length (l : List Int) : (goodOr l).1.length ≤ 8 := by
 unfold goodOr
 by_cases h : goodB l = true
 ·
  rw [if_pos h]; exact (good_len h).2
 ·
  rw [if_neg h]; simp
theorem paF_length (s : ByteArray) : (paF s).1.length ≤ 8 := by
 unfold paF
 by_cases h : s.size ≤ 31
 ·
  rw [if_pos h]; exact goodOr_length _
 ·
  rw [if_neg h]; simp
theorem mem_sum (ws : List (List UInt8)) (w : List UInt8) (hw : w ∈ ws) : w.length + 1 ≤ (ws.map (fun w => w.length + 1)).sum := by
 induction ws with
 | nil => cases hw
 | cons x xs ih =>
  simp only [List.map_cons, List.sum_cons]
  rcases List.mem_cons.mp hw with rfl | h
  ·
   omega
  ·
   have := ih h; omega
theorem word_short {l : List UInt8} (hl : l.length ≤ 100) : ∀ w ∈ spl l, w.length ≤ 1000 := by
 intro w hw
 have h1 := spl_len l
 have h2 := mem_sum (spl l) w hw
 omega
theorem specPA_f (s : ByteArray) : Ev (fun k => spec_ParseAges.f k s) (paF s) := by
 refine Ev.congr (fun k => by unfold spec_ParseAges.f; rfl) ?_
 refine Ev.bind (a := paF s) ?_ (Ev.now _)
 refine Ev.congr (fun k => by unfold spec_agParse.f; rfl) ?_
 unfold paF
 by_cases h : s.size ≤ 31
 ·
  have hz := Lib.size_eq s
  have hc := spl_count s.data.toList
  rw [if_pos h]
  refine Ev.if_neg (by omega) (Ev.bind (specSplit_f s (by omega)) ?_)
  exact agParse_l (spl s.data.toList) (by omega) (word_short (by omega)) (spl s.data.toList).length 0 [] (by omega) (Nat.le_refl _)
 ·
  rw [if_neg h]
  exact Ev.if_pos (by omega) (Ev.now _)
theorem sum_short (ws : List (List UInt8)) (h : ∀ w ∈ ws, w.length ≤ 3) : (ws.map (fun w => w.length + 1)).sum ≤ 4 * ws.length := by
 induction ws with
 | nil => simp
 | cons w ws ih =>
  have h1 := h w (by simp)
  have h2 := ih (fun x hx => h x (by simp [hx]))
  simp only [List.map_cons, List.sum_cons, List.length_cons]
  omega
theorem readN_f (s : ByteArray) (hs : s.size ≤ 32) : Ev (fun k => impl_readNumbers.f k s (⟨#[45]⟩ : ByteArray)) (rdAll (spl s.data.toList) []) := by
 have hz := Lib.size_eq s
 have hc := spl_count s.data.toList
 have hsp : strings_Split.f s (⟨#[45]⟩ : ByteArray) = some ((spl s.data.toList).map bl) := by
  unfold strings_Split.f
  rw [if_pos ⟨by omega, by decide⟩]
  exact congrArg some (splitB_spl s.size s (Nat.le_refl _))
 refine Ev.congr (fun k => by unfold impl_readNumbers.f; rfl) (Ev.got hsp ?_)
 exact readN_l (spl s.data.toList) (by omega) (word_short (by omega)) (spl s.data.toList).length 0 [] (by omega) (Nat.le_refl _)
theorem implPA_f (s : ByteArray) : Ev (fun k => impl_ParseAges.f k s) (paF s) := by
 refine Ev.congr (fun k => by unfold impl_ParseAges.f; rfl) ?_
 by_cases h32 : s.size ≤ 32
 ·
  refine Ev.if_neg (by omega) (Ev.bind (readN_f s h32) ?_)
  have hz := Lib.size_eq s
  have hlen := spl_len s.data.toList
  generalize hws : spl s.data.toList = ws at hlen
  have key : (if (rdAll ws []).2 = true then goodOr (rdAll ws []).1 else ([], false)) = paF s := by
   unfold paF
   rw [hws]
   by_cases hall : ∀ w ∈ ws, (ir w).2 = true
   ·
    rw [rdAll_ok ws [] hall, if_pos rfl, List.nil_append]
    by_cases hg : goodB (ws.map fun w => (ir w).1) = true
    ·
     have hb : ∀ w ∈ ws, rv w = (ir w).1 ∧ w.length ≤ 3 := fun w hw => by
      have := good_mem hg (List.mem_map.mpr ⟨w, hw, rfl⟩)
      exact rv_of_ir (hall w hw) this.1 this.2
     have hn := (good_len hg).2
     rw [List.length_map] at hn
     have hsm := sum_short ws (fun w hw => (hb w hw).2)
     rw [if_pos (by omega), show ws.map rv = ws.map (fun w => (ir w).1) from List.map_congr_left (fun w hw => (hb w hw).1)]
    ·
     have e1 : goodOr (ws.map fun w => (ir w).1) = ([], false) := by unfold goodOr; rw [if_neg hg]
     rw [e1]
     by_cases h31 : s.size ≤ 31
     ·
      rw [if_pos h31]
      unfold goodOr
      rw [if_neg]
      intro hr
      apply hg
      rw [show (ws.map fun w => (ir w).1) = ws.map rv from List.map_congr_left (fun w hw => by
       have := good_mem hr (List.mem_map.mpr ⟨w, hw, rfl⟩)
       rw [ir_of_rv this.1])]
      exact hr
     ·
      rw [if_neg h31]
   ·
    rw [rdAll_bad ws [] hall, if_neg (by simp)]
    by_cases h31 : s.size ≤ 31
    ·
     rw [if_pos h31]
     unfold goodOr
     rw [if_neg]
     intro hr
     apply hall
     intro w hw
     have := good_mem hr (List.mem_map.mpr ⟨w, hw, rfl⟩)
     rw [ir_of_rv this.1]
    ·
     rw [if_neg h31]
  rw [← key]
  have ho : impl_agesOr.f (rdAll ws []).1 = some (goodOr (rdAll ws []).1) := by
   unfold impl_agesOr.f goodOr
   rw [areAges_f, Option.bind_some]
   cases goodB (rdAll ws []).1 <;> rfl
  by_cases hr : (rdAll ws []).2 = true
  ·
   have e : (if (rdAll ws []).2 = true then goodOr (rdAll ws []).1 else ([], false)) = goodOr (rdAll ws []).1 := if_pos hr
   rw [e]
   exact Ev.if_pos hr (Ev.got ho (Ev.now _))
  ·
   have e : (if (rdAll ws []).2 = true then goodOr (rdAll ws []).1 else ([], false)) = ([], false) := if_neg hr
   rw [e]
   exact Ev.if_neg hr (Ev.now _)
 ·
  refine Ev.if_pos (by omega) ?_
  unfold paF
  rw [if_neg (by omega)]
  exact Ev.now _

def drOf (l : List Int) (a : Int) : List Int × Bool := if whoB l a = true ∧ l.length ≠ 1 then (l.take a.toNat ++ l.drop (a.toNat + 1), true) else ([], false)
theorem drop_len {l : List Int} {i : Nat} (hi : i < l.length) : (l.take i ++ l.drop (i + 1)).length = l.length - 1 := by
 simp; omega
theorem drOf_length (l : List Int) (a : Int) : (drOf l a).1.length ≤ 9 := by
 unfold drOf
 split
 ·
  rename_i h
  have h1 := who_good h.1
  have := good_len h1.1
  rw [drop_len (by omega)]; omega
 ·
  simp
theorem good_drop {l : List Int} (hg : goodB l = true) {i : Nat} (hi : i < l.length) : goodB (l.take i ++ l.drop (i + 1)) = true ↔ l.length ≠ 1 := by
 have h1 := good_len hg
 have h2 := drop_len hi
 have h3 : allB (l.take i ++ l.drop (i + 1)) 0 120 = true := by
  unfold allB
  rw [List.all_eq_true]
  intro x hx
  have hm : x ∈ l := by
   rcases List.mem_append.mp hx with h | h
   ·
    exact List.mem_of_mem_take h
   ·
    exact List.mem_of_mem_drop h
  exact decide_eq_true (good_mem hg hm)
 unfold goodB
 rw [h3, h2]
 simp only [Bool.and_true, decide_eq_true_eq]
 omega
theorem specDA_f (l : List Int) (a : Int) : Ev (fun k => spec_DropAge.f k l a) (drOf l a) := by
 refine Ev.congr (fun k => by unfold spec_DropAge.f; rfl) (Ev.bind (agWho_f l a) ?_)
 cases hw : whoB l a with
 | true =>
  obtain ⟨hg, h0, h1⟩ := who_good hw
  have hl := good_len hg
  have ew : wrap64 (a + 1) = a + 1 := w64 (by omega) (by omega)
  refine Ev.if_pos rfl ?_
  by_cases h : l.length = 1
  ·
   exact Ev.if_pos (by omega) (Ev.same (Ev.now _) (by unfold drOf; rw [if_neg (fun q => q.2 h)]))
  ·
   refine Ev.if_neg (by omega) (Ev.if_pos h0 (Ev.if_pos (by omega) (Ev.const (fun k => ?_))))
   have e1 : (a + 1).toNat = a.toNat + 1 := by omega
   unfold spec_l1Own.f drOf
   rw [if_pos ⟨hw, h⟩, ew, e1]
   have h5 : (l.take a.toNat).length ≤ 8 := by simp; omega
   have h6 : (l.drop (a.toNat + 1)).length ≤ 8 := by simp; omega
   simp only [Option.bind_some, List.length_nil, List.nil_append]
   rw [if_pos (by omega)]
   simp only [Option.bind_some]
   rw [if_pos (by omega), if_pos (by omega), if_pos (by omega)]
 | false => exact Ev.if_neg (by simp) (Ev.same (Ev.now _) (by unfold drOf; rw [if_neg (fun q => by rw [hw] at q; simp at q)]))
theorem implDA_f (l : List Int) (a : Int) : impl_DropAge.f l a = some (drOf l a) := by
 unfold impl_DropAge.f
 rw [areAges_f]
 simp only [Option.bind_some]
 cases hg : goodB l with
 | true =>
  have hl := good_len hg
  rw [if_pos rfl, is_f l a hg]
  simp only [Option.bind_some]
  by_cases hw : 0 ≤ a ∧ a ≤ (l.length : Int) - 1
  ·
   have who : whoB l a = true := by unfold whoB; rw [hg, decide_eq_true hw]; rfl
   rw [if_pos (decide_eq_true hw)]
   unfold slices_Clone_int_int.f
   rw [if_pos (by omega)]
   simp only [Option.bind_some]
   rw [if_pos hw.1, if_pos (by omega)]
   unfold impl_agesOr.f
   rw [areAges_f]
   simp only [Option.bind_some]
   have key := good_drop hg (show a.toNat < l.length by omega)
   cases hs : goodB (l.take a.toNat ++ l.drop (a.toNat + 1)) with
   | true => rw [if_pos rfl]; unfold drOf; rw [if_pos ⟨who, key.mp hs⟩]
   | false => rw [if_neg (by simp)]; unfold drOf; rw [if_neg (fun q => by rw [key.mpr q.2] at hs; simp at hs)]
  ·
   rw [if_neg (fun q => hw (of_decide_eq_true q))]
   unfold drOf
   rw [if_neg (fun q => hw (who_is q.1))]
 | false => rw [if_neg (by simp)]; unfold drOf; rw [if_neg (fun q => by have := (who_good q.1).1; rw [hg] at this; simp at this)]

def insF (l : List Int) (x : Int) : List Int → List Int
 | [] => [x]
 | y :: p => if rd l y ≥ rd l x then y :: insF l x p else x :: y :: p
def Srt (l : List Int) (p : List Int) : Prop := p.Pairwise fun a b => rd l a ≥ rd l b
theorem insF_mem (l : List Int) (x z : Int) (p : List Int) : z ∈ insF l x p → z = x ∨ z ∈ p := by
 induction p with
 | nil => intro h; exact .inl (List.mem_singleton.mp h)
 | cons y p ih =>
  intro h
  rw [insF] at h
  by_cases q : rd l y ≥ rd l x
  ·
   rw [if_pos q] at h
   rcases List.mem_cons.mp h with h | h
   ·
    exact .inr (by simp [h])
   ·
    rcases ih h with h | h
    ·
     exact .inl h
    ·
     exact .inr (by simp [h])
  ·
   rw [if_neg q] at h
   rcases List.mem_cons.mp h with h | h
   ·
    exact .inl h
   ·
    exact .inr h
theorem insF_length (l : List Int) (x : Int) (p : List Int) : (insF l x p).length = p.length + 1 := by
 induction p with
 | nil => rfl
 | cons y p ih =>
  rw [insF]
  split
  ·
   simp [ih]
  ·
   simp
theorem insF_srt {l : List Int} (x : Int) {p : List Int} (h : Srt l p) : Srt l (insF l x p) := by
 induction p with
 | nil => exact List.pairwise_singleton _ _
 | cons y p ih =>
  have h1 := List.pairwise_cons.mp h
  rw [insF]
  by_cases q : rd l y ≥ rd l x
  ·
   rw [if_pos q]
   refine List.pairwise_cons.mpr ⟨fun z hz => ?_, ih h1.2⟩
   rcases insF_mem l x z p hz with rfl | hz
   ·
    exact q
   ·
    exact h1.1 z hz
  ·
   rw [if_neg q]
   refine List.pairwise_cons.mpr ⟨fun z hz => ?_, h⟩
   rcases List.mem_cons.mp hz with rfl | hz
   ·
    omega
   ·
    have := h1.1 z hz; omega
theorem insF_all {l : List Int} {x : Int} {p : List Int} (h : ∀ z ∈ p, rd l z ≥ rd l x) : insF l x p = p ++ [x] := by
 induction p with
 | nil => rfl
 | cons y p ih =>
  rw [insF, if_pos (h y (by simp)), ih (fun z hz => h z (by simp [hz]))]
  rfl
theorem insF_snoc {l : List Int} {x y : Int} (hy : rd l y < rd l x) (p : List Int) : insF l x (p ++ [y]) = insF l x p ++ [y] := by
 induction p with
 | nil => simp only [List.nil_append, insF]; rw [if_neg (by omega)]; rfl
 | cons z p ih =>
  simp only [List.cons_append, insF]
  split
  ·
   rw [ih]; rfl
  ·
   rfl
def AgeOk (l : List Int) (p : List Int) : Prop := ∀ z ∈ p, 0 ≤ z ∧ z < (l.length : Int)
theorem orderC_some {l : List Int} (hg : goodB l = true) {a b : Int} (ha : 0 ≤ a ∧ a < (l.length : Int)) (hb : 0 ≤ b ∧ b < (l.length : Int)) : orderC l a b = some (rd l b - rd l a) := by
 have h1 := good_mem hg (rd_mem ha.1 ha.2)
 have h2 := good_mem hg (rd_mem hb.1 hb.2)
 unfold orderC
 rw [if_pos hb.1, if_pos hb.2, if_pos ha.1, if_pos ha.2, w64 (by omega) (by omega)]
theorem rd_mid (p : List Int) (y : Int) (q : List Int) : rd (p ++ y :: q) (p.length : Int) = y := by
 rw [rd_at (p ++ y :: q) p.length (by simp)]; simp
theorem swap_mid (p : List Int) (y x : Int) (q : List Int) : swapL (p ++ y :: x :: q) p.length = p ++ x :: y :: q := by
 have e1 : rd (p ++ y :: x :: q) ((p.length + 1 : Nat) : Int) = x := by
  have := rd_mid (p ++ [y]) x q
  simpa using this
 unfold swapL
 rw [rd_mid, e1]
 simp [List.set_append]
theorem insIn_f {l : List Int} (hg : goodB l = true) (n : Nat) : ∀ (p : List Int) (x : Int) (q : List Int), p.length = n → Srt l p → AgeOk l p → (0 ≤ x ∧ x < (l.length : Int)) → insIn (orderC l) n (p ++ x :: q) = some (insF l x p ++ q) := by
 induction n with
 | zero =>
  intro p x q hp _ _ _
  obtain rfl := List.length_eq_zero_iff.mp hp
  rfl
 | succ n ih =>
  intro p x q hp hs hok hx
  obtain ⟨p', y, rfl⟩ : ∃ p' y, p = p' ++ [y] := ⟨p.dropLast, p.getLast (by intro e; simp [e] at hp), (List.dropLast_concat_getLast _).symm⟩
  have hp' : p'.length = n := by simpa using hp
  have hy := hok y (by simp)
  subst hp'
  have e0 : (p' ++ [y]) ++ x :: q = p' ++ y :: x :: q := by simp
  have e1 : rd (p' ++ y :: x :: q) ((p'.length + 1 : Nat) : Int) = x := by
   have := rd_mid (p' ++ [y]) x q
   simpa using this
  have hs' := List.pairwise_append.mp hs
  rw [e0, insIn, e1, rd_mid, orderC_some hg hx hy]
  simp only [Option.bind_some]
  by_cases c : rd l y - rd l x < 0
  ·
   rw [if_pos c, swap_mid, ih p' x (y :: q) rfl hs'.1 (fun z hz => hok z (by simp [hz])) hx, insF_snoc (by omega)]
   simp
  ·
   rw [if_neg c, insF_all (fun z hz => ?_)]
   ·
    simp
   ·
    rcases List.mem_append.mp hz with hz | hz
    ·
     have := hs'.2.2 z hz y (by simp)
     omega
    ·
     rw [List.mem_singleton.mp hz]; omega
def sortN (l : List Int) : Nat → List Int
 | 0 => []
 | i + 1 => insF l (i : Int) (sortN l i)
theorem sortN_srt (l : List Int) : ∀ i, Srt l (sortN l i)
 | 0 => List.Pairwise.nil
 | i + 1 => insF_srt _ (sortN_srt l i)
theorem sortN_length (l : List Int) : ∀ i, (sortN l i).length = i
 | 0 => rfl
 | i + 1 => by rw [sortN, insF_length, sortN_length l i]
theorem sortN_mem (l : List Int) : ∀ i z, z ∈ sortN l i → 0 ≤ z ∧ z < (i : Int)
 | 0, z, h => by cases h
 | i + 1, z, h => by
  rcases insF_mem l _ z _ h with rfl | h
  ·
   omega
  ·
   have := sortN_mem l i z h; omega
def restL : Nat → Nat → List Int
 | _, 0 => []
 | i, m + 1 => (i : Int) :: restL (i + 1) m
theorem ups_rest (m : Nat) : ∀ i, ups i ++ restL i m = ups (i + m) := by
 induction m with
 | zero => intro i; simp [restL]
 | succ m ih =>
  intro i
  have := ih (i + 1)
  rw [ups_succ] at this
  rw [restL]
  rw [show i + (m + 1) = i + 1 + m by omega, ← this]
  simp
theorem insOut_f {l : List Int} (hg : goodB l = true) (m : Nat) : ∀ i, i + m = l.length → insOut (orderC l) m i (sortN l i ++ restL i m) = some (sortN l (i + m)) := by
 induction m with
 | zero => intro i _; simp [insOut, restL]
 | succ m ih =>
  intro i hi
  have h1 := insIn_f hg i (sortN l i) (i : Int) (restL (i + 1) m) (sortN_length l i) (sortN_srt l i) (fun z hz => by have := sortN_mem l i z hz; omega) (by omega)
  rw [restL, insOut, h1]
  simp only [Option.bind_some]
  have h2 := ih (i + 1) (by omega)
  rw [sortN] at h2
  rw [h2, show i + 1 + m = i + (m + 1) by omega]
theorem order_f {l : List Int} (hg : goodB l = true) : impl_order.f l = some (sortN l l.length) := by
 have hl := good_len hg
 unfold impl_order.f
 rw [if_pos (by omega)]
 have h := insOut_f hg (l.length - 1) 1 (by omega)
 have e : sortN l 1 ++ restL 1 (l.length - 1) = ups l.length := by
  have := ups_rest (l.length - 1) 1
  rw [show 1 + (l.length - 1) = l.length by omega] at this
  exact this
 rw [e] at h
 rw [h, show 1 + (l.length - 1) = l.length by omega]

theorem own_f {q : List Int} (h : q.length ≤ 1000) : spec_l1Own.f q = some q := by
 unfold spec_l1Own.f
 simp only [Option.bind_some, List.length_nil, List.nil_append]
 rw [if_pos (by omega)]
theorem ord_put {l : List Int} (x : Nat) (hx : x < 1000) (p1 p2 : List Int) (hb : p1.length + p2.length ≤ 100) (r : List Int) (h : Ev (fun k => spec_agOrder.l0 k l (p1 ++ ((x : Int) :: p2)) l (l.length : Int) ((x + 1 : Nat) : Int)) r) :
  Ev (fun k => if (p1.length : Int) ≤ ((p1 ++ p2).length : Int) then ((spec_l1Own.f ((p1 ++ p2).take ((p1.length : Int)).toNat)).bind fun t388 => (if t388.length < 17592186044416 then ((some (t388 ++ [(x : Int)] : List Int)).bind fun y391 => ((some ((p1 ++ p2).drop ((p1.length : Int)).toNat : List Int)).bind fun y394 => (if y391.length + y394.length < 17592186044416 then (spec_agOrder.l0 k l (y391 ++ y394) l (l.length : Int) (wrap64 ((x : Int) + 1))) else (none)))) else (none))) else (none)) r := by
 have ew : wrap64 ((x : Int) + 1) = ((x + 1 : Nat) : Int) := by rw [w64 (by omega) (by omega)]; omega
 refine Ev.if_pos (by simp; omega) ?_
 rw [Int.toNat_natCast]
 have e1 : (p1 ++ p2).take p1.length = p1 := List.take_left
 have e2 : (p1 ++ p2).drop p1.length = p2 := List.drop_left
 refine Ev.got (by rw [e1]; exact own_f (by omega)) (Ev.if_pos (by omega) ?_)
 refine Ev.got rfl (Ev.got rfl ?_)
 rw [e2]
 refine Ev.if_pos (by simp; omega) ?_
 rw [ew, show p1 ++ [(x : Int)] ++ p2 = p1 ++ ((x : Int) :: p2) by simp]
 exact h
theorem ord_l1 {l : List Int} (hl : l.length ≤ 8) (x : Nat) (hx : x < l.length) (p2 : List Int) : ∀ (p1 r : List Int), AgeOk l p2 → p1.length + p2.length ≤ 100 →
  Ev (fun k => spec_agOrder.l0 k l (p1 ++ insF l (x : Int) p2) l (l.length : Int) ((x + 1 : Nat) : Int)) r → Ev (fun k => spec_agOrder.l1 k l (p1 ++ p2) (x : Int) (rd l (x : Int)) (p1.length : Int) l (l.length : Int) (x : Int)) r := by
 induction p2 with
 | nil =>
  intro p1 r _ hb h
  refine Ev.step (fun k => by simp only [spec_agOrder.l1]; rw [if_neg (show ¬ (p1.length : Int) < ((p1 ++ ([] : List Int)).length : Int) by simp)]) ?_
  exact Ev.if_pos (show 0 ≤ (p1.length : Int) by omega) (ord_put x (by omega) p1 [] hb r h)
 | cons y p2 ih =>
  intro p1 r hok hb h
  have hy := hok y (by simp)
  simp only [List.length_cons] at hb
  have er : rd (p1 ++ y :: p2) (p1.length : Int) = y := rd_mid p1 y p2
  have ew : wrap64 ((p1.length : Int) + 1) = ((p1 ++ [y]).length : Int) := by rw [w64 (by omega) (by omega)]; simp
  refine Ev.step (fun k => by simp only [spec_agOrder.l1]; rw [if_pos (show (p1.length : Int) < ((p1 ++ y :: p2).length : Int) by simp; omega), if_pos (show 0 ≤ (p1.length : Int) by omega), er, if_pos hy.1, if_pos hy.2]) ?_
  rw [insF] at h
  by_cases c : rd l y ≥ rd l (x : Int)
  ·
   rw [if_pos c] at h
   refine Ev.if_pos c ?_
   rw [ew]
   have := ih (p1 ++ [y]) r (fun z hz => hok z (by simp [hz])) (by simp; omega) (by simpa using h)
   simpa using this
  ·
   rw [if_neg c] at h
   refine Ev.if_neg c ?_
   exact ord_put x (by omega) p1 (y :: p2) (by simp; omega) r h
theorem agOrder_l {l : List Int} (hg : goodB l = true) (d : Nat) : ∀ i, i + d = l.length → Ev (fun k => spec_agOrder.l0 k l (sortN l i) l (l.length : Int) (i : Int)) (sortN l l.length) := by
 have hl := good_len hg
 induction d with
 | zero =>
  intro i hi
  have e : i = l.length := by omega
  subst e
  exact Ev.step (f := fun _ => some (sortN l l.length)) (fun k => by simp only [spec_agOrder.l0]; rw [if_neg (by omega)]) (Ev.now _)
 | succ d ih =>
  intro i hi
  refine Ev.step (fun k => by simp only [spec_agOrder.l0]; rw [if_pos (show (i : Int) < (l.length : Int) by omega), if_pos (show 0 ≤ (i : Int) by omega), if_pos (show (i : Int) < (l.length : Int) by omega)]) ?_
  exact ord_l1 hl.2 i (by omega) (sortN l i) [] _ (fun z hz => by have := sortN_mem l i z hz; omega) (by rw [sortN_length]; simp; omega) (ih (i + 1) (by omega))
theorem agOrder_f {l : List Int} (hg : goodB l = true) : Ev (fun k => spec_agOrder.f k l) (sortN l l.length) := by
 refine Ev.congr (fun k => by unfold spec_agOrder.f; rfl) ?_
 exact agOrder_l hg l.length 0 (by omega)
def orOf (l : List Int) : List Int × Bool := if goodB l = true then (sortN l l.length, true) else ([], false)
theorem orOf_length (l : List Int) : (orOf l).1.length ≤ 9 := by
 unfold orOf
 split
 ·
  rename_i h; have := good_len h; rw [sortN_length]; omega
 ·
  simp
theorem specOr_f (l : List Int) : Ev (fun k => spec_OrderOfAges.f k l) (orOf l) := by
 refine Ev.congr (fun k => by unfold spec_OrderOfAges.f; rfl) ?_
 refine Ev.bind (agGood_f l) ?_
 unfold orOf
 cases hg : goodB l with
 | true => exact Ev.if_pos rfl (Ev.bind (agOrder_f hg) (Ev.same (Ev.now _) (by simp)))
 | false => exact Ev.if_neg (show ¬ (false = true) by decide) (Ev.same (Ev.now _) (by simp))
theorem implOr_f (l : List Int) : impl_OrderOfAges.f l = some (orOf l) := by
 unfold impl_OrderOfAges.f orOf
 rw [areAges_f]
 simp only [Option.bind_some]
 cases hg : goodB l with
 | true => rw [if_pos rfl, order_f hg]; rfl
 | false => rfl

def gpL (l s : List Int) : Nat → Nat → List Int
 | 0, _ => []
 | d + 1, i => wrap64 (rd l (rd s ((i : Int) - 1)) - rd l (rd s (i : Int))) :: gpL l s d (i + 1)
theorem gpL_length (l s : List Int) (d : Nat) : ∀ i, (gpL l s d i).length = d := by
 induction d with
 | zero => intro i; rfl
 | succ d ih => intro i; simp [gpL, ih]
theorem spec_GapsOfAges_l {l s : List Int} (hs : s.length ≤ 8) (hok : AgeOk l s) (d : Nat) : ∀ (i : Nat) (acc : List Int), 1 ≤ i → i + d = s.length → acc.length + d ≤ 100 → Ev (fun k => spec_GapsOfAges.l0 k l s acc (i : Int)) (acc ++ gpL l s d i, true) := by
 induction d with
 | zero =>
  intro i acc h0 h1 h2
  exact Ev.step (f := fun _ => some (acc, true)) (fun k => by simp only [spec_GapsOfAges.l0]; rw [if_neg (by omega)]) (Ev.same (Ev.now _) (by simp [gpL]))
 | succ d ih =>
  intro i acc h0 h1 h2
  have ew : wrap64 ((i : Int) + 1) = ((i + 1 : Nat) : Int) := by rw [w64 (by omega) (by omega)]; omega
  have em : wrap64 ((i : Int) - 1) = (i : Int) - 1 := w64 (by omega) (by omega)
  have a1 := hok _ (rd_mem (l := s) (i := (i : Int) - 1) (by omega) (by omega))
  have a2 := hok _ (rd_mem (l := s) (i := (i : Int)) (by omega) (by omega))
  refine Ev.step (fun k => by simp only [spec_GapsOfAges.l0]; rw [if_pos (show (i : Int) < (s.length : Int) by omega), ew, em, if_pos (show 0 ≤ (i : Int) - 1 by omega), if_pos (show (i : Int) - 1 < (s.length : Int) by omega), if_pos a1.1, if_pos a1.2, if_pos (show 0 ≤ (i : Int) by omega), if_pos a2.1, if_pos a2.2, if_pos (show acc.length < 17592186044416 by omega)]) ?_
  exact Ev.same (ih (i + 1) _ (by omega) (by omega) (by simp; omega)) (by simp [gpL])
theorem impl_GapsOfAges_l {l s : List Int} (hs : s.length ≤ 8) (hok : AgeOk l s) (d : Nat) : ∀ (i : Nat) (acc : List Int), 1 ≤ i → i + d = s.length → acc.length + d ≤ 100 → Ev (fun k => impl_GapsOfAges.l0 k l s acc (i : Int)) (acc ++ gpL l s d i, true) := by
 induction d with
 | zero =>
  intro i acc h0 h1 h2
  exact Ev.step (f := fun _ => some (acc, true)) (fun k => by simp only [impl_GapsOfAges.l0]; rw [if_neg (by omega)]) (Ev.same (Ev.now _) (by simp [gpL]))
 | succ d ih =>
  intro i acc h0 h1 h2
  have ew : wrap64 ((i : Int) + 1) = ((i + 1 : Nat) : Int) := by rw [w64 (by omega) (by omega)]; omega
  have em : wrap64 ((i : Int) - 1) = (i : Int) - 1 := w64 (by omega) (by omega)
  have a1 := hok _ (rd_mem (l := s) (i := (i : Int) - 1) (by omega) (by omega))
  have a2 := hok _ (rd_mem (l := s) (i := (i : Int)) (by omega) (by omega))
  refine Ev.step (fun k => by simp only [impl_GapsOfAges.l0]; rw [if_pos (show (i : Int) < (s.length : Int) by omega), ew, em, if_pos (show 0 ≤ (i : Int) - 1 by omega), if_pos (show (i : Int) - 1 < (s.length : Int) by omega), if_pos a1.1, if_pos a1.2, if_pos (show 0 ≤ (i : Int) by omega), if_pos a2.1, if_pos a2.2, if_pos (show acc.length < 17592186044416 by omega)]) ?_
  exact Ev.same (ih (i + 1) _ (by omega) (by omega) (by simp; omega)) (by simp [gpL])
def gaOf (l : List Int) : List Int × Bool := if goodB l = true then (gpL l (sortN l l.length) (l.length - 1) 1, true) else ([], false)
theorem gaOf_length (l : List Int) : (gaOf l).1.length ≤ 9 := by
 unfold gaOf
 split
 ·
  rename_i h; have := good_len h; rw [gpL_length]; omega
 ·
  simp
theorem specGA_f (l : List Int) : Ev (fun k => spec_GapsOfAges.f k l) (gaOf l) := by
 refine Ev.congr (fun k => by unfold spec_GapsOfAges.f; rfl) ?_
 refine Ev.bind (agGood_f l) ?_
 unfold gaOf
 cases hg : goodB l with
 | true =>
  have hl := good_len hg
  have hn := sortN_length l l.length
  exact Ev.if_pos rfl (Ev.bind (agOrder_f hg) (Ev.same (spec_GapsOfAges_l (by omega) (fun z hz => sortN_mem l l.length z hz) (l.length - 1) 1 [] (Nat.le_refl _) (by omega) (by simp; omega)) (by simp)))
 | false => exact Ev.if_neg (show ¬ (false = true) by decide) (Ev.same (Ev.now _) (by simp))
theorem implGA_f (l : List Int) : Ev (fun k => impl_GapsOfAges.f k l) (gaOf l) := by
 refine Ev.congr (fun k => by unfold impl_GapsOfAges.f; rfl) ?_
 refine Ev.got (areAges_f l) ?_
 unfold gaOf
 cases hg : goodB l with
 | true =>
  have hl := good_len hg
  have hn := sortN_length l l.length
  exact Ev.if_pos rfl (Ev.got (order_f hg) (Ev.same (impl_GapsOfAges_l (by omega) (fun z hz => sortN_mem l l.length z hz) (l.length - 1) 1 [] (Nat.le_refl _) (by omega) (by simp; omega)) (by simp)))
 | false => exact Ev.if_neg (show ¬ (false = true) by decide) (Ev.same (Ev.now _) (by simp))

theorem firstY_f (p : Nat → List Int → Option Bool) (q : Int → Bool) {l : List Int} (hg : goodB l = true) (hq : ∀ y, loY l ≤ y → y ≤ hiY l → Ev (fun k => p k (inY l y)) (q y)) : Ev (fun k => firstY.f p k l) (firstOf q (loY l) (nY l)) := by
 have hb := range_bounds hg
 have hl := good_len hg
 refine Ev.congr (fun k => by unfold firstY.f; rfl) (Ev.got (fitYears_f hg) ?_)
 refine loop_first (g := fun k y => firstY.l0 p k l (hiY l) y) (lo := loY l) (hi := hiY l) (fun y r h0 h1 h2 => ?_) ?_ (nY l) _ (Int.le_refl _) (nY_eq hg).1
 ·
  have ew : wrap64 (y + 1) = y + 1 := w64 (by omega) (by omega)
  refine Ev.step (fun k => by simp only [firstY.l0]; rw [if_pos h1, ew]) (Ev.bind (inYears_f l y (by omega)) (Ev.bind (hq y h0 h1) ?_))
  cases hqy : q y with
  | true => exact Ev.if_pos rfl (Ev.same (Ev.now _) (by simp))
  | false => exact Ev.if_neg (by simp) (Ev.same h2 (by simp))
 ·
  exact Ev.step (f := fun _ => some (0, false)) (fun k => by simp only [firstY.l0]; rw [if_neg (by omega)]) (Ev.now _)

def findR (t : Int) : List (List Int) → Int × Bool
 | [] => (0, false)
 | r :: rs => if rd r 1 = t then (rd r 0, true) else findR t rs
def omQ (l : List Int) (a b t y : Int) : Bool := decide (1 ≤ rd l b + y) && decide (Int.tmod (rd l a + y) (rd l b + y) = 0) && decide (Int.tdiv (rd l a + y) (rd l b + y) = t)
theorem findR_coll (l : List Int) (a b t : Int) (ht : 2 ≤ t) (d : Nat) : ∀ y, findR t (collR (mulC l a b) (mulR l a b) y d) = firstOf (omQ l a b t) y d := by
 induction d with
 | zero => intro y; rfl
 | succ d ih =>
  intro y
  simp only [collR, firstOf]
  by_cases hc : mulC l a b y = true
  ·
   rw [if_pos hc]
   simp only [findR]
   unfold mulC at hc
   simp only [Bool.and_eq_true, decide_eq_true_eq] at hc
   have e1 : rd (mulR l a b y) 1 = Int.tdiv (rd l a + y) (rd l b + y) := rfl
   have e0 : rd (mulR l a b y) 0 = y := rfl
   rw [e1, e0]
   by_cases h : Int.tdiv (rd l a + y) (rd l b + y) = t
   ·
    rw [if_pos h, if_pos (by unfold omQ; simp [hc.1.1, hc.1.2, h])]
   ·
    rw [if_neg h, if_neg (by unfold omQ; simp [h])]; exact ih (y + 1)
  ·
   rw [if_neg hc, if_neg (fun q => hc ?_)]
   ·
    exact ih (y + 1)
   ·
    unfold omQ at q
    unfold mulC
    simp only [Bool.and_eq_true, decide_eq_true_eq] at q ⊢
    exact ⟨q.1, by omega⟩
theorem drop_row (rows : List (List Int)) (i : Nat) (h : i < rows.length) : rows.drop i = rd_L2 rows (i : Int) :: rows.drop (i + 1) := by
 rw [List.drop_eq_getElem_cons h]
 congr 1
 unfold rd_L2
 simp [List.getD_eq_getElem?_getD, List.getElem?_eq_getElem h]
theorem specOM_l (t : Int) (rows : List (List Int)) (hb : rows.length ≤ 1048576) (h2 : ∀ r ∈ rows, r.length = 2) (d : Nat) : ∀ (i : Nat), i + d = rows.length → Ev (fun k => spec_YearsOfMultiple.l0 k t rows (rows.length : Int) (i : Int)) (findR t (rows.drop i)) := by
 induction d with
 | zero =>
  intro i hi
  exact Ev.step (f := fun _ => some (0, false)) (fun k => by simp only [spec_YearsOfMultiple.l0]; rw [if_neg (by omega)]) (Ev.same (Ev.now _) (by rw [List.drop_of_length_le (by omega)]; rfl))
 | succ d ih =>
  intro i hi
  have ew : wrap64 ((i : Int) + 1) = ((i + 1 : Nat) : Int) := by rw [w64 (by omega) (by omega)]; omega
  have hr : (rd_L2 rows (i : Int)).length = 2 := by
   refine h2 _ ?_
   have : rd_L2 rows (i : Int) ∈ rows.drop i := by rw [drop_row rows i (by omega)]; simp
   exact List.mem_of_mem_drop this
  refine Ev.step (fun k => by simp only [spec_YearsOfMultiple.l0]; rw [if_pos (by omega), if_pos (by omega), if_pos (by omega), if_pos (by omega), ew]) ?_
  rw [drop_row rows i (by omega)]
  by_cases h : rd (rd_L2 rows (i : Int)) 1 = t
  ·
   exact Ev.if_pos h (Ev.if_pos (by omega) (Ev.same (Ev.now _) (by simp [findR, h])))
  ·
   exact Ev.if_neg h (Ev.same (ih (i + 1) (by omega)) (by simp [findR, h]))
def omOk (l : List Int) (a b t : Int) : Prop := twoB l a b = true ∧ 2 ≤ t
instance (l : List Int) (a b t : Int) : Decidable (omOk l a b t) := inferInstanceAs (Decidable (_ ∧ _))
def omOf (l : List Int) (a b t : Int) : Int × Bool := if omOk l a b t then firstOf (omQ l a b t) (loY l) (nY l) else (0, false)
theorem specOM_f (l : List Int) (a b t : Int) : Ev (fun k => spec_YearsOfMultiple.f k l a b t) (omOf l a b t) := by
 have bad : ∀ (h : ¬ omOk l a b t) (c : Bool) (hc : c = true), Ev (fun k => spec_YearsOfMultiple.j0 k l a b t c) (omOf l a b t) := by
  intro h c hc
  subst hc
  exact Ev.step (f := fun _ => some (0, false)) (fun k => by simp only [spec_YearsOfMultiple.j0, if_true]) (Ev.same (Ev.now _) (by unfold omOf; rw [if_neg h]))
 refine Ev.congr (fun k => by unfold spec_YearsOfMultiple.f; rfl) (Ev.bind (agTwo_f l a b) ?_)
 cases two : twoB l a b with
 | true =>
  have hn := nY_eq (two_good two).1
  refine Ev.if_pos rfl ?_
  by_cases ht : t < 2
  ·
   exact bad (fun h => by have := h.2; omega) _ (by simpa using ht)
  ·
   have hlen := collR_length (mulC l a b) (mulR l a b) (nY l) (loY l)
   refine Ev.step (fun k => by simp only [spec_YearsOfMultiple.j0]; rw [if_neg (by simpa using ht)]) (Ev.bind (agMul_f l a b two) (Ev.same (specOM_l t (mulOf l a b) (by unfold mulOf; omega) (collR_two _ l a b _ _) (mulOf l a b).length 0 (by omega)) ?_))
   unfold omOf
   rw [if_pos ⟨two, by omega⟩]
   simpa [mulOf] using findR_coll l a b t (by omega) (nY l) (loY l)
 | false => exact Ev.if_neg (by simp) (bad (fun h => by have q := h.1; rw [two] at q; simp at q) _ rfl)
theorem implOM_f (l : List Int) (a b t : Int) : Ev (fun k => impl_YearsOfMultiple.f k l a b t) (omOf l a b t) := by
 refine Ev.congr (fun k => by unfold impl_YearsOfMultiple.f; rfl) (Ev.got (areTwo_f l a b) ?_)
 cases two : twoB l a b with
 | true =>
  obtain ⟨hg, ⟨a0, a1⟩, ⟨b0, b1⟩, _⟩ := two_good two
  refine Ev.if_pos rfl ?_
  by_cases ht : t < 2
  ·
   exact Ev.if_pos ht (Ev.same (Ev.now _) (by unfold omOf; rw [if_neg (fun h => by have := h.2; omega)]))
  ·
   refine Ev.if_neg ht (Ev.same (firstY_f _ (omQ l a b t) hg (fun y h0 h1 => ?_)) (by unfold omOf; rw [if_pos ⟨two, by omega⟩]))
   obtain ⟨m0, m1, me⟩ := rd_fit hg h0 h1 b0 b1
   obtain ⟨n0, n1, ne⟩ := rd_fit hg h0 h1 a0 a1
   refine Ev.const (fun k => ?_)
   unfold impl_YearsOfMultiple_1.p omQ
   rw [if_pos b0, if_pos (by rw [inY_length]; exact b1), inY_rd b0 b1, inY_rd a0 a1, me, ne]
   by_cases hp : 1 ≤ rd l b + y
   ·
    rw [if_pos hp, if_pos a0, if_pos (by rw [inY_length]; exact a1), decide_eq_true hp]
    by_cases hm : Int.tmod (rd l a + y) (rd l b + y) = 0
    ·
     rw [if_pos hm, decide_eq_true hm, tdiv_small n0 n1 hp, Bool.beq_eq_decide_eq]; rfl
    ·
     rw [if_neg hm, decide_eq_false hm]; rfl
   ·
    rw [if_neg hp, decide_eq_false hp]; rfl
 | false => exact Ev.if_neg (by simp) (Ev.same (Ev.now _) (by unfold omOf; rw [if_neg (fun h => by have q := h.1; rw [two] at q; simp at q)]))

def sumW : List Int → Int → Int
 | [], s => s
 | x :: xs, s => sumW xs (wrap64 (s + x))
theorem agSum_l (l : List Int) (hb : l.length ≤ 1048576) (d : Nat) : ∀ (i : Nat) (s : Int), i + d = l.length → Ev (fun k => spec_agSum.l0 k s l (l.length : Int) (i : Int)) (sumW (l.drop i) s) := by
 induction d with
 | zero =>
  intro i s hi
  exact Ev.step (f := fun _ => some s) (fun k => by simp only [spec_agSum.l0]; rw [if_neg (by omega)]) (Ev.same (Ev.now _) (by rw [List.drop_of_length_le (by omega)]; rfl))
 | succ d ih =>
  intro i s hi
  have ew : wrap64 ((i : Int) + 1) = ((i + 1 : Nat) : Int) := by rw [w64 (by omega) (by omega)]; omega
  refine Ev.step (f := fun k => spec_agSum.l0 k (wrap64 (s + rd l (i : Int))) l (l.length : Int) ((i + 1 : Nat) : Int)) (fun k => ?_) (Ev.same (ih (i + 1) _ (by omega)) (by rw [drop_rd l i (by omega)]; rfl))
  simp only [spec_agSum.l0]; rw [if_pos (by omega), if_pos (by omega), if_pos (by omega), ew]
theorem agSum_f (l : List Int) (hb : l.length ≤ 1048576) : Ev (fun k => spec_agSum.f k l) (sumW l 0) := Ev.same (agSum_l l hb l.length 0 _ (by omega)) (by simp)
theorem total_l (l : List Int) (hb : l.length ≤ 1048576) (d : Nat) : ∀ (i : Nat) (s : Int), i + d = l.length → Ev (fun k => impl_total.l0 k s l (l.length : Int) (i : Int)) (sumW (l.drop i) s) := by
 induction d with
 | zero =>
  intro i s hi
  exact Ev.step (f := fun _ => some s) (fun k => by simp only [impl_total.l0]; rw [if_neg (by omega)]) (Ev.same (Ev.now _) (by rw [List.drop_of_length_le (by omega)]; rfl))
 | succ d ih =>
  intro i s hi
  have ew : wrap64 ((i : Int) + 1) = ((i + 1 : Nat) : Int) := by rw [w64 (by omega) (by omega)]; omega
  refine Ev.step (f := fun k => impl_total.l0 k (wrap64 (s + rd l (i : Int))) l (l.length : Int) ((i + 1 : Nat) : Int)) (fun k => ?_) (Ev.same (ih (i + 1) _ (by omega)) (by rw [drop_rd l i (by omega)]; rfl))
  simp only [impl_total.l0]; rw [if_pos (by omega), if_pos (by omega), if_pos (by omega), ew]
theorem total_f (l : List Int) (hb : l.length ≤ 1048576) : Ev (fun k => impl_total.f k l) (sumW l 0) := Ev.same (total_l l hb l.length 0 _ (by omega)) (by simp)
theorem sumW_eq (l : List Int) : ∀ s, (∀ x ∈ l, -1000000 ≤ x ∧ x ≤ 1000000) → -4611686018427387904 + 1000000 * (l.length : Int) ≤ s → s + 1000000 * (l.length : Int) ≤ 4611686018427387904 → sumW l s = s + l.sum := by
 induction l with
 | nil => intro s _ _ _; simp [sumW]
 | cons x xs ih =>
  intro s h h3 h4
  have hx := h x (by simp)
  simp only [List.length_cons] at h3 h4
  simp only [sumW]
  rw [w64 (by omega) (by omega), ih (s + x) (fun y hy => h y (by simp [hy])) (by omega) (by omega)]
  simp; omega

theorem good_sum {l : List Int} (hg : goodB l = true) : sumW l 0 = l.sum ∧ 0 ≤ l.sum ∧ l.sum ≤ 960 := by
 have hl := good_len hg
 have key : ∀ m : List Int, (∀ x ∈ m, 0 ≤ x ∧ x ≤ 120) → 0 ≤ m.sum ∧ m.sum ≤ 120 * (m.length : Int) := by
  intro m
  induction m with
  | nil => intro _; simp
  | cons x xs ih =>
   intro h
   have hx := h x (by simp)
   have := ih (fun y hy => h y (by simp [hy]))
   simp only [List.sum_cons, List.length_cons]
   omega
 have hs := key l (fun x hx => good_mem hg hx)
 refine ⟨?_, hs.1, by omega⟩
 have := sumW_eq l 0 (fun x hx => by have := good_mem hg hx; omega) (by omega) (by omega)
 simpa using this

theorem agIn_l (y : Int) (l : List Int) (hb : l.length ≤ 1048576) (d : Nat) : ∀ (i : Nat) (acc : List Int), i + d = l.length → acc.length + d ≤ 1048576 → Ev (fun k => spec_agIn.l0 k y acc l (l.length : Int) (i : Int)) (acc ++ (l.drop i).map (fun x => wrap64 (x + y))) := by
 induction d with
 | zero =>
  intro i acc hi ha
  exact Ev.step (f := fun _ => some acc) (fun k => by simp only [spec_agIn.l0]; rw [if_neg (by omega)]) (Ev.same (Ev.now _) (by rw [List.drop_of_length_le (by omega)]; simp))
 | succ d ih =>
  intro i acc hi ha
  have ew : wrap64 ((i : Int) + 1) = ((i + 1 : Nat) : Int) := by rw [w64 (by omega) (by omega)]; omega
  refine Ev.step (f := fun k => spec_agIn.l0 k y (acc ++ [wrap64 (rd l (i : Int) + y)]) l (l.length : Int) ((i + 1 : Nat) : Int)) (fun k => ?_) (Ev.same (ih (i + 1) _ (by omega) (by simp; omega)) (by rw [drop_rd l i (by omega)]; simp))
  simp only [spec_agIn.l0]; rw [if_pos (by omega), if_pos (by omega), if_pos (by omega), if_pos (by omega), ew]
theorem agIn_f (l : List Int) (y : Int) (hb : l.length ≤ 1048576) : Ev (fun k => spec_agIn.f k l y) (inY l y) := Ev.same (agIn_l y l hb l.length 0 [] (by omega) (by simp; omega)) (by simp [inY])

theorem firstOf_spec (q : Int → Bool) (d : Nat) : ∀ (y : Int), (firstOf q y d).2 = true → q (firstOf q y d).1 = true ∧ y ≤ (firstOf q y d).1 ∧ (firstOf q y d).1 < y + d := by
 induction d with
 | zero => intro y h; simp [firstOf] at h
 | succ d ih =>
  intro y h
  by_cases hq : q y = true
  ·
   simp only [firstOf, if_pos hq] at h ⊢
   exact ⟨hq, by omega, by omega⟩
  ·
   simp only [firstOf, if_neg hq] at h ⊢
   have := ih (y + 1) h
   exact ⟨this.1, by omega, by omega⟩

def asQ (l : List Int) (a y : Int) : Bool := decide (sumW (inY l y) 0 = wrap64 (2 * rd (inY l y) a))
def asOk (l : List Int) (a : Int) : Prop := whoB l a = true ∧ (l.length : Int) ≠ 1
instance (l : List Int) (a : Int) : Decidable (asOk l a) := inferInstanceAs (Decidable (_ ∧ _))
def asOf (l : List Int) (a : Int) : Int × Bool := if asOk l a then firstOf (asQ l a) (loY l) (nY l) else (0, false)
theorem specAS_f (l : List Int) (a : Int) : Ev (fun k => spec_YearsAsSum.f k l a) (asOf l a) := by
 have bad : ∀ (h : ¬ asOk l a) (c : Bool) (hc : c = true), Ev (fun k => spec_YearsAsSum.j0 k l a c) (asOf l a) := by
  intro h c hc
  subst hc
  exact Ev.step (f := fun _ => some (0, false)) (fun k => by simp only [spec_YearsAsSum.j0, if_true]) (Ev.same (Ev.now _) (by unfold asOf; rw [if_neg h]))
 refine Ev.congr (fun k => by unfold spec_YearsAsSum.f; rfl) (Ev.bind (agWho_f l a) ?_)
 cases hw : whoB l a with
 | true =>
  obtain ⟨hg, a0, a1⟩ := who_good hw
  have hb := range_bounds hg
  have hl := good_len hg
  refine Ev.if_pos rfl ?_
  by_cases h1 : (l.length : Int) = 1
  ·
   exact bad (fun h => h.2 h1) _ (by simpa using h1)
  ·
   refine Ev.step (fun k => by simp only [spec_YearsAsSum.j0]; rw [if_neg (by simpa using h1)]) (Ev.bind (agRange_f hg) (Ev.same (loop_first (g := fun k y => spec_YearsAsSum.l0 k l a (hiY l) y) (q := asQ l a) (lo := loY l) (hi := hiY l) (fun y r h0 h1 h2 => ?_) ?_ (nY l) _ (Int.le_refl _) (nY_eq hg).1) (by unfold asOf; rw [if_pos ⟨hw, h1⟩])))
   ·
    have ew : wrap64 (y + 1) = y + 1 := w64 (by omega) (by omega)
    refine Ev.step (fun k => by simp only [spec_YearsAsSum.l0]; rw [if_pos h1, ew]) (Ev.bind (agIn_f l y (by omega)) (Ev.bind (agSum_f (inY l y) (by rw [inY_length]; omega)) (Ev.if_pos a0 (Ev.if_pos (show a < ((inY l y).length : Int) by rw [inY_length]; exact a1) ?_))))
    by_cases h : sumW (inY l y) 0 = wrap64 (2 * rd (inY l y) a)
    ·
     exact Ev.if_pos h (Ev.same (Ev.now _) (by simp [asQ, h]))
    ·
     exact Ev.if_neg h (Ev.same h2 (by simp [asQ, h]))
   ·
    exact Ev.step (f := fun _ => some (0, false)) (fun k => by simp only [spec_YearsAsSum.l0]; rw [if_neg (by omega)]) (Ev.now _)
 | false => exact Ev.if_neg (by simp) (bad (fun h => by have q := h.1; rw [hw] at q; simp at q) _ rfl)
theorem implAS_f (l : List Int) (a : Int) : Ev (fun k => impl_YearsAsSum.f k l a) (asOf l a) := by
 refine Ev.congr (fun k => by unfold impl_YearsAsSum.f; rfl) (Ev.got (areAges_f l) ?_)
 cases hg : goodB l with
 | true =>
  have hl := good_len hg
  refine Ev.if_pos rfl (Ev.got (is_f l a hg) ?_)
  cases hw : whoB l a with
  | true =>
   obtain ⟨_, a0, a1⟩ := who_good hw
   refine Ev.if_pos (by simpa using who_is hw) ?_
   by_cases h1 : (l.length : Int) = 1
   ·
    exact Ev.if_pos h1 (Ev.same (Ev.now _) (by unfold asOf; rw [if_neg (fun h => h.2 h1)]))
   ·
    refine Ev.if_neg h1 (Ev.same (firstY_f _ (asQ l a) hg (fun y _ _ => ?_)) (by unfold asOf; rw [if_pos ⟨hw, h1⟩]))
    refine Ev.if_pos a0 (Ev.if_pos (show a < ((inY l y).length : Int) by rw [inY_length]; exact a1) (Ev.bind (total_f (inY l y) (by rw [inY_length]; omega)) (Ev.same (Ev.now _) ?_)))
    unfold asQ
    rw [Bool.beq_eq_decide_eq]
    exact decide_eq_decide.mpr ⟨fun h => h.symm, fun h => h.symm⟩
  | false => exact Ev.if_neg (by simpa using not_who hg hw) (Ev.same (Ev.now _) (by unfold asOf; rw [if_neg (fun h => by have q := h.1; rw [hw] at q; simp at q)]))
 | false =>
  have hw : whoB l a = false := by unfold whoB; rw [hg]; rfl
  exact Ev.if_neg (by simp) (Ev.same (Ev.now _) (by unfold asOf; rw [if_neg (fun h => by have q := h.1; rw [hw] at q; simp at q)]))

theorem gcd_step (m n : Nat) : Nat.gcd m n = Nat.gcd n (m % n) := by rw [Nat.gcd_comm, Nat.gcd_rec, Nat.gcd_comm]
theorem tmod_nat (m n : Nat) : Int.tmod (m : Int) (n : Int) = ((m % n : Nat) : Int) := by
 rw [Int.tmod_eq_emod_of_nonneg (by omega)]; rfl
theorem divisor_l (n : Nat) : ∀ (m : Nat), m ≤ 1000000 → n ≤ 1000000 → Ev (fun k => impl_divisor.l0 k (m : Int) (n : Int)) ((Nat.gcd m n : Nat) : Int) := by
 induction n using Nat.strongRecOn with
 | _ n ih =>
  intro m hm hn
  by_cases h0 : n = 0
  ·
   subst h0
   refine Ev.step (f := fun _ => some (m : Int)) (fun k => ?_) (Ev.same (Ev.now _) (by simp))
   simp only [impl_divisor.l0]; rw [if_pos (by simp), w64 (x := -(m : Int)) (by omega) (by omega)]
   unfold mx; congr 1; split <;> omega
  ·
   refine Ev.step (f := fun k => impl_divisor.l0 k (n : Int) ((m % n : Nat) : Int)) (fun k => ?_) (Ev.same (ih (m % n) (Nat.mod_lt _ (by omega)) n (by omega) (by have := Nat.mod_lt m (show 0 < n by omega); omega)) (by rw [gcd_step m n]))
   simp only [impl_divisor.l0]; rw [if_neg (by omega), tmod_nat]
def lowOf (a b : Int) : Int × Int := (wrap64 (Int.tdiv a (Nat.gcd a.toNat b.toNat : Nat)), wrap64 (Int.tdiv b (Nat.gcd a.toNat b.toNat : Nat)))
theorem lowest_f (a b : Int) (ha : 0 ≤ a) (ha1 : a ≤ 1000000) (hb : 0 < b) (hb1 : b ≤ 1000000) : Ev (fun k => impl_lowest.f k a b) (lowOf a b) := by
 obtain ⟨m, rfl⟩ := Int.eq_ofNat_of_zero_le ha
 obtain ⟨n, rfl⟩ := Int.eq_ofNat_of_zero_le (show 0 ≤ b by omega)
 have hg : 0 < Nat.gcd m n := Nat.gcd_pos_of_pos_right _ (by omega)
 exact Ev.bind (divisor_l n m (by omega) (by omega)) (Ev.if_neg (by omega) (Ev.same (Ev.now _) (by unfold lowOf; simp)))

theorem gLow_l (n : Nat) : ∀ (m : Nat), Ev (fun k => laws_gLow.l0 k (m : Int) (n : Int)) ((Nat.gcd m n : Nat) == 1) := by
 induction n using Nat.strongRecOn with
 | _ n ih =>
  intro m
  by_cases hn : n = 0
  ·
   subst hn
   exact Ev.step (f := fun _ => some (((m : Int)) == 1)) (fun k => by simp only [laws_gLow.l0]; rw [if_neg (by omega)]) (Ev.same (Ev.now _) (by simp only [Nat.gcd_zero_right]; rw [Bool.eq_iff_iff]; simp only [beq_iff_eq]; omega))
  ·
   exact Ev.step (f := fun k => laws_gLow.l0 k (n : Int) ((m % n : Nat) : Int)) (fun k => by simp only [laws_gLow.l0]; rw [if_pos (by omega), if_neg (by omega), tmod_nat]) (Ev.same (ih (m % n) (Nat.mod_lt _ (by omega)) n) (by rw [← gcd_step]))
theorem low_spec {a b : Int} (ha : 0 ≤ a) (ha1 : a ≤ 1000000) (hb : 0 < b) (hb1 : b ≤ 1000000) : 0 ≤ (lowOf a b).1 ∧ (lowOf a b).1 ≤ a ∧ 1 ≤ (lowOf a b).2 ∧ (lowOf a b).2 ≤ b ∧ (lowOf a b).1 * b = a * (lowOf a b).2 ∧ Ev (fun k => laws_gLow.f k (lowOf a b).1 (lowOf a b).2) true := by
 obtain ⟨m, rfl⟩ := Int.eq_ofNat_of_zero_le ha
 obtain ⟨n, rfl⟩ := Int.eq_ofNat_of_zero_le (show 0 ≤ b by omega)
 have hg : 0 < Nat.gcd m n := Nat.gcd_pos_of_pos_right _ (by omega)
 have hco : Nat.gcd (m / Nat.gcd m n) (n / Nat.gcd m n) = 1 := Nat.coprime_div_gcd_div_gcd hg
 obtain ⟨x, hx⟩ : ∃ x, x = m / Nat.gcd m n := ⟨_, rfl⟩
 obtain ⟨y, hy⟩ : ∃ y, y = n / Nat.gcd m n := ⟨_, rfl⟩
 have h1 : x ≤ m := by rw [hx]; exact Nat.div_le_self m (Nat.gcd m n)
 have h2 : y ≤ n := by rw [hy]; exact Nat.div_le_self n (Nat.gcd m n)
 have h3 : 0 < y := by rw [hy]; exact Nat.div_pos (Nat.le_of_dvd (by omega) (Nat.gcd_dvd_right m n)) hg
 have q1 : m = Nat.gcd m n * x := by rw [hx]; exact (Nat.mul_div_cancel' (Nat.gcd_dvd_left m n)).symm
 have q2 : n = Nat.gcd m n * y := by rw [hy]; exact (Nat.mul_div_cancel' (Nat.gcd_dvd_right m n)).symm
 have e1 : (lowOf (m : Int) (n : Int)).1 = (x : Int) := by
  unfold lowOf
  simp only [Int.toNat_natCast]
  rw [Int.tdiv_eq_ediv_of_nonneg (by omega), ← Int.natCast_ediv, ← hx]
  exact w64 (by omega) (by omega)
 have e2 : (lowOf (m : Int) (n : Int)).2 = (y : Int) := by
  unfold lowOf
  simp only [Int.toNat_natCast]
  rw [Int.tdiv_eq_ediv_of_nonneg (by omega), ← Int.natCast_ediv, ← hy]
  exact w64 (by omega) (by omega)
 have h4 : x * n = m * y := by
  calc x * n = x * (Nat.gcd m n * y) := by rw [← q2]
   _ = Nat.gcd m n * x * y := by rw [← Nat.mul_assoc, Nat.mul_comm x]
   _ = m * y := by rw [← q1]
 rw [← hx, ← hy] at hco
 rw [e1, e2]
 have h5 : (x : Int) * (n : Int) = (m : Int) * (y : Int) := by exact_mod_cast h4
 have h6 := gLow_l y x
 rw [hco] at h6
 clear hco hx hy q1 q2 e1 e2 h4 hg
 refine ⟨Int.natCast_nonneg x, Int.ofNat_le.mpr h1, Int.ofNat_le.mpr h3, Int.ofNat_le.mpr h2, h5, ?_⟩
 refine Ev.congr (fun k => by unfold laws_gLow.f; rfl) (Ev.if_neg (Int.not_lt.mpr (Int.ofNat_le.mpr h3)) (Ev.if_neg (Int.not_lt.mpr (Int.natCast_nonneg x)) ?_))
 exact Ev.step (fun k => by simp only [laws_gLow.j0]) (Ev.same h6 (by rfl))

theorem gSame_l (l : List Int) (hb : l.length ≤ 1048576) (d : Nat) : ∀ (i : Nat), i + d = l.length → Ev (fun k => laws_gSame.l0 k l l (l.length : Int) (i : Int)) true := by
 induction d with
 | zero =>
  intro i hi
  exact Ev.step (f := fun _ => some true) (fun k => by simp only [laws_gSame.l0]; rw [if_neg (by omega)]) (Ev.now _)
 | succ d ih =>
  intro i hi
  have ew : wrap64 ((i : Int) + 1) = ((i + 1 : Nat) : Int) := by rw [w64 (by omega) (by omega)]; omega
  exact Ev.step (f := fun k => laws_gSame.l0 k l l (l.length : Int) ((i + 1 : Nat) : Int)) (fun k => by simp only [laws_gSame.l0]; rw [if_pos (by omega), if_pos (by omega), if_pos (by omega), if_pos (by omega), if_pos trivial, ew]) (ih (i + 1) (by omega))
theorem gSame_f (l : List Int) (hb : l.length ≤ 1048576) : Ev (fun k => laws_gSame.f k l l) true :=
 Ev.congr (fun k => by unfold laws_gSame.f; rfl) (Ev.if_pos rfl (gSame_l l hb l.length 0 (by omega)))

def meanOf (l : List Int) : Int × Int × Bool := if goodB l = true then ((lowOf (sumW l 0) (l.length : Int)).1, (lowOf (sumW l 0) (l.length : Int)).2, true) else (0, 0, false)
theorem implMean_f (l : List Int) : Ev (fun k => impl_MeanAge.f k l) (meanOf l) := by
 refine Ev.congr (fun k => by unfold impl_MeanAge.f; rfl) (Ev.got (areAges_f l) ?_)
 cases hg : goodB l with
 | true =>
  have hl := good_len hg
  obtain ⟨e, h0, h1⟩ := good_sum hg
  exact Ev.if_pos rfl (Ev.bind (total_f l (by omega)) (Ev.bind (lowest_f _ _ (by omega) (by omega) (by omega) (by omega)) (Ev.same (Ev.now _) (by unfold meanOf; rw [if_pos hg]))))
 | false => exact Ev.if_neg (by simp) (Ev.same (Ev.now _) (by unfold meanOf; rw [if_neg (by rw [hg]; simp)]))

theorem agLow_l (x y : Int) (n : Nat) : ∀ (m : Nat), 0 < m + n → Ev (fun k => spec_agLow.l0 k x y (m : Int) (n : Int)) (wrap64 (Int.tdiv x (Nat.gcd m n : Nat)), wrap64 (Int.tdiv y (Nat.gcd m n : Nat))) := by
 induction n using Nat.strongRecOn with
 | _ n ih =>
  intro m hp
  by_cases h0 : n = 0
  ·
   subst h0
   refine Ev.step (f := fun _ => some (wrap64 (Int.tdiv x m), wrap64 (Int.tdiv y m))) (fun k => ?_) (Ev.same (Ev.now _) (by simp))
   simp only [spec_agLow.l0]; rw [if_neg (by simp), if_neg (by omega)]
  ·
   refine Ev.step (f := fun k => spec_agLow.l0 k x y (n : Int) ((m % n : Nat) : Int)) (fun k => ?_) (Ev.same (ih (m % n) (Nat.mod_lt _ (by omega)) n (by omega)) (by rw [gcd_step m n]))
   simp only [spec_agLow.l0]; rw [if_pos (by omega), if_neg (by omega), tmod_nat]
theorem agLow_f (a b : Int) (ha : 0 ≤ a) (hb : 0 < b) : Ev (fun k => spec_agLow.f k a b) (lowOf a b) := by
 obtain ⟨m, rfl⟩ := Int.eq_ofNat_of_zero_le ha
 obtain ⟨n, rfl⟩ := Int.eq_ofNat_of_zero_le (show 0 ≤ b by omega)
 exact Ev.same (agLow_l m n n m (by omega)) (by unfold lowOf; simp)

theorem specMean_f (l : List Int) : Ev (fun k => spec_MeanAge.f k l) (meanOf l) := by
 refine Ev.congr (fun k => by unfold spec_MeanAge.f; rfl) (Ev.bind (agGood_f l) ?_)
 cases hg : goodB l with
 | true =>
  have hl := good_len hg
  obtain ⟨e, h0, h1⟩ := good_sum hg
  exact Ev.if_pos rfl (Ev.bind (agSum_f l (by omega)) (Ev.bind (agLow_f _ _ (by omega) (by omega)) (Ev.same (Ev.now _) (by unfold meanOf; rw [if_pos hg]))))
 | false => exact Ev.if_neg (by simp) (Ev.same (Ev.now _) (by unfold meanOf; rw [if_neg (by rw [hg]; simp)]))

theorem rdL_at (l : List (List Int)) (i : Nat) (h : i < l.length) : rd_L2 l (i : Int) = l[i] := by simp [rd_L2, List.getD_eq_getElem?_getD, List.getElem?_eq_getElem h]

def toOk (l : List Int) (a b : Int) : Prop := whoB l a = true ∧ whoB l b = true ∧ rd l b ≠ 0
instance (l : List Int) (a b : Int) : Decidable (toOk l a b) := inferInstanceAs (Decidable (_ ∧ _ ∧ _))
def toOf (l : List Int) (a b : Int) : Int × Int × Bool := if toOk l a b then ((lowOf (rd l a) (rd l b)).1, (lowOf (rd l a) (rd l b)).2, true) else (0, 0, false)
theorem specTO_f (l : List Int) (a b : Int) : Ev (fun k => spec_TimesOlder.f k l a b) (toOf l a b) := by
 refine Ev.congr (fun k => by unfold spec_TimesOlder.f; rfl) (Ev.bind (agWho_f l a) ?_)
 cases ha : whoB l a with
 | true =>
  refine Ev.if_pos rfl (Ev.bind (agWho_f l b) ?_)
  cases hb : whoB l b with
  | true =>
   obtain ⟨hg, a0, a1⟩ := who_good ha
   obtain ⟨_, b0, b1⟩ := who_good hb
   have ma := good_mem hg (rd_mem a0 a1)
   have mb := good_mem hg (rd_mem b0 b1)
   refine Ev.if_pos rfl (Ev.if_pos b0 (Ev.if_pos b1 ?_))
   by_cases hz : rd l b = 0
   ·
    exact Ev.if_pos hz (Ev.same (Ev.now _) (by unfold toOf; rw [if_neg (fun h => h.2.2 hz)]))
   ·
    exact Ev.if_neg hz (Ev.if_pos a0 (Ev.if_pos a1 (Ev.bind (agLow_f _ _ ma.1 (by omega)) (Ev.same (Ev.now _) (by unfold toOf; rw [if_pos ⟨ha, hb, hz⟩])))))
  | false => exact Ev.if_neg (by simp) (Ev.same (Ev.now _) (by unfold toOf; rw [if_neg (fun h => by have q := h.2.1; rw [hb] at q; simp at q)]))
 | false => exact Ev.if_neg (by simp) (Ev.same (Ev.now _) (by unfold toOf; rw [if_neg (fun h => by have q := h.1; rw [ha] at q; simp at q)]))
theorem implTO_f (l : List Int) (a b : Int) : Ev (fun k => impl_TimesOlder.f k l a b) (toOf l a b) := by
 refine Ev.congr (fun k => by unfold impl_TimesOlder.f; rfl) (Ev.got (areAges_f l) ?_)
 cases hg : goodB l with
 | true =>
  refine Ev.if_pos rfl (Ev.got (is_f l a hg) ?_)
  cases ha : whoB l a with
  | true =>
   refine Ev.if_pos (by simpa using who_is ha) (Ev.got (is_f l b hg) ?_)
   cases hb : whoB l b with
   | true =>
    obtain ⟨_, a0, a1⟩ := who_good ha
    obtain ⟨_, b0, b1⟩ := who_good hb
    have ma := good_mem hg (rd_mem a0 a1)
    have mb := good_mem hg (rd_mem b0 b1)
    refine Ev.if_pos (by simpa using who_is hb) (Ev.if_pos b0 (Ev.if_pos b1 ?_))
    by_cases hz : rd l b = 0
    ·
     exact Ev.if_pos hz (Ev.same (Ev.now _) (by unfold toOf; rw [if_neg (fun h => h.2.2 hz)]))
    ·
     exact Ev.if_neg hz (Ev.if_pos a0 (Ev.if_pos a1 (Ev.bind (lowest_f _ _ ma.1 (by omega) (by omega) (by omega)) (Ev.same (Ev.now _) (by unfold toOf; rw [if_pos ⟨ha, hb, hz⟩])))))
   | false => exact Ev.if_neg (by simpa using not_who hg hb) (Ev.same (Ev.now _) (by unfold toOf; rw [if_neg (fun h => by have q := h.2.1; rw [hb] at q; simp at q)]))
  | false => exact Ev.if_neg (by simpa using not_who hg ha) (Ev.same (Ev.now _) (by unfold toOf; rw [if_neg (fun h => by have q := h.1; rw [ha] at q; simp at q)]))
 | false =>
  have ha : whoB l a = false := by unfold whoB; rw [hg]; rfl
  exact Ev.if_neg (by simp) (Ev.same (Ev.now _) (by unfold toOf; rw [if_neg (fun h => by have q := h.1; rw [ha] at q; simp at q)]))

end Go.Proofs.YtcfgkpifloghlaaGreatDoor.P
