-- The kit's printed words and our lemmas, those alone that this claim uses (prune2.py).
import Derived.Test.YtcfgkpifloghlaaGreatDoorLAll
import Derived.Test.YtcfgkpifloghlaaGreatDoorP0
import Derived.Test.YtcfgkpifloghlaaGreatDoorP1
import Derived.Test.YtcfgkpifloghlaaGreatDoorP10
import Derived.Test.YtcfgkpifloghlaaGreatDoorP11
import Derived.Test.YtcfgkpifloghlaaGreatDoorP12
import Derived.Test.YtcfgkpifloghlaaGreatDoorP13
import Derived.Test.YtcfgkpifloghlaaGreatDoorP14
import Derived.Test.YtcfgkpifloghlaaGreatDoorP15
import Derived.Test.YtcfgkpifloghlaaGreatDoorP2
import Derived.Test.YtcfgkpifloghlaaGreatDoorP3
import Derived.Test.YtcfgkpifloghlaaGreatDoorP4
import Derived.Test.YtcfgkpifloghlaaGreatDoorP5
import Derived.Test.YtcfgkpifloghlaaGreatDoorP6
import Derived.Test.YtcfgkpifloghlaaGreatDoorP7
import Derived.Test.YtcfgkpifloghlaaGreatDoorP8
import Derived.Test.YtcfgkpifloghlaaGreatDoorP9
namespace Go.Proofs.YtcfgkpifloghlaaGreatDoor.P
open Go.RowKit Go.Proofs.YtcfgkpifloghlaaGreatDoorW.PrintWords Go.Proofs.YtcfgkpifloghlaaGreatDoorW.PrintLast Go.Proofs.YtcfgkpifloghlaaGreatDoorW.PrintMore
set_option linter.unusedVariables false
set_option linter.unusedSimpArgs false

theorem person_f {s : List Int} (hs : Byt s) {a : Int} (u : Int) (l : List Int) (h0 : 0 ≤ a) (h1 : a ≤ 1000000) : ∃ r a' u', spec_l1Cur_person.f s a u l = some (r, a', u') ∧ a ≤ a' ∧ a' ≤ a + 4 := by
 obtain ⟨r, a1, u1, e, -, -, b0, b1⟩ := pick_f hs u (wrap64 ((l.length : Int) + 1)) h0 (by omega)
 obtain ⟨r2, a2, u2, e2, -, -, c0, c1⟩ := pick_f hs u1 16 (show 0 ≤ a1 by omega) (by omega)
 unfold spec_l1Cur_person.f
 rw [e]
 simp only [Option.bind_some]
 rw [e2]
 exact ⟨_, a2, u2, rfl, by omega, by omega⟩
theorem drawOld {s : List Int} (hs : Byt s) : ∃ l x y, Ev (fun k => spec_DrawTimesOlder.f k s) (l, x, y) ∧ l.length ≤ 10 := by
 obtain ⟨l, a, u, h, hl, b0, b1⟩ := ages_f hs 0 (Int.le_refl _) (by omega)
 obtain ⟨x, a1, u1, e1, c0, c1⟩ := person_f hs u l (show 0 ≤ a by omega) (by omega)
 obtain ⟨y, a2, u2, e2, d0, d1⟩ := person_f hs u1 l (show 0 ≤ a1 by omega) (by omega)
 exact ⟨l, x, y, Ev.congr (fun k => by unfold spec_DrawTimesOlder.f; rfl) (Ev.bind h (by exact Ev.got e1 (by exact Ev.got e2 (Ev.now _)))), hl⟩
theorem drawAllM {s : List Int} (hs : Byt s) : ∃ l x y, Ev (fun k => spec_DrawAllMultiples.f k s) (l, x, y) ∧ l.length ≤ 10 := by
 obtain ⟨l, x, y, h, hl⟩ := drawOld hs
 exact ⟨l, x, y, Ev.congr (fun k => by unfold spec_DrawAllMultiples.f; rfl) (Ev.bind h (Ev.now _)), hl⟩
theorem drawOM {s : List Int} (hs : Byt s) : ∃ l x y t, Ev (fun k => spec_DrawYearsOfMultiple.f k s) (l, x, y, t) ∧ l.length ≤ 10 := by
 obtain ⟨l, x, y, h, hl⟩ := drawOld hs
 obtain ⟨r, a2, u2, e, _, c0, c1⟩ := among_f hs 0 [2, 3, 4, 5, 7, 10, 29, 1, 0, (-2), 4611686018427387904] (by decide) (show (0 : Int) ≤ 3 by omega) (by omega)
 exact ⟨l, x, y, r, Ev.congr (fun k => by unfold spec_DrawYearsOfMultiple.f; rfl) (Ev.bind h (by exact Ev.got e (Ev.now _))), hl⟩
theorem drawAS {s : List Int} (hs : Byt s) : ∃ l x, Ev (fun k => spec_DrawYearsAsSum.f k s) (l, x) ∧ l.length ≤ 10 := by
 obtain ⟨l, a, u, h, hl, b0, b1⟩ := ages_f hs 0 (Int.le_refl _) (by omega)
 obtain ⟨x, a1, u1, e1, c0, c1⟩ := person_f hs u l (show 0 ≤ a by omega) (by omega)
 exact ⟨l, x, Ev.congr (fun k => by unfold spec_DrawYearsAsSum.f; rfl) (Ev.bind h (by exact Ev.got e1 (Ev.now _))), hl⟩
theorem drawAdd {s : List Int} (hs : Byt s) : ∃ l x, Ev (fun k => spec_DrawAddAge.f k s) (l, x) ∧ l.length ≤ 10 := by
 obtain ⟨l, a, u, h, hl, b0, b1⟩ := ages_f hs 0 (Int.le_refl _) (by omega)
 obtain ⟨r, a2, u2, e, _, c0, c1⟩ := among_f hs u [0, 5, 33, 120, 121, (-1)] (by decide) (show 0 ≤ a by omega) (by omega)
 exact ⟨l, r, Ev.congr (fun k => by unfold spec_DrawAddAge.f; rfl) (Ev.bind h (by exact Ev.got e (Ev.now _))), hl⟩
theorem sureGood_l {s : List Int} (hs : Byt s) (d : Nat) : ∀ (acc : List Int) (a u : Int), d ≤ 10 → acc.length + d ≤ 100 → 0 ≤ a → a + 2 * d ≤ 1000000 → (∀ x ∈ acc, 0 ≤ x ∧ x ≤ 120) → ∃ l a' u', Ev (fun k => spec_l1Cur_sureAges.l0 k acc (d : Int) s a u) (l, a', u') ∧ l.length = acc.length + d ∧ (∀ x ∈ l, 0 ≤ x ∧ x ≤ 120) ∧ a ≤ a' ∧ a' ≤ a + 2 * d := by
 induction d with
 | zero =>
  intro acc a u _ _ h0 h1 hx
  exact ⟨acc, a, u, Ev.step (f := fun _ => some (acc, a, u)) (fun k => by simp only [spec_l1Cur_sureAges.l0]; rw [if_neg (by omega)]) (Ev.now _), rfl, hx, by omega, by omega⟩
 | succ d ih =>
  intro acc a u hd ha h0 h1 hx
  obtain ⟨r, a1, u1, e, hr, b0, b1⟩ := among_f hs u [0, 1, 3, 5, 9, 12, 17, 25, 33, 40, 64, 90] (by decide) h0 (by omega)
  have hr2 : 0 ≤ r ∧ r ≤ 120 := (by decide : ∀ x ∈ [(0 : Int), 1, 3, 5, 9, 12, 17, 25, 33, 40, 64, 90], 0 ≤ x ∧ x ≤ 120) r hr
  obtain ⟨l, a2, u2, h, hl, hy, c0, c1⟩ := ih (acc ++ [r]) a1 u1 (by omega) (by simp; omega) (by omega) (by push_cast at h1; omega) (fun x hx2 => by
   rcases List.mem_append.mp hx2 with h | h
   ·
    exact hx x h
   ·
    rw [List.mem_singleton.mp h]; exact hr2)
  have ew : wrap64 (((d + 1 : Nat) : Int) - 1) = (d : Int) := by rw [w64 (by omega) (by omega)]; omega
  refine ⟨l, a2, u2, Ev.step (fun k => by simp only [spec_l1Cur_sureAges.l0]; rw [if_pos (show ((d + 1 : Nat) : Int) > 0 by omega), ew]) (Ev.got e (Ev.if_pos (show acc.length < 17592186044416 by omega) h)), ?_, hy, by omega, by omega⟩
  rw [hl]; simp; omega
theorem sureGood_f {s : List Int} (hs : Byt s) {a : Int} (u : Int) (h0 : 0 ≤ a) (h1 : a ≤ 1000) : ∃ l a' u', Ev (fun k => spec_l1Cur_sureAges.f k s a u) (l, a', u') ∧ goodB l = true ∧ a ≤ a' ∧ a' ≤ a + 12 := by
 obtain ⟨r, a1, u1, e, r0, r1, b0, b1⟩ := pick_f hs u 4 h0 (by omega)
 obtain ⟨n, rfl⟩ := Int.eq_ofNat_of_zero_le r0
 obtain ⟨l, a2, u2, h, hl, hx, c0, c1⟩ := sureGood_l hs (n + 1) [] a1 u1 (by omega) (by simp; omega) (by omega) (by omega) (by simp)
 have ew : wrap64 (1 + (n : Int)) = ((n + 1 : Nat) : Int) := by rw [w64 (by omega) (by omega)]; omega
 refine ⟨l, a2, u2, Ev.congr (fun k => by unfold spec_l1Cur_sureAges.f; rfl) (Ev.got e (by simp only [ew]; exact h)), ?_, by omega, by omega⟩
 simp at hl
 unfold goodB allB
 rw [decide_eq_true (show 1 ≤ (l.length : Int) ∧ (l.length : Int) ≤ 8 by omega)]
 exact List.all_eq_true.mpr fun x h => decide_eq_true (hx x h)
theorem ext_size (s : ByteArray) (a b : Nat) : (s.extract a b).size = min b s.size - a := by
 rw [bl_extract, bl_size, List.length_drop, List.length_take, Lib.size_eq]
theorem app_size (x y : ByteArray) : (x ++ y).size = x.size + y.size := by
 rw [← bl_of x, ← bl_of y, bl_append, bl_size, bl_size, bl_size, List.length_append]
theorem nums_size (s : ByteArray) (i : Int) : (strOfNums [bt s i]).size = 1 := by
 have h := bt_range s i
 obtain ⟨n, hn⟩ := Int.eq_ofNat_of_zero_le h.1
 rw [hn, nums_one n (by omega), bl_size]; rfl
theorem spoilt_draws {s : List Int} (hs : Byt s) (m : Nat) (hm : 0 < m) {a : Int} (u : Int) (h0 : 0 ≤ a) (h1 : a ≤ 100000) : ∃ (n : Nat) (q z a1 u1 a2 u2 a3 u3 : Int), spec_l1Cur_pick.f s a u (m : Int) = some ((n : Int), a1, u1) ∧ spec_l1Cur_pick.f s a1 u1 6 = some (q, a2, u2) ∧ spec_l1Cur_pick.f s a2 u2 3 = some (z, a3, u3) ∧ n < m ∧ 0 ≤ q ∧ q < 6 ∧ a ≤ a3 ∧ a3 ≤ a + 6 := by
 obtain ⟨p, a1, u1, e1, p0, p1, b0, b1⟩ := pick_f hs u (m : Int) h0 (by omega)
 obtain ⟨n, rfl⟩ := Int.eq_ofNat_of_zero_le p0
 have hn : n < m := by
  clear h1 b0 b1 h0
  rcases p1 with h | h
  ·
   exact Int.ofNat_lt.mp h
  ·
   have : n = 0 := Int.ofNat_eq_zero.mp h
   rw [this]; exact hm
 clear p1
 obtain ⟨q, a2, u2, e2, q0, q1, c0, c1⟩ := pick_f hs u1 6 (Int.le_trans h0 b0) (by omega)
 have hq : q < 6 := by
  rcases q1 with h | h
  ·
   exact h
  ·
   rw [h]; decide
 clear q1
 obtain ⟨z, a3, u3, e3, -, -, d0, d1⟩ := pick_f hs u2 3 (Int.le_trans (Int.le_trans h0 b0) c0) (by omega)
 exact ⟨n, q, z, a1, u1, a2, u2, a3, u3, e1, e2, e3, hn, q0, hq, Int.le_trans (Int.le_trans b0 c0) d0, by omega⟩
theorem spoilt_sizes (x y : ByteArray) (n : Nat) (h : n < x.size) (hb : x.size ≤ 1000) (hy : y.size = 1) :
  (x.extract 0 n).size + y.size ≤ 9223372036854775807 ∧ ((x.extract 0 n) ++ y).size + (x.extract n x.size).size ≤ 9223372036854775807 ∧ (((x.extract 0 n) ++ y) ++ (x.extract n x.size)).size ≤ x.size + 1 ∧ ((x.extract 0 n) ++ y).size + (x.extract (n + 1) x.size).size ≤ 9223372036854775807 ∧ (((x.extract 0 n) ++ y) ++ (x.extract (n + 1) x.size)).size ≤ x.size + 1 ∧ (x.extract 0 n).size + (x.extract (n + 1) x.size).size ≤ 9223372036854775807 ∧ ((x.extract 0 n) ++ (x.extract (n + 1) x.size)).size ≤ x.size + 1 := by
 have s1 : (x.extract 0 n).size = n := by rw [ext_size]; omega
 have s2 : (x.extract n x.size).size = x.size - n := by rw [ext_size, Nat.min_self]
 have s3 : (x.extract (n + 1) x.size).size = x.size - (n + 1) := by rw [ext_size, Nat.min_self]
 simp only [app_size, s1, s2, s3, hy]
 refine ⟨?_, ?_, ?_, ?_, ?_, ?_, ?_⟩ <;> omega
theorem spoilt_l {s : List Int} (hs : Byt s) (x2 : ByteArray) (h2 : x2.size = 6) (d : Nat) : ∀ (x1 : ByteArray) (a u : Int), x1.size + d ≤ 1000 → 0 ≤ a → a + 6 * (d : Int) ≤ 100000 → ∃ r a' u', Ev (fun k => spec_l1Cur_spoilt.l0 k x1 x2 (d : Int) s a u) (r, a', u') := by
 induction d with
 | zero =>
  intro x1 a u _ h0 h1
  exact ⟨x1, a, u, Ev.step (fun k => by simp only [spec_l1Cur_spoilt.l0]; rw [if_neg (by omega)]) (Ev.step (f := fun _ => some (x1, a, u)) (fun k => by simp only [spec_l1Cur_spoilt.j1]; rw [if_neg (by simp)]) (Ev.now _))⟩
 | succ d ih =>
  intro x1 a u hx h0 h1
  have ew : wrap64 (((d + 1 : Nat) : Int) - 1) = (d : Int) := by
   clear ih
   rw [w64 (by omega) (by omega)]; omega
  have hpos : ((d + 1 : Nat) : Int) > 0 := by omega
  by_cases hz : (x1.size : Int) > 0
  ·
   obtain ⟨n, q, z, a1, u1, a2, u2, a3, u3, e1, e2, e3, hn, q0, q1, b0, b1⟩ := spoilt_draws hs x1.size (Int.ofNat_lt.mp hz) u h0 (by omega)
   have hb : x1.size ≤ 1000 := by omega
   obtain ⟨t1, t2, t3, t4, t5, t6, t7⟩ := spoilt_sizes x1 (strOfNums [bt x2 q]) n hn hb (nums_size x2 q)
   have ep : wrap64 ((n : Int) + 1) = ((n + 1 : Nat) : Int) := by
    clear t1 t2 t3 t4 t5 t6 t7 e1 e2 e3 ih ew hz
    rw [w64 (by omega) (by omega)]; omega
   have next : ∀ (y : ByteArray), y.size ≤ x1.size + 1 → ∃ r a' u', Ev (fun k => spec_l1Cur_spoilt.l0 k y x2 (d : Int) s a3 u3) (r, a', u') := fun y hy => ih y a3 u3 (by clear t1 t2 t3 t4 t5 t6 t7; omega) (Int.le_trans h0 b0) (by clear t1 t2 t3 t4 t5 t6 t7; omega)
   have n0 : (0 : Int) ≤ (n : Int) := Int.natCast_nonneg n
   have n1 : (n : Int) ≤ (x1.size : Int) := Int.ofNat_le.mpr (Nat.le_of_lt hn)
   have m0 : (0 : Int) ≤ ((n + 1 : Nat) : Int) := Int.natCast_nonneg _
   have m1 : ((n + 1 : Nat) : Int) ≤ (x1.size : Int) := Int.ofNat_le.mpr hn
   have e2' : spec_l1Cur_pick.f s a1 u1 (x2.size : Int) = some (q, a2, u2) := by rw [h2]; exact e2
   have q1' : q < (x2.size : Int) := by rw [h2]; exact q1
   have start : ∀ {r : ByteArray × Int × Int} {F : Nat → Option (ByteArray × Int × Int)}, Ev F r → (∀ k, F k = if z = 0 then (spec_l1Cur_spoilt.l0 k (((x1.extract 0 n) ++ (strOfNums [bt x2 q])) ++ (x1.extract n x1.size)) x2 (d : Int) s a3 u3) else (if z = 1 then (spec_l1Cur_spoilt.l0 k (((x1.extract 0 n) ++ (strOfNums [bt x2 q])) ++ (x1.extract (n + 1) x1.size)) x2 (d : Int) s a3 u3) else (spec_l1Cur_spoilt.l0 k ((x1.extract 0 n) ++ (x1.extract (n + 1) x1.size)) x2 (d : Int) s a3 u3))) → Ev (fun k => spec_l1Cur_spoilt.l0 k x1 x2 ((d + 1 : Nat) : Int) s a u) r := by
    intro r F h hF
    refine Ev.step (fun k => by simp only [spec_l1Cur_spoilt.l0]; rw [if_pos hpos, decide_eq_true hz]) ?_
    refine Ev.step (fun k => by simp only [spec_l1Cur_spoilt.j1]; rw [if_pos trivial, ew, e1]) ?_
    refine Ev.congr (fun k => ?_) h
    rw [hF k]
    simp only [Option.bind_some, e2', e3, if_pos q0, if_pos q1', ep, if_pos n0, if_pos n1, if_pos m0, if_pos m1, Int.toNat_natCast, if_pos t1, if_pos t2, if_pos t4, if_pos t6]
   by_cases k0 : z = 0
   ·
    obtain ⟨r, a4, u4, h⟩ := next _ t3
    exact ⟨r, a4, u4, start h (fun k => by rw [if_pos k0])⟩
   ·
    by_cases k1 : z = 1
    ·
     obtain ⟨r, a4, u4, h⟩ := next _ t5
     exact ⟨r, a4, u4, start h (fun k => by rw [if_neg k0, if_pos k1])⟩
    ·
     obtain ⟨r, a4, u4, h⟩ := next _ t7
     exact ⟨r, a4, u4, start h (fun k => by rw [if_neg k0, if_neg k1])⟩
  ·
   exact ⟨x1, a, u, Ev.step (fun k => by simp only [spec_l1Cur_spoilt.l0]; rw [if_pos hpos, decide_eq_false hz]) (Ev.step (f := fun _ => some (x1, a, u)) (fun k => by simp only [spec_l1Cur_spoilt.j1]; rw [if_neg (by simp)]) (Ev.now _))⟩
theorem drawPA {s : List Int} (hs : Byt s) : ∃ t, Ev (fun k => spec_DrawParseAges.f k s) t := by
 obtain ⟨l, a, u, h, hg, b0, b1⟩ := sureGood_f hs 0 (Int.le_refl _) (by omega)
 have ha := agText_f hg
 have hsz : (bl (ageText l)).size ≤ 100 := by
  have h1 := ageText_len (l := l) (fun x hx => good_mem hg hx)
  have h2 := good_len hg
  rw [bl_size]; omega
 obtain ⟨o, a1, u1, e1, c0, c1⟩ := one_f hs u 3 (show 0 ≤ a by omega) (by omega)
 have start : ∀ {t : ByteArray}, Ev (fun k => if o = true then ((spec_l1Cur_spoilt.f k s a1 u1 (bl (ageText l)) (⟨#[48, 49, 50, 51, 45, 120]⟩ : ByteArray)).bind fun b => (some b.1)) else (some (bl (ageText l)))) t → Ev (fun k => spec_DrawParseAges.f k s) t := by
  intro t h4
  refine Ev.congr (fun k => by unfold spec_DrawParseAges.f; rfl) ?_
  refine Ev.bind h ?_
  refine Ev.bind ha ?_
  refine Ev.got e1 ?_
  exact h4
 cases o with
 | true =>
  obtain ⟨r, a2, u2, e2, r0, r1, d0, d1⟩ := pick_f hs u1 2 (show 0 ≤ a1 by omega) (by omega)
  obtain ⟨n, rfl⟩ := Int.eq_ofNat_of_zero_le r0
  have hn : n < 2 := by
   rcases r1 with h | h
   ·
    exact Int.ofNat_lt.mp h
   ·
    have : n = 0 := Int.ofNat_eq_zero.mp h
    rw [this]; decide
  clear r1
  have ew : wrap64 (1 + (n : Int)) = ((n + 1 : Nat) : Int) := by
   clear h start e1 e2 ha
   rw [w64 (by omega) (by omega)]; omega
  obtain ⟨t, a3, u3, h3⟩ := spoilt_l hs (⟨#[48, 49, 50, 51, 45, 120]⟩ : ByteArray) rfl (n + 1) (bl (ageText l)) a2 u2 (by omega) (by omega) (by omega)
  have h4 : Ev (fun k => spec_l1Cur_spoilt.f k s a1 u1 (bl (ageText l)) (⟨#[48, 49, 50, 51, 45, 120]⟩ : ByteArray)) (t, a3, u3) := by
   refine Ev.congr (fun k => by unfold spec_l1Cur_spoilt.f; rfl) ?_
   refine Ev.got e2 ?_
   simp only [ew]
   exact h3
  exact ⟨t, start (Ev.if_pos rfl (Ev.bind h4 (Ev.now _)))⟩
 | false => exact ⟨bl (ageText l), start (Ev.if_neg (by decide) (Ev.now _))⟩

theorem firstOf_one {q : Int → Bool} {x : Int} (hx : q x = true) (hu : ∀ z, q z = true → z = x) (d : Nat) : ∀ y, y ≤ x → x < y + (d : Int) → firstOf q y d = (x, true) := by
 induction d with
 | zero => intro y h0 h1; omega
 | succ d ih =>
  intro y h0 h1
  rw [firstOf]
  by_cases hq : q y = true
  ·
   rw [if_pos hq, hu y hq]
  ·
   rw [if_neg hq]
   have hne : y ≠ x := fun e => hq (by rw [e]; exact hx)
   exact ih (y + 1) (by omega) (by omega)
theorem collR_mem (p : Int → Bool) (f : Int → List Int) (d : Nat) : ∀ y, ∀ r ∈ collR p f y d, ∃ z, y ≤ z ∧ z < y + (d : Int) ∧ p z = true ∧ r = f z := by
 induction d with
 | zero => intro y r hr; simp [collR] at hr
 | succ d ih =>
  intro y r hr
  by_cases hp : p y = true
  ·
   simp only [collR, hp, if_true, List.mem_cons] at hr
   rcases hr with rfl | hr
   ·
    exact ⟨y, by omega, by omega, hp, rfl⟩
   ·
    obtain ⟨z, h0, h1, h2⟩ := ih _ r hr; exact ⟨z, by omega, by omega, h2⟩
  ·
   simp only [collR, hp] at hr
   obtain ⟨z, h0, h1, h2⟩ := ih _ r hr; exact ⟨z, by omega, by omega, h2⟩
theorem collR_rises (p : Int → Bool) (l : List Int) (a b : Int) (d : Nat) : ∀ y, (collR p (mulR l a b) y d).Pairwise (fun r s => rd r 0 < rd s 0) := by
 induction d with
 | zero => intro y; exact List.Pairwise.nil
 | succ d ih =>
  intro y
  rw [collR]
  by_cases hp : p y = true
  ·
   rw [if_pos hp]
   refine List.pairwise_cons.mpr ⟨fun s hs => ?_, ih _⟩
   obtain ⟨z, h0, _, _, rfl⟩ := collR_mem p _ d _ s hs
   show y < z
   omega
  ·
   rw [if_neg hp]; exact ih _
theorem mulC_spec {l : List Int} {a b y : Int} (h : mulC l a b y = true) : 1 ≤ rd l b + y ∧ 2 ≤ Int.tdiv (rd l a + y) (rd l b + y) ∧ rd l a + y = Int.tdiv (rd l a + y) (rd l b + y) * (rd l b + y) := by
 unfold mulC at h
 simp only [Bool.and_eq_true, decide_eq_true_eq] at h
 refine ⟨h.1.1, h.2, ?_⟩
 have := Int.tmod_add_mul_tdiv (rd l a + y) (rd l b + y)
 rw [h.1.2, Int.mul_comm] at this
 omega
theorem omQ_spec {l : List Int} {a b t y : Int} (h : omQ l a b t y = true) : 1 ≤ rd l b + y ∧ rd l a + y = t * (rd l b + y) := by
 unfold omQ at h
 simp only [Bool.and_eq_true, decide_eq_true_eq] at h
 refine ⟨h.1.1, ?_⟩
 have := Int.tmod_add_mul_tdiv (rd l a + y) (rd l b + y)
 rw [h.1.2, h.2, Int.mul_comm] at this
 omega
theorem omQ_only {l : List Int} {a b t y z : Int} (ht : 2 ≤ t) (h : omQ l a b t y = true) (h2 : omQ l a b t z = true) : z = y := by
 have e1 := (omQ_spec h).2
 have e2 := (omQ_spec h2).2
 rw [Int.mul_add] at e1 e2
 have e3 : (t - 1) * z = (t - 1) * y := by
  rw [Int.sub_mul, Int.sub_mul]; omega
 exact Int.eq_of_mul_eq_mul_left (by omega) e3
theorem om_row {l : List Int} {a b y : Int} (two : twoB l a b = true) (h0 : loY l ≤ y) (h1 : y ≤ hiY l) (hc : mulC l a b y = true) : omOf l a b (Int.tdiv (rd l a + y) (rd l b + y)) = (y, true) := by
 obtain ⟨hg, _⟩ := two_good two
 have hn := nY_eq hg
 have hm := mulC_spec hc
 have hq : omQ l a b (Int.tdiv (rd l a + y) (rd l b + y)) y = true := by
  unfold mulC at hc
  unfold omQ
  simp only [Bool.and_eq_true, decide_eq_true_eq] at hc ⊢
  exact ⟨hc.1, trivial⟩
 unfold omOf
 rw [if_pos (show omOk _ _ _ _ from ⟨two, hm.2.1⟩)]
 exact firstOf_one hq (fun z hz => omQ_only hm.2.1 hq hz) _ _ h0 (by omega)
theorem mul_row {l : List Int} {a b : Int} (two : twoB l a b = true) {r : List Int} (hr : r ∈ mulOf l a b) : ∃ y t, r = [y, t] ∧ 2 ≤ t ∧ fitB l y = true ∧ omOf l a b t = (y, true) ∧ 1 ≤ rd l b + y ∧ rd l a + y = t * (rd l b + y) := by
 obtain ⟨hg, _⟩ := two_good two
 have hn := nY_eq hg
 obtain ⟨y, h0, h1, hc, rfl⟩ := collR_mem _ _ _ _ r hr
 have hm := mulC_spec hc
 refine ⟨y, _, rfl, hm.2.1, ?_, om_row two h0 (by omega) hc, hm.1, hm.2.2⟩
 unfold fitB
 rw [hg, decide_eq_true (show loY l ≤ y ∧ y ≤ hiY l by omega)]; rfl
theorem mul_none {l : List Int} {a b : Int} (two : twoB l a b = true) (h : rd l a ≤ rd l b) : mulOf l a b = [] := by
 cases hm : mulOf l a b with
 | nil => rfl
 | cons r rs =>
  obtain ⟨y, t, _, ht, _, _, h1, h2⟩ := mul_row two (r := r) (by rw [hm]; simp)
  have : 2 * (rd l b + y) ≤ t * (rd l b + y) := Int.mul_le_mul_of_nonneg_right ht (by omega)
  omega
theorem pair_at {α : Type} {R : α → α → Prop} {s : List α} (h : s.Pairwise R) {i : Nat} (h0 : 0 < i) (h1 : i < s.length) : R (s[i - 1]'(by omega)) s[i] := List.pairwise_iff_getElem.mp h _ _ (by omega) h1 (by omega)
theorem om_spec {l : List Int} {a b t : Int} (h : (omOf l a b t).2 = true) : twoB l a b = true ∧ 2 ≤ t ∧ fitB l (omOf l a b t).1 = true ∧ 1 ≤ rd l b + (omOf l a b t).1 ∧ rd l a + (omOf l a b t).1 = t * (rd l b + (omOf l a b t).1) := by
 unfold omOf at h ⊢
 by_cases ok : omOk l a b t
 ·
  rw [if_pos ok] at h ⊢
  obtain ⟨hg, _⟩ := two_good ok.1
  have hn := nY_eq hg
  obtain ⟨hq, h0, h1⟩ := firstOf_spec _ _ _ h
  have hs := omQ_spec hq
  refine ⟨ok.1, ok.2, ?_, hs⟩
  unfold fitB
  rw [hg, decide_eq_true (by omega)]; rfl
 ·
  rw [if_neg ok] at h; simp at h
theorem as_spec {l : List Int} {a : Int} (h : (asOf l a).2 = true) : whoB l a = true ∧ fitB l (asOf l a).1 = true ∧ sumW (inY l (asOf l a).1) 0 = wrap64 (2 * rd (inY l (asOf l a).1) a) := by
 unfold asOf at h ⊢
 by_cases ok : asOk l a
 ·
  rw [if_pos ok] at h ⊢
  have hg := (who_good ok.1).1
  have hn := nY_eq hg
  obtain ⟨hq, h0, h1⟩ := firstOf_spec _ _ _ h
  refine ⟨ok.1, ?_, of_decide_eq_true hq⟩
  unfold fitB
  rw [hg, decide_eq_true (by omega)]; rfl
 ·
  rw [if_neg ok] at h; simp at h
theorem insF_perm (l : List Int) (x : Int) (p : List Int) : (insF l x p).Perm (x :: p) := by
 induction p with
 | nil => exact List.Perm.refl _
 | cons y p ih =>
  rw [insF]
  by_cases q : rd l y ≥ rd l x
  ·
   rw [if_pos q]; exact (ih.cons y).trans (List.Perm.swap x y p)
  ·
   rw [if_neg q]
theorem sortN_nodup (l : List Int) : ∀ i, (sortN l i).Nodup
 | 0 => List.Pairwise.nil
 | i + 1 => (insF_perm l i (sortN l i)).nodup_iff.mpr (List.nodup_cons.mpr ⟨fun h => by have := sortN_mem l i _ h; omega, sortN_nodup l i⟩)
def Tie (l : List Int) (p : List Int) : Prop := p.Pairwise fun a b => rd l a = rd l b → a < b
theorem insF_tie {l : List Int} {x : Int} {p : List Int} (hs : Srt l p) (hx : ∀ z ∈ p, z < x) (h : Tie l p) : Tie l (insF l x p) := by
 induction p with
 | nil => exact List.pairwise_singleton _ _
 | cons y p ih =>
  have h1 := List.pairwise_cons.mp h
  have h2 := List.pairwise_cons.mp hs
  rw [insF]
  by_cases q : rd l y ≥ rd l x
  ·
   rw [if_pos q]
   refine List.pairwise_cons.mpr ⟨fun z hz => ?_, ih h2.2 (fun z hz => hx z (by simp [hz])) h1.2⟩
   rcases insF_mem l x z p hz with rfl | hz
   ·
    exact fun _ => hx y (by simp)
   ·
    exact h1.1 z hz
  ·
   rw [if_neg q]
   refine List.pairwise_cons.mpr ⟨fun z hz => ?_, h⟩
   rcases List.mem_cons.mp hz with rfl | hz
   ·
    omega
   ·
    have := h2.1 z hz; omega
theorem sortN_tie (l : List Int) : ∀ i, Tie l (sortN l i)
 | 0 => List.Pairwise.nil
 | i + 1 => insF_tie (sortN_srt l i) (fun z hz => (sortN_mem l i z hz).2) (sortN_tie l i)
theorem gpL_at (l s : List Int) (d : Nat) : ∀ (i j : Nat), j < d → rd (gpL l s d i) (j : Int) = wrap64 (rd l (rd s (((i + j : Nat) : Int) - 1)) - rd l (rd s ((i + j : Nat) : Int))) := by
 induction d with
 | zero => intro i j h; omega
 | succ d ih =>
  intro i j h
  cases j with
  | zero => rfl
  | succ j =>
   have := ih (i + 1) j (by omega)
   rw [show i + 1 + j = i + (j + 1) by omega] at this
   rw [← this, gpL, rd_at _ (j + 1) (by simp [gpL_length]; omega), rd_at _ j (by rw [gpL_length]; omega)]
   simp
def cntE (l : List Int) (x : Int) : List Int → Nat
 | [] => 0
 | y :: p => (if rd l y = rd l x then 1 else 0) + cntE l x p
def prs (l : List Int) : List Int → Nat
 | [] => 0
 | x :: p => cntE l x p + prs l p
theorem cntE_perm (l : List Int) (x : Int) {p q : List Int} (h : p.Perm q) : cntE l x p = cntE l x q := by
 induction h with
 | nil => rfl
 | cons y _ ih => simp only [cntE, ih]
 | swap y z p => simp only [cntE]; omega
 | trans _ _ h1 h2 => exact h1.trans h2
theorem prs_perm (l : List Int) {p q : List Int} (h : p.Perm q) : prs l p = prs l q := by
 induction h with
 | nil => rfl
 | cons y h ih => simp only [prs, ih, cntE_perm l y h]
 | swap y z p =>
  simp only [prs, cntE]
  by_cases e : rd l y = rd l z
  ·
   rw [if_pos e, if_pos e.symm]; omega
  ·
   rw [if_neg e, if_neg (fun h => e h.symm)]; omega
 | trans _ _ h1 h2 => exact h1.trans h2
theorem prs_snoc (l : List Int) (x : Int) (p : List Int) : prs l (p ++ [x]) = prs l p + cntE l x p := by
 rw [prs_perm l (List.perm_append_singleton x p), prs]; omega
theorem cntE_le (l : List Int) (x : Int) (p : List Int) : cntE l x p ≤ p.length := by
 induction p with
 | nil => exact Nat.le_refl _
 | cons y p ih => simp only [cntE, List.length_cons]; split <;> omega
theorem prs_le (l : List Int) (p : List Int) (n : Nat) (h : p.length ≤ n) : prs l p ≤ n * p.length := by
 induction p with
 | nil => simp [prs]
 | cons y p ih =>
  have h1 := cntE_le l y p
  have h2 := ih (by simp at h; omega)
  simp only [prs, List.length_cons] at h ⊢
  rw [Nat.mul_succ]; omega
def runL : Int → Nat → List Int
 | _, 0 => []
 | b, d + 1 => b :: runL (b + 1) d
theorem runL_snoc (d : Nat) : ∀ b : Int, runL b (d + 1) = runL b d ++ [b + (d : Int)] := by
 induction d with
 | zero => intro b; simp [runL]
 | succ d ih =>
  intro b
  have := ih (b + 1)
  rw [runL, this, runL]
  simp only [List.cons_append]
  rw [show b + 1 + (d : Int) = b + ((d + 1 : Nat) : Int) by omega]
theorem sortN_perm (l : List Int) : ∀ i, (sortN l i).Perm (runL 0 i)
 | 0 => List.Perm.refl _
 | i + 1 => by
  rw [runL_snoc, sortN]
  refine (insF_perm l _ _).trans (((sortN_perm l i).cons _).trans ?_)
  rw [show (0 : Int) + (i : Int) = (i : Int) by omega]
  exact (List.perm_append_singleton _ _).symm
theorem prB_length (l : List Int) (a : Int) (d : Nat) : ∀ (b : Int) (acc : List (List Int)), (prB l a d b acc).length = acc.length + cntE l a (runL b d) := by
 induction d with
 | zero => intro b acc; simp [prB, runL, cntE]
 | succ d ih =>
  intro b acc
  rw [prB, ih, runL, cntE]
  by_cases e : rd l a = rd l b
  ·
   rw [if_pos e, if_pos e.symm]; simp; omega
  ·
   rw [if_neg e, if_neg (fun h => e h.symm)]; omega
theorem prA_length (l : List Int) (d : Nat) : ∀ (a : Int) (acc : List (List Int)), (prA l d a acc).length = acc.length + prs l (runL a d) := by
 induction d with
 | zero => intro a acc; simp [prA, runL, prs]
 | succ d ih =>
  intro a acc
  rw [prA, ih, prB_length, runL, prs]; omega
def LexR (r s : List Int) : Prop := rd r 0 < rd s 0 ∨ rd r 0 = rd s 0 ∧ rd r 1 < rd s 1
def PairOk (l : List Int) (r : List Int) : Prop := ∃ a b : Int, r = [a, b] ∧ 0 ≤ a ∧ a < b ∧ b < (l.length : Int) ∧ rd l a = rd l b
theorem prB_ok (l : List Int) (a : Int) (d : Nat) : ∀ (b : Int) (acc : List (List Int)), 0 ≤ a → a < b → b + (d : Int) ≤ (l.length : Int) → (∀ r ∈ acc, PairOk l r) → (acc.Pairwise LexR) → (∀ r ∈ acc, rd r 0 < a ∨ rd r 0 = a ∧ rd r 1 < b) →
  (∀ r ∈ prB l a d b acc, PairOk l r) ∧ (prB l a d b acc).Pairwise LexR ∧ ∀ r ∈ prB l a d b acc, rd r 0 < a + 1 := by
 induction d with
 | zero =>
  intro b acc _ _ _ h1 h2 h3
  refine ⟨h1, h2, fun r hr => ?_⟩
  have := h3 r hr
  omega
 | succ d ih =>
  intro b acc ha hb hd h1 h2 h3
  rw [prB]
  refine ih (b + 1) _ ha (by omega) (by omega) ?_ ?_ ?_
  ·
   intro r hr
   by_cases e : rd l a = rd l b
   ·
    rw [if_pos e] at hr
    rcases List.mem_append.mp hr with hr | hr
    ·
     exact h1 r hr
    ·
     exact ⟨a, b, List.mem_singleton.mp hr, ha, hb, by omega, e⟩
   ·
    rw [if_neg e] at hr; exact h1 r hr
  ·
   by_cases e : rd l a = rd l b
   ·
    rw [if_pos e]
    refine List.pairwise_append.mpr ⟨h2, List.pairwise_singleton _ _, fun r hr s hs => ?_⟩
    rw [List.mem_singleton.mp hs]
    exact h3 r hr
   ·
    rw [if_neg e]; exact h2
  ·
   intro r hr
   by_cases e : rd l a = rd l b
   ·
    rw [if_pos e] at hr
    rcases List.mem_append.mp hr with hr | hr
    ·
     have := h3 r hr; omega
    ·
     rw [List.mem_singleton.mp hr]; exact .inr ⟨rfl, by show b < b + 1; omega⟩
   ·
    rw [if_neg e] at hr
    have := h3 r hr; omega
theorem prA_ok (l : List Int) (d : Nat) : ∀ (a : Int) (acc : List (List Int)), 0 ≤ a → a + (d : Int) = (l.length : Int) → (∀ r ∈ acc, PairOk l r) → (acc.Pairwise LexR) → (∀ r ∈ acc, rd r 0 < a) →
  (∀ r ∈ prA l d a acc, PairOk l r) ∧ (prA l d a acc).Pairwise LexR := by
 induction d with
 | zero => intro a acc _ _ h1 h2 _; exact ⟨h1, h2⟩
 | succ d ih =>
  intro a acc ha hd h1 h2 h3
  rw [prA]
  obtain ⟨k1, k2, k3⟩ := prB_ok l a d (a + 1) acc ha (by omega) (by omega) h1 h2 (fun r hr => .inl (h3 r hr))
  exact ih (a + 1) _ (by omega) (by omega) k1 k2 k3
def alOf (l : List Int) : List (List Int) × Bool := if goodB l = true then (prA l l.length 0 [], true) else ([], false)
theorem alOf_ok (l : List Int) : (∀ r ∈ (alOf l).1, PairOk l r) ∧ (alOf l).1.Pairwise LexR := by
 unfold alOf
 by_cases h : goodB l = true
 ·
  rw [if_pos h]
  exact prA_ok l l.length 0 [] (Int.le_refl _) (by omega) (by simp) List.Pairwise.nil (by simp)
 ·
  rw [if_neg h]
  exact ⟨by simp, List.Pairwise.nil⟩
theorem spl_word (w r : List UInt8) (hw : ∀ b ∈ w, b ≠ 45) : spl (w ++ r) = pre w (spl r) := by
 induction w with
 | nil => rw [List.nil_append, pre_nil _ (spl_ne r)]
 | cons b w ih =>
  rw [List.cons_append, spl, if_neg (hw b (by simp)), ih (fun c hc => hw c (by simp [hc])), pre_pre _ _ _ (spl_ne r)]
  rfl
theorem digs_dash {w : List UInt8} (h : digs w = true) : ∀ b ∈ w, b ≠ 45 := by
 intro b hb e
 have := of_decide_eq_true (List.all_eq_true.mp h b hb)
 rw [e] at this
 exact absurd this.1 (by decide)
theorem itoa_digs {n : Int} (h0 : 0 ≤ n) : digs (Lib.itoa n) = true := by rw [itoa_num h0]; exact dd_digs _
theorem spl_text (xs : List Int) : ∀ x : Int, 0 ≤ x → (∀ y ∈ xs, 0 ≤ y) → spl (Lib.itoa x ++ Lib.joinTail [45] (xs.map Lib.itoa)) = (x :: xs).map Lib.itoa := by
 induction xs with
 | nil =>
  intro x hx _
  rw [spl_word _ _ (digs_dash (itoa_digs hx))]
  simp [Lib.joinTail, spl, pre]
 | cons y ys ih =>
  intro x hx hy
  rw [spl_word _ _ (digs_dash (itoa_digs hx))]
  have e : Lib.joinTail [45] ((y :: ys).map Lib.itoa) = 45 :: (Lib.itoa y ++ Lib.joinTail [45] (ys.map Lib.itoa)) := by simp [Lib.joinTail]
  rw [e, spl, if_pos rfl, ih y (hy y (by simp)) (fun z hz => hy z (by simp [hz]))]
  simp [pre]
theorem paF_text {l : List Int} (hg : goodB l = true) : paF (bl (ageText l)) = (l, true) := by
 have hl := good_len hg
 have ok : ∀ x ∈ l, 0 ≤ x ∧ x ≤ 120 := fun x hx => good_mem hg hx
 have hsz : (ageText l).length ≤ 31 := by
  cases l with
  | nil => simp at hl
  | cons x xs =>
   rw [ageText_cons, List.length_append]
   have h := ok x (by simp)
   have h2 := itoa_len h.1 (by omega)
   have h3 := tail_len xs (fun y hy => ok y (by simp [hy]))
   simp only [List.length_cons] at hl
   omega
 unfold paF
 rw [if_pos (by rw [bl_size]; exact hsz), bl_list]
 have e : spl (ageText l) = l.map Lib.itoa := by
  cases l with
  | nil => simp at hl
  | cons x xs => rw [ageText_cons]; exact spl_text xs x (ok x (by simp)).1 (fun y hy => (ok y (by simp [hy])).1)
 rw [e, List.map_map]
 have e2 : l.map (rv ∘ Lib.itoa) = l := by
  conv => rhs; rw [← List.map_id l]
  refine List.map_congr_left fun x hx => ?_
  have h := ok x hx
  have := rv_dd x.toNat (by omega)
  rw [show ((x.toNat : Nat) : Int) = x by omega] at this
  exact this
 rw [e2]
 unfold goodOr
 rw [if_pos hg]
theorem itoa_rv {w : List UInt8} (h : 0 ≤ rv w) : Lib.itoa (rv w) = w := by
 by_cases hc : canonB w = true ∧ digs w = true
 ·
  have e : rv w = (valF w 0 : Int) := by unfold rv; rw [if_pos hc]
  rw [e, Lib.itoa_nonneg]
  obtain ⟨h1, h2⟩ := hc
  unfold canonB at h1
  simp only [Bool.and_eq_true, decide_eq_true_eq, Bool.not_eq_true', Bool.and_eq_false_iff, decide_eq_false_iff_not] at h1
  refine (canon w.length w rfl h1.1.1 h2 ?_).1
  rcases h1.2 with h3 | h3
  ·
   exact .inr h3
  ·
   exact .inl (by omega)
 ·
  have e : rv w = -1 := by unfold rv; rw [if_neg hc]
  omega
theorem joinTail_pre (b : UInt8) (ws : List (List UInt8)) (hw : ws ≠ []) : Lib.join (pre [b] ws) [45] = b :: Lib.join ws [45] := by
 cases ws with
 | nil => exact absurd rfl hw
 | cons w ws => simp [pre, Lib.join_cons]
theorem join_spl (s : List UInt8) : Lib.join (spl s) [45] = s := by
 induction s with
 | nil => simp [spl, Lib.join_cons, Lib.joinTail]
 | cons b r ih =>
  rw [spl]
  by_cases h : b = 45
  ·
   rw [if_pos h, Lib.join_cons]
   cases hx : spl r with
   | nil => exact absurd hx (spl_ne r)
   | cons w ws =>
    rw [hx, Lib.join_cons] at ih
    rw [h, ← ih]
    simp [Lib.joinTail]
  ·
   rw [if_neg h, joinTail_pre b _ (spl_ne r), ih]
theorem paF_back {s : ByteArray} (h : (paF s).2 = true) : goodB (paF s).1 = true ∧ bl (ageText (paF s).1) = s := by
 unfold paF at h ⊢
 by_cases hz : s.size ≤ 31
 ·
  rw [if_pos hz] at h ⊢
  unfold goodOr at h ⊢
  by_cases hg : goodB ((spl s.data.toList).map rv) = true
  ·
   rw [if_pos hg]
   refine ⟨hg, ?_⟩
   show bl (ageText ((spl s.data.toList).map rv)) = s
   have e : ((spl s.data.toList).map rv).map Lib.itoa = spl s.data.toList := by
    rw [List.map_map]
    conv => rhs; rw [← List.map_id (spl s.data.toList)]
    refine List.map_congr_left fun w hw => ?_
    exact itoa_rv (good_mem hg (List.mem_map.mpr ⟨w, hw, rfl⟩)).1
   unfold ageText
   rw [e, join_spl, bl_of]
  ·
   rw [if_neg hg] at h; simp at h
 ·
  rw [if_neg hz] at h; simp at h
theorem add_drop {l : List Int} {a : Int} (h : (addOf l a).2 = true) : (addOf l a).1 = l ++ [a] ∧ drOf (l ++ [a]) (l.length : Int) = (l, true) := by
 unfold addOf at h ⊢
 by_cases ok : goodB l = true ∧ (0 ≤ a ∧ a ≤ 120) ∧ l.length ≠ 8
 ·
  rw [if_pos ok]
  have hl := good_len ok.1
  have hg := (good_snoc ok.1 a).mpr ok.2
  refine ⟨rfl, ?_⟩
  unfold drOf
  rw [if_pos]
  ·
   rw [Int.toNat_natCast]
   simp
  ·
   refine ⟨?_, by rw [List.length_append, List.length_singleton]; omega⟩
   unfold whoB
   rw [hg, decide_eq_true (by rw [List.length_append, List.length_singleton]; omega)]; rfl
 ·
  rw [if_neg ok] at h; simp at h

end Go.Proofs.YtcfgkpifloghlaaGreatDoor.P
