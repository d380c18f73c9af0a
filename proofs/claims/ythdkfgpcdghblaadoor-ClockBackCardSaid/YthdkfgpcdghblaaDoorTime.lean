/-
  Time: what the program's Parse and the reference's make of a text, as one value. For every text of at most 100 bytes.
-/
import Derived.Test.YthdkfgpcdghblaaDoorDigits2
import Derived.Test.YthdkfgpcdghblaaDoorPFinx
namespace Go.Proofs.YthdkfgpcdghblaaDoor.Cal
open Go.RowKit Go.Proofs.YthdkfgpcdghblaaDoorW.PrintWords Go.Proofs.YthdkfgpcdghblaaDoorW.PrintLast Go.Proofs.YthdkfgpcdghblaaDoorW.PrintMore
open Go.Proofs.YthdkfgpcdghblaaDoor.PAll Go.Proofs.YthdkfgpcdghblaaDoor.CMath
set_option linter.unusedVariables false
set_option linter.unusedSimpArgs false

theorem bt_range (s : ByteArray) (i : Nat) (h : i < s.size) : 0 ≤ bt s (i : Int) ∧ bt s (i : Int) ≤ 255 := by
  rw [bt_nat s i h]
  have := (s[i]'h).toNat_lt
  omega
/-- Two digits below a limit. -/
def P2 (a b m : Int) : Prop := 48 ≤ a ∧ a ≤ 57 ∧ 48 ≤ b ∧ b ≤ 57 ∧ 10 * (a - 48) + (b - 48) < m
theorem pair_f (y : ByteArray) (hy : y.size = 2) (m : Int) : (P2 (bt y ((0 : Nat) : Int)) (bt y ((1 : Nat) : Int)) m → clock_pair.f y m = some (10 * (bt y ((0 : Nat) : Int) - 48) + (bt y ((1 : Nat) : Int) - 48), true)) ∧
    (¬ P2 (bt y ((0 : Nat) : Int)) (bt y ((1 : Nat) : Int)) m → ∃ v, clock_pair.f y m = some (v, false)) := by
  have r0 := bt_range y 0 (by omega)
  have r1 := bt_range y 1 (by omega)
  unfold clock_pair.f P2
  rw [if_pos (by omega), if_pos (by omega)]
  show (_ ∧ _ ∧ _ ∧ _ ∧ _ → (if bt y ((0 : Nat) : Int) < 48 then _ else _) = _) ∧ (¬ _ → ∃ v, (if bt y ((0 : Nat) : Int) < 48 then _ else _) = _)
  generalize hA : bt y ((0 : Nat) : Int) = A at r0 ⊢
  have eB : bt y 1 = bt y ((1 : Nat) : Int) := rfl
  rw [eB]
  generalize hB : bt y ((1 : Nat) : Int) = B at r1 ⊢
  by_cases c1 : A < 48
  · rw [if_pos c1]
    exact ⟨fun h => by omega, fun _ => ⟨0, rfl⟩⟩
  rw [if_neg c1]
  by_cases c2 : A > 57
  · rw [if_pos c2]
    exact ⟨fun h => by omega, fun _ => ⟨0, rfl⟩⟩
  rw [if_neg c2, if_pos (by omega)]
  by_cases c3 : B < 48
  · rw [if_pos c3]
    exact ⟨fun h => by omega, fun _ => ⟨0, rfl⟩⟩
  rw [if_neg c3]
  by_cases c4 : B > 57
  · rw [if_pos c4]
    exact ⟨fun h => by omega, fun _ => ⟨0, rfl⟩⟩
  rw [if_neg c4, Int.emod_eq_of_lt (by omega) (by omega), Int.emod_eq_of_lt (by omega) (by omega)]
  by_cases c5 : 10 * (A - 48) + (B - 48) < m
  · exact ⟨fun _ => by simp [c5], fun h => absurd ⟨by omega, by omega, by omega, by omega, c5⟩ h⟩
  · exact ⟨fun h => absurd h.2.2.2.2 c5, fun _ => ⟨10 * (A - 48) + (B - 48), by simp [c5]⟩⟩
theorem rpair_f (A B : Int) : (48 ≤ A ∧ A ≤ 57 ∧ 48 ≤ B ∧ B ≤ 57 → sawmillref07_pair.f A B = some (10 * (A - 48) + (B - 48))) ∧ (¬ (48 ≤ A ∧ A ≤ 57 ∧ 48 ≤ B ∧ B ≤ 57) → sawmillref07_pair.f A B = some (-1)) := by
  unfold sawmillref07_pair.f
  by_cases c1 : A < 48
  · rw [if_pos c1]
    exact ⟨fun h => by omega, fun _ => rfl⟩
  rw [if_neg c1]
  by_cases c2 : A > 57
  · rw [if_pos c2]
    exact ⟨fun h => by omega, fun _ => rfl⟩
  rw [if_neg c2]
  by_cases c3 : B < 48
  · rw [if_pos c3]
    exact ⟨fun h => by omega, fun _ => rfl⟩
  rw [if_neg c3]
  by_cases c4 : B > 57
  · rw [if_pos c4]
    exact ⟨fun h => by omega, fun _ => rfl⟩
  rw [if_neg c4, Int.emod_eq_of_lt (by omega) (by omega), Int.emod_eq_of_lt (by omega) (by omega)]
  exact ⟨fun _ => by rw [Int.mul_comm], fun h => absurd ⟨by omega, by omega, by omega, by omega⟩ h⟩
/-- A time, or the error for a number that is none. -/
def tim (v : Int) : Option (Int × Int) := some (if isT v = true then (v, 0) else (0, 15))
theorem isT_eq (v : Int) : isT v = decide (0 ≤ v ∧ v ≤ 10000000) := by
  by_cases h : 0 ≤ v ∧ v ≤ 10000000
  · rw [decide_eq_true h]
    exact (isT_iff v).mpr h
  · rw [decide_eq_false h]
    exact Bool.eq_false_iff.mpr (fun e => h ((isT_iff v).mp e))
theorem cTime_f (v : Int) : clock_isTime.f v = some (isT v) := by
  unfold clock_isTime.f
  rw [isT_eq]
  by_cases h : v ≥ 0
  · rw [if_pos h]
    by_cases h1 : v ≤ 10000000
    · rw [decide_eq_true h1, decide_eq_true ⟨h, h1⟩]
    · rw [decide_eq_false h1, decide_eq_false (fun c => h1 c.2)]
  · rw [if_neg h, decide_eq_false (fun c => h c.1)]
theorem rTime_f (v : Int) : sawmillref07_IsTime.f v = some (isT v) := cTime_f v
theorem sum_in (a b c : Int) (a0 : 0 ≤ a) (a1 : a ≤ 1099511627776) (b0 : 0 ≤ b) (b1 : b ≤ 100) (c0 : 0 ≤ c) (c1 : c ≤ 100) :
    wrap64 ((wrap64 ((wrap64 (a * 1440)) + (wrap64 (b * 60)))) + c) = a * 1440 + b * 60 + c := by
  rw [w64' (x := a * 1440) (by omega) (by omega), w64' (x := b * 60) (by omega) (by omega), w64' (x := a * 1440 + b * 60) (by omega) (by omega), w64' (by omega) (by omega)]
theorem j1t (k : Nat) (a b c : Int) : PFin.clock_Parse.j1 (k + 1) a b c true = some (0, 5) := by
  rw [PFin.clock_Parse.j1]
  exact if_pos rfl
theorem j1f (k : Nat) (a b c : Int) (a0 : 0 ≤ a) (a1 : a ≤ 1099511627776) (b0 : 0 ≤ b) (b1 : b ≤ 100) (c0 : 0 ≤ c) (c1 : c ≤ 100) :
    PFin.clock_Parse.j1 (k + 1) a b c false = tim (a * 1440 + b * 60 + c) := by
  rw [PFin.clock_Parse.j1, if_neg (by decide), sum_in a b c a0 a1 b0 b1 c0 c1, cTime_f, Option.bind_some]
  unfold tim
  split <;> rfl
theorem j0t (k : Nat) (x y : ByteArray) : PFin.clock_Parse.j0 (k + 1) x y true = some (0, 5) := by
  rw [PFin.clock_Parse.j0]
  exact if_pos rfl
theorem j0f (k : Nat) (hk : 20 ≤ k) (x y t : ByteArray) (hx : 1 ≤ x.size) (hy : y.size = 5) (ht : x.extract 1 x.size = t) :
    (Numl t ∧ P2 (bt y ((0 : Nat) : Int)) (bt y ((1 : Nat) : Int)) 24 ∧ P2 (bt y ((3 : Nat) : Int)) (bt y ((4 : Nat) : Int)) 60 →
      PFin.clock_Parse.j0 (k + 1) x y false = tim (val t t.size * 1440 + (10 * (bt y ((0 : Nat) : Int) - 48) + (bt y ((1 : Nat) : Int) - 48)) * 60 + (10 * (bt y ((3 : Nat) : Int) - 48) + (bt y ((4 : Nat) : Int) - 48)))) ∧
    (¬ (Numl t ∧ P2 (bt y ((0 : Nat) : Int)) (bt y ((1 : Nat) : Int)) 24 ∧ P2 (bt y ((3 : Nat) : Int)) (bt y ((4 : Nat) : Int)) 60) → PFin.clock_Parse.j0 (k + 1) x y false = some (0, 5)) := by
  have p1 := pair_f (y.extract 0 2) (by rw [size_extract _ _ _ (by omega)]) 24
  have p2 := pair_f (y.extract 3 y.size) (by rw [size_extract _ _ _ (by omega)]; omega) 60
  rw [bt_extract y 0 2 0 (by omega) (by omega), bt_extract y 0 2 1 (by omega) (by omega)] at p1
  rw [bt_extract y 3 y.size 0 (by omega) (by omega), bt_extract y 3 y.size 1 (by omega) (by omega)] at p2
  simp only [Nat.zero_add, Nat.add_zero, show 3 + 1 = 4 from rfl] at p1 p2
  generalize bt y ((0 : Nat) : Int) = A at p1 ⊢
  generalize bt y ((1 : Nat) : Int) = B at p1 ⊢
  generalize bt y ((3 : Nat) : Int) = C at p2 ⊢
  generalize bt y ((4 : Nat) : Int) = D at p2 ⊢
  rw [PFin.clock_Parse.j0, if_neg (by decide), if_pos (by omega), ht]
  obtain ⟨j, rfl⟩ : ∃ j, k = j + 1 := ⟨k - 1, by omega⟩
  have nf := number_f t (j + 1) (by omega)
  by_cases n1 : Numl t
  · rw [nf.1 n1, Option.bind_some, if_pos (by decide), if_pos (by omega)]
    by_cases q1 : P2 A B 24
    · rw [p1.1 q1, Option.bind_some, if_pos (by omega)]
      by_cases q2 : P2 C D 60
      · rw [p2.1 q2, Option.bind_some, if_pos rfl, if_pos rfl]
        refine ⟨fun _ => ?_, fun h => absurd ⟨n1, q1, q2⟩ h⟩
        have hv := val_bd t t.size n1.2.2.1
        unfold P2 at q1 q2
        exact j1f j _ _ _ hv.1 n1.2.2.2 (by omega) (by omega) (by omega) (by omega)
      · obtain ⟨v, e⟩ := p2.2 q2
        rw [e, Option.bind_some, if_pos rfl, if_pos rfl]
        exact ⟨fun h => absurd h.2.2 q2, fun _ => j1t _ _ _ _⟩
    · obtain ⟨v, e⟩ := p1.2 q1
      rw [e, Option.bind_some, if_pos (by omega)]
      refine ⟨fun h => absurd h.2.1 q1, fun _ => ?_⟩
      obtain ⟨z, hz⟩ : ∃ z, clock_pair.f (y.extract 3 y.size) 60 = some z := by
        by_cases q2 : P2 C D 60
        · exact ⟨_, p2.1 q2⟩
        · obtain ⟨v, e⟩ := p2.2 q2
          exact ⟨_, e⟩
      rw [hz, Option.bind_some, if_pos rfl, if_neg (by simp)]
      exact j1t _ _ _ _
  · obtain ⟨v, e⟩ := nf.2 n1
    refine ⟨fun h => absurd h.1 n1, fun _ => ?_⟩
    rw [e, Option.bind_some, if_pos (by decide), if_pos (by omega)]
    obtain ⟨u, hu⟩ : ∃ z, clock_pair.f (y.extract 0 2) 24 = some z := by
      by_cases q2 : P2 A B 24
      · exact ⟨_, p1.1 q2⟩
      · obtain ⟨v, e⟩ := p1.2 q2
        exact ⟨_, e⟩
    obtain ⟨z, hz⟩ : ∃ z, clock_pair.f (y.extract 3 y.size) 60 = some z := by
      by_cases q2 : P2 C D 60
      · exact ⟨_, p2.1 q2⟩
      · obtain ⟨v, e⟩ := p2.2 q2
        exact ⟨_, e⟩
    rw [hu, Option.bind_some, if_pos (by omega), hz, Option.bind_some, if_neg (by simp)]
    exact j1t _ _ _ _
/-- A text that shows a time: its blank is at n. -/
def Shp (s : ByteArray) (n : Nat) : Prop := s.size = n + 6 ∧ 2 ≤ n ∧ bt s ((0 : Nat) : Int) = 100 ∧ bt s (n : Int) = 32 ∧ bt s ((n + 3 : Nat) : Int) = 58 ∧ Numl (s.extract 1 n) ∧
  P2 (bt s ((n + 1 : Nat) : Int)) (bt s ((n + 2 : Nat) : Int)) 24 ∧ P2 (bt s ((n + 4 : Nat) : Int)) (bt s ((n + 5 : Nat) : Int)) 60
def tv (s : ByteArray) (n : Nat) : Int := val (s.extract 1 n) (n - 1) * 1440 + (10 * (bt s ((n + 1 : Nat) : Int) - 48) + (bt s ((n + 2 : Nat) : Int) - 48)) * 60 + (10 * (bt s ((n + 4 : Nat) : Int) - 48) + (bt s ((n + 5 : Nat) : Int) - 48))
theorem Shp.same {s : ByteArray} {n m : Nat} (h : Shp s n) (h' : Shp s m) : n = m := by
  have := h.1
  have := h'.1
  omega
theorem bt_list (s : ByteArray) (i : Nat) (c : UInt8) : s.data.toList[i]? = some c ↔ i < s.size ∧ bt s (i : Int) = (c.toNat : Int) := by
  constructor
  · intro h
    obtain ⟨hi, e⟩ := List.getElem?_eq_some_iff.1 h
    have hi' : i < s.size := by simpa using hi
    refine ⟨hi', ?_⟩
    rw [bt_nat s i hi']
    have : s[i]'hi' = c := by rw [← e]; rfl
    rw [this]
  · rintro ⟨hi, e⟩
    rw [bt_nat s i hi] at e
    refine List.getElem?_eq_some_iff.2 ⟨by simpa using hi, ?_⟩
    have : s[i]'hi = c := UInt8.toNat_inj.1 (by omega)
    rw [← this]
    rfl
theorem blank_none (s : ByteArray) (h : blank s = -1) (i : Nat) (hi : i < s.size) : bt s (i : Int) ≠ 32 := fun e =>
  Lib.indexByte_none h i ((bt_list s i 32).2 ⟨hi, e⟩)
theorem blank_some (s : ByteArray) (b : Nat) (h : blank s = b) : b < s.size ∧ bt s (b : Int) = 32 ∧ ∀ i : Nat, i < b → i < s.size → bt s (i : Int) ≠ 32 := by
  have hx := Lib.indexByte_some (l := s.data.toList) (c := 32) (o := b) h
  have h1 := (bt_list s b 32).1 hx.1
  exact ⟨h1.1, h1.2, fun i hi hs e => hx.2 i hi ((bt_list s i 32).2 ⟨hs, e⟩)⟩
theorem Shp.blank {s : ByteArray} {n : Nat} (h : Shp s n) : blank s = n := by
  obtain ⟨h1, h2, h3, h4, h5, h6, h7, h8⟩ := h
  rcases blank_cases s with e | ⟨b, e, hb⟩
  · exact absurd h4 (blank_none s e n (by omega))
  · obtain ⟨b1, b2, b3⟩ := blank_some s b e
    rw [e]
    have hle : ¬ n < b := fun hlt => b3 n hlt (by omega) h4
    rcases Nat.lt_or_ge b n with hlt | hge
    · exfalso
      obtain ⟨c, rfl⟩ : ∃ c, b = c + 1 := ⟨b - 1, by
        have : b ≠ 0 := by rintro rfl; omega
        omega⟩
      have ha := h6.2.2.1 c (by rw [size_extract _ _ _ (by omega)]; omega)
      rw [bt_extract s 1 n c (by omega) (by omega), Nat.add_comm 1 c, b2] at ha
      omega
    · congr 1
      omega
theorem prog_any (s : ByteArray) (hs : s.size ≤ 100) (k : Nat) (hk : 30 ≤ k) : (∀ n, Shp s n → PFin.clock_Parse.f k s = tim (tv s n)) ∧ ((∀ n, ¬ Shp s n) → PFin.clock_Parse.f k s = some (0, 5)) := by
  obtain ⟨k, rfl⟩ : ∃ j, k = j + 1 := ⟨k - 1, by omega⟩
  unfold PFin.clock_Parse.f strings_Cut.f
  rw [if_pos ⟨rfl, by omega⟩]
  rcases blank_cases s with e | ⟨b, e, hb⟩
  · refine ⟨fun n h => ?_, fun _ => ?_⟩
    · have := h.blank
      omega
    · rw [if_neg (by omega), Option.bind_some, if_neg (by simp)]
      exact j0t _ _ _
  · obtain ⟨b1, b2, b3⟩ := blank_some s b e
    rw [e, if_pos (by omega), Option.bind_some, Int.toNat_natCast, if_pos rfl]
    have hn : ∀ n, Shp s n → n = b := fun n h => by have := h.blank; omega
    have z1 : (s.extract 0 b).size = b := by rw [size_extract _ _ _ (by omega)]; rfl
    have z2 : (s.extract (b + 1) s.size).size = s.size - (b + 1) := by rw [size_extract _ _ _ (by omega)]
    have sh : Shp s b → _ := fun h => h
    by_cases c1 : b < 2
    · refine ⟨fun n h => ?_, fun _ => ?_⟩
      · have := hn n h; have := h.2.1; omega
      · rw [z1, if_pos (by omega)]
        exact j0t _ _ _
    rw [z1, if_neg (by omega), if_pos (by omega), show (0 : Int) = ((0 : Nat) : Int) from rfl, bt_extract s 0 b 0 (by omega) (by omega), Nat.add_zero]
    by_cases c2 : bt s ((0 : Nat) : Int) = 100
    rotate_left
    · refine ⟨fun n h => absurd h.2.2.1 c2, fun _ => ?_⟩
      rw [if_neg c2]
      exact j0t _ _ _
    rw [if_pos c2]
    simp only []
    by_cases c3 : s.size = b + 6
    rotate_left
    · refine ⟨fun n h => ?_, fun _ => ?_⟩
      · have := hn n h; have := h.1; omega
      · rw [if_neg (by rw [z2]; omega)]
        exact j0t _ _ _
    rw [if_pos (by rw [z2]; omega), if_pos (by rw [z2]; omega), show (2 : Int) = ((2 : Nat) : Int) from rfl, bt_extract s (b + 1) s.size 2 (by omega) (by omega)]
    have e3 : b + 1 + 2 = b + 3 := by omega
    rw [e3]
    by_cases c4 : bt s ((b + 3 : Nat) : Int) = 58
    rotate_left
    · have hc : (bt s ((b + 3 : Nat) : Int) != 58) = true := by simpa using c4
      rw [hc]
      refine ⟨fun n h => ?_, fun _ => j0t _ _ _⟩
      have := hn n h
      subst this
      exact absurd h.2.2.2.2.1 c4
    have hc : (bt s ((b + 3 : Nat) : Int) != 58) = false := by simpa using c4
    rw [hc]
    have et : (s.extract 0 b).extract 1 (s.extract 0 b).size = s.extract 1 b := by
      rw [z1, ByteArray.extract_extract, Nat.zero_add, Nat.zero_add, Nat.min_self]
    have J := j0f k (by omega) (s.extract 0 b) (s.extract (b + 1) s.size) (s.extract 1 b) (by omega) (by omega) et
    rw [bt_extract s (b + 1) s.size 0 (by omega) (by omega), bt_extract s (b + 1) s.size 1 (by omega) (by omega), bt_extract s (b + 1) s.size 3 (by omega) (by omega), bt_extract s (b + 1) s.size 4 (by omega) (by omega),
      size_extract s 1 b (by omega), show b + 1 + 0 = b + 1 by omega, show b + 1 + 1 = b + 2 by omega, show b + 1 + 3 = b + 4 by omega, show b + 1 + 4 = b + 5 by omega] at J
    refine ⟨fun n h => ?_, fun h => J.2 fun hh => h b ⟨c3, by omega, c2, b2, c4, hh.1, hh.2.1, hh.2.2⟩⟩
    have := hn n h
    subst this
    exact J.1 ⟨h.2.2.2.2.2.1, h.2.2.2.2.2.2.1, h.2.2.2.2.2.2.2⟩
theorem r1t (k : Nat) (a b c : Int) : sawmillref07_Parse.j1 (k + 1) a b c true = some (0, 5) := by
  rw [sawmillref07_Parse.j1]
  exact if_pos rfl
theorem r1f (k : Nat) (a b c : Int) (a0 : 0 ≤ a) (a1 : a ≤ 1099511627776) (b0 : 0 ≤ b) (b1 : b ≤ 100) (c0 : 0 ≤ c) (c1 : c ≤ 100) :
    sawmillref07_Parse.j1 (k + 1) a b c false = tim (a * 1440 + b * 60 + c) := by
  rw [sawmillref07_Parse.j1, if_neg (by decide), sum_in a b c a0 a1 b0 b1 c0 c1, rTime_f, Option.bind_some]
  unfold tim
  by_cases h : a > 10000000
  · have : isT (a * 1440 + b * 60 + c) = false := by rw [isT_eq, decide_eq_false (by omega)]
    rw [if_pos h, this, if_neg (by decide)]
  · rw [if_neg h]
    split <;> rfl
theorem r0t (k : Nat) (x : ByteArray) (n : Int) : sawmillref07_Parse.j0 (k + 1) x n true = some (0, 5) := by
  rw [sawmillref07_Parse.j0]
  exact if_pos rfl
theorem r0f (k : Nat) (hk : 2110 ≤ k) (s t : ByteArray) (n : Nat) (hn : 2 ≤ n) (hs : s.size = n + 6) (hs1 : n ≤ 94) (ht : s.extract 1 n = t) (A B C D : Int)
    (hA : bt s ((n + 1 : Nat) : Int) = A) (hB : bt s ((n + 2 : Nat) : Int) = B) (hC : bt s ((n + 4 : Nat) : Int) = C) (hD : bt s ((n + 5 : Nat) : Int) = D) :
    (Numl t ∧ P2 A B 24 ∧ P2 C D 60 → sawmillref07_Parse.j0 (k + 1) s (n : Int) false = tim (val t t.size * 1440 + (10 * (A - 48) + (B - 48)) * 60 + (10 * (C - 48) + (D - 48)))) ∧
    (¬ (Numl t ∧ P2 A B 24 ∧ P2 C D 60) → sawmillref07_Parse.j0 (k + 1) s (n : Int) false = some (0, 5)) := by
  replace hA := Aside0.mk hA
  replace hB := Aside0.mk hB
  replace hC := Aside0.mk hC
  replace hD := Aside0.mk hD
  have rA : 0 ≤ A ∧ A ≤ 255 := by rw [← hA.out]; exact bt_range s (n + 1) (by omega)
  have rB : 0 ≤ B ∧ B ≤ 255 := by rw [← hB.out]; exact bt_range s (n + 2) (by omega)
  have rC : 0 ≤ C ∧ C ≤ 255 := by rw [← hC.out]; exact bt_range s (n + 4) (by omega)
  have rD : 0 ≤ D ∧ D ≤ 255 := by rw [← hD.out]; exact bt_range s (n + 5) (by omega)
  have w1 : Aside0 (wrap64 ((n : Int) + 1) = ((n + 1 : Nat) : Int)) := ⟨by rw [w64' (x := (n : Int) + 1) (by omega) (by omega)]; omega⟩
  have w2 : Aside0 (wrap64 ((n : Int) + 2) = ((n + 2 : Nat) : Int)) := ⟨by rw [w64' (x := (n : Int) + 2) (by omega) (by omega)]; omega⟩
  have w4 : Aside0 (wrap64 ((n : Int) + 4) = ((n + 4 : Nat) : Int)) := ⟨by rw [w64' (x := (n : Int) + 4) (by omega) (by omega)]; omega⟩
  have w5 : Aside0 (wrap64 ((n : Int) + 5) = ((n + 5 : Nat) : Int)) := ⟨by rw [w64' (x := (n : Int) + 5) (by omega) (by omega)]; omega⟩
  rw [sawmillref07_Parse.j0, if_neg (by decide), if_pos (by omega), if_pos (by omega), Int.toNat_natCast, w1.out, w2.out, w4.out, w5.out, ht, hA.out, hB.out, hC.out, hD.out]
  clear w1 w2 w4 w5
  obtain ⟨j, rfl⟩ : ∃ j, k = j + 1 := ⟨k - 1, by omega⟩
  have hts : t.size ≤ 1000 := by rw [← ht, size_extract _ _ _ (by omega)]; omega
  have pf := parse_f t hts (j + 1) (by omega)
  have p1 := rpair_f A B
  have p2 := rpair_f C D
  obtain ⟨u, hu, u1, u2⟩ : ∃ u, sawmillref07_pair.f A B = some u ∧ (P2 A B 24 → u = 10 * (A - 48) + (B - 48) ∧ 0 ≤ u ∧ u ≤ 23) ∧ (¬ P2 A B 24 → u < 0 ∨ u > 23) := by
    unfold P2
    by_cases q : 48 ≤ A ∧ A ≤ 57 ∧ 48 ≤ B ∧ B ≤ 57
    · exact ⟨_, p1.1 q, fun _ => ⟨rfl, by omega, by omega⟩, fun h => by omega⟩
    · exact ⟨_, p1.2 q, fun h => absurd ⟨h.1, h.2.1, h.2.2.1, h.2.2.2.1⟩ q, fun _ => .inl (by decide)⟩
  obtain ⟨v, hv, v1, v2⟩ : ∃ u, sawmillref07_pair.f C D = some u ∧ (P2 C D 60 → u = 10 * (C - 48) + (D - 48) ∧ 0 ≤ u ∧ u ≤ 59) ∧ (¬ P2 C D 60 → u < 0 ∨ u > 59) := by
    unfold P2
    by_cases q : 48 ≤ C ∧ C ≤ 57 ∧ 48 ≤ D ∧ D ≤ 57
    · exact ⟨_, p2.1 q, fun _ => ⟨rfl, by omega, by omega⟩, fun h => by omega⟩
    · exact ⟨_, p2.2 q, fun h => absurd ⟨h.1, h.2.1, h.2.2.1, h.2.2.2.1⟩ q, fun _ => .inl (by decide)⟩
  rw [hu, hv]
  by_cases n1 : Numl t
  · have vb := val_bd t t.size n1.2.2.1
    rw [pf.1 n1, Option.bind_some, if_pos (by omega), if_pos (by omega), if_pos (by omega), if_pos (by omega), Option.bind_some, if_pos (by omega), if_pos (by omega), if_pos (by omega), if_pos (by omega), Option.bind_some]
    rw [if_pos rfl]
    simp only []
    rw [if_neg (by omega), if_neg (by have := n1.2.2.2; omega)]
    by_cases q1 : P2 A B 24
    · obtain ⟨e1, e2, e3⟩ := u1 q1
      rw [if_neg (by omega), if_neg (by omega)]
      by_cases q2 : P2 C D 60
      · obtain ⟨f1, f2, f3⟩ := v1 q2
        rw [if_neg (by omega), decide_eq_false (by omega)]
        refine ⟨fun _ => ?_, fun h => absurd ⟨n1, q1, q2⟩ h⟩
        rw [← e1, ← f1]
        exact r1f j _ _ _ vb.1 n1.2.2.2 (by omega) (by omega) (by omega) (by omega)
      · refine ⟨fun h => absurd h.2.2 q2, fun _ => ?_⟩
        by_cases q : v < 0
        · rw [if_pos q]
          exact r1t _ _ _ _
        · rw [if_neg q, decide_eq_true (by have := v2 q2; omega)]
          exact r1t _ _ _ _
    · refine ⟨fun h => absurd h.2.1 q1, fun _ => ?_⟩
      by_cases q : u < 0
      · rw [if_pos q]
        exact r1t _ _ _ _
      · rw [if_neg q, if_pos (by have := u2 q1; omega)]
        exact r1t _ _ _ _
  · refine ⟨fun h => absurd h.1 n1, fun _ => ?_⟩
    obtain ⟨r, e, h1, h2⟩ := pf.2 n1
    rw [h1, Option.bind_some, if_pos (by omega), if_pos (by omega), if_pos (by omega), if_pos (by omega), Option.bind_some, if_pos (by omega), if_pos (by omega), if_pos (by omega), if_pos (by omega), Option.bind_some]
    simp only []
    by_cases q0 : e = 0
    · rw [if_pos q0]
      by_cases q1 : r < 0
      · rw [if_pos q1]
        exact r1t _ _ _ _
      · rw [if_neg q1, if_pos (by omega)]
        exact r1t _ _ _ _
    · rw [if_neg q0]
      exact r1t _ _ _ _
theorem ref_any (s : ByteArray) (hs : s.size ≤ 100) (k : Nat) (hk : 2120 ≤ k) : (∀ n, Shp s n → sawmillref07_Parse.f k s = tim (tv s n)) ∧ ((∀ n, ¬ Shp s n) → sawmillref07_Parse.f k s = some (0, 5)) := by
  obtain ⟨k, rfl⟩ : ∃ j, k = j + 1 := ⟨k - 1, by omega⟩
  unfold sawmillref07_Parse.f
  rw [w64' (x := (s.size : Int) - 6) (by omega) (by omega)]
  by_cases c1 : s.size < 8
  · rw [if_pos (by omega)]
    exact ⟨fun n h => by have := h.1; have := h.2.1; omega, fun _ => r0t _ _ _⟩
  rw [if_neg (by omega), if_pos (by omega)]
  obtain ⟨b, c3⟩ : ∃ b, s.size = b + 6 := ⟨s.size - 6, by omega⟩
  have hn : ∀ n, Shp s n → n = b := fun n h => by have := h.1; omega
  have e0 : (s.size : Int) - 6 = (b : Int) := by omega
  rw [e0]
  have ez : bt s 0 = bt s ((0 : Nat) : Int) := rfl
  rw [ez]
  rcases Classical.em (bt s ((0 : Nat) : Int) = 100) with c2 | c2
  rotate_left
  · refine ⟨fun n h => absurd h.2.2.1 c2, fun _ => ?_⟩
    rw [if_neg c2]
    exact r0t _ _ _
  rw [if_pos c2, if_pos (by omega), if_pos (by omega)]
  rcases Classical.em (bt s (b : Int) = 32) with c4 | c4
  rotate_left
  · refine ⟨fun n h => ?_, fun _ => ?_⟩
    · have := hn n h
      subst this
      exact absurd h.2.2.2.1 c4
    · rw [if_neg c4]
      exact r0t _ _ _
  rw [if_pos c4, w64' (x := (b : Int) + 3) (by omega) (by omega), if_pos (by omega), if_pos (by omega)]
  have e3 : (b : Int) + 3 = ((b + 3 : Nat) : Int) := by omega
  rw [e3]
  rcases Classical.em (bt s ((b + 3 : Nat) : Int) = 58) with c5 | c5
  rotate_left
  · have hc : (bt s ((b + 3 : Nat) : Int) != 58) = true := by simpa using c5
    rw [hc]
    refine ⟨fun n h => ?_, fun _ => r0t _ _ _⟩
    have := hn n h
    subst this
    exact absurd h.2.2.2.2.1 c5
  have hc : (bt s ((b + 3 : Nat) : Int) != 58) = false := by simpa using c5
  rw [hc]
  have J := r0f k (by omega) s _ b (by omega) c3 (by omega) rfl _ _ _ _ rfl rfl rfl rfl
  rw [size_extract s 1 b (by omega)] at J
  refine ⟨fun n h => ?_, fun h => J.2 fun hh => h b ⟨c3, by omega, c2, c4, c5, hh.1, hh.2.1, hh.2.2⟩⟩
  have := hn n h
  subst this
  exact J.1 ⟨h.2.2.2.2.2.1, h.2.2.2.2.2.2.1, h.2.2.2.2.2.2.2⟩
end Go.Proofs.YthdkfgpcdghblaaDoor.Cal
