/-
  Digits: what the program's number and the reference's Parse make of a text, as one value. For every text of at most 1000 bytes.
-/
import Derived.Test.YthdkfgpcdghblaaDoorText1
namespace Go.Proofs.YthdkfgpcdghblaaDoor.Cal
open Go.RowKit Go.Proofs.YthdkfgpcdghblaaDoorW.PrintWords Go.Proofs.YthdkfgpcdghblaaDoorW.PrintLast Go.Proofs.YthdkfgpcdghblaaDoorW.PrintMore
open Go.Proofs.YthdkfgpcdghblaaDoor.PAll Go.Proofs.YthdkfgpcdghblaaDoor.CMath
set_option linter.unusedVariables false
set_option linter.unusedSimpArgs false

theorem bt_nat (s : ByteArray) (i : Nat) (h : i < s.size) : bt s (i : Int) = ((s[i]'h).toNat : Int) := by
  unfold bt
  rw [dif_pos (by simpa using h)]
  simp
theorem size_extract (s : ByteArray) (a b : Nat) (hb : b ≤ s.size) : (s.extract a b).size = b - a := by
  rw [ByteArray.size_extract]
  omega
theorem bt_extract (s : ByteArray) (a b i : Nat) (hb : b ≤ s.size) (hi : a + i < b) : bt (s.extract a b) (i : Int) = bt s ((a + i : Nat) : Int) := by
  rw [bt_nat _ _ (by rw [size_extract s a b hb]; omega), bt_nat _ _ (by omega), ByteArray.getElem_extract]

/-- The value of the first j digits. -/
def val (t : ByteArray) : Nat → Int
  | 0 => 0
  | j + 1 => 10 * val t j + (bt t (j : Int) - 48)
def AllD (t : ByteArray) (j : Nat) : Prop := ∀ i : Nat, i < j → 48 ≤ bt t (i : Int) ∧ bt t (i : Int) ≤ 57
theorem AllD.less {t : ByteArray} {i j : Nat} (h : AllD t j) (hij : i ≤ j) : AllD t i := fun k hk => h k (by omega)
theorem val_bd (t : ByteArray) : ∀ j : Nat, AllD t j → 0 ≤ val t j ∧ val t j < 10 ^ j
  | 0, _ => ⟨Int.le_refl _, by show (0 : Int) < 1; decide⟩
  | j + 1, h => by
    have ih := val_bd t j (h.less (by omega))
    have hd := h j (by omega)
    unfold val
    rw [Int.pow_succ]
    omega
theorem val_le (t : ByteArray) (i : Nat) : ∀ j : Nat, AllD t (i + j) → val t i ≤ val t (i + j)
  | 0, _ => Int.le_refl _
  | j + 1, h => by
    have ih := val_le t i j (h.less (by omega))
    have hd := h (i + j) (by omega)
    have hb := val_bd t (i + j) (h.less (by omega))
    have e : val t (i + (j + 1)) = 10 * val t (i + j) + (bt t ((i + j : Nat) : Int) - 48) := rfl
    omega
theorem val_mono (t : ByteArray) {i j : Nat} (h : i ≤ j) (hd : AllD t j) : val t i ≤ val t j := by
  obtain ⟨k, rfl⟩ : ∃ k, j = i + k := ⟨j - i, by omega⟩
  exact val_le t i k hd
/-- A number without leading zeros is at least as large as its length says. -/
theorem val_ge (t : ByteArray) (hd0 : bt t 0 ≠ 48) : ∀ j : Nat, AllD t (j + 1) → (10 : Int) ^ j ≤ val t (j + 1)
  | 0, h => by
    have := h 0 (by omega)
    have e : val t 1 = 10 * 0 + (bt t ((0 : Nat) : Int) - 48) := rfl
    have e0 : ((0 : Nat) : Int) = 0 := rfl
    rw [e0] at this e
    rw [e]
    simp
    omega
  | j + 1, h => by
    have ih := val_ge t hd0 j (h.less (by omega))
    have hd := h (j + 1) (by omega)
    have e : val t (j + 1 + 1) = 10 * val t (j + 1) + (bt t ((j + 1 : Nat) : Int) - 48) := rfl
    rw [e, Int.pow_succ]
    omega

/-- A numeral without leading zeros whose value is at most 2^40. -/
def Numl (t : ByteArray) : Prop := 1 ≤ t.size ∧ ¬ (1 < t.size ∧ bt t 0 = 48) ∧ AllD t t.size ∧ val t t.size ≤ 1099511627776
theorem Numl.short {t : ByteArray} (h : Numl t) : t.size ≤ 13 := by
  obtain ⟨h1, h2, h3, h4⟩ := h
  rcases Nat.lt_or_ge 13 t.size with hl | hl
  · have h0 : bt t 0 ≠ 48 := fun e => h2 ⟨by omega, e⟩
    have hp : (10 : Int) ^ 13 ≤ val t 14 := val_ge t h0 13 (h3.less (by omega))
    have hm := val_mono t (i := 14) (by omega) h3
    have : (10 : Int) ^ 13 = 10000000000000 := by decide
    omega
  · exact hl

theorem number_l0 (t : ByteArray) (hs : t.size ≤ 13) (d : Nat) : ∀ (k i : Nat), i ≤ t.size → t.size - i = d → d < k → AllD t i →
    (AllD t t.size → clock_number.l0 k t (val t i) (i : Int) = some (val t t.size, decide (val t t.size ≤ 1099511627776))) ∧ (¬ AllD t t.size → clock_number.l0 k t (val t i) (i : Int) = some (0, false)) := by
  induction d with
  | zero =>
    intro k i hi hd hk ha
    obtain ⟨k, rfl⟩ : ∃ m, k = m + 1 := ⟨k - 1, by omega⟩
    obtain rfl : i = t.size := by omega
    refine ⟨fun _ => ?_, fun h => absurd ha h⟩
    simp only [clock_number.l0]
    rw [if_neg (by omega)]
  | succ d ih =>
    intro k i hi hd hk ha
    obtain ⟨k, rfl⟩ : ∃ m, k = m + 1 := ⟨k - 1, by omega⟩
    simp only [clock_number.l0]
    rw [if_pos (by omega), if_pos (by omega)]
    have hb := val_bd t i ha
    have hp : (10 : Int) ^ i ≤ 10 ^ 13 := by
      have : (10 : Nat) ^ i ≤ 10 ^ 13 := Nat.pow_le_pow_right (by omega) (by omega)
      exact_mod_cast this
    have h13 : (10 : Int) ^ 13 = 10000000000000 := by decide
    by_cases c1 : bt t (i : Int) < 48
    · rw [if_pos c1]
      exact ⟨fun h => absurd (h i (by omega)).1 (by omega), fun _ => rfl⟩
    · rw [if_neg c1]
      by_cases c2 : bt t (i : Int) > 57
      · rw [if_pos c2]
        exact ⟨fun h => absurd (h i (by omega)).2 (by omega), fun _ => rfl⟩
      · rw [if_neg c2]
        have ha' : AllD t (i + 1) := fun j hj => by
          by_cases e : j = i
          · subst e; omega
          · exact ha j (by omega)
        have := ih k (i + 1) (by omega) (by omega) (by omega) ha'
        have e : val t (i + 1) = 10 * val t i + (bt t (i : Int) - 48) := rfl
        rw [Int.emod_eq_of_lt (a := bt t (i : Int) - 48) (by omega) (by omega), w64' (x := 10 * val t i) (by omega) (by omega), w64' (by omega) (by omega), w64' (by omega) (by omega), ← e]
        exact this
theorem number_f (t : ByteArray) (k : Nat) (hk : 16 ≤ k) : (Numl t → clock_number.f k t = some (val t t.size, true)) ∧ (¬ Numl t → ∃ r, clock_number.f k t = some (r, false)) := by
  obtain ⟨k, rfl⟩ : ∃ m, k = m + 1 := ⟨k - 1, by omega⟩
  have he : (t.toList = ([] : List UInt8)) ↔ t.size = 0 := by
    rw [ByteArray.toList_eq]
    constructor
    · intro h
      have := congrArg List.length h
      simpa using this
    · intro h
      apply List.eq_nil_of_length_eq_zero
      simpa using h
  unfold clock_number.f
  simp only [clock_number.j0]
  have fail : ∀ (h : ¬ Numl t → True), True := fun _ => trivial
  by_cases h0 : t.size = 0
  · rw [if_pos (he.mpr h0)]
    exact ⟨fun h => absurd h.1 (by omega), fun _ => ⟨0, rfl⟩⟩
  · rw [if_neg (fun h => h0 (he.mp h))]
    by_cases h13 : t.size > 13
    · rw [if_pos (by omega)]
      exact ⟨fun h => absurd h.short (by omega), fun _ => ⟨0, rfl⟩⟩
    · rw [if_neg (by omega)]
      have hl := number_l0 t (by omega) t.size k 0 (by omega) (by omega) (by omega) (fun _ h => absurd h (by omega))
      have e0 : val t 0 = 0 := rfl
      have e1 : ((0 : Nat) : Int) = 0 := rfl
      rw [e0, e1] at hl
      have fin : ¬ (1 < t.size ∧ bt t 0 = 48) → (Numl t → clock_number.l0 k t 0 0 = some (val t t.size, true)) ∧ (¬ Numl t → ∃ r, clock_number.l0 k t 0 0 = some (r, false)) := by
        intro hz
        by_cases ha : AllD t t.size
        · rw [hl.1 ha]
          by_cases hv : val t t.size ≤ 1099511627776
          · exact ⟨fun _ => by simp [hv], fun h => absurd ⟨by omega, hz, ha, hv⟩ h⟩
          · exact ⟨fun h => absurd h.2.2.2 hv, fun _ => ⟨_, by simp [hv]; rfl⟩⟩
        · rw [hl.2 ha]
          exact ⟨fun h => absurd h.2.2.1 ha, fun _ => ⟨0, rfl⟩⟩
      by_cases h1 : 1 < t.size
      · rw [if_pos (by omega), if_pos (by omega)]
        by_cases hz : bt t 0 = 48
        · rw [if_pos (by simp [hz])]
          exact ⟨fun h => absurd ⟨h1, hz⟩ h.2.1, fun _ => ⟨0, rfl⟩⟩
        · rw [if_neg (by simp [hz])]
          exact fin (fun h => hz h.2)
      · rw [if_neg (by omega), if_neg (by simp)]
        exact fin (fun h => h1 h.1)

/-! ### The reference's Parse, without decimals -/
theorem u64_in {x : Int} (h0 : 0 ≤ x) (h1 : x ≤ 18446744073709551615) : IntKind.u64.wrap x = x := by
  simp [IntKind.wrap, IntKind.bits, IntKind.signed]
  omega
def digs (t : ByteArray) (j : Nat) : List Int := (List.range j).map fun i : Nat => bt t (i : Int) - 48
theorem digs_length (t : ByteArray) (j : Nat) : (digs t j).length = j := by simp [digs]
theorem digs_succ (t : ByteArray) (j : Nat) : digs t (j + 1) = digs t j ++ [bt t (j : Int) - 48] := by simp [digs, List.range_succ]
theorem digs_rd (t : ByteArray) (j i : Nat) (h : i < j) : rd (digs t j) (i : Int) = bt t (i : Int) - 48 := by simp [rd, digs, h]
theorem digit_f (c : Int) : sawmillref01_digit.f c = some (decide (48 ≤ c ∧ c ≤ 57)) := by
  unfold sawmillref01_digit.f
  by_cases h : c ≥ 48
  · rw [if_pos h]; simp; omega
  · rw [if_neg h]; simp; omega
def Formed (t : ByteArray) : Prop := 1 ≤ t.size ∧ ¬ (1 < t.size ∧ bt t 0 = 48) ∧ AllD t t.size

theorem form_l0 (t : ByteArray) (hs : t.size ≤ 1000) (d : Nat) : ∀ (k i : Nat), i ≤ t.size → t.size - i = d → d < k → AllD t i →
    (AllD t t.size → sawmillref01_form.l0 k t (t.size : Int) (digs t i) (i : Int) = some (digs t t.size, true)) ∧ (¬ AllD t t.size → sawmillref01_form.l0 k t (t.size : Int) (digs t i) (i : Int) = some ([], false)) := by
  induction d with
  | zero =>
    intro k i hi hd hk ha
    obtain ⟨k, rfl⟩ : ∃ m, k = m + 1 := ⟨k - 1, by omega⟩
    obtain rfl : i = t.size := by omega
    refine ⟨fun _ => ?_, fun h => absurd ha h⟩
    simp only [sawmillref01_form.l0]
    rw [if_neg (by omega)]
  | succ d ih =>
    intro k i hi hd hk ha
    obtain ⟨k, rfl⟩ : ∃ m, k = m + 1 := ⟨k - 1, by omega⟩
    simp only [sawmillref01_form.l0]
    rw [if_pos (by omega), if_neg (by omega), if_pos (by omega), digit_f]
    simp only [Option.bind_some]
    by_cases c : 48 ≤ bt t (i : Int) ∧ bt t (i : Int) ≤ 57
    · rw [if_pos (by simpa using c), if_pos (by rw [digs_length]; omega), Int.emod_eq_of_lt (a := bt t (i : Int) - 48) (by omega) (by omega), ← digs_succ, w64' (by omega) (by omega)]
      have ha' : AllD t (i + 1) := fun j hj => by
        by_cases e : j = i
        · subst e; exact c
        · exact ha j (by omega)
      exact ih k (i + 1) (by omega) (by omega) (by omega) ha'
    · rw [if_neg (by simpa using c)]
      exact ⟨fun h => absurd (h i (by omega)) c, fun _ => rfl⟩
theorem form_f (t : ByteArray) (hs : t.size ≤ 1000) (k : Nat) (hk : 1010 ≤ k) : (Formed t → sawmillref01_form.f k t 0 = some (digs t t.size, true)) ∧ (¬ Formed t → sawmillref01_form.f k t 0 = some ([], false)) := by
  obtain ⟨k, rfl⟩ : ∃ m, k = m + 2 := ⟨k - 2, by omega⟩
  unfold sawmillref01_form.f
  rw [if_neg (by omega), Int.sub_zero, w64' (by omega) (by omega)]
  simp only [sawmillref01_form.j0, sawmillref01_form.j1]
  have hl := form_l0 t hs t.size k 0 (by omega) (by omega) (by omega) (fun _ h => absurd h (by omega))
  have e0 : digs t 0 = [] := rfl
  have e1 : ((0 : Nat) : Int) = 0 := rfl
  rw [e0, e1] at hl
  by_cases h0 : t.size = 0
  · rw [if_pos (by omega), if_pos trivial]
    exact ⟨fun h => absurd h.1 (by omega), fun _ => rfl⟩
  · rw [if_neg (by omega), if_pos (by omega)]
    have fin : ¬ (1 < t.size ∧ bt t 0 = 48) → (Formed t → sawmillref01_form.l0 k t (t.size : Int) [] 0 = some (digs t t.size, true)) ∧ (¬ Formed t → sawmillref01_form.l0 k t (t.size : Int) [] 0 = some ([], false)) := by
      intro hz
      by_cases ha : AllD t t.size
      · exact ⟨fun _ => hl.1 ha, fun h => absurd ⟨by omega, hz, ha⟩ h⟩
      · exact ⟨fun h => absurd h.2.2 ha, fun _ => hl.2 ha⟩
    by_cases hz : bt t 0 = 48
    · rw [if_pos hz]
      by_cases h1 : 1 < t.size
      · rw [if_pos (by omega), if_pos trivial]
        exact ⟨fun h => absurd ⟨h1, hz⟩ h.2.1, fun _ => rfl⟩
      · rw [if_neg (by omega), if_neg (by omega), if_neg (by decide)]
        exact fin (fun h => h1 h.1)
    · rw [if_neg hz, if_neg (by omega), if_neg (by decide)]
      exact fin (fun h => hz h.2)

/-- What stands behind the loop. -/
def pEnd (m : Nat) (neg : Bool) (u : Int) (over zero : Bool) : Option (Int × Int) :=
  if neg = true then sawmillref01_Parse.j2 m neg u over zero else sawmillref01_Parse.j2 m neg u over false
theorem parse_l0 (t : ByteArray) (ha : AllD t t.size) (hs : t.size ≤ 1000) (neg : Bool) (m : Nat) (d : Nat) : ∀ (i : Nat) (u : Int) (over zero : Bool), i ≤ t.size → t.size - i = d →
    (over = false → u = val t i ∧ u ≤ 9223372036854775808) → (zero = false → over = false → 1 ≤ u) → 0 ≤ u → u ≤ 9223372036854775808 →
    ∃ (u' : Int) (over' zero' : Bool), sawmillref01_Parse.l0 (d + m + 1) neg (digs t t.size) u over zero (i : Int) = pEnd m neg u' over' zero' ∧
      (over' = false → u' = val t t.size ∧ u' ≤ 9223372036854775808) ∧ (zero' = false → over' = false → 1 ≤ u') ∧ 0 ≤ u' ∧ u' ≤ 9223372036854775808 ∧ (val t t.size ≤ 1099511627776 → over = false → over' = false) := by
  induction d with
  | zero =>
    intro i u over zero hi hd h1 h2 h3 h4
    obtain rfl : i = t.size := by omega
    refine ⟨u, over, zero, ?_, h1, h2, h3, h4, fun _ h => h⟩
    rw [show 0 + m + 1 = m + 1 by omega]
    simp only [sawmillref01_Parse.l0]
    rw [if_neg (by rw [digs_length]; omega)]
    rfl
  | succ d ih =>
    intro i u over zero hi hd h1 h2 h3 h4
    have hlt : i < t.size := by omega
    have hb := ha i hlt
    rw [show d + 1 + m + 1 = (d + m + 1) + 1 by omega]
    have er := digs_rd t t.size i hlt
    obtain ⟨x, hx⟩ : ∃ x, bt t (i : Int) - 48 = x := ⟨_, rfl⟩
    rw [hx] at er
    have hx0 : 0 ≤ x := by omega
    have hx9 : x ≤ 9 := by omega
    have ev : val t (i + 1) = 10 * val t i + x := by rw [← hx]; rfl
    have hi1 : ((i + 1 : Nat) : Int) = (i : Int) + 1 := rfl
    obtain ⟨kk, hkk⟩ : ∃ kk, d + m + 1 = kk := ⟨_, rfl⟩
    rw [hkk] at ih ⊢
    simp only [sawmillref01_Parse.l0]
    rw [if_pos (by rw [digs_length]; omega), if_pos (by omega), er, u64_in (x := x) hx0 (by omega), u64_in (x := 9223372036854775808 - x) (by omega) (by omega), Int.tdiv_eq_ediv_of_nonneg (by omega), u64_in (x := (9223372036854775808 - x) / 10) (by omega) (by omega), w64' (x := (i : Int) + 1) (by omega) (by omega), ← hi1]
    -- one step: the flag 'over' first
    have step : ∃ (u1 : Int) (o1 z1 : Bool), (if zero = true then (if over = true then sawmillref01_Parse.l0 kk neg (digs t t.size) u true (x == 0) ((i + 1 : Nat) : Int) else (if u > (9223372036854775808 - x) / 10 then sawmillref01_Parse.l0 kk neg (digs t t.size) u (decide (u > (9223372036854775808 - x) / 10)) (x == 0) ((i + 1 : Nat) : Int) else sawmillref01_Parse.l0 kk neg (digs t t.size) (IntKind.u64.wrap (IntKind.u64.wrap (10 * u) + x)) (decide (u > (9223372036854775808 - x) / 10)) (x == 0) ((i + 1 : Nat) : Int))) else (if over = true then sawmillref01_Parse.l0 kk neg (digs t t.size) u true false ((i + 1 : Nat) : Int) else (if u > (9223372036854775808 - x) / 10 then sawmillref01_Parse.l0 kk neg (digs t t.size) u (decide (u > (9223372036854775808 - x) / 10)) false ((i + 1 : Nat) : Int) else sawmillref01_Parse.l0 kk neg (digs t t.size) (IntKind.u64.wrap (IntKind.u64.wrap (10 * u) + x)) (decide (u > (9223372036854775808 - x) / 10)) false ((i + 1 : Nat) : Int)))) = sawmillref01_Parse.l0 kk neg (digs t t.size) u1 o1 z1 ((i + 1 : Nat) : Int) ∧
        (o1 = false → u1 = val t (i + 1) ∧ u1 ≤ 9223372036854775808) ∧ (z1 = false → o1 = false → 1 ≤ u1) ∧ 0 ≤ u1 ∧ u1 ≤ 9223372036854775808 ∧ (val t t.size ≤ 1099511627776 → over = false → o1 = false) := by
      by_cases ho : over = true
      · subst ho
        refine ⟨u, true, if zero = true then (x == 0) else false, ?_, fun h => (by cases h), fun _ h => (by cases h), h3, h4, fun _ h => (by cases h)⟩
        rw [if_pos rfl, if_pos rfl]
        cases zero <;> rfl
      · have ho' := Bool.eq_false_iff.mpr ho
        have hu := h1 ho'
        by_cases hc : u > (9223372036854775808 - x) / 10
        · refine ⟨u, true, if zero = true then (x == 0) else false, ?_, fun h => (by cases h), fun _ h => (by cases h), h3, h4, fun hv _ => ?_⟩
          · rw [if_neg ho, if_neg ho, if_pos hc, if_pos hc, decide_eq_true hc]
            cases zero <;> rfl
          · have := val_mono t (i := i) (j := t.size) (by omega) ha
            omega
        · have hw : IntKind.u64.wrap (IntKind.u64.wrap (10 * u) + x) = 10 * u + x := by
            rw [u64_in (x := 10 * u) (by omega) (by omega), u64_in (by omega) (by omega)]
          refine ⟨10 * u + x, false, if zero = true then (x == 0) else false, ?_, fun _ => ⟨by rw [ev, ← hu.1], by omega⟩, fun hz _ => ?_, by omega, by omega, fun _ _ => rfl⟩
          · rw [if_neg ho, if_neg ho, if_neg hc, if_neg hc, decide_eq_false hc, hw]
            cases zero <;> rfl
          · cases zero with
            | true =>
              have : ¬ x = 0 := by simpa using hz
              omega
            | false =>
              have := h2 rfl ho'
              omega
    obtain ⟨u1, o1, z1, e1, g1, g2, g3, g4, g5⟩ := step
    rw [e1]
    obtain ⟨u', o', z', e2, k1, k2, k3, k4, k5⟩ := ih (i + 1) u1 o1 z1 (by omega) (by omega) g1 g2 g3 g4
    exact ⟨u', o', z', e2, k1, k2, k3, k4, fun h1 h2 => k5 h1 (g5 h1 h2)⟩
/-- The end, for a text without a sign. -/
theorem pEnd_pos (m : Nat) (hm : 2 ≤ m) (u : Int) (o z : Bool) (h0 : 0 ≤ u) (h1 : u ≤ 9223372036854775808) : pEnd m false u o z = if o = true ∨ u > 9223372036854775807 then some (0, 9) else some (u, 0) := by
  obtain ⟨m, rfl⟩ : ∃ j, m = j + 2 := ⟨m - 2, by omega⟩
  unfold pEnd
  simp only [sawmillref01_Parse.j2, sawmillref01_Parse.j3]
  rw [if_neg (by decide), if_neg (by decide)]
  by_cases ho : o = true
  · rw [if_pos ho, if_pos (by decide), if_pos (.inl ho)]
  · rw [if_neg ho]
    by_cases hu : u > 9223372036854775807
    · rw [if_pos hu, if_pos (by decide), if_pos (.inr hu)]
    · rw [if_neg hu, if_neg (by decide), if_neg (by decide), if_neg (by rintro (h | h); exact ho h; exact hu h)]
      have : wrap64 u = u := by unfold wrap64; omega
      rw [this]
theorem pEnd_neg (m : Nat) (hm : 2 ≤ m) (u : Int) (o z : Bool) (h0 : 0 ≤ u) (h1 : u ≤ 9223372036854775808) (hz : z = false → o = false → 1 ≤ u) : ∃ r e, pEnd m true u o z = some (r, e) ∧ (e ≠ 0 ∨ r < 0) := by
  obtain ⟨m, rfl⟩ : ∃ j, m = j + 2 := ⟨m - 2, by omega⟩
  unfold pEnd
  simp only [sawmillref01_Parse.j2, sawmillref01_Parse.j3]
  rw [if_pos trivial]
  by_cases hzz : z = true
  · rw [if_pos hzz]
    exact ⟨0, 5, rfl, .inl (by decide)⟩
  · rw [if_neg hzz]
    by_cases ho : o = true
    · rw [if_pos ho, if_pos trivial]
      exact ⟨0, 9, rfl, .inl (by decide)⟩
    · rw [if_neg ho]
      have hu := hz (Bool.eq_false_iff.mpr hzz) (Bool.eq_false_iff.mpr ho)
      have ev : wrap64 (wrap64 (-(wrap64 (IntKind.u64.wrap (u - 1)))) - 1) = -u := by
        rw [u64_in (by omega) (by omega)]
        unfold wrap64
        omega
      by_cases hc : u > 9223372036854775807
      · rw [if_pos hc, if_neg (by decide), if_pos trivial, ev]
        exact ⟨_, _, rfl, .inr (by omega)⟩
      · rw [if_neg hc, if_neg (by decide), if_pos trivial, ev]
        exact ⟨_, _, rfl, .inr (by omega)⟩
theorem clamp0 (k : Nat) : sawmillref01_Clamp.f (k + 1) 0 0 9 = some 0 := rfl
end Go.Proofs.YthdkfgpcdghblaaDoor.Cal
