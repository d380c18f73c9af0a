/-
  What MulDiv returns, the program's and the reference's, in closed form. For every three numbers of an int.
-/
import Derived.Test.YtlfloandockgbaaDoorDivb
import Derived.Test.YtlfloandockgbaaDoorFloor
namespace Go.Proofs.YtlfloandockgbaaDoor.Uni
open Go.RowKit Go.Proofs.YtlfloandockgbaaDoorW.PrintWords Go.Proofs.YtlfloandockgbaaDoorW.PrintLast Go.Proofs.YtlfloandockgbaaDoorW.PrintMore
open Go.Proofs.YtlfloandockgbaaDoor.PAll
set_option linter.unusedVariables false
set_option linter.unusedSimpArgs false

/-- a * b / c, rounded down, or the error's number. -/
def md (a b c : Int) : Int × Int :=
  if c ≤ 0 then (0, 9) else
  let p := a.natAbs * b.natAbs
  let q := p / c.toNat
  let r := p % c.toNat
  if (a < 0 ↔ b < 0) ∨ p = 0 then (if q ≤ 9223372036854775807 then ((q : Nat), 0) else (0, 9))
  else if (if r = 0 then q else q + 1) ≤ 9223372036854775808 then (-((if r = 0 then q else q + 1 : Nat) : Int), 0) else (0, 9)
theorem md_comm (a b c : Int) : md a b c = md b a c := by
  unfold md
  rw [Nat.mul_comm a.natAbs]
  have : (a < 0 ↔ b < 0) ↔ (b < 0 ↔ a < 0) := ⟨Iff.symm, Iff.symm⟩
  simp only [this]
theorem md_back (a c : Int) (hc : 0 < c) (a0 : -9223372036854775808 ≤ a) (a1 : a ≤ 9223372036854775807) : md a c c = (a, 0) := by
  unfold md
  have e : c.natAbs = c.toNat := by omega
  rw [if_neg (by omega), e]
  have h1 := Nat.mul_div_cancel a.natAbs (show 0 < c.toNat by omega)
  have h2 := Nat.mul_mod_left a.natAbs c.toNat
  simp only [h1, h2, if_true]
  have h3 : a.natAbs * c.toNat = 0 → a = 0 := by
    intro h
    have := Nat.mul_eq_zero.1 h
    omega
  by_cases h : 0 ≤ a
  · rw [if_pos (Or.inl (by omega)), if_pos (by omega)]
    congr 1
    omega
  · rw [if_neg (by intro h'; rcases h' with h' | h'; · omega
                   · have := h3 h'; omega), if_pos (by omega)]
    congr 1
    omega
theorem md_one (a b : Int) (a0 : -2147483648 ≤ a) (a1 : a ≤ 2147483648) (b0 : -2147483648 ≤ b) (b1 : b ≤ 2147483648) : md a b 1 = (a * b, 0) := by
  unfold md
  rw [if_neg (by omega)]
  have hp : a.natAbs * b.natAbs ≤ 2147483648 * 2147483648 := Nat.mul_le_mul (by omega) (by omega)
  have h1 : (a.natAbs * b.natAbs) / (1 : Int).toNat = a.natAbs * b.natAbs := Nat.div_one _
  have h2 : (a.natAbs * b.natAbs) % (1 : Int).toNat = 0 := Nat.mod_one _
  simp only [h1, h2, if_true]
  have e : ((a.natAbs * b.natAbs : Nat) : Int) = (a.natAbs : Int) * (b.natAbs : Int) := by rw [Int.natCast_mul]
  by_cases ha : a < 0 <;> by_cases hb : b < 0
  · have e2 : (a.natAbs : Int) * (b.natAbs : Int) = a * b := by rw [show (a.natAbs : Int) = -a by omega, show (b.natAbs : Int) = -b by omega, Int.neg_mul_neg]
    rw [if_pos (Or.inl (by omega)), if_pos (by omega), e, e2]
  · have e2 : (a.natAbs : Int) * (b.natAbs : Int) = -(a * b) := by rw [show (a.natAbs : Int) = -a by omega, show (b.natAbs : Int) = b by omega, Int.neg_mul]
    rw [e2] at e
    by_cases h0 : a.natAbs * b.natAbs = 0
    · rw [if_pos (Or.inr h0), if_pos (by omega)]; congr 1; omega
    · rw [if_neg (by intro h'; rcases h' with h' | h' <;> omega), if_pos (by omega)]; congr 1; omega
  · have e2 : (a.natAbs : Int) * (b.natAbs : Int) = -(a * b) := by rw [show (a.natAbs : Int) = a by omega, show (b.natAbs : Int) = -b by omega, Int.mul_neg]
    rw [e2] at e
    by_cases h0 : a.natAbs * b.natAbs = 0
    · rw [if_pos (Or.inr h0), if_pos (by omega)]; congr 1; omega
    · rw [if_neg (by intro h'; rcases h' with h' | h' <;> omega), if_pos (by omega)]; congr 1; omega
  · have e2 : (a.natAbs : Int) * (b.natAbs : Int) = a * b := by rw [show (a.natAbs : Int) = a by omega, show (b.natAbs : Int) = b by omega]
    rw [if_pos (Or.inl (by omega)), if_pos (by omega), e, e2]
theorem mag_f (a : Int) (a0 : -9223372036854775808 ≤ a) (a1 : a ≤ 9223372036854775807) : units_magnitude.f a = some ((a.natAbs : Nat) : Int) := by
  unfold units_magnitude.f
  simp only [wM]
  split
  · congr 1; omega
  · congr 1; omega
theorem size_f (a : Int) (a0 : -9223372036854775808 ≤ a) (a1 : a ≤ 9223372036854775807) : sawmillref01_size.f a = some ((a.natAbs : Nat) : Int) := by
  unfold sawmillref01_size.f
  by_cases h : a < 0
  · rw [if_pos h, w64 (x := a + 1) (by omega) (by omega)]
    simp only [wM]
    unfold wrap64
    congr 1
    omega
  · rw [if_neg h]
    simp only [wM]
    congr 1
    omega
theorem same_iff (a b : Int) : ((decide (a < 0)) == (decide (b < 0))) = true ↔ (a < 0 ↔ b < 0) := by
  by_cases c1 : a < 0 <;> by_cases c2 : b < 0 <;> simp [c1, c2]
theorem mdp_f (a b c : Int) (a0 : -9223372036854775808 ≤ a) (a1 : a ≤ 9223372036854775807) (b0 : -9223372036854775808 ≤ b) (b1 : b ≤ 9223372036854775807) (c1 : c ≤ 9223372036854775807) :
    units_MulDiv.f 100 a b c = some (md a b c) := by
  unfold units_MulDiv.f md
  by_cases hc : c ≤ 0
  · rw [if_pos hc, if_pos hc]
  rw [if_neg hc, if_neg hc, mag_f a a0 a1, mag_f b b0 b1, Option.bind_some, Option.bind_some]
  have hx : a.natAbs ≤ 9223372036854775808 := by omega
  have hy : b.natAbs ≤ 9223372036854775808 := by omega
  obtain ⟨C, hC⟩ : ∃ C : Nat, c = C := ⟨c.toNat, by omega⟩
  subst hC
  rw [Int.toNat_natCast, wN C (by omega)]
  have hm : bits_Mul64.f ((a.natAbs : Nat) : Int) ((b.natAbs : Nat) : Int) = some (((a.natAbs * b.natAbs / 18446744073709551616 : Nat) : Int), ((a.natAbs * b.natAbs % 18446744073709551616 : Nat) : Int)) := by
    unfold bits_Mul64.f
    rw [if_pos (by omega), Int.toNat_natCast, Int.toNat_natCast]
  rw [hm, Option.bind_some]
  simp only [same_iff]
  generalize a.natAbs * b.natAbs = p at *
  by_cases hh : ((p / 18446744073709551616 : Nat) : Int) ≥ (C : Int)
  · rw [if_pos hh]
    have hq : 18446744073709551616 ≤ p / C := by
      rw [Nat.le_div_iff_mul_le (by omega)]
      omega
    generalize p / C = q at *
    generalize p % C = r at *
    by_cases hs : (a < 0 ↔ b < 0) ∨ p = 0
    · rw [if_pos hs, if_neg (by omega)]
    · rw [if_neg hs, if_neg]
      split <;> omega
  · rw [if_neg hh]
    have hd := div64_run (p / 18446744073709551616) (p % 18446744073709551616) C (by omega) (by omega) (by omega) 100 (by omega)
    rw [show 18446744073709551616 * (p / 18446744073709551616) + p % 18446744073709551616 = p from Nat.div_add_mod _ _] at hd
    rw [hd, Option.bind_some]
    clear hd hm hh
    have h0 : p = 0 → p / C = 0 ∧ p % C = 0 := fun h => by subst h; exact ⟨Nat.zero_div _, Nat.zero_mod _⟩
    have h1 := Nat.div_add_mod p C
    have h2 : p / C = 0 → p % C = 0 → p = 0 := fun h h' => by rw [h, h', Nat.mul_zero] at h1; omega
    clear h1
    generalize p / C = q at *
    generalize p % C = r at *
    simp only []
    by_cases hbig : q > 9223372036854775808
    · rw [if_pos (by omega)]
      by_cases hs : (a < 0 ↔ b < 0) ∨ p = 0
      · rw [if_pos hs, if_neg (by omega)]
      · rw [if_neg hs, if_neg]
        split <;> omega
    · rw [if_neg (by omega)]
      by_cases hs : a < 0 ↔ b < 0
      · rw [if_pos hs, if_pos (Or.inl hs)]
        by_cases hq : q ≤ 9223372036854775807
        · rw [if_neg (by omega), if_pos hq, w64 (by omega) (by omega)]
        · rw [if_pos (by omega), if_neg hq]
      · rw [if_neg hs]
        by_cases hp : p = 0
        · obtain ⟨e1, e2⟩ := h0 hp
          subst e1
          subst e2
          rw [if_pos (Or.inr hp), if_neg (show ¬ ((0 : Nat) : Int) > 0 by decide), if_pos (by omega)]
          congr 2
          simp only [wM]
          unfold wrap64
          omega
        · rw [if_neg (show ¬ ((a < 0 ↔ b < 0) ∨ p = 0) from fun h => h.elim hs hp)]
          by_cases hr : r = 0
          · subst hr
            rw [if_neg (by omega), if_pos rfl, if_pos (by omega)]
            congr 2
            simp only [wM]
            unfold wrap64
            omega
          · rw [if_pos (by omega), if_neg hr]
            rw [show (q : Int) + 1 = ((q + 1 : Nat) : Int) by omega, wN (q + 1) (by omega)]
            by_cases hq : q + 1 ≤ 9223372036854775808
            · rw [if_neg (by omega), if_pos hq]
              congr 2
              simp only [wM]
              unfold wrap64
              omega
            · rw [if_pos (by omega), if_neg hq]
theorem dm {c x y N : Nat} (h : N = x * c + y) (hy : y < c) : N / c = x ∧ N % c = y := by
  subst h
  rw [Nat.mul_comm]
  exact ⟨by rw [Nat.mul_add_div (by omega), Nat.div_eq_of_lt hy, Nat.add_zero], by rw [Nat.mul_add_mod, Nat.mod_eq_of_lt hy]⟩
/-- What the bits together come to. -/
def scr (A B c : Nat) : Int × Int × Bool := if A * B / c ≤ 9223372036854775808 then (((A * B / c : Nat) : Int), ((A * B % c : Nat) : Int), true) else (0, 0, false)
theorem shr_u64 (x i : Nat) (hi : i ≤ 64) : shr .u64 (x : Int) (i : Int) = ((x / 2 ^ i : Nat) : Int) := by
  unfold shr
  rw [Int.toNat_natCast, Nat.min_eq_left (show i ≤ IntKind.u64.bits by show i ≤ 64; omega), Int.natCast_ediv, Int.natCast_pow]
  rfl
theorem scaled_run (A B c : Nat) (hA : A ≤ 9223372036854775808) (hB : B < 18446744073709551616) (hc0 : 0 < c) (hc : c < 9223372036854775808) :
    ∀ (i k : Nat), i ≤ 64 → 2 * i + 2 ≤ k → A * (B / 2 ^ i) / c ≤ 9223372036854775808 →
      sawmillref01_scaled.l0 k (A : Int) (B : Int) (c : Int) ((A * (B / 2 ^ i) / c : Nat) : Int) ((A * (B / 2 ^ i) % c : Nat) : Int) ((i : Int) - 1) = some (scr A B c)
  | 0, k, _, hk, h63 => by
    obtain ⟨k, rfl⟩ : ∃ j, k = j + 1 := ⟨k - 1, by omega⟩
    rw [sawmillref01_scaled.l0, if_neg (by omega)]
    rw [Nat.pow_zero, Nat.div_one] at h63 ⊢
    unfold scr
    rw [if_pos h63]
  | i + 1, k, hi, hk, h63 => by
    obtain ⟨k, rfl⟩ : ∃ j, k = j + 2 := ⟨k - 2, by omega⟩
    have ih := scaled_run A B c hA hB hc0 hc i k (by omega) (by omega)
    have hbit : B / 2 ^ i = 2 * (B / 2 ^ (i + 1)) + B / 2 ^ i % 2 := by
      rw [Nat.pow_succ, ← Nat.div_div_eq_div_mul]
      omega
    have hSB : A * (B / 2 ^ i) ≤ A * B := Nat.mul_le_mul_left A (Nat.div_le_self _ _)
    have hover : 9223372036854775808 < A * (B / 2 ^ i) / c → (some (0, 0, false) : Option (Int × Int × Bool)) = some (scr A B c) := by
      intro h
      have := Nat.div_le_div_right (c := c) hSB
      unfold scr
      rw [if_neg (by omega)]
    have hS : A * (B / 2 ^ i) = 2 * (A * (B / 2 ^ (i + 1))) + A * (B / 2 ^ i % 2) := by
      conv => lhs; rw [hbit]
      rw [Nat.mul_add, Nat.mul_left_comm]
    have hsh := shr_u64 B i (by omega)
    have hwi : IntKind.u64.wrap (((i + 1 : Nat) : Int) - 1) = (i : Int) := by rw [show ((i + 1 : Nat) : Int) - 1 = (i : Int) by omega, wN i (by omega)]
    have hwd : wrap64 ((((i + 1 : Nat) : Int) - 1) - 1) = (i : Int) - 1 := by rw [w64 (by omega) (by omega)]; omega
    have hb01 : B / 2 ^ i % 2 = 0 ∨ B / 2 ^ i % 2 = 1 := by omega
    generalize A * (B / 2 ^ i) = S at *
    generalize A * (B / 2 ^ (i + 1)) = T at *
    generalize B / 2 ^ i = bb at *
    have hT := Nat.div_add_mod T c
    have hTr := Nat.mod_lt T hc0
    generalize hq : T / c = q at *
    generalize hr : T % c = r at *
    rw [Nat.mul_comm c q] at hT
    clear hbit hSB hB
    rw [sawmillref01_scaled.l0, if_pos (by omega)]
    by_cases h62 : q > 4611686018427387904
    · rw [if_pos (by omega)]
      apply hover
      have : 9223372036854775809 ≤ S / c := by
        rw [Nat.le_div_iff_mul_le hc0]
        have : 4611686018427387905 * c ≤ q * c := Nat.mul_le_mul_right c h62
        omega
      omega
    rw [if_neg (by omega)]
    -- behind the doubling
    obtain ⟨q1, r1, hT1, hr1, hq1, he⟩ : ∃ q1 r1 : Nat, 2 * T = q1 * c + r1 ∧ r1 < c ∧ q1 ≤ 9223372036854775809 ∧
        (if IntKind.u64.wrap (2 * (r : Int)) ≥ (c : Int) then sawmillref01_scaled.j1 (k + 1) (A : Int) (B : Int) (c : Int) (IntKind.u64.wrap (IntKind.u64.wrap (2 * (q : Int)) + 1)) (IntKind.u64.wrap (IntKind.u64.wrap (2 * (r : Int)) - (c : Int))) (((i + 1 : Nat) : Int) - 1) else sawmillref01_scaled.j1 (k + 1) (A : Int) (B : Int) (c : Int) (IntKind.u64.wrap (2 * (q : Int))) (IntKind.u64.wrap (2 * (r : Int))) (((i + 1 : Nat) : Int) - 1)) = sawmillref01_scaled.j1 (k + 1) (A : Int) (B : Int) (c : Int) (q1 : Int) (r1 : Int) (((i + 1 : Nat) : Int) - 1) := by
      rw [show 2 * (r : Int) = ((2 * r : Nat) : Int) by omega, show 2 * (q : Int) = ((2 * q : Nat) : Int) by omega, wN (2 * r) (by omega), wN (2 * q) (by omega)]
      by_cases h : 2 * r ≥ c
      · refine ⟨2 * q + 1, 2 * r - c, ?_, by omega, by omega, ?_⟩
        · rw [Nat.add_mul, Nat.mul_assoc]; omega
        · rw [if_pos (by omega), show ((2 * q : Nat) : Int) + 1 = ((2 * q + 1 : Nat) : Int) by omega, show ((2 * r : Nat) : Int) - (c : Int) = ((2 * r - c : Nat) : Int) by omega, wN (2 * q + 1) (by omega), wN (2 * r - c) (by omega)]
      · refine ⟨2 * q, 2 * r, ?_, by omega, by omega, ?_⟩
        · rw [Nat.mul_assoc]; omega
        · rw [if_neg (by omega)]
    rw [he]
    clear he
    rw [sawmillref01_scaled.j1, hwi, hwd, hsh]
    by_cases h63' : q1 > 9223372036854775808
    · rw [if_pos (by omega)]
      apply hover
      have : 9223372036854775809 ≤ S / c := by
        rw [Nat.le_div_iff_mul_le hc0]
        have : 9223372036854775809 * c ≤ q1 * c := Nat.mul_le_mul_right c h63'
        omega
      omega
    rw [if_neg (by omega), if_pos (by omega)]
    have hmod : Int.tmod ((bb : Nat) : Int) 2 = ((bb % 2 : Nat) : Int) := by rw [Int.tmod_eq_emod_of_nonneg (by omega)]; omega
    rw [hmod]
    rcases hb01 with hb0 | hb0
    · rw [hb0] at hS ⊢
      rw [if_neg (by decide)]
      have e := dm (c := c) (x := q1) (y := r1) (N := S) (by omega) hr1
      rw [e.1, e.2] at ih
      exact ih (by omega)
    · rw [hb0] at hS ⊢
      rw [if_pos (by decide), if_neg (by omega)]
      have hAq : Int.tdiv ((A : Nat) : Int) (c : Int) = ((A / c : Nat) : Int) := by rw [Int.tdiv_eq_ediv_of_nonneg (by omega), Int.natCast_ediv]
      have hAr : Int.tmod ((A : Nat) : Int) (c : Int) = ((A % c : Nat) : Int) := by rw [Int.tmod_eq_emod_of_nonneg (by omega), Int.natCast_emod]
      rw [hAq, hAr]
      have hAc : A / c ≤ A := Nat.div_le_self _ _
      have hAm := Nat.div_add_mod A c
      have hArl := Nat.mod_lt A hc0
      rw [Nat.mul_comm c (A / c)] at hAm
      clear hAq hAr
      generalize A / c = x at *
      generalize A % c = y at *
      rw [wN x (by omega), show (9223372036854775808 : Int) - (q1 : Int) = ((9223372036854775808 - q1 : Nat) : Int) by omega, wN (9223372036854775808 - q1) (by omega)]
      have hadd : (q1 + x) * c = q1 * c + x * c := Nat.add_mul _ _ _
      by_cases hbig : x > 9223372036854775808 - q1
      · rw [if_pos (by omega)]
        apply hover
        have : 9223372036854775809 ≤ S / c := by
          rw [Nat.le_div_iff_mul_le hc0]
          have : 9223372036854775809 * c ≤ (q1 + x) * c := Nat.mul_le_mul_right c (by omega)
          omega
        omega
      rw [if_neg (by omega), show (r1 : Int) + (y : Int) = ((r1 + y : Nat) : Int) by omega, show (q1 : Int) + (x : Int) = ((q1 + x : Nat) : Int) by omega, wN (r1 + y) (by omega), wN (q1 + x) (by omega)]
      by_cases hcar : r1 + y ≥ c
      · have e := dm (c := c) (x := q1 + x + 1) (y := r1 + y - c) (N := S) (by rw [Nat.add_mul, hadd]; omega) (by omega)
        rw [if_pos (by omega), show ((q1 + x : Nat) : Int) + 1 = ((q1 + x + 1 : Nat) : Int) by omega, show ((r1 + y : Nat) : Int) - (c : Int) = ((r1 + y - c : Nat) : Int) by omega, wN (q1 + x + 1) (by omega), wN (r1 + y - c) (by omega)]
        rw [e.1] at hover
        rw [e.1, e.2] at ih
        by_cases hb : q1 + x + 1 > 9223372036854775808
        · rw [if_pos (by omega)]
          exact hover hb
        · rw [if_neg (by omega)]
          exact ih (by omega)
      · have e := dm (c := c) (x := q1 + x) (y := r1 + y) (N := S) (by rw [hadd]; omega) (by omega)
        rw [if_neg (by omega)]
        rw [e.1] at hover
        rw [e.1, e.2] at ih
        rw [if_neg (by omega)]
        exact ih (by omega)
theorem mdr_f (a b c : Int) (a0 : -9223372036854775808 ≤ a) (a1 : a ≤ 9223372036854775807) (b0 : -9223372036854775808 ≤ b) (b1 : b ≤ 9223372036854775807) (c1 : c ≤ 9223372036854775807) :
    sawmillref01_MulDiv.f 200 a b c = some (md a b c) := by
  unfold sawmillref01_MulDiv.f md
  by_cases hc : c ≤ 0
  · rw [if_pos hc, if_pos hc]
  rw [if_neg hc, if_neg hc, size_f a a0 a1, size_f b b0 b1, Option.bind_some, Option.bind_some]
  obtain ⟨C, hC⟩ : ∃ C : Nat, c = C := ⟨c.toNat, by omega⟩
  subst hC
  rw [Int.toNat_natCast, wN C (by omega)]
  have hz : b.natAbs / 2 ^ 64 = 0 := Nat.div_eq_of_lt (by omega)
  have hd : sawmillref01_scaled.f 200 ((a.natAbs : Nat) : Int) ((b.natAbs : Nat) : Int) (C : Int) = some (scr a.natAbs b.natAbs C) := by
    have h := scaled_run a.natAbs b.natAbs C (by omega) (by omega) (by omega) (by omega) 64 200 (by omega) (by omega)
    rw [hz, Nat.mul_zero, Nat.zero_div, Nat.zero_mod] at h
    exact h (by omega)
  rw [hd, Option.bind_some]
  clear hd hz
  unfold scr
  simp only [same_iff]
  generalize a.natAbs * b.natAbs = p at *
  have h0 : p = 0 → p / C = 0 ∧ p % C = 0 := fun h => by subst h; exact ⟨Nat.zero_div _, Nat.zero_mod _⟩
  have h1 := Nat.div_add_mod p C
  have h2 : p / C = 0 → p % C = 0 → p = 0 := fun h h' => by rw [h, h', Nat.mul_zero] at h1; omega
  clear h1
  generalize p / C = q at *
  generalize p % C = r at *
  by_cases hbig : q ≤ 9223372036854775808
  · rw [if_pos hbig]
    simp only [if_true]
    by_cases hs : a < 0 ↔ b < 0
    · rw [if_pos hs, if_pos (Or.inl hs), sawmillref01_MulDiv.j0, if_pos rfl]
      by_cases hq : q ≤ 9223372036854775807
      · rw [if_neg (by omega), if_pos hq, w64 (by omega) (by omega)]
      · rw [if_pos (by omega), if_neg hq]
    · rw [if_neg hs]
      by_cases hp : p = 0
      · obtain ⟨e1, e2⟩ := h0 hp
        subst e1
        subst e2
        have hb : (((0 : Nat) : Int) == 0) = true := rfl
        rw [if_pos (Or.inr hp), if_pos (show ((0 : Nat) : Int) = 0 from rfl), hb, sawmillref01_MulDiv.j0, if_pos rfl, if_neg (by omega), if_pos (by omega), w64 (by omega) (by omega)]
      · rw [if_neg (show ¬ ((a < 0 ↔ b < 0) ∨ p = 0) from fun h => h.elim hs hp)]
        have e : (if (q : Int) = 0 then sawmillref01_MulDiv.j0 200 (q : Int) (r : Int) ((r : Int) == 0) else sawmillref01_MulDiv.j0 200 (q : Int) (r : Int) false) = sawmillref01_MulDiv.j0 200 (q : Int) (r : Int) false := by
          by_cases h : q = 0
          · have hr : ¬ r = 0 := fun h' => hp (h2 h h')
            have hb : ((r : Int) == 0) = false := by simpa using hr
            rw [hb, ite_self]
          · rw [if_neg (by omega)]
        rw [e, sawmillref01_MulDiv.j0, if_neg (by decide)]
        by_cases hr : r = 0
        · subst hr
          have hq0 : ¬ q = 0 := fun h' => hp (h2 h' rfl)
          rw [if_neg (by omega), if_neg (by omega), if_pos rfl, if_pos (by omega)]
          congr 2
          simp only [wM]
          unfold wrap64
          omega
        · rw [if_pos (by omega), if_neg hr]
          rw [show (q : Int) + 1 = ((q + 1 : Nat) : Int) by omega, wN (q + 1) (by omega)]
          by_cases hq : q + 1 ≤ 9223372036854775808
          · rw [if_neg (by omega), if_pos hq]
            congr 2
            simp only [wM]
            unfold wrap64
            omega
          · rw [if_pos (by omega), if_neg hq]
  · rw [if_neg hbig]
    simp only [Bool.false_eq_true, if_false]
    by_cases hs : (a < 0 ↔ b < 0) ∨ p = 0
    · rw [if_pos hs, if_neg (by omega)]
    · rw [if_neg hs, if_neg]
      split <;> omega
end Go.Proofs.YtlfloandockgbaaDoor.Uni
