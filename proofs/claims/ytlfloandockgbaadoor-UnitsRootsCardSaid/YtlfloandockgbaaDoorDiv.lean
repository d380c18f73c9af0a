/-
  What math/bits.Div64 returns, as the quotient and the remainder. For every dividend whose upper half is below the divisor.
-/
import Derived.Test.YtlfloandockgbaaDoorPAllx
namespace Go.Proofs.YtlfloandockgbaaDoor.Uni
open Go.RowKit Go.Proofs.YtlfloandockgbaaDoorW.PrintWords Go.Proofs.YtlfloandockgbaaDoorW.PrintLast Go.Proofs.YtlfloandockgbaaDoorW.PrintMore
open Go.Proofs.YtlfloandockgbaaDoor.PAll
set_option linter.unusedVariables false
set_option linter.unusedSimpArgs false

theorem wN (a : Nat) (h : a < 18446744073709551616) : IntKind.u64.wrap (a : Int) = (a : Int) := by rw [IntKind.wrap_u64]; omega
theorem wM (x : Int) : IntKind.u64.wrap x = x % 18446744073709551616 := by rw [IntKind.wrap_u64]
/-- One digit of the school method: the divisor's halves, the row's upper part, its next half digit, the digit guessed and what it leaves. -/
structure Dig (Y a b u v q r : Nat) : Prop where
  y : Y = 4294967296 * a + b
  a0 : 2147483648 ≤ a
  a1 : a < 4294967296
  b1 : b < 4294967296
  u1 : u < Y
  v1 : v < 4294967296
  r1 : r < 4294967296
  q1 : q ≤ 4294967297
  sum : q * a + r = u
theorem lt_chain {x y z : Nat} (h1 : x < y) (h2 : y ≤ z) : x < z := Nat.lt_of_lt_of_le h1 h2
theorem Dig.qY {Y a b u v q r : Nat} (h : Dig Y a b u v q r) : q * Y = 4294967296 * (q * a) + q * b := by
  rw [h.y, Nat.mul_add, Nat.mul_left_comm]
theorem Dig.over {Y a b u v q r : Nat} (h : Dig Y a b u v q r) (hc : 4294967296 ≤ q ∨ 4294967296 * r + v < q * b) : (4294967296 * u + v) / Y < q := by
  have hY : 0 < Y := by have := h.u1; omega
  rw [Nat.div_lt_iff_lt_mul hY]
  rcases hc with hc | hc
  · have h1 : 4294967296 * Y ≤ q * Y := Nat.mul_le_mul_right Y hc
    have a1 := h.u1
    have a2 := h.v1
    have h2 : 4294967296 * u + v < 4294967296 * Y := by
      clear h1 hc h
      omega
    exact lt_chain h2 h1
  · have h1 := h.qY
    have h2 := h.sum
    clear h hY
    generalize q * Y = z at h1 ⊢
    generalize q * a = x at h1 h2
    generalize q * b = y at h1 hc
    omega
theorem Dig.under {Y a b u v q r : Nat} (h : Dig Y a b u v q r) (hc : q * b ≤ 4294967296 * r + v) : q ≤ (4294967296 * u + v) / Y := by
  have hY : 0 < Y := by have := h.u1; omega
  rw [Nat.le_div_iff_mul_le hY]
  have h1 := h.qY
  have h2 := h.sum
  clear h hY
  generalize q * Y = z at h1 ⊢
  generalize q * a = x at h1 h2
  generalize q * b = y at h1 hc
  omega
theorem Dig.less {Y a b u v q r : Nat} (h : Dig Y a b u v (q + 1) r) : q * a + (r + a) = u := by
  have := h.sum
  rw [Nat.add_mul] at this
  omega
theorem Dig.brk {Y a b u v q r : Nat} (h : Dig Y a b u v (q + 1) r) (hb : 4294967296 ≤ r + a) : q ≤ (4294967296 * u + v) / Y := by
  have hY : 0 < Y := by have := h.u1; omega
  rw [Nat.le_div_iff_mul_le hY]
  have h0 := h.less
  have h1 : q * Y = 4294967296 * (q * a) + q * b := by rw [h.y, Nat.mul_add, Nat.mul_left_comm]
  have h2 : q * b ≤ 4294967296 * b := Nat.mul_le_mul_right b (by have := h.q1; omega)
  have := h.b1
  omega
theorem Dig.next {Y a b u v q r : Nat} (h : Dig Y a b u v (q + 1) r) (hb : r + a < 4294967296) : Dig Y a b u v q (r + a) :=
  ⟨h.y, h.a0, h.a1, h.b1, h.u1, h.v1, hb, by have := h.q1; omega, h.less⟩
/-- The loop's test, as the code computes it below 2^32. -/
theorem Dig.test {Y a b u v q r : Nat} (h : Dig Y a b u v q r) (hq : q < 4294967296) :
    decide ((IntKind.u64.wrap ((q : Int) * (b : Int))) > (IntKind.u64.wrap ((IntKind.u64.wrap (4294967296 * (r : Int))) + (v : Int)))) = decide (4294967296 * r + v < q * b) := by
  have h1 : q * b ≤ 4294967295 * 4294967295 := Nat.mul_le_mul (by omega) (by have := h.b1; omega)
  have hr := h.r1
  have hv := h.v1
  rw [← Int.natCast_mul]
  generalize q * b = z at *
  rw [wN z (by omega), show (4294967296 : Int) * (r : Int) = ((4294967296 * r : Nat) : Int) by omega, wN _ (by omega), show ((4294967296 * r : Nat) : Int) + (v : Int) = ((4294967296 * r + v : Nat) : Int) by omega, wN _ (by omega)]
  rw [decide_eq_decide]
  omega
section
variable {Y a b u v : Nat} (s un0 : Nat)
theorem l0_run (Q : Nat) (hQ : (4294967296 * u + v) / Y = Q) (m : Nat) (d : Nat) : ∀ (k q r : Nat), Dig Y a b u v q r → q = Q + d → 2 * d + m + 2 ≤ k →
    ∃ k', m ≤ k' ∧ bits_Div64.l0 k (Y : Int) (s : Int) (a : Int) (b : Int) (u : Int) (v : Int) (un0 : Int) (q : Int) (r : Int) = bits_Div64.j2 k' (Y : Int) (s : Int) (a : Int) (b : Int) (u : Int) (v : Int) (un0 : Int) (Q : Int) := by
  induction d with
  | zero =>
    intro k q r h hq hk
    obtain ⟨k, rfl⟩ : ∃ j, k = j + 1 + 1 := ⟨k - 2, by omega⟩
    have ho := fun hc => (show Q < q by rw [← hQ]; exact h.over hc)
    have hlt : q < 4294967296 := by
      rcases Nat.lt_or_ge q 4294967296 with h1 | h1
      · exact h1
      · exact absurd (ho (.inl h1)) (by omega)
    have hn : ¬ 4294967296 * r + v < q * b := fun h1 => absurd (ho (.inr h1)) (by omega)
    refine ⟨k, by omega, ?_⟩
    rw [bits_Div64.l0, if_neg (by omega), h.test hlt, decide_eq_false hn, bits_Div64.j1, if_neg (by decide), hq, Nat.add_zero]
  | succ d ih =>
    intro k q r h hq hk
    obtain ⟨k, rfl⟩ : ∃ j, k = j + 1 + 1 := ⟨k - 2, by omega⟩
    obtain ⟨p, rfl⟩ : ∃ p, q = p + 1 := ⟨q - 1, by omega⟩
    have hc : 4294967296 ≤ p + 1 ∨ 4294967296 * r + v < (p + 1) * b := by
      rcases Nat.lt_or_ge (4294967296 * r + v) ((p + 1) * b) with h1 | h1
      · exact .inr h1
      · exact absurd (show p + 1 ≤ Q by rw [← hQ]; exact h.under h1) (by omega)
    have hr := h.r1
    have ha := h.a1
    have hq1 := h.q1
    have e1 : Aside0 (IntKind.u64.wrap (((p + 1 : Nat) : Int) - 1) = (p : Int)) := ⟨by rw [show ((p + 1 : Nat) : Int) - 1 = (p : Int) by omega, wN _ (by omega)]⟩
    have e2 : Aside0 (IntKind.u64.wrap ((r : Int) + (a : Int)) = ((r + a : Nat) : Int)) := ⟨by rw [show (r : Int) + (a : Int) = ((r + a : Nat) : Int) by omega, wN _ (by omega)]⟩
    have hj : ∃ k', m ≤ k' ∧ bits_Div64.j1 (k + 1) (Y : Int) (s : Int) (a : Int) (b : Int) (u : Int) (v : Int) (un0 : Int) ((p + 1 : Nat) : Int) (r : Int) true = bits_Div64.j2 k' (Y : Int) (s : Int) (a : Int) (b : Int) (u : Int) (v : Int) (un0 : Int) (Q : Int) := by
      by_cases hb : 4294967296 ≤ r + a
      · have hp : p ≤ Q := by rw [← hQ]; exact h.brk hb
        have hpe : p = Q := by omega
        refine ⟨k, by omega, ?_⟩
        rw [bits_Div64.j1, if_pos rfl, e1.out, e2.out, if_pos (by omega), ← hpe]
      · obtain ⟨k', hk', e⟩ := ih k p (r + a) (h.next (by omega)) (by omega) (by omega)
        refine ⟨k', hk', ?_⟩
        rw [bits_Div64.j1, if_pos rfl, e1.out, e2.out, if_neg (by omega), e]
    obtain ⟨k', hk', e⟩ := hj
    refine ⟨k', hk', ?_⟩
    rw [bits_Div64.l0]
    by_cases hg : p + 1 < 4294967296
    · rw [if_neg (by omega), h.test hg, decide_eq_true (by omega), e]
    · rw [if_pos (by omega), e]
theorem l1_run (Q : Nat) (hQ : (4294967296 * u + v) / Y = Q) (Q1 : Nat) (d : Nat) : ∀ (k q r : Nat), Dig Y a b u v q r → q = Q + d → 2 * d + 2 ≤ k →
    bits_Div64.l1 k (Y : Int) (s : Int) (a : Int) (b : Int) (v : Int) (Q1 : Int) (r : Int) (u : Int) (q : Int) =
      some (IntKind.u64.wrap ((IntKind.u64.wrap ((Q1 : Int) * 4294967296)) + (Q : Int)), shr .u64 (IntKind.u64.wrap ((IntKind.u64.wrap ((IntKind.u64.wrap ((u : Int) * 4294967296)) + (v : Int))) - (IntKind.u64.wrap ((Q : Int) * (Y : Int))))) (s : Int)) := by
  induction d with
  | zero =>
    intro k q r h hq hk
    obtain ⟨k, rfl⟩ : ∃ j, k = j + 1 + 1 := ⟨k - 2, by omega⟩
    have ho := fun hc => (show Q < q by rw [← hQ]; exact h.over hc)
    have hlt : q < 4294967296 := by
      rcases Nat.lt_or_ge q 4294967296 with h1 | h1
      · exact h1
      · exact absurd (ho (.inl h1)) (by omega)
    have hn : ¬ 4294967296 * r + v < q * b := fun h1 => absurd (ho (.inr h1)) (by omega)
    rw [bits_Div64.l1, if_neg (by omega), h.test hlt, decide_eq_false hn, bits_Div64.j4, if_neg (by decide), if_pos (by omega), hq, Nat.add_zero]
  | succ d ih =>
    intro k q r h hq hk
    obtain ⟨k, rfl⟩ : ∃ j, k = j + 1 + 1 := ⟨k - 2, by omega⟩
    obtain ⟨p, rfl⟩ : ∃ p, q = p + 1 := ⟨q - 1, by omega⟩
    have hc : 4294967296 ≤ p + 1 ∨ 4294967296 * r + v < (p + 1) * b := by
      rcases Nat.lt_or_ge (4294967296 * r + v) ((p + 1) * b) with h1 | h1
      · exact .inr h1
      · exact absurd (show p + 1 ≤ Q by rw [← hQ]; exact h.under h1) (by omega)
    have hr := h.r1
    have ha := h.a1
    have hq1 := h.q1
    have e1 : Aside0 (IntKind.u64.wrap (((p + 1 : Nat) : Int) - 1) = (p : Int)) := ⟨by rw [show ((p + 1 : Nat) : Int) - 1 = (p : Int) by omega, wN _ (by omega)]⟩
    have e2 : Aside0 (IntKind.u64.wrap ((r : Int) + (a : Int)) = ((r + a : Nat) : Int)) := ⟨by rw [show (r : Int) + (a : Int) = ((r + a : Nat) : Int) by omega, wN _ (by omega)]⟩
    obtain ⟨R, hR⟩ : ∃ R, (some (IntKind.u64.wrap ((IntKind.u64.wrap ((Q1 : Int) * 4294967296)) + (Q : Int)), shr .u64 (IntKind.u64.wrap ((IntKind.u64.wrap ((IntKind.u64.wrap ((u : Int) * 4294967296)) + (v : Int))) - (IntKind.u64.wrap ((Q : Int) * (Y : Int))))) (s : Int)) : Option (Int × Int)) = R := ⟨_, rfl⟩
    have hRa := Aside0.mk hR
    rw [hR] at ih ⊢
    clear hR
    have hj : bits_Div64.j4 (k + 1) (Y : Int) (s : Int) (a : Int) (b : Int) (v : Int) (Q1 : Int) (r : Int) (u : Int) ((p + 1 : Nat) : Int) true = R := by
      by_cases hb : 4294967296 ≤ r + a
      · have hp : p ≤ Q := by rw [← hQ]; exact h.brk hb
        have hpe : p = Q := by omega
        rw [bits_Div64.j4, if_pos rfl, e1.out, e2.out, if_pos (by omega), if_pos (by omega), ← hRa.out, ← hpe]
      · have e := ih k p (r + a) (h.next (by omega)) (by omega) (by omega)
        rw [bits_Div64.j4, if_pos rfl, e1.out, e2.out, if_neg (by omega), e]
    rw [bits_Div64.l1]
    by_cases hg : p + 1 < 4294967296
    · rw [if_neg (by omega), h.test hg, decide_eq_true (by omega), hj]
    · rw [if_pos (by omega), hj]
end
end Go.Proofs.YtlfloandockgbaaDoor.Uni
