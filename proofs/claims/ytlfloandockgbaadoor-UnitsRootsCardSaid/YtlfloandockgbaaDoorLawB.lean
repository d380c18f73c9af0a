/-
  The law UnitsDivides returns true. Condition: the library's table of powers of ten holds what it holds at the start.
-/
import Derived.Test.YtlfloandockgbaaDoorFloorb
import Derived.Test.YtlfloandockgbaaDoorLawA
namespace Go.Proofs.YtlfloandockgbaaDoor.Uni
open Go.RowKit Go.Proofs.YtlfloandockgbaaDoorW.PrintWords Go.Proofs.YtlfloandockgbaaDoorW.PrintLast Go.Proofs.YtlfloandockgbaaDoorW.PrintMore
open Go.Proofs.YtlfloandockgbaaDoor.PAll
set_option linter.unusedVariables false
set_option linter.unusedSimpArgs false

/-- What is true of a good pair's quotient and remainder. -/
structure QR (a b q r : Int) : Prop where
  b0 : b ≠ 0
  good : a = -9223372036854775808 → b ≠ -1
  hq : Aside0 (wrap64 (Int.tdiv a b) = q)
  hr : Aside0 (Int.tmod a b = r)
  sum : a = b * q + r
  sign : r ≠ 0 → (r < 0 ↔ a < 0)
  pos : 0 < b → -b < r ∧ r < b
  neg : b < 0 → b < r ∧ r < -b
  q0 : -9223372036854775808 ≤ q
  q1 : q ≤ 9223372036854775807
theorem qr_of (a b : Int) (a0 : -9223372036854775808 ≤ a) (a1 : a ≤ 9223372036854775807) (hb : b ≠ 0) (hg : a = -9223372036854775808 → b ≠ -1) : ∃ q r, QR a b q r := by
  have hs := Int.mul_tdiv_add_tmod a b
  have hlt := Int.tmod_lt_of_pos a (b := b.natAbs) (by omega)
  have hab : ∀ x : Int, x.natAbs ≤ 9223372036854775808 → -9223372036854775808 ≤ x := fun x h => by omega
  have hq : (Int.tdiv a b).natAbs ≤ a.natAbs := by
    rw [Int.natAbs_tdiv]
    exact Nat.div_le_self _ _
  have hr : (Int.tmod a b).natAbs < b.natAbs := by
    rw [Int.natAbs_tmod]
    exact Nat.mod_lt _ (by omega)
  have hq2 : Int.tdiv a b ≤ 9223372036854775807 := by
    rcases Classical.em (a = -9223372036854775808) with h | h
    · by_cases hb1 : b = 1
      · subst hb1
        rw [Int.tdiv_one]
        omega
      · have hb2 : 2 ≤ b.natAbs := by have := hg h; omega
        have : (Int.tdiv a b).natAbs ≤ 4611686018427387904 := by
          rw [Int.natAbs_tdiv]
          have h3 : a.natAbs = 9223372036854775808 := by omega
          rw [h3]
          exact Nat.le_of_lt_succ ((Nat.div_lt_iff_lt_mul (by omega)).2 (by omega))
        omega
    · omega
  have hsign : Int.tmod a b ≠ 0 → (Int.tmod a b < 0 ↔ a < 0) := by
    intro h0
    rcases Int.lt_or_le a 0 with h | h
    · have h1 := Int.tmod_nonneg (a := -a) b (by omega)
      rw [Int.neg_tmod] at h1
      omega
    · have h1 := Int.tmod_nonneg (a := a) b h
      omega
  refine ⟨Int.tdiv a b, Int.tmod a b, ⟨hb, hg, ⟨w64 (hab _ (by omega)) hq2⟩, ⟨rfl⟩, hs.symm, hsign, fun h => by omega, fun h => by omega, hab _ (by omega), hq2⟩⟩
/-- The floor and what it leaves: no step wraps. -/
structure FR (a b F R : Int) : Prop where
  sum : a = b * F + R
  pos : 0 < b → 0 ≤ R ∧ R < b
  neg : b < 0 → b < R ∧ R ≤ 0
theorem fr_of {a b q r : Int} (h : QR a b q r) (a0 : -9223372036854775808 ≤ a) (a1 : a ≤ 9223372036854775807) (b0 : -9223372036854775808 ≤ b) (b1 : b ≤ 9223372036854775807) : FR a b (fF q r b) (fR r b) := by
  obtain ⟨hb, hg, _, _, hs, hsg, hp, hn, hq0, hq1⟩ := h
  unfold fF fR
  by_cases h0 : r = 0
  · rw [if_pos h0, if_pos h0]
    exact ⟨by omega, fun h => by omega, fun h => by omega⟩
  · rw [if_neg h0, if_neg h0]
    by_cases h1 : r < 0 ↔ b < 0
    · rw [if_pos h1, if_pos h1]
      exact ⟨hs, fun h => by have := hp h; omega, fun h => by have := hn h; omega⟩
    · rw [if_neg h1, if_neg h1]
      have hqq : -9223372036854775808 < q := by
        rcases Int.lt_or_le (-9223372036854775808) q with h | h
        · exact h
        · exfalso
          have e : q = -9223372036854775808 := by omega
          subst e
          have := hp
          have := hn
          omega
      rw [w64 (x := q - 1) (by omega) (by omega), w64 (x := r + b) (by have := hp; have := hn; omega) (by have := hp; have := hn; omega)]
      refine ⟨?_, fun h => by have := hp h; omega, fun h => by have := hn h; omega⟩
      rw [Int.mul_sub, Int.mul_one]
      omega
theorem rfloor_good {a b q r : Int} (h : QR a b q r) : sawmillref01_Floor.f 100 a b = some (fF q r b, true) := by
  obtain ⟨hb, hg, hq, hr, hs, hsg, hp, hn, hq0, hq1⟩ := h
  have hj : sawmillref01_Floor.j0 100 a b false = some (fF q r b, true) := by
    rw [sawmillref01_Floor.j0, if_neg (by decide), if_neg hb, hq.out, hr.out]
    unfold fF
    by_cases h0 : r = 0
    · rw [if_pos h0, if_pos h0]
    · rw [if_neg h0, if_neg h0]
      by_cases h1 : r < 0 ↔ b < 0
      · have e : ((decide (a < 0)) != (decide (b < 0))) = false := by
          have : a < 0 ↔ b < 0 := (hsg h0).symm.trans h1
          simp [this]
        rw [if_pos h1, e, if_neg (by decide)]
      · have e : ((decide (a < 0)) != (decide (b < 0))) = true := by
          have : ¬ (a < 0 ↔ b < 0) := fun h => h1 ((hsg h0).trans h)
          by_cases c1 : a < 0 <;> by_cases c2 : b < 0 <;> simp [c1, c2] at this ⊢
        rw [if_neg h1, e, if_pos rfl]
  unfold sawmillref01_Floor.f
  rw [if_neg hb]
  by_cases ha : a = -9223372036854775808
  · have : (b == -1) = false := by simpa using hg ha
    rw [if_pos ha, this, hj]
  · rw [if_neg ha, hj]
theorem rfloor_bad (a b : Int) (h : b = 0 ∨ a = -9223372036854775808 ∧ b = -1) : sawmillref01_Floor.f 100 a b = some (0, false) := by
  have hj : sawmillref01_Floor.j0 100 a b true = some (0, false) := by
    rw [sawmillref01_Floor.j0]
    exact if_pos rfl
  unfold sawmillref01_Floor.f
  rcases h with h | ⟨h1, h2⟩
  · rw [if_pos h, hj]
  · rw [if_neg (by omega), if_pos h1, h2]
    rw [h2] at hj
    exact hj
theorem rnear_good {a b q r : Int} (h : QR a b q r) (a0 : -9223372036854775808 ≤ a) (a1 : a ≤ 9223372036854775807) (b0 : -9223372036854775808 ≤ b) (b1 : b ≤ 9223372036854775807) :
    sawmillref01_Nearest.f 100 a b = some (if upB (fR r b) b = true then wrap64 (fF q r b + 1) else fF q r b, true) := by
  have hf := fr_of h a0 a1 b0 b1
  have hb := h.b0
  unfold sawmillref01_Nearest.f
  rw [rfloor_good h, Option.bind_some]
  generalize fF q r b = F at hf ⊢
  generalize fR r b = R at hf ⊢
  obtain ⟨hs, hp, hn⟩ := hf
  have e : wrap64 (a - wrap64 (F * b)) = R := by
    rw [Int.mul_comm F b]
    generalize b * F = z at hs
    unfold wrap64
    omega
  rw [if_pos rfl]
  simp only []
  rw [e]
  unfold upB
  by_cases c : b > 0
  · rw [if_pos c, if_pos c]
    by_cases c2 : R ≥ wrap64 (b - R)
    · rw [if_pos c2, decide_eq_true c2, if_pos rfl]
    · rw [if_neg c2, if_neg (by omega), decide_eq_false c2, if_neg (by decide)]
  · rw [if_neg c, if_neg c, if_pos (by omega)]
    by_cases c2 : R ≤ wrap64 (b - R)
    · rw [if_pos c2, decide_eq_true c2, if_pos rfl]
    · rw [if_neg c2, decide_eq_false c2, if_neg (by decide)]
theorem rnear_bad (a b : Int) (h : b = 0 ∨ a = -9223372036854775808 ∧ b = -1) : sawmillref01_Nearest.f 100 a b = some (0, false) := by
  unfold sawmillref01_Nearest.f
  rw [rfloor_bad a b h, Option.bind_some, if_neg (by decide)]
theorem ex_up (b : Int) (hb : b ≠ 0) (b0 : -9223372036854775808 ≤ b) (b1 : b ≤ 9223372036854775807) : upB 0 b = false := by
  unfold upB
  rw [Int.sub_zero, w64 b0 b1]
  split
  · exact decide_eq_false (by omega)
  · exact decide_eq_false (by omega)
/-- What the four functions return: one number and one bool each. -/
theorem four (a b : Int) (ra : -9223372036854775808 ≤ a ∧ a ≤ 9223372036854775807) (rb : -9223372036854775808 ≤ b ∧ b ≤ 9223372036854775807) : ∃ x y : Int, ∃ ok : Bool,
    (∀ w, Calls Tryd.prog 15 #[.int .i64 a, .int .i64 b] w fun e w' => e = .returned (.tuple #[.int .i64 x, .bool ok]) ∧ Below w.heap.size w w') ∧
    (∀ w, Calls Tryd.prog 16 #[.int .i64 a, .int .i64 b] w fun e w' => e = .returned (.tuple #[.int .i64 y, .bool ok]) ∧ Below w.heap.size w w') ∧
    sawmillref01_Floor.f 100 a b = some (x, ok) ∧ sawmillref01_Nearest.f 100 a b = some (y, ok) := by
  by_cases h : b = 0 ∨ a = -9223372036854775808 ∧ b = -1
  · exact ⟨0, 0, false, fun w => floor_bad w a b h, fun w => near_bad w a b h, rfloor_bad a b h, rnear_bad a b h⟩
  · obtain ⟨q, r, hqr⟩ := qr_of a b ra.1 ra.2 (by omega) (by omega)
    exact ⟨_, _, true, fun w => floor_any w a b q r hqr.b0 hqr.good hqr.hq hqr.hr, fun w => near_any w a b q r hqr.b0 hqr.good hqr.hq hqr.hr (fun _ => ex_up b hqr.b0 rb.1 rb.2), rfloor_good hqr, rnear_good hqr ra.1 ra.2 rb.1 rb.2⟩
set_option maxHeartbeats 1000000 in
theorem divides_true {w : World} (hT : Tab w) (a b : Int) (ra : -9223372036854775808 ≤ a ∧ a ≤ 9223372036854775807) (rb : -9223372036854775808 ≤ b ∧ b ≤ 9223372036854775807) : Calls Tryd.prog 5 #[.int .i64 a, .int .i64 b] w (AllTrue w) := by
  obtain ⟨x, y, ok, h1, h2, h3, h4⟩ := four a b ra rb
  have HT := Aside0.mk hT
  have H1 := Aside0.mk h1
  have H2 := Aside0.mk h2
  have H3 := Aside0.mk (fun w => sawmillref01_Floor.calls 100 a b _ _ w h3)
  have H4 := Aside0.mk (fun w => sawmillref01_Nearest.calls 100 a b _ _ w h4)
  clear h1 h2 h3 h4 hT ra rb
  go_enter Tryd.func5, Tryd.ntmps5
  go_wp2_with fail
  refine (H1.out _).mono ?_
  rintro _ w1 ⟨rfl, hb⟩
  have B1 := Aside0.mk hb
  clear hb
  go_wp2_with fail
  refine (H2.out _).mono ?_
  rintro _ w2 ⟨rfl, hb⟩
  have B2 := Aside0.mk (below_step B1.out hb)
  clear hb B1
  go_wp2_with fail
  refine (H3.out _).mono ?_
  rintro _ w3 ⟨rfl, hb⟩
  have B3 := Aside0.mk (below_step B2.out (by first | exact hb | exact hb.below))
  clear hb B2
  go_wp2_with fail
  refine (H4.out _).mono ?_
  rintro _ w4 ⟨rfl, hb⟩
  have B4 := Aside0.mk (below_step B3.out (by first | exact hb | exact hb.below))
  clear hb B3
  go_wp2_with fail
  refine (awake_any _ (tab_below HT.out B4.out)).mono ?_
  rintro _ w5 ⟨rfl, hb⟩
  have B5 := Aside0.mk (below_step B4.out hb)
  clear hb B4
  go_wp2_with fail
  go_ret
  exact ⟨rfl, B5.out⟩
end Go.Proofs.YtlfloandockgbaaDoor.Uni
