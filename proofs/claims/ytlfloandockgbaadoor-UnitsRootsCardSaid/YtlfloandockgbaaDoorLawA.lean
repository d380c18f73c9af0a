/-
  The law UnitsMoves returns true. Condition: the library's table of powers of ten holds what it holds at the start.
-/
import Derived.Test.YtlfloandockgbaaDoorAwake
import Derived.Test.YtlfloandockgbaaDoorDivb
namespace Go.Proofs.YtlfloandockgbaaDoor.Uni
open Go.RowKit Go.Proofs.YtlfloandockgbaaDoorW.PrintWords Go.Proofs.YtlfloandockgbaaDoorW.PrintLast Go.Proofs.YtlfloandockgbaaDoorW.PrintMore
open Go.Proofs.YtlfloandockgbaaDoor.PAll
set_option linter.unusedVariables false
set_option linter.unusedSimpArgs false

def cl (a b c : Int) : Int := if b > c then b else if a < b then b else if a > c then c else a
theorem clamp_f (a b c : Int) : units_Clamp.f a b c = some (cl a b c) := by
  unfold units_Clamp.f cl mn
  split
  · rfl
  · split
    · rfl
    · congr 1
theorem rclamp_f (k : Nat) (hk : 2 ≤ k) (a b c : Int) : sawmillref01_Clamp.f k a b c = some (cl a b c) := by
  obtain ⟨k, rfl⟩ : ∃ j, k = j + 1 := ⟨k - 1, by omega⟩
  unfold sawmillref01_Clamp.f cl
  simp only [sawmillref01_Clamp.j0]
  by_cases h1 : b > c
  · simp [h1]
  · by_cases h2 : a < b
    · simp [h1, h2]
    · by_cases h3 : a > c <;> simp [h1, h2, h3]
theorem cl_in (k : Int) : 0 ≤ cl k 0 10000 ∧ cl k 0 10000 ≤ 10000 := by
  unfold cl
  split
  · omega
  · split
    · omega
    · split <;> omega
theorem i64_of_wf {n : Int} (h : (Lit.int .i64 n).wf = true) : -9223372036854775808 ≤ n ∧ n ≤ 9223372036854775807 := by
  have h1 : (decide ((-9223372036854775808 : Int) ≤ n) && decide (n ≤ 9223372036854775807)) = true := h
  simpa using h1
theorem part_eq (u c : Nat) : u / 10000 * c + u % 10000 * c / 10000 = u * c / 10000 := by
  have h := Nat.div_add_mod u 10000
  have e : u * c = 10000 * (u / 10000 * c) + u % 10000 * c := by
    rw [← Nat.mul_assoc, ← Nat.add_mul, h]
  rw [e, Nat.mul_add_div (by decide)]
theorem j1_val (k : Nat) (hk : 61 ≤ k) (a b : Int) (u c : Nat) (hu : u < 18446744073709551616) (hc : c ≤ 10000) : units_Toward.j1 k a b (c : Int) (u : Int) =
    (if b < a then some (wrap64 (IntKind.u64.wrap ((IntKind.u64.wrap a) - (mx ((u * c / 10000 : Nat) : Int) 1)))) else some (wrap64 (IntKind.u64.wrap ((IntKind.u64.wrap a) + (mx ((u * c / 10000 : Nat) : Int) 1))))) := by
  obtain ⟨k, rfl⟩ : ∃ j, k = j + 1 := ⟨k - 1, by omega⟩
  have hm : bits_Mul64.f (u : Int) (IntKind.u64.wrap (c : Int)) = some (((u * c / 18446744073709551616 : Nat) : Int), ((u * c % 18446744073709551616 : Nat) : Int)) := by
    unfold bits_Mul64.f
    rw [wN c (by omega), if_pos (by omega), Int.toNat_natCast, Int.toNat_natCast]
  have hp : u * c ≤ 18446744073709551615 * 10000 := Nat.mul_le_mul (by omega) hc
  rw [units_Toward.j1, hm, Option.bind_some]
  have hd := div64_run (u * c / 18446744073709551616) (u * c % 18446744073709551616) 10000 (by omega) (by omega) (by omega) k (by omega)
  rw [show 18446744073709551616 * (u * c / 18446744073709551616) + u * c % 18446744073709551616 = u * c from Nat.div_add_mod _ _] at hd
  have hd' : bits_Div64.f k ((u * c / 18446744073709551616 : Nat) : Int) ((u * c % 18446744073709551616 : Nat) : Int) 10000 = some (((u * c / 10000 : Nat) : Int), ((u * c % 10000 : Nat) : Int)) := hd
  rw [hd', Option.bind_some]
theorem part_val (u c : Nat) (hu : u < 18446744073709551616) (hc : c ≤ 10000) : sawmillref01_part.f (u : Int) (c : Int) = some (if 0 < c ∧ 0 < u ∧ u * c / 10000 = 0 then 1 else ((u * c / 10000 : Nat) : Int)) := by
  have hpe := part_eq u c
  have hle : u * c / 10000 ≤ u := by
    have : u * c ≤ u * 10000 := Nat.mul_le_mul_left u hc
    omega
  have hm : u % 10000 * c ≤ 9999 * 10000 := Nat.mul_le_mul (by omega) hc
  have e1 : Aside0 (IntKind.u64.wrap (Int.tdiv (u : Int) 10000) = ((u / 10000 : Nat) : Int)) := ⟨by rw [Int.tdiv_eq_ediv_of_nonneg (by omega), show (u : Int) / 10000 = ((u / 10000 : Nat) : Int) by omega, wN _ (by omega)]⟩
  have e2 : Aside0 (IntKind.u64.wrap (((u / 10000 : Nat) : Int) * (c : Int)) = ((u / 10000 * c : Nat) : Int)) := ⟨by rw [← Int.natCast_mul, wN _ (by omega)]⟩
  have e3 : Aside0 (IntKind.u64.wrap (Int.tmod (u : Int) 10000 * (c : Int)) = ((u % 10000 * c : Nat) : Int)) := ⟨by rw [Int.tmod_eq_emod_of_nonneg (by omega), show (u : Int) % 10000 = ((u % 10000 : Nat) : Int) by omega, ← Int.natCast_mul, wN _ (by omega)]⟩
  have e4 : Aside0 (IntKind.u64.wrap (Int.tdiv ((u % 10000 * c : Nat) : Int) 10000) = ((u % 10000 * c / 10000 : Nat) : Int)) := ⟨by
    generalize u % 10000 * c = z at *
    rw [Int.tdiv_eq_ediv_of_nonneg (by omega), show (z : Int) / 10000 = ((z / 10000 : Nat) : Int) by omega, wN _ (by omega)]⟩
  have e5 : Aside0 (IntKind.u64.wrap (((u / 10000 * c : Nat) : Int) + ((u % 10000 * c / 10000 : Nat) : Int)) = ((u * c / 10000 : Nat) : Int)) := ⟨by rw [← Int.natCast_add, hpe, wN _ (by omega)]⟩
  unfold sawmillref01_part.f
  rw [e1.out, e2.out, e3.out, e4.out, e5.out]
  clear e1 e2 e3 e4 e5 hpe hm
  generalize hz : u * c / 10000 = z at *
  by_cases h1 : 0 < c
  · by_cases h2 : 0 < u
    · by_cases h3 : z = 0
      · rw [if_pos (by omega), if_pos (by omega), if_pos (by omega), if_pos ⟨h1, h2, h3⟩]
      · rw [if_pos (by omega), if_pos (by omega), if_neg (by omega), if_neg (fun h => h3 h.2.2)]
    · rw [if_pos (by omega), if_neg (by omega), if_neg (fun h => h2 h.2.1)]
  · rw [if_neg (by omega), if_neg (fun h => h1 h.1)]
theorem step_eq (z u c : Nat) (hc : 0 < c) (hu : 0 < u) : mx ((z : Nat) : Int) 1 = (if 0 < c ∧ 0 < u ∧ z = 0 then (1 : Int) else (z : Int)) := by
  have e : (if 0 < c ∧ 0 < u ∧ z = 0 then (1 : Int) else (z : Int)) = if z = 0 then 1 else (z : Int) := by
    by_cases h : z = 0
    · rw [if_pos ⟨hc, hu, h⟩, if_pos h]
    · rw [if_neg (fun h' => h h'.2.2), if_neg h]
  rw [e]
  clear e
  unfold mx
  split <;> split <;> omega
theorem toward_eq (a b k : Int) (a0 : -9223372036854775808 ≤ a) (a1 : a ≤ 9223372036854775807) (b0 : -9223372036854775808 ≤ b) (b1 : b ≤ 9223372036854775807) :
    ∃ t, units_Toward.f 100 a b k = some t ∧ sawmillref01_Toward.f 100 a b k = some t := by
  have hc := cl_in k
  have hself : wrap64 (IntKind.u64.wrap (IntKind.u64.wrap a + 0)) = a := by simp only [wM]; unfold wrap64; omega
  unfold units_Toward.f sawmillref01_Toward.f
  rw [clamp_f, rclamp_f 100 (by decide), Option.bind_some, Option.bind_some]
  obtain ⟨c, hcc⟩ : ∃ c : Nat, cl k 0 10000 = c := ⟨(cl k 0 10000).toNat, by omega⟩
  rw [hcc] at hc ⊢
  clear hcc
  rw [wN c (by omega)]
  have up : b ≥ a → ∃ u : Nat, u < 18446744073709551616 ∧ (u : Int) = b - a ∧ Aside0 (IntKind.u64.wrap (IntKind.u64.wrap b - IntKind.u64.wrap a) = (u : Int)) := fun h => ⟨(b - a).toNat, by omega, by omega, ⟨by simp only [wM]; omega⟩⟩
  have dn : b < a → ∃ u : Nat, u < 18446744073709551616 ∧ (u : Int) = a - b ∧ Aside0 (IntKind.u64.wrap (IntKind.u64.wrap a - IntKind.u64.wrap b) = (u : Int)) := fun h => ⟨(a - b).toNat, by omega, by omega, ⟨by simp only [wM]; omega⟩⟩
  by_cases hab : b ≥ a
  · obtain ⟨u, hu, hue, eu⟩ := up hab
    rw [if_pos hab, eu.out, part_val u c hu (by omega), Option.bind_some]
    by_cases h0 : a = b
    · have hu0 : u = 0 := by omega
      subst hu0
      rw [if_pos h0]
      refine ⟨a, rfl, ?_⟩
      rw [Nat.zero_mul, if_neg (fun h => absurd h.2.1 (by decide))]
      exact congrArg some hself
    · rw [if_neg h0]
      by_cases hz : c = 0
      · subst hz
        refine ⟨a, rfl, ?_⟩
        rw [Nat.mul_zero, if_neg (fun h => absurd h.1 (by decide))]
        exact congrArg some hself
      · have hb : (((c : Nat) : Int) == 0) = false := by simpa using hz
        rw [hb]
        refine ⟨_, ?_, rfl⟩
        rw [units_Toward.j0, if_neg (by decide), if_neg (by omega), eu.out, j1_val 99 (by decide) a b u c hu (by omega), if_neg (by omega), step_eq _ u c (by omega) (by omega)]
  · obtain ⟨u, hu, hue, eu⟩ := dn (by omega)
    rw [if_neg hab, eu.out, part_val u c hu (by omega), Option.bind_some]
    rw [if_neg (show ¬ a = b by omega)]
    by_cases hz : c = 0
    · subst hz
      refine ⟨a, rfl, ?_⟩
      rw [Nat.mul_zero, if_neg (fun h => absurd h.1 (by decide))]
      have : wrap64 (IntKind.u64.wrap (IntKind.u64.wrap a - 0)) = a := by simp only [wM]; unfold wrap64; omega
      exact congrArg some this
    · have hb : (((c : Nat) : Int) == 0) = false := by simpa using hz
      rw [hb]
      refine ⟨_, ?_, rfl⟩
      rw [units_Toward.j0, if_neg (by decide), if_pos (by omega), eu.out, j1_val 99 (by decide) a b u c hu (by omega), if_pos (by omega), step_eq _ u c (by omega) (by omega)]
set_option maxHeartbeats 1000000 in
theorem moves_true {w : World} (hT : Tab w) (a b k : Int) (a0 : -9223372036854775808 ≤ a ∧ a ≤ 9223372036854775807) (b0 : -9223372036854775808 ≤ b ∧ b ≤ 9223372036854775807) (k0 : -9223372036854775808 ≤ k ∧ k ≤ 9223372036854775807) : Calls Tryd.prog 7 #[.int .i64 a, .int .i64 b, .int .i64 k] w (AllTrue w) := by
  obtain ⟨t, h1, h2⟩ := toward_eq a b k a0.1 a0.2 b0.1 b0.2
  have HT := Aside0.mk hT
  have H1 := Aside0.mk (fun w => units_Toward.calls 100 a b k t w h1)
  have H2 := Aside0.mk (fun w => sawmillref01_Toward.calls 100 a b k t w h2)
  have H3 := Aside0.mk (fun w => units_Clamp.calls a b k _ w (clamp_f a b k))
  have H4 := Aside0.mk (fun w => sawmillref01_Clamp.calls 100 a b k _ w (rclamp_f 100 (by decide) a b k))
  generalize cl a b k = c at H3 H4
  clear h1 h2 hT a0 b0
  go_enter Tryd.func7, Tryd.ntmps7
  go_wp2_with fail
  refine (H3.out _).mono ?_
  rintro _ w1 ⟨rfl, hb⟩
  have B1 := Aside0.mk (show Below w.heap.size w w1 by first | exact hb | exact hb.below)
  clear hb
  go_wp2_with fail
  refine (H4.out _).mono ?_
  rintro _ w2 ⟨rfl, hb⟩
  have B2 := Aside0.mk (below_step B1.out (by first | exact hb | exact hb.below))
  clear hb B1
  go_wp2_with fail
  refine (H1.out _).mono ?_
  rintro _ w3 ⟨rfl, hb⟩
  have B3 := Aside0.mk (below_step B2.out (by first | exact hb | exact hb.below))
  clear hb B2
  go_wp2_with fail
  refine (H2.out _).mono ?_
  rintro _ w4 ⟨rfl, hb⟩
  have B4 := Aside0.mk (below_step B3.out (by first | exact hb | exact hb.below))
  clear hb B3
  go_wp2_with fail
  refine (awake_any _ (tab_below HT.out B4.out)).mono ?_
  rintro _ w5 ⟨rfl, hb⟩
  have B5 := Aside0.mk (below_step B4.out hb)
  clear hb B4
  go_wp2_with fail
  go_ret
  exact ⟨rfl, B5.out⟩
end Go.Proofs.YtlfloandockgbaaDoor.Uni
