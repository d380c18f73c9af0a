-- Written for this claim by the kit's print program (print.py), which this session called for several functions at once
import Derived.Test.YtlfloandockgbaaDoorPAllx0
namespace Go.Proofs.YtlfloandockgbaaDoor.PAll
open Go.RowKit Go.Proofs.YtlfloandockgbaaDoor.Uni Go.Proofs.YtlfloandockgbaaDoorW.PrintWords Go.Proofs.YtlfloandockgbaaDoorW.PrintLast Go.Proofs.YtlfloandockgbaaDoorW.PrintMore
attribute [local go_sem] max2_int min2_int max_two min_two max_three min_three max_four min_four   -- for this text's walks alone
set_option linter.unusedVariables false
set_option linter.unusedSimpArgs false

/-! ### sawmillref01_scaled: function 32 -/
mutual
def sawmillref01_scaled.l0 : Nat → Int → Int → Int → Int → Int → Int → Option (Int × Int × Bool)
  | 0, _, _, _, _, _, _ => none
  | k + 1, x0, x1, x2, x9, x10, x11 => if x11 ≥ 0 then (if x9 > 4611686018427387904 then (some (0, 0, false)) else (if (IntKind.u64.wrap (2 * x10)) ≥ x2 then (sawmillref01_scaled.j1 k x0 x1 x2 (IntKind.u64.wrap ((IntKind.u64.wrap (2 * x9)) + 1)) (IntKind.u64.wrap ((IntKind.u64.wrap (2 * x10)) - x2)) x11) else (sawmillref01_scaled.j1 k x0 x1 x2 (IntKind.u64.wrap (2 * x9)) (IntKind.u64.wrap (2 * x10)) x11))) else (some (x9, x10, true))
def sawmillref01_scaled.j1 : Nat → Int → Int → Int → Int → Int → Int → Option (Int × Int × Bool)
  | 0, _, _, _, _, _, _ => none
  | k + 1, x0, x1, x2, x9, x10, x11 => if x9 > 9223372036854775808 then (some (0, 0, false)) else (if 0 ≤ (IntKind.u64.wrap (x11)) then (if (Int.tmod (shr .u64 x1 (IntKind.u64.wrap (x11))) 2) = 1 then (if x2 = 0 then (none) else (if (IntKind.u64.wrap (Int.tdiv x0 x2)) > (IntKind.u64.wrap (9223372036854775808 - x9)) then (some (0, 0, false)) else (if (IntKind.u64.wrap (x10 + (Int.tmod x0 x2))) ≥ x2 then (if (IntKind.u64.wrap ((IntKind.u64.wrap (x9 + (IntKind.u64.wrap (Int.tdiv x0 x2)))) + 1)) > 9223372036854775808 then (some (0, 0, false)) else (sawmillref01_scaled.l0 k x0 x1 x2 (IntKind.u64.wrap ((IntKind.u64.wrap (x9 + (IntKind.u64.wrap (Int.tdiv x0 x2)))) + 1)) (IntKind.u64.wrap ((IntKind.u64.wrap (x10 + (Int.tmod x0 x2))) - x2)) (wrap64 (x11 - 1)))) else (if (IntKind.u64.wrap (x9 + (IntKind.u64.wrap (Int.tdiv x0 x2)))) > 9223372036854775808 then (some (0, 0, false)) else (sawmillref01_scaled.l0 k x0 x1 x2 (IntKind.u64.wrap (x9 + (IntKind.u64.wrap (Int.tdiv x0 x2)))) (IntKind.u64.wrap (x10 + (Int.tmod x0 x2))) (wrap64 (x11 - 1))))))) else (sawmillref01_scaled.l0 k x0 x1 x2 x9 x10 (wrap64 (x11 - 1)))) else (none))
end
def sawmillref01_scaled.f (k : Nat) (a0 : Int) (a1 : Int) (a2 : Int) : Option (Int × Int × Bool) := sawmillref01_scaled.l0 k a0 a1 a2 0 0 63
theorem sawmillref01_scaled.mono_l : ∀ k, (∀ y0 y1 y2 y3 y4 y5, LeO (sawmillref01_scaled.l0 k y0 y1 y2 y3 y4 y5) (sawmillref01_scaled.l0 (k + 1) y0 y1 y2 y3 y4 y5)) ∧ (∀ y0 y1 y2 y3 y4 y5, LeO (sawmillref01_scaled.j1 k y0 y1 y2 y3 y4 y5) (sawmillref01_scaled.j1 (k + 1) y0 y1 y2 y3 y4 y5))
  | 0 => ⟨fun _ _ _ _ _ _ r h => by simp [sawmillref01_scaled.l0] at h, fun _ _ _ _ _ _ r h => by simp [sawmillref01_scaled.j1] at h⟩
  | k + 1 => by
    obtain ⟨ih0, ih1⟩ := sawmillref01_scaled.mono_l k
    refine ⟨?_, ?_⟩
    · intro y0 y1 y2 y3 y4 y5
      unfold sawmillref01_scaled.l0
      repeat' first
      | (with_reducible exact ih0 _ _ _ _ _ _)
      | (with_reducible exact ih1 _ _ _ _ _ _)
      | (with_reducible exact LeO.refl _)
      | (with_reducible exact LeO.none _)
      | (with_reducible refine LeO.ite ?_ ?_)
      | (with_reducible refine LeO.bind ?_ (fun _ => ?_))
      | exact ih0 _ _ _ _ _ _
      | exact ih1 _ _ _ _ _ _
      | exact LeO.none _
      | refine LeO.ite ?_ ?_
      | refine LeO.bind ?_ (fun _ => ?_)
    · intro y0 y1 y2 y3 y4 y5
      unfold sawmillref01_scaled.j1
      repeat' first
      | (with_reducible exact ih0 _ _ _ _ _ _)
      | (with_reducible exact ih1 _ _ _ _ _ _)
      | (with_reducible exact LeO.refl _)
      | (with_reducible exact LeO.none _)
      | (with_reducible refine LeO.ite ?_ ?_)
      | (with_reducible refine LeO.bind ?_ (fun _ => ?_))
      | exact ih0 _ _ _ _ _ _
      | exact ih1 _ _ _ _ _ _
      | exact LeO.none _
      | refine LeO.ite ?_ ?_
      | refine LeO.bind ?_ (fun _ => ?_)
theorem sawmillref01_scaled.mono : ∀ a0 a1 a2 k, LeO (sawmillref01_scaled.f k a0 a1 a2) (sawmillref01_scaled.f (k + 1) a0 a1 a2) := by
  intro a0 a1 a2 k
  obtain ⟨ih0, ih1⟩ := sawmillref01_scaled.mono_l k
  unfold sawmillref01_scaled.f
  repeat' first
      | (with_reducible exact ih0 _ _ _ _ _ _)
      | (with_reducible exact ih1 _ _ _ _ _ _)
      | (with_reducible exact LeO.refl _)
      | (with_reducible exact LeO.none _)
      | (with_reducible refine LeO.ite ?_ ?_)
      | (with_reducible refine LeO.bind ?_ (fun _ => ?_))
      | exact ih0 _ _ _ _ _ _
      | exact ih1 _ _ _ _ _ _
      | exact LeO.none _
      | refine LeO.ite ?_ ?_
      | refine LeO.bind ?_ (fun _ => ?_)
set_option maxHeartbeats 8000000 in
set_option maxRecDepth 100000 in
theorem sawmillref01_scaled.calls (k : Nat) (a0 : Int) (a1 : Int) (a2 : Int) (r1 : Int) (r2 : Int) (r3 : Bool) (w : World) (h : sawmillref01_scaled.f k a0 a1 a2 = some (r1, r2, r3)) :
    Calls Tryd.prog 32 #[.int .u64 a0, .int .u64 a1, .int .u64 a2] w fun e w' => e = .returned (.tuple #[.int .u64 r1, .int .u64 r2, .bool r3]) ∧ Drawn0 w w' := by
  have H : (sawmillref01_scaled.l0 k a0 a1 a2 0 0 63) = some (r1, r2, r3) := h
  clear h
  have H' := Aside0.mk H
  clear H
  go_enter Tryd.func32, Tryd.ntmps32
  go_wp2
  go_loopg [9, 10, 11] k (fun kq v9 v10 v11 w' => ∃ (x9_1 : Int) (x10_1 : Int) (x11_1 : Int), v9 = .int .u64 x9_1 ∧ v10 = .int .u64 x10_1 ∧ v11 = .int .i64 x11_1 ∧ Aside0 (sawmillref01_scaled.l0 kq a0 a1 a2 x9_1 x10_1 x11_1 = some (r1, r2, r3)) ∧ Aside0 (kq ≤ k) ∧ Drawn0 w w')
  case atStart => exact ⟨(0), (0), (63), (by first | rfl | (simp; done) | (simp [*]; done)), (by first | rfl | (simp; done) | (simp [*]; done)), (by first | rfl | (simp; done) | (simp [*]; done)), H', ⟨Nat.le_refl _⟩, by repeat (first | exact Drawn0.refl _ | apply Drawn0.step)⟩
  case round =>
    clear H'
    try clear p2
    try clear c3
    obtain ⟨x9_1, x10_1, x11_1, rfl, rfl, rfl, HA, HK1, ⟨m1, rfl⟩⟩ := hrel
    cases gk with
    | zero => exact absurd HA.out (by simp [sawmillref01_scaled.l0])
    | succ k1 =>
      have H := HA.out
      clear HA
      simp only [sawmillref01_scaled.l0] at H
      by_cases c4 : x11_1 ≥ 0
      · rw [if_pos c4] at H
        have c4b0 : decide (0 ≤ x11_1) = true := decide_eq_true c4
        clear c4
        by_cases c5 : x9_1 > 4611686018427387904
        · rw [if_pos c5] at H
          have c5b0 : decide (4611686018427387904 < x9_1) = true := decide_eq_true c5
          clear c5
          simp only [Option.some.injEq, Prod.mk.injEq] at H
          obtain ⟨rfl, rfl, rfl⟩ := H
          go_wp2
          go_ret3
          exact ⟨by first | rfl | (simp; done) | (simp [*]; done), by repeat (first | exact Drawn0.refl _ | apply Drawn0.step)⟩
        · rw [if_neg c5] at H
          have c5b0 : decide (4611686018427387904 < x9_1) = false := decide_eq_false c5
          clear c5
          have HC6 := Aside0.mk H
          clear H
          go_upto_if 24 with (fail)
          go_cut [9, 10] (fun v9 v10 wc => ∃ (kq : Nat) (x9_5 : Int) (x10_5 : Int), v9 = .int .u64 x9_5 ∧ v10 = .int .u64 x10_5 ∧ Aside0 (sawmillref01_scaled.j1 kq a0 a1 a2 x9_5 x10_5 x11_1 = some (r1, r2, r3)) ∧ Aside0 (kq ≤ k1) ∧ Drawn0 w wc)
          case first =>
            have H := HC6.out
            clear HC6
            by_cases c7 : (IntKind.u64.wrap (2 * x10_1)) ≥ a2
            · rw [if_pos c7] at H
              have c7b0 : decide (a2 ≤ (IntKind.u64.wrap (2 * x10_1))) = true := decide_eq_true c7
              clear c7
              (first | rw [c7b0] | (simp only [i64_w, i32_w]; rw [c7b0]) | skip)
              have H' := Aside0.mk H
              clear H
              go_wp2
              go_meet
              case rel => exact ⟨_, (IntKind.u64.wrap ((IntKind.u64.wrap (2 * x9_1)) + 1)), (IntKind.u64.wrap ((IntKind.u64.wrap (2 * x10_1)) - a2)), (by first | rfl | (simp; done) | (simp [*]; done)), (by first | rfl | (simp; done) | (simp [*]; done)), H', ⟨by have := HK1.out; first | omega | exact Nat.le_refl _⟩, by repeat (first | exact Drawn0.refl _ | apply Drawn0.step)⟩
            · rw [if_neg c7] at H
              have c7b0 : decide (a2 ≤ (IntKind.u64.wrap (2 * x10_1))) = false := decide_eq_false c7
              clear c7
              (first | rw [c7b0] | (simp only [i64_w, i32_w]; rw [c7b0]) | skip)
              have H' := Aside0.mk H
              clear H
              go_wp2
              go_meet
              case rel => exact ⟨_, (IntKind.u64.wrap (2 * x9_1)), (IntKind.u64.wrap (2 * x10_1)), (by first | rfl | (simp; done) | (simp [*]; done)), (by first | rfl | (simp; done) | (simp [*]; done)), H', ⟨by have := HK1.out; first | omega | exact Nat.le_refl _⟩, by repeat (first | exact Drawn0.refl _ | apply Drawn0.step)⟩
          case rest =>
            clear HC6
            try clear p2
            try clear c3
            try clear c4
            try clear c4b0
            try clear c5
            try clear c5b0
            try clear c7
            try clear c7b0
            try clear p2
            obtain ⟨kq, x9_5, x10_5, rfl, rfl, HA, HJ5, ⟨mc5, rfl⟩⟩ := hcut
            cases kq with
            | zero => exact absurd HA.out (by simp [sawmillref01_scaled.j1])
            | succ kj5 =>
              have H := HA.out
              clear HA
              simp only [sawmillref01_scaled.j1] at H
              by_cases c8 : x9_5 > 9223372036854775808
              · rw [if_pos c8] at H
                have c8b0 : decide (9223372036854775808 < x9_5) = true := decide_eq_true c8
                clear c8
                simp only [Option.some.injEq, Prod.mk.injEq] at H
                obtain ⟨rfl, rfl, rfl⟩ := H
                go_wp2
                go_ret3
                exact ⟨by first | rfl | (simp; done) | (simp [*]; done), by repeat (first | exact Drawn0.refl _ | apply Drawn0.step)⟩
              · rw [if_neg c8] at H
                have c8b0 : decide (9223372036854775808 < x9_5) = false := decide_eq_false c8
                clear c8
                obtain ⟨ji9, hji9⟩ : ∃ j_ : Int, (IntKind.u64.wrap (x11_1)) = j_ := ⟨_, rfl⟩
                replace H : (if 0 ≤ (ji9) then (if (Int.tmod (shr .u64 a1 (ji9)) 2) = 1 then (if a2 = 0 then (none) else (if (IntKind.u64.wrap (Int.tdiv a0 a2)) > (IntKind.u64.wrap (9223372036854775808 - x9_5)) then (some (0, 0, false)) else (if (IntKind.u64.wrap (x10_5 + (Int.tmod a0 a2))) ≥ a2 then (if (IntKind.u64.wrap ((IntKind.u64.wrap (x9_5 + (IntKind.u64.wrap (Int.tdiv a0 a2)))) + 1)) > 9223372036854775808 then (some (0, 0, false)) else (sawmillref01_scaled.l0 kj5 a0 a1 a2 (IntKind.u64.wrap ((IntKind.u64.wrap (x9_5 + (IntKind.u64.wrap (Int.tdiv a0 a2)))) + 1)) (IntKind.u64.wrap ((IntKind.u64.wrap (x10_5 + (Int.tmod a0 a2))) - a2)) (wrap64 (x11_1 - 1)))) else (if (IntKind.u64.wrap (x9_5 + (IntKind.u64.wrap (Int.tdiv a0 a2)))) > 9223372036854775808 then (some (0, 0, false)) else (sawmillref01_scaled.l0 kj5 a0 a1 a2 (IntKind.u64.wrap (x9_5 + (IntKind.u64.wrap (Int.tdiv a0 a2)))) (IntKind.u64.wrap (x10_5 + (Int.tmod a0 a2))) (wrap64 (x11_1 - 1))))))) else (sawmillref01_scaled.l0 kj5 a0 a1 a2 x9_5 x10_5 (wrap64 (x11_1 - 1)))) else (none)) = some (r1, r2, r3) := by first | (rw [hji9] at H; exact H) | (simp only [hji9] at H ⊢; exact H)
                by_cases c10 : 0 ≤ (ji9)
                · rw [if_pos c10] at H
                  have c10b0 := eq_true c10
                  have c10b1 : decide (0 ≤ (ji9)) = true := decide_eq_true c10
                  clear c10
                  obtain ⟨ji11, hji11⟩ : ∃ j_ : Int, (shr .u64 a1 (ji9)) = j_ := ⟨_, rfl⟩
                  replace H : (if (Int.tmod (ji11) 2) = 1 then (if a2 = 0 then (none) else (if (IntKind.u64.wrap (Int.tdiv a0 a2)) > (IntKind.u64.wrap (9223372036854775808 - x9_5)) then (some (0, 0, false)) else (if (IntKind.u64.wrap (x10_5 + (Int.tmod a0 a2))) ≥ a2 then (if (IntKind.u64.wrap ((IntKind.u64.wrap (x9_5 + (IntKind.u64.wrap (Int.tdiv a0 a2)))) + 1)) > 9223372036854775808 then (some (0, 0, false)) else (sawmillref01_scaled.l0 kj5 a0 a1 a2 (IntKind.u64.wrap ((IntKind.u64.wrap (x9_5 + (IntKind.u64.wrap (Int.tdiv a0 a2)))) + 1)) (IntKind.u64.wrap ((IntKind.u64.wrap (x10_5 + (Int.tmod a0 a2))) - a2)) (wrap64 (x11_1 - 1)))) else (if (IntKind.u64.wrap (x9_5 + (IntKind.u64.wrap (Int.tdiv a0 a2)))) > 9223372036854775808 then (some (0, 0, false)) else (sawmillref01_scaled.l0 kj5 a0 a1 a2 (IntKind.u64.wrap (x9_5 + (IntKind.u64.wrap (Int.tdiv a0 a2)))) (IntKind.u64.wrap (x10_5 + (Int.tmod a0 a2))) (wrap64 (x11_1 - 1))))))) else (sawmillref01_scaled.l0 kj5 a0 a1 a2 x9_5 x10_5 (wrap64 (x11_1 - 1)))) = some (r1, r2, r3) := by first | (rw [hji11] at H; exact H) | (simp only [hji11] at H ⊢; exact H)
                  have hji11_ : (a1 / 2 ^ min (ji9).toNat 64) = ji11 := hji11
                  have hji11z : (ji9) ≤ 64 → (a1 / 2 ^ (ji9).toNat) = ji11 := shr_small hji11
                  by_cases c12 : (Int.tmod (ji11) 2) = 1
                  · rw [if_pos c12] at H
                    have c12b0 : ((Int.tmod (ji11) 2) == 1) = true := beq_iff_eq.mpr c12
                    have c12b1 : ((Int.tmod (ji11) 2) != 1) = false := bne_eq_false_iff_eq.mpr c12
                    clear c12
                    by_cases c13 : a2 = 0
                    · rw [if_pos c13] at H
                      exact absurd H (by simp)
                    · rw [if_neg c13] at H
                      have c13b0 : (a2 == 0) = false := beq_eq_false_iff_ne.mpr c13
                      have c13b1 : (a2 != 0) = true := bne_iff_ne.mpr c13
                      by_cases c14 : (IntKind.u64.wrap (Int.tdiv a0 a2)) > (IntKind.u64.wrap (9223372036854775808 - x9_5))
                      · rw [if_pos c14] at H
                        have c14b0 : decide ((IntKind.u64.wrap (9223372036854775808 - x9_5)) < (IntKind.u64.wrap (Int.tdiv a0 a2))) = true := decide_eq_true c14
                        clear c14
                        simp only [Option.some.injEq, Prod.mk.injEq] at H
                        obtain ⟨rfl, rfl, rfl⟩ := H
                        go_wp2
                        go_ret3
                        exact ⟨by first | rfl | (simp; done) | (simp only [← hji9, ← hji11] <;> (first | rfl | simp)) | (simp [*]; done), by repeat (first | exact Drawn0.refl _ | apply Drawn0.step)⟩
                      · rw [if_neg c14] at H
                        have c14b0 : decide ((IntKind.u64.wrap (9223372036854775808 - x9_5)) < (IntKind.u64.wrap (Int.tdiv a0 a2))) = false := decide_eq_false c14
                        clear c14
                        by_cases c15 : (IntKind.u64.wrap (x10_5 + (Int.tmod a0 a2))) ≥ a2
                        · rw [if_pos c15] at H
                          have c15b0 : decide (a2 ≤ (IntKind.u64.wrap (x10_5 + (Int.tmod a0 a2)))) = true := decide_eq_true c15
                          clear c15
                          by_cases c16 : (IntKind.u64.wrap ((IntKind.u64.wrap (x9_5 + (IntKind.u64.wrap (Int.tdiv a0 a2)))) + 1)) > 9223372036854775808
                          · rw [if_pos c16] at H
                            have c16b0 : decide (9223372036854775808 < (IntKind.u64.wrap ((IntKind.u64.wrap (x9_5 + (IntKind.u64.wrap (Int.tdiv a0 a2)))) + 1))) = true := decide_eq_true c16
                            clear c16
                            simp only [Option.some.injEq, Prod.mk.injEq] at H
                            obtain ⟨rfl, rfl, rfl⟩ := H
                            go_wp2
                            go_ret3
                            exact ⟨by first | rfl | (simp; done) | (simp only [← hji9, ← hji11] <;> (first | rfl | simp)) | (simp [*]; done), by repeat (first | exact Drawn0.refl _ | apply Drawn0.step)⟩
                          · rw [if_neg c16] at H
                            have c16b0 : decide (9223372036854775808 < (IntKind.u64.wrap ((IntKind.u64.wrap (x9_5 + (IntKind.u64.wrap (Int.tdiv a0 a2)))) + 1))) = false := decide_eq_false c16
                            clear c16
                            have H' := Aside0.mk H
                            clear H
                            go_wp2
                            go_roundg kj5
                            case measure => have := HK1.out; have := HJ5.out; omega
                            case rel => exact ⟨(IntKind.u64.wrap ((IntKind.u64.wrap (x9_5 + (IntKind.u64.wrap (Int.tdiv a0 a2)))) + 1)), (IntKind.u64.wrap ((IntKind.u64.wrap (x10_5 + (Int.tmod a0 a2))) - a2)), (wrap64 (x11_1 - 1)), (by first | rfl | (simp; done) | (simp [*]; done)), (by first | rfl | (simp; done) | (simp [*]; done)), (by first | rfl | (simp; done) | (simp [*]; done)), H', ⟨by have := HK1.out; have := HJ5.out; omega⟩, by repeat (first | exact Drawn0.refl _ | apply Drawn0.step)⟩
                        · rw [if_neg c15] at H
                          have c15b0 : decide (a2 ≤ (IntKind.u64.wrap (x10_5 + (Int.tmod a0 a2)))) = false := decide_eq_false c15
                          clear c15
                          by_cases c17 : (IntKind.u64.wrap (x9_5 + (IntKind.u64.wrap (Int.tdiv a0 a2)))) > 9223372036854775808
                          · rw [if_pos c17] at H
                            have c17b0 : decide (9223372036854775808 < (IntKind.u64.wrap (x9_5 + (IntKind.u64.wrap (Int.tdiv a0 a2))))) = true := decide_eq_true c17
                            clear c17
                            simp only [Option.some.injEq, Prod.mk.injEq] at H
                            obtain ⟨rfl, rfl, rfl⟩ := H
                            go_wp2
                            go_ret3
                            exact ⟨by first | rfl | (simp; done) | (simp only [← hji9, ← hji11] <;> (first | rfl | simp)) | (simp [*]; done), by repeat (first | exact Drawn0.refl _ | apply Drawn0.step)⟩
                          · rw [if_neg c17] at H
                            have c17b0 : decide (9223372036854775808 < (IntKind.u64.wrap (x9_5 + (IntKind.u64.wrap (Int.tdiv a0 a2))))) = false := decide_eq_false c17
                            clear c17
                            have H' := Aside0.mk H
                            clear H
                            go_wp2
                            go_roundg kj5
                            case measure => have := HK1.out; have := HJ5.out; omega
                            case rel => exact ⟨(IntKind.u64.wrap (x9_5 + (IntKind.u64.wrap (Int.tdiv a0 a2)))), (IntKind.u64.wrap (x10_5 + (Int.tmod a0 a2))), (wrap64 (x11_1 - 1)), (by first | rfl | (simp; done) | (simp [*]; done)), (by first | rfl | (simp; done) | (simp [*]; done)), (by first | rfl | (simp; done) | (simp [*]; done)), H', ⟨by have := HK1.out; have := HJ5.out; omega⟩, by repeat (first | exact Drawn0.refl _ | apply Drawn0.step)⟩
                  · rw [if_neg c12] at H
                    have c12b0 : ((Int.tmod (ji11) 2) == 1) = false := beq_eq_false_iff_ne.mpr c12
                    have c12b1 : ((Int.tmod (ji11) 2) != 1) = true := bne_iff_ne.mpr c12
                    have H' := Aside0.mk H
                    clear H
                    go_wp2
                    go_roundg kj5
                    case measure => have := HK1.out; have := HJ5.out; omega
                    case rel => exact ⟨(x9_5), (x10_5), (wrap64 (x11_1 - 1)), (by first | rfl | (simp; done) | (simp [*]; done)), (by first | rfl | (simp; done) | (simp [*]; done)), (by first | rfl | (simp; done) | (simp [*]; done)), H', ⟨by have := HK1.out; have := HJ5.out; omega⟩, by repeat (first | exact Drawn0.refl _ | apply Drawn0.step)⟩
                · rw [if_neg c10] at H
                  exact absurd H (by simp)
      · rw [if_neg c4] at H
        have c4b0 : decide (0 ≤ x11_1) = false := decide_eq_false c4
        clear c4
        simp only [Option.some.injEq, Prod.mk.injEq] at H
        obtain ⟨rfl, rfl, rfl⟩ := H
        go_wp2
        go_ret3
        exact ⟨by first | rfl | (simp; done) | (simp [*]; done), by repeat (first | exact Drawn0.refl _ | apply Drawn0.step)⟩

/-! ### sawmillref01_size: function 33 -/
def sawmillref01_size.f (a0 : Int) : Option (Int) := if a0 < 0 then (some (IntKind.u64.wrap ((IntKind.u64.wrap (wrap64 (-(wrap64 (a0 + 1))))) + 1))) else (some (IntKind.u64.wrap (a0)))
set_option maxHeartbeats 8000000 in
set_option maxRecDepth 100000 in
theorem sawmillref01_size.calls (a0 : Int) (r : Int) (w : World) (h : sawmillref01_size.f a0 = some r) :
    Calls Tryd.prog 33 #[.int .i64 a0] w fun e w' => e = .returned (.int .u64 r) ∧ Drawn0 w w' := by
  have H : (if a0 < 0 then (some (IntKind.u64.wrap ((IntKind.u64.wrap (wrap64 (-(wrap64 (a0 + 1))))) + 1))) else (some (IntKind.u64.wrap (a0)))) = some r := h
  clear h
  by_cases c2 : a0 < 0
  · rw [if_pos c2] at H
    have c2b0 : decide (a0 < 0) = true := decide_eq_true c2
    clear c2
    obtain rfl := Option.some.inj H
    go_enter Tryd.func33, Tryd.ntmps33
    go_wp2
    go_ret
    exact ⟨by first | rfl | (simp; done) | (simp [*]; done), by repeat (first | exact Drawn0.refl _ | apply Drawn0.step)⟩
  · rw [if_neg c2] at H
    have c2b0 : decide (a0 < 0) = false := decide_eq_false c2
    clear c2
    obtain rfl := Option.some.inj H
    go_enter Tryd.func33, Tryd.ntmps33
    go_wp2
    go_ret
    exact ⟨by first | rfl | (simp; done) | (simp [*]; done), by repeat (first | exact Drawn0.refl _ | apply Drawn0.step)⟩

/-! ### sawmillref01_MulDiv: function 19 -/
def sawmillref01_MulDiv.j0 : Nat → Int → Int → Bool → Option (Int × Int)
  | 0, _, _, _ => none
  | k + 1, x8, x9, x38 => if x38 = true then (if x8 > 9223372036854775807 then (some (0, 9)) else (some (wrap64 (x8), 0))) else (if x9 > 0 then (if (IntKind.u64.wrap (x8 + 1)) > 9223372036854775808 then (some (0, 9)) else (some (wrap64 ((wrap64 (-(wrap64 (IntKind.u64.wrap ((IntKind.u64.wrap (x8 + 1)) - 1))))) - 1), 0))) else (if x8 > 9223372036854775808 then (some (0, 9)) else (some (wrap64 ((wrap64 (-(wrap64 (IntKind.u64.wrap (x8 - 1))))) - 1), 0))))
def sawmillref01_MulDiv.f (k : Nat) (a0 : Int) (a1 : Int) (a2 : Int) : Option (Int × Int) := if a2 ≤ 0 then (some (0, 9)) else ((sawmillref01_size.f a0).bind fun t159 => ((sawmillref01_size.f a1).bind fun t160 => ((sawmillref01_scaled.f k t159 t160 (IntKind.u64.wrap (a2))).bind fun bt161 => (if bt161.2.2 = true then (if ((decide (a0 < 0)) == (decide (a1 < 0))) = true then (sawmillref01_MulDiv.j0 k bt161.1 bt161.2.1 true) else (if bt161.1 = 0 then (sawmillref01_MulDiv.j0 k bt161.1 bt161.2.1 (bt161.2.1 == 0)) else (sawmillref01_MulDiv.j0 k bt161.1 bt161.2.1 false))) else (some (0, 9))))))
theorem sawmillref01_MulDiv.mono_l : ∀ k, (∀ y0 y1 y2, LeO (sawmillref01_MulDiv.j0 k y0 y1 y2) (sawmillref01_MulDiv.j0 (k + 1) y0 y1 y2))
  | 0 => fun _ _ _ r h => by simp [sawmillref01_MulDiv.j0] at h
  | k + 1 => by
    have ih0 := sawmillref01_MulDiv.mono_l k
    · intro y0 y1 y2
      unfold sawmillref01_MulDiv.j0
      repeat' first
      | (with_reducible exact ih0 _ _ _)
      | (with_reducible exact sawmillref01_scaled.mono _ _ _ _)
      | (with_reducible exact LeO.refl _)
      | (with_reducible exact LeO.none _)
      | (with_reducible refine LeO.ite ?_ ?_)
      | (with_reducible refine LeO.bind ?_ (fun _ => ?_))
      | exact ih0 _ _ _
      | exact sawmillref01_scaled.mono _ _ _ _
      | exact LeO.none _
      | refine LeO.ite ?_ ?_
      | refine LeO.bind ?_ (fun _ => ?_)
theorem sawmillref01_MulDiv.mono : ∀ a0 a1 a2 k, LeO (sawmillref01_MulDiv.f k a0 a1 a2) (sawmillref01_MulDiv.f (k + 1) a0 a1 a2) := by
  intro a0 a1 a2 k
  have ih0 := sawmillref01_MulDiv.mono_l k
  unfold sawmillref01_MulDiv.f
  repeat' first
      | (with_reducible exact ih0 _ _ _)
      | (with_reducible exact sawmillref01_scaled.mono _ _ _ _)
      | (with_reducible exact LeO.refl _)
      | (with_reducible exact LeO.none _)
      | (with_reducible refine LeO.ite ?_ ?_)
      | (with_reducible refine LeO.bind ?_ (fun _ => ?_))
      | exact ih0 _ _ _
      | exact sawmillref01_scaled.mono _ _ _ _
      | exact LeO.none _
      | refine LeO.ite ?_ ?_
      | refine LeO.bind ?_ (fun _ => ?_)
set_option maxHeartbeats 8000000 in
set_option maxRecDepth 100000 in
theorem sawmillref01_MulDiv.calls (k : Nat) (a0 : Int) (a1 : Int) (a2 : Int) (r1 : Int) (r2 : Int) (w : World) (h : sawmillref01_MulDiv.f k a0 a1 a2 = some (r1, r2)) :
    Calls Tryd.prog 19 #[.int .i64 a0, .int .i64 a1, .int .i64 a2] w fun e w' => e = .returned (.tuple #[.int .i64 r1, .int .i64 r2]) ∧ Drawn0 w w' := by
  have H : (if a2 ≤ 0 then (some (0, 9)) else ((sawmillref01_size.f a0).bind fun t159 => ((sawmillref01_size.f a1).bind fun t160 => ((sawmillref01_scaled.f k t159 t160 (IntKind.u64.wrap (a2))).bind fun bt161 => (if bt161.2.2 = true then (if ((decide (a0 < 0)) == (decide (a1 < 0))) = true then (sawmillref01_MulDiv.j0 k bt161.1 bt161.2.1 true) else (if bt161.1 = 0 then (sawmillref01_MulDiv.j0 k bt161.1 bt161.2.1 (bt161.2.1 == 0)) else (sawmillref01_MulDiv.j0 k bt161.1 bt161.2.1 false))) else (some (0, 9))))))) = some (r1, r2) := h
  clear h
  by_cases c4 : a2 ≤ 0
  · rw [if_pos c4] at H
    have c4b0 : decide (a2 ≤ 0) = true := decide_eq_true c4
    clear c4
    simp only [Option.some.injEq, Prod.mk.injEq] at H
    obtain ⟨rfl, rfl⟩ := H
    go_enter Tryd.func19, Tryd.ntmps19
    go_wp2
    go_ret2
    exact ⟨by first | rfl | (simp; done) | (simp [*]; done), by repeat (first | exact Drawn0.refl _ | apply Drawn0.step)⟩
  · rw [if_neg c4] at H
    have c4b0 : decide (a2 ≤ 0) = false := decide_eq_false c4
    clear c4
    replace H := Option.bind_eq_some_iff.mp H
    obtain ⟨t159, A50, H⟩ := H
    replace H : ((sawmillref01_size.f a1).bind fun t160 => ((sawmillref01_scaled.f k t159 t160 (IntKind.u64.wrap (a2))).bind fun bt161 => (if bt161.2.2 = true then (if ((decide (a0 < 0)) == (decide (a1 < 0))) = true then (sawmillref01_MulDiv.j0 k bt161.1 bt161.2.1 true) else (if bt161.1 = 0 then (sawmillref01_MulDiv.j0 k bt161.1 bt161.2.1 (bt161.2.1 == 0)) else (sawmillref01_MulDiv.j0 k bt161.1 bt161.2.1 false))) else (some (0, 9))))) = some (r1, r2) := H
    have A5 := Aside0.mk A50
    clear A50
    replace H := Option.bind_eq_some_iff.mp H
    obtain ⟨t160, A60, H⟩ := H
    replace H : ((sawmillref01_scaled.f k t159 t160 (IntKind.u64.wrap (a2))).bind fun bt161 => (if bt161.2.2 = true then (if ((decide (a0 < 0)) == (decide (a1 < 0))) = true then (sawmillref01_MulDiv.j0 k bt161.1 bt161.2.1 true) else (if bt161.1 = 0 then (sawmillref01_MulDiv.j0 k bt161.1 bt161.2.1 (bt161.2.1 == 0)) else (sawmillref01_MulDiv.j0 k bt161.1 bt161.2.1 false))) else (some (0, 9)))) = some (r1, r2) := H
    have A6 := Aside0.mk A60
    clear A60
    replace H := Option.bind_eq_some_iff.mp H
    obtain ⟨⟨t161, t162, t163⟩, A70, H⟩ := H
    replace H : (if t163 = true then (if ((decide (a0 < 0)) == (decide (a1 < 0))) = true then (sawmillref01_MulDiv.j0 k t161 t162 true) else (if t161 = 0 then (sawmillref01_MulDiv.j0 k t161 t162 (t162 == 0)) else (sawmillref01_MulDiv.j0 k t161 t162 false))) else (some (0, 9))) = some (r1, r2) := H
    have A7 := Aside0.mk A70
    clear A70
    by_cases c8 : t163 = true
    · subst c8
      have H1 : (if ((decide (a0 < 0)) == (decide (a1 < 0))) = true then (sawmillref01_MulDiv.j0 k t161 t162 true) else (if t161 = 0 then (sawmillref01_MulDiv.j0 k t161 t162 (t162 == 0)) else (sawmillref01_MulDiv.j0 k t161 t162 false))) = some (r1, r2) := by rw [if_pos rfl] at H; exact H
      clear H
      have H := H1
      clear H1
      have HC9 := Aside0.mk H
      clear H
      go_enter Tryd.func19, Tryd.ntmps19
      go_upto_region 6 with (first | ((with_reducible refine gate_callee (f := 33) rfl ?_); refine goesL_ (some 15) rfl rfl Tryd.func33 (by kernel_rfl) rfl #[.int .i64 a0] rfl (by (try simp only [List.map_toArray, List.map_cons, List.map_nil]); first | done | rfl | (simp only [List.length_drop, List.length_take]; rfl)) ?_; (with_reducible refine (sawmillref01_size.calls a0 t159 _ A5.out).mono ?_); rintro e w' ⟨rfl, ⟨nd, rfl⟩⟩; refine ⟨_, rfl, ?_⟩) | ((with_reducible refine gate_callee (f := 33) rfl ?_); refine goesL_ (some 17) rfl rfl Tryd.func33 (by kernel_rfl) rfl #[.int .i64 a1] rfl (by (try simp only [List.map_toArray, List.map_cons, List.map_nil]); first | done | rfl | (simp only [List.length_drop, List.length_take]; rfl)) ?_; (with_reducible refine (sawmillref01_size.calls a1 t160 _ A6.out).mono ?_); rintro e w' ⟨rfl, ⟨nd, rfl⟩⟩; refine ⟨_, rfl, ?_⟩) | ((with_reducible refine gate_callee (f := 32) rfl ?_); refine goesL_ (some 20) rfl rfl Tryd.func32 (by kernel_rfl) rfl #[.int .u64 t159, .int .u64 t160, .int .u64 (IntKind.u64.wrap (a2))] rfl (by (try simp only [List.map_toArray, List.map_cons, List.map_nil]); first | done | rfl | (simp only [List.length_drop, List.length_take]; rfl)) ?_; (with_reducible refine (sawmillref01_scaled.calls k t159 t160 (IntKind.u64.wrap (a2)) t161 t162 true _ A7.out).mono ?_); rintro e w' ⟨rfl, ⟨nd, rfl⟩⟩; refine ⟨_, rfl, ?_⟩))
      (try simp only [Act.put, List.setIfInBounds_toArray, List.set_cons_zero, List.set_cons_succ])
      go_cut [38] (fun v38 wc => ∃ (kq : Nat) (x38_8 : Bool), v38 = .bool x38_8 ∧ Aside0 (sawmillref01_MulDiv.j0 kq t161 t162 x38_8 = some (r1, r2)) ∧ Aside0 (kq ≤ k) ∧ Drawn0 w wc)
      case first =>
        have H := HC9.out
        clear HC9
        by_cases c10 : ((decide (a0 < 0)) == (decide (a1 < 0))) = true
        · rw [if_pos c10] at H
          have c10b0 : ((decide (a0 < 0)) == (decide (a1 < 0))) = true := c10
          (try (have c10b1 : decide ((decide (a0 < 0)) = (decide (a1 < 0))) = true := by simpa using c10))
          (try (have c10b2 : ((decide (a0 < 0)) == (decide (a1 < 0))) = true := by simpa using c10))
          clear c10
          (first | rw [c10b0] | (simp only [i64_w, i32_w]; rw [c10b0]) | skip)
          have H' := Aside0.mk H
          clear H
          go_wp2
          go_meet
          case rel => exact ⟨_, (true), (by first | rfl | (simp; done) | (simp [*]; done)), H', ⟨by first | omega | exact Nat.le_refl _⟩, by repeat (first | exact Drawn0.refl _ | apply Drawn0.step)⟩
        · rw [if_neg c10] at H
          have c10b0 : ((decide (a0 < 0)) == (decide (a1 < 0))) = false := by simpa using c10
          (try (have c10b1 : decide ((decide (a0 < 0)) = (decide (a1 < 0))) = false := by simpa using c10))
          (try (have c10b2 : ((decide (a0 < 0)) == (decide (a1 < 0))) = false := by simpa using c10))
          (try (have c10b3 : ¬ ((decide (a0 < 0)) = (decide (a1 < 0))) := by simpa using c10))
          clear c10
          (first | rw [c10b0] | (simp only [i64_w, i32_w]; rw [c10b0]) | skip)
          by_cases c11 : t161 = 0
          · rw [if_pos c11] at H
            have c11b0 : (t161 == 0) = true := beq_iff_eq.mpr c11
            have c11b1 : (t161 != 0) = false := bne_eq_false_iff_eq.mpr c11
            clear c11
            have H' := Aside0.mk H
            clear H
            go_wp2
            go_meet
            case rel => exact ⟨_, ((t162 == 0)), (by first | rfl | (simp; done) | (simp [*]; done)), H', ⟨by first | omega | exact Nat.le_refl _⟩, by repeat (first | exact Drawn0.refl _ | apply Drawn0.step)⟩
          · rw [if_neg c11] at H
            have c11b0 : (t161 == 0) = false := beq_eq_false_iff_ne.mpr c11
            have c11b1 : (t161 != 0) = true := bne_iff_ne.mpr c11
            have H' := Aside0.mk H
            clear H
            go_wp2
            go_meet
            case rel => exact ⟨_, (false), (by first | rfl | (simp; done) | (simp [*]; done)), H', ⟨by first | omega | exact Nat.le_refl _⟩, by repeat (first | exact Drawn0.refl _ | apply Drawn0.step)⟩
      case rest =>
        clear HC9
        try clear c1
        try clear p2
        try clear c3
        try clear c4
        try clear c4b0
        try clear c8
        try clear c10
        try clear c10b0
        try clear c10b1
        try clear c10b2
        try clear c11
        try clear c11b0
        try clear c11b1
        obtain ⟨kq, x38_8, rfl, HA, HJ8, ⟨mc8, rfl⟩⟩ := hcut
        cases kq with
        | zero => exact absurd HA.out (by simp [sawmillref01_MulDiv.j0])
        | succ kj8 =>
          have H := HA.out
          clear HA
          simp only [sawmillref01_MulDiv.j0] at H
          by_cases c12 : x38_8 = true
          · subst c12
            have H1 : (if t161 > 9223372036854775807 then (some (0, 9)) else (some (wrap64 (t161), 0))) = some (r1, r2) := by rw [if_pos rfl] at H; exact H
            clear H
            have H := H1
            clear H1
            by_cases c13 : t161 > 9223372036854775807
            · rw [if_pos c13] at H
              have c13b0 : decide (9223372036854775807 < t161) = true := decide_eq_true c13
              clear c13
              simp only [Option.some.injEq, Prod.mk.injEq] at H
              obtain ⟨rfl, rfl⟩ := H
              go_wp2
              go_ret2
              exact ⟨by first | rfl | (simp; done) | (simp [*]; done), by repeat (first | exact Drawn0.refl _ | apply Drawn0.step)⟩
            · rw [if_neg c13] at H
              have c13b0 : decide (9223372036854775807 < t161) = false := decide_eq_false c13
              clear c13
              simp only [Option.some.injEq, Prod.mk.injEq] at H
              obtain ⟨rfl, rfl⟩ := H
              go_wp2
              go_ret2
              exact ⟨by first | rfl | (simp; done) | (simp [*]; done), by repeat (first | exact Drawn0.refl _ | apply Drawn0.step)⟩
          · replace c12 := Bool.eq_false_iff.mpr c12
            subst c12
            have H1 : (if t162 > 0 then (if (IntKind.u64.wrap (t161 + 1)) > 9223372036854775808 then (some (0, 9)) else (some (wrap64 ((wrap64 (-(wrap64 (IntKind.u64.wrap ((IntKind.u64.wrap (t161 + 1)) - 1))))) - 1), 0))) else (if t161 > 9223372036854775808 then (some (0, 9)) else (some (wrap64 ((wrap64 (-(wrap64 (IntKind.u64.wrap (t161 - 1))))) - 1), 0)))) = some (r1, r2) := by rw [if_neg (show ¬ (false = true) by decide)] at H; exact H
            clear H
            have H := H1
            clear H1
            by_cases c14 : t162 > 0
            · rw [if_pos c14] at H
              have c14b0 : decide (0 < t162) = true := decide_eq_true c14
              clear c14
              by_cases c15 : (IntKind.u64.wrap (t161 + 1)) > 9223372036854775808
              · rw [if_pos c15] at H
                have c15b0 : decide (9223372036854775808 < (IntKind.u64.wrap (t161 + 1))) = true := decide_eq_true c15
                clear c15
                simp only [Option.some.injEq, Prod.mk.injEq] at H
                obtain ⟨rfl, rfl⟩ := H
                go_wp2
                go_ret2
                exact ⟨by first | rfl | (simp; done) | (simp [*]; done), by repeat (first | exact Drawn0.refl _ | apply Drawn0.step)⟩
              · rw [if_neg c15] at H
                have c15b0 : decide (9223372036854775808 < (IntKind.u64.wrap (t161 + 1))) = false := decide_eq_false c15
                clear c15
                simp only [Option.some.injEq, Prod.mk.injEq] at H
                obtain ⟨rfl, rfl⟩ := H
                go_wp2
                go_ret2
                exact ⟨by first | rfl | (simp; done) | (simp [*]; done), by repeat (first | exact Drawn0.refl _ | apply Drawn0.step)⟩
            · rw [if_neg c14] at H
              have c14b0 : decide (0 < t162) = false := decide_eq_false c14
              clear c14
              by_cases c16 : t161 > 9223372036854775808
              · rw [if_pos c16] at H
                have c16b0 : decide (9223372036854775808 < t161) = true := decide_eq_true c16
                clear c16
                simp only [Option.some.injEq, Prod.mk.injEq] at H
                obtain ⟨rfl, rfl⟩ := H
                go_wp2
                go_ret2
                exact ⟨by first | rfl | (simp; done) | (simp [*]; done), by repeat (first | exact Drawn0.refl _ | apply Drawn0.step)⟩
              · rw [if_neg c16] at H
                have c16b0 : decide (9223372036854775808 < t161) = false := decide_eq_false c16
                clear c16
                simp only [Option.some.injEq, Prod.mk.injEq] at H
                obtain ⟨rfl, rfl⟩ := H
                go_wp2
                go_ret2
                exact ⟨by first | rfl | (simp; done) | (simp [*]; done), by repeat (first | exact Drawn0.refl _ | apply Drawn0.step)⟩
    · replace c8 := Bool.eq_false_iff.mpr c8
      subst c8
      have H1 : (some (0, 9)) = some (r1, r2) := by rw [if_neg (show ¬ (false = true) by decide)] at H; exact H
      clear H
      have H := H1
      clear H1
      simp only [Option.some.injEq, Prod.mk.injEq] at H
      obtain ⟨rfl, rfl⟩ := H
      go_enter Tryd.func19, Tryd.ntmps19
      go_wp2_with (first | ((with_reducible refine gate_callee (f := 33) rfl ?_); refine goesL_ (some 15) rfl rfl Tryd.func33 (by kernel_rfl) rfl #[.int .i64 a0] rfl (by (try simp only [List.map_toArray, List.map_cons, List.map_nil]); first | done | rfl | (simp only [List.length_drop, List.length_take]; rfl)) ?_; (with_reducible refine (sawmillref01_size.calls a0 t159 _ A5.out).mono ?_); rintro e w' ⟨rfl, ⟨nd, rfl⟩⟩; refine ⟨_, rfl, ?_⟩) | ((with_reducible refine gate_callee (f := 33) rfl ?_); refine goesL_ (some 17) rfl rfl Tryd.func33 (by kernel_rfl) rfl #[.int .i64 a1] rfl (by (try simp only [List.map_toArray, List.map_cons, List.map_nil]); first | done | rfl | (simp only [List.length_drop, List.length_take]; rfl)) ?_; (with_reducible refine (sawmillref01_size.calls a1 t160 _ A6.out).mono ?_); rintro e w' ⟨rfl, ⟨nd, rfl⟩⟩; refine ⟨_, rfl, ?_⟩) | ((with_reducible refine gate_callee (f := 32) rfl ?_); refine goesL_ (some 20) rfl rfl Tryd.func32 (by kernel_rfl) rfl #[.int .u64 t159, .int .u64 t160, .int .u64 (IntKind.u64.wrap (a2))] rfl (by (try simp only [List.map_toArray, List.map_cons, List.map_nil]); first | done | rfl | (simp only [List.length_drop, List.length_take]; rfl)) ?_; (with_reducible refine (sawmillref01_scaled.calls k t159 t160 (IntKind.u64.wrap (a2)) t161 t162 false _ A7.out).mono ?_); rintro e w' ⟨rfl, ⟨nd, rfl⟩⟩; refine ⟨_, rfl, ?_⟩))
      go_ret2
      exact ⟨by first | rfl | (simp; done) | (simp [*]; done), by repeat (first | exact Drawn0.refl _ | apply Drawn0.step)⟩

-- NOT PRINTED: function 6 (sawmilllaw01_UnitsScales)

/-! ### sawmillref01_Clamp: function 21 -/
def sawmillref01_Clamp.j0 : Nat → Int → Int → Int → Bool → Option (Int)
  | 0, _, _, _, _ => none
  | k + 1, x0, x1, x2, x14 => if x14 = true then (some x1) else (if x0 > x2 then (some x2) else (some x0))
def sawmillref01_Clamp.f (k : Nat) (a0 : Int) (a1 : Int) (a2 : Int) : Option (Int) := if a1 > a2 then (sawmillref01_Clamp.j0 k a0 a1 a2 true) else (sawmillref01_Clamp.j0 k a0 a1 a2 (decide (a0 < a1)))
theorem sawmillref01_Clamp.mono_l : ∀ k, (∀ y0 y1 y2 y3, LeO (sawmillref01_Clamp.j0 k y0 y1 y2 y3) (sawmillref01_Clamp.j0 (k + 1) y0 y1 y2 y3))
  | 0 => fun _ _ _ _ r h => by simp [sawmillref01_Clamp.j0] at h
  | k + 1 => by
    have ih0 := sawmillref01_Clamp.mono_l k
    · intro y0 y1 y2 y3
      unfold sawmillref01_Clamp.j0
      repeat' first
      | (with_reducible exact ih0 _ _ _ _)
      | (with_reducible exact LeO.refl _)
      | (with_reducible exact LeO.none _)
      | (with_reducible refine LeO.ite ?_ ?_)
      | (with_reducible refine LeO.bind ?_ (fun _ => ?_))
      | exact ih0 _ _ _ _
      | exact LeO.none _
      | refine LeO.ite ?_ ?_
      | refine LeO.bind ?_ (fun _ => ?_)
theorem sawmillref01_Clamp.mono : ∀ a0 a1 a2 k, LeO (sawmillref01_Clamp.f k a0 a1 a2) (sawmillref01_Clamp.f (k + 1) a0 a1 a2) := by
  intro a0 a1 a2 k
  have ih0 := sawmillref01_Clamp.mono_l k
  unfold sawmillref01_Clamp.f
  repeat' first
      | (with_reducible exact ih0 _ _ _ _)
      | (with_reducible exact LeO.refl _)
      | (with_reducible exact LeO.none _)
      | (with_reducible refine LeO.ite ?_ ?_)
      | (with_reducible refine LeO.bind ?_ (fun _ => ?_))
      | exact ih0 _ _ _ _
      | exact LeO.none _
      | refine LeO.ite ?_ ?_
      | refine LeO.bind ?_ (fun _ => ?_)
set_option maxHeartbeats 8000000 in
set_option maxRecDepth 100000 in
theorem sawmillref01_Clamp.calls (k : Nat) (a0 : Int) (a1 : Int) (a2 : Int) (r : Int) (w : World) (h : sawmillref01_Clamp.f k a0 a1 a2 = some r) :
    Calls Tryd.prog 21 #[.int .i64 a0, .int .i64 a1, .int .i64 a2] w fun e w' => e = .returned (.int .i64 r) ∧ Drawn0 w w' := by
  have H : (if a1 > a2 then (sawmillref01_Clamp.j0 k a0 a1 a2 true) else (sawmillref01_Clamp.j0 k a0 a1 a2 (decide (a0 < a1)))) = some r := h
  clear h
  have HC4 := Aside0.mk H
  clear H
  go_enter Tryd.func21, Tryd.ntmps21
  go_upto_region 1 with (fail)
  go_cut [14] (fun v14 wc => ∃ (kq : Nat) (x14_3 : Bool), v14 = .bool x14_3 ∧ Aside0 (sawmillref01_Clamp.j0 kq a0 a1 a2 x14_3 = some r) ∧ Aside0 (kq ≤ k) ∧ Drawn0 w wc)
  case first =>
    have H := HC4.out
    clear HC4
    by_cases c5 : a1 > a2
    · rw [if_pos c5] at H
      have c5b0 : decide (a2 < a1) = true := decide_eq_true c5
      clear c5
      (first | rw [c5b0] | (simp only [i64_w, i32_w]; rw [c5b0]) | skip)
      have H' := Aside0.mk H
      clear H
      go_wp2
      go_meet
      case rel => exact ⟨_, (true), (by first | rfl | (simp; done) | (simp [*]; done)), H', ⟨by first | omega | exact Nat.le_refl _⟩, by repeat (first | exact Drawn0.refl _ | apply Drawn0.step)⟩
    · rw [if_neg c5] at H
      have c5b0 : decide (a2 < a1) = false := decide_eq_false c5
      clear c5
      (first | rw [c5b0] | (simp only [i64_w, i32_w]; rw [c5b0]) | skip)
      have H' := Aside0.mk H
      clear H
      go_wp2
      go_meet
      case rel => exact ⟨_, (decide (a0 < a1)), (by first | rfl | (simp; done) | (simp [*]; done)), H', ⟨by first | omega | exact Nat.le_refl _⟩, by repeat (first | exact Drawn0.refl _ | apply Drawn0.step)⟩
  case rest =>
    clear HC4
    try clear c2
    try clear p2
    try clear c5
    try clear c5b0
    obtain ⟨kq, x14_3, rfl, HA, HJ3, ⟨mc3, rfl⟩⟩ := hcut
    cases kq with
    | zero => exact absurd HA.out (by simp [sawmillref01_Clamp.j0])
    | succ kj3 =>
      have H := HA.out
      clear HA
      simp only [sawmillref01_Clamp.j0] at H
      by_cases c6 : x14_3 = true
      · subst c6
        have H1 : (some a1) = some r := by rw [if_pos rfl] at H; exact H
        clear H
        have H := H1
        clear H1
        obtain rfl := Option.some.inj H
        go_wp2
        go_ret
        exact ⟨by first | rfl | (simp; done) | (simp [*]; done), by repeat (first | exact Drawn0.refl _ | apply Drawn0.step)⟩
      · replace c6 := Bool.eq_false_iff.mpr c6
        subst c6
        have H1 : (if a0 > a2 then (some a2) else (some a0)) = some r := by rw [if_neg (show ¬ (false = true) by decide)] at H; exact H
        clear H
        have H := H1
        clear H1
        by_cases c7 : a0 > a2
        · rw [if_pos c7] at H
          have c7b0 : decide (a2 < a0) = true := decide_eq_true c7
          clear c7
          obtain rfl := Option.some.inj H
          go_wp2
          go_ret
          exact ⟨by first | rfl | (simp; done) | (simp [*]; done), by repeat (first | exact Drawn0.refl _ | apply Drawn0.step)⟩
        · rw [if_neg c7] at H
          have c7b0 : decide (a2 < a0) = false := decide_eq_false c7
          clear c7
          obtain rfl := Option.some.inj H
          go_wp2
          go_ret
          exact ⟨by first | rfl | (simp; done) | (simp [*]; done), by repeat (first | exact Drawn0.refl _ | apply Drawn0.step)⟩

/-! ### sawmillref01_part: function 34 -/
def sawmillref01_part.f (a0 : Int) (a1 : Int) : Option (Int) := if a1 > 0 then (if a0 > 0 then (if (IntKind.u64.wrap ((IntKind.u64.wrap ((IntKind.u64.wrap (Int.tdiv a0 10000)) * a1)) + (IntKind.u64.wrap (Int.tdiv (IntKind.u64.wrap ((Int.tmod a0 10000) * a1)) 10000)))) = 0 then (some 1) else (some (IntKind.u64.wrap ((IntKind.u64.wrap ((IntKind.u64.wrap (Int.tdiv a0 10000)) * a1)) + (IntKind.u64.wrap (Int.tdiv (IntKind.u64.wrap ((Int.tmod a0 10000) * a1)) 10000)))))) else (some (IntKind.u64.wrap ((IntKind.u64.wrap ((IntKind.u64.wrap (Int.tdiv a0 10000)) * a1)) + (IntKind.u64.wrap (Int.tdiv (IntKind.u64.wrap ((Int.tmod a0 10000) * a1)) 10000)))))) else (some (IntKind.u64.wrap ((IntKind.u64.wrap ((IntKind.u64.wrap (Int.tdiv a0 10000)) * a1)) + (IntKind.u64.wrap (Int.tdiv (IntKind.u64.wrap ((Int.tmod a0 10000) * a1)) 10000)))))
set_option maxHeartbeats 8000000 in
set_option maxRecDepth 100000 in
theorem sawmillref01_part.calls (a0 : Int) (a1 : Int) (r : Int) (w : World) (h : sawmillref01_part.f a0 a1 = some r) :
    Calls Tryd.prog 34 #[.int .u64 a0, .int .u64 a1] w fun e w' => e = .returned (.int .u64 r) ∧ Drawn0 w w' := by
  have H : (if a1 > 0 then (if a0 > 0 then (if (IntKind.u64.wrap ((IntKind.u64.wrap ((IntKind.u64.wrap (Int.tdiv a0 10000)) * a1)) + (IntKind.u64.wrap (Int.tdiv (IntKind.u64.wrap ((Int.tmod a0 10000) * a1)) 10000)))) = 0 then (some 1) else (some (IntKind.u64.wrap ((IntKind.u64.wrap ((IntKind.u64.wrap (Int.tdiv a0 10000)) * a1)) + (IntKind.u64.wrap (Int.tdiv (IntKind.u64.wrap ((Int.tmod a0 10000) * a1)) 10000)))))) else (some (IntKind.u64.wrap ((IntKind.u64.wrap ((IntKind.u64.wrap (Int.tdiv a0 10000)) * a1)) + (IntKind.u64.wrap (Int.tdiv (IntKind.u64.wrap ((Int.tmod a0 10000) * a1)) 10000)))))) else (some (IntKind.u64.wrap ((IntKind.u64.wrap ((IntKind.u64.wrap (Int.tdiv a0 10000)) * a1)) + (IntKind.u64.wrap (Int.tdiv (IntKind.u64.wrap ((Int.tmod a0 10000) * a1)) 10000)))))) = some r := h
  clear h
  by_cases c3 : a1 > 0
  · rw [if_pos c3] at H
    have c3b0 : decide (0 < a1) = true := decide_eq_true c3
    clear c3
    by_cases c4 : a0 > 0
    · rw [if_pos c4] at H
      have c4b0 : decide (0 < a0) = true := decide_eq_true c4
      clear c4
      by_cases c5 : (IntKind.u64.wrap ((IntKind.u64.wrap ((IntKind.u64.wrap (Int.tdiv a0 10000)) * a1)) + (IntKind.u64.wrap (Int.tdiv (IntKind.u64.wrap ((Int.tmod a0 10000) * a1)) 10000)))) = 0
      · rw [if_pos c5] at H
        have c5b0 : ((IntKind.u64.wrap ((IntKind.u64.wrap ((IntKind.u64.wrap (Int.tdiv a0 10000)) * a1)) + (IntKind.u64.wrap (Int.tdiv (IntKind.u64.wrap ((Int.tmod a0 10000) * a1)) 10000)))) == 0) = true := beq_iff_eq.mpr c5
        have c5b1 : ((IntKind.u64.wrap ((IntKind.u64.wrap ((IntKind.u64.wrap (Int.tdiv a0 10000)) * a1)) + (IntKind.u64.wrap (Int.tdiv (IntKind.u64.wrap ((Int.tmod a0 10000) * a1)) 10000)))) != 0) = false := bne_eq_false_iff_eq.mpr c5
        clear c5
        obtain rfl := Option.some.inj H
        go_enter Tryd.func34, Tryd.ntmps34
        go_wp2
        go_ret
        exact ⟨by first | rfl | (simp; done) | (simp [*]; done), by repeat (first | exact Drawn0.refl _ | apply Drawn0.step)⟩
      · rw [if_neg c5] at H
        have c5b0 : ((IntKind.u64.wrap ((IntKind.u64.wrap ((IntKind.u64.wrap (Int.tdiv a0 10000)) * a1)) + (IntKind.u64.wrap (Int.tdiv (IntKind.u64.wrap ((Int.tmod a0 10000) * a1)) 10000)))) == 0) = false := beq_eq_false_iff_ne.mpr c5
        have c5b1 : ((IntKind.u64.wrap ((IntKind.u64.wrap ((IntKind.u64.wrap (Int.tdiv a0 10000)) * a1)) + (IntKind.u64.wrap (Int.tdiv (IntKind.u64.wrap ((Int.tmod a0 10000) * a1)) 10000)))) != 0) = true := bne_iff_ne.mpr c5
        obtain rfl := Option.some.inj H
        go_enter Tryd.func34, Tryd.ntmps34
        go_wp2
        go_ret
        exact ⟨by first | rfl | (simp; done) | (simp [*]; done), by repeat (first | exact Drawn0.refl _ | apply Drawn0.step)⟩
    · rw [if_neg c4] at H
      have c4b0 : decide (0 < a0) = false := decide_eq_false c4
      clear c4
      obtain rfl := Option.some.inj H
      go_enter Tryd.func34, Tryd.ntmps34
      go_wp2
      go_ret
      exact ⟨by first | rfl | (simp; done) | (simp [*]; done), by repeat (first | exact Drawn0.refl _ | apply Drawn0.step)⟩
  · rw [if_neg c3] at H
    have c3b0 : decide (0 < a1) = false := decide_eq_false c3
    clear c3
    obtain rfl := Option.some.inj H
    go_enter Tryd.func34, Tryd.ntmps34
    go_wp2
    go_ret
    exact ⟨by first | rfl | (simp; done) | (simp [*]; done), by repeat (first | exact Drawn0.refl _ | apply Drawn0.step)⟩

/-! ### sawmillref01_Toward: function 22 -/
def sawmillref01_Toward.f (k : Nat) (a0 : Int) (a1 : Int) (a2 : Int) : Option (Int) := (sawmillref01_Clamp.f k a2 0 10000).bind fun t168 => (if a1 ≥ a0 then ((sawmillref01_part.f (IntKind.u64.wrap ((IntKind.u64.wrap (a1)) - (IntKind.u64.wrap (a0)))) (IntKind.u64.wrap (t168))).bind fun t169 => (some (wrap64 (IntKind.u64.wrap ((IntKind.u64.wrap (a0)) + t169))))) else ((sawmillref01_part.f (IntKind.u64.wrap ((IntKind.u64.wrap (a0)) - (IntKind.u64.wrap (a1)))) (IntKind.u64.wrap (t168))).bind fun t170 => (some (wrap64 (IntKind.u64.wrap ((IntKind.u64.wrap (a0)) - t170))))))
theorem sawmillref01_Toward.mono : ∀ a0 a1 a2 k, LeO (sawmillref01_Toward.f k a0 a1 a2) (sawmillref01_Toward.f (k + 1) a0 a1 a2) := by
  intro a0 a1 a2 k
  unfold sawmillref01_Toward.f
  repeat' first
      | (with_reducible exact sawmillref01_Clamp.mono _ _ _ _)
      | (with_reducible exact LeO.refl _)
      | (with_reducible exact LeO.none _)
      | (with_reducible refine LeO.ite ?_ ?_)
      | (with_reducible refine LeO.bind ?_ (fun _ => ?_))
      | exact sawmillref01_Clamp.mono _ _ _ _
      | exact LeO.none _
      | refine LeO.ite ?_ ?_
      | refine LeO.bind ?_ (fun _ => ?_)
set_option maxHeartbeats 8000000 in
set_option maxRecDepth 100000 in
theorem sawmillref01_Toward.calls (k : Nat) (a0 : Int) (a1 : Int) (a2 : Int) (r : Int) (w : World) (h : sawmillref01_Toward.f k a0 a1 a2 = some r) :
    Calls Tryd.prog 22 #[.int .i64 a0, .int .i64 a1, .int .i64 a2] w fun e w' => e = .returned (.int .i64 r) ∧ Drawn0 w w' := by
  have H : ((sawmillref01_Clamp.f k a2 0 10000).bind fun t168 => (if a1 ≥ a0 then ((sawmillref01_part.f (IntKind.u64.wrap ((IntKind.u64.wrap (a1)) - (IntKind.u64.wrap (a0)))) (IntKind.u64.wrap (t168))).bind fun t169 => (some (wrap64 (IntKind.u64.wrap ((IntKind.u64.wrap (a0)) + t169))))) else ((sawmillref01_part.f (IntKind.u64.wrap ((IntKind.u64.wrap (a0)) - (IntKind.u64.wrap (a1)))) (IntKind.u64.wrap (t168))).bind fun t170 => (some (wrap64 (IntKind.u64.wrap ((IntKind.u64.wrap (a0)) - t170))))))) = some r := h
  clear h
  replace H := Option.bind_eq_some_iff.mp H
  obtain ⟨t168, A40, H⟩ := H
  replace H : (if a1 ≥ a0 then ((sawmillref01_part.f (IntKind.u64.wrap ((IntKind.u64.wrap (a1)) - (IntKind.u64.wrap (a0)))) (IntKind.u64.wrap (t168))).bind fun t169 => (some (wrap64 (IntKind.u64.wrap ((IntKind.u64.wrap (a0)) + t169))))) else ((sawmillref01_part.f (IntKind.u64.wrap ((IntKind.u64.wrap (a0)) - (IntKind.u64.wrap (a1)))) (IntKind.u64.wrap (t168))).bind fun t170 => (some (wrap64 (IntKind.u64.wrap ((IntKind.u64.wrap (a0)) - t170)))))) = some r := H
  have A4 := Aside0.mk A40
  clear A40
  by_cases c5 : a1 ≥ a0
  · rw [if_pos c5] at H
    have c5b0 : decide (a0 ≤ a1) = true := decide_eq_true c5
    clear c5
    replace H := Option.bind_eq_some_iff.mp H
    obtain ⟨t169, A60, H⟩ := H
    replace H : (some (wrap64 (IntKind.u64.wrap ((IntKind.u64.wrap (a0)) + t169)))) = some r := H
    have A6 := Aside0.mk A60
    clear A60
    obtain rfl := Option.some.inj H
    go_enter Tryd.func22, Tryd.ntmps22
    go_wp2_with (first | ((with_reducible refine gate_callee (f := 21) rfl ?_); refine goesL_ (some 9) rfl rfl Tryd.func21 (by kernel_rfl) rfl #[.int .i64 a2, .int .i64 0, .int .i64 10000] rfl (by (try simp only [List.map_toArray, List.map_cons, List.map_nil]); first | done | rfl | (simp only [List.length_drop, List.length_take]; rfl)) ?_; (with_reducible refine (sawmillref01_Clamp.calls k a2 0 10000 t168 _ A4.out).mono ?_); rintro e w' ⟨rfl, ⟨nd, rfl⟩⟩; refine ⟨_, rfl, ?_⟩) | ((with_reducible refine gate_callee (f := 34) rfl ?_); refine goesL_ (some 22) rfl rfl Tryd.func34 (by kernel_rfl) rfl #[.int .u64 (IntKind.u64.wrap ((IntKind.u64.wrap (a1)) - (IntKind.u64.wrap (a0)))), .int .u64 (IntKind.u64.wrap (t168))] rfl (by (try simp only [List.map_toArray, List.map_cons, List.map_nil]); first | done | rfl | (simp only [List.length_drop, List.length_take]; rfl)) ?_; (with_reducible refine (sawmillref01_part.calls (IntKind.u64.wrap ((IntKind.u64.wrap (a1)) - (IntKind.u64.wrap (a0)))) (IntKind.u64.wrap (t168)) t169 _ A6.out).mono ?_); rintro e w' ⟨rfl, ⟨nd, rfl⟩⟩; refine ⟨_, rfl, ?_⟩))
    go_ret
    exact ⟨by first | rfl | (simp; done) | (simp [*]; done), by repeat (first | exact Drawn0.refl _ | apply Drawn0.step)⟩
  · rw [if_neg c5] at H
    have c5b0 : decide (a0 ≤ a1) = false := decide_eq_false c5
    clear c5
    replace H := Option.bind_eq_some_iff.mp H
    obtain ⟨t170, A70, H⟩ := H
    replace H : (some (wrap64 (IntKind.u64.wrap ((IntKind.u64.wrap (a0)) - t170)))) = some r := H
    have A7 := Aside0.mk A70
    clear A70
    obtain rfl := Option.some.inj H
    go_enter Tryd.func22, Tryd.ntmps22
    go_wp2_with (first | ((with_reducible refine gate_callee (f := 21) rfl ?_); refine goesL_ (some 9) rfl rfl Tryd.func21 (by kernel_rfl) rfl #[.int .i64 a2, .int .i64 0, .int .i64 10000] rfl (by (try simp only [List.map_toArray, List.map_cons, List.map_nil]); first | done | rfl | (simp only [List.length_drop, List.length_take]; rfl)) ?_; (with_reducible refine (sawmillref01_Clamp.calls k a2 0 10000 t168 _ A4.out).mono ?_); rintro e w' ⟨rfl, ⟨nd, rfl⟩⟩; refine ⟨_, rfl, ?_⟩) | ((with_reducible refine gate_callee (f := 34) rfl ?_); refine goesL_ (some 33) rfl rfl Tryd.func34 (by kernel_rfl) rfl #[.int .u64 (IntKind.u64.wrap ((IntKind.u64.wrap (a0)) - (IntKind.u64.wrap (a1)))), .int .u64 (IntKind.u64.wrap (t168))] rfl (by (try simp only [List.map_toArray, List.map_cons, List.map_nil]); first | done | rfl | (simp only [List.length_drop, List.length_take]; rfl)) ?_; (with_reducible refine (sawmillref01_part.calls (IntKind.u64.wrap ((IntKind.u64.wrap (a0)) - (IntKind.u64.wrap (a1)))) (IntKind.u64.wrap (t168)) t170 _ A7.out).mono ?_); rintro e w' ⟨rfl, ⟨nd, rfl⟩⟩; refine ⟨_, rfl, ?_⟩))
    go_ret
    exact ⟨by first | rfl | (simp; done) | (simp [*]; done), by repeat (first | exact Drawn0.refl _ | apply Drawn0.step)⟩

-- NOT PRINTED: function 7 (sawmilllaw01_UnitsMoves)

-- NOT PRINTED: function 8 (sawmilllaw01_UnitsRoots)

-- NOT PRINTED: function 9 (sawmilllaw01_UnitsFloors)

end Go.Proofs.YtlfloandockgbaaDoor.PAll
