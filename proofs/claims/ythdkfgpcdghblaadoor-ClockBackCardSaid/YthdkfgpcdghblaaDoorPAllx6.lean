-- Written for this claim by the kit's print program (print.py), which this session called for several functions at once
import Derived.Test.YthdkfgpcdghblaaDoorPAllx0
import Derived.Test.YthdkfgpcdghblaaDoorPAllx2
import Derived.Test.YthdkfgpcdghblaaDoorPAllx5
namespace Go.Proofs.YthdkfgpcdghblaaDoor.PAll
open Go.RowKit Go.Proofs.YthdkfgpcdghblaaDoorW.PrintWords Go.Proofs.YthdkfgpcdghblaaDoorW.PrintLast Go.Proofs.YthdkfgpcdghblaaDoorW.PrintMore
attribute [local go_sem] max2_int min2_int max_two min_two max_three min_three max_four min_four   -- for this text's walks alone
set_option linter.unusedVariables false
set_option linter.unusedSimpArgs false

/-! ### sawmillref07_Parse: function 27 -/
mutual
def sawmillref07_Parse.j0 : Nat → ByteArray → Int → Bool → Option (Int × Int)
  | 0, _, _, _ => none
  | k + 1, x0, x4, x31 => if x31 = true then (some (0, 5)) else (if 1 ≤ x4 then (if x4 ≤ (x0.size : Int) then ((sawmillref01_Parse.f k (x0.extract 1 (x4 : Int).toNat) 0).bind fun bt166 => (if 0 ≤ (wrap64 (x4 + 1)) then (if (wrap64 (x4 + 1)) < (x0.size : Int) then (if 0 ≤ (wrap64 (x4 + 2)) then (if (wrap64 (x4 + 2)) < (x0.size : Int) then ((sawmillref07_pair.f (bt x0 (wrap64 (x4 + 1))) (bt x0 (wrap64 (x4 + 2)))).bind fun t168 => (if 0 ≤ (wrap64 (x4 + 4)) then (if (wrap64 (x4 + 4)) < (x0.size : Int) then (if 0 ≤ (wrap64 (x4 + 5)) then (if (wrap64 (x4 + 5)) < (x0.size : Int) then ((sawmillref07_pair.f (bt x0 (wrap64 (x4 + 4))) (bt x0 (wrap64 (x4 + 5)))).bind fun t169 => (if bt166.2 = 0 then (if bt166.1 < 0 then (sawmillref07_Parse.j1 k bt166.1 t168 t169 true) else (if bt166.1 > 1099511627776 then (sawmillref07_Parse.j1 k bt166.1 t168 t169 true) else (if t168 < 0 then (sawmillref07_Parse.j1 k bt166.1 t168 t169 true) else (if t168 > 23 then (sawmillref07_Parse.j1 k bt166.1 t168 t169 true) else (if t169 < 0 then (sawmillref07_Parse.j1 k bt166.1 t168 t169 true) else (sawmillref07_Parse.j1 k bt166.1 t168 t169 (decide (t169 > 59)))))))) else (sawmillref07_Parse.j1 k bt166.1 t168 t169 true))) else (none)) else (none)) else (none)) else (none))) else (none)) else (none)) else (none)) else (none))) else (none)) else (none))
def sawmillref07_Parse.j1 : Nat → Int → Int → Int → Bool → Option (Int × Int)
  | 0, _, _, _, _ => none
  | k + 1, x5, x7, x8, x82 => if x82 = true then (some (0, 5)) else (if x5 > 10000000 then (some (0, 15)) else ((sawmillref07_IsTime.f (wrap64 ((wrap64 ((wrap64 (x5 * 1440)) + (wrap64 (x7 * 60)))) + x8))).bind fun t170 => (if t170 = true then (some (wrap64 ((wrap64 ((wrap64 (x5 * 1440)) + (wrap64 (x7 * 60)))) + x8), 0)) else (some (0, 15)))))
end
def sawmillref07_Parse.f (k : Nat) (a0 : ByteArray) : Option (Int × Int) := if (wrap64 ((a0.size : Int) - 6)) < 2 then (sawmillref07_Parse.j0 k a0 (wrap64 ((a0.size : Int) - 6)) true) else (if 0 < (a0.size : Int) then (if (bt a0 0) = 100 then (if 0 ≤ (wrap64 ((a0.size : Int) - 6)) then (if (wrap64 ((a0.size : Int) - 6)) < (a0.size : Int) then (if (bt a0 (wrap64 ((a0.size : Int) - 6))) = 32 then (if 0 ≤ (wrap64 ((wrap64 ((a0.size : Int) - 6)) + 3)) then (if (wrap64 ((wrap64 ((a0.size : Int) - 6)) + 3)) < (a0.size : Int) then (sawmillref07_Parse.j0 k a0 (wrap64 ((a0.size : Int) - 6)) ((bt a0 (wrap64 ((wrap64 ((a0.size : Int) - 6)) + 3))) != 58)) else (none)) else (none)) else (sawmillref07_Parse.j0 k a0 (wrap64 ((a0.size : Int) - 6)) true)) else (none)) else (none)) else (sawmillref07_Parse.j0 k a0 (wrap64 ((a0.size : Int) - 6)) true)) else (none))
theorem sawmillref07_Parse.mono_l : ∀ k, (∀ y0 y1 y2, LeO (sawmillref07_Parse.j0 k y0 y1 y2) (sawmillref07_Parse.j0 (k + 1) y0 y1 y2)) ∧ (∀ y0 y1 y2 y3, LeO (sawmillref07_Parse.j1 k y0 y1 y2 y3) (sawmillref07_Parse.j1 (k + 1) y0 y1 y2 y3))
  | 0 => ⟨fun _ _ _ r h => by simp [sawmillref07_Parse.j0] at h, fun _ _ _ _ r h => by simp [sawmillref07_Parse.j1] at h⟩
  | k + 1 => by
    obtain ⟨ih0, ih1⟩ := sawmillref07_Parse.mono_l k
    refine ⟨?_, ?_⟩
    · intro y0 y1 y2
      unfold sawmillref07_Parse.j0
      repeat' first
      | (with_reducible exact ih0 _ _ _)
      | (with_reducible exact ih1 _ _ _ _)
      | (with_reducible exact sawmillref01_Parse.mono _ _ _)
      | (with_reducible exact LeO.refl _)
      | (with_reducible exact LeO.none _)
      | (with_reducible refine LeO.ite ?_ ?_)
      | (with_reducible refine LeO.bind ?_ (fun _ => ?_))
      | exact ih0 _ _ _
      | exact ih1 _ _ _ _
      | exact sawmillref01_Parse.mono _ _ _
      | exact LeO.none _
      | refine LeO.ite ?_ ?_
      | refine LeO.bind ?_ (fun _ => ?_)
    · intro y0 y1 y2 y3
      unfold sawmillref07_Parse.j1
      repeat' first
      | (with_reducible exact ih0 _ _ _)
      | (with_reducible exact ih1 _ _ _ _)
      | (with_reducible exact sawmillref01_Parse.mono _ _ _)
      | (with_reducible exact LeO.refl _)
      | (with_reducible exact LeO.none _)
      | (with_reducible refine LeO.ite ?_ ?_)
      | (with_reducible refine LeO.bind ?_ (fun _ => ?_))
      | exact ih0 _ _ _
      | exact ih1 _ _ _ _
      | exact sawmillref01_Parse.mono _ _ _
      | exact LeO.none _
      | refine LeO.ite ?_ ?_
      | refine LeO.bind ?_ (fun _ => ?_)
theorem sawmillref07_Parse.mono : ∀ a0 k, LeO (sawmillref07_Parse.f k a0) (sawmillref07_Parse.f (k + 1) a0) := by
  intro a0 k
  obtain ⟨ih0, ih1⟩ := sawmillref07_Parse.mono_l k
  unfold sawmillref07_Parse.f
  repeat' first
      | (with_reducible exact ih0 _ _ _)
      | (with_reducible exact ih1 _ _ _ _)
      | (with_reducible exact sawmillref01_Parse.mono _ _ _)
      | (with_reducible exact LeO.refl _)
      | (with_reducible exact LeO.none _)
      | (with_reducible refine LeO.ite ?_ ?_)
      | (with_reducible refine LeO.bind ?_ (fun _ => ?_))
      | exact ih0 _ _ _
      | exact ih1 _ _ _ _
      | exact sawmillref01_Parse.mono _ _ _
      | exact LeO.none _
      | refine LeO.ite ?_ ?_
      | refine LeO.bind ?_ (fun _ => ?_)
set_option maxHeartbeats 8000000 in
set_option maxRecDepth 100000 in
theorem sawmillref07_Parse.calls (k : Nat) (a0 : ByteArray) (r1 : Int) (r2 : Int) (w : World) (h : sawmillref07_Parse.f k a0 = some (r1, r2)) :
    Calls Tryd.prog 27 #[.string a0] w fun e w' => e = .returned (.tuple #[.int .i64 r1, .int .i64 r2]) ∧ Below w.heap.size w w' := by
  have HB := Aside0.mk (Below.refl w.heap.size w)
  have H : (if (wrap64 ((a0.size : Int) - 6)) < 2 then (sawmillref07_Parse.j0 k a0 (wrap64 ((a0.size : Int) - 6)) true) else (if 0 < (a0.size : Int) then (if (bt a0 0) = 100 then (if 0 ≤ (wrap64 ((a0.size : Int) - 6)) then (if (wrap64 ((a0.size : Int) - 6)) < (a0.size : Int) then (if (bt a0 (wrap64 ((a0.size : Int) - 6))) = 32 then (if 0 ≤ (wrap64 ((wrap64 ((a0.size : Int) - 6)) + 3)) then (if (wrap64 ((wrap64 ((a0.size : Int) - 6)) + 3)) < (a0.size : Int) then (sawmillref07_Parse.j0 k a0 (wrap64 ((a0.size : Int) - 6)) ((bt a0 (wrap64 ((wrap64 ((a0.size : Int) - 6)) + 3))) != 58)) else (none)) else (none)) else (sawmillref07_Parse.j0 k a0 (wrap64 ((a0.size : Int) - 6)) true)) else (none)) else (none)) else (sawmillref07_Parse.j0 k a0 (wrap64 ((a0.size : Int) - 6)) true)) else (none))) = some (r1, r2) := h
  clear h
  have HC2 := Aside0.mk H
  clear H
  go_enter Tryd.func27, Tryd.ntmps27
  go_upto_region 2 with (fail)
  repeat (go_quiet (fail); go_upto_region 2 with (fail))
  go_cut [31] (fun v31 wc => ∃ (kq : Nat) (x31_1 : Bool), v31 = .bool x31_1 ∧ Aside0 (sawmillref07_Parse.j0 kq a0 (wrap64 ((a0.size : Int) - 6)) x31_1 = some (r1, r2)) ∧ Aside0 (kq ≤ k) ∧ Aside0 (Below w.heap.size w wc))
  case first =>
    have H := HC2.out
    clear HC2
    by_cases c3 : (wrap64 ((a0.size : Int) - 6)) < 2
    · rw [if_pos c3] at H
      have c3b0 : decide ((wrap64 ((a0.size : Int) - 6)) < 2) = true := decide_eq_true c3
      clear c3
      (first | rw [c3b0] | (simp only [i64_w, i32_w]; rw [c3b0]) | skip)
      have H' := Aside0.mk H
      clear H
      go_wp2
      repeat (go_quiet (fail); try go_wp2)
      go_meet
      case rel => exact ⟨_, (true), (by first | rfl | (simp; done) | (simp [*]; done)), H', ⟨by first | omega | exact Nat.le_refl _⟩, ⟨by repeat (first | (with_reducible first | exact HB.out | apply below_alloc | apply pw_below_drewN | apply below_drew1) | exact HB.out)⟩⟩
    · rw [if_neg c3] at H
      have c3b0 : decide ((wrap64 ((a0.size : Int) - 6)) < 2) = false := decide_eq_false c3
      clear c3
      (first | rw [c3b0] | (simp only [i64_w, i32_w]; rw [c3b0]) | skip)
      by_cases c4 : 0 < (a0.size : Int)
      · rw [if_pos c4] at H
        have c4b0 : decide (0 < (a0.size : Int)) = true := decide_eq_true c4
        have c4b1 : decide (0 < a0.size) = true := decide_eq_true (by omega)
        clear c4
        by_cases c6 : (bt a0 0) = 100
        · rw [if_pos c6] at H
          have c6b0 : ((bt a0 0) == 100) = true := beq_iff_eq.mpr c6
          have c6b1 : ((bt a0 0) != 100) = false := bne_eq_false_iff_eq.mpr c6
          clear c6
          obtain ⟨ji7, hji7⟩ : ∃ j_ : Int, (wrap64 ((a0.size : Int) - 6)) = j_ := ⟨_, rfl⟩
          replace H : (if 0 ≤ (ji7) then (if (ji7) < (a0.size : Int) then (if (bt a0 (ji7)) = 32 then (if 0 ≤ (wrap64 ((ji7) + 3)) then (if (wrap64 ((ji7) + 3)) < (a0.size : Int) then (sawmillref07_Parse.j0 k a0 ji7 ((bt a0 (wrap64 ((ji7) + 3))) != 58)) else (none)) else (none)) else (sawmillref07_Parse.j0 k a0 ji7 true)) else (none)) else (none)) = some (r1, r2) := by first | (rw [hji7] at H; exact H) | (simp only [hji7] at H ⊢; exact H)
          (try rw [hji7] at c3b0)
          have hji7w : (IntKind.i64.wrap ((a0.size : Int) - 6)) = ji7 := (i64_w _).trans hji7
          by_cases c8 : 0 ≤ (ji7)
          · rw [if_pos c8] at H
            have c8b0 : decide (0 ≤ (ji7)) = true := decide_eq_true c8
            clear c8
            by_cases c9 : (ji7) < (a0.size : Int)
            · rw [if_pos c9] at H
              have c9b0 : decide ((ji7) < (a0.size : Int)) = true := decide_eq_true c9
              clear c9
              by_cases c11 : (bt a0 (ji7)) = 32
              · rw [if_pos c11] at H
                have c11b0 : ((bt a0 (ji7)) == 32) = true := beq_iff_eq.mpr c11
                have c11b1 : ((bt a0 (ji7)) != 32) = false := bne_eq_false_iff_eq.mpr c11
                clear c11
                obtain ⟨ji12, hji12⟩ : ∃ j_ : Int, (wrap64 ((ji7) + 3)) = j_ := ⟨_, rfl⟩
                replace H : (if 0 ≤ (ji12) then (if (ji12) < (a0.size : Int) then (sawmillref07_Parse.j0 k a0 ji7 ((bt a0 (ji12)) != 58)) else (none)) else (none)) = some (r1, r2) := by first | (rw [hji12] at H; exact H) | (simp only [hji12] at H ⊢; exact H)
                have hji12w : (IntKind.i64.wrap ((ji7) + 3)) = ji12 := (i64_w _).trans hji12
                by_cases c13 : 0 ≤ (ji12)
                · rw [if_pos c13] at H
                  have c13b0 : decide (0 ≤ (ji12)) = true := decide_eq_true c13
                  clear c13
                  by_cases c14 : (ji12) < (a0.size : Int)
                  · rw [if_pos c14] at H
                    have c14b0 : decide ((ji12) < (a0.size : Int)) = true := decide_eq_true c14
                    clear c14
                    have H' := Aside0.mk H
                    clear H
                    have p5 : 0 ≤ (0 : Int) := (by omega)
                    have q5 : 0 < a0.size := (by have : (0 : Int) < (a0.size : Int) := of_decide_eq_true (by first | (with_reducible assumption) | assumption); omega)
                    have hx5 : ∀ h : 0 < a0.size, ((a0[0]'h).toNat : Int) = bt a0 0 := bt_at a0 0
                    clear p5
                    have qi5 : (0 < (a0.size : Int)) = True := eq_true (of_decide_eq_true (by first | (with_reducible assumption) | assumption))
                    replace q5 := eq_true q5
                    have p10 : 0 ≤ ((ji7) : Int) := of_decide_eq_true (by first | (with_reducible assumption) | assumption)
                    have q10 : (ji7) < (a0.size : Int) := of_decide_eq_true (by first | (with_reducible assumption) | assumption)
                    have hx10 := bt_at a0 (ji7)
                    replace p10 := eq_true p10
                    replace q10 := eq_true q10
                    have p15 : 0 ≤ ((ji12) : Int) := of_decide_eq_true (by first | (with_reducible assumption) | assumption)
                    have q15 : (ji12) < (a0.size : Int) := of_decide_eq_true (by first | (with_reducible assumption) | assumption)
                    have hx15 := bt_at a0 (ji12)
                    replace p15 := eq_true p15
                    replace q15 := eq_true q15
                    go_wp2
                    repeat (go_quiet (fail); try go_wp2)
                    go_meet
                    case rel => exact ⟨_, (((bt a0 (ji12)) != 58)), (by first | rfl | (simp; done) | (simp only [← hji12] <;> (first | rfl | simp)) | (simp [*]; done)), (by first | exact H' | (rw [hji7]; exact H')), ⟨by first | omega | exact Nat.le_refl _⟩, ⟨by repeat (first | (with_reducible first | exact HB.out | apply below_alloc | apply pw_below_drewN | apply below_drew1) | exact HB.out)⟩⟩
                  · rw [if_neg c14] at H
                    exact absurd H (by simp)
                · rw [if_neg c13] at H
                  exact absurd H (by simp)
              · rw [if_neg c11] at H
                have c11b0 : ((bt a0 (ji7)) == 32) = false := beq_eq_false_iff_ne.mpr c11
                have c11b1 : ((bt a0 (ji7)) != 32) = true := bne_iff_ne.mpr c11
                have H' := Aside0.mk H
                clear H
                have p5 : 0 ≤ (0 : Int) := (by omega)
                have q5 : 0 < a0.size := (by have : (0 : Int) < (a0.size : Int) := of_decide_eq_true (by first | (with_reducible assumption) | assumption); omega)
                have hx5 : ∀ h : 0 < a0.size, ((a0[0]'h).toNat : Int) = bt a0 0 := bt_at a0 0
                clear p5
                have qi5 : (0 < (a0.size : Int)) = True := eq_true (of_decide_eq_true (by first | (with_reducible assumption) | assumption))
                replace q5 := eq_true q5
                have p10 : 0 ≤ ((ji7) : Int) := of_decide_eq_true (by first | (with_reducible assumption) | assumption)
                have q10 : (ji7) < (a0.size : Int) := of_decide_eq_true (by first | (with_reducible assumption) | assumption)
                have hx10 := bt_at a0 (ji7)
                replace p10 := eq_true p10
                replace q10 := eq_true q10
                go_wp2
                repeat (go_quiet (fail); try go_wp2)
                go_meet
                case rel => exact ⟨_, (true), (by first | rfl | (simp; done) | (simp [*]; done)), (by first | exact H' | (rw [hji7]; exact H')), ⟨by first | omega | exact Nat.le_refl _⟩, ⟨by repeat (first | (with_reducible first | exact HB.out | apply below_alloc | apply pw_below_drewN | apply below_drew1) | exact HB.out)⟩⟩
            · rw [if_neg c9] at H
              exact absurd H (by simp)
          · rw [if_neg c8] at H
            exact absurd H (by simp)
        · rw [if_neg c6] at H
          have c6b0 : ((bt a0 0) == 100) = false := beq_eq_false_iff_ne.mpr c6
          have c6b1 : ((bt a0 0) != 100) = true := bne_iff_ne.mpr c6
          have H' := Aside0.mk H
          clear H
          have p5 : 0 ≤ (0 : Int) := (by omega)
          have q5 : 0 < a0.size := (by have : (0 : Int) < (a0.size : Int) := of_decide_eq_true (by first | (with_reducible assumption) | assumption); omega)
          have hx5 : ∀ h : 0 < a0.size, ((a0[0]'h).toNat : Int) = bt a0 0 := bt_at a0 0
          clear p5
          have qi5 : (0 < (a0.size : Int)) = True := eq_true (of_decide_eq_true (by first | (with_reducible assumption) | assumption))
          replace q5 := eq_true q5
          go_wp2
          repeat (go_quiet (fail); try go_wp2)
          go_meet
          case rel => exact ⟨_, (true), (by first | rfl | (simp; done) | (simp [*]; done)), (by first | exact H' | (rw [hji7]; exact H')), ⟨by first | omega | exact Nat.le_refl _⟩, ⟨by repeat (first | (with_reducible first | exact HB.out | apply below_alloc | apply pw_below_drewN | apply below_drew1) | exact HB.out)⟩⟩
      · rw [if_neg c4] at H
        exact absurd H (by simp)
  case rest =>
    clear HC2
    try clear c1
    try clear p1
    try clear q1
    try clear hx1
    try clear c2
    try clear p2
    try clear c3
    try clear c3b0
    try clear c4
    try clear c4b0
    try clear c4b1
    try clear p5
    try clear q5
    try clear hx5
    try clear qi5
    try clear c6
    try clear c6b0
    try clear c6b1
    try clear p6
    try clear c8
    try clear c8b0
    try clear c9
    try clear c9b0
    try clear p10
    try clear q10
    try clear hx10
    try clear c11
    try clear c11b0
    try clear c11b1
    try clear c13
    try clear c13b0
    try clear c14
    try clear c14b0
    try clear p15
    try clear q15
    try clear hx15
    try clear p10
    try clear p15
    try clear p5
    try clear q10
    try clear q15
    try clear q5
    obtain ⟨kq, x31_1, rfl, HA, HJ1, HB⟩ := hcut
    cases kq with
    | zero => exact absurd HA.out (by simp [sawmillref07_Parse.j0])
    | succ kj1 =>
      have H := HA.out
      clear HA
      simp only [sawmillref07_Parse.j0] at H
      by_cases c16 : x31_1 = true
      · subst c16
        have H1 : (some (0, 5)) = some (r1, r2) := by rw [if_pos rfl] at H; exact H
        clear H
        have H := H1
        clear H1
        simp only [Option.some.injEq, Prod.mk.injEq] at H
        obtain ⟨rfl, rfl⟩ := H
        go_wp2
        repeat (go_quiet (fail); try go_wp2)
        go_ret2
        exact ⟨by first | rfl | (simp [errW_none, errW_some] <;> rfl) | (simp [*, errW_none, errW_some] <;> rfl), by repeat (first | (with_reducible first | exact HB.out | apply below_alloc | apply pw_below_drewN | apply below_drew1) | exact HB.out)⟩
      · replace c16 := Bool.eq_false_iff.mpr c16
        subst c16
        have H1 : (if 1 ≤ (wrap64 ((a0.size : Int) - 6)) then (if (wrap64 ((a0.size : Int) - 6)) ≤ (a0.size : Int) then ((sawmillref01_Parse.f kj1 (a0.extract 1 ((wrap64 ((a0.size : Int) - 6)) : Int).toNat) 0).bind fun bt166 => (if 0 ≤ (wrap64 ((wrap64 ((a0.size : Int) - 6)) + 1)) then (if (wrap64 ((wrap64 ((a0.size : Int) - 6)) + 1)) < (a0.size : Int) then (if 0 ≤ (wrap64 ((wrap64 ((a0.size : Int) - 6)) + 2)) then (if (wrap64 ((wrap64 ((a0.size : Int) - 6)) + 2)) < (a0.size : Int) then ((sawmillref07_pair.f (bt a0 (wrap64 ((wrap64 ((a0.size : Int) - 6)) + 1))) (bt a0 (wrap64 ((wrap64 ((a0.size : Int) - 6)) + 2)))).bind fun t168 => (if 0 ≤ (wrap64 ((wrap64 ((a0.size : Int) - 6)) + 4)) then (if (wrap64 ((wrap64 ((a0.size : Int) - 6)) + 4)) < (a0.size : Int) then (if 0 ≤ (wrap64 ((wrap64 ((a0.size : Int) - 6)) + 5)) then (if (wrap64 ((wrap64 ((a0.size : Int) - 6)) + 5)) < (a0.size : Int) then ((sawmillref07_pair.f (bt a0 (wrap64 ((wrap64 ((a0.size : Int) - 6)) + 4))) (bt a0 (wrap64 ((wrap64 ((a0.size : Int) - 6)) + 5)))).bind fun t169 => (if bt166.2 = 0 then (if bt166.1 < 0 then (sawmillref07_Parse.j1 kj1 bt166.1 t168 t169 true) else (if bt166.1 > 1099511627776 then (sawmillref07_Parse.j1 kj1 bt166.1 t168 t169 true) else (if t168 < 0 then (sawmillref07_Parse.j1 kj1 bt166.1 t168 t169 true) else (if t168 > 23 then (sawmillref07_Parse.j1 kj1 bt166.1 t168 t169 true) else (if t169 < 0 then (sawmillref07_Parse.j1 kj1 bt166.1 t168 t169 true) else (sawmillref07_Parse.j1 kj1 bt166.1 t168 t169 (decide (t169 > 59)))))))) else (sawmillref07_Parse.j1 kj1 bt166.1 t168 t169 true))) else (none)) else (none)) else (none)) else (none))) else (none)) else (none)) else (none)) else (none))) else (none)) else (none)) = some (r1, r2) := by rw [if_neg (show ¬ (false = true) by decide)] at H; exact H
        clear H
        have H := H1
        clear H1
        by_cases c17 : 1 ≤ (wrap64 ((a0.size : Int) - 6))
        · rw [if_pos c17] at H
          have c17b0 := eq_true c17
          have c17b1 : decide (1 ≤ (wrap64 ((a0.size : Int) - 6))) = true := decide_eq_true c17
          clear c17
          by_cases c18 : (wrap64 ((a0.size : Int) - 6)) ≤ (a0.size : Int)
          · rw [if_pos c18] at H
            have c18b0 := eq_true c18
            have c18b1 : decide ((wrap64 ((a0.size : Int) - 6)) ≤ (a0.size : Int)) = true := decide_eq_true c18
            clear c18
            replace H := Option.bind_eq_some_iff.mp H
            obtain ⟨⟨t166, t167⟩, A190, H⟩ := H
            replace H : (if 0 ≤ (wrap64 ((wrap64 ((a0.size : Int) - 6)) + 1)) then (if (wrap64 ((wrap64 ((a0.size : Int) - 6)) + 1)) < (a0.size : Int) then (if 0 ≤ (wrap64 ((wrap64 ((a0.size : Int) - 6)) + 2)) then (if (wrap64 ((wrap64 ((a0.size : Int) - 6)) + 2)) < (a0.size : Int) then ((sawmillref07_pair.f (bt a0 (wrap64 ((wrap64 ((a0.size : Int) - 6)) + 1))) (bt a0 (wrap64 ((wrap64 ((a0.size : Int) - 6)) + 2)))).bind fun t168 => (if 0 ≤ (wrap64 ((wrap64 ((a0.size : Int) - 6)) + 4)) then (if (wrap64 ((wrap64 ((a0.size : Int) - 6)) + 4)) < (a0.size : Int) then (if 0 ≤ (wrap64 ((wrap64 ((a0.size : Int) - 6)) + 5)) then (if (wrap64 ((wrap64 ((a0.size : Int) - 6)) + 5)) < (a0.size : Int) then ((sawmillref07_pair.f (bt a0 (wrap64 ((wrap64 ((a0.size : Int) - 6)) + 4))) (bt a0 (wrap64 ((wrap64 ((a0.size : Int) - 6)) + 5)))).bind fun t169 => (if t167 = 0 then (if t166 < 0 then (sawmillref07_Parse.j1 kj1 t166 t168 t169 true) else (if t166 > 1099511627776 then (sawmillref07_Parse.j1 kj1 t166 t168 t169 true) else (if t168 < 0 then (sawmillref07_Parse.j1 kj1 t166 t168 t169 true) else (if t168 > 23 then (sawmillref07_Parse.j1 kj1 t166 t168 t169 true) else (if t169 < 0 then (sawmillref07_Parse.j1 kj1 t166 t168 t169 true) else (sawmillref07_Parse.j1 kj1 t166 t168 t169 (decide (t169 > 59)))))))) else (sawmillref07_Parse.j1 kj1 t166 t168 t169 true))) else (none)) else (none)) else (none)) else (none))) else (none)) else (none)) else (none)) else (none)) = some (r1, r2) := H
            have A19 := Aside0.mk A190
            clear A190
            obtain ⟨ji20, hji20⟩ : ∃ j_ : Int, (wrap64 ((wrap64 ((a0.size : Int) - 6)) + 1)) = j_ := ⟨_, rfl⟩
            replace H : (if 0 ≤ (ji20) then (if (ji20) < (a0.size : Int) then (if 0 ≤ (wrap64 ((wrap64 ((a0.size : Int) - 6)) + 2)) then (if (wrap64 ((wrap64 ((a0.size : Int) - 6)) + 2)) < (a0.size : Int) then ((sawmillref07_pair.f (bt a0 (ji20)) (bt a0 (wrap64 ((wrap64 ((a0.size : Int) - 6)) + 2)))).bind fun t168 => (if 0 ≤ (wrap64 ((wrap64 ((a0.size : Int) - 6)) + 4)) then (if (wrap64 ((wrap64 ((a0.size : Int) - 6)) + 4)) < (a0.size : Int) then (if 0 ≤ (wrap64 ((wrap64 ((a0.size : Int) - 6)) + 5)) then (if (wrap64 ((wrap64 ((a0.size : Int) - 6)) + 5)) < (a0.size : Int) then ((sawmillref07_pair.f (bt a0 (wrap64 ((wrap64 ((a0.size : Int) - 6)) + 4))) (bt a0 (wrap64 ((wrap64 ((a0.size : Int) - 6)) + 5)))).bind fun t169 => (if t167 = 0 then (if t166 < 0 then (sawmillref07_Parse.j1 kj1 t166 t168 t169 true) else (if t166 > 1099511627776 then (sawmillref07_Parse.j1 kj1 t166 t168 t169 true) else (if t168 < 0 then (sawmillref07_Parse.j1 kj1 t166 t168 t169 true) else (if t168 > 23 then (sawmillref07_Parse.j1 kj1 t166 t168 t169 true) else (if t169 < 0 then (sawmillref07_Parse.j1 kj1 t166 t168 t169 true) else (sawmillref07_Parse.j1 kj1 t166 t168 t169 (decide (t169 > 59)))))))) else (sawmillref07_Parse.j1 kj1 t166 t168 t169 true))) else (none)) else (none)) else (none)) else (none))) else (none)) else (none)) else (none)) else (none)) = some (r1, r2) := by first | (rw [hji20] at H; exact H) | (simp only [hji20] at H ⊢; exact H)
            (try rw [hji20] at A19)
            have hji20w : (IntKind.i64.wrap ((wrap64 ((a0.size : Int) - 6)) + 1)) = ji20 := (i64_w _).trans hji20
            by_cases c21 : 0 ≤ (ji20)
            · rw [if_pos c21] at H
              have c21b0 : decide (0 ≤ (ji20)) = true := decide_eq_true c21
              clear c21
              by_cases c22 : (ji20) < (a0.size : Int)
              · rw [if_pos c22] at H
                have c22b0 : decide ((ji20) < (a0.size : Int)) = true := decide_eq_true c22
                clear c22
                obtain ⟨ji24, hji24⟩ : ∃ j_ : Int, (wrap64 ((wrap64 ((a0.size : Int) - 6)) + 2)) = j_ := ⟨_, rfl⟩
                replace H : (if 0 ≤ (ji24) then (if (ji24) < (a0.size : Int) then ((sawmillref07_pair.f (bt a0 (ji20)) (bt a0 (ji24))).bind fun t168 => (if 0 ≤ (wrap64 ((wrap64 ((a0.size : Int) - 6)) + 4)) then (if (wrap64 ((wrap64 ((a0.size : Int) - 6)) + 4)) < (a0.size : Int) then (if 0 ≤ (wrap64 ((wrap64 ((a0.size : Int) - 6)) + 5)) then (if (wrap64 ((wrap64 ((a0.size : Int) - 6)) + 5)) < (a0.size : Int) then ((sawmillref07_pair.f (bt a0 (wrap64 ((wrap64 ((a0.size : Int) - 6)) + 4))) (bt a0 (wrap64 ((wrap64 ((a0.size : Int) - 6)) + 5)))).bind fun t169 => (if t167 = 0 then (if t166 < 0 then (sawmillref07_Parse.j1 kj1 t166 t168 t169 true) else (if t166 > 1099511627776 then (sawmillref07_Parse.j1 kj1 t166 t168 t169 true) else (if t168 < 0 then (sawmillref07_Parse.j1 kj1 t166 t168 t169 true) else (if t168 > 23 then (sawmillref07_Parse.j1 kj1 t166 t168 t169 true) else (if t169 < 0 then (sawmillref07_Parse.j1 kj1 t166 t168 t169 true) else (sawmillref07_Parse.j1 kj1 t166 t168 t169 (decide (t169 > 59)))))))) else (sawmillref07_Parse.j1 kj1 t166 t168 t169 true))) else (none)) else (none)) else (none)) else (none))) else (none)) else (none)) = some (r1, r2) := by first | (rw [hji24] at H; exact H) | (simp only [hji24] at H ⊢; exact H)
                (try rw [hji24] at A19)
                have hji24w : (IntKind.i64.wrap ((wrap64 ((a0.size : Int) - 6)) + 2)) = ji24 := (i64_w _).trans hji24
                by_cases c25 : 0 ≤ (ji24)
                · rw [if_pos c25] at H
                  have c25b0 : decide (0 ≤ (ji24)) = true := decide_eq_true c25
                  clear c25
                  by_cases c26 : (ji24) < (a0.size : Int)
                  · rw [if_pos c26] at H
                    have c26b0 : decide ((ji24) < (a0.size : Int)) = true := decide_eq_true c26
                    clear c26
                    replace H := Option.bind_eq_some_iff.mp H
                    obtain ⟨t168, A280, H⟩ := H
                    replace H : (if 0 ≤ (wrap64 ((wrap64 ((a0.size : Int) - 6)) + 4)) then (if (wrap64 ((wrap64 ((a0.size : Int) - 6)) + 4)) < (a0.size : Int) then (if 0 ≤ (wrap64 ((wrap64 ((a0.size : Int) - 6)) + 5)) then (if (wrap64 ((wrap64 ((a0.size : Int) - 6)) + 5)) < (a0.size : Int) then ((sawmillref07_pair.f (bt a0 (wrap64 ((wrap64 ((a0.size : Int) - 6)) + 4))) (bt a0 (wrap64 ((wrap64 ((a0.size : Int) - 6)) + 5)))).bind fun t169 => (if t167 = 0 then (if t166 < 0 then (sawmillref07_Parse.j1 kj1 t166 t168 t169 true) else (if t166 > 1099511627776 then (sawmillref07_Parse.j1 kj1 t166 t168 t169 true) else (if t168 < 0 then (sawmillref07_Parse.j1 kj1 t166 t168 t169 true) else (if t168 > 23 then (sawmillref07_Parse.j1 kj1 t166 t168 t169 true) else (if t169 < 0 then (sawmillref07_Parse.j1 kj1 t166 t168 t169 true) else (sawmillref07_Parse.j1 kj1 t166 t168 t169 (decide (t169 > 59)))))))) else (sawmillref07_Parse.j1 kj1 t166 t168 t169 true))) else (none)) else (none)) else (none)) else (none)) = some (r1, r2) := H
                    have A28 := Aside0.mk A280
                    clear A280
                    obtain ⟨ji29, hji29⟩ : ∃ j_ : Int, (wrap64 ((wrap64 ((a0.size : Int) - 6)) + 4)) = j_ := ⟨_, rfl⟩
                    replace H : (if 0 ≤ (ji29) then (if (ji29) < (a0.size : Int) then (if 0 ≤ (wrap64 ((wrap64 ((a0.size : Int) - 6)) + 5)) then (if (wrap64 ((wrap64 ((a0.size : Int) - 6)) + 5)) < (a0.size : Int) then ((sawmillref07_pair.f (bt a0 (ji29)) (bt a0 (wrap64 ((wrap64 ((a0.size : Int) - 6)) + 5)))).bind fun t169 => (if t167 = 0 then (if t166 < 0 then (sawmillref07_Parse.j1 kj1 t166 t168 t169 true) else (if t166 > 1099511627776 then (sawmillref07_Parse.j1 kj1 t166 t168 t169 true) else (if t168 < 0 then (sawmillref07_Parse.j1 kj1 t166 t168 t169 true) else (if t168 > 23 then (sawmillref07_Parse.j1 kj1 t166 t168 t169 true) else (if t169 < 0 then (sawmillref07_Parse.j1 kj1 t166 t168 t169 true) else (sawmillref07_Parse.j1 kj1 t166 t168 t169 (decide (t169 > 59)))))))) else (sawmillref07_Parse.j1 kj1 t166 t168 t169 true))) else (none)) else (none)) else (none)) else (none)) = some (r1, r2) := by first | (rw [hji29] at H; exact H) | (simp only [hji29] at H ⊢; exact H)
                    (try rw [hji29] at A19)
                    (try rw [hji29] at A28)
                    have hji29w : (IntKind.i64.wrap ((wrap64 ((a0.size : Int) - 6)) + 4)) = ji29 := (i64_w _).trans hji29
                    by_cases c30 : 0 ≤ (ji29)
                    · rw [if_pos c30] at H
                      have c30b0 : decide (0 ≤ (ji29)) = true := decide_eq_true c30
                      clear c30
                      by_cases c31 : (ji29) < (a0.size : Int)
                      · rw [if_pos c31] at H
                        have c31b0 : decide ((ji29) < (a0.size : Int)) = true := decide_eq_true c31
                        clear c31
                        obtain ⟨ji33, hji33⟩ : ∃ j_ : Int, (wrap64 ((wrap64 ((a0.size : Int) - 6)) + 5)) = j_ := ⟨_, rfl⟩
                        replace H : (if 0 ≤ (ji33) then (if (ji33) < (a0.size : Int) then ((sawmillref07_pair.f (bt a0 (ji29)) (bt a0 (ji33))).bind fun t169 => (if t167 = 0 then (if t166 < 0 then (sawmillref07_Parse.j1 kj1 t166 t168 t169 true) else (if t166 > 1099511627776 then (sawmillref07_Parse.j1 kj1 t166 t168 t169 true) else (if t168 < 0 then (sawmillref07_Parse.j1 kj1 t166 t168 t169 true) else (if t168 > 23 then (sawmillref07_Parse.j1 kj1 t166 t168 t169 true) else (if t169 < 0 then (sawmillref07_Parse.j1 kj1 t166 t168 t169 true) else (sawmillref07_Parse.j1 kj1 t166 t168 t169 (decide (t169 > 59)))))))) else (sawmillref07_Parse.j1 kj1 t166 t168 t169 true))) else (none)) else (none)) = some (r1, r2) := by first | (rw [hji33] at H; exact H) | (simp only [hji33] at H ⊢; exact H)
                        (try rw [hji33] at A19)
                        (try rw [hji33] at A28)
                        have hji33w : (IntKind.i64.wrap ((wrap64 ((a0.size : Int) - 6)) + 5)) = ji33 := (i64_w _).trans hji33
                        by_cases c34 : 0 ≤ (ji33)
                        · rw [if_pos c34] at H
                          have c34b0 : decide (0 ≤ (ji33)) = true := decide_eq_true c34
                          clear c34
                          by_cases c35 : (ji33) < (a0.size : Int)
                          · rw [if_pos c35] at H
                            have c35b0 : decide ((ji33) < (a0.size : Int)) = true := decide_eq_true c35
                            clear c35
                            replace H := Option.bind_eq_some_iff.mp H
                            obtain ⟨t169, A370, H⟩ := H
                            replace H : (if t167 = 0 then (if t166 < 0 then (sawmillref07_Parse.j1 kj1 t166 t168 t169 true) else (if t166 > 1099511627776 then (sawmillref07_Parse.j1 kj1 t166 t168 t169 true) else (if t168 < 0 then (sawmillref07_Parse.j1 kj1 t166 t168 t169 true) else (if t168 > 23 then (sawmillref07_Parse.j1 kj1 t166 t168 t169 true) else (if t169 < 0 then (sawmillref07_Parse.j1 kj1 t166 t168 t169 true) else (sawmillref07_Parse.j1 kj1 t166 t168 t169 (decide (t169 > 59)))))))) else (sawmillref07_Parse.j1 kj1 t166 t168 t169 true)) = some (r1, r2) := H
                            have A37 := Aside0.mk A370
                            clear A370
                            have HC38 := Aside0.mk H
                            clear H
                            go_upto_region 6 with (first | (go_at_call 38; (with_reducible refine (sawmillref01_Parse.calls kj1 (a0.extract 1 ((wrap64 ((a0.size : Int) - 6)) : Int).toNat) 0 t166 t167 _ A19.out).mono ?_); rintro e w39 ⟨rfl, hb⟩; have n0_ := Aside0.mk (below_step (by repeat (first | (with_reducible first | exact HB.out | apply below_alloc | apply pw_below_drewN | apply below_drew1) | exact HB.out)) hb); clear HB; have HB := n0_; clear n0_; (try clear hb); (try clear hb2); (try clear hk); (try clear hi); have p23 : 0 ≤ ((ji20) : Int) := of_decide_eq_true (by first | (with_reducible assumption) | assumption); have q23 : (ji20) < (a0.size : Int) := of_decide_eq_true (by first | (with_reducible assumption) | assumption); have hx23 := bt_at a0 (ji20); replace p23 := eq_true p23; replace q23 := eq_true q23; have p27 : 0 ≤ ((ji24) : Int) := of_decide_eq_true (by first | (with_reducible assumption) | assumption); have q27 : (ji24) < (a0.size : Int) := of_decide_eq_true (by first | (with_reducible assumption) | assumption); have hx27 := bt_at a0 (ji24); replace p27 := eq_true p27; replace q27 := eq_true q27) | (go_at_call 39; (with_reducible refine (sawmillref07_pair.calls (bt a0 (ji20)) (bt a0 (ji24)) t168 _ A28.out).mono ?_); rintro e w' ⟨rfl, ⟨nd, rfl⟩⟩; (try first | exact ⟨rfl, _, World.drewN_drewN _ _ _⟩ | exact ⟨rfl, _, Eq.trans (World.drewN_drewN _ _ _) (congrArg (World.drewN _) (Nat.add_assoc _ _ _))⟩); have p32 : 0 ≤ ((ji29) : Int) := of_decide_eq_true (by first | (with_reducible assumption) | assumption); have q32 : (ji29) < (a0.size : Int) := of_decide_eq_true (by first | (with_reducible assumption) | assumption); have hx32 := bt_at a0 (ji29); replace p32 := eq_true p32; replace q32 := eq_true q32; have p36 : 0 ≤ ((ji33) : Int) := of_decide_eq_true (by first | (with_reducible assumption) | assumption); have q36 : (ji33) < (a0.size : Int) := of_decide_eq_true (by first | (with_reducible assumption) | assumption); have hx36 := bt_at a0 (ji33); replace p36 := eq_true p36; replace q36 := eq_true q36) | (go_at_call 39; (with_reducible refine (sawmillref07_pair.calls (bt a0 (ji29)) (bt a0 (ji33)) t169 _ A37.out).mono ?_); rintro e w' ⟨rfl, ⟨nd, rfl⟩⟩; (try first | exact ⟨rfl, _, World.drewN_drewN _ _ _⟩ | exact ⟨rfl, _, Eq.trans (World.drewN_drewN _ _ _) (congrArg (World.drewN _) (Nat.add_assoc _ _ _))⟩)))
                            repeat (go_quiet (first | (go_at_call 38; (with_reducible refine (sawmillref01_Parse.calls kj1 (a0.extract 1 ((wrap64 ((a0.size : Int) - 6)) : Int).toNat) 0 t166 t167 _ A19.out).mono ?_); rintro e w39 ⟨rfl, hb⟩; have n0_ := Aside0.mk (below_step (by repeat (first | (with_reducible first | exact HB.out | apply below_alloc | apply pw_below_drewN | apply below_drew1) | exact HB.out)) hb); clear HB; have HB := n0_; clear n0_; (try clear hb); (try clear hb2); (try clear hk); (try clear hi); have p23 : 0 ≤ ((ji20) : Int) := of_decide_eq_true (by first | (with_reducible assumption) | assumption); have q23 : (ji20) < (a0.size : Int) := of_decide_eq_true (by first | (with_reducible assumption) | assumption); have hx23 := bt_at a0 (ji20); replace p23 := eq_true p23; replace q23 := eq_true q23; have p27 : 0 ≤ ((ji24) : Int) := of_decide_eq_true (by first | (with_reducible assumption) | assumption); have q27 : (ji24) < (a0.size : Int) := of_decide_eq_true (by first | (with_reducible assumption) | assumption); have hx27 := bt_at a0 (ji24); replace p27 := eq_true p27; replace q27 := eq_true q27) | (go_at_call 39; (with_reducible refine (sawmillref07_pair.calls (bt a0 (ji20)) (bt a0 (ji24)) t168 _ A28.out).mono ?_); rintro e w' ⟨rfl, ⟨nd, rfl⟩⟩; (try first | exact ⟨rfl, _, World.drewN_drewN _ _ _⟩ | exact ⟨rfl, _, Eq.trans (World.drewN_drewN _ _ _) (congrArg (World.drewN _) (Nat.add_assoc _ _ _))⟩); have p32 : 0 ≤ ((ji29) : Int) := of_decide_eq_true (by first | (with_reducible assumption) | assumption); have q32 : (ji29) < (a0.size : Int) := of_decide_eq_true (by first | (with_reducible assumption) | assumption); have hx32 := bt_at a0 (ji29); replace p32 := eq_true p32; replace q32 := eq_true q32; have p36 : 0 ≤ ((ji33) : Int) := of_decide_eq_true (by first | (with_reducible assumption) | assumption); have q36 : (ji33) < (a0.size : Int) := of_decide_eq_true (by first | (with_reducible assumption) | assumption); have hx36 := bt_at a0 (ji33); replace p36 := eq_true p36; replace q36 := eq_true q36) | (go_at_call 39; (with_reducible refine (sawmillref07_pair.calls (bt a0 (ji29)) (bt a0 (ji33)) t169 _ A37.out).mono ?_); rintro e w' ⟨rfl, ⟨nd, rfl⟩⟩; (try first | exact ⟨rfl, _, World.drewN_drewN _ _ _⟩ | exact ⟨rfl, _, Eq.trans (World.drewN_drewN _ _ _) (congrArg (World.drewN _) (Nat.add_assoc _ _ _))⟩))); go_upto_region 6 with (first | (go_at_call 38; (with_reducible refine (sawmillref01_Parse.calls kj1 (a0.extract 1 ((wrap64 ((a0.size : Int) - 6)) : Int).toNat) 0 t166 t167 _ A19.out).mono ?_); rintro e w39 ⟨rfl, hb⟩; have n0_ := Aside0.mk (below_step (by repeat (first | (with_reducible first | exact HB.out | apply below_alloc | apply pw_below_drewN | apply below_drew1) | exact HB.out)) hb); clear HB; have HB := n0_; clear n0_; (try clear hb); (try clear hb2); (try clear hk); (try clear hi); have p23 : 0 ≤ ((ji20) : Int) := of_decide_eq_true (by first | (with_reducible assumption) | assumption); have q23 : (ji20) < (a0.size : Int) := of_decide_eq_true (by first | (with_reducible assumption) | assumption); have hx23 := bt_at a0 (ji20); replace p23 := eq_true p23; replace q23 := eq_true q23; have p27 : 0 ≤ ((ji24) : Int) := of_decide_eq_true (by first | (with_reducible assumption) | assumption); have q27 : (ji24) < (a0.size : Int) := of_decide_eq_true (by first | (with_reducible assumption) | assumption); have hx27 := bt_at a0 (ji24); replace p27 := eq_true p27; replace q27 := eq_true q27) | (go_at_call 39; (with_reducible refine (sawmillref07_pair.calls (bt a0 (ji20)) (bt a0 (ji24)) t168 _ A28.out).mono ?_); rintro e w' ⟨rfl, ⟨nd, rfl⟩⟩; (try first | exact ⟨rfl, _, World.drewN_drewN _ _ _⟩ | exact ⟨rfl, _, Eq.trans (World.drewN_drewN _ _ _) (congrArg (World.drewN _) (Nat.add_assoc _ _ _))⟩); have p32 : 0 ≤ ((ji29) : Int) := of_decide_eq_true (by first | (with_reducible assumption) | assumption); have q32 : (ji29) < (a0.size : Int) := of_decide_eq_true (by first | (with_reducible assumption) | assumption); have hx32 := bt_at a0 (ji29); replace p32 := eq_true p32; replace q32 := eq_true q32; have p36 : 0 ≤ ((ji33) : Int) := of_decide_eq_true (by first | (with_reducible assumption) | assumption); have q36 : (ji33) < (a0.size : Int) := of_decide_eq_true (by first | (with_reducible assumption) | assumption); have hx36 := bt_at a0 (ji33); replace p36 := eq_true p36; replace q36 := eq_true q36) | (go_at_call 39; (with_reducible refine (sawmillref07_pair.calls (bt a0 (ji29)) (bt a0 (ji33)) t169 _ A37.out).mono ?_); rintro e w' ⟨rfl, ⟨nd, rfl⟩⟩; (try first | exact ⟨rfl, _, World.drewN_drewN _ _ _⟩ | exact ⟨rfl, _, Eq.trans (World.drewN_drewN _ _ _) (congrArg (World.drewN _) (Nat.add_assoc _ _ _))⟩))))
                            (try simp only [Act.put, List.setIfInBounds_toArray, List.set_cons_zero, List.set_cons_succ])
                            go_cut [82] (fun v82 wc => ∃ (kq : Nat) (x82_37 : Bool), v82 = .bool x82_37 ∧ Aside0 (sawmillref07_Parse.j1 kq t166 t168 t169 x82_37 = some (r1, r2)) ∧ Aside0 (kq ≤ kj1) ∧ Aside0 (Below w.heap.size w wc))
                            case first =>
                              have H := HC38.out
                              clear HC38
                              by_cases c40 : t167 = 0
                              · rw [if_pos c40] at H
                                have c40b0 : (t167 == 0) = true := beq_iff_eq.mpr c40
                                have c40b1 : (t167 != 0) = false := bne_eq_false_iff_eq.mpr c40
                                clear c40
                                (first | rw [c40b0] | (simp only [i64_w, i32_w]; rw [c40b0]) | skip)
                                by_cases c41 : t166 < 0
                                · rw [if_pos c41] at H
                                  have c41b0 : decide (t166 < 0) = true := decide_eq_true c41
                                  clear c41
                                  have H' := Aside0.mk H
                                  clear H
                                  go_wp2
                                  repeat (go_quiet (fail); try go_wp2)
                                  go_meet
                                  case rel => exact ⟨_, (true), (by first | rfl | (simp; done) | (simp [*]; done)), H', ⟨by have := HJ1.out; first | omega | exact Nat.le_refl _⟩, ⟨by repeat (first | (with_reducible first | exact HB.out | apply below_alloc | apply pw_below_drewN | apply below_drew1) | exact HB.out)⟩⟩
                                · rw [if_neg c41] at H
                                  have c41b0 : decide (t166 < 0) = false := decide_eq_false c41
                                  clear c41
                                  by_cases c42 : t166 > 1099511627776
                                  · rw [if_pos c42] at H
                                    have c42b0 : decide (1099511627776 < t166) = true := decide_eq_true c42
                                    clear c42
                                    have H' := Aside0.mk H
                                    clear H
                                    go_wp2
                                    repeat (go_quiet (fail); try go_wp2)
                                    go_meet
                                    case rel => exact ⟨_, (true), (by first | rfl | (simp; done) | (simp [*]; done)), H', ⟨by have := HJ1.out; first | omega | exact Nat.le_refl _⟩, ⟨by repeat (first | (with_reducible first | exact HB.out | apply below_alloc | apply pw_below_drewN | apply below_drew1) | exact HB.out)⟩⟩
                                  · rw [if_neg c42] at H
                                    have c42b0 : decide (1099511627776 < t166) = false := decide_eq_false c42
                                    clear c42
                                    by_cases c43 : t168 < 0
                                    · rw [if_pos c43] at H
                                      have c43b0 : decide (t168 < 0) = true := decide_eq_true c43
                                      clear c43
                                      have H' := Aside0.mk H
                                      clear H
                                      go_wp2
                                      repeat (go_quiet (fail); try go_wp2)
                                      go_meet
                                      case rel => exact ⟨_, (true), (by first | rfl | (simp; done) | (simp [*]; done)), H', ⟨by have := HJ1.out; first | omega | exact Nat.le_refl _⟩, ⟨by repeat (first | (with_reducible first | exact HB.out | apply below_alloc | apply pw_below_drewN | apply below_drew1) | exact HB.out)⟩⟩
                                    · rw [if_neg c43] at H
                                      have c43b0 : decide (t168 < 0) = false := decide_eq_false c43
                                      clear c43
                                      by_cases c44 : t168 > 23
                                      · rw [if_pos c44] at H
                                        have c44b0 : decide (23 < t168) = true := decide_eq_true c44
                                        clear c44
                                        have H' := Aside0.mk H
                                        clear H
                                        go_wp2
                                        repeat (go_quiet (fail); try go_wp2)
                                        go_meet
                                        case rel => exact ⟨_, (true), (by first | rfl | (simp; done) | (simp [*]; done)), H', ⟨by have := HJ1.out; first | omega | exact Nat.le_refl _⟩, ⟨by repeat (first | (with_reducible first | exact HB.out | apply below_alloc | apply pw_below_drewN | apply below_drew1) | exact HB.out)⟩⟩
                                      · rw [if_neg c44] at H
                                        have c44b0 : decide (23 < t168) = false := decide_eq_false c44
                                        clear c44
                                        by_cases c45 : t169 < 0
                                        · rw [if_pos c45] at H
                                          have c45b0 : decide (t169 < 0) = true := decide_eq_true c45
                                          clear c45
                                          have H' := Aside0.mk H
                                          clear H
                                          go_wp2
                                          repeat (go_quiet (fail); try go_wp2)
                                          go_meet
                                          case rel => exact ⟨_, (true), (by first | rfl | (simp; done) | (simp [*]; done)), H', ⟨by have := HJ1.out; first | omega | exact Nat.le_refl _⟩, ⟨by repeat (first | (with_reducible first | exact HB.out | apply below_alloc | apply pw_below_drewN | apply below_drew1) | exact HB.out)⟩⟩
                                        · rw [if_neg c45] at H
                                          have c45b0 : decide (t169 < 0) = false := decide_eq_false c45
                                          clear c45
                                          have H' := Aside0.mk H
                                          clear H
                                          go_wp2
                                          repeat (go_quiet (fail); try go_wp2)
                                          go_meet
                                          case rel => exact ⟨_, (decide (t169 > 59)), (by first | rfl | (simp; done) | (simp [*]; done)), H', ⟨by have := HJ1.out; first | omega | exact Nat.le_refl _⟩, ⟨by repeat (first | (with_reducible first | exact HB.out | apply below_alloc | apply pw_below_drewN | apply below_drew1) | exact HB.out)⟩⟩
                              · rw [if_neg c40] at H
                                have c40b0 : (t167 == 0) = false := beq_eq_false_iff_ne.mpr c40
                                have c40b1 : (t167 != 0) = true := bne_iff_ne.mpr c40
                                (first | rw [c40b0] | (simp only [i64_w, i32_w]; rw [c40b0]) | skip)
                                have H' := Aside0.mk H
                                clear H
                                go_wp2
                                repeat (go_quiet (fail); try go_wp2)
                                go_meet
                                case rel => exact ⟨_, (true), (by first | rfl | (simp; done) | (simp [*]; done)), H', ⟨by have := HJ1.out; first | omega | exact Nat.le_refl _⟩, ⟨by repeat (first | (with_reducible first | exact HB.out | apply below_alloc | apply pw_below_drewN | apply below_drew1) | exact HB.out)⟩⟩
                            case rest =>
                              clear HC38
                              try clear c1
                              try clear p1
                              try clear q1
                              try clear hx1
                              try clear c2
                              try clear p2
                              try clear q2
                              try clear hx2
                              try clear c3
                              try clear c3b0
                              try clear p3
                              try clear q3
                              try clear hx3
                              try clear c4
                              try clear c4b0
                              try clear c4b1
                              try clear p5
                              try clear q5
                              try clear hx5
                              try clear qi5
                              try clear c6
                              try clear c6b0
                              try clear c6b1
                              try clear p6
                              try clear c8
                              try clear c8b0
                              try clear c9
                              try clear c9b0
                              try clear p10
                              try clear q10
                              try clear hx10
                              try clear c11
                              try clear c11b0
                              try clear c11b1
                              try clear c13
                              try clear c13b0
                              try clear c14
                              try clear c14b0
                              try clear p15
                              try clear q15
                              try clear hx15
                              try clear c16
                              try clear c17
                              try clear c17b0
                              try clear c17b1
                              try clear c18
                              try clear c18b0
                              try clear c18b1
                              try clear c21
                              try clear c21b0
                              try clear c22
                              try clear c22b0
                              try clear p23
                              try clear q23
                              try clear hx23
                              try clear c25
                              try clear c25b0
                              try clear c26
                              try clear c26b0
                              try clear c27
                              try clear p27
                              try clear q27
                              try clear hx27
                              try clear c30
                              try clear c30b0
                              try clear c31
                              try clear c31b0
                              try clear p32
                              try clear q32
                              try clear hx32
                              try clear c34
                              try clear c34b0
                              try clear c35
                              try clear c35b0
                              try clear p36
                              try clear q36
                              try clear hx36
                              try clear c40
                              try clear c40b0
                              try clear c40b1
                              try clear c41
                              try clear c41b0
                              try clear c42
                              try clear c42b0
                              try clear c43
                              try clear c43b0
                              try clear c44
                              try clear c44b0
                              try clear c45
                              try clear c45b0
                              try clear p1
                              try clear p10
                              try clear p15
                              try clear p2
                              try clear p23
                              try clear p27
                              try clear p32
                              try clear p36
                              try clear p5
                              try clear p6
                              try clear q1
                              try clear q10
                              try clear q15
                              try clear q23
                              try clear q27
                              try clear q32
                              try clear q36
                              try clear q5
                              obtain ⟨kq, x82_37, rfl, HA, HJ37, HB⟩ := hcut
                              cases kq with
                              | zero => exact absurd HA.out (by simp [sawmillref07_Parse.j1])
                              | succ kj37 =>
                                have H := HA.out
                                clear HA
                                simp only [sawmillref07_Parse.j1] at H
                                by_cases c46 : x82_37 = true
                                · subst c46
                                  have H1 : (some (0, 5)) = some (r1, r2) := by rw [if_pos rfl] at H; exact H
                                  clear H
                                  have H := H1
                                  clear H1
                                  simp only [Option.some.injEq, Prod.mk.injEq] at H
                                  obtain ⟨rfl, rfl⟩ := H
                                  go_wp2
                                  repeat (go_quiet (fail); try go_wp2)
                                  go_ret2
                                  exact ⟨by first | rfl | (simp [errW_none, errW_some] <;> rfl) | (simp only [← hji20, ← hji24, ← hji29, ← hji33]; first | rfl | (simp [errW_none, errW_some] <;> rfl)) | (simp [*, errW_none, errW_some] <;> rfl), by repeat (first | (with_reducible first | exact HB.out | apply below_alloc | apply pw_below_drewN | apply below_drew1) | exact HB.out)⟩
                                · replace c46 := Bool.eq_false_iff.mpr c46
                                  subst c46
                                  have H1 : (if t166 > 10000000 then (some (0, 15)) else ((sawmillref07_IsTime.f (wrap64 ((wrap64 ((wrap64 (t166 * 1440)) + (wrap64 (t168 * 60)))) + t169))).bind fun t170 => (if t170 = true then (some (wrap64 ((wrap64 ((wrap64 (t166 * 1440)) + (wrap64 (t168 * 60)))) + t169), 0)) else (some (0, 15))))) = some (r1, r2) := by rw [if_neg (show ¬ (false = true) by decide)] at H; exact H
                                  clear H
                                  have H := H1
                                  clear H1
                                  by_cases c47 : t166 > 10000000
                                  · rw [if_pos c47] at H
                                    have c47b0 : decide (10000000 < t166) = true := decide_eq_true c47
                                    clear c47
                                    simp only [Option.some.injEq, Prod.mk.injEq] at H
                                    obtain ⟨rfl, rfl⟩ := H
                                    go_wp2
                                    repeat (go_quiet (fail); try go_wp2)
                                    go_ret2
                                    exact ⟨by first | rfl | (simp [errW_none, errW_some] <;> rfl) | (simp only [← hji20, ← hji24, ← hji29, ← hji33]; first | rfl | (simp [errW_none, errW_some] <;> rfl)) | (simp [*, errW_none, errW_some] <;> rfl), by repeat (first | (with_reducible first | exact HB.out | apply below_alloc | apply pw_below_drewN | apply below_drew1) | exact HB.out)⟩
                                  · rw [if_neg c47] at H
                                    have c47b0 : decide (10000000 < t166) = false := decide_eq_false c47
                                    clear c47
                                    replace H := Option.bind_eq_some_iff.mp H
                                    obtain ⟨t170, A480, H⟩ := H
                                    replace H : (if t170 = true then (some (wrap64 ((wrap64 ((wrap64 (t166 * 1440)) + (wrap64 (t168 * 60)))) + t169), 0)) else (some (0, 15))) = some (r1, r2) := H
                                    have A48 := Aside0.mk A480
                                    clear A480
                                    by_cases c49 : t170 = true
                                    · subst c49
                                      have H1 : (some (wrap64 ((wrap64 ((wrap64 (t166 * 1440)) + (wrap64 (t168 * 60)))) + t169), 0)) = some (r1, r2) := by rw [if_pos rfl] at H; exact H
                                      clear H
                                      have H := H1
                                      clear H1
                                      simp only [Option.some.injEq, Prod.mk.injEq] at H
                                      obtain ⟨rfl, rfl⟩ := H
                                      go_wp2_with (first | (go_at_call 32; (with_reducible refine (sawmillref07_IsTime.calls (wrap64 ((wrap64 ((wrap64 (t166 * 1440)) + (wrap64 (t168 * 60)))) + t169)) true _ A48.out).mono ?_); rintro e w' ⟨rfl, ⟨nd, rfl⟩⟩; (try first | exact ⟨rfl, _, World.drewN_drewN _ _ _⟩ | exact ⟨rfl, _, Eq.trans (World.drewN_drewN _ _ _) (congrArg (World.drewN _) (Nat.add_assoc _ _ _))⟩)))
                                      repeat (go_quiet (first | (go_at_call 32; (with_reducible refine (sawmillref07_IsTime.calls (wrap64 ((wrap64 ((wrap64 (t166 * 1440)) + (wrap64 (t168 * 60)))) + t169)) true _ A48.out).mono ?_); rintro e w' ⟨rfl, ⟨nd, rfl⟩⟩; (try first | exact ⟨rfl, _, World.drewN_drewN _ _ _⟩ | exact ⟨rfl, _, Eq.trans (World.drewN_drewN _ _ _) (congrArg (World.drewN _) (Nat.add_assoc _ _ _))⟩))); try go_wp2_with (first | (go_at_call 32; (with_reducible refine (sawmillref07_IsTime.calls (wrap64 ((wrap64 ((wrap64 (t166 * 1440)) + (wrap64 (t168 * 60)))) + t169)) true _ A48.out).mono ?_); rintro e w' ⟨rfl, ⟨nd, rfl⟩⟩; (try first | exact ⟨rfl, _, World.drewN_drewN _ _ _⟩ | exact ⟨rfl, _, Eq.trans (World.drewN_drewN _ _ _) (congrArg (World.drewN _) (Nat.add_assoc _ _ _))⟩))))
                                      go_ret2
                                      exact ⟨by first | rfl | (simp [errW_none, errW_some] <;> rfl) | (simp only [← hji20, ← hji24, ← hji29, ← hji33]; first | rfl | (simp [errW_none, errW_some] <;> rfl)) | (simp [*, errW_none, errW_some] <;> rfl), by repeat (first | (with_reducible first | exact HB.out | apply below_alloc | apply pw_below_drewN | apply below_drew1) | exact HB.out)⟩
                                    · replace c49 := Bool.eq_false_iff.mpr c49
                                      subst c49
                                      have H1 : (some (0, 15)) = some (r1, r2) := by rw [if_neg (show ¬ (false = true) by decide)] at H; exact H
                                      clear H
                                      have H := H1
                                      clear H1
                                      simp only [Option.some.injEq, Prod.mk.injEq] at H
                                      obtain ⟨rfl, rfl⟩ := H
                                      go_wp2_with (first | (go_at_call 32; (with_reducible refine (sawmillref07_IsTime.calls (wrap64 ((wrap64 ((wrap64 (t166 * 1440)) + (wrap64 (t168 * 60)))) + t169)) false _ A48.out).mono ?_); rintro e w' ⟨rfl, ⟨nd, rfl⟩⟩; (try first | exact ⟨rfl, _, World.drewN_drewN _ _ _⟩ | exact ⟨rfl, _, Eq.trans (World.drewN_drewN _ _ _) (congrArg (World.drewN _) (Nat.add_assoc _ _ _))⟩)))
                                      repeat (go_quiet (first | (go_at_call 32; (with_reducible refine (sawmillref07_IsTime.calls (wrap64 ((wrap64 ((wrap64 (t166 * 1440)) + (wrap64 (t168 * 60)))) + t169)) false _ A48.out).mono ?_); rintro e w' ⟨rfl, ⟨nd, rfl⟩⟩; (try first | exact ⟨rfl, _, World.drewN_drewN _ _ _⟩ | exact ⟨rfl, _, Eq.trans (World.drewN_drewN _ _ _) (congrArg (World.drewN _) (Nat.add_assoc _ _ _))⟩))); try go_wp2_with (first | (go_at_call 32; (with_reducible refine (sawmillref07_IsTime.calls (wrap64 ((wrap64 ((wrap64 (t166 * 1440)) + (wrap64 (t168 * 60)))) + t169)) false _ A48.out).mono ?_); rintro e w' ⟨rfl, ⟨nd, rfl⟩⟩; (try first | exact ⟨rfl, _, World.drewN_drewN _ _ _⟩ | exact ⟨rfl, _, Eq.trans (World.drewN_drewN _ _ _) (congrArg (World.drewN _) (Nat.add_assoc _ _ _))⟩))))
                                      go_ret2
                                      exact ⟨by first | rfl | (simp [errW_none, errW_some] <;> rfl) | (simp only [← hji20, ← hji24, ← hji29, ← hji33]; first | rfl | (simp [errW_none, errW_some] <;> rfl)) | (simp [*, errW_none, errW_some] <;> rfl), by repeat (first | (with_reducible first | exact HB.out | apply below_alloc | apply pw_below_drewN | apply below_drew1) | exact HB.out)⟩
                          · rw [if_neg c35] at H
                            exact absurd H (by simp)
                        · rw [if_neg c34] at H
                          exact absurd H (by simp)
                      · rw [if_neg c31] at H
                        exact absurd H (by simp)
                    · rw [if_neg c30] at H
                      exact absurd H (by simp)
                  · rw [if_neg c26] at H
                    exact absurd H (by simp)
                · rw [if_neg c25] at H
                  exact absurd H (by simp)
              · rw [if_neg c22] at H
                exact absurd H (by simp)
            · rw [if_neg c21] at H
              exact absurd H (by simp)
          · rw [if_neg c18] at H
            exact absurd H (by simp)
        · rw [if_neg c17] at H
          exact absurd H (by simp)

/-! ### sawmillref01_size: function 49 -/
def sawmillref01_size.f (a0 : Int) : Option (Int) := if a0 < 0 then (some (IntKind.u64.wrap ((IntKind.u64.wrap (wrap64 (-(wrap64 (a0 + 1))))) + 1))) else (some (IntKind.u64.wrap (a0)))
set_option maxHeartbeats 8000000 in
set_option maxRecDepth 100000 in
theorem sawmillref01_size.calls (a0 : Int) (r : Int) (w : World) (h : sawmillref01_size.f a0 = some r) :
    Calls Tryd.prog 49 #[.int .i64 a0] w fun e w' => e = .returned (.int .u64 r) ∧ Drawn0 w w' := by
  have H : (if a0 < 0 then (some (IntKind.u64.wrap ((IntKind.u64.wrap (wrap64 (-(wrap64 (a0 + 1))))) + 1))) else (some (IntKind.u64.wrap (a0)))) = some r := h
  clear h
  by_cases c2 : a0 < 0
  · rw [if_pos c2] at H
    have c2b0 : decide (a0 < 0) = true := decide_eq_true c2
    clear c2
    obtain rfl := Option.some.inj H
    go_enter Tryd.func49, Tryd.ntmps49
    go_wp2
    go_ret
    exact ⟨by first | rfl | (simp; done) | (simp [*]; done), by repeat (first | exact Drawn0.refl _ | apply Drawn0.step)⟩
  · rw [if_neg c2] at H
    have c2b0 : decide (a0 < 0) = false := decide_eq_false c2
    clear c2
    obtain rfl := Option.some.inj H
    go_enter Tryd.func49, Tryd.ntmps49
    go_wp2
    go_ret
    exact ⟨by first | rfl | (simp; done) | (simp [*]; done), by repeat (first | exact Drawn0.refl _ | apply Drawn0.step)⟩

end Go.Proofs.YthdkfgpcdghblaaDoor.PAll
