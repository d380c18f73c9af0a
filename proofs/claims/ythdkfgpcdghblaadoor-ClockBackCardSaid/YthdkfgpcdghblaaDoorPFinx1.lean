-- Written for this claim by the kit's print program (print.py), which this session called for several functions at once
import Derived.Test.YthdkfgpcdghblaaDoorPFinx0
namespace Go.Proofs.YthdkfgpcdghblaaDoor.PFin
open Go.RowKit Go.Proofs.YthdkfgpcdghblaaDoor.PAll Go.Proofs.YthdkfgpcdghblaaDoor.Cal Go.Proofs.YthdkfgpcdghblaaDoorW.PrintWords Go.Proofs.YthdkfgpcdghblaaDoorW.PrintLast Go.Proofs.YthdkfgpcdghblaaDoorW.PrintMore
attribute [local go_sem] max2_int min2_int max_two min_two max_three min_three max_four min_four   -- for this text's walks alone
set_option linter.unusedVariables false
set_option linter.unusedSimpArgs false

/-! ### clock_Parse: function 26 -/
mutual
def clock_Parse.j0 : Nat → ByteArray → ByteArray → Bool → Option (Int × Int)
  | 0, _, _, _ => none
  | k + 1, x4, x5, x41 => if x41 = true then (some (0, 5)) else (if 1 ≤ (x4.size : Int) then ((clock_number.f k (x4.extract 1 x4.size)).bind fun bt104 => (if 0 ≤ 2 then (if 2 ≤ (x5.size : Int) then ((clock_pair.f (x5.extract 0 2) 24).bind fun bt106 => (if 3 ≤ (x5.size : Int) then ((clock_pair.f (x5.extract 3 x5.size) 60).bind fun bt108 => (if bt104.2 = true then (if bt106.2 = true then (clock_Parse.j1 k bt104.1 bt106.1 bt108.1 (!bt108.2)) else (clock_Parse.j1 k bt104.1 bt106.1 bt108.1 true)) else (clock_Parse.j1 k bt104.1 bt106.1 bt108.1 true))) else (none))) else (none)) else (none))) else (none))
def clock_Parse.j1 : Nat → Int → Int → Int → Bool → Option (Int × Int)
  | 0, _, _, _, _ => none
  | k + 1, x7, x9, x11, x69 => if x69 = true then (some (0, 5)) else ((clock_isTime.f (wrap64 ((wrap64 ((wrap64 (x7 * 1440)) + (wrap64 (x9 * 60)))) + x11))).bind fun t110 => (if t110 = true then (some (wrap64 ((wrap64 ((wrap64 (x7 * 1440)) + (wrap64 (x9 * 60)))) + x11), 0)) else (some (0, 15))))
end
def clock_Parse.f (k : Nat) (a0 : ByteArray) : Option (Int × Int) := (strings_Cut.f a0 (⟨#[32]⟩ : ByteArray)).bind fun bt101 => (if bt101.2.2 = true then (if (bt101.1.size : Int) < 2 then (clock_Parse.j0 k bt101.1 bt101.2.1 true) else (if 0 < (bt101.1.size : Int) then (if (bt bt101.1 0) = 100 then (if (bt101.2.1.size : Int) = 5 then (if 2 < (bt101.2.1.size : Int) then (clock_Parse.j0 k bt101.1 bt101.2.1 ((bt bt101.2.1 2) != 58)) else (none)) else (clock_Parse.j0 k bt101.1 bt101.2.1 true)) else (clock_Parse.j0 k bt101.1 bt101.2.1 true)) else (none))) else (clock_Parse.j0 k bt101.1 bt101.2.1 true))
theorem clock_Parse.mono_l : ∀ k, (∀ y0 y1 y2, LeO (clock_Parse.j0 k y0 y1 y2) (clock_Parse.j0 (k + 1) y0 y1 y2)) ∧ (∀ y0 y1 y2 y3, LeO (clock_Parse.j1 k y0 y1 y2 y3) (clock_Parse.j1 (k + 1) y0 y1 y2 y3))
  | 0 => ⟨fun _ _ _ r h => by simp [clock_Parse.j0] at h, fun _ _ _ _ r h => by simp [clock_Parse.j1] at h⟩
  | k + 1 => by
    obtain ⟨ih0, ih1⟩ := clock_Parse.mono_l k
    refine ⟨?_, ?_⟩
    · intro y0 y1 y2
      unfold clock_Parse.j0
      repeat' first
      | (with_reducible exact ih0 _ _ _)
      | (with_reducible exact ih1 _ _ _ _)
      | (with_reducible exact clock_number.mono _ _)
      | (with_reducible exact LeO.refl _)
      | (with_reducible exact LeO.none _)
      | (with_reducible refine LeO.ite ?_ ?_)
      | (with_reducible refine LeO.bind ?_ (fun _ => ?_))
      | exact ih0 _ _ _
      | exact ih1 _ _ _ _
      | exact clock_number.mono _ _
      | exact LeO.none _
      | refine LeO.ite ?_ ?_
      | refine LeO.bind ?_ (fun _ => ?_)
    · intro y0 y1 y2 y3
      unfold clock_Parse.j1
      repeat' first
      | (with_reducible exact ih0 _ _ _)
      | (with_reducible exact ih1 _ _ _ _)
      | (with_reducible exact clock_number.mono _ _)
      | (with_reducible exact LeO.refl _)
      | (with_reducible exact LeO.none _)
      | (with_reducible refine LeO.ite ?_ ?_)
      | (with_reducible refine LeO.bind ?_ (fun _ => ?_))
      | exact ih0 _ _ _
      | exact ih1 _ _ _ _
      | exact clock_number.mono _ _
      | exact LeO.none _
      | refine LeO.ite ?_ ?_
      | refine LeO.bind ?_ (fun _ => ?_)
theorem clock_Parse.mono : ∀ a0 k, LeO (clock_Parse.f k a0) (clock_Parse.f (k + 1) a0) := by
  intro a0 k
  obtain ⟨ih0, ih1⟩ := clock_Parse.mono_l k
  unfold clock_Parse.f
  repeat' first
      | (with_reducible exact ih0 _ _ _)
      | (with_reducible exact ih1 _ _ _ _)
      | (with_reducible exact clock_number.mono _ _)
      | (with_reducible exact LeO.refl _)
      | (with_reducible exact LeO.none _)
      | (with_reducible refine LeO.ite ?_ ?_)
      | (with_reducible refine LeO.bind ?_ (fun _ => ?_))
      | exact ih0 _ _ _
      | exact ih1 _ _ _ _
      | exact clock_number.mono _ _
      | exact LeO.none _
      | refine LeO.ite ?_ ?_
      | refine LeO.bind ?_ (fun _ => ?_)
set_option maxHeartbeats 8000000 in
set_option maxRecDepth 100000 in
theorem clock_Parse.calls (k : Nat) (a0 : ByteArray) (r1 : Int) (r2 : Int) (w : World) (h : clock_Parse.f k a0 = some (r1, r2)) :
    Calls Tryd.prog 26 #[.string a0] w fun e w' => e = .returned (.tuple #[.int .i64 r1, .int .i64 r2]) ∧ Drawn0 w w' := by
  have H : ((strings_Cut.f a0 (⟨#[32]⟩ : ByteArray)).bind fun bt101 => (if bt101.2.2 = true then (if (bt101.1.size : Int) < 2 then (clock_Parse.j0 k bt101.1 bt101.2.1 true) else (if 0 < (bt101.1.size : Int) then (if (bt bt101.1 0) = 100 then (if (bt101.2.1.size : Int) = 5 then (if 2 < (bt101.2.1.size : Int) then (clock_Parse.j0 k bt101.1 bt101.2.1 ((bt bt101.2.1 2) != 58)) else (none)) else (clock_Parse.j0 k bt101.1 bt101.2.1 true)) else (clock_Parse.j0 k bt101.1 bt101.2.1 true)) else (none))) else (clock_Parse.j0 k bt101.1 bt101.2.1 true))) = some (r1, r2) := h
  clear h
  replace H := Option.bind_eq_some_iff.mp H
  obtain ⟨⟨t101, t102, t103⟩, A20, H⟩ := H
  replace H : (if t103 = true then (if (t101.size : Int) < 2 then (clock_Parse.j0 k t101 t102 true) else (if 0 < (t101.size : Int) then (if (bt t101 0) = 100 then (if (t102.size : Int) = 5 then (if 2 < (t102.size : Int) then (clock_Parse.j0 k t101 t102 ((bt t102 2) != 58)) else (none)) else (clock_Parse.j0 k t101 t102 true)) else (clock_Parse.j0 k t101 t102 true)) else (none))) else (clock_Parse.j0 k t101 t102 true)) = some (r1, r2) := H
  have A2 := Aside0.mk A20
  clear A20
  have HC3 := Aside0.mk H
  clear H
  go_enter Tryd.func26, Tryd.ntmps26
  go_upto_region 2 with (first | ((with_reducible refine gate_callee (f := 35) rfl ?_); refine goesL_ (some 16) rfl rfl Tryd.func35 (by kernel_rfl) rfl #[.string a0, .string (⟨#[32]⟩ : ByteArray)] rfl (by (try simp only [List.map_toArray, List.map_cons, List.map_nil]); first | done | rfl | (simp only [List.length_drop, List.length_take]; rfl)) ?_; (with_reducible refine (strings_Cut.calls a0 (⟨#[32]⟩ : ByteArray) t101 t102 t103 _ A2.out).mono ?_); rintro e w' ⟨rfl, ⟨nd, rfl⟩⟩; refine ⟨_, rfl, ?_⟩))
  (try simp only [Act.put, List.setIfInBounds_toArray, List.set_cons_zero, List.set_cons_succ])
  go_cut [41] (fun v41 wc => ∃ (kq : Nat) (x41_2 : Bool), v41 = .bool x41_2 ∧ Aside0 (clock_Parse.j0 kq t101 t102 x41_2 = some (r1, r2)) ∧ Aside0 (kq ≤ k) ∧ Drawn0 w wc)
  case first =>
    have H := HC3.out
    clear HC3
    by_cases c4 : t103 = true
    · subst c4
      have H1 : (if (t101.size : Int) < 2 then (clock_Parse.j0 k t101 t102 true) else (if 0 < (t101.size : Int) then (if (bt t101 0) = 100 then (if (t102.size : Int) = 5 then (if 2 < (t102.size : Int) then (clock_Parse.j0 k t101 t102 ((bt t102 2) != 58)) else (none)) else (clock_Parse.j0 k t101 t102 true)) else (clock_Parse.j0 k t101 t102 true)) else (none))) = some (r1, r2) := by rw [if_pos rfl] at H; exact H
      clear H
      have H := H1
      clear H1
      by_cases c5 : (t101.size : Int) < 2
      · rw [if_pos c5] at H
        have c5b0 : decide ((t101.size : Int) < 2) = true := decide_eq_true c5
        have c5b1 : decide (t101.size < 2) = true := decide_eq_true (by omega)
        clear c5
        (first | rw [c5b0] | (simp only [i64_w, i32_w]; rw [c5b0]) | skip)
        have H' := Aside0.mk H
        clear H
        go_wp2
        go_meet
        case rel => exact ⟨_, (true), (by first | rfl | (simp; done) | (simp [*]; done)), H', ⟨by first | omega | exact Nat.le_refl _⟩, by repeat (first | exact Drawn0.refl _ | apply Drawn0.step)⟩
      · rw [if_neg c5] at H
        have c5b0 : decide ((t101.size : Int) < 2) = false := decide_eq_false c5
        have c5b1 : decide (t101.size < 2) = false := decide_eq_false (by omega)
        clear c5
        (first | rw [c5b0] | (simp only [i64_w, i32_w]; rw [c5b0]) | skip)
        by_cases c6 : 0 < (t101.size : Int)
        · rw [if_pos c6] at H
          have c6b0 : decide (0 < (t101.size : Int)) = true := decide_eq_true c6
          have c6b1 : decide (0 < t101.size) = true := decide_eq_true (by omega)
          clear c6
          by_cases c8 : (bt t101 0) = 100
          · rw [if_pos c8] at H
            have c8b0 : ((bt t101 0) == 100) = true := beq_iff_eq.mpr c8
            have c8b1 : ((bt t101 0) != 100) = false := bne_eq_false_iff_eq.mpr c8
            clear c8
            by_cases c9 : (t102.size : Int) = 5
            · rw [if_pos c9] at H
              have c9b0 : ((t102.size : Int) == 5) = true := beq_iff_eq.mpr c9
              have c9b1 : ((t102.size : Int) != 5) = false := bne_eq_false_iff_eq.mpr c9
              clear c9
              by_cases c10 : 2 < (t102.size : Int)
              · rw [if_pos c10] at H
                have c10b0 : decide (2 < (t102.size : Int)) = true := decide_eq_true c10
                have c10b1 : decide (2 < t102.size) = true := decide_eq_true (by omega)
                clear c10
                have H' := Aside0.mk H
                clear H
                have p7 : 0 ≤ (0 : Int) := (by omega)
                have q7 : 0 < t101.size := (by have : (0 : Int) < (t101.size : Int) := of_decide_eq_true (by first | (with_reducible assumption) | assumption); omega)
                have hx7 : ∀ h : 0 < t101.size, ((t101[0]'h).toNat : Int) = bt t101 0 := bt_at t101 0
                clear p7
                have qi7 : (0 < (t101.size : Int)) = True := eq_true (of_decide_eq_true (by first | (with_reducible assumption) | assumption))
                replace q7 := eq_true q7
                have p11 : 0 ≤ (2 : Int) := (by omega)
                have q11 : 2 < t102.size := (by have : (2 : Int) < (t102.size : Int) := of_decide_eq_true (by first | (with_reducible assumption) | assumption); omega)
                have hx11 : ∀ h : 2 < t102.size, ((t102[2]'h).toNat : Int) = bt t102 2 := bt_at t102 2
                clear p11
                have qi11 : (2 < (t102.size : Int)) = True := eq_true (of_decide_eq_true (by first | (with_reducible assumption) | assumption))
                replace q11 := eq_true q11
                go_wp2
                go_meet
                case rel => exact ⟨_, (((bt t102 2) != 58)), (by first | rfl | (simp; done) | (simp [*]; done)), H', ⟨by first | omega | exact Nat.le_refl _⟩, by repeat (first | exact Drawn0.refl _ | apply Drawn0.step)⟩
              · rw [if_neg c10] at H
                exact absurd H (by simp)
            · rw [if_neg c9] at H
              have c9b0 : ((t102.size : Int) == 5) = false := beq_eq_false_iff_ne.mpr c9
              have c9b1 : ((t102.size : Int) != 5) = true := bne_iff_ne.mpr c9
              have H' := Aside0.mk H
              clear H
              have p7 : 0 ≤ (0 : Int) := (by omega)
              have q7 : 0 < t101.size := (by have : (0 : Int) < (t101.size : Int) := of_decide_eq_true (by first | (with_reducible assumption) | assumption); omega)
              have hx7 : ∀ h : 0 < t101.size, ((t101[0]'h).toNat : Int) = bt t101 0 := bt_at t101 0
              clear p7
              have qi7 : (0 < (t101.size : Int)) = True := eq_true (of_decide_eq_true (by first | (with_reducible assumption) | assumption))
              replace q7 := eq_true q7
              go_wp2
              go_meet
              case rel => exact ⟨_, (true), (by first | rfl | (simp; done) | (simp [*]; done)), H', ⟨by first | omega | exact Nat.le_refl _⟩, by repeat (first | exact Drawn0.refl _ | apply Drawn0.step)⟩
          · rw [if_neg c8] at H
            have c8b0 : ((bt t101 0) == 100) = false := beq_eq_false_iff_ne.mpr c8
            have c8b1 : ((bt t101 0) != 100) = true := bne_iff_ne.mpr c8
            have H' := Aside0.mk H
            clear H
            have p7 : 0 ≤ (0 : Int) := (by omega)
            have q7 : 0 < t101.size := (by have : (0 : Int) < (t101.size : Int) := of_decide_eq_true (by first | (with_reducible assumption) | assumption); omega)
            have hx7 : ∀ h : 0 < t101.size, ((t101[0]'h).toNat : Int) = bt t101 0 := bt_at t101 0
            clear p7
            have qi7 : (0 < (t101.size : Int)) = True := eq_true (of_decide_eq_true (by first | (with_reducible assumption) | assumption))
            replace q7 := eq_true q7
            go_wp2
            go_meet
            case rel => exact ⟨_, (true), (by first | rfl | (simp; done) | (simp [*]; done)), H', ⟨by first | omega | exact Nat.le_refl _⟩, by repeat (first | exact Drawn0.refl _ | apply Drawn0.step)⟩
        · rw [if_neg c6] at H
          exact absurd H (by simp)
    · replace c4 := Bool.eq_false_iff.mpr c4
      subst c4
      have H1 : (clock_Parse.j0 k t101 t102 true) = some (r1, r2) := by rw [if_neg (show ¬ (false = true) by decide)] at H; exact H
      clear H
      have H := H1
      clear H1
      have H' := Aside0.mk H
      clear H
      go_wp2
      go_meet
      case rel => exact ⟨_, (true), (by first | rfl | (simp; done) | (simp [*]; done)), H', ⟨by first | omega | exact Nat.le_refl _⟩, by repeat (first | exact Drawn0.refl _ | apply Drawn0.step)⟩
  case rest =>
    clear HC3
    try clear c1
    try clear p1
    try clear q1
    try clear hx1
    try clear qi1
    try clear c2
    try clear p2
    try clear c3
    try clear c4
    try clear c5
    try clear c5b0
    try clear c5b1
    try clear c6
    try clear c6b0
    try clear c6b1
    try clear p7
    try clear q7
    try clear hx7
    try clear qi7
    try clear c8
    try clear c8b0
    try clear c8b1
    try clear c9
    try clear c9b0
    try clear c9b1
    try clear c10
    try clear c10b0
    try clear c10b1
    try clear p11
    try clear q11
    try clear hx11
    try clear qi11
    try clear p11
    try clear p7
    try clear q11
    try clear q7
    obtain ⟨kq, x41_2, rfl, HA, HJ2, ⟨mc2, rfl⟩⟩ := hcut
    cases kq with
    | zero => exact absurd HA.out (by simp [clock_Parse.j0])
    | succ kj2 =>
      have H := HA.out
      clear HA
      simp only [clock_Parse.j0] at H
      by_cases c12 : x41_2 = true
      · subst c12
        have H1 : (some (0, 5)) = some (r1, r2) := by rw [if_pos rfl] at H; exact H
        clear H
        have H := H1
        clear H1
        simp only [Option.some.injEq, Prod.mk.injEq] at H
        obtain ⟨rfl, rfl⟩ := H
        go_wp2
        go_ret2
        exact ⟨by first | rfl | (simp; done) | (simp [*]; done), by repeat (first | exact Drawn0.refl _ | apply Drawn0.step)⟩
      · replace c12 := Bool.eq_false_iff.mpr c12
        subst c12
        have H1 : (if 1 ≤ (t101.size : Int) then ((clock_number.f kj2 (t101.extract 1 t101.size)).bind fun bt104 => (if 0 ≤ 2 then (if 2 ≤ (t102.size : Int) then ((clock_pair.f (t102.extract 0 2) 24).bind fun bt106 => (if 3 ≤ (t102.size : Int) then ((clock_pair.f (t102.extract 3 t102.size) 60).bind fun bt108 => (if bt104.2 = true then (if bt106.2 = true then (clock_Parse.j1 kj2 bt104.1 bt106.1 bt108.1 (!bt108.2)) else (clock_Parse.j1 kj2 bt104.1 bt106.1 bt108.1 true)) else (clock_Parse.j1 kj2 bt104.1 bt106.1 bt108.1 true))) else (none))) else (none)) else (none))) else (none)) = some (r1, r2) := by rw [if_neg (show ¬ (false = true) by decide)] at H; exact H
        clear H
        have H := H1
        clear H1
        by_cases c13 : 1 ≤ (t101.size : Int)
        · rw [if_pos c13] at H
          have c13b0 := eq_true c13
          have c13b1 : decide (1 ≤ (t101.size : Int)) = true := decide_eq_true c13
          clear c13
          replace H := Option.bind_eq_some_iff.mp H
          obtain ⟨⟨t104, t105⟩, A140, H⟩ := H
          replace H : (if 0 ≤ 2 then (if 2 ≤ (t102.size : Int) then ((clock_pair.f (t102.extract 0 2) 24).bind fun bt106 => (if 3 ≤ (t102.size : Int) then ((clock_pair.f (t102.extract 3 t102.size) 60).bind fun bt108 => (if t105 = true then (if bt106.2 = true then (clock_Parse.j1 kj2 t104 bt106.1 bt108.1 (!bt108.2)) else (clock_Parse.j1 kj2 t104 bt106.1 bt108.1 true)) else (clock_Parse.j1 kj2 t104 bt106.1 bt108.1 true))) else (none))) else (none)) else (none)) = some (r1, r2) := H
          have A14 := Aside0.mk A140
          clear A140
          by_cases c15 : 0 ≤ 2
          · rw [if_pos c15] at H
            have c15b0 := eq_true c15
            have c15b1 : decide (0 ≤ 2) = true := decide_eq_true c15
            clear c15
            by_cases c16 : 2 ≤ (t102.size : Int)
            · rw [if_pos c16] at H
              have c16b0 := eq_true c16
              have c16b1 : decide (2 ≤ (t102.size : Int)) = true := decide_eq_true c16
              clear c16
              replace H := Option.bind_eq_some_iff.mp H
              obtain ⟨⟨t106, t107⟩, A170, H⟩ := H
              replace H : (if 3 ≤ (t102.size : Int) then ((clock_pair.f (t102.extract 3 t102.size) 60).bind fun bt108 => (if t105 = true then (if t107 = true then (clock_Parse.j1 kj2 t104 t106 bt108.1 (!bt108.2)) else (clock_Parse.j1 kj2 t104 t106 bt108.1 true)) else (clock_Parse.j1 kj2 t104 t106 bt108.1 true))) else (none)) = some (r1, r2) := H
              have A17 := Aside0.mk A170
              clear A170
              by_cases c18 : 3 ≤ (t102.size : Int)
              · rw [if_pos c18] at H
                have c18b0 := eq_true c18
                have c18b1 : decide (3 ≤ (t102.size : Int)) = true := decide_eq_true c18
                clear c18
                replace H := Option.bind_eq_some_iff.mp H
                obtain ⟨⟨t108, t109⟩, A190, H⟩ := H
                replace H : (if t105 = true then (if t107 = true then (clock_Parse.j1 kj2 t104 t106 t108 (!t109)) else (clock_Parse.j1 kj2 t104 t106 t108 true)) else (clock_Parse.j1 kj2 t104 t106 t108 true)) = some (r1, r2) := H
                have A19 := Aside0.mk A190
                clear A190
                have HC20 := Aside0.mk H
                clear H
                go_upto_region 7 with (first | ((with_reducible refine gate_callee (f := 36) rfl ?_); refine goesL_ (some 45) rfl rfl Tryd.func36 (by kernel_rfl) rfl #[.string (t101.extract 1 t101.size)] rfl (by (try simp only [List.map_toArray, List.map_cons, List.map_nil]); first | done | rfl | (simp only [List.length_drop, List.length_take]; rfl)) ?_; (with_reducible refine (clock_number.calls kj2 (t101.extract 1 t101.size) t104 t105 _ A14.out).mono ?_); rintro e w' ⟨rfl, ⟨nd, rfl⟩⟩; refine ⟨_, rfl, ?_⟩) | ((with_reducible refine gate_callee (f := 37) rfl ?_); refine goesL_ (some 51) rfl rfl Tryd.func37 (by kernel_rfl) rfl #[.string (t102.extract 0 2), .int .i64 24] rfl (by (try simp only [List.map_toArray, List.map_cons, List.map_nil]); first | done | rfl | (simp only [List.length_drop, List.length_take]; rfl)) ?_; (with_reducible refine (clock_pair.calls (t102.extract 0 2) 24 t106 t107 _ A17.out).mono ?_); rintro e w' ⟨rfl, ⟨nd, rfl⟩⟩; refine ⟨_, rfl, ?_⟩) | ((with_reducible refine gate_callee (f := 37) rfl ?_); refine goesL_ (some 57) rfl rfl Tryd.func37 (by kernel_rfl) rfl #[.string (t102.extract 3 t102.size), .int .i64 60] rfl (by (try simp only [List.map_toArray, List.map_cons, List.map_nil]); first | done | rfl | (simp only [List.length_drop, List.length_take]; rfl)) ?_; (with_reducible refine (clock_pair.calls (t102.extract 3 t102.size) 60 t108 t109 _ A19.out).mono ?_); rintro e w' ⟨rfl, ⟨nd, rfl⟩⟩; refine ⟨_, rfl, ?_⟩))
                (try simp only [Act.put, List.setIfInBounds_toArray, List.set_cons_zero, List.set_cons_succ])
                go_cut [69] (fun v69 wc => ∃ (kq : Nat) (x69_19 : Bool), v69 = .bool x69_19 ∧ Aside0 (clock_Parse.j1 kq t104 t106 t108 x69_19 = some (r1, r2)) ∧ Aside0 (kq ≤ kj2) ∧ Drawn0 w wc)
                case first =>
                  have H := HC20.out
                  clear HC20
                  by_cases c21 : t105 = true
                  · subst c21
                    have H1 : (if t107 = true then (clock_Parse.j1 kj2 t104 t106 t108 (!t109)) else (clock_Parse.j1 kj2 t104 t106 t108 true)) = some (r1, r2) := by rw [if_pos rfl] at H; exact H
                    clear H
                    have H := H1
                    clear H1
                    by_cases c22 : t107 = true
                    · subst c22
                      have H1 : (clock_Parse.j1 kj2 t104 t106 t108 (!t109)) = some (r1, r2) := by rw [if_pos rfl] at H; exact H
                      clear H
                      have H := H1
                      clear H1
                      have H' := Aside0.mk H
                      clear H
                      go_wp2
                      go_meet
                      case rel => exact ⟨_, (!t109), (by first | rfl | (simp; done) | (simp [*]; done)), H', ⟨by have := HJ2.out; first | omega | exact Nat.le_refl _⟩, by repeat (first | exact Drawn0.refl _ | apply Drawn0.step)⟩
                    · replace c22 := Bool.eq_false_iff.mpr c22
                      subst c22
                      have H1 : (clock_Parse.j1 kj2 t104 t106 t108 true) = some (r1, r2) := by rw [if_neg (show ¬ (false = true) by decide)] at H; exact H
                      clear H
                      have H := H1
                      clear H1
                      have H' := Aside0.mk H
                      clear H
                      go_wp2
                      go_meet
                      case rel => exact ⟨_, (true), (by first | rfl | (simp; done) | (simp [*]; done)), H', ⟨by have := HJ2.out; first | omega | exact Nat.le_refl _⟩, by repeat (first | exact Drawn0.refl _ | apply Drawn0.step)⟩
                  · replace c21 := Bool.eq_false_iff.mpr c21
                    subst c21
                    have H1 : (clock_Parse.j1 kj2 t104 t106 t108 true) = some (r1, r2) := by rw [if_neg (show ¬ (false = true) by decide)] at H; exact H
                    clear H
                    have H := H1
                    clear H1
                    have H' := Aside0.mk H
                    clear H
                    go_wp2
                    go_meet
                    case rel => exact ⟨_, (true), (by first | rfl | (simp; done) | (simp [*]; done)), H', ⟨by have := HJ2.out; first | omega | exact Nat.le_refl _⟩, by repeat (first | exact Drawn0.refl _ | apply Drawn0.step)⟩
                case rest =>
                  clear HC20
                  try clear c1
                  try clear p1
                  try clear q1
                  try clear hx1
                  try clear qi1
                  try clear c2
                  try clear p2
                  try clear c3
                  try clear c4
                  try clear c5
                  try clear c5b0
                  try clear c5b1
                  try clear c6
                  try clear c6b0
                  try clear c6b1
                  try clear p7
                  try clear q7
                  try clear hx7
                  try clear qi7
                  try clear c8
                  try clear c8b0
                  try clear c8b1
                  try clear c9
                  try clear c9b0
                  try clear c9b1
                  try clear c10
                  try clear c10b0
                  try clear c10b1
                  try clear p11
                  try clear q11
                  try clear hx11
                  try clear qi11
                  try clear c12
                  try clear c13
                  try clear c13b0
                  try clear c13b1
                  try clear c15
                  try clear c15b0
                  try clear c15b1
                  try clear c16
                  try clear c16b0
                  try clear c16b1
                  try clear c18
                  try clear c18b0
                  try clear c18b1
                  try clear c21
                  try clear c22
                  try clear p1
                  try clear p11
                  try clear p2
                  try clear p7
                  try clear q1
                  try clear q11
                  try clear q7
                  obtain ⟨kq, x69_19, rfl, HA, HJ19, ⟨mc19, rfl⟩⟩ := hcut
                  cases kq with
                  | zero => exact absurd HA.out (by simp [clock_Parse.j1])
                  | succ kj19 =>
                    have H := HA.out
                    clear HA
                    simp only [clock_Parse.j1] at H
                    by_cases c23 : x69_19 = true
                    · subst c23
                      have H1 : (some (0, 5)) = some (r1, r2) := by rw [if_pos rfl] at H; exact H
                      clear H
                      have H := H1
                      clear H1
                      simp only [Option.some.injEq, Prod.mk.injEq] at H
                      obtain ⟨rfl, rfl⟩ := H
                      go_wp2
                      go_ret2
                      exact ⟨by first | rfl | (simp; done) | (simp [*]; done), by repeat (first | exact Drawn0.refl _ | apply Drawn0.step)⟩
                    · replace c23 := Bool.eq_false_iff.mpr c23
                      subst c23
                      have H1 : ((clock_isTime.f (wrap64 ((wrap64 ((wrap64 (t104 * 1440)) + (wrap64 (t106 * 60)))) + t108))).bind fun t110 => (if t110 = true then (some (wrap64 ((wrap64 ((wrap64 (t104 * 1440)) + (wrap64 (t106 * 60)))) + t108), 0)) else (some (0, 15)))) = some (r1, r2) := by rw [if_neg (show ¬ (false = true) by decide)] at H; exact H
                      clear H
                      have H := H1
                      clear H1
                      replace H := Option.bind_eq_some_iff.mp H
                      obtain ⟨t110, A240, H⟩ := H
                      replace H : (if t110 = true then (some (wrap64 ((wrap64 ((wrap64 (t104 * 1440)) + (wrap64 (t106 * 60)))) + t108), 0)) else (some (0, 15))) = some (r1, r2) := H
                      have A24 := Aside0.mk A240
                      clear A240
                      by_cases c25 : t110 = true
                      · subst c25
                        have H1 : (some (wrap64 ((wrap64 ((wrap64 (t104 * 1440)) + (wrap64 (t106 * 60)))) + t108), 0)) = some (r1, r2) := by rw [if_pos rfl] at H; exact H
                        clear H
                        have H := H1
                        clear H1
                        simp only [Option.some.injEq, Prod.mk.injEq] at H
                        obtain ⟨rfl, rfl⟩ := H
                        go_wp2_with (first | ((with_reducible refine gate_callee (f := 31) rfl ?_); refine goesL_ (some 78) rfl rfl Tryd.func31 (by kernel_rfl) rfl #[.int .i64 (wrap64 ((wrap64 ((wrap64 (t104 * 1440)) + (wrap64 (t106 * 60)))) + t108))] rfl (by (try simp only [List.map_toArray, List.map_cons, List.map_nil]); first | done | rfl | (simp only [List.length_drop, List.length_take]; rfl)) ?_; (with_reducible refine (clock_isTime.calls (wrap64 ((wrap64 ((wrap64 (t104 * 1440)) + (wrap64 (t106 * 60)))) + t108)) true _ A24.out).mono ?_); rintro e w' ⟨rfl, ⟨nd, rfl⟩⟩; refine ⟨_, rfl, ?_⟩))
                        go_ret2
                        exact ⟨by first | rfl | (simp; done) | (simp [*]; done), by repeat (first | exact Drawn0.refl _ | apply Drawn0.step)⟩
                      · replace c25 := Bool.eq_false_iff.mpr c25
                        subst c25
                        have H1 : (some (0, 15)) = some (r1, r2) := by rw [if_neg (show ¬ (false = true) by decide)] at H; exact H
                        clear H
                        have H := H1
                        clear H1
                        simp only [Option.some.injEq, Prod.mk.injEq] at H
                        obtain ⟨rfl, rfl⟩ := H
                        go_wp2_with (first | ((with_reducible refine gate_callee (f := 31) rfl ?_); refine goesL_ (some 78) rfl rfl Tryd.func31 (by kernel_rfl) rfl #[.int .i64 (wrap64 ((wrap64 ((wrap64 (t104 * 1440)) + (wrap64 (t106 * 60)))) + t108))] rfl (by (try simp only [List.map_toArray, List.map_cons, List.map_nil]); first | done | rfl | (simp only [List.length_drop, List.length_take]; rfl)) ?_; (with_reducible refine (clock_isTime.calls (wrap64 ((wrap64 ((wrap64 (t104 * 1440)) + (wrap64 (t106 * 60)))) + t108)) false _ A24.out).mono ?_); rintro e w' ⟨rfl, ⟨nd, rfl⟩⟩; refine ⟨_, rfl, ?_⟩))
                        go_ret2
                        exact ⟨by first | rfl | (simp; done) | (simp [*]; done), by repeat (first | exact Drawn0.refl _ | apply Drawn0.step)⟩
              · rw [if_neg c18] at H
                exact absurd H (by simp)
            · rw [if_neg c16] at H
              exact absurd H (by simp)
          · rw [if_neg c15] at H
            exact absurd H (by simp)
        · rw [if_neg c13] at H
          exact absurd H (by simp)

end Go.Proofs.YthdkfgpcdghblaaDoor.PFin
