/-
  The law UnitsFloors returns true. Condition: the library's table of powers of ten holds what it holds at the start.
-/
import Derived.Test.YtlfloandockgbaaDoorLawB
import Derived.Test.YtlfloandockgbaaDoorLawA
namespace Go.Proofs.YtlfloandockgbaaDoor.Uni
open Go.RowKit Go.Proofs.YtlfloandockgbaaDoorW.PrintWords Go.Proofs.YtlfloandockgbaaDoorW.PrintLast Go.Proofs.YtlfloandockgbaaDoorW.PrintMore
open Go.Proofs.YtlfloandockgbaaDoor.PAll
set_option linter.unusedVariables false
set_option linter.unusedSimpArgs false

set_option maxHeartbeats 1000000 in
set_option maxRecDepth 100000 in
theorem fl_zero {w : World} (HT : Aside0 (Tab w)) (a : Int) (H1 : Aside0 (∀ w, Calls Tryd.prog 15 #[.int .i64 a, .int .i64 0] w fun e w' => e = .returned (.tuple #[.int .i64 (0), .bool false]) ∧ Below w.heap.size w w')) (H2 : Aside0 (∀ w, Calls Tryd.prog 16 #[.int .i64 a, .int .i64 0] w fun e w' => e = .returned (.tuple #[.int .i64 (0), .bool false]) ∧ Below w.heap.size w w')) : Calls Tryd.prog 9 #[.int .i64 a, .int .i64 0] w (AllTrue w) := by
  go_enter Tryd.func9, Tryd.ntmps9
  go_wp2_with fail
  refine (H1.out _).mono ?_
  rintro _ w1 ⟨rfl, hb⟩
  have B1 := Aside0.mk (show Below w.heap.size w w1 by first | exact hb | exact hb.below)
  clear hb
  go_wp2_with fail
  refine (H2.out _).mono ?_
  rintro _ w2 ⟨rfl, hb⟩
  have B2 := Aside0.mk (below_step B1.out (by first | exact hb | exact hb.below))
  clear hb B1
  go_wp2_with fail
  refine (awake_any _ (tab_below HT.out B2.out)).mono ?_
  rintro _ w3 ⟨rfl, hb⟩
  have B3 := Aside0.mk (below_step B2.out hb)
  clear hb B2
  go_wp2_with fail
  go_ret
  exact ⟨rfl, B3.out⟩
set_option maxHeartbeats 1000000 in
set_option maxRecDepth 100000 in
theorem fl_least {w : World} (HT : Aside0 (Tab w)) (H1 : Aside0 (∀ w, Calls Tryd.prog 15 #[.int .i64 (-9223372036854775808), .int .i64 (-1)] w fun e w' => e = .returned (.tuple #[.int .i64 (0), .bool false]) ∧ Below w.heap.size w w')) (H2 : Aside0 (∀ w, Calls Tryd.prog 16 #[.int .i64 (-9223372036854775808), .int .i64 (-1)] w fun e w' => e = .returned (.tuple #[.int .i64 (0), .bool false]) ∧ Below w.heap.size w w')) : Calls Tryd.prog 9 #[.int .i64 (-9223372036854775808), .int .i64 (-1)] w (AllTrue w) := by
  go_enter Tryd.func9, Tryd.ntmps9
  go_wp2_with fail
  refine (H1.out _).mono ?_
  rintro _ w1 ⟨rfl, hb⟩
  have B1 := Aside0.mk (show Below w.heap.size w w1 by first | exact hb | exact hb.below)
  clear hb
  go_wp2_with fail
  refine (H2.out _).mono ?_
  rintro _ w2 ⟨rfl, hb⟩
  have B2 := Aside0.mk (below_step B1.out (by first | exact hb | exact hb.below))
  clear hb B1
  go_wp2_with fail
  refine (awake_any _ (tab_below HT.out B2.out)).mono ?_
  rintro _ w3 ⟨rfl, hb⟩
  have B3 := Aside0.mk (below_step B2.out hb)
  clear hb B2
  go_wp2_with fail
  go_ret
  exact ⟨rfl, B3.out⟩
set_option maxHeartbeats 1000000 in
set_option maxRecDepth 100000 in
theorem fl_p0 {w : World} (HT : Aside0 (Tab w)) (a b F : Int) (hb : b > 0) (h1 : (wrap64 (a - wrap64 (F * b))) ≥ 0) (h2 : (wrap64 (a - wrap64 (F * b))) < b) (h3 : (wrap64 (a - wrap64 (F * b))) < wrap64 (b - (wrap64 (a - wrap64 (F * b))))) (H1 : Aside0 (∀ w, Calls Tryd.prog 15 #[.int .i64 a, .int .i64 b] w fun e w' => e = .returned (.tuple #[.int .i64 (F), .bool true]) ∧ Below w.heap.size w w')) (H2 : Aside0 (∀ w, Calls Tryd.prog 16 #[.int .i64 a, .int .i64 b] w fun e w' => e = .returned (.tuple #[.int .i64 (F), .bool true]) ∧ Below w.heap.size w w')) : Calls Tryd.prog 9 #[.int .i64 a, .int .i64 b] w (AllTrue w) := by
  go_enter Tryd.func9, Tryd.ntmps9
  go_wp2_with fail
  refine (H1.out _).mono ?_
  rintro _ w1 ⟨rfl, hb⟩
  have B1 := Aside0.mk (show Below w.heap.size w w1 by first | exact hb | exact hb.below)
  clear hb
  go_wp2_with fail
  refine (H2.out _).mono ?_
  rintro _ w2 ⟨rfl, hb⟩
  have B2 := Aside0.mk (below_step B1.out (by first | exact hb | exact hb.below))
  clear hb B1
  go_wp2_with fail
  refine (awake_any _ (tab_below HT.out B2.out)).mono ?_
  rintro _ w3 ⟨rfl, hb⟩
  have B3 := Aside0.mk (below_step B2.out hb)
  clear hb B2
  go_wp2_with fail
  go_ret
  exact ⟨rfl, B3.out⟩
set_option maxHeartbeats 1000000 in
set_option maxRecDepth 100000 in
theorem fl_p1 {w : World} (HT : Aside0 (Tab w)) (a b F : Int) (hb : b > 0) (h1 : (wrap64 (a - wrap64 (F * b))) ≥ 0) (h2 : (wrap64 (a - wrap64 (F * b))) < b) (h3 : (wrap64 (a - wrap64 (F * b))) ≥ wrap64 (b - (wrap64 (a - wrap64 (F * b))))) (H1 : Aside0 (∀ w, Calls Tryd.prog 15 #[.int .i64 a, .int .i64 b] w fun e w' => e = .returned (.tuple #[.int .i64 (F), .bool true]) ∧ Below w.heap.size w w')) (H2 : Aside0 (∀ w, Calls Tryd.prog 16 #[.int .i64 a, .int .i64 b] w fun e w' => e = .returned (.tuple #[.int .i64 (wrap64 (F + 1)), .bool true]) ∧ Below w.heap.size w w')) : Calls Tryd.prog 9 #[.int .i64 a, .int .i64 b] w (AllTrue w) := by
  go_enter Tryd.func9, Tryd.ntmps9
  go_wp2_with fail
  refine (H1.out _).mono ?_
  rintro _ w1 ⟨rfl, hb⟩
  have B1 := Aside0.mk (show Below w.heap.size w w1 by first | exact hb | exact hb.below)
  clear hb
  go_wp2_with fail
  refine (H2.out _).mono ?_
  rintro _ w2 ⟨rfl, hb⟩
  have B2 := Aside0.mk (below_step B1.out (by first | exact hb | exact hb.below))
  clear hb B1
  go_wp2_with fail
  refine (awake_any _ (tab_below HT.out B2.out)).mono ?_
  rintro _ w3 ⟨rfl, hb⟩
  have B3 := Aside0.mk (below_step B2.out hb)
  clear hb B2
  go_wp2_with fail
  go_ret
  exact ⟨rfl, B3.out⟩
set_option maxHeartbeats 1000000 in
set_option maxRecDepth 100000 in
theorem fl_m0 {w : World} (HT : Aside0 (Tab w)) (a b F : Int) (hb : ¬ b > 0) (hn : b ≠ 0) (h1 : (wrap64 (a - wrap64 (F * b))) ≤ 0) (h2 : (wrap64 (a - wrap64 (F * b))) > b) (h3 : (wrap64 (a - wrap64 (F * b))) > wrap64 (b - (wrap64 (a - wrap64 (F * b))))) (H1 : Aside0 (∀ w, Calls Tryd.prog 15 #[.int .i64 a, .int .i64 b] w fun e w' => e = .returned (.tuple #[.int .i64 (F), .bool true]) ∧ Below w.heap.size w w')) (H2 : Aside0 (∀ w, Calls Tryd.prog 16 #[.int .i64 a, .int .i64 b] w fun e w' => e = .returned (.tuple #[.int .i64 (F), .bool true]) ∧ Below w.heap.size w w')) : Calls Tryd.prog 9 #[.int .i64 a, .int .i64 b] w (AllTrue w) := by
  go_enter Tryd.func9, Tryd.ntmps9
  go_wp2_with fail
  refine (H1.out _).mono ?_
  rintro _ w1 ⟨rfl, hb⟩
  have B1 := Aside0.mk (show Below w.heap.size w w1 by first | exact hb | exact hb.below)
  clear hb
  go_wp2_with fail
  refine (H2.out _).mono ?_
  rintro _ w2 ⟨rfl, hb⟩
  have B2 := Aside0.mk (below_step B1.out (by first | exact hb | exact hb.below))
  clear hb B1
  go_wp2_with fail
  refine (awake_any _ (tab_below HT.out B2.out)).mono ?_
  rintro _ w3 ⟨rfl, hb⟩
  have B3 := Aside0.mk (below_step B2.out hb)
  clear hb B2
  go_wp2_with fail
  go_ret
  exact ⟨rfl, B3.out⟩
set_option maxHeartbeats 1000000 in
set_option maxRecDepth 100000 in
theorem fl_m1 {w : World} (HT : Aside0 (Tab w)) (a b F : Int) (hb : ¬ b > 0) (hn : b ≠ 0) (h1 : (wrap64 (a - wrap64 (F * b))) ≤ 0) (h2 : (wrap64 (a - wrap64 (F * b))) > b) (h3 : (wrap64 (a - wrap64 (F * b))) ≤ wrap64 (b - (wrap64 (a - wrap64 (F * b))))) (H1 : Aside0 (∀ w, Calls Tryd.prog 15 #[.int .i64 a, .int .i64 b] w fun e w' => e = .returned (.tuple #[.int .i64 (F), .bool true]) ∧ Below w.heap.size w w')) (H2 : Aside0 (∀ w, Calls Tryd.prog 16 #[.int .i64 a, .int .i64 b] w fun e w' => e = .returned (.tuple #[.int .i64 (wrap64 (F + 1)), .bool true]) ∧ Below w.heap.size w w')) : Calls Tryd.prog 9 #[.int .i64 a, .int .i64 b] w (AllTrue w) := by
  go_enter Tryd.func9, Tryd.ntmps9
  go_wp2_with fail
  refine (H1.out _).mono ?_
  rintro _ w1 ⟨rfl, hb⟩
  have B1 := Aside0.mk (show Below w.heap.size w w1 by first | exact hb | exact hb.below)
  clear hb
  go_wp2_with fail
  refine (H2.out _).mono ?_
  rintro _ w2 ⟨rfl, hb⟩
  have B2 := Aside0.mk (below_step B1.out (by first | exact hb | exact hb.below))
  clear hb B1
  go_wp2_with fail
  refine (awake_any _ (tab_below HT.out B2.out)).mono ?_
  rintro _ w3 ⟨rfl, hb⟩
  have B3 := Aside0.mk (below_step B2.out hb)
  clear hb B2
  go_wp2_with fail
  go_ret
  exact ⟨rfl, B3.out⟩
theorem floors_true {w : World} (hT : Tab w) (a b : Int) (ra : -9223372036854775808 ≤ a ∧ a ≤ 9223372036854775807) (rb : -9223372036854775808 ≤ b ∧ b ≤ 9223372036854775807) : Calls Tryd.prog 9 #[.int .i64 a, .int .i64 b] w (AllTrue w) := by
  have HT := Aside0.mk hT
  by_cases h : b = 0 ∨ a = -9223372036854775808 ∧ b = -1
  · have H1 := Aside0.mk (fun w => floor_bad w a b h)
    have H2 := Aside0.mk (fun w => near_bad w a b h)
    rcases h with rfl | ⟨rfl, rfl⟩
    · exact fl_zero HT a H1 H2
    · exact fl_least HT H1 H2
  · obtain ⟨q, r, hqr⟩ := qr_of a b ra.1 ra.2 (by omega) (by omega)
    have hf := fr_of hqr ra.1 ra.2 rb.1 rb.2
    have H1 := Aside0.mk (fun w => floor_any w a b q r hqr.b0 hqr.good hqr.hq hqr.hr)
    have H2 := Aside0.mk (fun w => near_any w a b q r hqr.b0 hqr.good hqr.hq hqr.hr (fun _ => ex_up b hqr.b0 rb.1 rb.2))
    have hb := hqr.b0
    clear hqr h
    generalize fF q r b = F at *
    generalize fR r b = R at *
    obtain ⟨hs, hp, hn⟩ := hf
    have e : wrap64 (a - wrap64 (F * b)) = R := by
      rw [Int.mul_comm F b]
      generalize b * F = z at hs
      unfold wrap64
      omega
    subst e
    clear hs
    by_cases hu : upB (wrap64 (a - wrap64 (F * b))) b = true
    · rw [if_pos hu] at H2
      unfold upB at hu
      by_cases c : b > 0
      · rw [if_pos c] at hu
        exact fl_p1 HT a b F c (hp c).1 (hp c).2 (of_decide_eq_true hu) H1 H2
      · rw [if_neg c] at hu
        have hn' := hn (by clear H1 H2 hu hp hn HT; omega)
        exact fl_m1 HT a b F c hb hn'.2 hn'.1 (of_decide_eq_true hu) H1 H2
    · rw [if_neg hu] at H2
      unfold upB at hu
      by_cases c : b > 0
      · rw [if_pos c] at hu
        exact fl_p0 HT a b F c (hp c).1 (hp c).2 (Int.not_le.1 (fun h => hu (decide_eq_true h))) H1 H2
      · rw [if_neg c] at hu
        have hn' := hn (by clear H1 H2 hu hp hn HT; omega)
        exact fl_m0 HT a b F c hb hn'.2 hn'.1 (Int.not_le.1 (fun h => hu (decide_eq_true h))) H1 H2
end Go.Proofs.YtlfloandockgbaaDoor.Uni
