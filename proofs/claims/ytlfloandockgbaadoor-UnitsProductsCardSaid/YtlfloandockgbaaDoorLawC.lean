/-
  The laws UnitsScales and UnitsProducts return true. Condition: the library's table of powers of ten holds what it holds at the start.
-/
import Derived.Test.YtlfloandockgbaaDoorScale
import Derived.Test.YtlfloandockgbaaDoorLawA
namespace Go.Proofs.YtlfloandockgbaaDoor.Uni
open Go.RowKit Go.Proofs.YtlfloandockgbaaDoorW.PrintWords Go.Proofs.YtlfloandockgbaaDoorW.PrintLast Go.Proofs.YtlfloandockgbaaDoorW.PrintMore
open Go.Proofs.YtlfloandockgbaaDoor.PAll
set_option linter.unusedVariables false
set_option linter.unusedSimpArgs false

set_option maxHeartbeats 1000000 in
theorem scales_true {w : World} (hT : Tab w) (a b c : Int) (ra : -9223372036854775808 ≤ a ∧ a ≤ 9223372036854775807) (rb : -9223372036854775808 ≤ b ∧ b ≤ 9223372036854775807) (rc : -9223372036854775808 ≤ c ∧ c ≤ 9223372036854775807) : Calls Tryd.prog 6 #[.int .i64 a, .int .i64 b, .int .i64 c] w (AllTrue w) := by
  have HT := Aside0.mk hT
  obtain ⟨x, e, hx⟩ : ∃ x e, md a b c = (x, e) := ⟨_, _, rfl⟩
  have H1 := Aside0.mk (fun w => units_MulDiv.calls 100 a b c x e w (hx ▸ mdp_f a b c ra.1 ra.2 rb.1 rb.2 rc.2))
  have H2 := Aside0.mk (fun w => sawmillref01_MulDiv.calls 200 a b c x e w (hx ▸ mdr_f a b c ra.1 ra.2 rb.1 rb.2 rc.2))
  clear hx hT ra rb rc
  go_enter Tryd.func6, Tryd.ntmps6
  go_wp2_with fail
  refine (H1.out _).mono ?_
  rintro _ w1 ⟨rfl, hb⟩
  have B1 := Aside0.mk (show Below w.heap.size w w1 by first | exact hb | exact hb.below)
  clear hb
  go_wp2_with fail
  refine (H2.out _).mono ?_
  rintro _ w2 ⟨rfl, hb⟩
  have B2 := Aside0.mk (below_step B1.out (by first | exact hb | exact hb.below))
  clear hb B1
  go_wp2_with fail
  refine (awake_any _ (tab_below HT.out B2.out)).mono ?_
  rintro _ w3 ⟨rfl, hb⟩
  have B3 := Aside0.mk (below_step B2.out hb)
  clear hb B2
  go_wp2_with fail
  go_ret
  exact ⟨rfl, B3.out⟩
theorem small_f (a : Int) : sawmilllaw01_small.f a = some (decide (-2147483648 ≤ a ∧ a ≤ 2147483648)) := by
  unfold sawmilllaw01_small.f
  by_cases h : a ≥ -2147483648
  · rw [if_pos h]
    congr 1
    simp [h]
  · rw [if_neg h]
    congr 1
    simp
    omega
set_option maxHeartbeats 1000000 in
theorem prod_1n {w : World} (HT : Aside0 (Tab w)) (a b c x2 e2 x e : Int) (H1 : Aside0 (∀ w, Calls Tryd.prog 10 #[.int .i64 a, .int .i64 c, .int .i64 c] w fun e w' => e = .returned (.tuple #[.int .i64 a, .int .i64 0]) ∧ Drawn0 w w')) (H2 : Aside0 (∀ w, Calls Tryd.prog 10 #[.int .i64 a, .int .i64 b, .int .i64 1] w fun e w' => e = .returned (.tuple #[.int .i64 x2, .int .i64 e2]) ∧ Drawn0 w w')) (H3 : Aside0 (∀ w, Calls Tryd.prog 10 #[.int .i64 a, .int .i64 b, .int .i64 c] w fun e' w' => e' = .returned (.tuple #[.int .i64 x, .int .i64 e]) ∧ Drawn0 w w')) (H4 : Aside0 (∀ w, Calls Tryd.prog 10 #[.int .i64 b, .int .i64 a, .int .i64 c] w fun e' w' => e' = .returned (.tuple #[.int .i64 x, .int .i64 e]) ∧ Drawn0 w w')) (hc : c > 0) (Sa : Aside0 (∀ w, Calls Tryd.prog 11 #[.int .i64 a] w fun e w' => e = .returned (.bool false) ∧ Drawn0 w w')) : Calls Tryd.prog 3 #[.int .i64 a, .int .i64 b, .int .i64 c] w (AllTrue w) := by
  go_enter Tryd.func3, Tryd.ntmps3
  go_wp2_with fail
  refine (H1.out _).mono ?_
  rintro _ w1 ⟨rfl, hb⟩
  have B1 := Aside0.mk (show Below w.heap.size w w1 by first | exact hb | exact hb.below)
  clear hb
  go_wp2_with fail
  refine (H2.out _).mono ?_
  rintro _ w2 ⟨rfl, hb⟩
  have B2 := Aside0.mk (below_step B1.out (by first | exact hb | exact hb.below))
  clear hb B1
  go_wp2_with fail
  refine (Sa.out _).mono ?_
  rintro _ w3 ⟨rfl, hb⟩
  have B3 := Aside0.mk (below_step B2.out (by first | exact hb | exact hb.below))
  clear hb B2
  go_wp2_with fail
  refine (H3.out _).mono ?_
  rintro _ w4 ⟨rfl, hb⟩
  have B4 := Aside0.mk (below_step B3.out (by first | exact hb | exact hb.below))
  clear hb B3
  go_wp2_with fail
  refine (H4.out _).mono ?_
  rintro _ w5 ⟨rfl, hb⟩
  have B5 := Aside0.mk (below_step B4.out (by first | exact hb | exact hb.below))
  clear hb B4
  go_wp2_with fail
  refine (awake_any _ (tab_below HT.out B5.out)).mono ?_
  rintro _ w6 ⟨rfl, hb⟩
  have B6 := Aside0.mk (below_step B5.out hb)
  clear hb B5
  go_wp2_with fail
  go_ret
  exact ⟨rfl, B6.out⟩
set_option maxHeartbeats 1000000 in
theorem prod_1t {w : World} (HT : Aside0 (Tab w)) (a b c x2 e2 x e : Int) (H1 : Aside0 (∀ w, Calls Tryd.prog 10 #[.int .i64 a, .int .i64 c, .int .i64 c] w fun e w' => e = .returned (.tuple #[.int .i64 a, .int .i64 0]) ∧ Drawn0 w w')) (H2 : Aside0 (∀ w, Calls Tryd.prog 10 #[.int .i64 a, .int .i64 b, .int .i64 1] w fun e w' => e = .returned (.tuple #[.int .i64 x2, .int .i64 e2]) ∧ Drawn0 w w')) (H3 : Aside0 (∀ w, Calls Tryd.prog 10 #[.int .i64 a, .int .i64 b, .int .i64 c] w fun e' w' => e' = .returned (.tuple #[.int .i64 x, .int .i64 e]) ∧ Drawn0 w w')) (H4 : Aside0 (∀ w, Calls Tryd.prog 10 #[.int .i64 b, .int .i64 a, .int .i64 c] w fun e' w' => e' = .returned (.tuple #[.int .i64 x, .int .i64 e]) ∧ Drawn0 w w')) (hc : c > 0) (Sa : Aside0 (∀ w, Calls Tryd.prog 11 #[.int .i64 a] w fun e w' => e = .returned (.bool true) ∧ Drawn0 w w')) (Sb : Aside0 (∀ w, Calls Tryd.prog 11 #[.int .i64 b] w fun e w' => e = .returned (.bool false) ∧ Drawn0 w w')) : Calls Tryd.prog 3 #[.int .i64 a, .int .i64 b, .int .i64 c] w (AllTrue w) := by
  go_enter Tryd.func3, Tryd.ntmps3
  go_wp2_with fail
  refine (H1.out _).mono ?_
  rintro _ w1 ⟨rfl, hb⟩
  have B1 := Aside0.mk (show Below w.heap.size w w1 by first | exact hb | exact hb.below)
  clear hb
  go_wp2_with fail
  refine (H2.out _).mono ?_
  rintro _ w2 ⟨rfl, hb⟩
  have B2 := Aside0.mk (below_step B1.out (by first | exact hb | exact hb.below))
  clear hb B1
  go_wp2_with fail
  refine (Sa.out _).mono ?_
  rintro _ w3 ⟨rfl, hb⟩
  have B3 := Aside0.mk (below_step B2.out (by first | exact hb | exact hb.below))
  clear hb B2
  go_wp2_with fail
  refine (Sb.out _).mono ?_
  rintro _ w4 ⟨rfl, hb⟩
  have B4 := Aside0.mk (below_step B3.out (by first | exact hb | exact hb.below))
  clear hb B3
  go_wp2_with fail
  refine (H3.out _).mono ?_
  rintro _ w5 ⟨rfl, hb⟩
  have B5 := Aside0.mk (below_step B4.out (by first | exact hb | exact hb.below))
  clear hb B4
  go_wp2_with fail
  refine (H4.out _).mono ?_
  rintro _ w6 ⟨rfl, hb⟩
  have B6 := Aside0.mk (below_step B5.out (by first | exact hb | exact hb.below))
  clear hb B5
  go_wp2_with fail
  refine (awake_any _ (tab_below HT.out B6.out)).mono ?_
  rintro _ w7 ⟨rfl, hb⟩
  have B7 := Aside0.mk (below_step B6.out hb)
  clear hb B6
  go_wp2_with fail
  go_ret
  exact ⟨rfl, B7.out⟩
set_option maxHeartbeats 1000000 in
theorem prod_1tt {w : World} (HT : Aside0 (Tab w)) (a b c x e : Int) (H1 : Aside0 (∀ w, Calls Tryd.prog 10 #[.int .i64 a, .int .i64 c, .int .i64 c] w fun e w' => e = .returned (.tuple #[.int .i64 a, .int .i64 0]) ∧ Drawn0 w w')) (H2 : Aside0 (∀ w, Calls Tryd.prog 10 #[.int .i64 a, .int .i64 b, .int .i64 1] w fun e w' => e = .returned (.tuple #[.int .i64 (wrap64 (a * b)), .int .i64 0]) ∧ Drawn0 w w')) (H3 : Aside0 (∀ w, Calls Tryd.prog 10 #[.int .i64 a, .int .i64 b, .int .i64 c] w fun e' w' => e' = .returned (.tuple #[.int .i64 x, .int .i64 e]) ∧ Drawn0 w w')) (H4 : Aside0 (∀ w, Calls Tryd.prog 10 #[.int .i64 b, .int .i64 a, .int .i64 c] w fun e' w' => e' = .returned (.tuple #[.int .i64 x, .int .i64 e]) ∧ Drawn0 w w')) (hc : c > 0) (Sa : Aside0 (∀ w, Calls Tryd.prog 11 #[.int .i64 a] w fun e w' => e = .returned (.bool true) ∧ Drawn0 w w')) (Sb : Aside0 (∀ w, Calls Tryd.prog 11 #[.int .i64 b] w fun e w' => e = .returned (.bool true) ∧ Drawn0 w w')) : Calls Tryd.prog 3 #[.int .i64 a, .int .i64 b, .int .i64 c] w (AllTrue w) := by
  go_enter Tryd.func3, Tryd.ntmps3
  go_wp2_with fail
  refine (H1.out _).mono ?_
  rintro _ w1 ⟨rfl, hb⟩
  have B1 := Aside0.mk (show Below w.heap.size w w1 by first | exact hb | exact hb.below)
  clear hb
  go_wp2_with fail
  refine (H2.out _).mono ?_
  rintro _ w2 ⟨rfl, hb⟩
  have B2 := Aside0.mk (below_step B1.out (by first | exact hb | exact hb.below))
  clear hb B1
  go_wp2_with fail
  refine (Sa.out _).mono ?_
  rintro _ w3 ⟨rfl, hb⟩
  have B3 := Aside0.mk (below_step B2.out (by first | exact hb | exact hb.below))
  clear hb B2
  go_wp2_with fail
  refine (Sb.out _).mono ?_
  rintro _ w4 ⟨rfl, hb⟩
  have B4 := Aside0.mk (below_step B3.out (by first | exact hb | exact hb.below))
  clear hb B3
  go_wp2_with fail
  refine (H3.out _).mono ?_
  rintro _ w5 ⟨rfl, hb⟩
  have B5 := Aside0.mk (below_step B4.out (by first | exact hb | exact hb.below))
  clear hb B4
  go_wp2_with fail
  refine (H4.out _).mono ?_
  rintro _ w6 ⟨rfl, hb⟩
  have B6 := Aside0.mk (below_step B5.out (by first | exact hb | exact hb.below))
  clear hb B5
  go_wp2_with fail
  refine (awake_any _ (tab_below HT.out B6.out)).mono ?_
  rintro _ w7 ⟨rfl, hb⟩
  have B7 := Aside0.mk (below_step B6.out hb)
  clear hb B6
  go_wp2_with fail
  go_ret
  exact ⟨rfl, B7.out⟩
set_option maxHeartbeats 1000000 in
theorem prod_0n {w : World} (HT : Aside0 (Tab w)) (a b c x1 e1 x2 e2 x e : Int) (H1 : Aside0 (∀ w, Calls Tryd.prog 10 #[.int .i64 a, .int .i64 c, .int .i64 c] w fun e w' => e = .returned (.tuple #[.int .i64 x1, .int .i64 e1]) ∧ Drawn0 w w')) (H2 : Aside0 (∀ w, Calls Tryd.prog 10 #[.int .i64 a, .int .i64 b, .int .i64 1] w fun e w' => e = .returned (.tuple #[.int .i64 x2, .int .i64 e2]) ∧ Drawn0 w w')) (H3 : Aside0 (∀ w, Calls Tryd.prog 10 #[.int .i64 a, .int .i64 b, .int .i64 c] w fun e' w' => e' = .returned (.tuple #[.int .i64 x, .int .i64 e]) ∧ Drawn0 w w')) (H4 : Aside0 (∀ w, Calls Tryd.prog 10 #[.int .i64 b, .int .i64 a, .int .i64 c] w fun e' w' => e' = .returned (.tuple #[.int .i64 x, .int .i64 e]) ∧ Drawn0 w w')) (hc : ¬ c > 0) (Sa : Aside0 (∀ w, Calls Tryd.prog 11 #[.int .i64 a] w fun e w' => e = .returned (.bool false) ∧ Drawn0 w w')) : Calls Tryd.prog 3 #[.int .i64 a, .int .i64 b, .int .i64 c] w (AllTrue w) := by
  go_enter Tryd.func3, Tryd.ntmps3
  go_wp2_with fail
  refine (H1.out _).mono ?_
  rintro _ w1 ⟨rfl, hb⟩
  have B1 := Aside0.mk (show Below w.heap.size w w1 by first | exact hb | exact hb.below)
  clear hb
  go_wp2_with fail
  refine (H2.out _).mono ?_
  rintro _ w2 ⟨rfl, hb⟩
  have B2 := Aside0.mk (below_step B1.out (by first | exact hb | exact hb.below))
  clear hb B1
  go_wp2_with fail
  refine (Sa.out _).mono ?_
  rintro _ w3 ⟨rfl, hb⟩
  have B3 := Aside0.mk (below_step B2.out (by first | exact hb | exact hb.below))
  clear hb B2
  go_wp2_with fail
  refine (H3.out _).mono ?_
  rintro _ w4 ⟨rfl, hb⟩
  have B4 := Aside0.mk (below_step B3.out (by first | exact hb | exact hb.below))
  clear hb B3
  go_wp2_with fail
  refine (H4.out _).mono ?_
  rintro _ w5 ⟨rfl, hb⟩
  have B5 := Aside0.mk (below_step B4.out (by first | exact hb | exact hb.below))
  clear hb B4
  go_wp2_with fail
  refine (awake_any _ (tab_below HT.out B5.out)).mono ?_
  rintro _ w6 ⟨rfl, hb⟩
  have B6 := Aside0.mk (below_step B5.out hb)
  clear hb B5
  go_wp2_with fail
  go_ret
  exact ⟨rfl, B6.out⟩
set_option maxHeartbeats 1000000 in
theorem prod_0t {w : World} (HT : Aside0 (Tab w)) (a b c x1 e1 x2 e2 x e : Int) (H1 : Aside0 (∀ w, Calls Tryd.prog 10 #[.int .i64 a, .int .i64 c, .int .i64 c] w fun e w' => e = .returned (.tuple #[.int .i64 x1, .int .i64 e1]) ∧ Drawn0 w w')) (H2 : Aside0 (∀ w, Calls Tryd.prog 10 #[.int .i64 a, .int .i64 b, .int .i64 1] w fun e w' => e = .returned (.tuple #[.int .i64 x2, .int .i64 e2]) ∧ Drawn0 w w')) (H3 : Aside0 (∀ w, Calls Tryd.prog 10 #[.int .i64 a, .int .i64 b, .int .i64 c] w fun e' w' => e' = .returned (.tuple #[.int .i64 x, .int .i64 e]) ∧ Drawn0 w w')) (H4 : Aside0 (∀ w, Calls Tryd.prog 10 #[.int .i64 b, .int .i64 a, .int .i64 c] w fun e' w' => e' = .returned (.tuple #[.int .i64 x, .int .i64 e]) ∧ Drawn0 w w')) (hc : ¬ c > 0) (Sa : Aside0 (∀ w, Calls Tryd.prog 11 #[.int .i64 a] w fun e w' => e = .returned (.bool true) ∧ Drawn0 w w')) (Sb : Aside0 (∀ w, Calls Tryd.prog 11 #[.int .i64 b] w fun e w' => e = .returned (.bool false) ∧ Drawn0 w w')) : Calls Tryd.prog 3 #[.int .i64 a, .int .i64 b, .int .i64 c] w (AllTrue w) := by
  go_enter Tryd.func3, Tryd.ntmps3
  go_wp2_with fail
  refine (H1.out _).mono ?_
  rintro _ w1 ⟨rfl, hb⟩
  have B1 := Aside0.mk (show Below w.heap.size w w1 by first | exact hb | exact hb.below)
  clear hb
  go_wp2_with fail
  refine (H2.out _).mono ?_
  rintro _ w2 ⟨rfl, hb⟩
  have B2 := Aside0.mk (below_step B1.out (by first | exact hb | exact hb.below))
  clear hb B1
  go_wp2_with fail
  refine (Sa.out _).mono ?_
  rintro _ w3 ⟨rfl, hb⟩
  have B3 := Aside0.mk (below_step B2.out (by first | exact hb | exact hb.below))
  clear hb B2
  go_wp2_with fail
  refine (Sb.out _).mono ?_
  rintro _ w4 ⟨rfl, hb⟩
  have B4 := Aside0.mk (below_step B3.out (by first | exact hb | exact hb.below))
  clear hb B3
  go_wp2_with fail
  refine (H3.out _).mono ?_
  rintro _ w5 ⟨rfl, hb⟩
  have B5 := Aside0.mk (below_step B4.out (by first | exact hb | exact hb.below))
  clear hb B4
  go_wp2_with fail
  refine (H4.out _).mono ?_
  rintro _ w6 ⟨rfl, hb⟩
  have B6 := Aside0.mk (below_step B5.out (by first | exact hb | exact hb.below))
  clear hb B5
  go_wp2_with fail
  refine (awake_any _ (tab_below HT.out B6.out)).mono ?_
  rintro _ w7 ⟨rfl, hb⟩
  have B7 := Aside0.mk (below_step B6.out hb)
  clear hb B6
  go_wp2_with fail
  go_ret
  exact ⟨rfl, B7.out⟩
set_option maxHeartbeats 1000000 in
theorem prod_0tt {w : World} (HT : Aside0 (Tab w)) (a b c x1 e1 x e : Int) (H1 : Aside0 (∀ w, Calls Tryd.prog 10 #[.int .i64 a, .int .i64 c, .int .i64 c] w fun e w' => e = .returned (.tuple #[.int .i64 x1, .int .i64 e1]) ∧ Drawn0 w w')) (H2 : Aside0 (∀ w, Calls Tryd.prog 10 #[.int .i64 a, .int .i64 b, .int .i64 1] w fun e w' => e = .returned (.tuple #[.int .i64 (wrap64 (a * b)), .int .i64 0]) ∧ Drawn0 w w')) (H3 : Aside0 (∀ w, Calls Tryd.prog 10 #[.int .i64 a, .int .i64 b, .int .i64 c] w fun e' w' => e' = .returned (.tuple #[.int .i64 x, .int .i64 e]) ∧ Drawn0 w w')) (H4 : Aside0 (∀ w, Calls Tryd.prog 10 #[.int .i64 b, .int .i64 a, .int .i64 c] w fun e' w' => e' = .returned (.tuple #[.int .i64 x, .int .i64 e]) ∧ Drawn0 w w')) (hc : ¬ c > 0) (Sa : Aside0 (∀ w, Calls Tryd.prog 11 #[.int .i64 a] w fun e w' => e = .returned (.bool true) ∧ Drawn0 w w')) (Sb : Aside0 (∀ w, Calls Tryd.prog 11 #[.int .i64 b] w fun e w' => e = .returned (.bool true) ∧ Drawn0 w w')) : Calls Tryd.prog 3 #[.int .i64 a, .int .i64 b, .int .i64 c] w (AllTrue w) := by
  go_enter Tryd.func3, Tryd.ntmps3
  go_wp2_with fail
  refine (H1.out _).mono ?_
  rintro _ w1 ⟨rfl, hb⟩
  have B1 := Aside0.mk (show Below w.heap.size w w1 by first | exact hb | exact hb.below)
  clear hb
  go_wp2_with fail
  refine (H2.out _).mono ?_
  rintro _ w2 ⟨rfl, hb⟩
  have B2 := Aside0.mk (below_step B1.out (by first | exact hb | exact hb.below))
  clear hb B1
  go_wp2_with fail
  refine (Sa.out _).mono ?_
  rintro _ w3 ⟨rfl, hb⟩
  have B3 := Aside0.mk (below_step B2.out (by first | exact hb | exact hb.below))
  clear hb B2
  go_wp2_with fail
  refine (Sb.out _).mono ?_
  rintro _ w4 ⟨rfl, hb⟩
  have B4 := Aside0.mk (below_step B3.out (by first | exact hb | exact hb.below))
  clear hb B3
  go_wp2_with fail
  refine (H3.out _).mono ?_
  rintro _ w5 ⟨rfl, hb⟩
  have B5 := Aside0.mk (below_step B4.out (by first | exact hb | exact hb.below))
  clear hb B4
  go_wp2_with fail
  refine (H4.out _).mono ?_
  rintro _ w6 ⟨rfl, hb⟩
  have B6 := Aside0.mk (below_step B5.out (by first | exact hb | exact hb.below))
  clear hb B5
  go_wp2_with fail
  refine (awake_any _ (tab_below HT.out B6.out)).mono ?_
  rintro _ w7 ⟨rfl, hb⟩
  have B7 := Aside0.mk (below_step B6.out hb)
  clear hb B6
  go_wp2_with fail
  go_ret
  exact ⟨rfl, B7.out⟩
theorem products_true {w : World} (hT : Tab w) (a b c : Int) (ra : -9223372036854775808 ≤ a ∧ a ≤ 9223372036854775807) (rb : -9223372036854775808 ≤ b ∧ b ≤ 9223372036854775807) (rc : -9223372036854775808 ≤ c ∧ c ≤ 9223372036854775807) : Calls Tryd.prog 3 #[.int .i64 a, .int .i64 b, .int .i64 c] w (AllTrue w) := by
  have HT := Aside0.mk hT
  obtain ⟨x, e, hx⟩ : ∃ x e, md a b c = (x, e) := ⟨_, _, rfl⟩
  obtain ⟨x2, e2, hx2⟩ : ∃ x e, md a b 1 = (x, e) := ⟨_, _, rfl⟩
  obtain ⟨x1, e1, hx1⟩ : ∃ x e, md a c c = (x, e) := ⟨_, _, rfl⟩
  have H3 := Aside0.mk (fun w => units_MulDiv.calls 100 a b c x e w (hx ▸ mdp_f a b c ra.1 ra.2 rb.1 rb.2 rc.2))
  have H4 := Aside0.mk (fun w => units_MulDiv.calls 100 b a c x e w (hx ▸ md_comm a b c ▸ mdp_f b a c rb.1 rb.2 ra.1 ra.2 rc.2))
  have H2 := Aside0.mk (fun w => units_MulDiv.calls 100 a b 1 x2 e2 w (hx2 ▸ mdp_f a b 1 ra.1 ra.2 rb.1 rb.2 (by decide)))
  have H1 := Aside0.mk (fun w => units_MulDiv.calls 100 a c c x1 e1 w (hx1 ▸ mdp_f a c c ra.1 ra.2 rc.1 rc.2 rc.2))
  have Sa := fun v (h : decide (-2147483648 ≤ a ∧ a ≤ 2147483648) = v) => Aside0.mk (fun w => sawmilllaw01_small.calls a v w (h ▸ small_f a))
  have Sb := fun v (h : decide (-2147483648 ≤ b ∧ b ≤ 2147483648) = v) => Aside0.mk (fun w => sawmilllaw01_small.calls b v w (h ▸ small_f b))
  by_cases hc : c > 0
  · have h1 := md_back a c hc ra.1 ra.2
    rw [hx1] at h1
    cases h1
    by_cases ha : -2147483648 ≤ a ∧ a ≤ 2147483648
    · by_cases hb : -2147483648 ≤ b ∧ b ≤ 2147483648
      · have h2 := md_one a b ha.1 ha.2 hb.1 hb.2
        rw [hx2] at h2
        cases h2
        have hw : wrap64 (a * b) = a * b := by
          have hp : (a * b).natAbs ≤ 2147483648 * 2147483648 := by
            rw [Int.natAbs_mul]
            exact Nat.mul_le_mul (by omega) (by omega)
          generalize a * b = z at hp
          exact w64 (by omega) (by omega)
        rw [← hw] at H2
        exact prod_1tt HT a b c x e H1 H2 H3 H4 hc (Sa true (decide_eq_true ha)) (Sb true (decide_eq_true hb))
      · exact prod_1t HT a b c x2 e2 x e H1 H2 H3 H4 hc (Sa true (decide_eq_true ha)) (Sb false (decide_eq_false hb))
    · exact prod_1n HT a b c x2 e2 x e H1 H2 H3 H4 hc (Sa false (decide_eq_false ha))
  · skip
    by_cases ha : -2147483648 ≤ a ∧ a ≤ 2147483648
    · by_cases hb : -2147483648 ≤ b ∧ b ≤ 2147483648
      · have h2 := md_one a b ha.1 ha.2 hb.1 hb.2
        rw [hx2] at h2
        cases h2
        have hw : wrap64 (a * b) = a * b := by
          have hp : (a * b).natAbs ≤ 2147483648 * 2147483648 := by
            rw [Int.natAbs_mul]
            exact Nat.mul_le_mul (by omega) (by omega)
          generalize a * b = z at hp
          exact w64 (by omega) (by omega)
        rw [← hw] at H2
        exact prod_0tt HT a b c x1 e1 x e H1 H2 H3 H4 hc (Sa true (decide_eq_true ha)) (Sb true (decide_eq_true hb))
      · exact prod_0t HT a b c x1 e1 x2 e2 x e H1 H2 H3 H4 hc (Sa true (decide_eq_true ha)) (Sb false (decide_eq_false hb))
    · exact prod_0n HT a b c x1 e1 x2 e2 x e H1 H2 H3 H4 hc (Sa false (decide_eq_false ha))
end Go.Proofs.YtlfloandockgbaaDoor.Uni
