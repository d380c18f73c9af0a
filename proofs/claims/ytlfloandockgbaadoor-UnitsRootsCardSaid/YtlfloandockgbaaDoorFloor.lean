/-
  What the method 'of' of the program's division returns, case by case, over the way to round. Each call makes one variable of its own.
-/
import Derived.Test.YtlfloandockgbaaDoorPAllx
namespace Go.Proofs.YtlfloandockgbaaDoor.Uni
open Go.RowKit Go.Proofs.YtlfloandockgbaaDoorW.PrintWords Go.Proofs.YtlfloandockgbaaDoorW.PrintLast Go.Proofs.YtlfloandockgbaaDoorW.PrintMore
open Go.Proofs.YtlfloandockgbaaDoor.PAll
set_option linter.unusedVariables false
set_option linter.unusedSimpArgs false

theorem w64 {x : Int} (h0 : -9223372036854775808 ≤ x) (h1 : x ≤ 9223372036854775807) : wrap64 x = x := by unfold wrap64; omega

set_option maxHeartbeats 1000000 in
theorem of_zero_29 (w : World) (a : Int) : Calls Tryd.prog 30 #[.agg #[.func (.func 29) #[] #[]], .int .i64 a, .int .i64 0] w fun e w' => e = .returned (.tuple #[.int .i64 0, .bool false]) ∧ Below w.heap.size w w' := by
  go_enter Tryd.func30, Tryd.ntmps30
  go_wp2_with fail
  go_ret2
  exact ⟨rfl, below_alloc (Below.refl _ _) _⟩

set_option maxHeartbeats 1000000 in
theorem of_least_29 (w : World) : Calls Tryd.prog 30 #[.agg #[.func (.func 29) #[] #[]], .int .i64 (-9223372036854775808), .int .i64 (-1)] w fun e w' => e = .returned (.tuple #[.int .i64 0, .bool false]) ∧ Below w.heap.size w w' := by
  go_enter Tryd.func30, Tryd.ntmps30
  go_wp2_with fail
  go_ret2
  exact ⟨rfl, below_alloc (Below.refl _ _) _⟩

set_option maxHeartbeats 4000000 in
set_option maxRecDepth 100000 in
theorem of_exact0_29_false (w : World) (a b q r res : Int) (hbn : b ≠ 0) (hb : (b == 0) = false) (ha : (a == -9223372036854775808) = false) (hq : Aside0 (wrap64 (Int.tdiv a b) = q)) (hr : Aside0 (Int.tmod a b = 0))
    (hup : Aside0 (∀ w, Calls Tryd.prog 29 #[.int .i64 (0), .int .i64 b] w fun e w' => e = .returned (.bool false) ∧ w = w')) (hres : Aside0 (q = res)) :
    Calls Tryd.prog 30 #[.agg #[.func (.func 29) #[] #[]], .int .i64 a, .int .i64 b] w fun e w' => e = .returned (.tuple #[.int .i64 res, .bool true]) ∧ Below w.heap.size w w' := by
  go_enter Tryd.func30, Tryd.ntmps30
  go_wp2_with fail
  go_quiet (fail)
  rw [hq.out, hr.out]
  go_wp2_with fail
  refine (hup.out _).mono ?_
  rintro _ _ ⟨rfl, rfl⟩
  go_wp2_with fail
  go_ret2
  exact ⟨by rw [← hres.out]; rfl, by repeat (first | exact Below.refl _ _ | apply pw_below_drewN | apply below_alloc)⟩

set_option maxHeartbeats 4000000 in
set_option maxRecDepth 100000 in
theorem of_exact1_29_false (w : World) (b q r res : Int) (hbn : b ≠ 0) (hb : (b == 0) = false) (hb1 : (b == -1) = false) (hq : Aside0 (wrap64 (-Int.tdiv 9223372036854775808 b) = q)) (hr : Aside0 (-(9223372036854775808 % b) = 0))
    (hup : Aside0 (∀ w, Calls Tryd.prog 29 #[.int .i64 (0), .int .i64 b] w fun e w' => e = .returned (.bool false) ∧ w = w')) (hres : Aside0 (q = res)) :
    Calls Tryd.prog 30 #[.agg #[.func (.func 29) #[] #[]], .int .i64 (-9223372036854775808), .int .i64 b] w fun e w' => e = .returned (.tuple #[.int .i64 res, .bool true]) ∧ Below w.heap.size w w' := by
  go_enter Tryd.func30, Tryd.ntmps30
  go_wp2_with fail
  go_quiet (fail)
  rw [hq.out, hr.out]
  go_wp2_with fail
  refine (hup.out _).mono ?_
  rintro _ _ ⟨rfl, rfl⟩
  go_wp2_with fail
  go_ret2
  exact ⟨by rw [← hres.out]; rfl, by repeat (first | exact Below.refl _ _ | apply pw_below_drewN | apply below_alloc)⟩

set_option maxHeartbeats 4000000 in
set_option maxRecDepth 100000 in
theorem of_nn0_29_false (w : World) (a b q r res : Int) (hbn : b ≠ 0) (hb : (b == 0) = false) (ha : (a == -9223372036854775808) = false) (hr0 : (r != 0) = true) (hrs : decide (r < 0) = true) (hbs : decide (b < 0) = true) (hq : Aside0 (wrap64 (Int.tdiv a b) = q)) (hr : Aside0 (Int.tmod a b = r))
    (hup : Aside0 (∀ w, Calls Tryd.prog 29 #[.int .i64 (r), .int .i64 b] w fun e w' => e = .returned (.bool false) ∧ w = w')) (hres : Aside0 (q = res)) :
    Calls Tryd.prog 30 #[.agg #[.func (.func 29) #[] #[]], .int .i64 a, .int .i64 b] w fun e w' => e = .returned (.tuple #[.int .i64 res, .bool true]) ∧ Below w.heap.size w w' := by
  go_enter Tryd.func30, Tryd.ntmps30
  go_wp2_with fail
  go_quiet (fail)
  rw [hq.out, hr.out]
  go_wp2_with fail
  refine (hup.out _).mono ?_
  rintro _ _ ⟨rfl, rfl⟩
  go_wp2_with fail
  go_ret2
  exact ⟨by rw [← hres.out]; rfl, by repeat (first | exact Below.refl _ _ | apply pw_below_drewN | apply below_alloc)⟩

set_option maxHeartbeats 4000000 in
set_option maxRecDepth 100000 in
theorem of_nn1_29_false (w : World) (b q r res : Int) (hbn : b ≠ 0) (hb : (b == 0) = false) (hb1 : (b == -1) = false) (hr0 : (r != 0) = true) (hrs : decide (r < 0) = true) (hbs : decide (b < 0) = true) (hq : Aside0 (wrap64 (-Int.tdiv 9223372036854775808 b) = q)) (hr : Aside0 (-(9223372036854775808 % b) = r))
    (hup : Aside0 (∀ w, Calls Tryd.prog 29 #[.int .i64 (r), .int .i64 b] w fun e w' => e = .returned (.bool false) ∧ w = w')) (hres : Aside0 (q = res)) :
    Calls Tryd.prog 30 #[.agg #[.func (.func 29) #[] #[]], .int .i64 (-9223372036854775808), .int .i64 b] w fun e w' => e = .returned (.tuple #[.int .i64 res, .bool true]) ∧ Below w.heap.size w w' := by
  go_enter Tryd.func30, Tryd.ntmps30
  go_wp2_with fail
  go_quiet (fail)
  rw [hq.out, hr.out]
  go_wp2_with fail
  refine (hup.out _).mono ?_
  rintro _ _ ⟨rfl, rfl⟩
  go_wp2_with fail
  go_ret2
  exact ⟨by rw [← hres.out]; rfl, by repeat (first | exact Below.refl _ _ | apply pw_below_drewN | apply below_alloc)⟩

set_option maxHeartbeats 4000000 in
set_option maxRecDepth 100000 in
theorem of_pp0_29_false (w : World) (a b q r res : Int) (hbn : b ≠ 0) (hb : (b == 0) = false) (ha : (a == -9223372036854775808) = false) (hr0 : (r != 0) = true) (hrs : decide (r < 0) = false) (hbs : decide (b < 0) = false) (hq : Aside0 (wrap64 (Int.tdiv a b) = q)) (hr : Aside0 (Int.tmod a b = r))
    (hup : Aside0 (∀ w, Calls Tryd.prog 29 #[.int .i64 (r), .int .i64 b] w fun e w' => e = .returned (.bool false) ∧ w = w')) (hres : Aside0 (q = res)) :
    Calls Tryd.prog 30 #[.agg #[.func (.func 29) #[] #[]], .int .i64 a, .int .i64 b] w fun e w' => e = .returned (.tuple #[.int .i64 res, .bool true]) ∧ Below w.heap.size w w' := by
  go_enter Tryd.func30, Tryd.ntmps30
  go_wp2_with fail
  go_quiet (fail)
  rw [hq.out, hr.out]
  go_wp2_with fail
  refine (hup.out _).mono ?_
  rintro _ _ ⟨rfl, rfl⟩
  go_wp2_with fail
  go_ret2
  exact ⟨by rw [← hres.out]; rfl, by repeat (first | exact Below.refl _ _ | apply pw_below_drewN | apply below_alloc)⟩

set_option maxHeartbeats 4000000 in
set_option maxRecDepth 100000 in
theorem of_pp1_29_false (w : World) (b q r res : Int) (hbn : b ≠ 0) (hb : (b == 0) = false) (hb1 : (b == -1) = false) (hr0 : (r != 0) = true) (hrs : decide (r < 0) = false) (hbs : decide (b < 0) = false) (hq : Aside0 (wrap64 (-Int.tdiv 9223372036854775808 b) = q)) (hr : Aside0 (-(9223372036854775808 % b) = r))
    (hup : Aside0 (∀ w, Calls Tryd.prog 29 #[.int .i64 (r), .int .i64 b] w fun e w' => e = .returned (.bool false) ∧ w = w')) (hres : Aside0 (q = res)) :
    Calls Tryd.prog 30 #[.agg #[.func (.func 29) #[] #[]], .int .i64 (-9223372036854775808), .int .i64 b] w fun e w' => e = .returned (.tuple #[.int .i64 res, .bool true]) ∧ Below w.heap.size w w' := by
  go_enter Tryd.func30, Tryd.ntmps30
  go_wp2_with fail
  go_quiet (fail)
  rw [hq.out, hr.out]
  go_wp2_with fail
  refine (hup.out _).mono ?_
  rintro _ _ ⟨rfl, rfl⟩
  go_wp2_with fail
  go_ret2
  exact ⟨by rw [← hres.out]; rfl, by repeat (first | exact Below.refl _ _ | apply pw_below_drewN | apply below_alloc)⟩

set_option maxHeartbeats 4000000 in
set_option maxRecDepth 100000 in
theorem of_np0_29_false (w : World) (a b q r res : Int) (hbn : b ≠ 0) (hb : (b == 0) = false) (ha : (a == -9223372036854775808) = false) (hr0 : (r != 0) = true) (hrs : decide (r < 0) = true) (hbs : decide (b < 0) = false) (hq : Aside0 (wrap64 (Int.tdiv a b) = q)) (hr : Aside0 (Int.tmod a b = r))
    (hup : Aside0 (∀ w, Calls Tryd.prog 29 #[.int .i64 (wrap64 (r + b)), .int .i64 b] w fun e w' => e = .returned (.bool false) ∧ w = w')) (hres : Aside0 (wrap64 (q - 1) = res)) :
    Calls Tryd.prog 30 #[.agg #[.func (.func 29) #[] #[]], .int .i64 a, .int .i64 b] w fun e w' => e = .returned (.tuple #[.int .i64 res, .bool true]) ∧ Below w.heap.size w w' := by
  go_enter Tryd.func30, Tryd.ntmps30
  go_wp2_with fail
  go_quiet (fail)
  rw [hq.out, hr.out]
  go_wp2_with fail
  refine (hup.out _).mono ?_
  rintro _ _ ⟨rfl, rfl⟩
  go_wp2_with fail
  go_ret2
  exact ⟨by rw [← hres.out]; rfl, by repeat (first | exact Below.refl _ _ | apply pw_below_drewN | apply below_alloc)⟩

set_option maxHeartbeats 4000000 in
set_option maxRecDepth 100000 in
theorem of_np1_29_false (w : World) (b q r res : Int) (hbn : b ≠ 0) (hb : (b == 0) = false) (hb1 : (b == -1) = false) (hr0 : (r != 0) = true) (hrs : decide (r < 0) = true) (hbs : decide (b < 0) = false) (hq : Aside0 (wrap64 (-Int.tdiv 9223372036854775808 b) = q)) (hr : Aside0 (-(9223372036854775808 % b) = r))
    (hup : Aside0 (∀ w, Calls Tryd.prog 29 #[.int .i64 (wrap64 (r + b)), .int .i64 b] w fun e w' => e = .returned (.bool false) ∧ w = w')) (hres : Aside0 (wrap64 (q - 1) = res)) :
    Calls Tryd.prog 30 #[.agg #[.func (.func 29) #[] #[]], .int .i64 (-9223372036854775808), .int .i64 b] w fun e w' => e = .returned (.tuple #[.int .i64 res, .bool true]) ∧ Below w.heap.size w w' := by
  go_enter Tryd.func30, Tryd.ntmps30
  go_wp2_with fail
  go_quiet (fail)
  rw [hq.out, hr.out]
  go_wp2_with fail
  refine (hup.out _).mono ?_
  rintro _ _ ⟨rfl, rfl⟩
  go_wp2_with fail
  go_ret2
  exact ⟨by rw [← hres.out]; rfl, by repeat (first | exact Below.refl _ _ | apply pw_below_drewN | apply below_alloc)⟩

set_option maxHeartbeats 4000000 in
set_option maxRecDepth 100000 in
theorem of_pn0_29_false (w : World) (a b q r res : Int) (hbn : b ≠ 0) (hb : (b == 0) = false) (ha : (a == -9223372036854775808) = false) (hr0 : (r != 0) = true) (hrs : decide (r < 0) = false) (hbs : decide (b < 0) = true) (hq : Aside0 (wrap64 (Int.tdiv a b) = q)) (hr : Aside0 (Int.tmod a b = r))
    (hup : Aside0 (∀ w, Calls Tryd.prog 29 #[.int .i64 (wrap64 (r + b)), .int .i64 b] w fun e w' => e = .returned (.bool false) ∧ w = w')) (hres : Aside0 (wrap64 (q - 1) = res)) :
    Calls Tryd.prog 30 #[.agg #[.func (.func 29) #[] #[]], .int .i64 a, .int .i64 b] w fun e w' => e = .returned (.tuple #[.int .i64 res, .bool true]) ∧ Below w.heap.size w w' := by
  go_enter Tryd.func30, Tryd.ntmps30
  go_wp2_with fail
  go_quiet (fail)
  rw [hq.out, hr.out]
  go_wp2_with fail
  refine (hup.out _).mono ?_
  rintro _ _ ⟨rfl, rfl⟩
  go_wp2_with fail
  go_ret2
  exact ⟨by rw [← hres.out]; rfl, by repeat (first | exact Below.refl _ _ | apply pw_below_drewN | apply below_alloc)⟩

set_option maxHeartbeats 4000000 in
set_option maxRecDepth 100000 in
theorem of_pn1_29_false (w : World) (b q r res : Int) (hbn : b ≠ 0) (hb : (b == 0) = false) (hb1 : (b == -1) = false) (hr0 : (r != 0) = true) (hrs : decide (r < 0) = false) (hbs : decide (b < 0) = true) (hq : Aside0 (wrap64 (-Int.tdiv 9223372036854775808 b) = q)) (hr : Aside0 (-(9223372036854775808 % b) = r))
    (hup : Aside0 (∀ w, Calls Tryd.prog 29 #[.int .i64 (wrap64 (r + b)), .int .i64 b] w fun e w' => e = .returned (.bool false) ∧ w = w')) (hres : Aside0 (wrap64 (q - 1) = res)) :
    Calls Tryd.prog 30 #[.agg #[.func (.func 29) #[] #[]], .int .i64 (-9223372036854775808), .int .i64 b] w fun e w' => e = .returned (.tuple #[.int .i64 res, .bool true]) ∧ Below w.heap.size w w' := by
  go_enter Tryd.func30, Tryd.ntmps30
  go_wp2_with fail
  go_quiet (fail)
  rw [hq.out, hr.out]
  go_wp2_with fail
  refine (hup.out _).mono ?_
  rintro _ _ ⟨rfl, rfl⟩
  go_wp2_with fail
  go_ret2
  exact ⟨by rw [← hres.out]; rfl, by repeat (first | exact Below.refl _ _ | apply pw_below_drewN | apply below_alloc)⟩

set_option maxHeartbeats 1000000 in
theorem of_zero_31 (w : World) (a : Int) : Calls Tryd.prog 30 #[.agg #[.func (.func 31) #[] #[]], .int .i64 a, .int .i64 0] w fun e w' => e = .returned (.tuple #[.int .i64 0, .bool false]) ∧ Below w.heap.size w w' := by
  go_enter Tryd.func30, Tryd.ntmps30
  go_wp2_with fail
  go_ret2
  exact ⟨rfl, below_alloc (Below.refl _ _) _⟩

set_option maxHeartbeats 1000000 in
theorem of_least_31 (w : World) : Calls Tryd.prog 30 #[.agg #[.func (.func 31) #[] #[]], .int .i64 (-9223372036854775808), .int .i64 (-1)] w fun e w' => e = .returned (.tuple #[.int .i64 0, .bool false]) ∧ Below w.heap.size w w' := by
  go_enter Tryd.func30, Tryd.ntmps30
  go_wp2_with fail
  go_ret2
  exact ⟨rfl, below_alloc (Below.refl _ _) _⟩

set_option maxHeartbeats 4000000 in
set_option maxRecDepth 100000 in
theorem of_exact0_31_false (w : World) (a b q r res : Int) (hbn : b ≠ 0) (hb : (b == 0) = false) (ha : (a == -9223372036854775808) = false) (hq : Aside0 (wrap64 (Int.tdiv a b) = q)) (hr : Aside0 (Int.tmod a b = 0))
    (hup : Aside0 (∀ w, Calls Tryd.prog 31 #[.int .i64 (0), .int .i64 b] w fun e w' => e = .returned (.bool false) ∧ w = w')) (hres : Aside0 (q = res)) :
    Calls Tryd.prog 30 #[.agg #[.func (.func 31) #[] #[]], .int .i64 a, .int .i64 b] w fun e w' => e = .returned (.tuple #[.int .i64 res, .bool true]) ∧ Below w.heap.size w w' := by
  go_enter Tryd.func30, Tryd.ntmps30
  go_wp2_with fail
  go_quiet (fail)
  rw [hq.out, hr.out]
  go_wp2_with fail
  refine (hup.out _).mono ?_
  rintro _ _ ⟨rfl, rfl⟩
  go_wp2_with fail
  go_ret2
  exact ⟨by rw [← hres.out]; rfl, by repeat (first | exact Below.refl _ _ | apply pw_below_drewN | apply below_alloc)⟩

set_option maxHeartbeats 4000000 in
set_option maxRecDepth 100000 in
theorem of_exact1_31_false (w : World) (b q r res : Int) (hbn : b ≠ 0) (hb : (b == 0) = false) (hb1 : (b == -1) = false) (hq : Aside0 (wrap64 (-Int.tdiv 9223372036854775808 b) = q)) (hr : Aside0 (-(9223372036854775808 % b) = 0))
    (hup : Aside0 (∀ w, Calls Tryd.prog 31 #[.int .i64 (0), .int .i64 b] w fun e w' => e = .returned (.bool false) ∧ w = w')) (hres : Aside0 (q = res)) :
    Calls Tryd.prog 30 #[.agg #[.func (.func 31) #[] #[]], .int .i64 (-9223372036854775808), .int .i64 b] w fun e w' => e = .returned (.tuple #[.int .i64 res, .bool true]) ∧ Below w.heap.size w w' := by
  go_enter Tryd.func30, Tryd.ntmps30
  go_wp2_with fail
  go_quiet (fail)
  rw [hq.out, hr.out]
  go_wp2_with fail
  refine (hup.out _).mono ?_
  rintro _ _ ⟨rfl, rfl⟩
  go_wp2_with fail
  go_ret2
  exact ⟨by rw [← hres.out]; rfl, by repeat (first | exact Below.refl _ _ | apply pw_below_drewN | apply below_alloc)⟩

set_option maxHeartbeats 4000000 in
set_option maxRecDepth 100000 in
theorem of_nn0_31_false (w : World) (a b q r res : Int) (hbn : b ≠ 0) (hb : (b == 0) = false) (ha : (a == -9223372036854775808) = false) (hr0 : (r != 0) = true) (hrs : decide (r < 0) = true) (hbs : decide (b < 0) = true) (hq : Aside0 (wrap64 (Int.tdiv a b) = q)) (hr : Aside0 (Int.tmod a b = r))
    (hup : Aside0 (∀ w, Calls Tryd.prog 31 #[.int .i64 (r), .int .i64 b] w fun e w' => e = .returned (.bool false) ∧ w = w')) (hres : Aside0 (q = res)) :
    Calls Tryd.prog 30 #[.agg #[.func (.func 31) #[] #[]], .int .i64 a, .int .i64 b] w fun e w' => e = .returned (.tuple #[.int .i64 res, .bool true]) ∧ Below w.heap.size w w' := by
  go_enter Tryd.func30, Tryd.ntmps30
  go_wp2_with fail
  go_quiet (fail)
  rw [hq.out, hr.out]
  go_wp2_with fail
  refine (hup.out _).mono ?_
  rintro _ _ ⟨rfl, rfl⟩
  go_wp2_with fail
  go_ret2
  exact ⟨by rw [← hres.out]; rfl, by repeat (first | exact Below.refl _ _ | apply pw_below_drewN | apply below_alloc)⟩

set_option maxHeartbeats 4000000 in
set_option maxRecDepth 100000 in
theorem of_nn0_31_true (w : World) (a b q r res : Int) (hbn : b ≠ 0) (hb : (b == 0) = false) (ha : (a == -9223372036854775808) = false) (hr0 : (r != 0) = true) (hrs : decide (r < 0) = true) (hbs : decide (b < 0) = true) (hq : Aside0 (wrap64 (Int.tdiv a b) = q)) (hr : Aside0 (Int.tmod a b = r))
    (hup : Aside0 (∀ w, Calls Tryd.prog 31 #[.int .i64 (r), .int .i64 b] w fun e w' => e = .returned (.bool true) ∧ w = w')) (hres : Aside0 (wrap64 (q + 1) = res)) :
    Calls Tryd.prog 30 #[.agg #[.func (.func 31) #[] #[]], .int .i64 a, .int .i64 b] w fun e w' => e = .returned (.tuple #[.int .i64 res, .bool true]) ∧ Below w.heap.size w w' := by
  go_enter Tryd.func30, Tryd.ntmps30
  go_wp2_with fail
  go_quiet (fail)
  rw [hq.out, hr.out]
  go_wp2_with fail
  refine (hup.out _).mono ?_
  rintro _ _ ⟨rfl, rfl⟩
  go_wp2_with fail
  go_ret2
  exact ⟨by rw [← hres.out]; rfl, by repeat (first | exact Below.refl _ _ | apply pw_below_drewN | apply below_alloc)⟩

set_option maxHeartbeats 4000000 in
set_option maxRecDepth 100000 in
theorem of_nn1_31_false (w : World) (b q r res : Int) (hbn : b ≠ 0) (hb : (b == 0) = false) (hb1 : (b == -1) = false) (hr0 : (r != 0) = true) (hrs : decide (r < 0) = true) (hbs : decide (b < 0) = true) (hq : Aside0 (wrap64 (-Int.tdiv 9223372036854775808 b) = q)) (hr : Aside0 (-(9223372036854775808 % b) = r))
    (hup : Aside0 (∀ w, Calls Tryd.prog 31 #[.int .i64 (r), .int .i64 b] w fun e w' => e = .returned (.bool false) ∧ w = w')) (hres : Aside0 (q = res)) :
    Calls Tryd.prog 30 #[.agg #[.func (.func 31) #[] #[]], .int .i64 (-9223372036854775808), .int .i64 b] w fun e w' => e = .returned (.tuple #[.int .i64 res, .bool true]) ∧ Below w.heap.size w w' := by
  go_enter Tryd.func30, Tryd.ntmps30
  go_wp2_with fail
  go_quiet (fail)
  rw [hq.out, hr.out]
  go_wp2_with fail
  refine (hup.out _).mono ?_
  rintro _ _ ⟨rfl, rfl⟩
  go_wp2_with fail
  go_ret2
  exact ⟨by rw [← hres.out]; rfl, by repeat (first | exact Below.refl _ _ | apply pw_below_drewN | apply below_alloc)⟩

set_option maxHeartbeats 4000000 in
set_option maxRecDepth 100000 in
theorem of_nn1_31_true (w : World) (b q r res : Int) (hbn : b ≠ 0) (hb : (b == 0) = false) (hb1 : (b == -1) = false) (hr0 : (r != 0) = true) (hrs : decide (r < 0) = true) (hbs : decide (b < 0) = true) (hq : Aside0 (wrap64 (-Int.tdiv 9223372036854775808 b) = q)) (hr : Aside0 (-(9223372036854775808 % b) = r))
    (hup : Aside0 (∀ w, Calls Tryd.prog 31 #[.int .i64 (r), .int .i64 b] w fun e w' => e = .returned (.bool true) ∧ w = w')) (hres : Aside0 (wrap64 (q + 1) = res)) :
    Calls Tryd.prog 30 #[.agg #[.func (.func 31) #[] #[]], .int .i64 (-9223372036854775808), .int .i64 b] w fun e w' => e = .returned (.tuple #[.int .i64 res, .bool true]) ∧ Below w.heap.size w w' := by
  go_enter Tryd.func30, Tryd.ntmps30
  go_wp2_with fail
  go_quiet (fail)
  rw [hq.out, hr.out]
  go_wp2_with fail
  refine (hup.out _).mono ?_
  rintro _ _ ⟨rfl, rfl⟩
  go_wp2_with fail
  go_ret2
  exact ⟨by rw [← hres.out]; rfl, by repeat (first | exact Below.refl _ _ | apply pw_below_drewN | apply below_alloc)⟩

set_option maxHeartbeats 4000000 in
set_option maxRecDepth 100000 in
theorem of_pp0_31_false (w : World) (a b q r res : Int) (hbn : b ≠ 0) (hb : (b == 0) = false) (ha : (a == -9223372036854775808) = false) (hr0 : (r != 0) = true) (hrs : decide (r < 0) = false) (hbs : decide (b < 0) = false) (hq : Aside0 (wrap64 (Int.tdiv a b) = q)) (hr : Aside0 (Int.tmod a b = r))
    (hup : Aside0 (∀ w, Calls Tryd.prog 31 #[.int .i64 (r), .int .i64 b] w fun e w' => e = .returned (.bool false) ∧ w = w')) (hres : Aside0 (q = res)) :
    Calls Tryd.prog 30 #[.agg #[.func (.func 31) #[] #[]], .int .i64 a, .int .i64 b] w fun e w' => e = .returned (.tuple #[.int .i64 res, .bool true]) ∧ Below w.heap.size w w' := by
  go_enter Tryd.func30, Tryd.ntmps30
  go_wp2_with fail
  go_quiet (fail)
  rw [hq.out, hr.out]
  go_wp2_with fail
  refine (hup.out _).mono ?_
  rintro _ _ ⟨rfl, rfl⟩
  go_wp2_with fail
  go_ret2
  exact ⟨by rw [← hres.out]; rfl, by repeat (first | exact Below.refl _ _ | apply pw_below_drewN | apply below_alloc)⟩

set_option maxHeartbeats 4000000 in
set_option maxRecDepth 100000 in
theorem of_pp0_31_true (w : World) (a b q r res : Int) (hbn : b ≠ 0) (hb : (b == 0) = false) (ha : (a == -9223372036854775808) = false) (hr0 : (r != 0) = true) (hrs : decide (r < 0) = false) (hbs : decide (b < 0) = false) (hq : Aside0 (wrap64 (Int.tdiv a b) = q)) (hr : Aside0 (Int.tmod a b = r))
    (hup : Aside0 (∀ w, Calls Tryd.prog 31 #[.int .i64 (r), .int .i64 b] w fun e w' => e = .returned (.bool true) ∧ w = w')) (hres : Aside0 (wrap64 (q + 1) = res)) :
    Calls Tryd.prog 30 #[.agg #[.func (.func 31) #[] #[]], .int .i64 a, .int .i64 b] w fun e w' => e = .returned (.tuple #[.int .i64 res, .bool true]) ∧ Below w.heap.size w w' := by
  go_enter Tryd.func30, Tryd.ntmps30
  go_wp2_with fail
  go_quiet (fail)
  rw [hq.out, hr.out]
  go_wp2_with fail
  refine (hup.out _).mono ?_
  rintro _ _ ⟨rfl, rfl⟩
  go_wp2_with fail
  go_ret2
  exact ⟨by rw [← hres.out]; rfl, by repeat (first | exact Below.refl _ _ | apply pw_below_drewN | apply below_alloc)⟩

set_option maxHeartbeats 4000000 in
set_option maxRecDepth 100000 in
theorem of_pp1_31_false (w : World) (b q r res : Int) (hbn : b ≠ 0) (hb : (b == 0) = false) (hb1 : (b == -1) = false) (hr0 : (r != 0) = true) (hrs : decide (r < 0) = false) (hbs : decide (b < 0) = false) (hq : Aside0 (wrap64 (-Int.tdiv 9223372036854775808 b) = q)) (hr : Aside0 (-(9223372036854775808 % b) = r))
    (hup : Aside0 (∀ w, Calls Tryd.prog 31 #[.int .i64 (r), .int .i64 b] w fun e w' => e = .returned (.bool false) ∧ w = w')) (hres : Aside0 (q = res)) :
    Calls Tryd.prog 30 #[.agg #[.func (.func 31) #[] #[]], .int .i64 (-9223372036854775808), .int .i64 b] w fun e w' => e = .returned (.tuple #[.int .i64 res, .bool true]) ∧ Below w.heap.size w w' := by
  go_enter Tryd.func30, Tryd.ntmps30
  go_wp2_with fail
  go_quiet (fail)
  rw [hq.out, hr.out]
  go_wp2_with fail
  refine (hup.out _).mono ?_
  rintro _ _ ⟨rfl, rfl⟩
  go_wp2_with fail
  go_ret2
  exact ⟨by rw [← hres.out]; rfl, by repeat (first | exact Below.refl _ _ | apply pw_below_drewN | apply below_alloc)⟩

set_option maxHeartbeats 4000000 in
set_option maxRecDepth 100000 in
theorem of_pp1_31_true (w : World) (b q r res : Int) (hbn : b ≠ 0) (hb : (b == 0) = false) (hb1 : (b == -1) = false) (hr0 : (r != 0) = true) (hrs : decide (r < 0) = false) (hbs : decide (b < 0) = false) (hq : Aside0 (wrap64 (-Int.tdiv 9223372036854775808 b) = q)) (hr : Aside0 (-(9223372036854775808 % b) = r))
    (hup : Aside0 (∀ w, Calls Tryd.prog 31 #[.int .i64 (r), .int .i64 b] w fun e w' => e = .returned (.bool true) ∧ w = w')) (hres : Aside0 (wrap64 (q + 1) = res)) :
    Calls Tryd.prog 30 #[.agg #[.func (.func 31) #[] #[]], .int .i64 (-9223372036854775808), .int .i64 b] w fun e w' => e = .returned (.tuple #[.int .i64 res, .bool true]) ∧ Below w.heap.size w w' := by
  go_enter Tryd.func30, Tryd.ntmps30
  go_wp2_with fail
  go_quiet (fail)
  rw [hq.out, hr.out]
  go_wp2_with fail
  refine (hup.out _).mono ?_
  rintro _ _ ⟨rfl, rfl⟩
  go_wp2_with fail
  go_ret2
  exact ⟨by rw [← hres.out]; rfl, by repeat (first | exact Below.refl _ _ | apply pw_below_drewN | apply below_alloc)⟩

set_option maxHeartbeats 4000000 in
set_option maxRecDepth 100000 in
theorem of_np0_31_false (w : World) (a b q r res : Int) (hbn : b ≠ 0) (hb : (b == 0) = false) (ha : (a == -9223372036854775808) = false) (hr0 : (r != 0) = true) (hrs : decide (r < 0) = true) (hbs : decide (b < 0) = false) (hq : Aside0 (wrap64 (Int.tdiv a b) = q)) (hr : Aside0 (Int.tmod a b = r))
    (hup : Aside0 (∀ w, Calls Tryd.prog 31 #[.int .i64 (wrap64 (r + b)), .int .i64 b] w fun e w' => e = .returned (.bool false) ∧ w = w')) (hres : Aside0 (wrap64 (q - 1) = res)) :
    Calls Tryd.prog 30 #[.agg #[.func (.func 31) #[] #[]], .int .i64 a, .int .i64 b] w fun e w' => e = .returned (.tuple #[.int .i64 res, .bool true]) ∧ Below w.heap.size w w' := by
  go_enter Tryd.func30, Tryd.ntmps30
  go_wp2_with fail
  go_quiet (fail)
  rw [hq.out, hr.out]
  go_wp2_with fail
  refine (hup.out _).mono ?_
  rintro _ _ ⟨rfl, rfl⟩
  go_wp2_with fail
  go_ret2
  exact ⟨by rw [← hres.out]; rfl, by repeat (first | exact Below.refl _ _ | apply pw_below_drewN | apply below_alloc)⟩

set_option maxHeartbeats 4000000 in
set_option maxRecDepth 100000 in
theorem of_np0_31_true (w : World) (a b q r res : Int) (hbn : b ≠ 0) (hb : (b == 0) = false) (ha : (a == -9223372036854775808) = false) (hr0 : (r != 0) = true) (hrs : decide (r < 0) = true) (hbs : decide (b < 0) = false) (hq : Aside0 (wrap64 (Int.tdiv a b) = q)) (hr : Aside0 (Int.tmod a b = r))
    (hup : Aside0 (∀ w, Calls Tryd.prog 31 #[.int .i64 (wrap64 (r + b)), .int .i64 b] w fun e w' => e = .returned (.bool true) ∧ w = w')) (hres : Aside0 (wrap64 (wrap64 (q - 1) + 1) = res)) :
    Calls Tryd.prog 30 #[.agg #[.func (.func 31) #[] #[]], .int .i64 a, .int .i64 b] w fun e w' => e = .returned (.tuple #[.int .i64 res, .bool true]) ∧ Below w.heap.size w w' := by
  go_enter Tryd.func30, Tryd.ntmps30
  go_wp2_with fail
  go_quiet (fail)
  rw [hq.out, hr.out]
  go_wp2_with fail
  refine (hup.out _).mono ?_
  rintro _ _ ⟨rfl, rfl⟩
  go_wp2_with fail
  go_ret2
  exact ⟨by rw [← hres.out]; rfl, by repeat (first | exact Below.refl _ _ | apply pw_below_drewN | apply below_alloc)⟩

set_option maxHeartbeats 4000000 in
set_option maxRecDepth 100000 in
theorem of_np1_31_false (w : World) (b q r res : Int) (hbn : b ≠ 0) (hb : (b == 0) = false) (hb1 : (b == -1) = false) (hr0 : (r != 0) = true) (hrs : decide (r < 0) = true) (hbs : decide (b < 0) = false) (hq : Aside0 (wrap64 (-Int.tdiv 9223372036854775808 b) = q)) (hr : Aside0 (-(9223372036854775808 % b) = r))
    (hup : Aside0 (∀ w, Calls Tryd.prog 31 #[.int .i64 (wrap64 (r + b)), .int .i64 b] w fun e w' => e = .returned (.bool false) ∧ w = w')) (hres : Aside0 (wrap64 (q - 1) = res)) :
    Calls Tryd.prog 30 #[.agg #[.func (.func 31) #[] #[]], .int .i64 (-9223372036854775808), .int .i64 b] w fun e w' => e = .returned (.tuple #[.int .i64 res, .bool true]) ∧ Below w.heap.size w w' := by
  go_enter Tryd.func30, Tryd.ntmps30
  go_wp2_with fail
  go_quiet (fail)
  rw [hq.out, hr.out]
  go_wp2_with fail
  refine (hup.out _).mono ?_
  rintro _ _ ⟨rfl, rfl⟩
  go_wp2_with fail
  go_ret2
  exact ⟨by rw [← hres.out]; rfl, by repeat (first | exact Below.refl _ _ | apply pw_below_drewN | apply below_alloc)⟩

set_option maxHeartbeats 4000000 in
set_option maxRecDepth 100000 in
theorem of_np1_31_true (w : World) (b q r res : Int) (hbn : b ≠ 0) (hb : (b == 0) = false) (hb1 : (b == -1) = false) (hr0 : (r != 0) = true) (hrs : decide (r < 0) = true) (hbs : decide (b < 0) = false) (hq : Aside0 (wrap64 (-Int.tdiv 9223372036854775808 b) = q)) (hr : Aside0 (-(9223372036854775808 % b) = r))
    (hup : Aside0 (∀ w, Calls Tryd.prog 31 #[.int .i64 (wrap64 (r + b)), .int .i64 b] w fun e w' => e = .returned (.bool true) ∧ w = w')) (hres : Aside0 (wrap64 (wrap64 (q - 1) + 1) = res)) :
    Calls Tryd.prog 30 #[.agg #[.func (.func 31) #[] #[]], .int .i64 (-9223372036854775808), .int .i64 b] w fun e w' => e = .returned (.tuple #[.int .i64 res, .bool true]) ∧ Below w.heap.size w w' := by
  go_enter Tryd.func30, Tryd.ntmps30
  go_wp2_with fail
  go_quiet (fail)
  rw [hq.out, hr.out]
  go_wp2_with fail
  refine (hup.out _).mono ?_
  rintro _ _ ⟨rfl, rfl⟩
  go_wp2_with fail
  go_ret2
  exact ⟨by rw [← hres.out]; rfl, by repeat (first | exact Below.refl _ _ | apply pw_below_drewN | apply below_alloc)⟩

set_option maxHeartbeats 4000000 in
set_option maxRecDepth 100000 in
theorem of_pn0_31_false (w : World) (a b q r res : Int) (hbn : b ≠ 0) (hb : (b == 0) = false) (ha : (a == -9223372036854775808) = false) (hr0 : (r != 0) = true) (hrs : decide (r < 0) = false) (hbs : decide (b < 0) = true) (hq : Aside0 (wrap64 (Int.tdiv a b) = q)) (hr : Aside0 (Int.tmod a b = r))
    (hup : Aside0 (∀ w, Calls Tryd.prog 31 #[.int .i64 (wrap64 (r + b)), .int .i64 b] w fun e w' => e = .returned (.bool false) ∧ w = w')) (hres : Aside0 (wrap64 (q - 1) = res)) :
    Calls Tryd.prog 30 #[.agg #[.func (.func 31) #[] #[]], .int .i64 a, .int .i64 b] w fun e w' => e = .returned (.tuple #[.int .i64 res, .bool true]) ∧ Below w.heap.size w w' := by
  go_enter Tryd.func30, Tryd.ntmps30
  go_wp2_with fail
  go_quiet (fail)
  rw [hq.out, hr.out]
  go_wp2_with fail
  refine (hup.out _).mono ?_
  rintro _ _ ⟨rfl, rfl⟩
  go_wp2_with fail
  go_ret2
  exact ⟨by rw [← hres.out]; rfl, by repeat (first | exact Below.refl _ _ | apply pw_below_drewN | apply below_alloc)⟩

set_option maxHeartbeats 4000000 in
set_option maxRecDepth 100000 in
theorem of_pn0_31_true (w : World) (a b q r res : Int) (hbn : b ≠ 0) (hb : (b == 0) = false) (ha : (a == -9223372036854775808) = false) (hr0 : (r != 0) = true) (hrs : decide (r < 0) = false) (hbs : decide (b < 0) = true) (hq : Aside0 (wrap64 (Int.tdiv a b) = q)) (hr : Aside0 (Int.tmod a b = r))
    (hup : Aside0 (∀ w, Calls Tryd.prog 31 #[.int .i64 (wrap64 (r + b)), .int .i64 b] w fun e w' => e = .returned (.bool true) ∧ w = w')) (hres : Aside0 (wrap64 (wrap64 (q - 1) + 1) = res)) :
    Calls Tryd.prog 30 #[.agg #[.func (.func 31) #[] #[]], .int .i64 a, .int .i64 b] w fun e w' => e = .returned (.tuple #[.int .i64 res, .bool true]) ∧ Below w.heap.size w w' := by
  go_enter Tryd.func30, Tryd.ntmps30
  go_wp2_with fail
  go_quiet (fail)
  rw [hq.out, hr.out]
  go_wp2_with fail
  refine (hup.out _).mono ?_
  rintro _ _ ⟨rfl, rfl⟩
  go_wp2_with fail
  go_ret2
  exact ⟨by rw [← hres.out]; rfl, by repeat (first | exact Below.refl _ _ | apply pw_below_drewN | apply below_alloc)⟩

set_option maxHeartbeats 4000000 in
set_option maxRecDepth 100000 in
theorem of_pn1_31_false (w : World) (b q r res : Int) (hbn : b ≠ 0) (hb : (b == 0) = false) (hb1 : (b == -1) = false) (hr0 : (r != 0) = true) (hrs : decide (r < 0) = false) (hbs : decide (b < 0) = true) (hq : Aside0 (wrap64 (-Int.tdiv 9223372036854775808 b) = q)) (hr : Aside0 (-(9223372036854775808 % b) = r))
    (hup : Aside0 (∀ w, Calls Tryd.prog 31 #[.int .i64 (wrap64 (r + b)), .int .i64 b] w fun e w' => e = .returned (.bool false) ∧ w = w')) (hres : Aside0 (wrap64 (q - 1) = res)) :
    Calls Tryd.prog 30 #[.agg #[.func (.func 31) #[] #[]], .int .i64 (-9223372036854775808), .int .i64 b] w fun e w' => e = .returned (.tuple #[.int .i64 res, .bool true]) ∧ Below w.heap.size w w' := by
  go_enter Tryd.func30, Tryd.ntmps30
  go_wp2_with fail
  go_quiet (fail)
  rw [hq.out, hr.out]
  go_wp2_with fail
  refine (hup.out _).mono ?_
  rintro _ _ ⟨rfl, rfl⟩
  go_wp2_with fail
  go_ret2
  exact ⟨by rw [← hres.out]; rfl, by repeat (first | exact Below.refl _ _ | apply pw_below_drewN | apply below_alloc)⟩

set_option maxHeartbeats 4000000 in
set_option maxRecDepth 100000 in
theorem of_pn1_31_true (w : World) (b q r res : Int) (hbn : b ≠ 0) (hb : (b == 0) = false) (hb1 : (b == -1) = false) (hr0 : (r != 0) = true) (hrs : decide (r < 0) = false) (hbs : decide (b < 0) = true) (hq : Aside0 (wrap64 (-Int.tdiv 9223372036854775808 b) = q)) (hr : Aside0 (-(9223372036854775808 % b) = r))
    (hup : Aside0 (∀ w, Calls Tryd.prog 31 #[.int .i64 (wrap64 (r + b)), .int .i64 b] w fun e w' => e = .returned (.bool true) ∧ w = w')) (hres : Aside0 (wrap64 (wrap64 (q - 1) + 1) = res)) :
    Calls Tryd.prog 30 #[.agg #[.func (.func 31) #[] #[]], .int .i64 (-9223372036854775808), .int .i64 b] w fun e w' => e = .returned (.tuple #[.int .i64 res, .bool true]) ∧ Below w.heap.size w w' := by
  go_enter Tryd.func30, Tryd.ntmps30
  go_wp2_with fail
  go_quiet (fail)
  rw [hq.out, hr.out]
  go_wp2_with fail
  refine (hup.out _).mono ?_
  rintro _ _ ⟨rfl, rfl⟩
  go_wp2_with fail
  go_ret2
  exact ⟨by rw [← hres.out]; rfl, by repeat (first | exact Below.refl _ _ | apply pw_below_drewN | apply below_alloc)⟩

end Go.Proofs.YtlfloandockgbaaDoor.Uni
