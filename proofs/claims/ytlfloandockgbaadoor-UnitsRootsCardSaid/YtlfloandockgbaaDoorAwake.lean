/-
  The examples that each law checks: they are met. Condition: the library's table of powers of ten holds what it holds at the start.
-/
import Derived.Test.YtlfloandockgbaaDoorFmt
import Derived.Test.YtlfloandockgbaaDoorFloor
namespace Go.Proofs.YtlfloandockgbaaDoor.Uni
open Go.RowKit Go.Proofs.YtlfloandockgbaaDoorW.PrintWords Go.Proofs.YtlfloandockgbaaDoorW.PrintLast Go.Proofs.YtlfloandockgbaaDoorW.PrintMore
open Go.Proofs.YtlfloandockgbaaDoor.PAll
set_option linter.unusedVariables false
set_option linter.unusedSimpArgs false

theorem tab_below {w w' : World} (h : Tab w) (hb : Below w.heap.size w w') : Tab w' := by
  unfold Tab Lib.TabIs at h ⊢
  have hg : Tryd.prog.globalNamed "internal/strconv.uint64pow10" = some 2 := by kernel_rfl
  have hlt : 2 < w.heap.size := by
    unfold World.var? at h
    simp only [hg, Option.bind_some] at h
    rcases Nat.lt_or_ge 2 w.heap.size with hl | hl
    · exact hl
    · rw [Array.getElem?_eq_none hl] at h
      cases h
  unfold World.var? at h ⊢
  simp only [hg, Option.bind_some] at h ⊢
  rw [hb.block 2 hlt]
  exact h
theorem up29 (x y : Int) (w : World) : Calls Tryd.prog 29 #[.int .i64 x, .int .i64 y] w fun e w' => e = .returned (.bool false) ∧ w = w' := by
  go_enter Tryd.func29, Tryd.ntmps29
  go_wp2_with fail
  go_ret
  exact ⟨rfl, rfl⟩
theorem up31_12 (w : World) : Calls Tryd.prog 31 #[.int .i64 (wrap64 (-1 + 2)), .int .i64 2] w fun e w' => e = .returned (.bool true) ∧ w = w' := by
  have e : wrap64 (-1 + 2) = 1 := by kernel_rfl
  rw [e]
  go_enter Tryd.func31, Tryd.ntmps31
  go_wp2_with fail
  go_ret
  exact ⟨rfl, rfl⟩
theorem aw_floor (w : World) : Calls Tryd.prog 15 #[.int .i64 (-7), .int .i64 2] w fun e w' => e = .returned (.tuple #[.int .i64 (-4), .bool true]) ∧ Below w.heap.size w w' := by
  have H := Aside0.mk (fun w => of_np0_29_false w (-7) 2 (-3) (-1) (-4) (by decide) (by decide) (by decide) (by decide) (by decide) (by decide) ⟨by kernel_rfl⟩ ⟨by kernel_rfl⟩ ⟨fun w => up29 _ _ w⟩ ⟨by kernel_rfl⟩)
  go_enter Tryd.func15, Tryd.ntmps15
  go_wp2_with (go_at_call 30; refine (H.out _).mono ?_; rintro _ w1 ⟨rfl, hb⟩)
  go_ret2
  exact ⟨rfl, hb⟩
theorem aw_near (w : World) : Calls Tryd.prog 16 #[.int .i64 (-5), .int .i64 2] w fun e w' => e = .returned (.tuple #[.int .i64 (-2), .bool true]) ∧ Below w.heap.size w w' := by
  have H := Aside0.mk (fun w => of_np0_31_true w (-5) 2 (-2) (-1) (-2) (by decide) (by decide) (by decide) (by decide) (by decide) (by decide) ⟨by kernel_rfl⟩ ⟨by kernel_rfl⟩ ⟨fun w => up31_12 w⟩ ⟨by kernel_rfl⟩)
  go_enter Tryd.func16, Tryd.ntmps16
  go_wp2_with (go_at_call 30; refine (H.out _).mono ?_; rintro _ w1 ⟨rfl, hb⟩)
  go_ret2
  exact ⟨rfl, hb⟩
theorem aw_mul (w : World) : Calls Tryd.prog 10 #[.int .i64 1000000000000000000, .int .i64 1000000000000000000, .int .i64 1000000000000000000] w fun e w' => e = .returned (.tuple #[.int .i64 1000000000000000000, .int .i64 0]) ∧ Below w.heap.size w w' := by
  refine (units_MulDiv.calls 100 _ _ _ _ _ w (by kernel_rfl : units_MulDiv.f 100 1000000000000000000 1000000000000000000 1000000000000000000 = some (1000000000000000000, 0))).mono ?_
  rintro _ w' ⟨rfl, h⟩
  first | exact ⟨rfl, h⟩ | exact ⟨rfl, h.below⟩
theorem aw_parse (w : World) : Calls Tryd.prog 27 #[.string ⟨#[45, 48, 46, 48, 53]⟩, .int .i64 2] w fun e w' => e = .returned (.tuple #[.int .i64 (-5), .int .i64 0]) ∧ Below w.heap.size w w' := by
  refine (units_Parse.calls 100 _ _ _ _ w (by kernel_rfl : units_Parse.f 100 ⟨#[45, 48, 46, 48, 53]⟩ 2 = some (-5, 0))).mono ?_
  rintro _ w' ⟨rfl, h⟩
  first | exact ⟨rfl, h⟩ | exact ⟨rfl, h.below⟩
theorem aw_clamp (a b c r : Int) (w : World) (h : units_Clamp.f a b c = some r) : Calls Tryd.prog 20 #[.int .i64 a, .int .i64 b, .int .i64 c] w fun e w' => e = .returned (.int .i64 r) ∧ Below w.heap.size w w' := by
  refine (units_Clamp.calls _ _ _ _ w h).mono ?_
  rintro _ w' ⟨rfl, h⟩
  first | exact ⟨rfl, h⟩ | exact ⟨rfl, h.below⟩
theorem aw_toward (k : Nat) (a b c r : Int) (w : World) (h : units_Toward.f k a b c = some r) : Calls Tryd.prog 13 #[.int .i64 a, .int .i64 b, .int .i64 c] w fun e w' => e = .returned (.int .i64 r) ∧ Below w.heap.size w w' := by
  refine (units_Toward.calls k _ _ _ _ w h).mono ?_
  rintro _ w' ⟨rfl, h⟩
  first | exact ⟨rfl, h⟩ | exact ⟨rfl, h.below⟩
theorem aw_root (k : Nat) (a r : Int) (w : World) (h : units_Root.f k a = some r) : Calls Tryd.prog 23 #[.int .i64 a] w fun e w' => e = .returned (.int .i64 r) ∧ Below w.heap.size w w' := by
  refine (units_Root.calls k _ _ w h).mono ?_
  rintro _ w' ⟨rfl, h⟩
  first | exact ⟨rfl, h⟩ | exact ⟨rfl, h.below⟩
theorem aw_size (a r : Int) (w : World) (h : units_magnitude.f a = some r) : Calls Tryd.prog 25 #[.int .i64 a] w fun e w' => e = .returned (.int .u64 r) ∧ Below w.heap.size w w' := by
  refine (units_magnitude.calls _ _ w h).mono ?_
  rintro _ w' ⟨rfl, h⟩
  first | exact ⟨rfl, h⟩ | exact ⟨rfl, h.below⟩
set_option maxHeartbeats 1000000 in
theorem aw_dec (w : World) (hT : Tab w) : Calls Tryd.prog 28 #[.int .i64 1234, .int .i64 1] w fun e w' => e = .returned (.string ⟨#[49, 50, 51, 46, 52]⟩) ∧ Below w.heap.size w w' := by
  have HT := Aside0.mk hT
  clear hT
  go_enter Tryd.func28, Tryd.ntmps28
  go_wp2_with (go_at_call 20; refine (aw_clamp 1 0 9 1 _ (by kernel_rfl)).mono ?_; rintro _ w1 ⟨rfl, hb1⟩)
  have B1 := Aside0.mk hb1
  clear hb1
  go_wp2_with (first | (go_at_call 25; refine (aw_size 1234 1234 _ (by kernel_rfl)).mono ?_; rintro _ w2 ⟨rfl, hb2⟩) | (go_at_call 39; refine (fmt1234 _ (tab_below HT.out (below_step B1.out hb2))).mono ?_; rintro _ w3 ⟨rfl, hb3⟩))
  have B3 := Aside0.mk (below_step (below_step B1.out hb2) hb3)
  clear hb2 hb3 B1
  go_quiet (fail)
  go_wp2_with fail
  go_ret
  exact ⟨by first | rfl | kernel_rfl, by repeat (first | exact B3.out | apply pw_below_drewN)⟩
def AllTrue (w : World) (e : Ending) (w' : World) : Prop := e = .returned (.bool true) ∧ Below w.heap.size w w'
set_option maxHeartbeats 2000000 in
theorem awake_any (w : World) (hT : Tab w) : Calls Tryd.prog 12 #[] w (AllTrue w) := by
  have HT := Aside0.mk hT
  clear hT
  go_enter Tryd.func12, Tryd.ntmps12
  go_wp2_with fail
  refine (aw_floor _).mono ?_
  rintro _ w1 ⟨rfl, hb⟩
  have B1 := Aside0.mk hb
  clear hb
  go_wp2_with fail
  refine (aw_near _).mono ?_
  rintro _ w2 ⟨rfl, hb⟩
  have B2 := Aside0.mk (below_step B1.out hb)
  clear hb B1
  go_wp2_with fail
  refine (aw_mul _).mono ?_
  rintro _ w3 ⟨rfl, hb⟩
  have B3 := Aside0.mk (below_step B2.out hb)
  clear hb B2
  go_wp2_with fail
  refine (aw_parse _).mono ?_
  rintro _ w4 ⟨rfl, hb⟩
  have B4 := Aside0.mk (below_step B3.out hb)
  clear hb B3
  go_wp2_with fail
  refine (aw_clamp 7 1 5 5 _ (by kernel_rfl)).mono ?_
  rintro _ w5 ⟨rfl, hb⟩
  have B5 := Aside0.mk (below_step B4.out hb)
  clear hb B4
  go_wp2_with fail
  refine (aw_toward 100 2000 2600 500 2030 _ (by kernel_rfl)).mono ?_
  rintro _ w6 ⟨rfl, hb⟩
  have B6 := Aside0.mk (below_step B5.out hb)
  clear hb B5
  go_wp2_with fail
  refine (aw_toward 100 (-9223372036854775808) 9223372036854775807 5000 (-1) _ (by kernel_rfl)).mono ?_
  rintro _ w7 ⟨rfl, hb⟩
  have B7 := Aside0.mk (below_step B6.out hb)
  clear hb B6
  go_wp2_with fail
  refine (aw_root 100 99 9 _ (by kernel_rfl)).mono ?_
  rintro _ w8 ⟨rfl, hb⟩
  have B8 := Aside0.mk (below_step B7.out hb)
  clear hb B7
  go_wp2_with fail
  refine (aw_dec _ (tab_below HT.out B8.out)).mono ?_
  rintro _ w9 ⟨rfl, hb⟩
  have B9 := Aside0.mk (below_step B8.out hb)
  clear hb B8
  go_wp2_with fail
  go_ret
  exact ⟨rfl, B9.out⟩
end Go.Proofs.YtlfloandockgbaaDoor.Uni
