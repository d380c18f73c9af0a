/-
  What the program's Floor and Nearest return, for every two numbers. Each call makes one variable of its own.
-/
import Derived.Test.YtlfloandockgbaaDoorFloor
namespace Go.Proofs.YtlfloandockgbaaDoor.Uni
open Go.RowKit Go.Proofs.YtlfloandockgbaaDoorW.PrintWords Go.Proofs.YtlfloandockgbaaDoorW.PrintLast Go.Proofs.YtlfloandockgbaaDoorW.PrintMore
open Go.Proofs.YtlfloandockgbaaDoor.PAll
set_option linter.unusedVariables false
set_option linter.unusedSimpArgs false

/-- The floor out of the truncated quotient, and what it leaves. -/
def fF (q r b : Int) : Int := if r = 0 then q else if (r < 0 ↔ b < 0) then q else wrap64 (q - 1)
def fR (r b : Int) : Int := if r = 0 then 0 else if (r < 0 ↔ b < 0) then r else wrap64 (r + b)
/-- Is the next number nearer, as the code tells it? -/
def upB (r b : Int) : Bool := if b > 0 then decide (r ≥ wrap64 (b - r)) else decide (r ≤ wrap64 (b - r))
theorem up29' (x y : Int) (w : World) : Calls Tryd.prog 29 #[.int .i64 x, .int .i64 y] w fun e w' => e = .returned (.bool false) ∧ w = w' := by
  go_enter Tryd.func29, Tryd.ntmps29
  go_wp2_with fail
  go_ret
  exact ⟨rfl, rfl⟩
theorem up31' (x y : Int) (w : World) : Calls Tryd.prog 31 #[.int .i64 x, .int .i64 y] w fun e w' => e = .returned (.bool (upB x y)) ∧ w = w' := by
  unfold upB
  by_cases h : y > 0
  · rw [if_pos h]
    go_enter Tryd.func31, Tryd.ntmps31
    go_wp2_with fail
    go_ret
    exact ⟨rfl, rfl⟩
  · rw [if_neg h]
    go_enter Tryd.func31, Tryd.ntmps31
    go_wp2_with fail
    go_ret
    exact ⟨rfl, rfl⟩
theorem neg_q (b q : Int) (h : Aside0 (wrap64 (Int.tdiv (-9223372036854775808) b) = q)) : Aside0 (wrap64 (-Int.tdiv 9223372036854775808 b) = q) := ⟨by rw [← Int.neg_tdiv]; exact h.out⟩
theorem neg_r (b r : Int) (h : Aside0 (Int.tmod (-9223372036854775808) b = r)) : Aside0 (-(9223372036854775808 % b) = r) := ⟨by rw [← Int.tmod_eq_emod_of_nonneg (by decide), ← Int.neg_tmod]; exact h.out⟩

theorem of_29 (w : World) (a b q r : Int) (hbn : b ≠ 0) (hgood : a = -9223372036854775808 → b ≠ -1) (hq : Aside0 (wrap64 (Int.tdiv a b) = q)) (hr : Aside0 (Int.tmod a b = r)) :
    Calls Tryd.prog 30 #[.agg #[.func (.func 29) #[] #[]], .int .i64 a, .int .i64 b] w fun e w' => e = .returned (.tuple #[.int .i64 (fF q r b), .bool true]) ∧ Below w.heap.size w w' := by
  have hb : (b == 0) = false := by simpa using hbn
  by_cases hr0 : r = 0
  · have e1 : fF q r b = q := by unfold fF; rw [if_pos hr0]
    rw [e1]
    clear e1
    subst hr0
    by_cases ha0 : a = -9223372036854775808
    · subst ha0
      have hb1 : (b == -1) = false := by simpa using hgood rfl
      exact of_exact1_29_false w b q 0 _ hbn hb hb1 (neg_q _ _ hq) (neg_r _ _ hr) ⟨fun w => up29' _ _ w⟩ ⟨rfl⟩
    · have ha : (a == -9223372036854775808) = false := by simpa using ha0
      exact of_exact0_29_false w a b q 0 _ hbn hb ha hq hr ⟨fun w => up29' _ _ w⟩ ⟨rfl⟩
  · have hr1 : (r != 0) = true := by simpa using hr0
    by_cases hn : r < 0
    · have hrs : decide (r < 0) = true := by simp [hn]
      by_cases hm : b < 0
      · have hbs : decide (b < 0) = true := by simp [hm]
        have e1 : fF q r b = q := by unfold fF; rw [if_neg hr0, if_pos (by omega)]
        rw [e1]
        clear e1
        by_cases ha0 : a = -9223372036854775808
        · subst ha0
          have hb1 : (b == -1) = false := by simpa using hgood rfl
          exact of_nn1_29_false w b q r _ hbn hb hb1 hr1 hrs hbs (neg_q _ _ hq) (neg_r _ _ hr) ⟨fun w => up29' _ _ w⟩ ⟨rfl⟩
        · have ha : (a == -9223372036854775808) = false := by simpa using ha0
          exact of_nn0_29_false w a b q r _ hbn hb ha hr1 hrs hbs hq hr ⟨fun w => up29' _ _ w⟩ ⟨rfl⟩
      · have hbs : decide (b < 0) = false := by simp [hm]
        have e1 : fF q r b = wrap64 (q - 1) := by unfold fF; rw [if_neg hr0, if_neg (by omega)]
        rw [e1]
        clear e1
        by_cases ha0 : a = -9223372036854775808
        · subst ha0
          have hb1 : (b == -1) = false := by simpa using hgood rfl
          exact of_np1_29_false w b q r _ hbn hb hb1 hr1 hrs hbs (neg_q _ _ hq) (neg_r _ _ hr) ⟨fun w => up29' _ _ w⟩ ⟨rfl⟩
        · have ha : (a == -9223372036854775808) = false := by simpa using ha0
          exact of_np0_29_false w a b q r _ hbn hb ha hr1 hrs hbs hq hr ⟨fun w => up29' _ _ w⟩ ⟨rfl⟩
    · have hrs : decide (r < 0) = false := by simp [hn]
      by_cases hm : b < 0
      · have hbs : decide (b < 0) = true := by simp [hm]
        have e1 : fF q r b = wrap64 (q - 1) := by unfold fF; rw [if_neg hr0, if_neg (by omega)]
        rw [e1]
        clear e1
        by_cases ha0 : a = -9223372036854775808
        · subst ha0
          have hb1 : (b == -1) = false := by simpa using hgood rfl
          exact of_pn1_29_false w b q r _ hbn hb hb1 hr1 hrs hbs (neg_q _ _ hq) (neg_r _ _ hr) ⟨fun w => up29' _ _ w⟩ ⟨rfl⟩
        · have ha : (a == -9223372036854775808) = false := by simpa using ha0
          exact of_pn0_29_false w a b q r _ hbn hb ha hr1 hrs hbs hq hr ⟨fun w => up29' _ _ w⟩ ⟨rfl⟩
      · have hbs : decide (b < 0) = false := by simp [hm]
        have e1 : fF q r b = q := by unfold fF; rw [if_neg hr0, if_pos (by omega)]
        rw [e1]
        clear e1
        by_cases ha0 : a = -9223372036854775808
        · subst ha0
          have hb1 : (b == -1) = false := by simpa using hgood rfl
          exact of_pp1_29_false w b q r _ hbn hb hb1 hr1 hrs hbs (neg_q _ _ hq) (neg_r _ _ hr) ⟨fun w => up29' _ _ w⟩ ⟨rfl⟩
        · have ha : (a == -9223372036854775808) = false := by simpa using ha0
          exact of_pp0_29_false w a b q r _ hbn hb ha hr1 hrs hbs hq hr ⟨fun w => up29' _ _ w⟩ ⟨rfl⟩
theorem of_31 (w : World) (a b q r : Int) (hbn : b ≠ 0) (hgood : a = -9223372036854775808 → b ≠ -1) (hq : Aside0 (wrap64 (Int.tdiv a b) = q)) (hr : Aside0 (Int.tmod a b = r)) (hex : r = 0 → upB 0 b = false) :
    Calls Tryd.prog 30 #[.agg #[.func (.func 31) #[] #[]], .int .i64 a, .int .i64 b] w fun e w' => e = .returned (.tuple #[.int .i64 (if upB (fR r b) b = true then wrap64 (fF q r b + 1) else fF q r b), .bool true]) ∧ Below w.heap.size w w' := by
  have hb : (b == 0) = false := by simpa using hbn
  by_cases hr0 : r = 0
  · have e1 : fF q r b = q := by unfold fF; rw [if_pos hr0]
    have e2 : fR r b = 0 := by unfold fR; rw [if_pos hr0]
    rw [e1, e2]
    clear e1 e2
    subst hr0
    have hu := hex rfl
    rw [if_neg (by rw [hu]; decide)]
    by_cases ha0 : a = -9223372036854775808
    · subst ha0
      have hb1 : (b == -1) = false := by simpa using hgood rfl
      exact of_exact1_31_false w b q 0 _ hbn hb hb1 (neg_q _ _ hq) (neg_r _ _ hr) ⟨fun w => by rw [← hu]; exact up31' _ _ w⟩ ⟨rfl⟩
    · have ha : (a == -9223372036854775808) = false := by simpa using ha0
      exact of_exact0_31_false w a b q 0 _ hbn hb ha hq hr ⟨fun w => by rw [← hu]; exact up31' _ _ w⟩ ⟨rfl⟩
  · have hr1 : (r != 0) = true := by simpa using hr0
    by_cases hn : r < 0
    · have hrs : decide (r < 0) = true := by simp [hn]
      by_cases hm : b < 0
      · have hbs : decide (b < 0) = true := by simp [hm]
        have e1 : fF q r b = q := by unfold fF; rw [if_neg hr0, if_pos (by omega)]
        have e2 : fR r b = r := by unfold fR; rw [if_neg hr0, if_pos (by omega)]
        rw [e1, e2]
        clear e1 e2
        by_cases hu : upB (r) b = true
        · rw [if_pos hu]
          by_cases ha0 : a = -9223372036854775808
          · subst ha0
            have hb1 : (b == -1) = false := by simpa using hgood rfl
            exact of_nn1_31_true w b q r _ hbn hb hb1 hr1 hrs hbs (neg_q _ _ hq) (neg_r _ _ hr) ⟨fun w => by rw [← hu]; exact up31' _ _ w⟩ ⟨rfl⟩
          · have ha : (a == -9223372036854775808) = false := by simpa using ha0
            exact of_nn0_31_true w a b q r _ hbn hb ha hr1 hrs hbs hq hr ⟨fun w => by rw [← hu]; exact up31' _ _ w⟩ ⟨rfl⟩
        · rw [if_neg hu]
          replace hu := Bool.eq_false_iff.mpr hu
          by_cases ha0 : a = -9223372036854775808
          · subst ha0
            have hb1 : (b == -1) = false := by simpa using hgood rfl
            exact of_nn1_31_false w b q r _ hbn hb hb1 hr1 hrs hbs (neg_q _ _ hq) (neg_r _ _ hr) ⟨fun w => by rw [← hu]; exact up31' _ _ w⟩ ⟨rfl⟩
          · have ha : (a == -9223372036854775808) = false := by simpa using ha0
            exact of_nn0_31_false w a b q r _ hbn hb ha hr1 hrs hbs hq hr ⟨fun w => by rw [← hu]; exact up31' _ _ w⟩ ⟨rfl⟩
      · have hbs : decide (b < 0) = false := by simp [hm]
        have e1 : fF q r b = wrap64 (q - 1) := by unfold fF; rw [if_neg hr0, if_neg (by omega)]
        have e2 : fR r b = wrap64 (r + b) := by unfold fR; rw [if_neg hr0, if_neg (by omega)]
        rw [e1, e2]
        clear e1 e2
        by_cases hu : upB (wrap64 (r + b)) b = true
        · rw [if_pos hu]
          by_cases ha0 : a = -9223372036854775808
          · subst ha0
            have hb1 : (b == -1) = false := by simpa using hgood rfl
            exact of_np1_31_true w b q r _ hbn hb hb1 hr1 hrs hbs (neg_q _ _ hq) (neg_r _ _ hr) ⟨fun w => by rw [← hu]; exact up31' _ _ w⟩ ⟨rfl⟩
          · have ha : (a == -9223372036854775808) = false := by simpa using ha0
            exact of_np0_31_true w a b q r _ hbn hb ha hr1 hrs hbs hq hr ⟨fun w => by rw [← hu]; exact up31' _ _ w⟩ ⟨rfl⟩
        · rw [if_neg hu]
          replace hu := Bool.eq_false_iff.mpr hu
          by_cases ha0 : a = -9223372036854775808
          · subst ha0
            have hb1 : (b == -1) = false := by simpa using hgood rfl
            exact of_np1_31_false w b q r _ hbn hb hb1 hr1 hrs hbs (neg_q _ _ hq) (neg_r _ _ hr) ⟨fun w => by rw [← hu]; exact up31' _ _ w⟩ ⟨rfl⟩
          · have ha : (a == -9223372036854775808) = false := by simpa using ha0
            exact of_np0_31_false w a b q r _ hbn hb ha hr1 hrs hbs hq hr ⟨fun w => by rw [← hu]; exact up31' _ _ w⟩ ⟨rfl⟩
    · have hrs : decide (r < 0) = false := by simp [hn]
      by_cases hm : b < 0
      · have hbs : decide (b < 0) = true := by simp [hm]
        have e1 : fF q r b = wrap64 (q - 1) := by unfold fF; rw [if_neg hr0, if_neg (by omega)]
        have e2 : fR r b = wrap64 (r + b) := by unfold fR; rw [if_neg hr0, if_neg (by omega)]
        rw [e1, e2]
        clear e1 e2
        by_cases hu : upB (wrap64 (r + b)) b = true
        · rw [if_pos hu]
          by_cases ha0 : a = -9223372036854775808
          · subst ha0
            have hb1 : (b == -1) = false := by simpa using hgood rfl
            exact of_pn1_31_true w b q r _ hbn hb hb1 hr1 hrs hbs (neg_q _ _ hq) (neg_r _ _ hr) ⟨fun w => by rw [← hu]; exact up31' _ _ w⟩ ⟨rfl⟩
          · have ha : (a == -9223372036854775808) = false := by simpa using ha0
            exact of_pn0_31_true w a b q r _ hbn hb ha hr1 hrs hbs hq hr ⟨fun w => by rw [← hu]; exact up31' _ _ w⟩ ⟨rfl⟩
        · rw [if_neg hu]
          replace hu := Bool.eq_false_iff.mpr hu
          by_cases ha0 : a = -9223372036854775808
          · subst ha0
            have hb1 : (b == -1) = false := by simpa using hgood rfl
            exact of_pn1_31_false w b q r _ hbn hb hb1 hr1 hrs hbs (neg_q _ _ hq) (neg_r _ _ hr) ⟨fun w => by rw [← hu]; exact up31' _ _ w⟩ ⟨rfl⟩
          · have ha : (a == -9223372036854775808) = false := by simpa using ha0
            exact of_pn0_31_false w a b q r _ hbn hb ha hr1 hrs hbs hq hr ⟨fun w => by rw [← hu]; exact up31' _ _ w⟩ ⟨rfl⟩
      · have hbs : decide (b < 0) = false := by simp [hm]
        have e1 : fF q r b = q := by unfold fF; rw [if_neg hr0, if_pos (by omega)]
        have e2 : fR r b = r := by unfold fR; rw [if_neg hr0, if_pos (by omega)]
        rw [e1, e2]
        clear e1 e2
        by_cases hu : upB (r) b = true
        · rw [if_pos hu]
          by_cases ha0 : a = -9223372036854775808
          · subst ha0
            have hb1 : (b == -1) = false := by simpa using hgood rfl
            exact of_pp1_31_true w b q r _ hbn hb hb1 hr1 hrs hbs (neg_q _ _ hq) (neg_r _ _ hr) ⟨fun w => by rw [← hu]; exact up31' _ _ w⟩ ⟨rfl⟩
          · have ha : (a == -9223372036854775808) = false := by simpa using ha0
            exact of_pp0_31_true w a b q r _ hbn hb ha hr1 hrs hbs hq hr ⟨fun w => by rw [← hu]; exact up31' _ _ w⟩ ⟨rfl⟩
        · rw [if_neg hu]
          replace hu := Bool.eq_false_iff.mpr hu
          by_cases ha0 : a = -9223372036854775808
          · subst ha0
            have hb1 : (b == -1) = false := by simpa using hgood rfl
            exact of_pp1_31_false w b q r _ hbn hb hb1 hr1 hrs hbs (neg_q _ _ hq) (neg_r _ _ hr) ⟨fun w => by rw [← hu]; exact up31' _ _ w⟩ ⟨rfl⟩
          · have ha : (a == -9223372036854775808) = false := by simpa using ha0
            exact of_pp0_31_false w a b q r _ hbn hb ha hr1 hrs hbs hq hr ⟨fun w => by rw [← hu]; exact up31' _ _ w⟩ ⟨rfl⟩
theorem floor_any (w : World) (a b q r : Int) (hbn : b ≠ 0) (hgood : a = -9223372036854775808 → b ≠ -1) (hq : Aside0 (wrap64 (Int.tdiv a b) = q)) (hr : Aside0 (Int.tmod a b = r)) :
    Calls Tryd.prog 15 #[.int .i64 a, .int .i64 b] w fun e w' => e = .returned (.tuple #[.int .i64 (fF q r b), .bool true]) ∧ Below w.heap.size w w' := by
  have H := Aside0.mk (fun w => of_29 w a b q r hbn hgood hq hr)
  generalize fF q r b = z at H ⊢
  go_enter Tryd.func15, Tryd.ntmps15
  go_wp2_with (go_at_call 30; refine (H.out _).mono ?_; rintro _ w1 ⟨rfl, hb⟩)
  go_ret2
  exact ⟨rfl, hb⟩
theorem near_any (w : World) (a b q r : Int) (hbn : b ≠ 0) (hgood : a = -9223372036854775808 → b ≠ -1) (hq : Aside0 (wrap64 (Int.tdiv a b) = q)) (hr : Aside0 (Int.tmod a b = r)) (hex : r = 0 → upB 0 b = false) :
    Calls Tryd.prog 16 #[.int .i64 a, .int .i64 b] w fun e w' => e = .returned (.tuple #[.int .i64 (if upB (fR r b) b = true then wrap64 (fF q r b + 1) else fF q r b), .bool true]) ∧ Below w.heap.size w w' := by
  have H := Aside0.mk (fun w => of_31 w a b q r hbn hgood hq hr hex)
  generalize (if upB (fR r b) b = true then wrap64 (fF q r b + 1) else fF q r b) = z at H ⊢
  go_enter Tryd.func16, Tryd.ntmps16
  go_wp2_with (go_at_call 30; refine (H.out _).mono ?_; rintro _ w1 ⟨rfl, hb⟩)
  go_ret2
  exact ⟨rfl, hb⟩
theorem floor_bad (w : World) (a b : Int) (h : b = 0 ∨ a = -9223372036854775808 ∧ b = -1) :
    Calls Tryd.prog 15 #[.int .i64 a, .int .i64 b] w fun e w' => e = .returned (.tuple #[.int .i64 0, .bool false]) ∧ Below w.heap.size w w' := by
  have H := Aside0.mk (show ∀ w, Calls Tryd.prog 30 #[.agg #[.func (.func 29) #[] #[]], .int .i64 a, .int .i64 b] w fun e w' => e = .returned (.tuple #[.int .i64 0, .bool false]) ∧ Below w.heap.size w w' by
    intro w
    rcases h with rfl | ⟨rfl, rfl⟩
    · exact of_zero_29 w a
    · exact of_least_29 w)
  clear h
  go_enter Tryd.func15, Tryd.ntmps15
  go_wp2_with (go_at_call 30; refine (H.out _).mono ?_; rintro _ w1 ⟨rfl, hb⟩)
  go_ret2
  exact ⟨rfl, hb⟩
theorem near_bad (w : World) (a b : Int) (h : b = 0 ∨ a = -9223372036854775808 ∧ b = -1) :
    Calls Tryd.prog 16 #[.int .i64 a, .int .i64 b] w fun e w' => e = .returned (.tuple #[.int .i64 0, .bool false]) ∧ Below w.heap.size w w' := by
  have H := Aside0.mk (show ∀ w, Calls Tryd.prog 30 #[.agg #[.func (.func 31) #[] #[]], .int .i64 a, .int .i64 b] w fun e w' => e = .returned (.tuple #[.int .i64 0, .bool false]) ∧ Below w.heap.size w w' by
    intro w
    rcases h with rfl | ⟨rfl, rfl⟩
    · exact of_zero_31 w a
    · exact of_least_31 w)
  clear h
  go_enter Tryd.func16, Tryd.ntmps16
  go_wp2_with (go_at_call 30; refine (H.out _).mono ?_; rintro _ w1 ⟨rfl, hb⟩)
  go_ret2
  exact ⟨rfl, hb⟩
end Go.Proofs.YtlfloandockgbaaDoor.Uni
