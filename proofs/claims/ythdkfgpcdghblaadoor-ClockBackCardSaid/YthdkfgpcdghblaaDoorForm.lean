/-
  Form: what Format and Parse of the program and of the reference return, by number and by text. For every number and for texts of at most 100 bytes; the program's Format where the table of powers of ten holds what it holds at the start.
-/
import Derived.Test.YthdkfgpcdghblaaDoorDec
import Derived.Test.YthdkfgpcdghblaaDoorTrip
namespace Go.Proofs.YthdkfgpcdghblaaDoor.Cal
open Go.RowKit Go.Proofs.YthdkfgpcdghblaaDoorW.PrintWords Go.Proofs.YthdkfgpcdghblaaDoorW.PrintLast Go.Proofs.YthdkfgpcdghblaaDoorW.PrintMore
open Go.Proofs.YthdkfgpcdghblaaDoor.PAll Go.Proofs.YthdkfgpcdghblaaDoor.CMath
set_option linter.unusedVariables false
set_option linter.unusedSimpArgs false

theorem rtime_any (a : Int) (w : World) : Calls Tryd.prog 32 #[.int .i64 a] w fun e w' => e = .returned (.bool (isT a)) ∧ Drawn0 w w' :=
  sawmillref07_IsTime.calls a _ w (rTime_f a)
theorem rdec_any (n : Int) (w : World) (h0 : 0 ≤ n) (h1 : n ≤ 10000000) : Calls Tryd.prog 42 #[.int .i64 n, .int .i64 0] w fun e w' => e = .returned (.string (numeral n)) ∧ Below w.heap.size w w' := by
  obtain ⟨m, rfl⟩ : ∃ m : Nat, n = m := ⟨n.toNat, by omega⟩
  exact sawmillref01_Decimal.calls 1100 _ 0 _ w (dec_f m (by omega) 1100 (by omega))
set_option maxHeartbeats 1000000 in
theorem rformat_yes (a : Int) (w : World) (h : isT a = true) : Calls Tryd.prog 29 #[.int .i64 a] w fun e w' => e = .returned (.string (fmtS a)) ∧ Below w.heap.size w w' := by
  have hb := (isT_iff a).mp h
  have h0 := hb.1
  have h1 := hb.2
  have HE : Aside0 (fmtS a = (((((⟨#[100]⟩ : ByteArray) ++ numeral (a / 1440)) ++ (⟨#[32]⟩ : ByteArray)) ++ twoS (a % 1440 / 60)) ++ (⟨#[58]⟩ : ByteArray)) ++ twoS (a % 60)) := ⟨by unfold fmtS; rw [if_pos h]⟩
  have s1 := numeral_size (a / 1440) (by omega) (by omega)
  obtain ⟨x, hx⟩ : ∃ x, numeral (a / 1440) = x := ⟨_, rfl⟩
  obtain ⟨y, hy⟩ : ∃ x, twoS (a % 1440 / 60) = x := ⟨_, rfl⟩
  obtain ⟨z, hz⟩ : ∃ x, twoS (a % 60) = x := ⟨_, rfl⟩
  have s2 := Nat.le_of_eq (two_size (a % 1440 / 60))
  have s3 := Nat.le_of_eq (two_size (a % 60))
  rw [hx] at s1
  rw [hy] at s2
  rw [hz] at s3
  rw [hx, hy, hz] at HE
  have hA : ∀ w, Calls Tryd.prog 42 #[.int .i64 (a / 1440), .int .i64 0] w fun e w' => e = .returned (.string x) ∧ Below w.heap.size w w' := fun w => by rw [← hx]; exact rdec_any _ w (by omega) (by omega)
  have hB : ∀ w, Calls Tryd.prog 43 #[.int .i64 (a % 1440 / 60)] w fun e w' => e = .returned (.string y) ∧ Below w.heap.size w w' := fun w => by rw [← hy]; exact rtwo_any _ w (by omega) (by omega)
  have hC : ∀ w, Calls Tryd.prog 43 #[.int .i64 (a % 60)] w fun e w' => e = .returned (.string z) ∧ Below w.heap.size w w' := fun w => by rw [← hz]; exact rtwo_any _ w (by omega) (by omega)
  have hT : ∀ w, Calls Tryd.prog 32 #[.int .i64 a] w fun e w' => e = .returned (.bool true) ∧ Drawn0 w w' := fun w => by rw [← h]; exact rtime_any a w
  have HA := Aside0.mk hA
  have HB := Aside0.mk hB
  have HC := Aside0.mk hC
  have HT := Aside0.mk hT
  clear hA hB hC hx hy hz hT hb h
  go_enter Tryd.func29, Tryd.ntmps29
  go_wp2_with fail
  refine (HT.out _).mono ?_
  rintro e w0 ⟨rfl, hb0⟩
  have B0 := Aside0.mk hb0.below
  clear hb0
  go_wp2_with fail
  refine (HA.out _).mono ?_
  rintro e w1 ⟨rfl, hb1⟩
  have B1 := Aside0.mk hb1
  clear hb1
  go_wp2_with fail
  refine (HB.out _).mono ?_
  rintro e w2 ⟨rfl, hb2⟩
  have B2 := Aside0.mk hb2
  clear hb2
  go_wp2_with fail
  refine (HC.out _).mono ?_
  rintro e w3 ⟨rfl, hb3⟩
  have B3 := Aside0.mk hb3
  clear hb3
  go_wp2_with fail
  go_ret
  exact ⟨by rw [HE.out]; rfl, below_step (below_step (below_step B0.out B1.out) B2.out) B3.out⟩
theorem fmt_no (a : Int) (h : isT a = false) : fmtS a = ⟨#[]⟩ := by
  unfold fmtS
  rw [h, if_neg (by decide)]
theorem rformat_no (a : Int) (w : World) (h : isT a = false) : Calls Tryd.prog 29 #[.int .i64 a] w fun e w' => e = .returned (.string (fmtS a)) ∧ Below w.heap.size w w' := by
  rw [fmt_no a h]
  have hT : ∀ w, Calls Tryd.prog 32 #[.int .i64 a] w fun e w' => e = .returned (.bool false) ∧ Drawn0 w w' := fun w => by rw [← h]; exact rtime_any a w
  have HT := Aside0.mk hT
  clear hT h
  go_enter Tryd.func29, Tryd.ntmps29
  go_wp2_with fail
  refine (HT.out _).mono ?_
  rintro e w0 ⟨rfl, hb0⟩
  have B0 := Aside0.mk hb0.below
  clear hb0
  go_wp2_with fail
  go_ret
  exact ⟨rfl, B0.out⟩
theorem format_no (a : Int) (w : World) (h : isT a = false) : Calls Tryd.prog 28 #[.int .i64 a] w fun e w' => e = .returned (.string (fmtS a)) ∧ Below w.heap.size w w' := by
  rw [fmt_no a h]
  go_enter Tryd.func28, Tryd.ntmps28
  go_wp2_with (go_at_call 31; refine (time_any _ _).mono ?_; rintro e w' ⟨rfl, rfl⟩)
  go_ret
  exact ⟨rfl, Below.refl _ _⟩
theorem format_any (a : Int) (w : World) (hT : Tab w) : Calls Tryd.prog 28 #[.int .i64 a] w fun e w' => e = .returned (.string (fmtS a)) ∧ Below w.heap.size w w' := by
  by_cases h : isT a = true
  · exact format_yes a w hT h
  · exact format_no a w (Bool.eq_false_iff.mpr h)
theorem rformat_any (a : Int) (w : World) : Calls Tryd.prog 29 #[.int .i64 a] w fun e w' => e = .returned (.string (fmtS a)) ∧ Below w.heap.size w w' := by
  by_cases h : isT a = true
  · exact rformat_yes a w h
  · exact rformat_no a w (Bool.eq_false_iff.mpr h)
theorem pcalls (s : ByteArray) (n e : Int) (w : World) (h : PFin.clock_Parse.f 3000 s = some (n, e)) : Calls Tryd.prog 26 #[.string s] w fun r w' => r = .returned (.tuple #[.int .i64 n, .int .i64 e]) ∧ Below w.heap.size w w' := by
  refine (PFin.clock_Parse.calls 3000 _ _ _ w h).mono ?_
  rintro r w' ⟨rfl, h⟩
  exact ⟨rfl, h.below⟩
theorem rcalls (s : ByteArray) (n e : Int) (w : World) (h : sawmillref07_Parse.f 3000 s = some (n, e)) : Calls Tryd.prog 27 #[.string s] w fun r w' => r = .returned (.tuple #[.int .i64 n, .int .i64 e]) ∧ Below w.heap.size w w' :=
  sawmillref07_Parse.calls 3000 _ _ _ w h
theorem parse_both (s : ByteArray) (hs : s.size ≤ 100) : ∃ n e, (∀ w, Calls Tryd.prog 26 #[.string s] w fun r w' => r = .returned (.tuple #[.int .i64 n, .int .i64 e]) ∧ Below w.heap.size w w') ∧
    (∀ w, Calls Tryd.prog 27 #[.string s] w fun r w' => r = .returned (.tuple #[.int .i64 n, .int .i64 e]) ∧ Below w.heap.size w w') ∧ ((e = 0 ∧ isT n = true ∧ fmtS n = s) ∨ (e ≠ 0 ∧ n = 0)) := by
  have p := prog_any s hs 3000 (by omega)
  have q := ref_any s hs 3000 (by omega)
  by_cases h : ∃ n, Shp s n
  · obtain ⟨n, hn⟩ := h
    have p1 := p.1 n hn
    have q1 := q.1 n hn
    unfold tim at p1 q1
    by_cases ht : isT (tv s n) = true
    · rw [if_pos ht] at p1 q1
      exact ⟨_, _, fun w => pcalls s _ _ w p1, fun w => rcalls s _ _ w q1, .inl ⟨rfl, ht, shp_fmt s n hn ht⟩⟩
    · rw [if_neg ht] at p1 q1
      exact ⟨_, _, fun w => pcalls s _ _ w p1, fun w => rcalls s _ _ w q1, .inr ⟨by decide, rfl⟩⟩
  · have h' : ∀ n, ¬ Shp s n := fun n hn => h ⟨n, hn⟩
    exact ⟨_, _, fun w => pcalls s _ _ w (p.2 h'), fun w => rcalls s _ _ w (q.2 h'), .inr ⟨by decide, rfl⟩⟩
theorem fmt_size (a : Int) : (fmtS a).size ≤ 100 := by
  unfold fmtS
  by_cases h : isT a = true
  · have hb := (isT_iff a).mp h
    rw [if_pos h]
    have s1 := numeral_size (a / 1440) (by omega) (by omega)
    have s2 := two_size (a % 1440 / 60)
    have s3 := two_size (a % 60)
    simp only [ByteArray.size_append]
    have e1 : (⟨#[100]⟩ : ByteArray).size = 1 := rfl
    have e2 : (⟨#[32]⟩ : ByteArray).size = 1 := rfl
    have e3 : (⟨#[58]⟩ : ByteArray).size = 1 := rfl
    omega
  · rw [if_neg h]
    decide
theorem parse_fmt (a : Int) (w : World) (h : isT a = true) : Calls Tryd.prog 26 #[.string (fmtS a)] w fun r w' => r = .returned (.tuple #[.int .i64 a, .int .i64 0]) ∧ Below w.heap.size w w' := by
  obtain ⟨n, hn, e⟩ := fmt_shp a h
  have p1 := (prog_any (fmtS a) (fmt_size a) 3000 (by omega)).1 n hn
  unfold tim at p1
  rw [e, if_pos h] at p1
  exact pcalls _ _ _ w p1
theorem parse_empty (w : World) : ∃ n e, Calls Tryd.prog 26 #[.string ⟨#[]⟩] w fun r w' => r = .returned (.tuple #[.int .i64 n, .int .i64 e]) ∧ Below w.heap.size w w' := by
  obtain ⟨n, e, h, _, _⟩ := parse_both ⟨#[]⟩ (by decide)
  exact ⟨n, e, h w⟩
end Go.Proofs.YthdkfgpcdghblaaDoor.Cal
