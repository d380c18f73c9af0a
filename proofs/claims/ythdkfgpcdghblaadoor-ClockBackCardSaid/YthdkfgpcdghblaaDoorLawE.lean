/-
  LawE: the laws ClockTexts and ClockBack return true. Condition: the library's table of powers of ten holds what it holds at the start.
-/
import Derived.Test.YthdkfgpcdghblaaDoorForm
import Derived.Test.YthdkfgpcdghblaaDoorLawA
namespace Go.Proofs.YthdkfgpcdghblaaDoor.Cal
open Go.RowKit Go.Proofs.YthdkfgpcdghblaaDoorW.PrintWords Go.Proofs.YthdkfgpcdghblaaDoorW.PrintLast Go.Proofs.YthdkfgpcdghblaaDoorW.PrintMore
open Go.Proofs.YthdkfgpcdghblaaDoor.PAll Go.Proofs.YthdkfgpcdghblaaDoor.CMath
set_option linter.unusedVariables false
set_option linter.unusedSimpArgs false

set_option maxHeartbeats 2000000 in
theorem texts_true {w : World} (hT : Tab w) (at' : Int) (s : ByteArray) (hz : s.size ≤ maxLen) : Calls Tryd.prog 7 #[.int .i64 at', .string s] w (AllTrue w) := by
  have HT := Aside0.mk hT
  clear hT
  by_cases hs : s.size ≤ 100
  · obtain ⟨n, e, hp, hr, _⟩ := parse_both s hs
    have HP := Aside0.mk hp
    have HR := Aside0.mk hr
    have hx : ∀ w, Tab w → Calls Tryd.prog 28 #[.int .i64 at'] w fun e w' => e = .returned (.string (fmtS at')) ∧ Below w.heap.size w w' := fun w t => format_any at' w t
    have hy : ∀ w, Calls Tryd.prog 29 #[.int .i64 at'] w fun e w' => e = .returned (.string (fmtS at')) ∧ Below w.heap.size w w' := fun w => rformat_any at' w
    have sx := fmt_size at'
    generalize fmtS at' = x at hx hy sx
    have HX := Aside0.mk hx
    have HY := Aside0.mk hy
    have hs' : (s.size : Int) ≤ 100 := by omega
    clear hp hr hx hy
    go_enter Tryd.func7, Tryd.ntmps7
    go_wp2_with fail
    refine (HP.out _).mono ?_
    rintro _ w1 ⟨rfl, hb⟩
    have B1 := Aside0.mk hb
    clear hb
    go_wp2_with fail
    refine (HR.out _).mono ?_
    rintro _ w2 ⟨rfl, hb⟩
    have B2 := Aside0.mk (below_step B1.out hb)
    clear hb B1
    go_wp2_with fail
    refine (HX.out _ (tab_below HT.out B2.out)).mono ?_
    rintro _ w3 ⟨rfl, hb⟩
    have B3 := Aside0.mk (below_step B2.out hb)
    clear hb B2
    go_wp2_with fail
    refine (HY.out _).mono ?_
    rintro _ w4 ⟨rfl, hb⟩
    have B4 := Aside0.mk (below_step B3.out hb)
    clear hb B3
    go_wp2_with fail
    refine (awake_any _ (tab_below HT.out B4.out)).mono ?_
    rintro _ w5 ⟨rfl, hb⟩
    have B5 := Aside0.mk (below_step B4.out hb)
    clear hb B4
    go_wp2_with fail
    go_ret
    exact ⟨rfl, B5.out⟩
  · have hs' : (s.size : Int) > 100 := by omega
    go_enter Tryd.func7, Tryd.ntmps7
    go_wp2_with fail
    refine (awake_any _ HT.out).mono ?_
    rintro _ w5 ⟨rfl, hb⟩
    have B5 := Aside0.mk hb
    clear hb
    go_wp2_with fail
    go_ret
    exact ⟨rfl, B5.out⟩

theorem ltimeE_any (a : Int) (w : World) : Calls Tryd.prog 30 #[.int .i64 a] w fun e w' => e = .returned (.bool (isT a)) ∧ Below w.heap.size w w' := by
  refine (sawmilllaw07_isTime.calls a _ w (cTime_f a)).mono ?_
  rintro _ w' ⟨rfl, h⟩
  exact ⟨rfl, h.below⟩
set_option maxHeartbeats 2000000 in
theorem back_true {w : World} (hT : Tab w) (at' : Int) (s : ByteArray) (hz : s.size ≤ maxLen) : Calls Tryd.prog 11 #[.int .i64 at', .string s] w (AllTrue w) := by
  have HT := Aside0.mk hT
  clear hT
  by_cases hs : s.size ≤ 100
  · obtain ⟨n, e, hp, _, hne⟩ := parse_both s hs
    have HP := Aside0.mk hp
    have hs' : (s.size : Int) ≤ 100 := by omega
    have hq : ∀ w, Tab w → Calls Tryd.prog 28 #[.int .i64 n] w fun e w' => e = .returned (.string (fmtS n)) ∧ Below w.heap.size w w' := fun w t => format_any n w t
    have HQ := Aside0.mk hq
    have hn : ∀ w, Calls Tryd.prog 30 #[.int .i64 n] w fun e w' => e = .returned (.bool (isT n)) ∧ Below w.heap.size w w' := fun w => ltimeE_any n w
    have HN := Aside0.mk hn
    have hx : ∀ w, Tab w → Calls Tryd.prog 28 #[.int .i64 at'] w fun e w' => e = .returned (.string (fmtS at')) ∧ Below w.heap.size w w' := fun w t => format_any at' w t
    have ht : ∀ w, Calls Tryd.prog 30 #[.int .i64 at'] w fun e w' => e = .returned (.bool (isT at')) ∧ Below w.heap.size w w' := fun w => ltimeE_any at' w
    by_cases hat : isT at' = true
    · have hy : ∀ w, Calls Tryd.prog 26 #[.string (fmtS at')] w fun r w' => r = .returned (.tuple #[.int .i64 at', .int .i64 0]) ∧ Below w.heap.size w w' := fun w => parse_fmt at' w hat
      have sx := fmt_size at'
      rw [hat] at ht
      generalize fmtS at' = x at hx hy sx
      have HX := Aside0.mk hx
      have HY := Aside0.mk hy
      have HW := Aside0.mk ht
      clear hp hx hy hq hn ht hat
      go_enter Tryd.func11, Tryd.ntmps11
      go_wp2_with fail
      refine (HX.out _ HT.out).mono ?_
      rintro _ w1 ⟨rfl, hb⟩
      have B1 := Aside0.mk (hb)
      clear hb
      go_wp2_with fail
      refine (HY.out _).mono ?_
      rintro _ w2 ⟨rfl, hb⟩
      have B2 := Aside0.mk (below_step B1.out hb)
      clear hb B1
      go_wp2_with fail
      refine (HW.out _).mono ?_
      rintro _ w3 ⟨rfl, hb⟩
      have B3 := Aside0.mk (below_step B2.out hb)
      clear hb B2
      go_wp2_with fail
      refine (HW.out _).mono ?_
      rintro _ w3b ⟨rfl, hb⟩
      have B3b := Aside0.mk (below_step B3.out hb)
      clear hb B3
      have B3 := B3b
      clear B3b
      rcases hne with ⟨rfl, hi, hf⟩ | ⟨he, rfl⟩
      · rw [hf] at HQ
        rw [hi] at HN
        clear hi hf
        go_wp2_with fail
        refine (HP.out _).mono ?_
        rintro _ w4 ⟨rfl, hb⟩
        have B4 := Aside0.mk (below_step B3.out hb)
        clear hb B3
        go_wp2_with fail
        refine (HN.out _).mono ?_
        rintro _ w5 ⟨rfl, hb⟩
        have B5 := Aside0.mk (below_step B4.out hb)
        clear hb B4
        go_wp2_with fail
        refine (HQ.out _ (tab_below HT.out B5.out)).mono ?_
        rintro _ w6 ⟨rfl, hb⟩
        have B6 := Aside0.mk (below_step B5.out hb)
        clear hb B5
        go_wp2_with fail
        refine (awake_any _ (tab_below HT.out B6.out)).mono ?_
        rintro _ w7 ⟨rfl, hb⟩
        have B7 := Aside0.mk (below_step B6.out hb)
        clear hb B6
        go_wp2_with fail
        go_ret
        exact ⟨rfl, B7.out⟩
      · have he1 : (e == 0) = false := by simpa using he
        have he2 : (e != 0) = true := by simpa using he
        go_wp2_with fail
        refine (HP.out _).mono ?_
        rintro _ w4 ⟨rfl, hb⟩
        have B4 := Aside0.mk (below_step B3.out hb)
        clear hb B3
        go_wp2_with fail
        refine (awake_any _ (tab_below HT.out B4.out)).mono ?_
        rintro _ w5 ⟨rfl, hb⟩
        have B5 := Aside0.mk (below_step B4.out hb)
        clear hb B4
        go_wp2_with fail
        go_ret
        exact ⟨rfl, B5.out⟩
    · have hat' := Bool.eq_false_iff.mpr hat
      rw [fmt_no at' hat'] at hx
      rw [hat'] at ht
      obtain ⟨n1, e1, hy, _⟩ := parse_both ⟨#[]⟩ (by decide)
      have HX := Aside0.mk hx
      have HY := Aside0.mk hy
      have HW := Aside0.mk ht
      clear hp hx hy hq hn ht hat hat'
      go_enter Tryd.func11, Tryd.ntmps11
      go_wp2_with fail
      refine (HX.out _ HT.out).mono ?_
      rintro _ w1 ⟨rfl, hb⟩
      have B1 := Aside0.mk (hb)
      clear hb
      go_wp2_with fail
      refine (HY.out _).mono ?_
      rintro _ w2 ⟨rfl, hb⟩
      have B2 := Aside0.mk (below_step B1.out hb)
      clear hb B1
      go_wp2_with fail
      refine (HW.out _).mono ?_
      rintro _ w3 ⟨rfl, hb⟩
      have B3 := Aside0.mk (below_step B2.out hb)
      clear hb B2
      go_wp2_with fail
      refine (HW.out _).mono ?_
      rintro _ w4 ⟨rfl, hb⟩
      have B4 := Aside0.mk (below_step B3.out hb)
      clear hb B3
      go_wp2_with fail
      refine (HX.out _ (tab_below HT.out B4.out)).mono ?_
      rintro _ w5 ⟨rfl, hb⟩
      have B5 := Aside0.mk (below_step B4.out hb)
      clear hb B4
      rcases hne with ⟨rfl, hi, hf⟩ | ⟨he, rfl⟩
      · rw [hf] at HQ
        rw [hi] at HN
        clear hi hf
        go_wp2_with fail
        refine (HP.out _).mono ?_
        rintro _ w6 ⟨rfl, hb⟩
        have B6 := Aside0.mk (below_step B5.out hb)
        clear hb B5
        go_wp2_with fail
        refine (HN.out _).mono ?_
        rintro _ w7 ⟨rfl, hb⟩
        have B7 := Aside0.mk (below_step B6.out hb)
        clear hb B6
        go_wp2_with fail
        refine (HQ.out _ (tab_below HT.out B7.out)).mono ?_
        rintro _ w8 ⟨rfl, hb⟩
        have B8 := Aside0.mk (below_step B7.out hb)
        clear hb B7
        go_wp2_with fail
        refine (awake_any _ (tab_below HT.out B8.out)).mono ?_
        rintro _ w9 ⟨rfl, hb⟩
        have B9 := Aside0.mk (below_step B8.out hb)
        clear hb B8
        go_wp2_with fail
        go_ret
        exact ⟨rfl, B9.out⟩
      · have he1 : (e == 0) = false := by simpa using he
        have he2 : (e != 0) = true := by simpa using he
        go_wp2_with fail
        refine (HP.out _).mono ?_
        rintro _ w6 ⟨rfl, hb⟩
        have B6 := Aside0.mk (below_step B5.out hb)
        clear hb B5
        go_wp2_with fail
        refine (awake_any _ (tab_below HT.out B6.out)).mono ?_
        rintro _ w7 ⟨rfl, hb⟩
        have B7 := Aside0.mk (below_step B6.out hb)
        clear hb B6
        go_wp2_with fail
        go_ret
        exact ⟨rfl, B7.out⟩
  · have hs' : (s.size : Int) > 100 := by omega
    go_enter Tryd.func11, Tryd.ntmps11
    go_wp2_with fail
    refine (awake_any _ HT.out).mono ?_
    rintro _ w1 ⟨rfl, hb⟩
    have B1 := Aside0.mk (hb)
    clear hb
    go_wp2_with fail
    go_ret
    exact ⟨rfl, B1.out⟩
end Go.Proofs.YthdkfgpcdghblaaDoor.Cal
