/-
  The walk of RuletextTables.
-/
import Derived.Test.YtmnbbhieodcoeaaDoorTfr
import Derived.Test.YtmnbbhieodcoeaaDoorLawS
namespace Go.Proofs.YtmnbbhieodcoeaaDoor.Rt
open Go.RowKit Go.Proofs.YtmnbbhieodcoeaaDoorW.PrintWords Go.Proofs.YtmnbbhieodcoeaaDoorW.PrintLast Go.Proofs.YtmnbbhieodcoeaaDoorW.PrintMore
open Go.Proofs.YtmnbbhieodcoeaaDoor.PBase Go.Proofs.YtmnbbhieodcoeaaDoor.PScn Go.Proofs.YtmnbbhieodcoeaaDoor.PTxt Go.Proofs.YtmnbbhieodcoeaaDoor.PTab
set_option linter.unusedVariables false
set_option linter.unusedSimpArgs false
set_option maxHeartbeats 4000000 in
set_option maxRecDepth 100000 in
theorem tables_true {w : World} (hT : Tab w) (l : List S58) {A : Option Addr} {c : Nat} (hc : l.length ≤ c) (hr : Kd.C k58 w A l.length l) :
    Calls Tryd.prog 4 #[.slice A l.length c] w (AllTrue w) := by
  obtain ⟨k1, b, e1, g1⟩ := few_any l
  have E1 := Aside0.mk e1
  have HT0 := Aside0.mk hT
  have BW0 := Aside0.mk (Below.refl w.heap.size w)
  have HC := Aside0.mk hc
  have S0 := Aside0.mk hr
  clear e1 hT hc hr
  cases b with
  | false =>
    clear g1
    go_enter Tryd.func4, Tryd.ntmps4
    go_wp2_with fail
    refine (sawmilllaw44_few.calls k1 A c l _ _ S0.out HC.out E1.out).mono ?_
    rintro _ w1 ⟨rfl, hb1⟩
    have S1 := Aside0.mk (Kd.C_below S0.out hb1)
    have HT1 := Aside0.mk (tab_below HT0.out hb1)
    have BW1 := Aside0.mk (below_step BW0.out hb1)
    clear S0 HT0 BW0 hb1
    go_wp2_with fail
    refine (below_awake BW1.out HT1.out).mono ?_
    rintro _ w9 ⟨rfl, hb9⟩
    have BW9 := Aside0.mk hb9
    clear hb9
    go_wp2_with fail
    go_ret
    exact ⟨rfl, BW9.out⟩
  | true =>
    obtain ⟨h40, hw⟩ := g1 rfl
    clear g1
    obtain ⟨k2, r, e2, e3, ht⟩ := formats l h40 hw
    obtain ⟨k4, e4⟩ := sr_any l h40 hw
    have E2 := Aside0.mk e2
    have E3 := Aside0.mk e3
    have E4 := Aside0.mk e4
    clear e2 e3 e4 h40 hw
    rcases (show TabIs l r from ht) with ⟨hg, hz, hr⟩ | ⟨hg, hr⟩
    · by_cases hrn : bs r = []
      · obtain rfl : r = ⟨#[]⟩ := bs_ext hrn
        clear ht hg hz hr hrn
        go_enter Tryd.func4, Tryd.ntmps4
        go_wp2_with fail
        refine (sawmilllaw44_few.calls k1 A c l _ _ S0.out HC.out E1.out).mono ?_
        rintro _ w1 ⟨rfl, hb1⟩
        have S1 := Aside0.mk (Kd.C_below S0.out hb1)
        have HT1 := Aside0.mk (tab_below HT0.out hb1)
        have BW1 := Aside0.mk (below_step BW0.out hb1)
        clear S0 HT0 BW0 hb1
        go_wp2_with fail
        refine (ruletext_Format.calls k2 A c l _ _ HT1.out S1.out HC.out E2.out).mono ?_
        rintro _ w2 ⟨rfl, hb2⟩
        have S2 := Aside0.mk (Kd.C_below S1.out hb2)
        have HT2 := Aside0.mk (tab_below HT1.out hb2)
        have BW2 := Aside0.mk (below_step BW1.out hb2)
        clear S1 HT1 BW1 hb2
        go_wp2_with fail
        refine (sawmillref44_Format.calls k2 A c l _ _ S2.out HC.out E3.out).mono ?_
        rintro _ w3 ⟨rfl, hb3⟩
        have S3 := Aside0.mk (Kd.C_below S2.out hb3)
        have HT3 := Aside0.mk (tab_below HT2.out hb3)
        have BW3 := Aside0.mk (below_step BW2.out hb3)
        clear S2 HT2 BW2 hb3
        go_wp2_with fail
        refine (below_awake BW3.out HT3.out).mono ?_
        rintro _ w9 ⟨rfl, hb9⟩
        have BW9 := Aside0.mk hb9
        clear hb9
        go_wp2_with fail
        go_ret
        exact ⟨rfl, BW9.out⟩
      obtain ⟨kp, hp⟩ := parse_table hg.2 hg.1 hz
      rw [← hr] at hp
      have HP := Aside0.mk (fun w => parse_any kp r l 0 0 hp w)
      have n1 : ¬ r = ⟨#[]⟩ := by rintro rfl; exact hrn rfl
      have n2 : ¬ r.toList = [] := by rw [toList_bs]; exact hrn
      have n3 : r.toList.isEmpty = false := by rw [toList_bs]; simpa using hrn
      have n4 : (r.toList == []) = false := by rw [toList_bs]; simpa using hrn
      have n5 : decide (r.toList = []) = false := by simpa using n2
      clear hrn hp hg hr hz ht
      go_enter Tryd.func4, Tryd.ntmps4
      go_wp2_with fail
      refine (sawmilllaw44_few.calls k1 A c l _ _ S0.out HC.out E1.out).mono ?_
      rintro _ w1 ⟨rfl, hb1⟩
      have S1 := Aside0.mk (Kd.C_below S0.out hb1)
      have HT1 := Aside0.mk (tab_below HT0.out hb1)
      have BW1 := Aside0.mk (below_step BW0.out hb1)
      clear S0 HT0 BW0 hb1
      go_wp2_with fail
      refine (ruletext_Format.calls k2 A c l _ _ HT1.out S1.out HC.out E2.out).mono ?_
      rintro _ w2 ⟨rfl, hb2⟩
      have S2 := Aside0.mk (Kd.C_below S1.out hb2)
      have HT2 := Aside0.mk (tab_below HT1.out hb2)
      have BW2 := Aside0.mk (below_step BW1.out hb2)
      clear S1 HT1 BW1 hb2
      go_wp2_with fail
      refine (sawmillref44_Format.calls k2 A c l _ _ S2.out HC.out E3.out).mono ?_
      rintro _ w3 ⟨rfl, hb3⟩
      have S3 := Aside0.mk (Kd.C_below S2.out hb3)
      have HT3 := Aside0.mk (tab_below HT2.out hb3)
      have BW3 := Aside0.mk (below_step BW2.out hb3)
      clear S2 HT2 BW2 hb3
      go_wp2_with fail
      refine (HP.out _).mono ?_
      rintro _ w4 ⟨⟨a4, c4, rfl, l4, f4⟩, hb4⟩
      have X4 := Aside0.mk (Kd.F_now f4)
      have L4 := Aside0.mk l4
      have S4 := Aside0.mk (Kd.C_below S3.out hb4)
      have HT4 := Aside0.mk (tab_below HT3.out hb4)
      have BW4 := Aside0.mk (below_step BW3.out hb4)
      clear S3 HT3 BW3 hb4 f4 l4
      go_wp2_with fail
      refine (sawmillref44_SameRules.calls k4 a4 c4 l A c l _ _ X4.out L4.out S4.out HC.out E4.out).mono ?_
      rintro _ w5 ⟨rfl, hb5⟩
      have HT5 := Aside0.mk (tab_below HT4.out hb5)
      have BW5 := Aside0.mk (below_step BW4.out hb5)
      clear X4 L4 S4 HT4 BW4 hb5
      go_wp2_with fail
      refine (below_awake BW5.out HT5.out).mono ?_
      rintro _ w9 ⟨rfl, hb9⟩
      have BW9 := Aside0.mk hb9
      clear hb9
      go_wp2_with fail
      go_ret
      exact ⟨rfl, BW9.out⟩
    · obtain rfl : r = ⟨#[]⟩ := hr
      clear ht hg
      go_enter Tryd.func4, Tryd.ntmps4
      go_wp2_with fail
      refine (sawmilllaw44_few.calls k1 A c l _ _ S0.out HC.out E1.out).mono ?_
      rintro _ w1 ⟨rfl, hb1⟩
      have S1 := Aside0.mk (Kd.C_below S0.out hb1)
      have HT1 := Aside0.mk (tab_below HT0.out hb1)
      have BW1 := Aside0.mk (below_step BW0.out hb1)
      clear S0 HT0 BW0 hb1
      go_wp2_with fail
      refine (ruletext_Format.calls k2 A c l _ _ HT1.out S1.out HC.out E2.out).mono ?_
      rintro _ w2 ⟨rfl, hb2⟩
      have S2 := Aside0.mk (Kd.C_below S1.out hb2)
      have HT2 := Aside0.mk (tab_below HT1.out hb2)
      have BW2 := Aside0.mk (below_step BW1.out hb2)
      clear S1 HT1 BW1 hb2
      go_wp2_with fail
      refine (sawmillref44_Format.calls k2 A c l _ _ S2.out HC.out E3.out).mono ?_
      rintro _ w3 ⟨rfl, hb3⟩
      have S3 := Aside0.mk (Kd.C_below S2.out hb3)
      have HT3 := Aside0.mk (tab_below HT2.out hb3)
      have BW3 := Aside0.mk (below_step BW2.out hb3)
      clear S2 HT2 BW2 hb3
      go_wp2_with fail
      refine (below_awake BW3.out HT3.out).mono ?_
      rintro _ w9 ⟨rfl, hb9⟩
      have BW9 := Aside0.mk hb9
      clear hb9
      go_wp2_with fail
      go_ret
      exact ⟨rfl, BW9.out⟩
end Go.Proofs.YtmnbbhieodcoeaaDoor.Rt
