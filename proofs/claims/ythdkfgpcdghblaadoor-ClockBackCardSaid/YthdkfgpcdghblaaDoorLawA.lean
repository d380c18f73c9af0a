/-
  The laws ClockNew, ClockOpens, ClockWorks, ClockAdds, ClockNil: each call returns true, and of what was there nothing turns. Condition: the library's table of powers of ten holds what it holds at the start.
-/
import Derived.Test.YthdkfgpcdghblaaDoorAwake
import Derived.Test.YthdkfgpcdghblaaDoorRef
namespace Go.Proofs.YthdkfgpcdghblaaDoor.Cal
open Go.RowKit Go.Proofs.YthdkfgpcdghblaaDoorW.PrintWords Go.Proofs.YthdkfgpcdghblaaDoorW.PrintLast Go.Proofs.YthdkfgpcdghblaaDoorW.PrintMore
open Go.Proofs.YthdkfgpcdghblaaDoor.PAll Go.Proofs.YthdkfgpcdghblaaDoor.CMath
set_option linter.unusedVariables false
set_option linter.unusedSimpArgs false

def AllTrue (w : World) (e : Ending) (w' : World) : Prop := e = .returned (.bool true) ∧ Below w.heap.size w w'
section
variable {A : Option Addr} {c : Nat} {l : List S47} {w : World}
theorem few_yes (hr : Kd.C k47 w A l.length l) (hc : l.length ≤ c) (h : l.length ≤ 40) : Calls Tryd.prog 13 #[.slice A l.length c] w fun e w' => e = .returned (.bool true) ∧ Drawn0 w w' :=
  sawmilllaw07_few.calls A c l true w hr hc (by unfold sawmilllaw07_few.f; simp; omega)
theorem few_no (hr : Kd.C k47 w A l.length l) (hc : l.length ≤ c) (h : ¬ l.length ≤ 40) : Calls Tryd.prog 13 #[.slice A l.length c] w fun e w' => e = .returned (.bool false) ∧ Drawn0 w w' :=
  sawmilllaw07_few.calls A c l false w hr hc (by unfold sawmilllaw07_few.f; simp; omega)
theorem tab_drewN (h : Tab w) (n : Nat) : Tab (w.drewN n) := h
theorem C_down {w' : World} (hr : Kd.C k47 w A l.length l) (hb : Below w.heap.size w w') : Kd.C k47 w' A l.length l := Kd.C_below hr hb
theorem below_of_drawn {w' : World} (h : Drawn0 w w') : Below w.heap.size w w' := h.below

set_option maxHeartbeats 1000000 in
theorem law_new (hT : Tab w) (hr : Kd.C k47 w A l.length l) (hc : l.length ≤ c) : Calls Tryd.prog 3 #[.slice A l.length c] w (AllTrue w) := by
  have HT := Aside0.mk hT
  have HR := Aside0.mk hr
  have HC := Aside0.mk hc
  clear hT hr hc
  by_cases h40 : l.length ≤ 40
  · have H40 := Aside0.mk h40
    go_enter Tryd.func3, Tryd.ntmps3
    go_wp2_with fail
    refine (few_yes HR.out HC.out h40).mono ?_
    rintro e w1 ⟨rfl, hb⟩
    have B1 := Aside0.mk hb.below
    clear hb
    go_wp2_with fail
    refine (new_any A c l _ (C_down HR.out B1.out) HC.out).mono ?_
    rintro e w2 ⟨hb, ⟨h0, b, rfl, _, _⟩ | ⟨h0, rfl⟩⟩
    · have B2 := Aside0.mk (below_step B1.out hb)
      clear hb B1
      go_wp2_with fail
      refine (check_any A c l _ (C_down HR.out B2.out) HC.out).mono ?_
      rintro e w3 ⟨rfl, hb⟩
      have B3 := Aside0.mk (below_step B2.out hb)
      rw [h0]
      clear hb B2 h0
      go_wp2_with fail
      refine (awake_any _ (tab_below HT.out B3.out)).mono ?_
      rintro e w4 ⟨rfl, hb⟩
      have B4 := Aside0.mk (below_step B3.out hb)
      clear hb B3
      go_wp2_with fail
      go_ret
      exact ⟨rfl, B4.out⟩
    · have B2 := Aside0.mk (below_step B1.out hb)
      clear hb B1
      obtain ⟨n, hn⟩ : ∃ n, newE (prs l) = n := ⟨_, rfl⟩
      rw [hn] at h0 ⊢
      have HN := Aside0.mk hn
      have hz : (n == 0) = false := by simpa using h0
      clear hn h0
      go_wp2_with fail
      refine (check_any A c l _ (C_down HR.out B2.out) HC.out).mono ?_
      rintro e w3 ⟨rfl, hb⟩
      have B3 := Aside0.mk (below_step B2.out hb)
      rw [HN.out]
      clear hb B2
      go_wp2_with fail
      refine (awake_any _ (tab_below HT.out B3.out)).mono ?_
      rintro e w4 ⟨rfl, hb⟩
      have B4 := Aside0.mk (below_step B3.out hb)
      clear hb B3
      go_wp2_with fail
      go_ret
      exact ⟨rfl, B4.out⟩
  · have H40 := Aside0.mk h40
    clear h40
    go_enter Tryd.func3, Tryd.ntmps3
    go_wp2_with fail
    refine (few_no HR.out HC.out H40.out).mono ?_
    rintro e w1 ⟨rfl, hb⟩
    have B1 := Aside0.mk hb.below
    clear hb
    go_wp2_with fail
    refine (awake_any _ (tab_below HT.out B1.out)).mono ?_
    rintro e w4 ⟨rfl, hb⟩
    have B4 := Aside0.mk (below_step B1.out hb)
    clear hb B1
    go_wp2_with fail
    go_ret
    exact ⟨rfl, B4.out⟩
end
end Go.Proofs.YthdkfgpcdghblaaDoor.Cal
