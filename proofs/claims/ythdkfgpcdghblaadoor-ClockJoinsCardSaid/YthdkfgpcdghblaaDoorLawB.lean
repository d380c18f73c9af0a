/-
  The laws ClockOpens, ClockWorks, ClockAdds, ClockNil, ClockInverts, ClockNexts: each call returns true, and of what was there nothing turns. Condition: the library's table of powers of ten holds what it holds at the start.
-/
import Derived.Test.YthdkfgpcdghblaaDoorLawA
namespace Go.Proofs.YthdkfgpcdghblaaDoor.Cal
open Go.RowKit Go.Proofs.YthdkfgpcdghblaaDoorW.PrintWords Go.Proofs.YthdkfgpcdghblaaDoorW.PrintLast Go.Proofs.YthdkfgpcdghblaaDoorW.PrintMore
open Go.Proofs.YthdkfgpcdghblaaDoor.PAll Go.Proofs.YthdkfgpcdghblaaDoor.CMath
set_option linter.unusedVariables false
set_option linter.unusedSimpArgs false
section
variable {A : Option Addr} {c : Nat} {l : List S47} {w : World}
theorem few_yes' (hr : Kd.C k47 w A l.length l) (hc : l.length ≤ c) (h : l.length ≤ 40) : Calls Tryd.prog 13 #[.slice A l.length c] w fun e w' => e = .returned (.bool true) ∧ Below w.heap.size w w' :=
  (few_yes hr hc h).mono fun _ _ h => ⟨h.1, h.2.below⟩
theorem few_no' (hr : Kd.C k47 w A l.length l) (hc : l.length ≤ c) (h : ¬ l.length ≤ 40) : Calls Tryd.prog 13 #[.slice A l.length c] w fun e w' => e = .returned (.bool false) ∧ Below w.heap.size w w' :=
  (few_no hr hc h).mono fun _ _ h => ⟨h.1, h.2.below⟩
theorem newE_few (h : newE (prs l) = 0) : l.length ≤ 21 := by rw [← prs_length]; exact (newE_val h).2.2
theorem newE_pos (h : newE (prs l) = 0) : 0 < l.length := by rw [← prs_length]; exact (newE_val h).2.1
theorem newE_valid (h : newE (prs l) = 0) : Val 0 (prs l) := (newE_val h).1
theorem ltime_any (a : Int) (w : World) : Calls Tryd.prog 30 #[.int .i64 a] w fun e w' => e = .returned (.bool (isT a)) ∧ Below w.heap.size w w' :=
  (sawmilllaw07_isTime.calls a _ w (ltime_f a)).mono fun _ _ h => ⟨h.1, h.2.below⟩
theorem new_ok (h : newE (prs l) = 0) (hr : Kd.C k47 w A l.length l) (hc : l.length ≤ c) : Calls Tryd.prog 15 #[.slice A l.length c] w fun e w' => ∃ b, e = .returned (.tuple #[.pointer (some ⟨b, 0, none⟩), .int .i64 0]) ∧ IsCal w' b l ∧ Below w.heap.size w w' := by
  refine (new_any A c l w hr hc).mono ?_
  rintro e w' ⟨hb, ⟨_, b, rfl, _, hc⟩ | ⟨h', _⟩⟩
  · exact ⟨b, rfl, hc, hb⟩
  · exact absurd h h'
theorem new_not (n : Int) (hn : newE (prs l) = n) (h : n ≠ 0) (hr : Kd.C k47 w A l.length l) (hc : l.length ≤ c) : Calls Tryd.prog 15 #[.slice A l.length c] w fun e w' => e = .returned (.tuple #[.pointer none, .int .i64 n]) ∧ Below w.heap.size w w' := by
  subst hn
  refine (new_any A c l w hr hc).mono ?_
  rintro e w' ⟨hb, ⟨h', _⟩ | ⟨_, rfl⟩⟩
  · exact absurd h' h
  · exact ⟨rfl, hb⟩

set_option maxHeartbeats 1000000 in
theorem made_ok (h : newE (prs l) = 0) (hr : Kd.C k47 w A l.length l) (hc : l.length ≤ c) : Calls Tryd.prog 17 #[.slice A l.length c] w fun e w' => ∃ b, e = .returned (.tuple #[.pointer (some ⟨b, 0, none⟩), .bool true]) ∧ IsCal w' b l ∧ Below w.heap.size w w' := by
  have HR := Aside0.mk hr
  have HC := Aside0.mk hc
  have HE := Aside0.mk h
  clear h hr hc
  have B0 := Aside0.mk (Below.refl w.heap.size w)
  go_enter Tryd.func17, Tryd.ntmps17
  go_wp2_with fail
  refine (few_yes' (C_down HR.out B0.out) HC.out (by have := newE_few HE.out; omega)).mono ?_
  rintro e w1 ⟨rfl, hb⟩
  have B1 := Aside0.mk (below_step B0.out hb)
  clear hb
  go_wp2_with fail
  refine (new_ok HE.out (C_down HR.out B1.out) HC.out).mono ?_
  rintro e w2 ⟨b, rfl, hcal, hb⟩
  have B2 := Aside0.mk (below_step B1.out hb)
  have HK := Aside0.mk hcal
  clear hb hcal
  go_wp2_with fail
  go_ret2
  exact ⟨b, rfl, HK.out, B2.out⟩
set_option maxHeartbeats 1000000 in
theorem made_not (h : newE (prs l) ≠ 0) (hr : Kd.C k47 w A l.length l) (hc : l.length ≤ c) : Calls Tryd.prog 17 #[.slice A l.length c] w fun e w' => ∃ p, e = .returned (.tuple #[p, .bool false]) ∧ Below w.heap.size w w' := by
  have HR := Aside0.mk hr
  have HC := Aside0.mk hc
  clear hr hc
  by_cases h40 : l.length ≤ 40
  · have H40 := Aside0.mk h40
    clear h40
    obtain ⟨n, hn⟩ : ∃ n, newE (prs l) = n := ⟨_, rfl⟩
    rw [hn] at h
    have HN := Aside0.mk hn
    have HH := Aside0.mk h
    have hz : (n == 0) = false := by simpa using h
    clear hn h
    have B0 := Aside0.mk (Below.refl w.heap.size w)
    go_enter Tryd.func17, Tryd.ntmps17
    go_wp2_with fail
    refine (few_yes' (C_down HR.out B0.out) HC.out H40.out).mono ?_
    rintro e w1 ⟨rfl, hb⟩
    have B1 := Aside0.mk (below_step B0.out hb)
    clear hb
    go_wp2_with fail
    refine (new_not n HN.out HH.out (C_down HR.out B1.out) HC.out).mono ?_
    rintro e w2 ⟨rfl, hb⟩
    have B2 := Aside0.mk (below_step B1.out hb)
    clear hb
    go_wp2_with fail
    go_ret2
    exact ⟨_, rfl, B2.out⟩
  · have H40 := Aside0.mk h40
    clear h40 h
    have B0 := Aside0.mk (Below.refl w.heap.size w)
    go_enter Tryd.func17, Tryd.ntmps17
    go_wp2_with fail
    refine (few_no' (C_down HR.out B0.out) HC.out H40.out).mono ?_
    rintro e w1 ⟨rfl, hb⟩
    have B1 := Aside0.mk (below_step B0.out hb)
    clear hb
    go_wp2_with fail
    go_ret2
    exact ⟨_, rfl, B1.out⟩
set_option maxHeartbeats 2000000 in
theorem law_opens (hT : Tab w) (hr : Kd.C k47 w A l.length l) (hc : l.length ≤ c) (a : Int) : Calls Tryd.prog 4 #[.slice A l.length c, .int .i64 a] w (AllTrue w) := by
  have HT := Aside0.mk hT
  have HR := Aside0.mk hr
  have HC := Aside0.mk hc
  clear hT hr hc
  by_cases h40 : l.length ≤ 40
  · have H40 := Aside0.mk h40
    clear h40
    by_cases hz : newE (prs l) = 0
    · have HZ := Aside0.mk hz
      clear hz
      have B0 := Aside0.mk (Below.refl w.heap.size w)
      go_enter Tryd.func4, Tryd.ntmps4
      go_wp2_with fail
      refine (few_yes' (C_down HR.out B0.out) HC.out H40.out).mono ?_
      rintro e w1 ⟨rfl, hb⟩
      have B1 := Aside0.mk (below_step B0.out hb)
      clear hb
      go_wp2_with fail
      have hck := check_any A c l w1 (C_down HR.out B1.out) HC.out
      rw [HZ.out] at hck
      refine hck.mono ?_
      clear hck
      rintro e w2 ⟨rfl, hb⟩
      have B2 := Aside0.mk (below_step B1.out hb)
      clear hb
      go_wp2_with fail
      refine (made_ok HZ.out (C_down HR.out B2.out) HC.out).mono ?_
      rintro e w3 ⟨b, rfl, hcal, hb⟩
      have B3 := Aside0.mk (below_step B2.out hb)
      have K3 := Aside0.mk hcal
      clear hb hcal
      go_wp2_with fail
      refine (next_any b l a _ K3.out).mono ?_
      rintro e _ ⟨rfl, rfl⟩
      have B4 := B3
      go_wp2_with fail
      have K4 := K3
      refine (rnext_any A c l a _ (C_down HR.out B4.out) HC.out (newE_few HZ.out) (newE_pos HZ.out) (newE_valid HZ.out)).mono ?_
      rintro e w5 ⟨rfl, hb⟩
      have B5 := Aside0.mk (below_step B4.out hb)
      have K5 := Aside0.mk (K4.out.below hb)
      clear hb
      go_wp2_with fail
      refine (open_any b l a _ K5.out).mono ?_
      rintro e _ ⟨rfl, rfl⟩
      have B6 := B5
      go_wp2_with fail
      refine (ropen_any A c l a _ (C_down HR.out B6.out) HC.out (newE_few HZ.out)).mono ?_
      rintro e w7 ⟨rfl, hb⟩
      have B7 := Aside0.mk (below_step B6.out hb)
      clear hb
      go_wp2_with fail
      refine (awake_any _ (tab_below HT.out B7.out)).mono ?_
      rintro e w8 ⟨rfl, hb⟩
      have B8 := Aside0.mk (below_step B7.out hb)
      clear hb
      go_wp2_with fail
      go_ret
      exact ⟨rfl, B8.out⟩
    · obtain ⟨n, hn⟩ : ∃ n, newE (prs l) = n := ⟨_, rfl⟩
      rw [hn] at hz
      have HN := Aside0.mk hn
      have hz2 : (n == 0) = false := by simpa using hz
      have hz3 : (n != 0) = true := by simpa using hz
      clear hn hz
      have B0 := Aside0.mk (Below.refl w.heap.size w)
      go_enter Tryd.func4, Tryd.ntmps4
      go_wp2_with fail
      refine (few_yes' (C_down HR.out B0.out) HC.out H40.out).mono ?_
      rintro e w1 ⟨rfl, hb⟩
      have B1 := Aside0.mk (below_step B0.out hb)
      clear hb
      go_wp2_with fail
      have hck := check_any A c l w1 (C_down HR.out B1.out) HC.out
      rw [HN.out] at hck
      refine hck.mono ?_
      clear hck
      rintro e w2 ⟨rfl, hb⟩
      have B2 := Aside0.mk (below_step B1.out hb)
      clear hb
      go_wp2_with fail
      refine (awake_any _ (tab_below HT.out B2.out)).mono ?_
      rintro e w3 ⟨rfl, hb⟩
      have B3 := Aside0.mk (below_step B2.out hb)
      clear hb
      go_wp2_with fail
      go_ret
      exact ⟨rfl, B3.out⟩
  · have H40 := Aside0.mk h40
    clear h40
    have B0 := Aside0.mk (Below.refl w.heap.size w)
    go_enter Tryd.func4, Tryd.ntmps4
    go_wp2_with fail
    refine (few_no' (C_down HR.out B0.out) HC.out H40.out).mono ?_
    rintro e w1 ⟨rfl, hb⟩
    have B1 := Aside0.mk (below_step B0.out hb)
    clear hb
    go_wp2_with fail
    refine (awake_any _ (tab_below HT.out B1.out)).mono ?_
    rintro e w2 ⟨rfl, hb⟩
    have B2 := Aside0.mk (below_step B1.out hb)
    clear hb
    go_wp2_with fail
    go_ret
    exact ⟨rfl, B2.out⟩
set_option maxHeartbeats 2000000 in
theorem law_works (hT : Tab w) (hr : Kd.C k47 w A l.length l) (hc : l.length ≤ c) (a m : Int) : Calls Tryd.prog 5 #[.slice A l.length c, .int .i64 a, .int .i64 m] w (AllTrue w) := by
  have HT := Aside0.mk hT
  have HR := Aside0.mk hr
  have HC := Aside0.mk hc
  clear hT hr hc
  by_cases h40 : l.length ≤ 40
  · have H40 := Aside0.mk h40
    clear h40
    by_cases hz : newE (prs l) = 0
    · have HZ := Aside0.mk hz
      clear hz
      have B0 := Aside0.mk (Below.refl w.heap.size w)
      go_enter Tryd.func5, Tryd.ntmps5
      go_wp2_with fail
      refine (few_yes' (C_down HR.out B0.out) HC.out H40.out).mono ?_
      rintro e w1 ⟨rfl, hb⟩
      have B1 := Aside0.mk (below_step B0.out hb)
      clear hb
      go_wp2_with fail
      have hck := check_any A c l w1 (C_down HR.out B1.out) HC.out
      rw [HZ.out] at hck
      refine hck.mono ?_
      clear hck
      rintro e w2 ⟨rfl, hb⟩
      have B2 := Aside0.mk (below_step B1.out hb)
      clear hb
      go_wp2_with fail
      refine (made_ok HZ.out (C_down HR.out B2.out) HC.out).mono ?_
      rintro e w3 ⟨b, rfl, hcal, hb⟩
      have B3 := Aside0.mk (below_step B2.out hb)
      have K3 := Aside0.mk hcal
      clear hb hcal
      go_wp2_with fail
      refine (work_any b l a m _ K3.out).mono ?_
      rintro e w4 ⟨rfl, hb⟩
      have B4 := Aside0.mk (below_step B3.out hb)
      clear hb
      go_wp2_with fail
      refine (rwork_any A c l a m _ (C_down HR.out B4.out) HC.out (newE_few HZ.out) (newE_valid HZ.out)).mono ?_
      rintro e w5 ⟨rfl, hb⟩
      have B5 := Aside0.mk (below_step B4.out hb)
      clear hb
      go_wp2_with fail
      refine (awake_any _ (tab_below HT.out B5.out)).mono ?_
      rintro e w6 ⟨rfl, hb⟩
      have B6 := Aside0.mk (below_step B5.out hb)
      clear hb
      go_wp2_with fail
      go_ret
      exact ⟨rfl, B6.out⟩
    · obtain ⟨n, hn⟩ : ∃ n, newE (prs l) = n := ⟨_, rfl⟩
      rw [hn] at hz
      have HN := Aside0.mk hn
      have hz2 : (n == 0) = false := by simpa using hz
      have hz3 : (n != 0) = true := by simpa using hz
      clear hn hz
      have B0 := Aside0.mk (Below.refl w.heap.size w)
      go_enter Tryd.func5, Tryd.ntmps5
      go_wp2_with fail
      refine (few_yes' (C_down HR.out B0.out) HC.out H40.out).mono ?_
      rintro e w1 ⟨rfl, hb⟩
      have B1 := Aside0.mk (below_step B0.out hb)
      clear hb
      go_wp2_with fail
      have hck := check_any A c l w1 (C_down HR.out B1.out) HC.out
      rw [HN.out] at hck
      refine hck.mono ?_
      clear hck
      rintro e w2 ⟨rfl, hb⟩
      have B2 := Aside0.mk (below_step B1.out hb)
      clear hb
      go_wp2_with fail
      refine (awake_any _ (tab_below HT.out B2.out)).mono ?_
      rintro e w3 ⟨rfl, hb⟩
      have B3 := Aside0.mk (below_step B2.out hb)
      clear hb
      go_wp2_with fail
      go_ret
      exact ⟨rfl, B3.out⟩
  · have H40 := Aside0.mk h40
    clear h40
    have B0 := Aside0.mk (Below.refl w.heap.size w)
    go_enter Tryd.func5, Tryd.ntmps5
    go_wp2_with fail
    refine (few_no' (C_down HR.out B0.out) HC.out H40.out).mono ?_
    rintro e w1 ⟨rfl, hb⟩
    have B1 := Aside0.mk (below_step B0.out hb)
    clear hb
    go_wp2_with fail
    refine (awake_any _ (tab_below HT.out B1.out)).mono ?_
    rintro e w2 ⟨rfl, hb⟩
    have B2 := Aside0.mk (below_step B1.out hb)
    clear hb
    go_wp2_with fail
    go_ret
    exact ⟨rfl, B2.out⟩
set_option maxHeartbeats 2000000 in
theorem law_adds (hT : Tab w) (hr : Kd.C k47 w A l.length l) (hc : l.length ≤ c) (a m : Int) : Calls Tryd.prog 6 #[.slice A l.length c, .int .i64 a, .int .i64 m] w (AllTrue w) := by
  have HT := Aside0.mk hT
  have HR := Aside0.mk hr
  have HC := Aside0.mk hc
  clear hT hr hc
  by_cases h40 : l.length ≤ 40
  · have H40 := Aside0.mk h40
    clear h40
    by_cases hz : newE (prs l) = 0
    · have HZ := Aside0.mk hz
      clear hz
      have B0 := Aside0.mk (Below.refl w.heap.size w)
      go_enter Tryd.func6, Tryd.ntmps6
      go_wp2_with fail
      refine (few_yes' (C_down HR.out B0.out) HC.out H40.out).mono ?_
      rintro e w1 ⟨rfl, hb⟩
      have B1 := Aside0.mk (below_step B0.out hb)
      clear hb
      go_wp2_with fail
      have hck := check_any A c l w1 (C_down HR.out B1.out) HC.out
      rw [HZ.out] at hck
      refine hck.mono ?_
      clear hck
      rintro e w2 ⟨rfl, hb⟩
      have B2 := Aside0.mk (below_step B1.out hb)
      clear hb
      go_wp2_with fail
      refine (made_ok HZ.out (C_down HR.out B2.out) HC.out).mono ?_
      rintro e w3 ⟨b, rfl, hcal, hb⟩
      have B3 := Aside0.mk (below_step B2.out hb)
      have K3 := Aside0.mk hcal
      clear hb hcal
      go_wp2_with fail
      refine (add_any b l a m _ K3.out).mono ?_
      rintro e w4 ⟨rfl, hb⟩
      have B4 := Aside0.mk (below_step B3.out hb)
      clear hb
      go_wp2_with fail
      refine (radd_any A c l a m _ (C_down HR.out B4.out) HC.out (newE_few HZ.out) (newE_pos HZ.out) (newE_valid HZ.out)).mono ?_
      rintro e w5 ⟨rfl, hb⟩
      have B5 := Aside0.mk (below_step B4.out hb)
      clear hb
      go_wp2_with fail
      refine (awake_any _ (tab_below HT.out B5.out)).mono ?_
      rintro e w6 ⟨rfl, hb⟩
      have B6 := Aside0.mk (below_step B5.out hb)
      clear hb
      go_wp2_with fail
      go_ret
      exact ⟨rfl, B6.out⟩
    · obtain ⟨n, hn⟩ : ∃ n, newE (prs l) = n := ⟨_, rfl⟩
      rw [hn] at hz
      have HN := Aside0.mk hn
      have hz2 : (n == 0) = false := by simpa using hz
      have hz3 : (n != 0) = true := by simpa using hz
      clear hn hz
      have B0 := Aside0.mk (Below.refl w.heap.size w)
      go_enter Tryd.func6, Tryd.ntmps6
      go_wp2_with fail
      refine (few_yes' (C_down HR.out B0.out) HC.out H40.out).mono ?_
      rintro e w1 ⟨rfl, hb⟩
      have B1 := Aside0.mk (below_step B0.out hb)
      clear hb
      go_wp2_with fail
      have hck := check_any A c l w1 (C_down HR.out B1.out) HC.out
      rw [HN.out] at hck
      refine hck.mono ?_
      clear hck
      rintro e w2 ⟨rfl, hb⟩
      have B2 := Aside0.mk (below_step B1.out hb)
      clear hb
      go_wp2_with fail
      refine (awake_any _ (tab_below HT.out B2.out)).mono ?_
      rintro e w3 ⟨rfl, hb⟩
      have B3 := Aside0.mk (below_step B2.out hb)
      clear hb
      go_wp2_with fail
      go_ret
      exact ⟨rfl, B3.out⟩
  · have H40 := Aside0.mk h40
    clear h40
    have B0 := Aside0.mk (Below.refl w.heap.size w)
    go_enter Tryd.func6, Tryd.ntmps6
    go_wp2_with fail
    refine (few_no' (C_down HR.out B0.out) HC.out H40.out).mono ?_
    rintro e w1 ⟨rfl, hb⟩
    have B1 := Aside0.mk (below_step B0.out hb)
    clear hb
    go_wp2_with fail
    refine (awake_any _ (tab_below HT.out B1.out)).mono ?_
    rintro e w2 ⟨rfl, hb⟩
    have B2 := Aside0.mk (below_step B1.out hb)
    clear hb
    go_wp2_with fail
    go_ret
    exact ⟨rfl, B2.out⟩
theorem next_nil (a m : Int) (w : World) : Calls Tryd.prog 18 #[.pointer none, .int .i64 a] w fun e w' => e = .returned (.tuple #[.int .i64 0, .int .i64 1]) ∧ w = w' := by
  go_enter Tryd.func18, Tryd.ntmps18
  go_wp2_with fail
  go_ret2
  exact ⟨rfl, rfl⟩
theorem add_nil (a m : Int) (w : World) : Calls Tryd.prog 24 #[.pointer none, .int .i64 a, .int .i64 m] w fun e w' => e = .returned (.tuple #[.int .i64 0, .int .i64 1]) ∧ w = w' := by
  go_enter Tryd.func24, Tryd.ntmps24
  go_wp2_with fail
  go_ret2
  exact ⟨rfl, rfl⟩
theorem open_nil (a m : Int) (w : World) : Calls Tryd.prog 20 #[.pointer none, .int .i64 a] w fun e w' => e = .returned (.bool false) ∧ w = w' := by
  go_enter Tryd.func20, Tryd.ntmps20
  go_wp2_with fail
  go_ret
  exact ⟨rfl, rfl⟩
theorem work_nil (a m : Int) (w : World) : Calls Tryd.prog 22 #[.pointer none, .int .i64 a, .int .i64 m] w fun e w' => e = .returned (.int .i64 0) ∧ w = w' := by
  go_enter Tryd.func22, Tryd.ntmps22
  go_wp2_with fail
  go_ret
  exact ⟨rfl, rfl⟩
set_option maxHeartbeats 1000000 in
theorem law_nil (hT : Tab w) (a m : Int) : Calls Tryd.prog 12 #[.int .i64 a, .int .i64 m] w (AllTrue w) := by
  have HT := Aside0.mk hT
  clear hT
  have B0 := Aside0.mk (Below.refl w.heap.size w)
  go_enter Tryd.func12, Tryd.ntmps12
  go_wp2_with fail
  refine (next_nil a m _).mono ?_
  rintro e _ ⟨rfl, rfl⟩
  have B1 := B0
  go_wp2_with fail
  refine (add_nil a m _).mono ?_
  rintro e _ ⟨rfl, rfl⟩
  have B2 := B1
  go_wp2_with fail
  refine (open_nil a m _).mono ?_
  rintro e _ ⟨rfl, rfl⟩
  have B3 := B2
  go_wp2_with fail
  refine (work_nil a m _).mono ?_
  rintro e _ ⟨rfl, rfl⟩
  have B4 := B3
  go_wp2_with fail
  refine (awake_any _ (tab_below HT.out B4.out)).mono ?_
  rintro e w5 ⟨rfl, hb⟩
  have B5 := Aside0.mk (below_step B4.out hb)
  clear hb
  go_wp2_with fail
  go_ret
  exact ⟨rfl, B5.out⟩
end
end Go.Proofs.YthdkfgpcdghblaaDoor.Cal
