/-
  The laws ClockNexts, ClockInverts: each call returns true, and of what was there nothing turns. Condition: the library's table of powers of ten holds what it holds at the start.
-/
import Derived.Test.YthdkfgpcdghblaaDoorLawB
namespace Go.Proofs.YthdkfgpcdghblaaDoor.Cal
open Go.RowKit Go.Proofs.YthdkfgpcdghblaaDoorW.PrintWords Go.Proofs.YthdkfgpcdghblaaDoorW.PrintLast Go.Proofs.YthdkfgpcdghblaaDoorW.PrintMore
open Go.Proofs.YthdkfgpcdghblaaDoor.PAll Go.Proofs.YthdkfgpcdghblaaDoor.CMath
set_option linter.unusedVariables false
set_option linter.unusedSimpArgs false
section
variable {A : Option Addr} {c : Nat} {l : List S47} {w : World}
theorem next_at (b : Nat) (a n e : Int) (hc : IsCal w b l) (h1 : nextN (prs l) a = n) (h2 : nextE (prs l) a = e) : Calls Tryd.prog 18 #[.pointer (some ⟨b, 0, none⟩), .int .i64 a] w fun x w' => x = .returned (.tuple #[.int .i64 n, .int .i64 e]) ∧ w = w' := by
  subst h1
  subst h2
  exact next_any b l a w hc
theorem add_at (b : Nat) (a m n e : Int) (hc : IsCal w b l) (h1 : addN (prs l) a m = n) (h2 : addE (prs l) a m = e) : Calls Tryd.prog 24 #[.pointer (some ⟨b, 0, none⟩), .int .i64 a, .int .i64 m] w fun x w' => x = .returned (.tuple #[.int .i64 n, .int .i64 e]) ∧ Below w.heap.size w w' := by
  subst h1
  subst h2
  exact add_any b l a m w hc
theorem work_at (b : Nat) (a m n : Int) (hc : IsCal w b l) (h1 : workS (prs l) a m = n) : Calls Tryd.prog 22 #[.pointer (some ⟨b, 0, none⟩), .int .i64 a, .int .i64 m] w fun x w' => x = .returned (.int .i64 n) ∧ Below w.heap.size w w' := by
  subst h1
  exact work_any b l a m w hc
theorem open_at (b : Nat) (a : Int) (r : Bool) (hc : IsCal w b l) (h1 : openS (prs l) a = r) : Calls Tryd.prog 20 #[.pointer (some ⟨b, 0, none⟩), .int .i64 a] w fun x w' => x = .returned (.bool r) ∧ w = w' := by
  subst h1
  exact open_any b l a w hc
theorem ltime_at (a : Int) (r : Bool) (h : isT a = r) : Calls Tryd.prog 30 #[.int .i64 a] w fun e w' => e = .returned (.bool r) ∧ Below w.heap.size w w' := by
  subst h
  exact ltime_any a w

/-- What ClockNexts asks of the plain functions. -/
theorem nexts_late (hv : Val 0 (prs l)) (hp : 0 < (prs l).length) (a : Int) (ha : isT a = true) (h : 10000000 < nextT (prs l) a) :
    nextN (prs l) a = 0 ∧ nextE (prs l) a = 15 ∧ workS (prs l) a 10000000 = 0 ∧ openS (prs l) 10000000 = false := by
  have hb := (isT_iff a).mp ha
  obtain ⟨t1, t2, t3, t4⟩ := next_tells (prs l) hv hp a
  refine ⟨by unfold nextN; rw [if_pos ha, if_pos h], by unfold nextE; rw [if_pos ha, if_pos h], ?_, ?_⟩
  · unfold workS
    rw [if_pos ⟨ha, by decide, hb.2⟩, pas_idle_le (prs l) hv hb.2 (fun x h1 h2 => t4 x h1 (by omega))]
    omega
  · unfold openS
    rw [if_pos (by decide)]
    exact t4 10000000 hb.2 h
theorem nexts_here (hv : Val 0 (prs l)) (hp : 0 < (prs l).length) (a : Int) (ha : isT a = true) (h : ¬ 10000000 < nextT (prs l) a) :
    nextN (prs l) a = nextT (prs l) a ∧ nextE (prs l) a = 0 ∧ a ≤ nextT (prs l) a ∧ workS (prs l) a (nextT (prs l) a) = 0 ∧ openS (prs l) (nextT (prs l) a) = true := by
  have hb := (isT_iff a).mp ha
  obtain ⟨t1, t2, t3, t4⟩ := next_tells (prs l) hv hp a
  refine ⟨by unfold nextN; rw [if_pos ha, if_neg h], by unfold nextE; rw [if_pos ha, if_neg h], t1, ?_, ?_⟩
  · unfold workS
    rw [if_pos ⟨ha, (isT_iff _).mpr (by omega), t1⟩, pas_idle_le (prs l) hv t1 t4]
    omega
  · unfold openS
    rw [if_pos ((isT_iff _).mpr (by omega))]
    exact t3
theorem inverts_late (hv : Val 0 (prs l)) (hp : 0 < (prs l).length) (a m : Int) (ha : isT a = true) (hm0 : 1 ≤ m) (hm1 : m ≤ 10000000) (h : 10000000 < addT (prs l) a m) :
    addN (prs l) a m = 0 ∧ addE (prs l) a m = 15 ∧ workS (prs l) a 10000000 < m := by
  have hb := (isT_iff a).mp ha
  obtain ⟨t1, t2, t3⟩ := add_tells (prs l) hv hp a m hb.1 hb.2 hm0 hm1
  refine ⟨by unfold addN; rw [if_pos ha, if_neg (by omega), if_neg (by omega), if_pos h], by unfold addE; rw [if_pos ha, if_neg (by omega), if_neg (by omega), if_pos h], ?_⟩
  unfold workS
  rw [if_pos ⟨ha, by decide, hb.2⟩]
  have := pas_le (prs l) hv (a := 10000000) (b := addT (prs l) a m - 1) (by omega)
  omega
theorem inverts_here (hv : Val 0 (prs l)) (hp : 0 < (prs l).length) (a m : Int) (ha : isT a = true) (hm0 : 1 ≤ m) (hm1 : m ≤ 10000000) (h : ¬ 10000000 < addT (prs l) a m) :
    addN (prs l) a m = addT (prs l) a m ∧ addE (prs l) a m = 0 ∧ a < addT (prs l) a m ∧ isT (addT (prs l) a m) = true ∧ workS (prs l) a (addT (prs l) a m) = m ∧ openS (prs l) (addT (prs l) a m - 1) = true ∧ workS (prs l) a (addT (prs l) a m - 1) = m - 1 := by
  have hb := (isT_iff a).mp ha
  obtain ⟨t1, t2, t3⟩ := add_tells (prs l) hv hp a m hb.1 hb.2 hm0 hm1
  have ht : isT (addT (prs l) a m) = true := (isT_iff _).mpr (by omega)
  have ht1 : isT (addT (prs l) a m - 1) = true := (isT_iff _).mpr (by omega)
  refine ⟨by unfold addN; rw [if_pos ha, if_neg (by omega), if_neg (by omega), if_neg h], by unfold addE; rw [if_pos ha, if_neg (by omega), if_neg (by omega), if_neg h], t3, ht, ?_, ?_, ?_⟩
  · unfold workS
    rw [if_pos ⟨ha, ht, by omega⟩]
    omega
  · unfold openS
    rw [if_pos ht1]
    have hs := pas_step (prs l) (addT (prs l) a m - 1) hv
    rw [show addT (prs l) a m - 1 + 1 = addT (prs l) a m by omega] at hs
    by_cases o : opn ((addT (prs l) a m - 1) % 10080) (prs l) = true
    · exact o
    · rw [if_neg o] at hs
      omega
  · unfold workS
    rw [if_pos ⟨ha, ht1, by omega⟩]
    omega
theorem work_self (a : Int) (ha : isT a = true) : workS (prs l) a a = 0 := by
  unfold workS
  rw [if_pos ⟨ha, ha, Int.le_refl _⟩]
  omega
theorem len_prs (h : newE (prs l) = 0) : 0 < (prs l).length := (newE_val h).2.1

set_option maxHeartbeats 2000000 in
theorem law_nexts (hT : Tab w) (hr : Kd.C k47 w A l.length l) (hc : l.length ≤ c) (a : Int) : Calls Tryd.prog 10 #[.slice A l.length c, .int .i64 a] w (AllTrue w) := by
  have HT := Aside0.mk hT
  have HR := Aside0.mk hr
  have HC := Aside0.mk hc
  clear hT hr hc
  by_cases hz : newE (prs l) = 0
  rotate_left
  · have HZ := Aside0.mk hz
    clear hz
    have B0 := Aside0.mk (Below.refl w.heap.size w)
    go_enter Tryd.func10, Tryd.ntmps10
    go_wp2_with fail
    refine (made_not HZ.out (C_down HR.out B0.out) HC.out).mono ?_
    rintro e w1 ⟨p, rfl, hb⟩
    have B1 := Aside0.mk (below_step B0.out hb)
    clear hb
    go_wp2_with fail
    refine (awake_any _ (tab_below HT.out B1.out)).mono ?_
    rintro e w2 ⟨rfl, hb⟩
    have B2 := Aside0.mk (below_step B1.out hb)
    clear hb
    go_wp2_with fail
    go_ret
    exact ⟨rfl, B2.out⟩
  have HZ := Aside0.mk hz
  clear hz
  by_cases ha : isT a = true
  rotate_left
  · have HA := Aside0.mk (Bool.eq_false_iff.mpr ha)
    clear ha
    have B0 := Aside0.mk (Below.refl w.heap.size w)
    go_enter Tryd.func10, Tryd.ntmps10
    go_wp2_with fail
    refine (made_ok HZ.out (C_down HR.out B0.out) HC.out).mono ?_
    rintro e w1 ⟨b, rfl, hcal, hb⟩
    have B1 := Aside0.mk (below_step B0.out hb)
    have K1 := Aside0.mk hcal
    clear hb hcal
    go_wp2_with fail
    refine (ltime_at a false HA.out).mono ?_
    rintro e w2 ⟨rfl, hb⟩
    have B2 := Aside0.mk (below_step B1.out hb)
    have K2 := Aside0.mk (K1.out.below hb)
    clear hb
    go_wp2_with fail
    refine (awake_any _ (tab_below HT.out B2.out)).mono ?_
    rintro e w3 ⟨rfl, hb⟩
    have B3 := Aside0.mk (below_step B2.out hb)
    clear hb
    go_wp2_with fail
    go_ret
    exact ⟨rfl, B3.out⟩
  by_cases hn : 10000000 < nextT (prs l) a
  · have F := Aside0.mk (nexts_late (newE_valid HZ.out) (len_prs HZ.out) a ha hn)
    have HA := Aside0.mk ha
    clear ha hn
    have B0 := Aside0.mk (Below.refl w.heap.size w)
    go_enter Tryd.func10, Tryd.ntmps10
    go_wp2_with fail
    refine (made_ok HZ.out (C_down HR.out B0.out) HC.out).mono ?_
    rintro e w1 ⟨b, rfl, hcal, hb⟩
    have B1 := Aside0.mk (below_step B0.out hb)
    have K1 := Aside0.mk hcal
    clear hb hcal
    go_wp2_with fail
    refine (ltime_at a true HA.out).mono ?_
    rintro e w2 ⟨rfl, hb⟩
    have B2 := Aside0.mk (below_step B1.out hb)
    have K2 := Aside0.mk (K1.out.below hb)
    clear hb
    go_wp2_with fail
    refine (next_at b a 0 15 K2.out F.out.1 F.out.2.1).mono ?_
    rintro e _ ⟨rfl, rfl⟩
    have B3 := B2
    go_wp2_with fail
    have K3 := K2
    refine (work_at b a 10000000 0 K3.out F.out.2.2.1).mono ?_
    rintro e w4 ⟨rfl, hb⟩
    have B4 := Aside0.mk (below_step B3.out hb)
    have K4 := Aside0.mk (K3.out.below hb)
    clear hb
    go_wp2_with fail
    refine (open_at b 10000000 false K4.out F.out.2.2.2).mono ?_
    rintro e _ ⟨rfl, rfl⟩
    have B5 := B4
    go_wp2_with fail
    refine (awake_any _ (tab_below HT.out B5.out)).mono ?_
    rintro e w6 ⟨rfl, hb⟩
    have B6 := Aside0.mk (below_step B5.out hb)
    clear hb
    go_wp2_with fail
    go_ret
    exact ⟨rfl, B6.out⟩
  · have f0 := nexts_here (newE_valid HZ.out) (len_prs HZ.out) a ha hn
    have HA := Aside0.mk ha
    clear ha hn
    obtain ⟨t, ht⟩ : ∃ t, nextT (prs l) a = t := ⟨_, rfl⟩
    rw [ht] at f0
    have hat := f0.2.2.1
    have F := Aside0.mk f0
    clear f0 ht
    have B0 := Aside0.mk (Below.refl w.heap.size w)
    go_enter Tryd.func10, Tryd.ntmps10
    go_wp2_with fail
    refine (made_ok HZ.out (C_down HR.out B0.out) HC.out).mono ?_
    rintro e w1 ⟨b, rfl, hcal, hb⟩
    have B1 := Aside0.mk (below_step B0.out hb)
    have K1 := Aside0.mk hcal
    clear hb hcal
    go_wp2_with fail
    refine (ltime_at a true HA.out).mono ?_
    rintro e w2 ⟨rfl, hb⟩
    have B2 := Aside0.mk (below_step B1.out hb)
    have K2 := Aside0.mk (K1.out.below hb)
    clear hb
    go_wp2_with fail
    refine (next_at b a t 0 K2.out F.out.1 F.out.2.1).mono ?_
    rintro e _ ⟨rfl, rfl⟩
    have B3 := B2
    go_wp2_with fail
    have K3 := K2
    refine (open_at b t true K3.out F.out.2.2.2.2).mono ?_
    rintro e _ ⟨rfl, rfl⟩
    have B4 := B3
    go_wp2_with fail
    have K4 := K3
    refine (work_at b a t 0 K4.out F.out.2.2.2.1).mono ?_
    rintro e w5 ⟨rfl, hb⟩
    have B5 := Aside0.mk (below_step B4.out hb)
    clear hb
    go_wp2_with fail
    refine (awake_any _ (tab_below HT.out B5.out)).mono ?_
    rintro e w6 ⟨rfl, hb⟩
    have B6 := Aside0.mk (below_step B5.out hb)
    clear hb
    go_wp2_with fail
    go_ret
    exact ⟨rfl, B6.out⟩
set_option maxHeartbeats 2000000 in
theorem law_inverts (hT : Tab w) (hr : Kd.C k47 w A l.length l) (hc : l.length ≤ c) (a m : Int) : Calls Tryd.prog 9 #[.slice A l.length c, .int .i64 a, .int .i64 m] w (AllTrue w) := by
  have HT := Aside0.mk hT
  have HR := Aside0.mk hr
  have HC := Aside0.mk hc
  clear hT hr hc
  by_cases hz : newE (prs l) = 0
  rotate_left
  · have HZ := Aside0.mk hz
    clear hz
    have B0 := Aside0.mk (Below.refl w.heap.size w)
    go_enter Tryd.func9, Tryd.ntmps9
    go_wp2_with fail
    refine (made_not HZ.out (C_down HR.out B0.out) HC.out).mono ?_
    rintro e w1 ⟨p, rfl, hb⟩
    have B1 := Aside0.mk (below_step B0.out hb)
    clear hb
    go_wp2_with fail
    refine (awake_any _ (tab_below HT.out B1.out)).mono ?_
    rintro e w2 ⟨rfl, hb⟩
    have B2 := Aside0.mk (below_step B1.out hb)
    clear hb
    go_wp2_with fail
    go_ret
    exact ⟨rfl, B2.out⟩
  have HZ := Aside0.mk hz
  clear hz
  by_cases ha : isT a = true
  rotate_left
  · have HA := Aside0.mk (Bool.eq_false_iff.mpr ha)
    clear ha
    have B0 := Aside0.mk (Below.refl w.heap.size w)
    go_enter Tryd.func9, Tryd.ntmps9
    go_wp2_with fail
    refine (made_ok HZ.out (C_down HR.out B0.out) HC.out).mono ?_
    rintro e w1 ⟨b, rfl, hcal, hb⟩
    have B1 := Aside0.mk (below_step B0.out hb)
    have K1 := Aside0.mk hcal
    clear hb hcal
    go_wp2_with fail
    refine (ltime_at a false HA.out).mono ?_
    rintro e w2 ⟨rfl, hb⟩
    have B2 := Aside0.mk (below_step B1.out hb)
    clear hb
    go_wp2_with fail
    refine (awake_any _ (tab_below HT.out B2.out)).mono ?_
    rintro e w3 ⟨rfl, hb⟩
    have B3 := Aside0.mk (below_step B2.out hb)
    clear hb
    go_wp2_with fail
    go_ret
    exact ⟨rfl, B3.out⟩
  by_cases h1 : m < 0
  · have HA := Aside0.mk ha
    clear ha
    have B0 := Aside0.mk (Below.refl w.heap.size w)
    go_enter Tryd.func9, Tryd.ntmps9
    go_wp2_with fail
    refine (made_ok HZ.out (C_down HR.out B0.out) HC.out).mono ?_
    rintro e w1 ⟨b, rfl, hcal, hb⟩
    have B1 := Aside0.mk (below_step B0.out hb)
    have K1 := Aside0.mk hcal
    clear hb hcal
    go_wp2_with fail
    refine (ltime_at a true HA.out).mono ?_
    rintro e w2 ⟨rfl, hb⟩
    have B2 := Aside0.mk (below_step B1.out hb)
    clear hb
    go_wp2_with fail
    refine (awake_any _ (tab_below HT.out B2.out)).mono ?_
    rintro e w3 ⟨rfl, hb⟩
    have B3 := Aside0.mk (below_step B2.out hb)
    clear hb
    go_wp2_with fail
    go_ret
    exact ⟨rfl, B3.out⟩
  by_cases h2 : 10000000 < m
  · have HA := Aside0.mk ha
    clear ha
    have B0 := Aside0.mk (Below.refl w.heap.size w)
    go_enter Tryd.func9, Tryd.ntmps9
    go_wp2_with fail
    refine (made_ok HZ.out (C_down HR.out B0.out) HC.out).mono ?_
    rintro e w1 ⟨b, rfl, hcal, hb⟩
    have B1 := Aside0.mk (below_step B0.out hb)
    have K1 := Aside0.mk hcal
    clear hb hcal
    go_wp2_with fail
    refine (ltime_at a true HA.out).mono ?_
    rintro e w2 ⟨rfl, hb⟩
    have B2 := Aside0.mk (below_step B1.out hb)
    clear hb
    go_wp2_with fail
    refine (awake_any _ (tab_below HT.out B2.out)).mono ?_
    rintro e w3 ⟨rfl, hb⟩
    have B3 := Aside0.mk (below_step B2.out hb)
    clear hb
    go_wp2_with fail
    go_ret
    exact ⟨rfl, B3.out⟩
  by_cases h0 : m = 0
  · subst h0
    have f1 : addN (prs l) a 0 = a := by unfold addN; rw [if_pos ha, if_neg (by omega), if_pos rfl]
    have f2 : addE (prs l) a 0 = 0 := by unfold addE; rw [if_pos ha, if_neg (by omega), if_pos rfl]
    have F1 := Aside0.mk f1
    have F2 := Aside0.mk f2
    have HA := Aside0.mk ha
    clear ha h1 h2 f1 f2
    have B0 := Aside0.mk (Below.refl w.heap.size w)
    go_enter Tryd.func9, Tryd.ntmps9
    go_wp2_with fail
    refine (made_ok HZ.out (C_down HR.out B0.out) HC.out).mono ?_
    rintro e w1 ⟨b, rfl, hcal, hb⟩
    have B1 := Aside0.mk (below_step B0.out hb)
    have K1 := Aside0.mk hcal
    clear hb hcal
    go_wp2_with fail
    refine (ltime_at a true HA.out).mono ?_
    rintro e w2 ⟨rfl, hb⟩
    have B2 := Aside0.mk (below_step B1.out hb)
    have K2 := Aside0.mk (K1.out.below hb)
    clear hb
    go_wp2_with fail
    refine (add_at b a 0 a 0 K2.out F1.out F2.out).mono ?_
    rintro e w3 ⟨rfl, hb⟩
    have B3 := Aside0.mk (below_step B2.out hb)
    have K3 := Aside0.mk (K2.out.below hb)
    clear hb
    go_wp2_with fail
    refine (ltime_at a true HA.out).mono ?_
    rintro e w4 ⟨rfl, hb⟩
    have B4 := Aside0.mk (below_step B3.out hb)
    have K4 := Aside0.mk (K3.out.below hb)
    clear hb
    go_wp2_with fail
    refine (work_at b a a 0 K4.out (work_self a HA.out)).mono ?_
    rintro e w5 ⟨rfl, hb⟩
    have B5 := Aside0.mk (below_step B4.out hb)
    clear hb
    go_wp2_with fail
    refine (awake_any _ (tab_below HT.out B5.out)).mono ?_
    rintro e w6 ⟨rfl, hb⟩
    have B6 := Aside0.mk (below_step B5.out hb)
    clear hb
    go_wp2_with fail
    go_ret
    exact ⟨rfl, B6.out⟩
  have hm0 : 1 ≤ m := by omega
  have hm1 : m ≤ 10000000 := by omega
  have hmz : (m == 0) = false := by simpa using h0
  by_cases hn : 10000000 < addT (prs l) a m
  · have f0 := inverts_late (newE_valid HZ.out) (len_prs HZ.out) a m ha hm0 hm1 hn
    have HA := Aside0.mk ha
    obtain ⟨x, hx⟩ : ∃ x, workS (prs l) a 10000000 = x := ⟨_, rfl⟩
    rw [hx] at f0
    have hlt := f0.2.2
    have F := Aside0.mk f0
    have HX := Aside0.mk hx
    clear ha hn h0 h1 h2 f0 hx
    have B0 := Aside0.mk (Below.refl w.heap.size w)
    go_enter Tryd.func9, Tryd.ntmps9
    go_wp2_with fail
    refine (made_ok HZ.out (C_down HR.out B0.out) HC.out).mono ?_
    rintro e w1 ⟨b, rfl, hcal, hb⟩
    have B1 := Aside0.mk (below_step B0.out hb)
    have K1 := Aside0.mk hcal
    clear hb hcal
    go_wp2_with fail
    refine (ltime_at a true HA.out).mono ?_
    rintro e w2 ⟨rfl, hb⟩
    have B2 := Aside0.mk (below_step B1.out hb)
    have K2 := Aside0.mk (K1.out.below hb)
    clear hb
    go_wp2_with fail
    refine (add_at b a m 0 15 K2.out F.out.1 F.out.2.1).mono ?_
    rintro e w3 ⟨rfl, hb⟩
    have B3 := Aside0.mk (below_step B2.out hb)
    have K3 := Aside0.mk (K2.out.below hb)
    clear hb
    go_wp2_with fail
    refine (work_at b a 10000000 x K3.out HX.out).mono ?_
    rintro e w4 ⟨rfl, hb⟩
    have B4 := Aside0.mk (below_step B3.out hb)
    clear hb
    go_wp2_with fail
    refine (awake_any _ (tab_below HT.out B4.out)).mono ?_
    rintro e w5 ⟨rfl, hb⟩
    have B5 := Aside0.mk (below_step B4.out hb)
    clear hb
    go_wp2_with fail
    go_ret
    exact ⟨rfl, B5.out⟩
  · have f0 := inverts_here (newE_valid HZ.out) (len_prs HZ.out) a m ha hm0 hm1 hn
    have HA := Aside0.mk ha
    obtain ⟨t, ht⟩ : ∃ t, addT (prs l) a m = t := ⟨_, rfl⟩
    rw [ht] at f0
    have hat := f0.2.2.1
    have hab := (isT_iff a).mp ha
    have htb := (isT_iff t).mp f0.2.2.2.1
    have ha0 := hab.1
    have ht1 := htb.2
    have F := Aside0.mk f0
    clear ha hn h0 h1 h2 f0 ht hab htb
    have B0 := Aside0.mk (Below.refl w.heap.size w)
    go_enter Tryd.func9, Tryd.ntmps9
    go_wp2_with fail
    refine (made_ok HZ.out (C_down HR.out B0.out) HC.out).mono ?_
    rintro e w1 ⟨b, rfl, hcal, hb⟩
    have B1 := Aside0.mk (below_step B0.out hb)
    have K1 := Aside0.mk hcal
    clear hb hcal
    go_wp2_with fail
    refine (ltime_at a true HA.out).mono ?_
    rintro e w2 ⟨rfl, hb⟩
    have B2 := Aside0.mk (below_step B1.out hb)
    have K2 := Aside0.mk (K1.out.below hb)
    clear hb
    go_wp2_with fail
    refine (add_at b a m t 0 K2.out F.out.1 F.out.2.1).mono ?_
    rintro e w3 ⟨rfl, hb⟩
    have B3 := Aside0.mk (below_step B2.out hb)
    have K3 := Aside0.mk (K2.out.below hb)
    clear hb
    go_wp2_with fail
    refine (ltime_at t true F.out.2.2.2.1).mono ?_
    rintro e w4 ⟨rfl, hb⟩
    have B4 := Aside0.mk (below_step B3.out hb)
    have K4 := Aside0.mk (K3.out.below hb)
    clear hb
    go_wp2_with fail
    refine (work_at b a t m K4.out F.out.2.2.2.2.1).mono ?_
    rintro e w5 ⟨rfl, hb⟩
    have B5 := Aside0.mk (below_step B4.out hb)
    have K5 := Aside0.mk (K4.out.below hb)
    clear hb
    go_wp2_with fail
    refine (open_at b (t - 1) true K5.out F.out.2.2.2.2.2.1).mono ?_
    rintro e _ ⟨rfl, rfl⟩
    have B6 := B5
    go_wp2_with fail
    have K6 := K5
    refine (work_at b a (t - 1) (m - 1) K6.out F.out.2.2.2.2.2.2).mono ?_
    rintro e w7 ⟨rfl, hb⟩
    have B7 := Aside0.mk (below_step B6.out hb)
    clear hb
    go_wp2_with fail
    refine (awake_any _ (tab_below HT.out B7.out)).mono ?_
    rintro e w8 ⟨rfl, hb⟩
    have B8 := Aside0.mk (below_step B7.out hb)
    clear hb
    go_wp2_with fail
    go_ret
    exact ⟨rfl, B8.out⟩
end
end Go.Proofs.YthdkfgpcdghblaaDoor.Cal
