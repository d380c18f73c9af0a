/-
  What Work and Add answer over a calendar of a valid list.
-/
import Derived.Test.YthdkfgpcdghblaaDoorCal
namespace Go.Proofs.YthdkfgpcdghblaaDoor.Cal
open Go.RowKit Go.Proofs.YthdkfgpcdghblaaDoorW.PrintWords Go.Proofs.YthdkfgpcdghblaaDoorW.PrintLast Go.Proofs.YthdkfgpcdghblaaDoorW.PrintMore
open Go.Proofs.YthdkfgpcdghblaaDoor.PAll Go.Proofs.YthdkfgpcdghblaaDoor.CMath
attribute [local go_sem] max2_int min2_int max_two min_two
set_option linter.unusedVariables false
set_option linter.unusedSimpArgs false

theorem time_any (a : Int) (w : World) : Calls Tryd.prog 31 #[.int .i64 a] w fun e w' => e = .returned (.bool (isT a)) ∧ w = w' := by
  by_cases h : isT a = true
  · rw [h]
    exact time_yes a w h
  · rw [Bool.eq_false_iff.mpr h]
    exact time_no a w (Bool.eq_false_iff.mpr h)

set_option maxHeartbeats 1000000 in
theorem work_any (g : Nat) (l : List S47) (a b : Int) (w : World) (hc : IsCal w g l) :
    Calls Tryd.prog 22 #[.pointer (some ⟨g, 0, none⟩), .int .i64 a, .int .i64 b] w fun e w' => e = .returned (.int .i64 (workS (prs l) a b)) ∧ Below w.heap.size w w' := by
  have HC := Aside0.mk hc
  clear hc
  by_cases ha : isT a = true
  · by_cases hb : isT b = true
    · by_cases hab : a ≤ b
      · have e : workS (prs l) a b = pas (prs l) b - pas (prs l) a := by unfold workS; rw [if_pos ⟨ha, hb, hab⟩]
        have HE := Aside0.mk e
        have ba := (isT_iff a).mp ha
        have bb := (isT_iff b).mp hb
        have p0 := (pas_bd (prs l) HC.out.val a ba.1 (by omega)).1
        have p1 := (pas_bd (prs l) HC.out.val a ba.1 (by omega)).2
        have q0 := (pas_bd (prs l) HC.out.val b bb.1 (by omega)).1
        have q1 := (pas_bd (prs l) HC.out.val b bb.1 (by omega)).2
        clear e
        have BA := Aside0.mk ba
        have BB := Aside0.mk bb
        clear ba bb
        go_enter Tryd.func22, Tryd.ntmps22
        go_wp2_with (go_at_call 31; refine (time_any _ _).mono ?_; rintro e w' ⟨rfl, rfl⟩)
        refine (passed_any g l b _ HC.out BB.out.1 BB.out.2).mono ?_
        rintro e w1 ⟨rfl, hb1⟩
        have HB := Aside0.mk hb1
        clear hb1
        go_wp2_with fail
        refine (passed_any g l a _ (HC.out.below HB.out) BA.out.1 BA.out.2).mono ?_
        rintro e w2 ⟨rfl, hb2⟩
        have HB2 := Aside0.mk hb2
        clear hb2
        go_wp2_with fail
        go_ret
        exact ⟨by rw [HE.out]; rfl, below_step HB.out HB2.out⟩
      · have e : workS (prs l) a b = 0 := by unfold workS; rw [if_neg (fun h => hab h.2.2)]
        rw [e]
        clear e
        go_enter Tryd.func22, Tryd.ntmps22
        go_wp2_with (go_at_call 31; refine (time_any _ _).mono ?_; rintro e w' ⟨rfl, rfl⟩)
        go_ret
        exact ⟨rfl, Below.refl _ _⟩
    · have e : workS (prs l) a b = 0 := by unfold workS; rw [if_neg (fun h => hb h.2.1)]
      rw [e]
      clear e
      replace hb := Bool.eq_false_iff.mpr hb
      go_enter Tryd.func22, Tryd.ntmps22
      go_wp2_with (go_at_call 31; refine (time_any _ _).mono ?_; rintro e w' ⟨rfl, rfl⟩)
      go_ret
      exact ⟨rfl, Below.refl _ _⟩
  · have e : workS (prs l) a b = 0 := by unfold workS; rw [if_neg (fun h => ha h.1)]
    rw [e]
    clear e
    replace ha := Bool.eq_false_iff.mpr ha
    go_enter Tryd.func22, Tryd.ntmps22
    go_wp2_with (go_at_call 31; refine (time_any _ _).mono ?_; rintro e w' ⟨rfl, rfl⟩)
    go_ret
    exact ⟨rfl, Below.refl _ _⟩

set_option maxHeartbeats 1000000 in
theorem add_early (g : Nat) (l : List S47) (a m : Int) (w : World) (h : isT a = false ∨ m < 0 ∨ 10000000 < m ∨ m = 0) :
    Calls Tryd.prog 24 #[.pointer (some ⟨g, 0, none⟩), .int .i64 a, .int .i64 m] w fun e w' => e = .returned (.tuple #[.int .i64 (addN (prs l) a m), .int .i64 (addE (prs l) a m)]) ∧ w = w' := by
  by_cases ha : isT a = true
  · by_cases h1 : m < 0 ∨ 10000000 < m
    · have e1 : addN (prs l) a m = 0 := by unfold addN; rw [if_pos ha, if_pos h1]
      have e2 : addE (prs l) a m = 9 := by unfold addE; rw [if_pos ha, if_pos h1]
      rw [e1, e2]
      clear e1 e2 h
      by_cases h2 : m < 0
      · clear h1
        go_enter Tryd.func24, Tryd.ntmps24
        go_wp2_with (go_at_call 31; refine (time_any _ _).mono ?_; rintro e w' ⟨rfl, rfl⟩)
        go_ret2
        exact ⟨rfl, rfl⟩
      · have h3 : 10000000 < m := by omega
        clear h1
        go_enter Tryd.func24, Tryd.ntmps24
        go_wp2_with (go_at_call 31; refine (time_any _ _).mono ?_; rintro e w' ⟨rfl, rfl⟩)
        go_ret2
        exact ⟨rfl, rfl⟩
    · obtain rfl : m = 0 := by
        rcases h with h | h | h | h
        · rw [ha] at h; cases h
        · omega
        · omega
        · exact h
      have e1 : addN (prs l) a 0 = a := by unfold addN; rw [if_pos ha, if_neg h1, if_pos rfl]
      have e2 : addE (prs l) a 0 = 0 := by unfold addE; rw [if_pos ha, if_neg h1, if_pos rfl]
      rw [e1, e2]
      clear e1 e2 h h1
      go_enter Tryd.func24, Tryd.ntmps24
      go_wp2_with (go_at_call 31; refine (time_any _ _).mono ?_; rintro e w' ⟨rfl, rfl⟩)
      go_ret2
      exact ⟨rfl, rfl⟩
  · have e1 : addN (prs l) a m = 0 := by unfold addN; rw [if_neg ha]
    have e2 : addE (prs l) a m = 15 := by unfold addE; rw [if_neg ha]
    rw [e1, e2]
    clear e1 e2 h
    replace ha := Bool.eq_false_iff.mpr ha
    go_enter Tryd.func24, Tryd.ntmps24
    go_wp2_with (go_at_call 31; refine (time_any _ _).mono ?_; rintro e w' ⟨rfl, rfl⟩)
    go_ret2
    exact ⟨rfl, rfl⟩

theorem fnd_here (r : Int) (l : List S47) (k : Nat) (hk : k < l.length) (h : r ≤ (rd_T47 l k).f1 - (rd_T47 l k).f0) : fnd r (prs (l.drop k)) = (rd_T47 l k).f0 + r := by
  rw [prs_drop l k hk]
  unfold fnd
  rw [if_pos h]
theorem fnd_on (r : Int) (l : List S47) (k : Nat) (hk : k < l.length) (h : ¬ r ≤ (rd_T47 l k).f1 - (rd_T47 l k).f0) : fnd r (prs (l.drop k)) = fnd (r - ((rd_T47 l k).f1 - (rd_T47 l k).f0)) (prs (l.drop (k + 1))) := by
  rw [prs_drop l k hk]
  conv => lhs; unfold fnd
  rw [if_neg h]
theorem tot_head (l : List S47) (k : Nat) (hk : k < l.length) : tot (prs (l.drop k)) = ((rd_T47 l k).f1 - (rd_T47 l k).f0) + tot (prs (l.drop (k + 1))) := by
  rw [prs_drop l k hk]
  rfl

set_option maxHeartbeats 2000000 in
theorem add_late (g : Nat) (l : List S47) (a m : Int) (w : World) (hc : IsCal w g l) (ha : isT a = true) (hm0 : 1 ≤ m) (hm1 : m ≤ 10000000) :
    Calls Tryd.prog 24 #[.pointer (some ⟨g, 0, none⟩), .int .i64 a, .int .i64 m] w fun e w' => e = .returned (.tuple #[.int .i64 (addN (prs l) a m), .int .i64 (addE (prs l) a m)]) ∧ Below w.heap.size w w' := by
  have hab := (isT_iff a).mp ha
  have HC := Aside0.mk hc
  have bd := addT_bd (prs l) hc.val (by rw [prs_length]; exact hc.pos) a m hab.1 hab.2 hm0 hm1
  have pb := pas_bd (prs l) hc.val a hab.1 (by omega)
  have n1 : addN (prs l) a m = if 10000000 < addT (prs l) a m then 0 else addT (prs l) a m := by unfold addN; rw [if_pos ha, if_neg (by omega), if_neg (by omega)]
  have n2 : addE (prs l) a m = if 10000000 < addT (prs l) a m then 15 else 0 := by unfold addE; rw [if_pos ha, if_neg (by omega), if_neg (by omega)]
  have HN1 := Aside0.mk n1
  have HN2 := Aside0.mk n2
  have HAB := Aside0.mk hab
  clear n1 n2 hab hc
  obtain ⟨p, hp⟩ : ∃ p, pas (prs l) a = p := ⟨_, rfl⟩
  obtain ⟨T, hT⟩ : ∃ T, tot (prs l) = T := ⟨_, rfl⟩
  have hg : goal (prs l) a m = p + m - 1 := by unfold goal; rw [hp]
  have hx : addT (prs l) a m = (p + m - 1) / T * 10080 + fnd ((p + m - 1) % T + 1) (prs (l.drop 0)) := by unfold addT; rw [hg, hT]; rfl
  rw [hg, hT] at bd
  obtain ⟨b0, b1, b2, b3, b4, b5, b6, b7⟩ := bd
  rw [hp] at pb
  have pb0 := pb.1
  have pb1 := pb.2
  have HX := Aside0.mk hx
  have HP := Aside0.mk hp
  have HT := Aside0.mk hT
  clear hx hp hT hg pb
  go_enter Tryd.func24, Tryd.ntmps24
  go_wp2_with (go_at_call 31; refine (time_any _ _).mono ?_; rintro e w' ⟨rfl, rfl⟩)
  refine (passed_any g l a _ HC.out HAB.out.1 HAB.out.2).mono ?_
  rintro e w1 ⟨rfl, hb1⟩
  rw [HP.out]
  have HB := Aside0.mk hb1
  have hcal := HC.out.below hb1
  have hn := hcal.at_.count
  have ht := hcal.at_.total
  rw [HT.out] at ht
  clear hb1 hcal
  go_wp2_with fail
  go_quiet (fail)
  go_wp2_with fail
  have hrt : (p + m - 1) % T + 1 ≤ tot (prs (l.drop 0)) := by have := HT.out; rw [show prs (l.drop 0) = prs l from rfl, this]; omega
  have HRT := Aside0.mk hrt
  clear hrt hn ht
  obtain ⟨q, hq⟩ : ∃ q, (p + m - 1) / T = q := ⟨_, rfl⟩
  obtain ⟨r0, hr0⟩ : ∃ r0, (p + m - 1) % T = r0 := ⟨_, rfl⟩
  have HQ := Aside0.mk hq
  have HR0 := Aside0.mk hr0
  rw [hr0] at b4 b5 HRT HX
  rw [hq] at b2 b3 HX
  rw [hq, hr0]
  clear hq hr0
  go_loopw [9, 10, 51] (fun t rest i wr => ∃ (k : Nat) (r : Int), k ≤ l.length ∧ i = .int .i64 k ∧ t = .int .i64 (q * 10080) ∧ rest = .int .i64 r ∧ 1 ≤ r ∧ r ≤ 10080 ∧ Aside0 (fnd r (prs (l.drop k)) = fnd (r0 + 1) (prs (l.drop 0))) ∧ Aside0 (r ≤ tot (prs (l.drop k))) ∧ Aside0 (Below w.heap.size w wr)) (fun _ _ i _ => l.length - (intOf i).toNat)
  case atStart => exact ⟨0, _, Nat.zero_le _, rfl, rfl, rfl, by omega, by omega, ⟨rfl⟩, HRT, ⟨by repeat (first | (with_reducible first | exact HB.out | apply below_alloc | apply pw_below_drewN | apply below_drew1) | exact HB.out)⟩⟩
  case round =>
    clear HRT HB
    obtain ⟨k, r, hk, rfl, rfl, rfl, hr1, hr2, HK, HT2, HB⟩ := hrel
    have hlt : k < l.length := by
      rcases Nat.lt_or_ge k l.length with h | h
      · exact h
      · have := HT2.out
        rw [prs_drop_end l k h] at this
        have e : tot [] = 0 := rfl
        omega
    have hcal := HC.out.below HB.out
    have hfew := hcal.few
    have c0 := hcal.at_.from k (by omega)
    have c1 := hcal.at_.till k (by omega)
    have cn := hcal.at_.count
    have hb := val_at l HC.out.val k hlt
    have hb0 := hb.1
    have hb1 := hb.2.1
    have hb2 := hb.2.2
    clear hb hcal
    by_cases d : r ≤ (rd_T47 l k).f1 - (rd_T47 l k).f0
    · have hy := Aside0.mk (HX.out.trans (congrArg (fun z => q * 10080 + z) (HK.out.symm.trans (fnd_here r l k hlt d))))
      by_cases hm : 10000000 < q * 10080 + ((rd_T47 l k).f0 + r)
      · go_wp2
        go_ret2
        exact ⟨by rw [HN1.out, HN2.out, hy.out, if_pos hm, if_pos hm]; rfl, by repeat (first | (with_reducible first | exact HB.out | apply below_alloc | apply pw_below_drewN | apply below_drew1) | exact HB.out)⟩
      · go_wp2
        go_ret2
        exact ⟨by rw [HN1.out, HN2.out, hy.out, if_neg (by omega), if_neg (by omega)]; rfl, by repeat (first | (with_reducible first | exact HB.out | apply below_alloc | apply pw_below_drewN | apply below_drew1) | exact HB.out)⟩
    · have hy := Aside0.mk ((fnd_on r l k hlt d).symm.trans HK.out)
      have ht := Aside0.mk (show r - ((rd_T47 l k).f1 - (rd_T47 l k).f0) ≤ tot (prs (l.drop (k + 1))) by have := HT2.out; rw [tot_head l k hlt] at this; omega)
      go_wp2
      go_roundw
      case rel => exact ⟨k + 1, _, by omega, by go_num, rfl, rfl, by omega, by omega, hy, ht, ⟨by repeat (first | (with_reducible first | exact HB.out | apply below_alloc | apply pw_below_drewN | apply below_drew1) | exact HB.out)⟩⟩
      case measure => simp [intOf]; omega

theorem add_any (g : Nat) (l : List S47) (a m : Int) (w : World) (hc : IsCal w g l) :
    Calls Tryd.prog 24 #[.pointer (some ⟨g, 0, none⟩), .int .i64 a, .int .i64 m] w fun e w' => e = .returned (.tuple #[.int .i64 (addN (prs l) a m), .int .i64 (addE (prs l) a m)]) ∧ Below w.heap.size w w' := by
  by_cases h : isT a = false ∨ m < 0 ∨ 10000000 < m ∨ m = 0
  · refine (add_early g l a m w h).mono ?_
    rintro e w' ⟨rfl, rfl⟩
    exact ⟨rfl, Below.refl _ _⟩
  · exact add_late g l a m w hc (by cases h1 : isT a with | true => rfl | false => exact absurd (.inl h1) h) (by omega) (by omega)
end Go.Proofs.YthdkfgpcdghblaaDoor.Cal
