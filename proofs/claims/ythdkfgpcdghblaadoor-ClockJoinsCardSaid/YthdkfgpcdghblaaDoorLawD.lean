/-
  The law ClockJoins: the call returns true, and of what was there nothing turns. Condition: the library's table of powers of ten holds what it holds at the start.
-/
import Derived.Test.YthdkfgpcdghblaaDoorLawC
namespace Go.Proofs.YthdkfgpcdghblaaDoor.Cal
open Go.RowKit Go.Proofs.YthdkfgpcdghblaaDoorW.PrintWords Go.Proofs.YthdkfgpcdghblaaDoorW.PrintLast Go.Proofs.YthdkfgpcdghblaaDoorW.PrintMore
open Go.Proofs.YthdkfgpcdghblaaDoor.PAll Go.Proofs.YthdkfgpcdghblaaDoor.CMath
set_option linter.unusedVariables false
set_option linter.unusedSimpArgs false
section
variable {A : Option Addr} {c : Nat} {l : List S47} {w : World}
theorem ltime_same (a : Int) (r : Bool) (h : isT a = r) (w : World) : Calls Tryd.prog 30 #[.int .i64 a] w fun e w' => e = .returned (.bool r) ∧ w' = w := by
  cases r with
  | true =>
    have hb := (isT_iff a).mp h
    have h0 := hb.1
    have h1 := hb.2
    clear hb h
    go_enter Tryd.func30, Tryd.ntmps30
    go_wp2
    go_ret
    exact ⟨rfl, rfl⟩
  | false =>
    by_cases h0 : 0 ≤ a
    · have h1 : ¬ a ≤ 10000000 := fun h1 => by rw [(isT_iff a).mpr ⟨h0, h1⟩] at h; cases h
      clear h
      go_enter Tryd.func30, Tryd.ntmps30
      go_wp2
      go_ret
      exact ⟨rfl, rfl⟩
    · clear h
      go_enter Tryd.func30, Tryd.ntmps30
      go_wp2
      go_ret
      exact ⟨rfl, rfl⟩
theorem work_week (hv : Val 0 (prs l)) (x : Int) (h0 : 0 ≤ x) (h1 : x ≤ 9989920) : workS (prs l) x (x + 10080) = tot (prs l) := by
  unfold workS
  rw [if_pos ⟨(isT_iff x).mpr (by omega), (isT_iff _).mpr (by omega), by omega⟩, pas_week]
  omega
theorem open_week (x : Int) (h0 : 0 ≤ x) (h1 : x ≤ 9989920) : openS (prs l) (x + 10080) = openS (prs l) x := by
  unfold openS
  rw [if_pos ((isT_iff x).mpr (by omega)), if_pos ((isT_iff (x + 10080)).mpr (by omega))]
  rw [show (x + 10080) % 10080 = x % 10080 by omega]
theorem work_joins (x y z : Int) (hx : isT x = true) (hz : isT z = true) (h1 : x ≤ y) (h2 : y ≤ z) : workS (prs l) x y + workS (prs l) y z = workS (prs l) x z := by
  have bx := (isT_iff x).mp hx
  have bz := (isT_iff z).mp hz
  have hy : isT y = true := (isT_iff y).mpr (by omega)
  unfold workS
  rw [if_pos ⟨hx, hy, h1⟩, if_pos ⟨hy, hz, h2⟩, if_pos ⟨hx, hz, by omega⟩]
  omega

theorem work_small (hv : Val 0 (prs l)) (x y : Int) : 0 ≤ workS (prs l) x y ∧ workS (prs l) x y ≤ 20010080 := by
  unfold workS
  by_cases h : isT x = true ∧ isT y = true ∧ x ≤ y
  · rw [if_pos h]
    have bx := (isT_iff x).mp h.1
    have b := (isT_iff y).mp h.2.1
    have := pas_le (prs l) hv h.2.2
    have := pas_bd (prs l) hv x bx.1 (by omega)
    have := pas_bd (prs l) hv y b.1 (by omega)
    omega
  · rw [if_neg h]
    omega
/-- What holds through the law behind the calendar's making. -/
structure JI (w0 W : World) (b : Nat) (l : List S47) (x y z : Int) (q : Nat) : Prop where
  below : Below w0.heap.size w0 W
  cal : IsCal W b l
  x0 : W.cell? ⟨q, 0, none⟩ = some (.int .i64 x)
  x1 : W.cell? ⟨q, 1, none⟩ = some (.int .i64 y)
  x2 : W.cell? ⟨q, 2, none⟩ = some (.int .i64 z)
theorem JI.step {w0 W W' : World} {b : Nat} {l : List S47} {x y z : Int} {q : Nat} (h : JI w0 W b l x y z q) (hb : Below W.heap.size W W') : JI w0 W' b l x y z q :=
  ⟨below_step h.below hb, h.cal.below hb, (hb.cell (World.block_lt_of_cell? W _ h.x0)).trans h.x0, (hb.cell (World.block_lt_of_cell? W _ h.x1)).trans h.x1, (hb.cell (World.block_lt_of_cell? W _ h.x2)).trans h.x2⟩

theorem JI.drewN {w0 W : World} {b : Nat} {l : List S47} {x y z : Int} {q : Nat} (h : JI w0 W b l x y z q) (n : Nat) : JI w0 (W.drewN n) b l x y z q := h.step (pw_below_drewN (Below.refl _ _) n)
theorem JI.s {w0 W : World} {b : Nat} {l : List S47} {x y z : Int} {q : Nat} (h : JI w0 W b l x y z q) :
    W.cell? ⟨q, 0, none⟩ = some (.int .i64 x) ∧ W.cell? ⟨q, 1, none⟩ = some (.int .i64 y) ∧ W.cell? ⟨q, 2, none⟩ = some (.int .i64 z) ∧ JI w0 W b l x y z q := ⟨h.x0, h.x1, h.x2, h⟩
theorem JI.o {w0 W : World} {b : Nat} {l : List S47} {x y z : Int} {q : Nat} (h : W.cell? ⟨q, 0, none⟩ = some (.int .i64 x) ∧ W.cell? ⟨q, 1, none⟩ = some (.int .i64 y) ∧ W.cell? ⟨q, 2, none⟩ = some (.int .i64 z) ∧ JI w0 W b l x y z q) : JI w0 W b l x y z q := h.2.2.2
set_option maxHeartbeats 8000000 in
theorem law_joins (hT : Tab w) (hr : Kd.C k47 w A l.length l) (hc : l.length ≤ c) (x y z : Int) : Calls Tryd.prog 8 #[.slice A l.length c, .agg #[.int .i64 x, .int .i64 y, .int .i64 z]] w (AllTrue w) := by
  have HT := Aside0.mk hT
  have HR := Aside0.mk hr
  have HC := Aside0.mk hc
  clear hT hr hc
  by_cases hz : newE (prs l) = 0
  rotate_left
  · have HZ := Aside0.mk hz
    clear hz
    have B0 := Aside0.mk ((Below.refl w.heap.size w).alloc (Nat.le_refl _) (.cells #[.int .i64 x, .int .i64 y, .int .i64 z] 45))
    go_enter Tryd.func8, Tryd.ntmps8
    go_wp2_with fail
    refine (made_not HZ.out (C_down HR.out B0.out) HC.out).mono ?_
    rintro e w1 ⟨p, rfl, hb⟩
    have B1 := Aside0.mk (below_step B0.out hb)
    clear hb
    go_wp2_with fail
    refine (awake_any _ (tab_below HT.out B1.out)).mono ?_
    rintro e w2 ⟨rfl, hb⟩
    have B2 := Aside0.mk (below_step B1.out hb)
    clear hb
    go_wp2_with fail
    go_ret
    exact ⟨rfl, B2.out⟩
  have HZ := Aside0.mk hz
  have hfew := newE_few hz
  have HTot : Aside0 (0 + tot (prs (l.drop 0)) = tot (prs l)) := ⟨by rw [Int.zero_add]; rfl⟩
  clear hz
  go_enter Tryd.func8, Tryd.ntmps8
  go_wp2_with fail
  have B0 := Aside0.mk ((Below.refl w.heap.size w).alloc (Nat.le_refl _) (.cells #[.int .i64 x, .int .i64 y, .int .i64 z] 45))
  have X0 := Aside0.mk (show (w.alloc (.cells #[.int .i64 x, .int .i64 y, .int .i64 z] 45)).cell? ⟨w.heap.size, 0, none⟩ = some (.int .i64 x) by go_simp)
  have X1 := Aside0.mk (show (w.alloc (.cells #[.int .i64 x, .int .i64 y, .int .i64 z] 45)).cell? ⟨w.heap.size, 1, none⟩ = some (.int .i64 y) by go_simp)
  have X2 := Aside0.mk (show (w.alloc (.cells #[.int .i64 x, .int .i64 y, .int .i64 z] 45)).cell? ⟨w.heap.size, 2, none⟩ = some (.int .i64 z) by go_simp)
  refine (made_ok HZ.out (C_down HR.out B0.out) HC.out).mono ?_
  rintro e w1 ⟨b, rfl, hcal, hb⟩
  obtain ⟨q, hq⟩ : ∃ q, w.heap.size = q := ⟨_, rfl⟩
  have J1 : Aside0 (JI w w1 b l x y z q) := ⟨by
    rw [← hq]
    exact ⟨below_step B0.out hb, hcal, (hb.cell (World.block_lt_of_cell? _ _ X0.out)).trans X0.out, (hb.cell (World.block_lt_of_cell? _ _ X1.out)).trans X1.out, (hb.cell (World.block_lt_of_cell? _ _ X2.out)).trans X2.out⟩⟩
  rw [hq]
  have HQ := Aside0.mk hq
  clear hb hcal X0 X1 X2 B0 hq
  go_wp2_with fail
  go_loopw [7, 8] (fun sm i wr => ∃ (k : Nat) (v : Int), k ≤ l.length ∧ i = .int .i64 k ∧ sm = .int .i64 v ∧ 0 ≤ v ∧ v ≤ (k : Int) * 10080 ∧ Aside0 (v + tot (prs (l.drop k)) = tot (prs l)) ∧ Aside0 (JI w wr b l x y z q)) (fun _ i _ => l.length - (intOf i).toNat)
  case atStart => exact ⟨0, 0, Nat.zero_le _, rfl, rfl, by omega, by omega, HTot, J1⟩
  case round =>
    obtain ⟨k, v, hk, rfl, rfl, hv0, hv1, HV, HJ⟩ := hrel
    clear J1
    by_cases hlt : k < l.length
    · obtain ⟨ad, e, hx0, hx1⟩ := at_T47 HR.out k (by omega) (by omega)
      cases e
      rw [Int.toNat_natCast] at hx0 hx1
      replace hx0 := (HJ.out.below.cell (World.block_lt_of_cell? w _ hx0)).trans hx0
      replace hx1 := (HJ.out.below.cell (World.block_lt_of_cell? w _ hx1)).trans hx1
      have hb := val_at l (newE_valid HZ.out) k hlt
      have hb0 := hb.1
      have hb1 := hb.2.1
      have hb2 := hb.2.2
      have hs := Aside0.mk (show v + (rd_T47 l k).f1 - (rd_T47 l k).f0 + tot (prs (l.drop (k + 1))) = tot (prs l) by have := HV.out; rw [tot_head l k hlt] at this; omega)
      have s1 : v + (rd_T47 l k).f1 ≤ 1000000 := by omega
      clear hb
      go_wp2_with fail
      go_region
      go_wp2_with fail
      go_roundw
      case rel => exact ⟨k + 1, _, by omega, by go_num, rfl, by omega, by push_cast; omega, hs, ⟨HJ.out.step (by repeat (first | exact Below.refl _ _ | apply pw_below_drewN | apply below_drew1))⟩⟩
      case measure => simp [intOf]; omega
    · have hvt : v = tot (prs l) := by have := HV.out; rw [prs_drop_end l k (by omega)] at this; have e : tot [] = 0 := rfl; omega
      have HVT := Aside0.mk hvt
      clear hvt
      go_wp2_with fail
      by_cases ha : isT x = true
      · have HA := Aside0.mk ha
        have hx0 := ((isT_iff x).mp ha).1
        by_cases hx9 : x ≤ 9989920
        · have HW := Aside0.mk (work_week (newE_valid HZ.out) x hx0 hx9)
          rw [← HVT.out] at HW
          obtain ⟨r, hr1⟩ : ∃ r, openS (prs l) x = r := ⟨_, rfl⟩
          have HO1 := Aside0.mk hr1
          have HO2 := Aside0.mk ((open_week (l := l) x hx0 hx9).trans hr1)
          clear hr1
          clear ha
          have hw := IntWalk.i64_in (x + 10080) (by omega)
          go_region_held3 (fun W => W.cell? ⟨q, 0, none⟩ = some (.int .i64 x) ∧ W.cell? ⟨q, 1, none⟩ = some (.int .i64 y) ∧ W.cell? ⟨q, 2, none⟩ = some (.int .i64 z) ∧ JI w W b l x y z q)
            (first | assumption | exact hJ.s | exact (HJ.out.step (by repeat (first | exact Below.refl _ _ | apply pw_below_drewN | apply below_drew1))).s)
            (first | (go_at_call 30; have hI := JI.o (by assumption); (with_reducible refine (ltime_at x true HA.out).mono ?_); rintro e W ⟨rfl, hb⟩; have hJ := JI.step hI hb) | (go_at_call 22; have hI := JI.o (by assumption); (with_reducible refine (work_at b x (x + 10080) v (JI.cal hI) HW.out).mono ?_); rintro e W ⟨rfl, hb⟩; have hJ := JI.step hI hb) | (go_at_call 20; have hI := JI.o (by assumption); (first | (with_reducible refine (open_at b x r (JI.cal hI) HO1.out).mono ?_) | (with_reducible refine (open_at b (x + 10080) r (JI.cal hI) HO2.out).mono ?_)); rintro e W ⟨rfl, rfl⟩; have hJ := hI))
          clear hw
          go_wp2_with fail
          have hI := JI.o (by assumption)
          have J1 := Aside0.mk hI
          clear hI
          (with_reducible refine (ltime_at x true HA.out).mono ?_)
          rintro e W2 ⟨rfl, hb⟩
          have J2 : Aside0 (JI w W2 b l x y z q) := ⟨by first | exact J1.out.step hb | exact (JI.drewN J1.out _).step hb⟩
          clear hb
          by_cases hz : isT z = true
          rotate_left
          · have HZ2 := Aside0.mk (Bool.eq_false_iff.mpr hz)
            clear hz
            have c0 := J2.out.x0
            have c1 := J2.out.x1
            have c2 := J2.out.x2
            go_wp2_with fail
            (with_reducible refine (ltime_at z false HZ2.out).mono ?_)
            rintro e W3 ⟨rfl, hb⟩
            have J3 : Aside0 (JI w W3 b l x y z q) := ⟨by first | exact J2.out.step hb | exact (JI.drewN J2.out _).step hb⟩
            clear hb
            have x3_0 := J3.out.x0
            have x3_1 := J3.out.x1
            have x3_2 := J3.out.x2
            go_wp2_with fail
            refine (awake_any _ (tab_below HT.out J3.out.below)).mono ?_
            rintro e W9 ⟨rfl, hb⟩
            have BE := Aside0.mk (below_step J3.out.below hb)
            clear hb
            go_wp2_with fail
            go_ret
            exact ⟨rfl, BE.out⟩
          have HZ2 := Aside0.mk hz
          clear hz
          have c0 := J2.out.x0
          have c1 := J2.out.x1
          have c2 := J2.out.x2
          by_cases hxy : y < x
          · go_wp2_with fail
            (with_reducible refine (ltime_at z true HZ2.out).mono ?_)
            rintro e W3 ⟨rfl, hb⟩
            have J3 : Aside0 (JI w W3 b l x y z q) := ⟨by first | exact J2.out.step hb | exact (JI.drewN J2.out _).step hb⟩
            clear hb
            have x3_0 := J3.out.x0
            have x3_1 := J3.out.x1
            have x3_2 := J3.out.x2
            go_wp2_with fail
            refine (awake_any _ (tab_below HT.out J3.out.below)).mono ?_
            rintro e W9 ⟨rfl, hb⟩
            have BE := Aside0.mk (below_step J3.out.below hb)
            clear hb
            go_wp2_with fail
            go_ret
            exact ⟨rfl, BE.out⟩
          by_cases hyz : z < y
          · go_wp2_with fail
            (with_reducible refine (ltime_at z true HZ2.out).mono ?_)
            rintro e W3 ⟨rfl, hb⟩
            have J3 : Aside0 (JI w W3 b l x y z q) := ⟨by first | exact J2.out.step hb | exact (JI.drewN J2.out _).step hb⟩
            clear hb
            have x3_0 := J3.out.x0
            have x3_1 := J3.out.x1
            have x3_2 := J3.out.x2
            go_wp2_with fail
            refine (awake_any _ (tab_below HT.out J3.out.below)).mono ?_
            rintro e W9 ⟨rfl, hb⟩
            have BE := Aside0.mk (below_step J3.out.below hb)
            clear hb
            go_wp2_with fail
            go_ret
            exact ⟨rfl, BE.out⟩
          have hj0 := work_joins (l := l) x y z HA.out HZ2.out (by omega) (by omega)
          obtain ⟨f, hf⟩ : ∃ f, workS (prs l) x y = f := ⟨_, rfl⟩
          obtain ⟨g, hg⟩ : ∃ g, workS (prs l) y z = g := ⟨_, rfl⟩
          rw [hf, hg] at hj0
          have fb := work_small (newE_valid HZ.out) x y
          have gb := work_small (newE_valid HZ.out) y z
          rw [hf] at fb
          rw [hg] at gb
          have fb0 := fb.1
          have fb1 := fb.2
          have gb0 := gb.1
          have gb1 := gb.2
          have F := Aside0.mk hf
          have G := Aside0.mk hg
          have H := Aside0.mk hj0.symm
          clear hf hg hj0 fb gb
          go_wp2_with fail
          (with_reducible refine (ltime_at z true HZ2.out).mono ?_)
          rintro e W3 ⟨rfl, hb⟩
          have J3 : Aside0 (JI w W3 b l x y z q) := ⟨by first | exact J2.out.step hb | exact (JI.drewN J2.out _).step hb⟩
          clear hb
          have hw := IntWalk.i64_in (f + g) (by omega)
          have c0' := J3.out.x0
          have c1' := J3.out.x1
          have c2' := J3.out.x2
          clear c0 c1 c2
          go_wp2_with fail
          go_region_held3 (fun W => W.cell? ⟨q, 0, none⟩ = some (.int .i64 x) ∧ W.cell? ⟨q, 1, none⟩ = some (.int .i64 y) ∧ W.cell? ⟨q, 2, none⟩ = some (.int .i64 z) ∧ JI w W b l x y z q) (first | assumption | exact hJ.s | exact (J3.out.step (by repeat (first | exact Below.refl _ _ | apply pw_below_drewN | apply below_drew1))).s) (first | (go_at_call 22; have hI := JI.o (by assumption); (first | (with_reducible refine (work_at b x y f (JI.cal hI) F.out).mono ?_) | (with_reducible refine (work_at b y z g (JI.cal hI) G.out).mono ?_) | (with_reducible refine (work_at b x z (f + g) (JI.cal hI) H.out).mono ?_)); rintro e W ⟨rfl, hb⟩; have hJ := JI.step hI hb) | (go_at_call 14; have hI := JI.o (by assumption); refine (awake_any _ (tab_below HT.out hI.below)).mono ?_; rintro e W ⟨rfl, hb⟩; have hJ := JI.step hI hb))
          have hI := JI.o (by assumption)
          have J4 := Aside0.mk hI
          clear hI hw
          go_wp2_with fail
          go_ret
          exact ⟨rfl, J4.out.below⟩
        · have hx9' : 9989920 < x := by omega
          have hd9 : decide (x ≤ 9989920) = false := by simp; omega
          clear ha hx9
          have QT := Aside0.mk (fun W => ltime_same x true HA.out W)
          have c0 := HJ.out.x0
          go_quiet ((go_at_call 30; exact Calls.quiet_of_same (QT.out _)))
          go_wp2_with fail
          have J1 : Aside0 (JI w wr b l x y z q) := HJ
          (with_reducible refine (ltime_at x true HA.out).mono ?_)
          rintro e W2 ⟨rfl, hb⟩
          have J2 : Aside0 (JI w W2 b l x y z q) := ⟨by first | exact J1.out.step hb | exact (JI.drewN J1.out _).step hb⟩
          clear hb
          by_cases hz : isT z = true
          rotate_left
          · have HZ2 := Aside0.mk (Bool.eq_false_iff.mpr hz)
            clear hz
            have c0 := J2.out.x0
            have c1 := J2.out.x1
            have c2 := J2.out.x2
            go_wp2_with fail
            (with_reducible refine (ltime_at z false HZ2.out).mono ?_)
            rintro e W3 ⟨rfl, hb⟩
            have J3 : Aside0 (JI w W3 b l x y z q) := ⟨by first | exact J2.out.step hb | exact (JI.drewN J2.out _).step hb⟩
            clear hb
            have x3_0 := J3.out.x0
            have x3_1 := J3.out.x1
            have x3_2 := J3.out.x2
            go_wp2_with fail
            refine (awake_any _ (tab_below HT.out J3.out.below)).mono ?_
            rintro e W9 ⟨rfl, hb⟩
            have BE := Aside0.mk (below_step J3.out.below hb)
            clear hb
            go_wp2_with fail
            go_ret
            exact ⟨rfl, BE.out⟩
          have HZ2 := Aside0.mk hz
          clear hz
          have c0 := J2.out.x0
          have c1 := J2.out.x1
          have c2 := J2.out.x2
          by_cases hxy : y < x
          · go_wp2_with fail
            (with_reducible refine (ltime_at z true HZ2.out).mono ?_)
            rintro e W3 ⟨rfl, hb⟩
            have J3 : Aside0 (JI w W3 b l x y z q) := ⟨by first | exact J2.out.step hb | exact (JI.drewN J2.out _).step hb⟩
            clear hb
            have x3_0 := J3.out.x0
            have x3_1 := J3.out.x1
            have x3_2 := J3.out.x2
            go_wp2_with fail
            refine (awake_any _ (tab_below HT.out J3.out.below)).mono ?_
            rintro e W9 ⟨rfl, hb⟩
            have BE := Aside0.mk (below_step J3.out.below hb)
            clear hb
            go_wp2_with fail
            go_ret
            exact ⟨rfl, BE.out⟩
          by_cases hyz : z < y
          · go_wp2_with fail
            (with_reducible refine (ltime_at z true HZ2.out).mono ?_)
            rintro e W3 ⟨rfl, hb⟩
            have J3 : Aside0 (JI w W3 b l x y z q) := ⟨by first | exact J2.out.step hb | exact (JI.drewN J2.out _).step hb⟩
            clear hb
            have x3_0 := J3.out.x0
            have x3_1 := J3.out.x1
            have x3_2 := J3.out.x2
            go_wp2_with fail
            refine (awake_any _ (tab_below HT.out J3.out.below)).mono ?_
            rintro e W9 ⟨rfl, hb⟩
            have BE := Aside0.mk (below_step J3.out.below hb)
            clear hb
            go_wp2_with fail
            go_ret
            exact ⟨rfl, BE.out⟩
          have hj0 := work_joins (l := l) x y z HA.out HZ2.out (by omega) (by omega)
          obtain ⟨f, hf⟩ : ∃ f, workS (prs l) x y = f := ⟨_, rfl⟩
          obtain ⟨g, hg⟩ : ∃ g, workS (prs l) y z = g := ⟨_, rfl⟩
          rw [hf, hg] at hj0
          have fb := work_small (newE_valid HZ.out) x y
          have gb := work_small (newE_valid HZ.out) y z
          rw [hf] at fb
          rw [hg] at gb
          have fb0 := fb.1
          have fb1 := fb.2
          have gb0 := gb.1
          have gb1 := gb.2
          have F := Aside0.mk hf
          have G := Aside0.mk hg
          have H := Aside0.mk hj0.symm
          clear hf hg hj0 fb gb
          go_wp2_with fail
          (with_reducible refine (ltime_at z true HZ2.out).mono ?_)
          rintro e W3 ⟨rfl, hb⟩
          have J3 : Aside0 (JI w W3 b l x y z q) := ⟨by first | exact J2.out.step hb | exact (JI.drewN J2.out _).step hb⟩
          clear hb
          have hw := IntWalk.i64_in (f + g) (by omega)
          have c0' := J3.out.x0
          have c1' := J3.out.x1
          have c2' := J3.out.x2
          clear c0 c1 c2
          go_wp2_with fail
          go_region_held3 (fun W => W.cell? ⟨q, 0, none⟩ = some (.int .i64 x) ∧ W.cell? ⟨q, 1, none⟩ = some (.int .i64 y) ∧ W.cell? ⟨q, 2, none⟩ = some (.int .i64 z) ∧ JI w W b l x y z q) (first | assumption | exact hJ.s | exact (J3.out.step (by repeat (first | exact Below.refl _ _ | apply pw_below_drewN | apply below_drew1))).s) (first | (go_at_call 22; have hI := JI.o (by assumption); (first | (with_reducible refine (work_at b x y f (JI.cal hI) F.out).mono ?_) | (with_reducible refine (work_at b y z g (JI.cal hI) G.out).mono ?_) | (with_reducible refine (work_at b x z (f + g) (JI.cal hI) H.out).mono ?_)); rintro e W ⟨rfl, hb⟩; have hJ := JI.step hI hb) | (go_at_call 14; have hI := JI.o (by assumption); refine (awake_any _ (tab_below HT.out hI.below)).mono ?_; rintro e W ⟨rfl, hb⟩; have hJ := JI.step hI hb))
          have hI := JI.o (by assumption)
          have J4 := Aside0.mk hI
          clear hI hw
          go_wp2_with fail
          go_ret
          exact ⟨rfl, J4.out.below⟩
      · have HA := Aside0.mk (Bool.eq_false_iff.mpr ha)
        clear ha
        have QT := Aside0.mk (fun W => ltime_same x false HA.out W)
        have c0 := HJ.out.x0
        go_quiet ((go_at_call 30; exact Calls.quiet_of_same (QT.out _)))
        have J1 : Aside0 (JI w wr b l x y z q) := HJ
        go_wp2_with fail
        (with_reducible refine (ltime_at x false HA.out).mono ?_)
        rintro e W2 ⟨rfl, hb⟩
        have J2 : Aside0 (JI w W2 b l x y z q) := ⟨by first | exact J1.out.step hb | exact (JI.drewN J1.out _).step hb⟩
        clear hb
        have x2_0 := J2.out.x0
        have x2_1 := J2.out.x1
        have x2_2 := J2.out.x2
        go_wp2_with fail
        refine (awake_any _ (tab_below HT.out J2.out.below)).mono ?_
        rintro e W9 ⟨rfl, hb⟩
        have BE := Aside0.mk (below_step J2.out.below hb)
        clear hb
        go_wp2_with fail
        go_ret
        exact ⟨rfl, BE.out⟩
end
end Go.Proofs.YthdkfgpcdghblaaDoor.Cal
