/-
 The parser's sum, comparison, neg and factor come to what the grammar's Lean function says.
-/
import Derived.Test.YtmnbbhieodcoeaaDoorPar1
namespace Go.Proofs.YtmnbbhieodcoeaaDoor.Rt
open Go.RowKit Go.Proofs.YtmnbbhieodcoeaaDoorW.PrintWords Go.Proofs.YtmnbbhieodcoeaaDoorW.PrintLast Go.Proofs.YtmnbbhieodcoeaaDoorW.PrintMore
open Go.Proofs.YtmnbbhieodcoeaaDoor.PBase Go.Proofs.YtmnbbhieodcoeaaDoor.PScn
set_option linter.unusedVariables false
set_option linter.unusedSimpArgs false
set_option maxHeartbeats 1000000 in
set_option maxRecDepth 100000 in
theorem sum_con {k : Nat} (HC : ∀ k', k' ≤ k → Con 99 (pTrm k')) : Con 96 (pSum (k + 1)) := by
 intro w g ls i A c r h hp
 rw [pSum] at hp
 have hg := blk_lt h.blk
 have h1 := h.kp (below_alloc (Below.refl _ w) (.cells #[.int .i64 0, .int .i64 0, .string (⟨#[]⟩ : ByteArray), .slice none 0 0] 24 (0, 0)))
 have hz := blk_new w (.cells #[.int .i64 0, .int .i64 0, .string (⟨#[]⟩ : ByteArray), .slice none 0 0] 24 (0, 0))
 have K0 := Aside0.mk (Kp.of_below g (below_alloc (Below.refl _ w) (.cells #[.int .i64 0, .int .i64 0, .string (⟨#[]⟩ : ByteArray), .slice none 0 0] 24 (0, 0))))
 have HP1 := Aside0.mk h1
 have HZ := Aside0.mk hz
 have sz := size_alloc w (.cells #[.int .i64 0, .int .i64 0, .string (⟨#[]⟩ : ByteArray), .slice none 0 0] 24 (0, 0))
 cases hr : pTrm k ls i with
 | none => rw [hr] at hp; exact absurd hp (by simp [bindR])
 | some r1 =>
 have H1 := Aside0.mk (HC k (Nat.le_refl _) _ _ _ _ _ _ _ h1 hr)
 rw [hr] at hp
 clear h h1 hz hr
 cases r1 with
 | bad er at_ =>
  simp only [bindR, Option.some.injEq] at hp
  subst hp
  go_enter Tryd.func96, Tryd.ntmps96
  go_wp2_with fail
  refine H1.out.mono ?_
  rintro _ w1 ⟨rfl, hk⟩
  have K1 := Aside0.mk hk
  clear hk
  go_wp2_with fail
  exact ⟨rfl, rfl, K0.out.trans K1.out⟩
 | ok x j =>
  replace hp : pSumL k ls j x = some r := hp
  have HL := Aside0.mk hp
  clear hp
  go_enter Tryd.func96, Tryd.ntmps96
  go_wp2_with fail
  refine H1.out.mono ?_
  rintro _ w1 ⟨⟨_, rfl, a3, c3, rfl, l3, f3⟩, hk, hp⟩
  have hRG := hk.size
  rw [sz] at hRG
  have RB := (hk.block w.heap.size (by omega) (by omega)).trans HZ.out
  have B1 := below_alloc (Below.refl _ w1) (.cells #[.int .i64 x.f0, .int .i64 x.f1, .string x.f2, .slice a3 x.f3.length c3] 24 (0, 0))
  have T0 : Aside0 (TL w (w1.alloc (.cells #[.int .i64 x.f0, .int .i64 x.f1, .string x.f2, .slice a3 x.f3.length c3] 24 (0, 0))) g w1.heap.size w.heap.size ls j A c x a3 c3) := ⟨⟨(K0.out.trans hk).then_below B1, hp.kp B1, blk_new w1 _, l3, Kd.F_below (Kd.F_mono (Kd.F_bound f3) (fun k_ hk_ => ⟨by have := hk_.1; rw [sz] at this; omega, by have := hk_.2; omega⟩)) B1, blk_alloc RB _, hg, by omega⟩⟩
  clear hk hp l3 f3 RB B1 hRG
  go_wp2_with fail
  go_loopg [] k (fun kq wr => ∃ (x : S24) (j : Nat) (a3 : Option Addr) (c3 : Nat), Aside0 (pSumL kq ls j x = some r) ∧ Aside0 (kq ≤ k) ∧ Aside0 (TL w wr g w1.heap.size w.heap.size ls j A c x a3 c3))
  case atStart => exact ⟨x, j, a3, c3, HL, ⟨Nat.le_refl _⟩, T0⟩
  case round =>
   clear HL T0
   obtain ⟨x, j, a3, c3, HL, HK, HT⟩ := hrel
   cases gk with
   | zero => exact absurd HL.out (by simp [pSumL])
   | succ kq =>
   have hp := HL.out
   rw [pSumL] at hp
   clear HL
   have HA := Aside0.mk (accept_any HT.out.ps (⟨#[43]⟩ : ByteArray))
   unfold acc at HA
   by_cases hw : isW (pk ls j) bAdd = true
   ·rw [if_pos hw] at hp
    have hw' : isW (pk ls j) (⟨#[43]⟩ : ByteArray) = true := hw
    rw [hw', if_pos rfl] at HA
    clear hw hw'
    cases hr : pTrm kq ls (j + 1) with
    | none => rw [hr] at hp; exact absurd hp (by simp [bindR])
    | some r2 =>
    rw [hr] at hp
    have H2 := Aside0.mk (fun w A c h => HC kq (by have := HK.out; omega) w g ls (j + 1) A c r2 h hr)
    clear hr
    have HPP := Aside0.mk hp
    clear hp
    go_wp2_with fail
    refine HA.out.mono ?_
    rintro _ w2 ⟨rfl, hk2, hp2⟩
    have T2 := Aside0.mk (HT.out.keep hk2 hp2)
    clear hk2 hp2 HT HA
    go_wp2_with fail
    cases r2 with
    | bad er at_ =>
     have hp := HPP.out
     simp only [bindR, Option.some.injEq] at hp
     subst hp
     obtain ⟨q0, q1, q2, q3, f0, f1, f2, f3⟩ := T2.out.es
     refine wp_region_any (by kernel_rfl) ?_
     (try (change wpAny _ _ _ _ _ _ _ (World.drew _)))
     refine wpAny_take (i := 1) (v := .pointer (some ⟨g, 0, none⟩)) rfl (by kernel_rfl) (by kernel_rfl) (by kernel_rfl) (fun _ _ _ h => h) (Or.inl ⟨by rfl, fun w => by go_simp⟩) ?_
     refine wpAny_ready (rs := [0, 2]) (by kernel_rfl) (by simp) ?_
     refine AllReady.cons rfl (fun K hK => ?_) ?_
     ·go_simp
      refine hK _ _ ?_
      clear hK K
      refine wpAny_ready (rs := [2]) (by kernel_rfl) (by simp) ?_
      refine AllReady.cons rfl (fun K hK => ?_) AllReady.nil
      go_simp
      go_wp2_with fail
      refine (H2.out _ A c (by first | exact T2.out.ps | exact T2.out.drew.ps | exact T2.out.drew.drew.ps)).mono ?_
      rintro e W1 ⟨rfl, hk3⟩
      go_wp2_with fail
      exact ⟨rfl, rfl, by first | exact T2.out.kp.trans hk3 | exact T2.out.drew.kp.trans hk3⟩
     ·refine AllReady.cons rfl (fun K hK => ?_) AllReady.nil
      go_simp
      go_wp2_with fail
      refine (H2.out _ A c (by first | exact T2.out.ps | exact T2.out.drew.ps | exact T2.out.drew.drew.ps)).mono ?_
      rintro e W1 ⟨rfl, hk3⟩
      go_wp2_with fail
      exact ⟨rfl, rfl, by first | exact T2.out.kp.trans hk3 | exact T2.out.drew.kp.trans hk3⟩
    | ok y j2 =>
     have hp : pSumL kq ls j2 (two 3 x y) = some r := HPP.out
     have HL2 := Aside0.mk hp
     clear hp HPP
     obtain ⟨q0, q1, q2, q3, f0, f1, f2, f3⟩ := T2.out.es
     refine wp_region_any (by kernel_rfl) ?_
     (try (change wpAny _ _ _ _ _ _ _ (World.drew _)))
     refine wpAny_take (i := 1) (v := .pointer (some ⟨g, 0, none⟩)) rfl (by kernel_rfl) (by kernel_rfl) (by kernel_rfl) (fun _ _ _ h => h) (Or.inl ⟨by rfl, fun w => by go_simp⟩) ?_
     refine wpAny_ready (rs := [0, 2]) (by kernel_rfl) (by simp) ?_
     refine AllReady.cons rfl (fun K hK => ?_) ?_
     ·go_simp
      refine hK _ _ ?_
      clear hK K
      refine wpAny_ready (rs := [2]) (by kernel_rfl) (by simp) ?_
      refine AllReady.cons rfl (fun K hK => ?_) AllReady.nil
      go_simp
      go_wp2_with fail
      refine (H2.out _ A c T2.out.drew.ps).mono ?_
      rintro e W1 ⟨⟨_, rfl, a4, c4, rfl, l4, f4⟩, hk3, hp3⟩
      have T3 := Aside0.mk (T2.out.drew.keep hk3 hp3)
      have Y := Aside0.mk (Kd.F_mono f4 (fun k_ hk_ => tl_new T2.out.drew hk_))
      clear f4 hk3 hp3
      go_wp2_with fail
      refine wpAny_ready (rs := [3]) (by kernel_rfl) (by simp) ?_
      refine AllReady.cons rfl (fun K hK => ?_) AllReady.nil
      go_simp
      go_wp2_with fail
      refine (two_any (ok := fun k_ => w.heap.size < k_ ∧ k_ ≠ w1.heap.size) 3 _ _ x y (ex_mk T3.out.el T3.out.ef) (ex_mk l4 Y.out)).mono ?_
      rintro e W2 ⟨⟨_, rfl, a5, c5, rfl, l5, f5⟩, hb5⟩
      have T4 := Aside0.mk (T3.out.below hb5)
      have Z := Aside0.mk (Kd.F_mono f5 (fun k_ hk_ => tl_new2 T3.out hk_))
      clear f5 hb5
      obtain ⟨p0, p1, p2, p3, g0, g1, g2, g3⟩ := T4.out.es
      go_wp2_with fail
      refine wpAny_ready (rs := [4]) (by kernel_rfl) (by simp) ?_
      refine AllReady.cons rfl (fun K hK => ?_) AllReady.nil
      go_simp
      refine hK _ _ ?_
      clear hK K
      refine wpAny_done (by kernel_rfl) ?_ _
      go_wp2_with fail
      go_roundg kq
      case measure => omega
      case rel => exact ⟨two 3 x y, j2, a5, c5, HL2, ⟨by have := HK.out; omega⟩, ⟨T4.out.store (by have := T4.out.RG; omega) l5 Z.out⟩⟩
     ·refine AllReady.cons rfl (fun K hK => ?_) AllReady.nil
      go_simp
      go_wp2_with fail
      refine (H2.out _ A c T2.out.drew.ps).mono ?_
      rintro e W1 ⟨⟨_, rfl, a4, c4, rfl, l4, f4⟩, hk3, hp3⟩
      have T3 := Aside0.mk (T2.out.drew.keep hk3 hp3)
      have Y := Aside0.mk (Kd.F_mono f4 (fun k_ hk_ => tl_new T2.out.drew hk_))
      clear f4 hk3 hp3
      obtain ⟨s0, s1, s2, s3, t0, t1, t2, t3⟩ := T3.out.es
      go_wp2_with fail
      refine wpAny_ready (rs := [0]) (by kernel_rfl) (by simp) ?_
      refine AllReady.cons rfl (fun K hK => ?_) AllReady.nil
      go_simp
      refine hK _ _ ?_
      clear hK K
      refine wpAny_ready (rs := [3]) (by kernel_rfl) (by simp) ?_
      refine AllReady.cons rfl (fun K hK => ?_) AllReady.nil
      go_simp
      go_wp2_with fail
      refine (two_any (ok := fun k_ => w.heap.size < k_ ∧ k_ ≠ w1.heap.size) 3 _ _ x y (ex_mk T3.out.el T3.out.ef) (ex_mk l4 Y.out)).mono ?_
      rintro e W2 ⟨⟨_, rfl, a5, c5, rfl, l5, f5⟩, hb5⟩
      have T4 := Aside0.mk (T3.out.below hb5)
      have Z := Aside0.mk (Kd.F_mono f5 (fun k_ hk_ => tl_new2 T3.out hk_))
      clear f5 hb5
      obtain ⟨p0, p1, p2, p3, g0, g1, g2, g3⟩ := T4.out.es
      go_wp2_with fail
      refine wpAny_ready (rs := [4]) (by kernel_rfl) (by simp) ?_
      refine AllReady.cons rfl (fun K hK => ?_) AllReady.nil
      go_simp
      refine hK _ _ ?_
      clear hK K
      refine wpAny_done (by kernel_rfl) ?_ _
      go_wp2_with fail
      go_roundg kq
      case measure => omega
      case rel => exact ⟨two 3 x y, j2, a5, c5, HL2, ⟨by have := HK.out; omega⟩, ⟨T4.out.store (by have := T4.out.RG; omega) l5 Z.out⟩⟩
   ·rw [if_neg hw] at hp
    have hw' : isW (pk ls j) (⟨#[43]⟩ : ByteArray) = false := Bool.eq_false_iff.2 hw
    rw [hw', if_neg (by decide)] at HA
    clear hw hw'
    go_wp2_with fail
    refine HA.out.mono ?_
    rintro _ w3 ⟨rfl, hk3, hp3⟩
    have T3 := Aside0.mk (HT.out.keep hk3 hp3)
    clear hk3 hp3 HT HA
    have HA := Aside0.mk (accept_any T3.out.ps (⟨#[45]⟩ : ByteArray))
    unfold acc at HA
    by_cases hw : isW (pk ls j) bSub = true
    ·rw [if_pos hw] at hp
     have hw' : isW (pk ls j) (⟨#[45]⟩ : ByteArray) = true := hw
     rw [hw', if_pos rfl] at HA
     clear hw hw'
     cases hr : pTrm kq ls (j + 1) with
     | none => rw [hr] at hp; exact absurd hp (by simp [bindR])
     | some r2 =>
     rw [hr] at hp
     have H2 := Aside0.mk (fun w A c h => HC kq (by have := HK.out; omega) w g ls (j + 1) A c r2 h hr)
     clear hr
     have HPP := Aside0.mk hp
     clear hp
     go_wp2_with fail
     refine HA.out.mono ?_
     rintro _ w2 ⟨rfl, hk2, hp2⟩
     have T2 := Aside0.mk (T3.out.keep hk2 hp2)
     clear hk2 hp2 T3 HA
     go_wp2_with fail
     cases r2 with
     | bad er at_ =>
      have hp := HPP.out
      simp only [bindR, Option.some.injEq] at hp
      subst hp
      obtain ⟨q0, q1, q2, q3, f0, f1, f2, f3⟩ := T2.out.es
      refine wp_region_any (by kernel_rfl) ?_
      (try (change wpAny _ _ _ _ _ _ _ (World.drew _)))
      refine wpAny_take (i := 1) (v := .pointer (some ⟨g, 0, none⟩)) rfl (by kernel_rfl) (by kernel_rfl) (by kernel_rfl) (fun _ _ _ h => h) (Or.inl ⟨by rfl, fun w => by go_simp⟩) ?_
      refine wpAny_ready (rs := [0, 2]) (by kernel_rfl) (by simp) ?_
      refine AllReady.cons rfl (fun K hK => ?_) ?_
      ·go_simp
       refine hK _ _ ?_
       clear hK K
       refine wpAny_ready (rs := [2]) (by kernel_rfl) (by simp) ?_
       refine AllReady.cons rfl (fun K hK => ?_) AllReady.nil
       go_simp
       go_wp2_with fail
       refine (H2.out _ A c (by first | exact T2.out.ps | exact T2.out.drew.ps | exact T2.out.drew.drew.ps)).mono ?_
       rintro e W1 ⟨rfl, hk3⟩
       go_wp2_with fail
       exact ⟨rfl, rfl, by first | exact T2.out.kp.trans hk3 | exact T2.out.drew.kp.trans hk3⟩
      ·refine AllReady.cons rfl (fun K hK => ?_) AllReady.nil
       go_simp
       go_wp2_with fail
       refine (H2.out _ A c (by first | exact T2.out.ps | exact T2.out.drew.ps | exact T2.out.drew.drew.ps)).mono ?_
       rintro e W1 ⟨rfl, hk3⟩
       go_wp2_with fail
       exact ⟨rfl, rfl, by first | exact T2.out.kp.trans hk3 | exact T2.out.drew.kp.trans hk3⟩
     | ok y j2 =>
      have hp : pSumL kq ls j2 (two 4 x y) = some r := HPP.out
      have HL2 := Aside0.mk hp
      clear hp HPP
      obtain ⟨q0, q1, q2, q3, f0, f1, f2, f3⟩ := T2.out.es
      refine wp_region_any (by kernel_rfl) ?_
      (try (change wpAny _ _ _ _ _ _ _ (World.drew _)))
      refine wpAny_take (i := 1) (v := .pointer (some ⟨g, 0, none⟩)) rfl (by kernel_rfl) (by kernel_rfl) (by kernel_rfl) (fun _ _ _ h => h) (Or.inl ⟨by rfl, fun w => by go_simp⟩) ?_
      refine wpAny_ready (rs := [0, 2]) (by kernel_rfl) (by simp) ?_
      refine AllReady.cons rfl (fun K hK => ?_) ?_
      ·go_simp
       refine hK _ _ ?_
       clear hK K
       refine wpAny_ready (rs := [2]) (by kernel_rfl) (by simp) ?_
       refine AllReady.cons rfl (fun K hK => ?_) AllReady.nil
       go_simp
       go_wp2_with fail
       refine (H2.out _ A c T2.out.drew.ps).mono ?_
       rintro e W1 ⟨⟨_, rfl, a4, c4, rfl, l4, f4⟩, hk3, hp3⟩
       have T3 := Aside0.mk (T2.out.drew.keep hk3 hp3)
       have Y := Aside0.mk (Kd.F_mono f4 (fun k_ hk_ => tl_new T2.out.drew hk_))
       clear f4 hk3 hp3
       go_wp2_with fail
       refine wpAny_ready (rs := [3]) (by kernel_rfl) (by simp) ?_
       refine AllReady.cons rfl (fun K hK => ?_) AllReady.nil
       go_simp
       go_wp2_with fail
       refine (two_any (ok := fun k_ => w.heap.size < k_ ∧ k_ ≠ w1.heap.size) 4 _ _ x y (ex_mk T3.out.el T3.out.ef) (ex_mk l4 Y.out)).mono ?_
       rintro e W2 ⟨⟨_, rfl, a5, c5, rfl, l5, f5⟩, hb5⟩
       have T4 := Aside0.mk (T3.out.below hb5)
       have Z := Aside0.mk (Kd.F_mono f5 (fun k_ hk_ => tl_new2 T3.out hk_))
       clear f5 hb5
       obtain ⟨p0, p1, p2, p3, g0, g1, g2, g3⟩ := T4.out.es
       go_wp2_with fail
       refine wpAny_ready (rs := [4]) (by kernel_rfl) (by simp) ?_
       refine AllReady.cons rfl (fun K hK => ?_) AllReady.nil
       go_simp
       refine hK _ _ ?_
       clear hK K
       refine wpAny_done (by kernel_rfl) ?_ _
       go_wp2_with fail
       go_roundg kq
       case measure => omega
       case rel => exact ⟨two 4 x y, j2, a5, c5, HL2, ⟨by have := HK.out; omega⟩, ⟨T4.out.store (by have := T4.out.RG; omega) l5 Z.out⟩⟩
      ·refine AllReady.cons rfl (fun K hK => ?_) AllReady.nil
       go_simp
       go_wp2_with fail
       refine (H2.out _ A c T2.out.drew.ps).mono ?_
       rintro e W1 ⟨⟨_, rfl, a4, c4, rfl, l4, f4⟩, hk3, hp3⟩
       have T3 := Aside0.mk (T2.out.drew.keep hk3 hp3)
       have Y := Aside0.mk (Kd.F_mono f4 (fun k_ hk_ => tl_new T2.out.drew hk_))
       clear f4 hk3 hp3
       obtain ⟨s0, s1, s2, s3, t0, t1, t2, t3⟩ := T3.out.es
       go_wp2_with fail
       refine wpAny_ready (rs := [0]) (by kernel_rfl) (by simp) ?_
       refine AllReady.cons rfl (fun K hK => ?_) AllReady.nil
       go_simp
       refine hK _ _ ?_
       clear hK K
       refine wpAny_ready (rs := [3]) (by kernel_rfl) (by simp) ?_
       refine AllReady.cons rfl (fun K hK => ?_) AllReady.nil
       go_simp
       go_wp2_with fail
       refine (two_any (ok := fun k_ => w.heap.size < k_ ∧ k_ ≠ w1.heap.size) 4 _ _ x y (ex_mk T3.out.el T3.out.ef) (ex_mk l4 Y.out)).mono ?_
       rintro e W2 ⟨⟨_, rfl, a5, c5, rfl, l5, f5⟩, hb5⟩
       have T4 := Aside0.mk (T3.out.below hb5)
       have Z := Aside0.mk (Kd.F_mono f5 (fun k_ hk_ => tl_new2 T3.out hk_))
       clear f5 hb5
       obtain ⟨p0, p1, p2, p3, g0, g1, g2, g3⟩ := T4.out.es
       go_wp2_with fail
       refine wpAny_ready (rs := [4]) (by kernel_rfl) (by simp) ?_
       refine AllReady.cons rfl (fun K hK => ?_) AllReady.nil
       go_simp
       refine hK _ _ ?_
       clear hK K
       refine wpAny_done (by kernel_rfl) ?_ _
       go_wp2_with fail
       go_roundg kq
       case measure => omega
       case rel => exact ⟨two 4 x y, j2, a5, c5, HL2, ⟨by have := HK.out; omega⟩, ⟨T4.out.store (by have := T4.out.RG; omega) l5 Z.out⟩⟩
    ·rw [if_neg hw] at hp
     have hw' : isW (pk ls j) (⟨#[45]⟩ : ByteArray) = false := Bool.eq_false_iff.2 hw
     rw [hw', if_neg (by decide)] at HA
     clear hw hw'
     cases hp
     go_wp2_with fail
     refine HA.out.mono ?_
     rintro _ w2 ⟨rfl, hk2, hp2⟩
     have T2 := Aside0.mk (T3.out.keep hk2 hp2)
     clear hk2 hp2 T3 HA
     obtain ⟨q0, q1, q2, q3, f0, f1, f2, f3⟩ := T2.out.es
     obtain ⟨p0, p1, p2, p3, g0, g1, g2, g3⟩ := T2.out.rs
     have hRG := T2.out.RG
     go_wp2_with fail
     have hfin := T2.out.ret
     refine bodyPost_ret (results_cell_row rfl _ _ w.heap.size 24 _ (0, 0) _ rfl hfin.2 Tryd.underlying24 rfl (by kernel_rfl)) rfl ?_
     exact hfin.1
theorem ret_any {w W : World} {g : Nat} {ls : List S48} {j : Nat} {A : Option Addr} {c : Nat} {x : S24} {a3 : Option Addr} {c3 : Nat} (hk : Kp w W g) (hp : PS W g ls j A c) (hg : g < w.heap.size)
  (rb : W.heap[w.heap.size]? = some (.cells #[.int .i64 0, .int .i64 0, .string (⟨#[]⟩ : ByteArray), .slice none 0 0] 24 (0, 0))) (hl : x.f3.length ≤ c3) (hf : Kd.F k24 W (fun k => w.heap.size < k) a3 x.f3.length x.f3) :
  PP w g ls A c (.ok x j) (.returned (.agg #[.int .i64 x.f0, .int .i64 x.f1, .string x.f2, .slice a3 x.f3.length c3])) ((((W.setCell ⟨w.heap.size, 0, none⟩ (.int .i64 x.f0)).setCell ⟨w.heap.size, 1, none⟩ (.int .i64 x.f1)).setCell ⟨w.heap.size, 2, none⟩ (.string x.f2)).setCell ⟨w.heap.size, 3, none⟩ (.slice a3 x.f3.length c3)) ∧
  ((((W.setCell ⟨w.heap.size, 0, none⟩ (.int .i64 x.f0)).setCell ⟨w.heap.size, 1, none⟩ (.int .i64 x.f1)).setCell ⟨w.heap.size, 2, none⟩ (.string x.f2)).setCell ⟨w.heap.size, 3, none⟩ (.slice a3 x.f3.length c3)).heap[w.heap.size]? = some (.cells #[.int .i64 x.f0, .int .i64 x.f1, .string x.f2, .slice a3 x.f3.length c3] 24 (0, 0)) := by
 have hn : ∀ k, w.heap.size < k → k ≠ w.heap.size := fun k hk => by omega
 refine ⟨⟨⟨_, rfl, ex_mk hl (Kd.F_mono (Kd.F_far (Kd.F_far (Kd.F_far (Kd.F_far hf hn _) hn _) hn _) hn _) (fun k hk => by omega))⟩, (((hk.put (Nat.le_refl _) _ _).put (Nat.le_refl _) _ _).put (Nat.le_refl _) _ _).put (Nat.le_refl _) _ _, (((hp.put hg _ _).put hg _ _).put hg _ _).put hg _ _⟩, ?_⟩
 exact blk_put (cs := #[.int .i64 x.f0, .int .i64 x.f1, .string x.f2, .slice none 0 0]) (blk_put (cs := #[.int .i64 x.f0, .int .i64 x.f1, .string (⟨#[]⟩ : ByteArray), .slice none 0 0]) (blk_put (cs := #[.int .i64 x.f0, .int .i64 0, .string (⟨#[]⟩ : ByteArray), .slice none 0 0]) (blk_put rb 0 _ rfl) 1 _ rfl) 2 _ rfl) 3 _ rfl
set_option maxHeartbeats 8000000 in
set_option maxRecDepth 100000 in
theorem cmp_con {k : Nat} (HC : Con 96 (pSum k)) : Con 90 (pCmp (k + 1)) := by
 intro w g ls i A c r h hp
 rw [pCmp] at hp
 have hg := blk_lt h.blk
 have h1 := h.kp (below_alloc (Below.refl _ w) (.cells #[.int .i64 0, .int .i64 0, .string (⟨#[]⟩ : ByteArray), .slice none 0 0] 24 (0, 0)))
 have hz := blk_new w (.cells #[.int .i64 0, .int .i64 0, .string (⟨#[]⟩ : ByteArray), .slice none 0 0] 24 (0, 0))
 have K0 := Aside0.mk (Kp.of_below g (below_alloc (Below.refl _ w) (.cells #[.int .i64 0, .int .i64 0, .string (⟨#[]⟩ : ByteArray), .slice none 0 0] 24 (0, 0))))
 have HP1 := Aside0.mk h1
 have HZ := Aside0.mk hz
 have sz := size_alloc w (.cells #[.int .i64 0, .int .i64 0, .string (⟨#[]⟩ : ByteArray), .slice none 0 0] 24 (0, 0))
 cases hr : pSum k ls i with
 | none => rw [hr] at hp; exact absurd hp (by simp [bindR])
 | some r1 =>
 have H1 := Aside0.mk (HC _ _ _ _ _ _ _ h1 hr)
 rw [hr] at hp
 clear h h1 hz hr
 cases r1 with
 | bad er at_ =>
  simp only [bindR, Option.some.injEq] at hp
  subst hp
  go_enter Tryd.func90, Tryd.ntmps90
  go_wp2_with fail
  refine H1.out.mono ?_
  rintro _ w1 ⟨rfl, hk⟩
  have K1 := Aside0.mk hk
  clear hk
  go_wp2_with fail
  exact ⟨rfl, rfl, K0.out.trans K1.out⟩
 | ok x j =>
  simp only [bindR] at hp
  go_enter Tryd.func90, Tryd.ntmps90
  go_wp2_with fail
  refine H1.out.mono ?_
  rintro _ w1 ⟨⟨_, rfl, a3, c3, rfl, l3, f3⟩, hk, hp'⟩
  have hRG := hk.size
  rw [sz] at hRG
  have RB := (hk.block w.heap.size (by omega) (by omega)).trans HZ.out
  have B1 := below_alloc (Below.refl _ w1) (.cells #[.int .i64 x.f0, .int .i64 x.f1, .string x.f2, .slice a3 x.f3.length c3] 24 (0, 0))
  have T0 : Aside0 (TL w (w1.alloc (.cells #[.int .i64 x.f0, .int .i64 x.f1, .string x.f2, .slice a3 x.f3.length c3] 24 (0, 0))) g w1.heap.size w.heap.size ls j A c x a3 c3) := ⟨⟨(K0.out.trans hk).then_below B1, hp'.kp B1, blk_new w1 _, l3, Kd.F_below (Kd.F_mono (Kd.F_bound f3) (fun k_ hk_ => ⟨by have := hk_.1; rw [sz] at this; omega, by have := hk_.2; omega⟩)) B1, blk_alloc RB _, hg, by omega⟩⟩
  clear hk hp' l3 f3 RB B1 hRG
  go_wp2_with fail
  have HA := Aside0.mk (accept_any T0.out.ps (⟨#[61]⟩ : ByteArray))
  unfold acc at HA
  by_cases hw : isW (pk ls j) bEq = true
  ·rw [if_pos hw] at hp
   have hw' : isW (pk ls j) (⟨#[61]⟩ : ByteArray) = true := hw
   rw [hw', if_pos rfl] at HA
   clear hw hw'
   cases hr : pSum k ls (j + 1) with
   | none => rw [hr] at hp; exact absurd hp (by simp [bindR])
   | some r2 =>
   rw [hr] at hp
   have H2 := Aside0.mk (fun w A c h => HC w g ls (j + 1) A c r2 h hr)
   clear hr
   have HPP := Aside0.mk hp
   clear hp
   go_wp2_with fail
   refine HA.out.mono ?_
   rintro _ w2 ⟨rfl, hk2, hp2⟩
   have T2 := Aside0.mk (T0.out.keep hk2 hp2)
   clear hk2 hp2 T0 HA
   go_wp2_with fail
   cases r2 with
   | bad er at_ =>
    have hp := HPP.out
    simp only [bindR, Option.some.injEq] at hp
    subst hp
    obtain ⟨q0, q1, q2, q3, f0, f1, f2, f3⟩ := T2.out.es
    refine wp_region_any (by kernel_rfl) ?_
    (try (change wpAny _ _ _ _ _ _ _ (World.drew _)))
    refine wpAny_take (i := 1) (v := .pointer (some ⟨g, 0, none⟩)) rfl (by kernel_rfl) (by kernel_rfl) (by kernel_rfl) (fun _ _ _ h => h) (Or.inl ⟨by rfl, fun w => by go_simp⟩) ?_
    refine wpAny_ready (rs := [0, 2]) (by kernel_rfl) (by simp) ?_
    refine AllReady.cons rfl (fun K hK => ?_) ?_
    ·go_simp
     refine hK _ _ ?_
     clear hK K
     refine wpAny_ready (rs := [2]) (by kernel_rfl) (by simp) ?_
     refine AllReady.cons rfl (fun K hK => ?_) AllReady.nil
     go_simp
     go_wp2_with fail
     refine (H2.out _ A c T2.out.drew.ps).mono ?_
     rintro e W1 ⟨rfl, hk3⟩
     go_wp2_with fail
     exact ⟨rfl, rfl, T2.out.drew.kp.trans hk3⟩
    ·refine AllReady.cons rfl (fun K hK => ?_) AllReady.nil
     go_simp
     go_wp2_with fail
     refine (H2.out _ A c T2.out.drew.ps).mono ?_
     rintro e W1 ⟨rfl, hk3⟩
     go_wp2_with fail
     exact ⟨rfl, rfl, T2.out.drew.kp.trans hk3⟩
    
   | ok y j2 =>
    have hp := HPP.out
    simp only [bindR, Option.some.injEq] at hp
    subst hp
    obtain ⟨q0, q1, q2, q3, f0, f1, f2, f3⟩ := T2.out.es
    refine wp_region_any (by kernel_rfl) ?_
    (try (change wpAny _ _ _ _ _ _ _ (World.drew _)))
    refine wpAny_take (i := 1) (v := .pointer (some ⟨g, 0, none⟩)) rfl (by kernel_rfl) (by kernel_rfl) (by kernel_rfl) (fun _ _ _ h => h) (Or.inl ⟨by rfl, fun w => by go_simp⟩) ?_
    refine wpAny_ready (rs := [0, 2]) (by kernel_rfl) (by simp) ?_
    refine AllReady.cons rfl (fun K hK => ?_) ?_
    ·go_simp
     refine hK _ _ ?_
     clear hK K
     refine wpAny_ready (rs := [2]) (by kernel_rfl) (by simp) ?_
     refine AllReady.cons rfl (fun K hK => ?_) AllReady.nil
     go_simp
     go_wp2_with fail
     refine (H2.out _ A c T2.out.drew.ps).mono ?_
     rintro e W1 ⟨⟨_, rfl, a4, c4, rfl, l4, f4⟩, hk3, hp3⟩
     have T3 := Aside0.mk (T2.out.drew.keep hk3 hp3)
     have Y := Aside0.mk (Kd.F_mono f4 (fun k_ hk_ => tl_new T2.out.drew hk_))
     clear f4 hk3 hp3
     go_wp2_with fail
     refine wpAny_ready (rs := [3]) (by kernel_rfl) (by simp) ?_
     refine AllReady.cons rfl (fun K hK => ?_) AllReady.nil
     go_simp
     go_wp2_with fail
     refine (two_any (ok := fun k_ => w.heap.size < k_ ∧ k_ ≠ w1.heap.size) 6 _ _ x y (ex_mk T3.out.el T3.out.ef) (ex_mk l4 Y.out)).mono ?_
     rintro e W2 ⟨⟨_, rfl, a5, c5, rfl, l5, f5⟩, hb5⟩
     have T4 := Aside0.mk (T3.out.below hb5)
     have Z := Aside0.mk (Kd.F_mono f5 (fun k_ hk_ => (tl_new2 T3.out hk_).1))
     clear f5 hb5
     obtain ⟨p0, p1, p2, p3, g0, g1, g2, g3⟩ := T4.out.rs
     go_wp2_with fail
     refine wpAny_ready (rs := [4]) (by kernel_rfl) (by simp) ?_
     refine AllReady.cons rfl (fun K hK => ?_) AllReady.nil
     go_simp
     refine hK _ _ ?_
     clear hK K
     refine wpAny_done (by kernel_rfl) ?_ _
     go_wp2_with fail
     have hfin := ret_any T4.out.kp T4.out.ps hg T4.out.rb l5 Z.out
     refine bodyPost_ret (results_cell_row rfl _ _ w.heap.size 24 _ (0, 0) _ rfl hfin.2 Tryd.underlying24 rfl (by kernel_rfl)) rfl ?_
     exact hfin.1
    ·refine AllReady.cons rfl (fun K hK => ?_) AllReady.nil
     go_simp
     go_wp2_with fail
     refine (H2.out _ A c T2.out.drew.ps).mono ?_
     rintro e W1 ⟨⟨_, rfl, a4, c4, rfl, l4, f4⟩, hk3, hp3⟩
     have T3 := Aside0.mk (T2.out.drew.keep hk3 hp3)
     have Y := Aside0.mk (Kd.F_mono f4 (fun k_ hk_ => tl_new T2.out.drew hk_))
     clear f4 hk3 hp3
     obtain ⟨s0, s1, s2, s3, t0, t1, t2, t3⟩ := T3.out.es
     go_wp2_with fail
     refine wpAny_ready (rs := [0]) (by kernel_rfl) (by simp) ?_
     refine AllReady.cons rfl (fun K hK => ?_) AllReady.nil
     go_simp
     refine hK _ _ ?_
     clear hK K
     refine wpAny_ready (rs := [3]) (by kernel_rfl) (by simp) ?_
     refine AllReady.cons rfl (fun K hK => ?_) AllReady.nil
     go_simp
     go_wp2_with fail
     refine (two_any (ok := fun k_ => w.heap.size < k_ ∧ k_ ≠ w1.heap.size) 6 _ _ x y (ex_mk T3.out.el T3.out.ef) (ex_mk l4 Y.out)).mono ?_
     rintro e W2 ⟨⟨_, rfl, a5, c5, rfl, l5, f5⟩, hb5⟩
     have T4 := Aside0.mk (T3.out.below hb5)
     have Z := Aside0.mk (Kd.F_mono f5 (fun k_ hk_ => (tl_new2 T3.out hk_).1))
     clear f5 hb5
     obtain ⟨p0, p1, p2, p3, g0, g1, g2, g3⟩ := T4.out.rs
     go_wp2_with fail
     refine wpAny_ready (rs := [4]) (by kernel_rfl) (by simp) ?_
     refine AllReady.cons rfl (fun K hK => ?_) AllReady.nil
     go_simp
     refine hK _ _ ?_
     clear hK K
     refine wpAny_done (by kernel_rfl) ?_ _
     go_wp2_with fail
     have hfin := ret_any T4.out.kp T4.out.ps hg T4.out.rb l5 Z.out
     refine bodyPost_ret (results_cell_row rfl _ _ w.heap.size 24 _ (0, 0) _ rfl hfin.2 Tryd.underlying24 rfl (by kernel_rfl)) rfl ?_
     exact hfin.1
    
  ·rw [if_neg hw] at hp
   have hw' : isW (pk ls j) (⟨#[61]⟩ : ByteArray) = false := Bool.eq_false_iff.2 hw
   rw [hw', if_neg (by decide)] at HA
   clear hw hw'
   go_wp2_with fail
   refine HA.out.mono ?_
   rintro _ w3 ⟨rfl, hk3, hp3⟩
   have T1 := Aside0.mk (T0.out.keep hk3 hp3)
   clear hk3 hp3 T0 HA
   have HA := Aside0.mk (accept_any T1.out.ps (⟨#[33, 61]⟩ : ByteArray))
   unfold acc at HA
   by_cases hw : isW (pk ls j) bNe = true
   ·rw [if_pos hw] at hp
    have hw' : isW (pk ls j) (⟨#[33, 61]⟩ : ByteArray) = true := hw
    rw [hw', if_pos rfl] at HA
    clear hw hw'
    cases hr : pSum k ls (j + 1) with
    | none => rw [hr] at hp; exact absurd hp (by simp [bindR])
    | some r2 =>
    rw [hr] at hp
    have H2 := Aside0.mk (fun w A c h => HC w g ls (j + 1) A c r2 h hr)
    clear hr
    have HPP := Aside0.mk hp
    clear hp
    go_wp2_with fail
    refine HA.out.mono ?_
    rintro _ w2 ⟨rfl, hk2, hp2⟩
    have T2 := Aside0.mk (T1.out.keep hk2 hp2)
    clear hk2 hp2 T1 HA
    go_wp2_with fail
    cases r2 with
    | bad er at_ =>
     have hp := HPP.out
     simp only [bindR, Option.some.injEq] at hp
     subst hp
     obtain ⟨q0, q1, q2, q3, f0, f1, f2, f3⟩ := T2.out.es
     refine wp_region_any (by kernel_rfl) ?_
     (try (change wpAny _ _ _ _ _ _ _ (World.drew _)))
     refine wpAny_take (i := 1) (v := .pointer (some ⟨g, 0, none⟩)) rfl (by kernel_rfl) (by kernel_rfl) (by kernel_rfl) (fun _ _ _ h => h) (Or.inl ⟨by rfl, fun w => by go_simp⟩) ?_
     refine wpAny_ready (rs := [0, 2]) (by kernel_rfl) (by simp) ?_
     refine AllReady.cons rfl (fun K hK => ?_) ?_
     ·go_simp
      refine hK _ _ ?_
      clear hK K
      refine wpAny_ready (rs := [2]) (by kernel_rfl) (by simp) ?_
      refine AllReady.cons rfl (fun K hK => ?_) AllReady.nil
      go_simp
      go_wp2_with fail
      refine (H2.out _ A c T2.out.drew.ps).mono ?_
      rintro e W1 ⟨rfl, hk3⟩
      go_wp2_with fail
      exact ⟨rfl, rfl, T2.out.drew.kp.trans hk3⟩
     ·refine AllReady.cons rfl (fun K hK => ?_) AllReady.nil
      go_simp
      go_wp2_with fail
      refine (H2.out _ A c T2.out.drew.ps).mono ?_
      rintro e W1 ⟨rfl, hk3⟩
      go_wp2_with fail
      exact ⟨rfl, rfl, T2.out.drew.kp.trans hk3⟩
     
    | ok y j2 =>
     have hp := HPP.out
     simp only [bindR, Option.some.injEq] at hp
     subst hp
     obtain ⟨q0, q1, q2, q3, f0, f1, f2, f3⟩ := T2.out.es
     refine wp_region_any (by kernel_rfl) ?_
     (try (change wpAny _ _ _ _ _ _ _ (World.drew _)))
     refine wpAny_take (i := 1) (v := .pointer (some ⟨g, 0, none⟩)) rfl (by kernel_rfl) (by kernel_rfl) (by kernel_rfl) (fun _ _ _ h => h) (Or.inl ⟨by rfl, fun w => by go_simp⟩) ?_
     refine wpAny_ready (rs := [0, 2]) (by kernel_rfl) (by simp) ?_
     refine AllReady.cons rfl (fun K hK => ?_) ?_
     ·go_simp
      refine hK _ _ ?_
      clear hK K
      refine wpAny_ready (rs := [2]) (by kernel_rfl) (by simp) ?_
      refine AllReady.cons rfl (fun K hK => ?_) AllReady.nil
      go_simp
      go_wp2_with fail
      refine (H2.out _ A c T2.out.drew.ps).mono ?_
      rintro e W1 ⟨⟨_, rfl, a4, c4, rfl, l4, f4⟩, hk3, hp3⟩
      have T3 := Aside0.mk (T2.out.drew.keep hk3 hp3)
      have Y := Aside0.mk (Kd.F_mono f4 (fun k_ hk_ => tl_new T2.out.drew hk_))
      clear f4 hk3 hp3
      go_wp2_with fail
      refine wpAny_ready (rs := [3]) (by kernel_rfl) (by simp) ?_
      refine AllReady.cons rfl (fun K hK => ?_) AllReady.nil
      go_simp
      go_wp2_with fail
      refine (two_any (ok := fun k_ => w.heap.size < k_ ∧ k_ ≠ w1.heap.size) 6 _ _ x y (ex_mk T3.out.el T3.out.ef) (ex_mk l4 Y.out)).mono ?_
      rintro e W2 ⟨⟨_, rfl, a5, c5, rfl, l5, f5⟩, hb5⟩
      have T4 := Aside0.mk (T3.out.below hb5)
      have Z := Aside0.mk (Kd.F_mono f5 (fun k_ hk_ => (tl_new2 T3.out hk_).1))
      clear f5 hb5
      go_wp2_with fail
      refine wpAny_ready (rs := [4]) (by kernel_rfl) (by simp) ?_
      refine AllReady.cons rfl (fun K hK => ?_) AllReady.nil
      go_simp
      go_wp2_with fail
      refine (neg_any (ok := fun k_ => w.heap.size < k_) _ (two 6 x y) (ex_mk l5 Z.out)).mono ?_
      rintro e W3 ⟨⟨_, rfl, a6, c6, rfl, l6, f6⟩, hb6⟩
      have hlt := blk_lt T4.out.rb
      have T5 := Aside0.mk (T4.out.below hb6)
      have Z2 := Aside0.mk (Kd.F_mono f6 (fun k_ hk_ => (by rcases hk_ with h' | h' <;> omega : w.heap.size < k_)))
      clear f6 hb6
      obtain ⟨p0, p1, p2, p3, g0, g1, g2, g3⟩ := T5.out.rs
      go_wp2_with fail
      refine wpAny_ready (rs := [5]) (by kernel_rfl) (by simp) ?_
      refine AllReady.cons rfl (fun K hK => ?_) AllReady.nil
      go_simp
      refine hK _ _ ?_
      clear hK K
      refine wpAny_done (by kernel_rfl) ?_ _
      go_wp2_with fail
      have hfin := ret_any T5.out.kp T5.out.ps hg T5.out.rb l6 Z2.out
      refine bodyPost_ret (results_cell_row rfl _ _ w.heap.size 24 _ (0, 0) _ rfl hfin.2 Tryd.underlying24 rfl (by kernel_rfl)) rfl ?_
      exact hfin.1
     ·refine AllReady.cons rfl (fun K hK => ?_) AllReady.nil
      go_simp
      go_wp2_with fail
      refine (H2.out _ A c T2.out.drew.ps).mono ?_
      rintro e W1 ⟨⟨_, rfl, a4, c4, rfl, l4, f4⟩, hk3, hp3⟩
      have T3 := Aside0.mk (T2.out.drew.keep hk3 hp3)
      have Y := Aside0.mk (Kd.F_mono f4 (fun k_ hk_ => tl_new T2.out.drew hk_))
      clear f4 hk3 hp3
      obtain ⟨s0, s1, s2, s3, t0, t1, t2, t3⟩ := T3.out.es
      go_wp2_with fail
      refine wpAny_ready (rs := [0]) (by kernel_rfl) (by simp) ?_
      refine AllReady.cons rfl (fun K hK => ?_) AllReady.nil
      go_simp
      refine hK _ _ ?_
      clear hK K
      refine wpAny_ready (rs := [3]) (by kernel_rfl) (by simp) ?_
      refine AllReady.cons rfl (fun K hK => ?_) AllReady.nil
      go_simp
      go_wp2_with fail
      refine (two_any (ok := fun k_ => w.heap.size < k_ ∧ k_ ≠ w1.heap.size) 6 _ _ x y (ex_mk T3.out.el T3.out.ef) (ex_mk l4 Y.out)).mono ?_
      rintro e W2 ⟨⟨_, rfl, a5, c5, rfl, l5, f5⟩, hb5⟩
      have T4 := Aside0.mk (T3.out.below hb5)
      have Z := Aside0.mk (Kd.F_mono f5 (fun k_ hk_ => (tl_new2 T3.out hk_).1))
      clear f5 hb5
      go_wp2_with fail
      refine wpAny_ready (rs := [4]) (by kernel_rfl) (by simp) ?_
      refine AllReady.cons rfl (fun K hK => ?_) AllReady.nil
      go_simp
      go_wp2_with fail
      refine (neg_any (ok := fun k_ => w.heap.size < k_) _ (two 6 x y) (ex_mk l5 Z.out)).mono ?_
      rintro e W3 ⟨⟨_, rfl, a6, c6, rfl, l6, f6⟩, hb6⟩
      have hlt := blk_lt T4.out.rb
      have T5 := Aside0.mk (T4.out.below hb6)
      have Z2 := Aside0.mk (Kd.F_mono f6 (fun k_ hk_ => (by rcases hk_ with h' | h' <;> omega : w.heap.size < k_)))
      clear f6 hb6
      obtain ⟨p0, p1, p2, p3, g0, g1, g2, g3⟩ := T5.out.rs
      go_wp2_with fail
      refine wpAny_ready (rs := [5]) (by kernel_rfl) (by simp) ?_
      refine AllReady.cons rfl (fun K hK => ?_) AllReady.nil
      go_simp
      refine hK _ _ ?_
      clear hK K
      refine wpAny_done (by kernel_rfl) ?_ _
      go_wp2_with fail
      have hfin := ret_any T5.out.kp T5.out.ps hg T5.out.rb l6 Z2.out
      refine bodyPost_ret (results_cell_row rfl _ _ w.heap.size 24 _ (0, 0) _ rfl hfin.2 Tryd.underlying24 rfl (by kernel_rfl)) rfl ?_
      exact hfin.1
     
   ·rw [if_neg hw] at hp
    have hw' : isW (pk ls j) (⟨#[33, 61]⟩ : ByteArray) = false := Bool.eq_false_iff.2 hw
    rw [hw', if_neg (by decide)] at HA
    clear hw hw'
    go_wp2_with fail
    refine HA.out.mono ?_
    rintro _ w3 ⟨rfl, hk3, hp3⟩
    have T0 := Aside0.mk (T1.out.keep hk3 hp3)
    clear hk3 hp3 T1 HA
    have HA := Aside0.mk (accept_any T0.out.ps (⟨#[60]⟩ : ByteArray))
    unfold acc at HA
    by_cases hw : isW (pk ls j) bLt = true
    ·rw [if_pos hw] at hp
     have hw' : isW (pk ls j) (⟨#[60]⟩ : ByteArray) = true := hw
     rw [hw', if_pos rfl] at HA
     clear hw hw'
     cases hr : pSum k ls (j + 1) with
     | none => rw [hr] at hp; exact absurd hp (by simp [bindR])
     | some r2 =>
     rw [hr] at hp
     have H2 := Aside0.mk (fun w A c h => HC w g ls (j + 1) A c r2 h hr)
     clear hr
     have HPP := Aside0.mk hp
     clear hp
     go_wp2_with fail
     refine HA.out.mono ?_
     rintro _ w2 ⟨rfl, hk2, hp2⟩
     have T2 := Aside0.mk (T0.out.keep hk2 hp2)
     clear hk2 hp2 T0 HA
     go_wp2_with fail
     cases r2 with
     | bad er at_ =>
      have hp := HPP.out
      simp only [bindR, Option.some.injEq] at hp
      subst hp
      obtain ⟨q0, q1, q2, q3, f0, f1, f2, f3⟩ := T2.out.es
      refine wp_region_any (by kernel_rfl) ?_
      (try (change wpAny _ _ _ _ _ _ _ (World.drew _)))
      refine wpAny_take (i := 1) (v := .pointer (some ⟨g, 0, none⟩)) rfl (by kernel_rfl) (by kernel_rfl) (by kernel_rfl) (fun _ _ _ h => h) (Or.inl ⟨by rfl, fun w => by go_simp⟩) ?_
      refine wpAny_ready (rs := [0, 2]) (by kernel_rfl) (by simp) ?_
      refine AllReady.cons rfl (fun K hK => ?_) ?_
      ·go_simp
       refine hK _ _ ?_
       clear hK K
       refine wpAny_ready (rs := [2]) (by kernel_rfl) (by simp) ?_
       refine AllReady.cons rfl (fun K hK => ?_) AllReady.nil
       go_simp
       go_wp2_with fail
       refine (H2.out _ A c T2.out.drew.ps).mono ?_
       rintro e W1 ⟨rfl, hk3⟩
       go_wp2_with fail
       exact ⟨rfl, rfl, T2.out.drew.kp.trans hk3⟩
      ·refine AllReady.cons rfl (fun K hK => ?_) AllReady.nil
       go_simp
       go_wp2_with fail
       refine (H2.out _ A c T2.out.drew.ps).mono ?_
       rintro e W1 ⟨rfl, hk3⟩
       go_wp2_with fail
       exact ⟨rfl, rfl, T2.out.drew.kp.trans hk3⟩
      
     | ok y j2 =>
      have hp := HPP.out
      simp only [bindR, Option.some.injEq] at hp
      subst hp
      obtain ⟨q0, q1, q2, q3, f0, f1, f2, f3⟩ := T2.out.es
      refine wp_region_any (by kernel_rfl) ?_
      (try (change wpAny _ _ _ _ _ _ _ (World.drew _)))
      refine wpAny_take (i := 1) (v := .pointer (some ⟨g, 0, none⟩)) rfl (by kernel_rfl) (by kernel_rfl) (by kernel_rfl) (fun _ _ _ h => h) (Or.inl ⟨by rfl, fun w => by go_simp⟩) ?_
      refine wpAny_ready (rs := [0, 2]) (by kernel_rfl) (by simp) ?_
      refine AllReady.cons rfl (fun K hK => ?_) ?_
      ·go_simp
       refine hK _ _ ?_
       clear hK K
       refine wpAny_ready (rs := [2]) (by kernel_rfl) (by simp) ?_
       refine AllReady.cons rfl (fun K hK => ?_) AllReady.nil
       go_simp
       go_wp2_with fail
       refine (H2.out _ A c T2.out.drew.ps).mono ?_
       rintro e W1 ⟨⟨_, rfl, a4, c4, rfl, l4, f4⟩, hk3, hp3⟩
       have T3 := Aside0.mk (T2.out.drew.keep hk3 hp3)
       have Y := Aside0.mk (Kd.F_mono f4 (fun k_ hk_ => tl_new T2.out.drew hk_))
       clear f4 hk3 hp3
       go_wp2_with fail
       refine wpAny_ready (rs := [3]) (by kernel_rfl) (by simp) ?_
       refine AllReady.cons rfl (fun K hK => ?_) AllReady.nil
       go_simp
       go_wp2_with fail
       refine (two_any (ok := fun k_ => w.heap.size < k_ ∧ k_ ≠ w1.heap.size) 7 _ _ x y (ex_mk T3.out.el T3.out.ef) (ex_mk l4 Y.out)).mono ?_
       rintro e W2 ⟨⟨_, rfl, a5, c5, rfl, l5, f5⟩, hb5⟩
       have T4 := Aside0.mk (T3.out.below hb5)
       have Z := Aside0.mk (Kd.F_mono f5 (fun k_ hk_ => (tl_new2 T3.out hk_).1))
       clear f5 hb5
       obtain ⟨p0, p1, p2, p3, g0, g1, g2, g3⟩ := T4.out.rs
       go_wp2_with fail
       refine wpAny_ready (rs := [4]) (by kernel_rfl) (by simp) ?_
       refine AllReady.cons rfl (fun K hK => ?_) AllReady.nil
       go_simp
       refine hK _ _ ?_
       clear hK K
       refine wpAny_done (by kernel_rfl) ?_ _
       go_wp2_with fail
       have hfin := ret_any T4.out.kp T4.out.ps hg T4.out.rb l5 Z.out
       refine bodyPost_ret (results_cell_row rfl _ _ w.heap.size 24 _ (0, 0) _ rfl hfin.2 Tryd.underlying24 rfl (by kernel_rfl)) rfl ?_
       exact hfin.1
      ·refine AllReady.cons rfl (fun K hK => ?_) AllReady.nil
       go_simp
       go_wp2_with fail
       refine (H2.out _ A c T2.out.drew.ps).mono ?_
       rintro e W1 ⟨⟨_, rfl, a4, c4, rfl, l4, f4⟩, hk3, hp3⟩
       have T3 := Aside0.mk (T2.out.drew.keep hk3 hp3)
       have Y := Aside0.mk (Kd.F_mono f4 (fun k_ hk_ => tl_new T2.out.drew hk_))
       clear f4 hk3 hp3
       obtain ⟨s0, s1, s2, s3, t0, t1, t2, t3⟩ := T3.out.es
       go_wp2_with fail
       refine wpAny_ready (rs := [0]) (by kernel_rfl) (by simp) ?_
       refine AllReady.cons rfl (fun K hK => ?_) AllReady.nil
       go_simp
       refine hK _ _ ?_
       clear hK K
       refine wpAny_ready (rs := [3]) (by kernel_rfl) (by simp) ?_
       refine AllReady.cons rfl (fun K hK => ?_) AllReady.nil
       go_simp
       go_wp2_with fail
       refine (two_any (ok := fun k_ => w.heap.size < k_ ∧ k_ ≠ w1.heap.size) 7 _ _ x y (ex_mk T3.out.el T3.out.ef) (ex_mk l4 Y.out)).mono ?_
       rintro e W2 ⟨⟨_, rfl, a5, c5, rfl, l5, f5⟩, hb5⟩
       have T4 := Aside0.mk (T3.out.below hb5)
       have Z := Aside0.mk (Kd.F_mono f5 (fun k_ hk_ => (tl_new2 T3.out hk_).1))
       clear f5 hb5
       obtain ⟨p0, p1, p2, p3, g0, g1, g2, g3⟩ := T4.out.rs
       go_wp2_with fail
       refine wpAny_ready (rs := [4]) (by kernel_rfl) (by simp) ?_
       refine AllReady.cons rfl (fun K hK => ?_) AllReady.nil
       go_simp
       refine hK _ _ ?_
       clear hK K
       refine wpAny_done (by kernel_rfl) ?_ _
       go_wp2_with fail
       have hfin := ret_any T4.out.kp T4.out.ps hg T4.out.rb l5 Z.out
       refine bodyPost_ret (results_cell_row rfl _ _ w.heap.size 24 _ (0, 0) _ rfl hfin.2 Tryd.underlying24 rfl (by kernel_rfl)) rfl ?_
       exact hfin.1
      
    ·rw [if_neg hw] at hp
     have hw' : isW (pk ls j) (⟨#[60]⟩ : ByteArray) = false := Bool.eq_false_iff.2 hw
     rw [hw', if_neg (by decide)] at HA
     clear hw hw'
     go_wp2_with fail
     refine HA.out.mono ?_
     rintro _ w3 ⟨rfl, hk3, hp3⟩
     have T1 := Aside0.mk (T0.out.keep hk3 hp3)
     clear hk3 hp3 T0 HA
     have HA := Aside0.mk (accept_any T1.out.ps (⟨#[60, 61]⟩ : ByteArray))
     unfold acc at HA
     by_cases hw : isW (pk ls j) bLe = true
     ·rw [if_pos hw] at hp
      have hw' : isW (pk ls j) (⟨#[60, 61]⟩ : ByteArray) = true := hw
      rw [hw', if_pos rfl] at HA
      clear hw hw'
      cases hr : pSum k ls (j + 1) with
      | none => rw [hr] at hp; exact absurd hp (by simp [bindR])
      | some r2 =>
      rw [hr] at hp
      have H2 := Aside0.mk (fun w A c h => HC w g ls (j + 1) A c r2 h hr)
      clear hr
      have HPP := Aside0.mk hp
      clear hp
      go_wp2_with fail
      refine HA.out.mono ?_
      rintro _ w2 ⟨rfl, hk2, hp2⟩
      have T2 := Aside0.mk (T1.out.keep hk2 hp2)
      clear hk2 hp2 T1 HA
      go_wp2_with fail
      cases r2 with
      | bad er at_ =>
       have hp := HPP.out
       simp only [bindR, Option.some.injEq] at hp
       subst hp
       obtain ⟨q0, q1, q2, q3, f0, f1, f2, f3⟩ := T2.out.es
       refine wp_region_any (by kernel_rfl) ?_
       (try (change wpAny _ _ _ _ _ _ _ (World.drew _)))
       refine wpAny_take (i := 1) (v := .pointer (some ⟨g, 0, none⟩)) rfl (by kernel_rfl) (by kernel_rfl) (by kernel_rfl) (fun _ _ _ h => h) (Or.inl ⟨by rfl, fun w => by go_simp⟩) ?_
       refine wpAny_ready (rs := [0, 2]) (by kernel_rfl) (by simp) ?_
       refine AllReady.cons rfl (fun K hK => ?_) ?_
       ·go_simp
        refine hK _ _ ?_
        clear hK K
        refine wpAny_ready (rs := [2]) (by kernel_rfl) (by simp) ?_
        refine AllReady.cons rfl (fun K hK => ?_) AllReady.nil
        go_simp
        go_wp2_with fail
        refine (H2.out _ A c T2.out.drew.ps).mono ?_
        rintro e W1 ⟨rfl, hk3⟩
        go_wp2_with fail
        exact ⟨rfl, rfl, T2.out.drew.kp.trans hk3⟩
       ·refine AllReady.cons rfl (fun K hK => ?_) AllReady.nil
        go_simp
        go_wp2_with fail
        refine (H2.out _ A c T2.out.drew.ps).mono ?_
        rintro e W1 ⟨rfl, hk3⟩
        go_wp2_with fail
        exact ⟨rfl, rfl, T2.out.drew.kp.trans hk3⟩
       
      | ok y j2 =>
       have hp := HPP.out
       simp only [bindR, Option.some.injEq] at hp
       subst hp
       obtain ⟨q0, q1, q2, q3, f0, f1, f2, f3⟩ := T2.out.es
       refine wp_region_any (by kernel_rfl) ?_
       (try (change wpAny _ _ _ _ _ _ _ (World.drew _)))
       refine wpAny_take (i := 1) (v := .pointer (some ⟨g, 0, none⟩)) rfl (by kernel_rfl) (by kernel_rfl) (by kernel_rfl) (fun _ _ _ h => h) (Or.inl ⟨by rfl, fun w => by go_simp⟩) ?_
       refine wpAny_ready (rs := [0, 2]) (by kernel_rfl) (by simp) ?_
       refine AllReady.cons rfl (fun K hK => ?_) ?_
       ·go_simp
        refine hK _ _ ?_
        clear hK K
        refine wpAny_ready (rs := [2]) (by kernel_rfl) (by simp) ?_
        refine AllReady.cons rfl (fun K hK => ?_) AllReady.nil
        go_simp
        go_wp2_with fail
        refine (H2.out _ A c T2.out.drew.ps).mono ?_
        rintro e W1 ⟨⟨_, rfl, a4, c4, rfl, l4, f4⟩, hk3, hp3⟩
        have T3 := Aside0.mk (T2.out.drew.keep hk3 hp3)
        have Y := Aside0.mk (Kd.F_mono f4 (fun k_ hk_ => tl_new T2.out.drew hk_))
        clear f4 hk3 hp3
        go_wp2_with fail
        refine wpAny_ready (rs := [3]) (by kernel_rfl) (by simp) ?_
        refine AllReady.cons rfl (fun K hK => ?_) AllReady.nil
        go_simp
        go_wp2_with fail
        refine (two_any (ok := fun k_ => w.heap.size < k_ ∧ k_ ≠ w1.heap.size) 8 _ _ x y (ex_mk T3.out.el T3.out.ef) (ex_mk l4 Y.out)).mono ?_
        rintro e W2 ⟨⟨_, rfl, a5, c5, rfl, l5, f5⟩, hb5⟩
        have T4 := Aside0.mk (T3.out.below hb5)
        have Z := Aside0.mk (Kd.F_mono f5 (fun k_ hk_ => (tl_new2 T3.out hk_).1))
        clear f5 hb5
        obtain ⟨p0, p1, p2, p3, g0, g1, g2, g3⟩ := T4.out.rs
        go_wp2_with fail
        refine wpAny_ready (rs := [4]) (by kernel_rfl) (by simp) ?_
        refine AllReady.cons rfl (fun K hK => ?_) AllReady.nil
        go_simp
        refine hK _ _ ?_
        clear hK K
        refine wpAny_done (by kernel_rfl) ?_ _
        go_wp2_with fail
        have hfin := ret_any T4.out.kp T4.out.ps hg T4.out.rb l5 Z.out
        refine bodyPost_ret (results_cell_row rfl _ _ w.heap.size 24 _ (0, 0) _ rfl hfin.2 Tryd.underlying24 rfl (by kernel_rfl)) rfl ?_
        exact hfin.1
       ·refine AllReady.cons rfl (fun K hK => ?_) AllReady.nil
        go_simp
        go_wp2_with fail
        refine (H2.out _ A c T2.out.drew.ps).mono ?_
        rintro e W1 ⟨⟨_, rfl, a4, c4, rfl, l4, f4⟩, hk3, hp3⟩
        have T3 := Aside0.mk (T2.out.drew.keep hk3 hp3)
        have Y := Aside0.mk (Kd.F_mono f4 (fun k_ hk_ => tl_new T2.out.drew hk_))
        clear f4 hk3 hp3
        obtain ⟨s0, s1, s2, s3, t0, t1, t2, t3⟩ := T3.out.es
        go_wp2_with fail
        refine wpAny_ready (rs := [0]) (by kernel_rfl) (by simp) ?_
        refine AllReady.cons rfl (fun K hK => ?_) AllReady.nil
        go_simp
        refine hK _ _ ?_
        clear hK K
        refine wpAny_ready (rs := [3]) (by kernel_rfl) (by simp) ?_
        refine AllReady.cons rfl (fun K hK => ?_) AllReady.nil
        go_simp
        go_wp2_with fail
        refine (two_any (ok := fun k_ => w.heap.size < k_ ∧ k_ ≠ w1.heap.size) 8 _ _ x y (ex_mk T3.out.el T3.out.ef) (ex_mk l4 Y.out)).mono ?_
        rintro e W2 ⟨⟨_, rfl, a5, c5, rfl, l5, f5⟩, hb5⟩
        have T4 := Aside0.mk (T3.out.below hb5)
        have Z := Aside0.mk (Kd.F_mono f5 (fun k_ hk_ => (tl_new2 T3.out hk_).1))
        clear f5 hb5
        obtain ⟨p0, p1, p2, p3, g0, g1, g2, g3⟩ := T4.out.rs
        go_wp2_with fail
        refine wpAny_ready (rs := [4]) (by kernel_rfl) (by simp) ?_
        refine AllReady.cons rfl (fun K hK => ?_) AllReady.nil
        go_simp
        refine hK _ _ ?_
        clear hK K
        refine wpAny_done (by kernel_rfl) ?_ _
        go_wp2_with fail
        have hfin := ret_any T4.out.kp T4.out.ps hg T4.out.rb l5 Z.out
        refine bodyPost_ret (results_cell_row rfl _ _ w.heap.size 24 _ (0, 0) _ rfl hfin.2 Tryd.underlying24 rfl (by kernel_rfl)) rfl ?_
        exact hfin.1
       
     ·rw [if_neg hw] at hp
      have hw' : isW (pk ls j) (⟨#[60, 61]⟩ : ByteArray) = false := Bool.eq_false_iff.2 hw
      rw [hw', if_neg (by decide)] at HA
      clear hw hw'
      go_wp2_with fail
      refine HA.out.mono ?_
      rintro _ w3 ⟨rfl, hk3, hp3⟩
      have T0 := Aside0.mk (T1.out.keep hk3 hp3)
      clear hk3 hp3 T1 HA
      have HA := Aside0.mk (accept_any T0.out.ps (⟨#[62]⟩ : ByteArray))
      unfold acc at HA
      by_cases hw : isW (pk ls j) bGt = true
      ·rw [if_pos hw] at hp
       have hw' : isW (pk ls j) (⟨#[62]⟩ : ByteArray) = true := hw
       rw [hw', if_pos rfl] at HA
       clear hw hw'
       cases hr : pSum k ls (j + 1) with
       | none => rw [hr] at hp; exact absurd hp (by simp [bindR])
       | some r2 =>
       rw [hr] at hp
       have H2 := Aside0.mk (fun w A c h => HC w g ls (j + 1) A c r2 h hr)
       clear hr
       have HPP := Aside0.mk hp
       clear hp
       go_wp2_with fail
       refine HA.out.mono ?_
       rintro _ w2 ⟨rfl, hk2, hp2⟩
       have T2 := Aside0.mk (T0.out.keep hk2 hp2)
       clear hk2 hp2 T0 HA
       go_wp2_with fail
       cases r2 with
       | bad er at_ =>
        have hp := HPP.out
        simp only [bindR, Option.some.injEq] at hp
        subst hp
        obtain ⟨q0, q1, q2, q3, f0, f1, f2, f3⟩ := T2.out.es
        refine wp_region_any (by kernel_rfl) ?_
        (try (change wpAny _ _ _ _ _ _ _ (World.drew _)))
        refine wpAny_take (i := 0) (v := .pointer (some ⟨g, 0, none⟩)) rfl (by kernel_rfl) (by kernel_rfl) (by kernel_rfl) (fun _ _ _ h => h) (Or.inl ⟨by rfl, fun w => by go_simp⟩) ?_
        refine wpAny_ready (rs := [1, 2]) (by kernel_rfl) (by simp) ?_
        refine AllReady.cons rfl (fun K hK => ?_) ?_
        ·go_simp
         go_wp2_with fail
         refine (H2.out _ A c T2.out.drew.ps).mono ?_
         rintro e W1 ⟨rfl, hk3⟩
         go_wp2_with fail
         exact ⟨rfl, rfl, T2.out.drew.kp.trans hk3⟩
        ·refine AllReady.cons rfl (fun K hK => ?_) AllReady.nil
         go_simp
         refine hK _ _ ?_
         clear hK K
         refine wpAny_ready (rs := [1]) (by kernel_rfl) (by simp) ?_
         refine AllReady.cons rfl (fun K hK => ?_) AllReady.nil
         go_simp
         go_wp2_with fail
         refine (H2.out _ A c T2.out.drew.ps).mono ?_
         rintro e W1 ⟨rfl, hk3⟩
         go_wp2_with fail
         exact ⟨rfl, rfl, T2.out.drew.kp.trans hk3⟩
        
       | ok y j2 =>
        have hp := HPP.out
        simp only [bindR, Option.some.injEq] at hp
        subst hp
        obtain ⟨q0, q1, q2, q3, f0, f1, f2, f3⟩ := T2.out.es
        refine wp_region_any (by kernel_rfl) ?_
        (try (change wpAny _ _ _ _ _ _ _ (World.drew _)))
        refine wpAny_take (i := 0) (v := .pointer (some ⟨g, 0, none⟩)) rfl (by kernel_rfl) (by kernel_rfl) (by kernel_rfl) (fun _ _ _ h => h) (Or.inl ⟨by rfl, fun w => by go_simp⟩) ?_
        refine wpAny_ready (rs := [1, 2]) (by kernel_rfl) (by simp) ?_
        refine AllReady.cons rfl (fun K hK => ?_) ?_
        ·go_simp
         go_wp2_with fail
         refine (H2.out _ A c T2.out.drew.ps).mono ?_
         rintro e W1 ⟨⟨_, rfl, a4, c4, rfl, l4, f4⟩, hk3, hp3⟩
         have T3 := Aside0.mk (T2.out.drew.keep hk3 hp3)
         have Y := Aside0.mk (Kd.F_mono f4 (fun k_ hk_ => tl_new T2.out.drew hk_))
         clear f4 hk3 hp3
         obtain ⟨s0, s1, s2, s3, t0, t1, t2, t3⟩ := T3.out.es
         go_wp2_with fail
         refine wpAny_ready (rs := [2]) (by kernel_rfl) (by simp) ?_
         refine AllReady.cons rfl (fun K hK => ?_) AllReady.nil
         go_simp
         refine hK _ _ ?_
         clear hK K
         refine wpAny_ready (rs := [3]) (by kernel_rfl) (by simp) ?_
         refine AllReady.cons rfl (fun K hK => ?_) AllReady.nil
         go_simp
         go_wp2_with fail
         refine (two_any (ok := fun k_ => w.heap.size < k_ ∧ k_ ≠ w1.heap.size) 7 _ _ y x (ex_mk l4 Y.out) (ex_mk T3.out.el T3.out.ef)).mono ?_
         rintro e W2 ⟨⟨_, rfl, a5, c5, rfl, l5, f5⟩, hb5⟩
         have T4 := Aside0.mk (T3.out.below hb5)
         have Z := Aside0.mk (Kd.F_mono f5 (fun k_ hk_ => (tl_new2 T3.out hk_).1))
         clear f5 hb5
         obtain ⟨p0, p1, p2, p3, g0, g1, g2, g3⟩ := T4.out.rs
         go_wp2_with fail
         refine wpAny_ready (rs := [4]) (by kernel_rfl) (by simp) ?_
         refine AllReady.cons rfl (fun K hK => ?_) AllReady.nil
         go_simp
         refine hK _ _ ?_
         clear hK K
         refine wpAny_done (by kernel_rfl) ?_ _
         go_wp2_with fail
         have hfin := ret_any T4.out.kp T4.out.ps hg T4.out.rb l5 Z.out
         refine bodyPost_ret (results_cell_row rfl _ _ w.heap.size 24 _ (0, 0) _ rfl hfin.2 Tryd.underlying24 rfl (by kernel_rfl)) rfl ?_
         exact hfin.1
        ·refine AllReady.cons rfl (fun K hK => ?_) AllReady.nil
         go_simp
         refine hK _ _ ?_
         clear hK K
         refine wpAny_ready (rs := [1]) (by kernel_rfl) (by simp) ?_
         refine AllReady.cons rfl (fun K hK => ?_) AllReady.nil
         go_simp
         go_wp2_with fail
         refine (H2.out _ A c T2.out.drew.ps).mono ?_
         rintro e W1 ⟨⟨_, rfl, a4, c4, rfl, l4, f4⟩, hk3, hp3⟩
         have T3 := Aside0.mk (T2.out.drew.keep hk3 hp3)
         have Y := Aside0.mk (Kd.F_mono f4 (fun k_ hk_ => tl_new T2.out.drew hk_))
         clear f4 hk3 hp3
         go_wp2_with fail
         refine wpAny_ready (rs := [3]) (by kernel_rfl) (by simp) ?_
         refine AllReady.cons rfl (fun K hK => ?_) AllReady.nil
         go_simp
         go_wp2_with fail
         refine (two_any (ok := fun k_ => w.heap.size < k_ ∧ k_ ≠ w1.heap.size) 7 _ _ y x (ex_mk l4 Y.out) (ex_mk T3.out.el T3.out.ef)).mono ?_
         rintro e W2 ⟨⟨_, rfl, a5, c5, rfl, l5, f5⟩, hb5⟩
         have T4 := Aside0.mk (T3.out.below hb5)
         have Z := Aside0.mk (Kd.F_mono f5 (fun k_ hk_ => (tl_new2 T3.out hk_).1))
         clear f5 hb5
         obtain ⟨p0, p1, p2, p3, g0, g1, g2, g3⟩ := T4.out.rs
         go_wp2_with fail
         refine wpAny_ready (rs := [4]) (by kernel_rfl) (by simp) ?_
         refine AllReady.cons rfl (fun K hK => ?_) AllReady.nil
         go_simp
         refine hK _ _ ?_
         clear hK K
         refine wpAny_done (by kernel_rfl) ?_ _
         go_wp2_with fail
         have hfin := ret_any T4.out.kp T4.out.ps hg T4.out.rb l5 Z.out
         refine bodyPost_ret (results_cell_row rfl _ _ w.heap.size 24 _ (0, 0) _ rfl hfin.2 Tryd.underlying24 rfl (by kernel_rfl)) rfl ?_
         exact hfin.1
        
      ·rw [if_neg hw] at hp
       have hw' : isW (pk ls j) (⟨#[62]⟩ : ByteArray) = false := Bool.eq_false_iff.2 hw
       rw [hw', if_neg (by decide)] at HA
       clear hw hw'
       go_wp2_with fail
       refine HA.out.mono ?_
       rintro _ w3 ⟨rfl, hk3, hp3⟩
       have T1 := Aside0.mk (T0.out.keep hk3 hp3)
       clear hk3 hp3 T0 HA
       have HA := Aside0.mk (accept_any T1.out.ps (⟨#[62, 61]⟩ : ByteArray))
       unfold acc at HA
       by_cases hw : isW (pk ls j) bGe = true
       ·rw [if_pos hw] at hp
        have hw' : isW (pk ls j) (⟨#[62, 61]⟩ : ByteArray) = true := hw
        rw [hw', if_pos rfl] at HA
        clear hw hw'
        cases hr : pSum k ls (j + 1) with
        | none => rw [hr] at hp; exact absurd hp (by simp [bindR])
        | some r2 =>
        rw [hr] at hp
        have H2 := Aside0.mk (fun w A c h => HC w g ls (j + 1) A c r2 h hr)
        clear hr
        have HPP := Aside0.mk hp
        clear hp
        go_wp2_with fail
        refine HA.out.mono ?_
        rintro _ w2 ⟨rfl, hk2, hp2⟩
        have T2 := Aside0.mk (T1.out.keep hk2 hp2)
        clear hk2 hp2 T1 HA
        go_wp2_with fail
        cases r2 with
        | bad er at_ =>
         have hp := HPP.out
         simp only [bindR, Option.some.injEq] at hp
         subst hp
         obtain ⟨q0, q1, q2, q3, f0, f1, f2, f3⟩ := T2.out.es
         refine wp_region_any (by kernel_rfl) ?_
         (try (change wpAny _ _ _ _ _ _ _ (World.drew _)))
         refine wpAny_take (i := 0) (v := .pointer (some ⟨g, 0, none⟩)) rfl (by kernel_rfl) (by kernel_rfl) (by kernel_rfl) (fun _ _ _ h => h) (Or.inl ⟨by rfl, fun w => by go_simp⟩) ?_
         refine wpAny_ready (rs := [1, 2]) (by kernel_rfl) (by simp) ?_
         refine AllReady.cons rfl (fun K hK => ?_) ?_
         ·go_simp
          go_wp2_with fail
          refine (H2.out _ A c T2.out.drew.ps).mono ?_
          rintro e W1 ⟨rfl, hk3⟩
          go_wp2_with fail
          exact ⟨rfl, rfl, T2.out.drew.kp.trans hk3⟩
         ·refine AllReady.cons rfl (fun K hK => ?_) AllReady.nil
          go_simp
          refine hK _ _ ?_
          clear hK K
          refine wpAny_ready (rs := [1]) (by kernel_rfl) (by simp) ?_
          refine AllReady.cons rfl (fun K hK => ?_) AllReady.nil
          go_simp
          go_wp2_with fail
          refine (H2.out _ A c T2.out.drew.ps).mono ?_
          rintro e W1 ⟨rfl, hk3⟩
          go_wp2_with fail
          exact ⟨rfl, rfl, T2.out.drew.kp.trans hk3⟩
         
        | ok y j2 =>
         have hp := HPP.out
         simp only [bindR, Option.some.injEq] at hp
         subst hp
         obtain ⟨q0, q1, q2, q3, f0, f1, f2, f3⟩ := T2.out.es
         refine wp_region_any (by kernel_rfl) ?_
         (try (change wpAny _ _ _ _ _ _ _ (World.drew _)))
         refine wpAny_take (i := 0) (v := .pointer (some ⟨g, 0, none⟩)) rfl (by kernel_rfl) (by kernel_rfl) (by kernel_rfl) (fun _ _ _ h => h) (Or.inl ⟨by rfl, fun w => by go_simp⟩) ?_
         refine wpAny_ready (rs := [1, 2]) (by kernel_rfl) (by simp) ?_
         refine AllReady.cons rfl (fun K hK => ?_) ?_
         ·go_simp
          go_wp2_with fail
          refine (H2.out _ A c T2.out.drew.ps).mono ?_
          rintro e W1 ⟨⟨_, rfl, a4, c4, rfl, l4, f4⟩, hk3, hp3⟩
          have T3 := Aside0.mk (T2.out.drew.keep hk3 hp3)
          have Y := Aside0.mk (Kd.F_mono f4 (fun k_ hk_ => tl_new T2.out.drew hk_))
          clear f4 hk3 hp3
          obtain ⟨s0, s1, s2, s3, t0, t1, t2, t3⟩ := T3.out.es
          go_wp2_with fail
          refine wpAny_ready (rs := [2]) (by kernel_rfl) (by simp) ?_
          refine AllReady.cons rfl (fun K hK => ?_) AllReady.nil
          go_simp
          refine hK _ _ ?_
          clear hK K
          refine wpAny_ready (rs := [3]) (by kernel_rfl) (by simp) ?_
          refine AllReady.cons rfl (fun K hK => ?_) AllReady.nil
          go_simp
          go_wp2_with fail
          refine (two_any (ok := fun k_ => w.heap.size < k_ ∧ k_ ≠ w1.heap.size) 8 _ _ y x (ex_mk l4 Y.out) (ex_mk T3.out.el T3.out.ef)).mono ?_
          rintro e W2 ⟨⟨_, rfl, a5, c5, rfl, l5, f5⟩, hb5⟩
          have T4 := Aside0.mk (T3.out.below hb5)
          have Z := Aside0.mk (Kd.F_mono f5 (fun k_ hk_ => (tl_new2 T3.out hk_).1))
          clear f5 hb5
          obtain ⟨p0, p1, p2, p3, g0, g1, g2, g3⟩ := T4.out.rs
          go_wp2_with fail
          refine wpAny_ready (rs := [4]) (by kernel_rfl) (by simp) ?_
          refine AllReady.cons rfl (fun K hK => ?_) AllReady.nil
          go_simp
          refine hK _ _ ?_
          clear hK K
          refine wpAny_done (by kernel_rfl) ?_ _
          go_wp2_with fail
          have hfin := ret_any T4.out.kp T4.out.ps hg T4.out.rb l5 Z.out
          refine bodyPost_ret (results_cell_row rfl _ _ w.heap.size 24 _ (0, 0) _ rfl hfin.2 Tryd.underlying24 rfl (by kernel_rfl)) rfl ?_
          exact hfin.1
         ·refine AllReady.cons rfl (fun K hK => ?_) AllReady.nil
          go_simp
          refine hK _ _ ?_
          clear hK K
          refine wpAny_ready (rs := [1]) (by kernel_rfl) (by simp) ?_
          refine AllReady.cons rfl (fun K hK => ?_) AllReady.nil
          go_simp
          go_wp2_with fail
          refine (H2.out _ A c T2.out.drew.ps).mono ?_
          rintro e W1 ⟨⟨_, rfl, a4, c4, rfl, l4, f4⟩, hk3, hp3⟩
          have T3 := Aside0.mk (T2.out.drew.keep hk3 hp3)
          have Y := Aside0.mk (Kd.F_mono f4 (fun k_ hk_ => tl_new T2.out.drew hk_))
          clear f4 hk3 hp3
          go_wp2_with fail
          refine wpAny_ready (rs := [3]) (by kernel_rfl) (by simp) ?_
          refine AllReady.cons rfl (fun K hK => ?_) AllReady.nil
          go_simp
          go_wp2_with fail
          refine (two_any (ok := fun k_ => w.heap.size < k_ ∧ k_ ≠ w1.heap.size) 8 _ _ y x (ex_mk l4 Y.out) (ex_mk T3.out.el T3.out.ef)).mono ?_
          rintro e W2 ⟨⟨_, rfl, a5, c5, rfl, l5, f5⟩, hb5⟩
          have T4 := Aside0.mk (T3.out.below hb5)
          have Z := Aside0.mk (Kd.F_mono f5 (fun k_ hk_ => (tl_new2 T3.out hk_).1))
          clear f5 hb5
          obtain ⟨p0, p1, p2, p3, g0, g1, g2, g3⟩ := T4.out.rs
          go_wp2_with fail
          refine wpAny_ready (rs := [4]) (by kernel_rfl) (by simp) ?_
          refine AllReady.cons rfl (fun K hK => ?_) AllReady.nil
          go_simp
          refine hK _ _ ?_
          clear hK K
          refine wpAny_done (by kernel_rfl) ?_ _
          go_wp2_with fail
          have hfin := ret_any T4.out.kp T4.out.ps hg T4.out.rb l5 Z.out
          refine bodyPost_ret (results_cell_row rfl _ _ w.heap.size 24 _ (0, 0) _ rfl hfin.2 Tryd.underlying24 rfl (by kernel_rfl)) rfl ?_
          exact hfin.1
         
       ·rw [if_neg hw] at hp
        have hw' : isW (pk ls j) (⟨#[62, 61]⟩ : ByteArray) = false := Bool.eq_false_iff.2 hw
        rw [hw', if_neg (by decide)] at HA
        clear hw hw'
        go_wp2_with fail
        refine HA.out.mono ?_
        rintro _ w3 ⟨rfl, hk3, hp3⟩
        have T0 := Aside0.mk (T1.out.keep hk3 hp3)
        clear hk3 hp3 T1 HA
        cases hp
        obtain ⟨q0, q1, q2, q3, f0, f1, f2, f3⟩ := T0.out.es
        obtain ⟨p0, p1, p2, p3, g0, g1, g2, g3⟩ := T0.out.rs
        have hRG := T0.out.RG
        go_wp2_with fail
        have hfin := T0.out.ret
        refine bodyPost_ret (results_cell_row rfl _ _ w.heap.size 24 _ (0, 0) _ rfl hfin.2 Tryd.underlying24 rfl (by kernel_rfl)) rfl ?_
        exact hfin.1
set_option maxHeartbeats 1000000 in
set_option maxRecDepth 100000 in
theorem neg_con {k : Nat} (HC : Con 90 (pCmp k)) (HN : Con 83 (pNeg k)) : Con 83 (pNeg (k + 1)) := by
 intro w g ls i A c r h hp
 rw [pNeg] at hp
 have hg := blk_lt h.blk
 have h1 := h.kp (below_alloc (Below.refl _ w) (.cells #[.int .i64 0, .int .i64 0, .string (⟨#[]⟩ : ByteArray), .slice none 0 0] 24 (0, 0)))
 have hz := blk_new w (.cells #[.int .i64 0, .int .i64 0, .string (⟨#[]⟩ : ByteArray), .slice none 0 0] 24 (0, 0))
 have K0 := Aside0.mk (Kp.of_below g (below_alloc (Below.refl _ w) (.cells #[.int .i64 0, .int .i64 0, .string (⟨#[]⟩ : ByteArray), .slice none 0 0] 24 (0, 0))))
 have HZ := Aside0.mk hz
 have sz := size_alloc w (.cells #[.int .i64 0, .int .i64 0, .string (⟨#[]⟩ : ByteArray), .slice none 0 0] 24 (0, 0))
 have HA := Aside0.mk (accept_any h1 (⟨#[110, 111, 116]⟩ : ByteArray))
 unfold acc at HA
 clear h h1 hz
 by_cases hw : isW (pk ls i) bNot = true
 ·rw [if_pos hw] at hp
  have hw' : isW (pk ls i) (⟨#[110, 111, 116]⟩ : ByteArray) = true := hw
  rw [hw', if_pos rfl] at HA
  clear hw hw'
  cases hr : pNeg k ls (i + 1) with
  | none => rw [hr] at hp; exact absurd hp (by simp [bindR])
  | some r2 =>
  rw [hr] at hp
  have H2 := Aside0.mk (fun w A c h => HN w g ls (i + 1) A c r2 h hr)
  clear hr
  have HPP := Aside0.mk hp
  clear hp
  go_enter Tryd.func83, Tryd.ntmps83
  go_wp2_with fail
  refine HA.out.mono ?_
  rintro _ w2 ⟨rfl, hk2, hp2⟩
  have K2 := Aside0.mk (K0.out.trans hk2)
  have P2 := Aside0.mk hp2
  have RB := Aside0.mk ((hk2.block w.heap.size (by omega) (by omega)).trans HZ.out)
  have sz2 := hk2.size
  clear hk2 hp2
  go_wp2_with fail
  refine (H2.out _ A c P2.out).mono ?_
  cases r2 with
  | bad er at_ =>
   have hp := HPP.out
   simp only [bindR, Option.some.injEq] at hp
   subst hp
   rintro _ w3 ⟨rfl, hk3⟩
   have K3 := Aside0.mk (K2.out.trans hk3)
   clear hk3
   go_wp2_with fail
   exact ⟨rfl, rfl, K3.out⟩
  | ok x j =>
   have hp := HPP.out
   simp only [bindR, Option.some.injEq] at hp
   subst hp
   rintro _ w3 ⟨⟨_, rfl, a4, c4, rfl, l4, f4⟩, hk3, hp3⟩
   have K3 := Aside0.mk (K2.out.trans hk3)
   have P3 := Aside0.mk hp3
   have RB3 := Aside0.mk ((hk3.block w.heap.size (blk_lt RB.out) (by omega)).trans RB.out)
   have Y := Aside0.mk f4
   clear hk3 hp3 f4 RB
   go_wp2_with fail
   refine (neg_any _ x (ex_mk l4 Y.out)).mono ?_
   rintro e w4 ⟨⟨_, rfl, a5, c5, rfl, l5, f5⟩, hb5⟩
   have K4 := Aside0.mk (K3.out.then_below hb5)
   have P4 := Aside0.mk (P3.out.kp hb5)
   have s3 := (blk_lt RB3.out)
   have RB := Aside0.mk (blk_below RB3.out hb5)
   have F5 := Aside0.mk (Kd.F_mono f5 (fun k_ hk_ => (by rcases hk_ with h' | h' <;> omega : w.heap.size < k_)))
   clear hb5 f5 K3 P3 RB3
   have zq0 : World.cell? _ ⟨w.heap.size, 0, none⟩ = some (.int .i64 0) := (blk_cell RB.out 0).trans rfl
   have zf0 := blk_frozen RB.out 0
   have zq1 : World.cell? _ ⟨w.heap.size, 1, none⟩ = some (.int .i64 0) := (blk_cell RB.out 1).trans rfl
   have zf1 := blk_frozen RB.out 1
   have zq2 : World.cell? _ ⟨w.heap.size, 2, none⟩ = some (.string (⟨#[]⟩ : ByteArray)) := (blk_cell RB.out 2).trans rfl
   have zf2 := blk_frozen RB.out 2
   have zq3 : World.cell? _ ⟨w.heap.size, 3, none⟩ = some (.slice none 0 0) := (blk_cell RB.out 3).trans rfl
   have zf3 := blk_frozen RB.out 3
   go_wp2_with fail
   have hfin := ret_any K4.out P4.out hg RB.out l5 F5.out
   refine bodyPost_ret (results_cell_row rfl _ _ w.heap.size 24 _ (0, 0) _ rfl hfin.2 Tryd.underlying24 rfl (by kernel_rfl)) rfl ?_
   exact hfin.1
 ·rw [if_neg hw] at hp
  have hw' : isW (pk ls i) (⟨#[110, 111, 116]⟩ : ByteArray) = false := Bool.eq_false_iff.2 hw
  rw [hw', if_neg (by decide)] at HA
  clear hw hw'
  have H2 := Aside0.mk (fun w A c h => HC w g ls i A c r h hp)
  clear hp
  go_enter Tryd.func83, Tryd.ntmps83
  go_wp2_with fail
  refine HA.out.mono ?_
  rintro _ w2 ⟨rfl, hk2, hp2⟩
  have K2 := Aside0.mk (K0.out.trans hk2)
  have P2 := Aside0.mk hp2
  have RB := Aside0.mk ((hk2.block w.heap.size (by omega) (by omega)).trans HZ.out)
  have sz2 := hk2.size
  clear hk2 hp2
  go_wp2_with fail
  refine (H2.out _ A c P2.out).mono ?_
  cases r with
  | bad er at_ =>
   rintro _ w3 ⟨rfl, hk3⟩
   have K3 := Aside0.mk (K2.out.trans hk3)
   clear hk3
   go_wp2_with fail
   exact ⟨rfl, rfl, K3.out⟩
  | ok x j =>
   rintro _ w3 ⟨⟨_, rfl, a4, c4, rfl, l4, f4⟩, hk3, hp3⟩
   have K3 := Aside0.mk (K2.out.trans hk3)
   have P3 := Aside0.mk hp3
   have s3 := blk_lt RB.out
   have RB3 := Aside0.mk ((hk3.block w.heap.size (blk_lt RB.out) (by omega)).trans RB.out)
   have Y := Aside0.mk (Kd.F_mono f4 (fun k_ hk_ => (by omega : w.heap.size < k_)))
   clear hk3 hp3 f4 RB
   have zq0 : World.cell? _ ⟨w.heap.size, 0, none⟩ = some (.int .i64 0) := (blk_cell RB3.out 0).trans rfl
   have zf0 := blk_frozen RB3.out 0
   have zq1 : World.cell? _ ⟨w.heap.size, 1, none⟩ = some (.int .i64 0) := (blk_cell RB3.out 1).trans rfl
   have zf1 := blk_frozen RB3.out 1
   have zq2 : World.cell? _ ⟨w.heap.size, 2, none⟩ = some (.string (⟨#[]⟩ : ByteArray)) := (blk_cell RB3.out 2).trans rfl
   have zf2 := blk_frozen RB3.out 2
   have zq3 : World.cell? _ ⟨w.heap.size, 3, none⟩ = some (.slice none 0 0) := (blk_cell RB3.out 3).trans rfl
   have zf3 := blk_frozen RB3.out 3
   go_wp2_with fail
   have hfin := ret_any K3.out P3.out hg RB3.out l4 Y.out
   refine bodyPost_ret (results_cell_row rfl _ _ w.heap.size 24 _ (0, 0) _ rfl hfin.2 Tryd.underlying24 rfl (by kernel_rfl)) rfl ?_
   exact hfin.1
end Go.Proofs.YtmnbbhieodcoeaaDoor.Rt
