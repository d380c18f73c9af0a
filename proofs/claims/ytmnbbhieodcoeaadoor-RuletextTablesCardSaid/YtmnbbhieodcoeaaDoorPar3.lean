/-
 The parser's factor comes to what the grammar's Lean function says.
-/
import Derived.Test.YtmnbbhieodcoeaaDoorPar2
namespace Go.Proofs.YtmnbbhieodcoeaaDoor.Rt
open Go.RowKit Go.Proofs.YtmnbbhieodcoeaaDoorW.PrintWords Go.Proofs.YtmnbbhieodcoeaaDoorW.PrintLast Go.Proofs.YtmnbbhieodcoeaaDoorW.PrintMore
open Go.Proofs.YtmnbbhieodcoeaaDoor.PBase Go.Proofs.YtmnbbhieodcoeaaDoor.PScn
set_option linter.unusedVariables false
set_option linter.unusedSimpArgs false
structure FL (w W : World) (g X : Nat) (ls : List S48) (j : Nat) (A : Option Addr) (c : Nat) (x : S48) : Prop where
 kp : Kp w W g
 ps : PS W g ls j A c
 xb : W.heap[X]? = some (.cells #[.int .i64 x.f0, .string x.f1, .int .i64 x.f2, .int .i64 x.f3] 48 (0, 0))
 rb : W.heap[w.heap.size]? = some (.cells #[.int .i64 0, .int .i64 0, .string (⟨#[]⟩ : ByteArray), .slice none 0 0] 24 (0, 0))
 gR : g < w.heap.size
 RX : w.heap.size < X
section
variable {w W W' : World} {g X : Nat} {ls : List S48} {j j' : Nat} {A : Option Addr} {c : Nat} {x : S48}
theorem FL.keep (h : FL w W g X ls j A c x) (hk : Kp W W' g) (hp : PS W' g ls j' A c) : FL w W' g X ls j' A c x := by
 have h1 := h.gR
 have h2 := h.RX
 exact ⟨h.kp.trans hk, hp, (hk.block X (blk_lt h.xb) (by omega)).trans h.xb, (hk.block w.heap.size (blk_lt h.rb) (by omega)).trans h.rb, h1, h2⟩
theorem FL.below (h : FL w W g X ls j A c x) (hb : Below W.heap.size W W') : FL w W' g X ls j A c x := h.keep (Kp.of_below g hb) (h.ps.kp hb)
theorem FL.xs (h : FL w W g X ls j A c x) : W.cell? ⟨X, 0, none⟩ = some (.int .i64 x.f0) ∧ W.cell? ⟨X, 1, none⟩ = some (.string x.f1) ∧ W.cell? ⟨X, 2, none⟩ = some (.int .i64 x.f2) ∧ W.cell? ⟨X, 3, none⟩ = some (.int .i64 x.f3) :=
 ⟨(blk_cell h.xb 0).trans rfl, (blk_cell h.xb 1).trans rfl, (blk_cell h.xb 2).trans rfl, (blk_cell h.xb 3).trans rfl⟩
theorem FL.rs (h : FL w W g X ls j A c x) :
  W.cell? ⟨w.heap.size, 0, none⟩ = some (.int .i64 0) ∧ W.cell? ⟨w.heap.size, 1, none⟩ = some (.int .i64 0) ∧ W.cell? ⟨w.heap.size, 2, none⟩ = some (.string (⟨#[]⟩ : ByteArray)) ∧ W.cell? ⟨w.heap.size, 3, none⟩ = some (.slice none 0 0) ∧
  W.frozen? ⟨w.heap.size, 0, none⟩ = false ∧ W.frozen? ⟨w.heap.size, 1, none⟩ = false ∧ W.frozen? ⟨w.heap.size, 2, none⟩ = false ∧ W.frozen? ⟨w.heap.size, 3, none⟩ = false :=
 ⟨(blk_cell h.rb 0).trans rfl, (blk_cell h.rb 1).trans rfl, (blk_cell h.rb 2).trans rfl, (blk_cell h.rb 3).trans rfl, blk_frozen h.rb 0, blk_frozen h.rb 1, blk_frozen h.rb 2, blk_frozen h.rb 3⟩
theorem FL.gs (h : FL w W g X ls j A c x) : W.cell? ⟨g, 1, none⟩ = some (.int .i64 j) ∧ W.frozen? ⟨g, 1, none⟩ = false := ⟨(blk_cell h.ps.blk 1).trans rfl, blk_frozen h.ps.blk 1⟩
theorem FL.next (h : FL w W g X ls j A c x) (hj : j < ls.length) : FL w (W.setCell ⟨g, 1, none⟩ (.int .i64 ((j : Int) + 1))) g X ls (j + 1) A c x := h.keep (Kp.set _ _ _ _) (h.ps.next hj)
end
theorem F_nil24 (W : World) (ok : Nat → Prop) : Kd.F k24 W ok none ([] : List S24).length [] := Kd.F_nil k24 W ok
set_option maxHeartbeats 4000000 in
set_option maxRecDepth 100000 in
theorem fac_con {k : Nat} (HC : Con 54 (pExr k)) : Con 100 (pFac (k + 1)) := by
 intro w g ls i A c r h hp
 rw [pFac] at hp
 have hn1 := h.few
 have hg := blk_lt h.blk
 have h1 := h.kp (below_alloc (Below.refl _ w) (.cells #[.int .i64 0, .int .i64 0, .string (⟨#[]⟩ : ByteArray), .slice none 0 0] 24 (0, 0)))
 have hz := blk_new w (.cells #[.int .i64 0, .int .i64 0, .string (⟨#[]⟩ : ByteArray), .slice none 0 0] 24 (0, 0))
 have K0 := Aside0.mk (Kp.of_below g (below_alloc (Below.refl _ w) (.cells #[.int .i64 0, .int .i64 0, .string (⟨#[]⟩ : ByteArray), .slice none 0 0] 24 (0, 0))))
 have HZ := Aside0.mk hz
 have sz := size_alloc w (.cells #[.int .i64 0, .int .i64 0, .string (⟨#[]⟩ : ByteArray), .slice none 0 0] 24 (0, 0))
 have H1 := Aside0.mk (peek_any h1)
 unfold lexV at H1
 have hlt2 : (pk ls i).f0 = 2 → i < ls.length := num_lt (by decide)
 have hlt1 : (pk ls i).f0 = 1 → i < ls.length := num_lt (by decide)
 have HAcc := Aside0.mk (fun (w : World) (h : PS w g ls i A c) (s : ByteArray) => accept_any h s)
 have HFail := Aside0.mk (fun (w : World) (h : PS w g ls i A c) (e : Int) => fail_any h e)
 unfold acc at HAcc
 generalize pk ls i = x at *
 have HP1 := Aside0.mk h1
 clear h h1 hz
 go_enter Tryd.func100, Tryd.ntmps100
 go_wp2_with fail
 refine H1.out.mono ?_
 rintro _ w1 ⟨rfl, hb⟩
 have hRG := hb.size
 rw [sz] at hRG
 have B1 := below_alloc (Below.refl _ w1) (.cells #[.int .i64 x.f0, .string x.f1, .int .i64 x.f2, .int .i64 x.f3] 48 (0, 0))
 have T0 : Aside0 (FL w (w1.alloc (.cells #[.int .i64 x.f0, .string x.f1, .int .i64 x.f2, .int .i64 x.f3] 48 (0, 0))) g w1.heap.size ls i A c x) := ⟨⟨(K0.out.then_below hb).then_below B1, (HP1.out.kp hb).kp B1, blk_new w1 _, blk_alloc (blk_below HZ.out hb) _, hg, by omega⟩⟩
 obtain ⟨X, hX⟩ : ∃ X, X = w1.heap.size := ⟨_, rfl⟩
 rw [← hX] at T0
 clear hb B1 HP1 H1 K0 HZ
 by_cases c2 : x.f0 = 2
 ·rw [if_pos c2] at hp
  cases hp
  have hi := hlt2 c2
  have s1 : (x.f0 == 2) = true := by simpa using c2
  clear c2 hlt2 hlt1
  have T1 := Aside0.mk (T0.out.next hi)
  obtain ⟨x0, x1, x2, x3⟩ := T1.out.xs
  obtain ⟨r0, r1, r2, r3, e0, e1, e2, e3⟩ := T1.out.rs
  obtain ⟨g1, ge1⟩ := T0.out.gs
  rw [hX] at T0 T1 x0 x1 x2 x3
  go_wp2_with fail
  have hfin := ret_any (x := num x.f2) (a3 := none) (c3 := 0) T1.out.kp T1.out.ps hg T1.out.rb (Nat.le_refl _) (F_nil24 _ _)
  refine bodyPost_ret (results_cell_row rfl _ _ w.heap.size 24 _ (0, 0) _ rfl hfin.2 Tryd.underlying24 rfl (by kernel_rfl)) rfl ?_
  exact hfin.1
 have s1 : (x.f0 == 2) = false := by simpa using c2
 rw [if_neg c2] at hp
 clear c2 hlt2
 have HA := Aside0.mk (HAcc.out _ T0.out.ps (⟨#[45]⟩ : ByteArray))
 by_cases hm : isW x bSub = true
 ·rw [if_pos hm] at hp
  have hm' : isW x (⟨#[45]⟩ : ByteArray) = true := hm
  rw [hm', if_pos rfl] at HA
  rw [hX] at T0
  go_wp2_with fail
  refine HA.out.mono ?_
  rintro _ w2 ⟨rfl, hk2, hp2⟩
  have T2 := Aside0.mk (T0.out.keep hk2 hp2)
  clear hk2 hp2 T0 HA
  have HP := Aside0.mk (peek_any T2.out.ps)
  have HNY := Aside0.mk (fun (w : World) (h : PS w g ls (i + 1) A c) => number_yes h)
  have HNN := Aside0.mk (fun (w : World) (h : PS w g ls (i + 1) A c) => number_no h)
  have HF := Aside0.mk (fun (w : World) (h : PS w g ls (i + 1) A c) => fail_any h 5)
  unfold lexV at HP
  generalize pk ls (i + 1) = y at *
  go_wp2_with fail
  refine HP.out.mono ?_
  rintro _ w3 ⟨rfl, hb3⟩
  have B3 := below_step hb3 (below_alloc (Below.refl _ w3) (.cells #[.int .i64 y.f0, .string y.f1, .int .i64 y.f2, .int .i64 y.f3] 48 (0, 0)))
  have T3 := Aside0.mk (T2.out.below B3)
  clear hb3 B3 T2 HP
  by_cases y2 : y.f0 = 2
  ·rw [if_pos y2] at hp
   have t1 : (y.f0 == 2) = true := by simpa using y2
   have Y2 := Aside0.mk y2
   clear y2
   by_cases y0 : y.f2 = 0
   ·rw [if_pos y0] at hp
    cases hp
    have t2 : (y.f2 == 0) = true := by simpa using y0
    clear y0
    go_wp2_with fail
    refine (HF.out _ T3.out.ps).mono ?_
    rintro _ w4 ⟨rfl, hb4⟩
    have B4 := Aside0.mk hb4
    clear hb4
    go_wp2_with fail
    exact ⟨rfl, rfl, T3.out.kp.then_below B4.out⟩
   ·rw [if_neg y0] at hp
    cases hp
    have t2 : (y.f2 == 0) = false := by simpa using y0
    clear y0
    go_wp2_with fail
    refine (HNY.out _ T3.out.ps Y2.out).mono ?_
    rintro _ w4 ⟨rfl, hk4, hp4⟩
    have T4 := Aside0.mk (T3.out.keep hk4 hp4)
    clear hk4 hp4 T3
    obtain ⟨r0, r1, r2, r3, e0, e1, e2, e3⟩ := T4.out.rs
    go_wp2_with fail
    have hfin := ret_any (x := num (wrap64 (-y.f2))) (a3 := none) (c3 := 0) T4.out.kp T4.out.ps hg T4.out.rb (Nat.le_refl _) (F_nil24 _ _)
    refine bodyPost_ret (results_cell_row rfl _ _ w.heap.size 24 _ (0, 0) _ rfl hfin.2 Tryd.underlying24 rfl (by kernel_rfl)) rfl ?_
    exact hfin.1
  ·rw [if_neg y2] at hp
   cases hp
   have t1 : (y.f0 == 2) = false := by simpa using y2
   have Y2 := Aside0.mk y2
   clear y2
   go_wp2_with fail
   refine (HNN.out _ T3.out.ps Y2.out).mono ?_
   rintro _ w4 ⟨rfl, hk4⟩
   have K4 := Aside0.mk hk4
   clear hk4
   go_wp2_with fail
   exact ⟨rfl, rfl, T3.out.kp.trans K4.out⟩
 rw [if_neg hm] at hp
 have hm' : isW x (⟨#[45]⟩ : ByteArray) = false := Bool.eq_false_iff.2 hm
 rw [hm', if_neg (by decide)] at HA
 rw [hX] at T0
 go_wp2_with fail
 refine HA.out.mono ?_
 rintro _ w2 ⟨rfl, hk2, hp2⟩
 have T2 := Aside0.mk (T0.out.keep hk2 hp2)
 clear hk2 hp2 T0 HA hm hm'
 have HA := Aside0.mk (HAcc.out _ T2.out.ps (⟨#[40]⟩ : ByteArray))
 by_cases hm : isW x bLp = true
 ·rw [if_pos hm] at hp
  have hm' : isW x (⟨#[40]⟩ : ByteArray) = true := hm
  rw [hm', if_pos rfl] at HA
  cases hr : pExr k ls (i + 1) with
  | none => rw [hr] at hp; exact absurd hp (by simp [bindR])
  | some re =>
  rw [hr] at hp
  have H2 := Aside0.mk (fun w A c h => HC w g ls (i + 1) A c re h hr)
  clear hr
  have HPP := Aside0.mk hp
  clear hp
  go_wp2_with fail
  refine HA.out.mono ?_
  rintro _ w3 ⟨rfl, hk3, hp3⟩
  have T3 := Aside0.mk (T2.out.keep hk3 hp3)
  clear hk3 hp3 T2 HA
  go_wp2_with fail
  refine (H2.out _ A c T3.out.ps).mono ?_
  cases re with
  | bad er at_ =>
   have hp := HPP.out
   simp only [bindR, Option.some.injEq] at hp
   subst hp
   rintro _ w4 ⟨rfl, hk4⟩
   have K4 := Aside0.mk hk4
   clear hk4
   go_wp2_with fail
   exact ⟨rfl, rfl, T3.out.kp.trans K4.out⟩
  | ok z j =>
   have hp := HPP.out
   simp only [bindR] at hp
   rintro _ w4 ⟨⟨_, rfl, a4, c4, rfl, l4, f4⟩, hk4, hp4⟩
   have T4 := T3.out.keep hk4 hp4
   have s4 := blk_lt T3.out.rb
   have B4 := below_alloc (Below.refl _ w4) (.cells #[.int .i64 z.f0, .int .i64 z.f1, .string z.f2, .slice a4 z.f3.length c4] 24 (0, 0))
   have T5 := Aside0.mk (T4.below B4)
   have Y := Aside0.mk (Kd.F_mono (Kd.F_elderB f4 w4.heap.size (Nat.le_refl _)) (fun k_ hk_ => (by have := hk_.1; have := hk_.2; omega : w.heap.size < k_ ∧ k_ ≠ w4.heap.size)))
   have EB := Aside0.mk (blk_new w4 (.cells #[.int .i64 z.f0, .int .i64 z.f1, .string z.f2, .slice a4 z.f3.length c4] 24 (0, 0)))
   have Y5 := Aside0.mk (Kd.F_below (Kd.F_mono Y.out (fun _ h => h)) B4)
   have s5 := blk_lt T4.rb
   have hgE : g < w4.heap.size := by omega
   clear hk4 hp4 f4 T3 T4 B4 Y
   by_cases hq : isW (pk ls j) bRp = true
   ·rw [if_pos hq] at hp
    cases hp
    have HX := Aside0.mk (expect_yes T5.out.ps (⟨#[41]⟩ : ByteArray) hq)
    go_wp2_with fail
    refine HX.out.mono ?_
    rintro _ w6 ⟨rfl, hk6, hp6⟩
    have T6 := Aside0.mk (T5.out.keep hk6 hp6)
    have EB6 := Aside0.mk ((hk6.block w4.heap.size (blk_lt EB.out) (by omega)).trans EB.out)
    have Y6 := Aside0.mk (Kd.F_step Y5.out (fun k_ hk_ hlt => hk6.block k_ hlt (by omega)))
    clear hk6 hp6 T5 EB Y5
    have vq0 : World.cell? _ ⟨w4.heap.size, 0, none⟩ = some (.int .i64 z.f0) := (blk_cell EB6.out 0).trans rfl
    have vq1 : World.cell? _ ⟨w4.heap.size, 1, none⟩ = some (.int .i64 z.f1) := (blk_cell EB6.out 1).trans rfl
    have vq2 : World.cell? _ ⟨w4.heap.size, 2, none⟩ = some (.string z.f2) := (blk_cell EB6.out 2).trans rfl
    have vq3 : World.cell? _ ⟨w4.heap.size, 3, none⟩ = some (.slice a4 z.f3.length c4) := (blk_cell EB6.out 3).trans rfl
    obtain ⟨r0, r1, r2, r3, e0, e1, e2, e3⟩ := T6.out.rs
    go_wp2_with fail
    have hfin := ret_any T6.out.kp T6.out.ps hg T6.out.rb l4 (Kd.F_mono Y6.out (fun _ h => h.1))
    refine bodyPost_ret (results_cell_row rfl _ _ w.heap.size 24 _ (0, 0) _ rfl hfin.2 Tryd.underlying24 rfl (by kernel_rfl)) rfl ?_
    exact hfin.1
   ·rw [if_neg hq] at hp
    cases hp
    have HX := Aside0.mk (expect_no T5.out.ps (⟨#[41]⟩ : ByteArray) (Bool.eq_false_iff.2 hq))
    go_wp2_with fail
    refine HX.out.mono ?_
    rintro _ w6 ⟨rfl, hk6⟩
    have K6 := Aside0.mk hk6
    clear hk6
    go_wp2_with fail
    exact ⟨rfl, rfl, T5.out.kp.trans K6.out⟩
 rw [if_neg hm] at hp
 have hm' : isW x (⟨#[40]⟩ : ByteArray) = false := Bool.eq_false_iff.2 hm
 rw [hm', if_neg (by decide)] at HA
 go_wp2_with fail
 refine HA.out.mono ?_
 rintro _ w3 ⟨rfl, hk3, hp3⟩
 have T3 := Aside0.mk (T2.out.keep hk3 hp3)
 clear hk3 hp3 T2 HA hm hm'
 obtain ⟨x0, x1, x2, x3⟩ := T3.out.xs
 by_cases c1 : x.f0 = 1
 ·rw [if_pos c1] at hp
  have s2 : (x.f0 != 1) = false := by simpa using c1
  have hi := hlt1 c1
  clear c1 hlt1
  cases hn : ruletext_isName.f 100 x.f1 with
  | none => rw [hn] at hp; exact absurd hp (by simp)
  | some b =>
  rw [hn] at hp
  have HI := Aside0.mk (fun w => ruletext_isName.calls 100 x.f1 b w hn)
  clear hn
  go_wp2_with fail
  refine (HI.out _).mono ?_
  rintro _ w4 ⟨rfl, hb4⟩
  have T4 := Aside0.mk (T3.out.below (by first | exact hb4 | exact hb4.below))
  clear hb4 T3
  cases b with
  | true =>
   cases hp
   have T5 := Aside0.mk (T4.out.next hi)
   obtain ⟨x0, x1, x2, x3⟩ := T5.out.xs
   obtain ⟨r0, r1, r2, r3, e0, e1, e2, e3⟩ := T5.out.rs
   obtain ⟨g1, ge1⟩ := T4.out.gs
   go_wp2_with fail
   have hfin := ret_any (x := nam x.f1) (a3 := none) (c3 := 0) T5.out.kp T5.out.ps hg T5.out.rb (Nat.le_refl _) (F_nil24 _ _)
   refine bodyPost_ret (results_cell_row rfl _ _ w.heap.size 24 _ (0, 0) _ rfl hfin.2 Tryd.underlying24 rfl (by kernel_rfl)) rfl ?_
   exact hfin.1
  | false =>
   cases hp
   have HF := Aside0.mk (HFail.out _ T4.out.ps 6)
   go_wp2_with fail
   refine HF.out.mono ?_
   rintro _ w5 ⟨rfl, hb5⟩
   have B5 := Aside0.mk hb5
   clear hb5
   go_wp2_with fail
   exact ⟨rfl, rfl, T4.out.kp.then_below B5.out⟩
 ·rw [if_neg c1] at hp
  cases hp
  have s2 : (x.f0 != 1) = true := by simpa using c1
  clear c1 hlt1
  have HF := Aside0.mk (HFail.out _ T3.out.ps 5)
  go_wp2_with fail
  refine HF.out.mono ?_
  rintro _ w5 ⟨rfl, hb5⟩
  have B5 := Aside0.mk hb5
  clear hb5
  go_wp2_with fail
  exact ⟨rfl, rfl, T3.out.kp.then_below B5.out⟩
end Go.Proofs.YtmnbbhieodcoeaaDoor.Rt
