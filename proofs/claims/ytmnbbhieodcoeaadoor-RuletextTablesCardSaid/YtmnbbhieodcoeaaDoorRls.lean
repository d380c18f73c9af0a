/-
 rules comes to what the grammar's Lean function says.
-/
import Derived.Test.YtmnbbhieodcoeaaDoorPE
namespace Go.Proofs.YtmnbbhieodcoeaaDoor.Rt
open Go.RowKit Go.Proofs.YtmnbbhieodcoeaaDoorW.PrintWords Go.Proofs.YtmnbbhieodcoeaaDoorW.PrintLast Go.Proofs.YtmnbbhieodcoeaaDoorW.PrintMore
open Go.Proofs.YtmnbbhieodcoeaaDoor.PBase Go.Proofs.YtmnbbhieodcoeaaDoor.PScn
set_option linter.unusedVariables false
set_option linter.unusedSimpArgs false
inductive Rl
 | ok (l : List S58) (j : Nat)
 | bad (e at_ : Int)
def bGrade : ByteArray := ⟨#[103, 114, 97, 100, 101]⟩
def bWhen : ByteArray := ⟨#[119, 104, 101, 110]⟩
def bSemi : ByteArray := ⟨#[59]⟩
def pRls : Nat → List S48 → Nat → List S58 → Option Rl
 | 0, _, _, _ => none
 | k + 1, ls, i, l =>
  if (pk ls i).f0 = 0 then some (.ok l i)
  else if isW (pk ls i) bGrade = true then
   if l.length ≥ 32 then some (.bad 4 (pk ls i).f3)
   else if (pk ls (i + 1)).f0 = 2 then
    if (pk ls (i + 1)).f2 > 9 then some (.bad 26 (pk ls (i + 1)).f3)
    else if isW (pk ls (i + 2)) bWhen = true then
     match pWhl k ls (i + 3) with
     | none => none
     | some (.bad e a) => some (.bad e a)
     | some (.ok x j) => if isW (pk ls j) bSemi = true then pRls k ls (j + 1) (l ++ [⟨(pk ls (i + 1)).f2, x⟩]) else some (.bad 5 (pk ls j).f3)
    else some (.bad 5 (pk ls (i + 2)).f3)
   else some (.bad 5 (pk ls (i + 1)).f3)
  else some (.bad 5 (pk ls i).f3)
def PLs (w : World) (g : Nat) (ls : List S48) (A : Option Addr) (c : Nat) : Rl → Ending → World → Prop
 | .ok l j, e, w' => (∃ v, e = .returned v ∧ Kd.N k58 58 w' w.heap.size (fun k => w.heap.size ≤ k) v l) ∧ Kp w w' g ∧ PS w' g ls j A c
 | .bad er at_, e, w' => e = .panicked [{ v := failV er at_, recovered := false }] ∧ Kp w w' g
theorem Kp.then_base {w W W' : World} {g : Nat} (h : Kp w W g) (k : Below w.heap.size W W') : Kp w W' g :=
 ⟨k.os.trans h.os, k.tape.trans h.tape, k.output.trans h.output, Nat.le_trans h.size k.size, fun i hi hn => (k.block i hi).trans (h.block i hi hn)⟩
structure RL (w W : World) (g : Nat) (ls : List S48) (j : Nat) (A : Option Addr) (c : Nat) (l : List S58) (v : Value) : Prop where
 kp : Kp w W g
 ps : PS W g ls j A c
 out : Kd.N k58 58 W w.heap.size (fun k => w.heap.size ≤ k) v l
 gw : g < w.heap.size
section
variable {w W W' : World} {g : Nat} {ls : List S48} {j j' : Nat} {A : Option Addr} {c : Nat} {l : List S58} {v : Value}
theorem RL.keep (h : RL w W g ls j A c l v) (hk : Kp W W' g) (hp : PS W' g ls j' A c) : RL w W' g ls j' A c l v :=
 ⟨h.kp.trans hk, hp, Kd.N_step h.out (fun k ho hlt => hk.block k hlt (by have := h.gw; omega)), h.gw⟩
theorem RL.app {l' : List S58} {v' : Value} (h : RL w W g ls j A c l v) (hb : Below w.heap.size W W') (hN : Kd.N k58 58 W' w.heap.size (fun k => w.heap.size ≤ k) v' l') : RL w W' g ls j A c l' v' :=
 ⟨h.kp.then_base hb, ⟨(hb.block g h.gw).trans h.ps.blk, h.ps.cap, Kd.F_step h.ps.row (fun k hk _ => hb.block k (by have := h.gw; omega)), h.ps.few, h.ps.idx⟩, hN, h.gw⟩
theorem RL.below (h : RL w W g ls j A c l v) (hb : Below W.heap.size W W') : RL w W' g ls j A c l v := h.keep (Kp.of_below g hb) (h.ps.kp hb)
end
theorem und33 : Tryd.prog.underlying 33 = some (.slice 58) := by kernel_rfl
theorem info58 : (Tryd.prog.info? 58).map (fun i => (i.zero, i.size, i.bytes)) = some (some (.agg #[(.int .i64 0), (.int .i64 0), (.int .i64 0), (.string ⟨#[]⟩), (.slice none 0 0)]), 5, 64) := by kernel_rfl
set_option maxHeartbeats 4000000 in
set_option maxRecDepth 100000 in
theorem rules_con (k : Nat) {w : World} {g : Nat} {ls : List S48} {i : Nat} {A : Option Addr} {c : Nat} (h : PS w g ls i A c) (r : Rl) (hp : pRls k ls i [] = some r) :
  Calls Tryd.prog 39 #[.pointer (some ⟨g, 0, none⟩)] w (PLs w g ls A c r) := by
 have T0 : Aside0 (RL w w g ls i A c [] (.slice none 0 0)) := ⟨⟨Kp.refl w g, h, Kd.N_nil _ _ _ _ _, blk_lt h.blk⟩⟩
 have HP := Aside0.mk hp
 have hn1 := h.few
 clear h hp
 go_enter Tryd.func39, Tryd.ntmps39
 go_wp2_with fail
 go_loopg [3] k (fun kq out wr => ∃ (l : List S58) (j : Nat), Aside0 (pRls kq ls j l = some r) ∧ Aside0 (kq ≤ k) ∧ Aside0 (RL w wr g ls j A c l out))
 case atStart => exact ⟨[], i, HP, ⟨Nat.le_refl _⟩, T0⟩
 case round =>
  clear HP T0
  obtain ⟨l, j, HL, HK, HT⟩ := hrel
  cases gk with
  | zero => exact absurd HL.out (by simp [pRls])
  | succ kq =>
  obtain ⟨A3, c3, rfl⟩ := Kd.N_slice HT.out.out
  have hp := HL.out
  rw [pRls] at hp
  clear HL
  have H1 := Aside0.mk (peek_any HT.out.ps)
  have hfld := field48_0 (pk ls j).f0 (.string (pk ls j).f1) (.int .i64 (pk ls j).f2) (.int .i64 (pk ls j).f3)
  unfold lexV at H1
  have HI := Aside0.mk (fun (w : World) (h : PS w g ls j A c) => is_any h (⟨#[103, 114, 97, 100, 101]⟩ : ByteArray))
  have HF := Aside0.mk (fun (w : World) (h : PS w g ls j A c) => fail_any h 4)
  have HXY := Aside0.mk (fun (w : World) (h : PS w g ls j A c) => expect_yes h (⟨#[103, 114, 97, 100, 101]⟩ : ByteArray))
  have HXN := Aside0.mk (fun (w : World) (h : PS w g ls j A c) => expect_no h (⟨#[103, 114, 97, 100, 101]⟩ : ByteArray))
  generalize pk ls j = x at *
  go_wp2_with fail
  refine H1.out.mono ?_
  rintro _ w1 ⟨rfl, hb1⟩
  have T1 := Aside0.mk (HT.out.below hb1)
  clear hb1 HT H1
  by_cases h0 : x.f0 = 0
  ·rw [if_pos h0] at hp
   cases hp
   have s1 : (x.f0 != 0) = false := by simpa using h0
   clear h0
   go_wp2_with fail
   go_ret
   exact ⟨⟨_, rfl, T1.out.out⟩, T1.out.kp, T1.out.ps⟩
  rw [if_neg h0] at hp
  have s1 : (x.f0 != 0) = true := by simpa using h0
  clear h0
  go_wp2_with fail
  refine (HI.out _ T1.out.ps).mono ?_
  rintro _ w2 ⟨rfl, hb2⟩
  have T2 := Aside0.mk (T1.out.below hb2)
  clear hb2 T1 HI
  by_cases hg : isW x bGrade = true
  ·have hg' : isW x (⟨#[103, 114, 97, 100, 101]⟩ : ByteArray) = true := hg
   rw [if_pos hg] at hp
   by_cases h32 : l.length ≥ 32
   ·rw [if_pos h32] at hp
    cases hp
    rw [hg']
    have s2 : decide ((l.length : Int) ≥ 32) = true := decide_eq_true (by omega)
    go_wp2_with fail
    refine (HF.out _ T2.out.ps).mono ?_
    rintro _ w3 ⟨rfl, hb3⟩
    have B3 := Aside0.mk hb3
    clear hb3
    go_wp2_with fail
    exact ⟨rfl, rfl, T2.out.kp.then_below B3.out⟩
   ·rw [if_neg h32] at hp
    rw [hg']
    have s2 : decide ((l.length : Int) ≥ 32) = false := decide_eq_false (by omega)
    have HX := Aside0.mk (HXY.out _ T2.out.ps hg')
    have HPP := Aside0.mk hp
    clear hg hg' hp
    go_wp2_with fail
    refine HX.out.mono ?_
    rintro _ w3 ⟨rfl, hk3, hp3⟩
    have T3 := Aside0.mk (T2.out.keep hk3 hp3)
    clear hk3 hp3 T2 HX HXY HXN HF
    have H4 := Aside0.mk (peek_any T3.out.ps)
    unfold lexV at H4
    have HF26 := Aside0.mk (fun (w : World) (h : PS w g ls (j + 1) A c) => fail_any h 26)
    have HNY := Aside0.mk (fun (w : World) (h : PS w g ls (j + 1) A c) => number_yes h)
    have HNN := Aside0.mk (fun (w : World) (h : PS w g ls (j + 1) A c) => number_no h)
    generalize pk ls (j + 1) = y at *
    go_wp2_with fail
    refine H4.out.mono ?_
    rintro _ w4 ⟨rfl, hb4⟩
    have T4 := Aside0.mk (T3.out.below (below_step hb4 (below_alloc (Below.refl _ w4) (.cells #[.int .i64 y.f0, .string y.f1, .int .i64 y.f2, .int .i64 y.f3] 48 (0, 0)))))
    clear hb4 T3 H4
    have hp := HPP.out
    by_cases y2 : y.f0 = 2
    ·rw [if_pos y2] at hp
     have t1 : (y.f0 == 2) = true := by simpa using y2
     have Y2 := Aside0.mk y2
     clear y2
     by_cases y9 : y.f2 > 9
     ·rw [if_pos y9] at hp
      cases hp
      have t2 : decide (y.f2 > 9) = true := decide_eq_true y9
      go_wp2_with fail
      refine (HF26.out _ T4.out.ps).mono ?_
      rintro _ w5 ⟨rfl, hb5⟩
      have B5 := Aside0.mk hb5
      clear hb5
      go_wp2_with fail
      exact ⟨rfl, rfl, T4.out.kp.then_below B5.out⟩
     ·rw [if_neg y9] at hp
      have t2 : decide (y.f2 > 9) = false := decide_eq_false y9
      have HPP := Aside0.mk hp
      clear hp
      go_wp2_with fail
      refine (HNY.out _ T4.out.ps Y2.out).mono ?_
      rintro _ w5 ⟨rfl, hk5, hp5⟩
      have T5 := Aside0.mk (T4.out.keep hk5 hp5)
      clear hk5 hp5 T4 HNY HNN HF26
      have hp := HPP.out
      by_cases hw : isW (pk ls (j + 2)) bWhen = true
      ·rw [if_pos hw] at hp
       have HX := Aside0.mk (expect_yes T5.out.ps (⟨#[119, 104, 101, 110]⟩ : ByteArray) hw)
       cases hr : pWhl kq ls (j + 3) with
       | none => rw [hr] at hp; exact absurd hp (by simp)
       | some re =>
       rw [hr] at hp
       have HPP := Aside0.mk hp
       have HW := Aside0.mk (fun w h => whole_con kq w g ls (j + 3) A c re h hr)
       clear hp hr hw
       go_wp2_with fail
       refine HX.out.mono ?_
       rintro _ w6 ⟨rfl, hk6, hp6⟩
       have T6 := Aside0.mk (T5.out.keep hk6 hp6)
       clear hk6 hp6 T5 HX
       go_wp2_with fail
       refine (HW.out _ T6.out.ps).mono ?_
       cases re with
       | bad er a =>
        have hp := HPP.out
        cases hp
        rintro _ w7 ⟨rfl, hk7⟩
        have K7 := Aside0.mk hk7
        clear hk7
        go_wp2_with fail
        exact ⟨rfl, rfl, T6.out.kp.trans K7.out⟩
       | ok z m =>
        have hp := HPP.out
        simp only [] at hp
        rintro _ w7 ⟨⟨_, rfl, a4, c4, rfl, l4, f4⟩, hk7, hp7⟩
        have hown := (Kd.N_bound T6.out.out).1
        have T7 := Aside0.mk (T6.out.keep hk7 hp7)
        have s67 := hk7.size
        have s6 := T6.out.kp.size
        have P7 := Aside0.mk (k58_mkF w7 (fun k_ => w6.heap.size ≤ k_) (⟨y.f2, z⟩ : S58) l4 f4)
        have l32 : l.length < 32 := by omega
        clear hk7 hp7 f4 T6
        go_wp2_with ((with_reducible refine gate_builtin (b := .append) (xs := #[.tmp 37, .tmp 42]) rfl ?_); at_builtin; refine Kd.N_append k58 (w0 := w7) w.heap.size rfl (.tmp 37) (.tmp 42) 33 58 (.agg #[(.int .i64 0), (.int .i64 0), (.int .i64 0), (.string ⟨#[]⟩), (.slice none 0 0)]) 64 rfl und33 info58 rfl (by decide) (by omega) (.slice A3 l.length c3) l (⟨y.f2, z⟩ : S58) [.int .i64 y.f2, .int .i64 z.f0, .int .i64 z.f1, .string z.f2, .slice a4 z.f3.length c4] (fun k_ => w.heap.size ≤ k_) (fun k_ => w6.heap.size ≤ k_) rfl (by first | (go_simp; done) | (go_simp; rfl)) P7.out (fun k_ hk_ => ⟨by omega, fun e => by have := (hown k_ e.symm).2; omega⟩) (fun k_ hk_ => by omega) T7.out.out (Below.refl _ _) (by omega) (by omega) ?_; rintro v8 w8 hN8 hb8 hg8 hat8)
        have T8 : Aside0 (RL w w8 g ls m A c (l ++ [(⟨y.f2, z⟩ : S58)]) v8) := ⟨T7.out.app hb8 hN8⟩
        clear hN8 hb8 hg8 hat8 T7 P7 hown
        by_cases hs : isW (pk ls m) bSemi = true
        ·rw [if_pos hs] at hp
         have HX := Aside0.mk (expect_yes T8.out.ps (⟨#[59]⟩ : ByteArray) hs)
         have HL2 := Aside0.mk hp
         clear hp hs HPP
         refine HX.out.mono ?_
         rintro _ w9 ⟨rfl, hk9, hp9⟩
         have T9 := Aside0.mk (T8.out.keep hk9 hp9)
         clear hk9 hp9 T8 HX
         go_wp2_with fail
         go_roundg kq
         case measure => omega
         case rel => exact ⟨l ++ [(⟨y.f2, z⟩ : S58)], m + 1, HL2, ⟨by have := HK.out; omega⟩, T9⟩
        ·rw [if_neg hs] at hp
         cases hp
         have HX := Aside0.mk (expect_no T8.out.ps (⟨#[59]⟩ : ByteArray) (Bool.eq_false_iff.2 hs))
         refine HX.out.mono ?_
         rintro _ w9 ⟨rfl, hk9⟩
         have K9 := Aside0.mk hk9
         clear hk9
         go_wp2_with fail
         exact ⟨rfl, rfl, T8.out.kp.trans K9.out⟩
      ·rw [if_neg hw] at hp
       cases hp
       have HX := Aside0.mk (expect_no T5.out.ps (⟨#[119, 104, 101, 110]⟩ : ByteArray) (Bool.eq_false_iff.2 hw))
       go_wp2_with fail
       refine HX.out.mono ?_
       rintro _ w6 ⟨rfl, hk6⟩
       have K6 := Aside0.mk hk6
       clear hk6
       go_wp2_with fail
       exact ⟨rfl, rfl, T5.out.kp.trans K6.out⟩
    ·rw [if_neg y2] at hp
     cases hp
     have t1 : (y.f0 == 2) = false := by simpa using y2
     have Y2 := Aside0.mk y2
     clear y2
     go_wp2_with fail
     refine (HNN.out _ T4.out.ps Y2.out).mono ?_
     rintro _ w5 ⟨rfl, hk5⟩
     have K5 := Aside0.mk hk5
     clear hk5
     go_wp2_with fail
     exact ⟨rfl, rfl, T4.out.kp.trans K5.out⟩
  ·have hg' : isW x (⟨#[103, 114, 97, 100, 101]⟩ : ByteArray) = false := Bool.eq_false_iff.2 hg
   rw [if_neg hg] at hp
   cases hp
   rw [hg']
   have HX := Aside0.mk (HXN.out _ T2.out.ps hg')
   go_wp2_with fail
   refine HX.out.mono ?_
   rintro _ w3 ⟨rfl, hk3⟩
   have K3 := Aside0.mk hk3
   clear hk3
   go_wp2_with fail
   exact ⟨rfl, rfl, T2.out.kp.trans K3.out⟩
end Go.Proofs.YtmnbbhieodcoeaaDoor.Rt
