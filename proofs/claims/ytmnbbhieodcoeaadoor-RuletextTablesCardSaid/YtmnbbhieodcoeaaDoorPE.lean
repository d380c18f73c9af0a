/-
 ParseExpr returns what the grammar's Lean function says, or the error and its offset.
-/
import Derived.Test.YtmnbbhieodcoeaaDoorClo
namespace Go.Proofs.YtmnbbhieodcoeaaDoor.Rt
open Go.RowKit Go.Proofs.YtmnbbhieodcoeaaDoorW.PrintWords Go.Proofs.YtmnbbhieodcoeaaDoorW.PrintLast Go.Proofs.YtmnbbhieodcoeaaDoorW.PrintMore
open Go.Proofs.YtmnbbhieodcoeaaDoor.PBase Go.Proofs.YtmnbbhieodcoeaaDoor.PScn
set_option linter.unusedVariables false
set_option linter.unusedSimpArgs false
def pPE (k : Nat) (ls : List S48) : Option Rz :=
 match pWhl k ls 0 with
 | none => none
 | some (.bad e a) => some (.bad e a)
 | some (.ok x j) => if (pk ls j).f0 = 0 then some (.ok x j) else some (.bad 5 (pk ls j).f3)
theorem field48_0 (a : Int) (b c d : Value) (w : World) : Sem.run Tryd.prog (Instr.field 48 (.agg #[.int .i64 a, b, c, d]) 0) w = .ok (.int .i64 a) w := by
 kernel_rfl
def XS (N X : Nat) (x : S24) (W : World) : Prop := ∃ a c, W.heap[X]? = some (.cells #[.int .i64 x.f0, .int .i64 x.f1, .string x.f2, .slice a x.f3.length c] 24 (0, 0)) ∧ x.f3.length ≤ c ∧ Kd.F k24 W (fun k => N ≤ k) a x.f3.length x.f3
theorem K2.put {w W : World} {T : Nat → Prop} {G : Nat} (h : K2 w W T) (hG : T G) (j : Nat) (u : Value) : K2 w (W.setCell ⟨G, j, none⟩ u) T := h.trans ((Kp.set W G j u).k2 hG)
set_option maxHeartbeats 4000000 in
set_option maxRecDepth 100000 in
theorem clo32 (k : Nat) {w : World} {g X : Nat} {ls : List S48} {A : Option Addr} {c : Nat} (h : PS w g ls 0 A c) (hX : w.heap[X]? = some (.cells #[.int .i64 0, .int .i64 0, .string (⟨#[]⟩ : ByteArray), .slice none 0 0] 24 (0, 0))) (hgX : g < X) (r : Rz) (hp : pPE k ls = some r) :
  Calls Tryd.prog 32 #[.pointer (some ⟨g, 0, none⟩), .pointer (some ⟨X, 0, none⟩)] w fun e w' =>
   match r with
   | .ok x j => e = .returned (.tuple #[]) ∧ XS w.heap.size X x w' ∧ K2 w w' (fun k => k = g ∨ k = X)
   | .bad er at_ => e = .panicked [{ v := failV er at_, recovered := false }] ∧ K2 w w' (fun k => k = g ∨ k = X) := by
 unfold pPE at hp
 have lX := blk_lt hX
 cases hr : pWhl k ls 0 with
 | none => rw [hr] at hp; exact absurd hp (by simp)
 | some re =>
 rw [hr] at hp
 have H1 := Aside0.mk (whole_con k w g ls 0 A c re h hr)
 have HX := Aside0.mk hX
 clear h hX hr
 cases re with
 | bad er at_ =>
  cases hp
  go_enter Tryd.func32, Tryd.ntmps32
  go_wp2_with fail
  refine H1.out.mono ?_
  rintro _ w1 ⟨rfl, hk1⟩
  have K1 := Aside0.mk hk1
  clear hk1
  go_wp2_with fail
  exact ⟨rfl, rfl, K1.out.k2 (.inl rfl)⟩
 | ok x j =>
  simp only [] at hp
  have hfld := field48_0 (pk ls j).f0 (.string (pk ls j).f1) (.int .i64 (pk ls j).f2) (.int .i64 (pk ls j).f3)
  have HPP := Aside0.mk hp
  clear hp
  go_enter Tryd.func32, Tryd.ntmps32
  go_wp2_with fail
  refine H1.out.mono ?_
  rintro _ w1 ⟨⟨_, rfl, a4, c4, rfl, l4, f4⟩, hk1, hp1⟩
  have XB := (hk1.block X lX (by omega)).trans HX.out
  have hn : ∀ k_, w.heap.size ≤ k_ → k_ ≠ X := fun k_ hk_ => by omega
  have XB2 := blk_put (cs := #[.int .i64 x.f0, .int .i64 x.f1, .string x.f2, .slice none 0 0]) (blk_put (cs := #[.int .i64 x.f0, .int .i64 x.f1, .string (⟨#[]⟩ : ByteArray), .slice none 0 0]) (blk_put (cs := #[.int .i64 x.f0, .int .i64 0, .string (⟨#[]⟩ : ByteArray), .slice none 0 0]) (blk_put XB 0 (.int .i64 x.f0) rfl) 1 (.int .i64 x.f1) rfl) 2 (.string x.f2) rfl) 3 (.slice a4 x.f3.length c4) rfl
  have P2 := (((hp1.put hgX 0 (.int .i64 x.f0)).put hgX 1 (.int .i64 x.f1)).put hgX 2 (.string x.f2)).put hgX 3 (.slice a4 x.f3.length c4)
  have K2' : K2 w _ (fun k => k = g ∨ k = X) := ((((hk1.k2 (T := fun k => k = g ∨ k = X) (.inl rfl)).put (.inr rfl) 0 (.int .i64 x.f0)).put (.inr rfl) 1 (.int .i64 x.f1)).put (.inr rfl) 2 (.string x.f2)).put (.inr rfl) 3 (.slice a4 x.f3.length c4)
  have F2 := Kd.F_far (p := ⟨X, 3, none⟩) (Kd.F_far (p := ⟨X, 2, none⟩) (Kd.F_far (p := ⟨X, 1, none⟩) (Kd.F_far (p := ⟨X, 0, none⟩) f4 hn (.int .i64 x.f0)) hn (.int .i64 x.f1)) hn (.string x.f2)) hn (.slice a4 x.f3.length c4)
  have XB1 := Aside0.mk XB
  have XB3 := Aside0.mk XB2
  have P3 := Aside0.mk P2
  have K3 := Aside0.mk K2'
  have F3 := Aside0.mk F2
  have HPk := Aside0.mk (peek_any P3.out)
  have HFl := Aside0.mk (fun (w : World) (h : PS w g ls j A c) => fail_any h 5)
  unfold lexV at HPk
  clear hk1 hp1 f4 XB XB2 P2 K2' F2
  have xq0 : World.cell? _ ⟨X, 0, none⟩ = some (.int .i64 0) := (blk_cell XB1.out 0).trans rfl
  have xf0 := blk_frozen XB1.out 0
  have xq1 : World.cell? _ ⟨X, 1, none⟩ = some (.int .i64 0) := (blk_cell XB1.out 1).trans rfl
  have xf1 := blk_frozen XB1.out 1
  have xq2 : World.cell? _ ⟨X, 2, none⟩ = some (.string (⟨#[]⟩ : ByteArray)) := (blk_cell XB1.out 2).trans rfl
  have xf2 := blk_frozen XB1.out 2
  have xq3 : World.cell? _ ⟨X, 3, none⟩ = some (.slice none 0 0) := (blk_cell XB1.out 3).trans rfl
  have xf3 := blk_frozen XB1.out 3
  generalize pk ls j = y at *
  go_wp2_with fail
  refine HPk.out.mono ?_
  rintro _ w3 ⟨rfl, hb3⟩
  have P4 := Aside0.mk (P3.out.kp hb3)
  have K4 := Aside0.mk (K3.out.trans (K2.of_below _ hb3))
  have XB4 := Aside0.mk (blk_below XB3.out hb3)
  have F4 := Aside0.mk (Kd.F_below F3.out hb3)
  clear hb3 P3 K3 XB3 F3 HPk
  by_cases hy : y.f0 = 0
  ·have hp := HPP.out
   rw [if_pos hy] at hp
   cases hp
   have s1 : (y.f0 != 0) = false := by simpa using hy
   clear hy
   go_wp2_with fail
   go_end0
   exact ⟨rfl, ⟨a4, c4, XB4.out, l4, F4.out⟩, K4.out⟩
  ·have hp := HPP.out
   rw [if_neg hy] at hp
   cases hp
   have s1 : (y.f0 != 0) = true := by simpa using hy
   clear hy
   go_wp2_with fail
   refine (HFl.out _ P4.out).mono ?_
   rintro _ w5 ⟨rfl, hb5⟩
   have B5 := Aside0.mk hb5
   clear hb5
   go_wp2_with fail
   exact ⟨rfl, rfl, K4.out.trans (K2.of_below _ B5.out)⟩
theorem R_F48 {W : World} {base : Nat} {ok : Nat → Prop} {A : Option Addr} {n c : Nat} {xs : List S48} (h : Kd.R k48 48 W base ok (.slice A n c) xs) : n = xs.length ∧ xs.length ≤ c ∧ Kd.F k48 W ok A xs.length xs := by
 obtain ⟨A', c', he, hl, hC⟩ := Kd.R_reads h
 injection he with e1 e2 e3
 subst e1
 subst e2
 subst e3
 refine ⟨rfl, hl, fun W' hW => ?_⟩
 obtain ⟨A2, c2, he2, _, hC2⟩ := Kd.R_reads (Kd.R_step h hW)
 injection he2 with e1 e2 e3
 subst e1
 exact hC2
theorem K2.mono {w w' : World} {T T' : Nat → Prop} (h : K2 w w' T) (ht : ∀ k, T k → T' k) : K2 w w' T' := ⟨h.os, h.tape, h.output, h.size, fun k hk hn => h.block k hk (fun e => hn (ht k e))⟩
theorem fin_any {w W : World} {x : S24} {a3 : Option Addr} {c3 : Nat} (hb : Below w.heap.size w W)
  (rb : W.heap[w.heap.size]? = some (.cells #[.int .i64 0, .int .i64 0, .string (⟨#[]⟩ : ByteArray), .slice none 0 0] 24 (0, 0))) (hl : x.f3.length ≤ c3) (hf : Kd.F k24 W (fun k => w.heap.size < k) a3 x.f3.length x.f3) :
  (Ex ((((W.setCell ⟨w.heap.size, 0, none⟩ (.int .i64 x.f0)).setCell ⟨w.heap.size, 1, none⟩ (.int .i64 x.f1)).setCell ⟨w.heap.size, 2, none⟩ (.string x.f2)).setCell ⟨w.heap.size, 3, none⟩ (.slice a3 x.f3.length c3)) (fun k => w.heap.size ≤ k) (.agg #[.int .i64 x.f0, .int .i64 x.f1, .string x.f2, .slice a3 x.f3.length c3]) x ∧
  Below w.heap.size w ((((W.setCell ⟨w.heap.size, 0, none⟩ (.int .i64 x.f0)).setCell ⟨w.heap.size, 1, none⟩ (.int .i64 x.f1)).setCell ⟨w.heap.size, 2, none⟩ (.string x.f2)).setCell ⟨w.heap.size, 3, none⟩ (.slice a3 x.f3.length c3))) ∧
  ((((W.setCell ⟨w.heap.size, 0, none⟩ (.int .i64 x.f0)).setCell ⟨w.heap.size, 1, none⟩ (.int .i64 x.f1)).setCell ⟨w.heap.size, 2, none⟩ (.string x.f2)).setCell ⟨w.heap.size, 3, none⟩ (.slice a3 x.f3.length c3)).heap[w.heap.size]? = some (.cells #[.int .i64 x.f0, .int .i64 x.f1, .string x.f2, .slice a3 x.f3.length c3] 24 (0, 0)) := by
 have hn : ∀ k, w.heap.size < k → k ≠ w.heap.size := fun k hk => by omega
 refine ⟨⟨ex_mk hl (Kd.F_mono (Kd.F_far (Kd.F_far (Kd.F_far (Kd.F_far hf hn _) hn _) hn _) hn _) (fun k hk => by omega)), below_set (below_set (below_set (below_set hb (Nat.le_refl _)) (Nat.le_refl _)) (Nat.le_refl _)) (Nat.le_refl _)⟩, ?_⟩
 exact blk_put (cs := #[.int .i64 x.f0, .int .i64 x.f1, .string x.f2, .slice none 0 0]) (blk_put (cs := #[.int .i64 x.f0, .int .i64 x.f1, .string (⟨#[]⟩ : ByteArray), .slice none 0 0]) (blk_put (cs := #[.int .i64 x.f0, .int .i64 0, .string (⟨#[]⟩ : ByteArray), .slice none 0 0]) (blk_put rb 0 _ rfl) 1 _ rfl) 2 _ rfl) 3 _ rfl
def PEs (k : Nat) (s : ByteArray) : Option (S24 × Int × Int) :=
 match lexer_Scan.f k s with
 | none => none
 | some (ls, e, at_) =>
  if e = 0 then
   (if ls.length ≤ 100000 then
    (match pPE k ls with
    | none => none
    | some (.ok x _) => some (x, 0, 0)
    | some (.bad e a) => if e = 0 then none else some (⟨0, 0, ⟨#[]⟩, []⟩, e, a))
   else none)
  else some (⟨0, 0, ⟨#[]⟩, []⟩, e, at_)
set_option maxHeartbeats 4000000 in
set_option maxRecDepth 100000 in
theorem parseExpr_any (k : Nat) (s : ByteArray) (x : S24) (e at_ : Int) (hp : PEs k s = some (x, e, at_)) (w : World) :
  Calls Tryd.prog 13 #[.string s] w fun r w' => (∃ v, r = .returned (.tuple #[v, .int .i64 e, .int .i64 at_]) ∧ Ex w' (fun k => w.heap.size ≤ k) v x) ∧ Below w.heap.size w w' := by
 unfold PEs at hp
 cases hs : lexer_Scan.f k s with
 | none => rw [hs] at hp; exact absurd hp (by simp)
 | some t =>
 obtain ⟨ls, e1, at1⟩ := t
 rw [hs] at hp
 simp only [] at hp
 have HS := Aside0.mk (fun w => lexer_Scan.calls k s ls e1 at1 w hs)
 have HZ := Aside0.mk (blk_new w (.cells #[.int .i64 0, .int .i64 0, .string (⟨#[]⟩ : ByteArray), .slice none 0 0] 24 (0, 0)))
 have B0 := Aside0.mk (below_alloc (Below.refl _ w) (.cells #[.int .i64 0, .int .i64 0, .string (⟨#[]⟩ : ByteArray), .slice none 0 0] 24 (0, 0)))
 have sz := size_alloc w (.cells #[.int .i64 0, .int .i64 0, .string (⟨#[]⟩ : ByteArray), .slice none 0 0] 24 (0, 0))
 clear hs
 by_cases he : e1 = 0
 ·rw [if_pos he] at hp
  have s1 : (e1 != 0) = false := by simpa using he
  clear he
  by_cases hl : ls.length ≤ 100000
  ·rw [if_pos hl] at hp
   cases hpe : pPE k ls with
   | none => rw [hpe] at hp; exact absurd hp (by simp)
   | some re =>
   rw [hpe] at hp
   have HPP := Aside0.mk hp
   have HPE := Aside0.mk hpe
   clear hp hpe
   go_enter Tryd.func13, Tryd.ntmps13
   go_wp2_with fail
   refine (HS.out _).mono ?_
   rintro _ w1 ⟨v0, rfl, hR, hb1⟩
   obtain ⟨A, c, rfl⟩ := Kd.R_slice hR
   obtain ⟨_, hc, hF⟩ := R_F48 hR
   have B1 := Aside0.mk (below_step B0.out hb1)
   have RB1 := Aside0.mk (blk_below HZ.out hb1)
   have hs1 := blk_lt RB1.out
   have B2 := below_alloc (below_alloc (Below.refl _ w1) (.cells #[.slice A ls.length c, .int .i64 0] 62 (0, 0))) (.cells #[.int .i64 0, .int .i64 0, .string (⟨#[]⟩ : ByteArray), .slice none 0 0] 24 (0, 0))
   have P2 : Aside0 (PS ((w1.alloc (.cells #[.slice A ls.length c, .int .i64 0] 62 (0, 0))).alloc (.cells #[.int .i64 0, .int .i64 0, .string (⟨#[]⟩ : ByteArray), .slice none 0 0] 24 (0, 0))) w1.heap.size ls 0 A c) := ⟨⟨blk_alloc (blk_new w1 _) _, hc, Kd.F_below (Kd.F_mono (Kd.F_bound hF) (fun _ h => h.2)) B2, hl, Nat.zero_le _⟩⟩
   have X2 := Aside0.mk (blk_top (w1.alloc (.cells #[.slice A ls.length c, .int .i64 0] 62 (0, 0))) (.cells #[.int .i64 0, .int .i64 0, .string (⟨#[]⟩ : ByteArray), .slice none 0 0] 24 (0, 0)) (k := w1.heap.size + 1) (by rw [size_alloc]))
   have RB2 := Aside0.mk (blk_below RB1.out B2)
   have B3 := Aside0.mk (below_step B1.out B2)
   clear hR hb1 hF B2 B1 RB1
   go_wp2_with fail
   have hgX : w1.heap.size < w1.heap.size + 1 := by omega
   have B4 := below_alloc (below_alloc (Below.refl _ ((w1.alloc (.cells #[.slice A ls.length c, .int .i64 0] 62 (0, 0))).alloc (.cells #[.int .i64 0, .int .i64 0, .string (⟨#[]⟩ : ByteArray), .slice none 0 0] 24 (0, 0)))) (.cells #[.int .i64 0] 28 (0, 0))) (.cells #[.int .i64 0] 3 (0, 0))
   have sz2 : ((w1.alloc (.cells #[.slice A ls.length c, .int .i64 0] 62 (0, 0))).alloc (.cells #[.int .i64 0, .int .i64 0, .string (⟨#[]⟩ : ByteArray), .slice none 0 0] 24 (0, 0))).heap.size = w1.heap.size + 2 := by rw [size_alloc, size_alloc]
   have HC := clo32 k (P2.out.kp B4) (blk_below X2.out B4) hgX re HPE.out
   generalize (w1.alloc (.cells #[.slice A ls.length c, .int .i64 0] 62 (0, 0))).alloc (.cells #[.int .i64 0, .int .i64 0, .string (⟨#[]⟩ : ByteArray), .slice none 0 0] 24 (0, 0)) = W2 at *
   have hlR := blk_lt RB2.out
   cases re with
   | bad er a =>
    have hp := HPP.out
    by_cases h0 : er = 0
    ·simp only [h0, if_true] at hp; exact absurd hp (by simp)
    ·simp only [if_neg h0] at hp
     cases hp
     have s2 : (e != 0) = true := by simpa using h0
     clear h0
     refine (caught32_bad _ _ W2 (fun k => k = w1.heap.size ∨ k = w1.heap.size + 1) (by omega) (by omega) e at_ HC).mono ?_
     rintro _ W9 ⟨rfl, w8, hk8, hW⟩
     have KF : K2 W2 _ (fun k => (k = w1.heap.size ∨ k = w1.heap.size + 1) ∨ W2.heap.size ≤ k) := (((((K2.of_below _ B4).trans (hk8.mono (fun _ h => .inl h))).trans (K2.of_below _ (below_alloc (Below.refl _ w8) (.cells #[.int .i64 e, .int .i64 at_] 80 (0, 0))))).put (G := W2.heap.size) (.inr (Nat.le_refl _)) 0 (.int .i64 e)).put (G := W2.heap.size + 1) (.inr (Nat.le_succ _)) 0 (.int .i64 at_)).trans (K2.of_below _ (below_drew1 (Below.refl _ _)))
     rw [← hW] at KF
     clear hW
     have RBF := Aside0.mk ((KF.block w.heap.size hlR (by omega)).trans RB2.out)
     have BF := Aside0.mk (B3.out.trans (KF.below (N := w.heap.size) (fun k hk => by omega) (by omega)))
     clear KF hk8 sz2
     have rq0 : World.cell? _ ⟨w.heap.size, 0, none⟩ = some (.int .i64 0) := (blk_cell RBF.out 0).trans rfl
     have rf0 := blk_frozen RBF.out 0
     have rq1 : World.cell? _ ⟨w.heap.size, 1, none⟩ = some (.int .i64 0) := (blk_cell RBF.out 1).trans rfl
     have rf1 := blk_frozen RBF.out 1
     have rq2 : World.cell? _ ⟨w.heap.size, 2, none⟩ = some (.string (⟨#[]⟩ : ByteArray)) := (blk_cell RBF.out 2).trans rfl
     have rf2 := blk_frozen RBF.out 2
     have rq3 : World.cell? _ ⟨w.heap.size, 3, none⟩ = some (.slice none 0 0) := (blk_cell RBF.out 3).trans rfl
     have rf3 := blk_frozen RBF.out 3
     go_wp2_with fail
     have hfin := fin_any (x := ⟨0, 0, ⟨#[]⟩, []⟩) (a3 := none) (c3 := 0) BF.out RBF.out (Nat.le_refl _) (F_nil24 _ _)
     refine bodyPost_ret (results_ctt rfl _ _ w.heap.size 24 _ (0, 0) _ rfl hfin.2 Tryd.underlying24 rfl (by kernel_rfl)) rfl ?_
     exact ⟨⟨_, rfl, hfin.1.1⟩, hfin.1.2⟩
   | ok y j =>
    have hp := HPP.out
    simp only [Option.some.injEq, Prod.mk.injEq] at hp
    obtain ⟨rfl, rfl, rfl⟩ := hp
    have HC' := HC
    refine (caught32_ok _ _ W2 (XS (cw W2).heap.size (w1.heap.size + 1) y) (fun k => k = w1.heap.size ∨ k = w1.heap.size + 1) (by omega) (by omega) HC').mono ?_
    rintro _ _ ⟨rfl, w8, ⟨a, c8, hb8, hl8, hf8⟩, hk8, rfl⟩
    have szc : (cw W2).heap.size = W2.heap.size + 2 := by rw [cw, size_alloc, size_alloc]
    have KF : K2 W2 _ (fun k => (k = w1.heap.size ∨ k = w1.heap.size + 1) ∨ W2.heap.size ≤ k) := ((((K2.of_below _ B4).trans (hk8.mono (fun _ h => .inl h))).put (G := W2.heap.size) (.inr (Nat.le_refl _)) 0 (.int .i64 0)).put (G := W2.heap.size + 1) (.inr (Nat.le_succ _)) 0 (.int .i64 0))
    have RBF := Aside0.mk ((KF.block w.heap.size hlR (by omega)).trans RB2.out)
    have BF := Aside0.mk (B3.out.trans (KF.below (N := w.heap.size) (fun k hk => by omega) (by omega)))
    have XF := Aside0.mk (blk_far (blk_far hb8 (p := ⟨W2.heap.size, 0, none⟩) (by show w1.heap.size + 1 ≠ W2.heap.size; omega) (.int .i64 0)) (p := ⟨W2.heap.size + 1, 0, none⟩) (by show w1.heap.size + 1 ≠ W2.heap.size + 1; omega) (.int .i64 0))
    have FF := Aside0.mk (Kd.F_mono (Kd.F_far (p := ⟨W2.heap.size + 1, 0, none⟩) (Kd.F_far (p := ⟨W2.heap.size, 0, none⟩) hf8 (fun k hk => by show k ≠ W2.heap.size; omega) (.int .i64 0)) (fun k hk => by show k ≠ W2.heap.size + 1; omega) (.int .i64 0)) (fun k hk => (by omega : w.heap.size < k)))
    clear KF hk8 hb8 hf8 HC HC' sz2 szc
    have rq0 : World.cell? _ ⟨w.heap.size, 0, none⟩ = some (.int .i64 0) := (blk_cell RBF.out 0).trans rfl
    have rf0 := blk_frozen RBF.out 0
    have rq1 : World.cell? _ ⟨w.heap.size, 1, none⟩ = some (.int .i64 0) := (blk_cell RBF.out 1).trans rfl
    have rf1 := blk_frozen RBF.out 1
    have rq2 : World.cell? _ ⟨w.heap.size, 2, none⟩ = some (.string (⟨#[]⟩ : ByteArray)) := (blk_cell RBF.out 2).trans rfl
    have rf2 := blk_frozen RBF.out 2
    have rq3 : World.cell? _ ⟨w.heap.size, 3, none⟩ = some (.slice none 0 0) := (blk_cell RBF.out 3).trans rfl
    have rf3 := blk_frozen RBF.out 3
    have xq0 : World.cell? _ ⟨w1.heap.size + 1, 0, none⟩ = some (.int .i64 y.f0) := (blk_cell XF.out 0).trans rfl
    have xq1 : World.cell? _ ⟨w1.heap.size + 1, 1, none⟩ = some (.int .i64 y.f1) := (blk_cell XF.out 1).trans rfl
    have xq2 : World.cell? _ ⟨w1.heap.size + 1, 2, none⟩ = some (.string y.f2) := (blk_cell XF.out 2).trans rfl
    have xq3 : World.cell? _ ⟨w1.heap.size + 1, 3, none⟩ = some (.slice a y.f3.length c8) := (blk_cell XF.out 3).trans rfl
    go_wp2_with fail
    have hfin := fin_any BF.out RBF.out hl8 FF.out
    refine bodyPost_ret (results_ctt rfl _ _ w.heap.size 24 _ (0, 0) _ rfl hfin.2 Tryd.underlying24 rfl (by kernel_rfl)) rfl ?_
    exact ⟨⟨_, rfl, hfin.1.1⟩, hfin.1.2⟩
  ·rw [if_neg hl] at hp
   cases hp
 ·rw [if_neg he] at hp
  have s1 : (e1 != 0) = true := by simpa using he
  clear he
  cases hp
  go_enter Tryd.func13, Tryd.ntmps13
  go_wp2_with fail
  refine (HS.out _).mono ?_
  rintro _ w1 ⟨v0, rfl, hR, hb1⟩
  have B1 := Aside0.mk (below_step B0.out hb1)
  have RB1 := Aside0.mk (blk_below HZ.out hb1)
  clear hR hb1
  have rq0 : World.cell? _ ⟨w.heap.size, 0, none⟩ = some (.int .i64 0) := (blk_cell RB1.out 0).trans rfl
  have rf0 := blk_frozen RB1.out 0
  have rq1 : World.cell? _ ⟨w.heap.size, 1, none⟩ = some (.int .i64 0) := (blk_cell RB1.out 1).trans rfl
  have rf1 := blk_frozen RB1.out 1
  have rq2 : World.cell? _ ⟨w.heap.size, 2, none⟩ = some (.string (⟨#[]⟩ : ByteArray)) := (blk_cell RB1.out 2).trans rfl
  have rf2 := blk_frozen RB1.out 2
  have rq3 : World.cell? _ ⟨w.heap.size, 3, none⟩ = some (.slice none 0 0) := (blk_cell RB1.out 3).trans rfl
  have rf3 := blk_frozen RB1.out 3
  go_wp2_with fail
  have hfin := fin_any (x := ⟨0, 0, ⟨#[]⟩, []⟩) (a3 := none) (c3 := 0) B1.out RB1.out (Nat.le_refl _) (F_nil24 _ _)
  refine bodyPost_ret (results_ctt rfl _ _ w.heap.size 24 _ (0, 0) _ rfl hfin.2 Tryd.underlying24 rfl (by kernel_rfl)) rfl ?_
  exact ⟨⟨_, rfl, hfin.1.1⟩, hfin.1.2⟩
end Go.Proofs.YtmnbbhieodcoeaaDoor.Rt
