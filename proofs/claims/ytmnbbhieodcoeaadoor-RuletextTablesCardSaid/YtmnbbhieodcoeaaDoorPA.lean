/-
  Parse returns the table that the grammar's Lean function says, or the error and its offset.
-/
import Derived.Test.YtmnbbhieodcoeaaDoorRls
namespace Go.Proofs.YtmnbbhieodcoeaaDoor.Rt
open Go.RowKit Go.Proofs.YtmnbbhieodcoeaaDoorW.PrintWords Go.Proofs.YtmnbbhieodcoeaaDoorW.PrintLast Go.Proofs.YtmnbbhieodcoeaaDoorW.PrintMore
open Go.Proofs.YtmnbbhieodcoeaaDoor.PBase Go.Proofs.YtmnbbhieodcoeaaDoor.PScn
set_option linter.unusedVariables false
set_option linter.unusedSimpArgs false
def XL (N X : Nat) (l : List S58) (W : World) : Prop := ∃ A c, W.heap[X]? = some (.cells #[.slice A l.length c] 33 (0, 0)) ∧ l.length ≤ c ∧ Kd.F k58 W (fun k => N ≤ k) A l.length l
set_option maxHeartbeats 4000000 in
set_option maxRecDepth 100000 in
theorem clo38 (k : Nat) {w : World} {g X : Nat} {ls : List S48} {A : Option Addr} {c : Nat} (h : PS w g ls 0 A c) (hX : w.heap[X]? = some (.cells #[.slice none 0 0] 33 (0, 0))) (hgX : g < X) (r : Rl) (hp : pRls k ls 0 [] = some r) :
    Calls Tryd.prog 38 #[.pointer (some ⟨g, 0, none⟩), .pointer (some ⟨X, 0, none⟩)] w fun e w' =>
      match (generalizing := false) r with
      | .ok l j => e = .returned (.tuple #[]) ∧ XL w.heap.size X l w' ∧ K2 w w' (fun k => k = g ∨ k = X)
      | .bad er at_ => e = .panicked [{ v := failV er at_, recovered := false }] ∧ K2 w w' (fun k => k = g ∨ k = X) := by
  have lX := blk_lt hX
  have H1 := Aside0.mk (rules_con k h r hp)
  have HX := Aside0.mk hX
  clear h hX hp
  cases r with
  | bad er at_ =>
    go_enter Tryd.func38, Tryd.ntmps38
    go_wp2_with fail
    refine H1.out.mono ?_
    rintro _ w1 ⟨rfl, hk1⟩
    have K1 := Aside0.mk hk1
    clear hk1
    go_wp2_with fail
    exact ⟨rfl, rfl, K1.out.k2 (.inl rfl)⟩
  | ok l j =>
    go_enter Tryd.func38, Tryd.ntmps38
    go_wp2_with fail
    refine H1.out.mono ?_
    rintro _ w1 ⟨⟨v, rfl, hN⟩, hk1, hp1⟩
    obtain ⟨A1, c1, rfl⟩ := Kd.N_slice hN
    have hc := (Kd.N_reads' hN).2.1
    have hF := Kd.N_F hN
    have XB := (hk1.block X lX (by omega)).trans HX.out
    have hn : ∀ k_, w.heap.size ≤ k_ → k_ ≠ X := fun k_ hk_ => by omega
    have XB1 := Aside0.mk XB
    have XB2 := Aside0.mk (blk_put XB 0 (.slice A1 l.length c1) rfl)
    have F2 := Aside0.mk (Kd.F_far (p := ⟨X, 0, none⟩) hF hn (.slice A1 l.length c1))
    have K3 := Aside0.mk ((hk1.k2 (T := fun k => k = g ∨ k = X) (.inl rfl)).put (G := X) (.inr rfl) 0 (.slice A1 l.length c1))
    clear hk1 hp1 hN hF XB
    have xq0 : World.cell? _ ⟨X, 0, none⟩ = some (.slice none 0 0) := (blk_cell XB1.out 0).trans rfl
    have xf0 := blk_frozen XB1.out 0
    go_wp2_with fail
    go_end0
    exact ⟨rfl, ⟨A1, c1, XB2.out, hc, F2.out⟩, K3.out⟩
def PAs (k : Nat) (s : ByteArray) : Option (List S58 × Int × Int) :=
  match lexer_Scan.f k s with
  | none => none
  | some (ls, e, at_) =>
    if e = 0 then
      (if ls.length ≤ 100000 then
        (match pRls k ls 0 [] with
        | none => none
        | some (.ok l _) => some (l, 0, 0)
        | some (.bad e a) => if e = 0 then none else some ([], e, a))
      else none)
    else some ([], e, at_)
set_option maxHeartbeats 4000000 in
set_option maxRecDepth 100000 in
theorem parse_any (k : Nat) (s : ByteArray) (l : List S58) (e at_ : Int) (hp : PAs k s = some (l, e, at_)) (w : World) :
    Calls Tryd.prog 18 #[.string s] w fun r w' => (∃ A c, r = .returned (.tuple #[.slice A l.length c, .int .i64 e, .int .i64 at_]) ∧ l.length ≤ c ∧ Kd.F k58 w' (fun k => w.heap.size ≤ k) A l.length l) ∧ Below w.heap.size w w' := by
  unfold PAs at hp
  cases hs : lexer_Scan.f k s with
  | none => rw [hs] at hp; exact absurd hp (by simp)
  | some t =>
  obtain ⟨ls, e1, at1⟩ := t
  rw [hs] at hp
  simp only [] at hp
  have HS := Aside0.mk (fun w => lexer_Scan.calls k s ls e1 at1 w hs)
  clear hs
  by_cases he : e1 = 0
  · rw [if_pos he] at hp
    have s1 : (e1 != 0) = false := by simpa using he
    clear he
    by_cases hl : ls.length ≤ 100000
    · rw [if_pos hl] at hp
      cases hpe : pRls k ls 0 [] with
      | none => rw [hpe] at hp; exact absurd hp (by simp)
      | some re =>
      rw [hpe] at hp
      have HPP := Aside0.mk hp
      have HPE := Aside0.mk hpe
      clear hp hpe
      go_enter Tryd.func18, Tryd.ntmps18
      go_wp2_with fail
      refine (HS.out _).mono ?_
      rintro _ w1 ⟨v0, rfl, hR, hb1⟩
      obtain ⟨A, c, rfl⟩ := Kd.R_slice hR
      obtain ⟨_, hc, hF⟩ := R_F48 hR
      have B1 := Aside0.mk hb1
      have hs1 := hb1.size
      have B2 := below_alloc (below_alloc (Below.refl _ w1) (.cells #[.slice A ls.length c, .int .i64 0] 62 (0, 0))) (.cells #[.slice none 0 0] 33 (0, 0))
      have P2 : Aside0 (PS ((w1.alloc (.cells #[.slice A ls.length c, .int .i64 0] 62 (0, 0))).alloc (.cells #[.slice none 0 0] 33 (0, 0))) w1.heap.size ls 0 A c) := ⟨⟨blk_alloc (blk_new w1 _) _, hc, Kd.F_below (Kd.F_mono (Kd.F_bound hF) (fun _ h => h.2)) B2, hl, Nat.zero_le _⟩⟩
      have X2 := Aside0.mk (blk_top (w1.alloc (.cells #[.slice A ls.length c, .int .i64 0] 62 (0, 0))) (.cells #[.slice none 0 0] 33 (0, 0)) (k := w1.heap.size + 1) (by rw [size_alloc]))
      have B3 := Aside0.mk (below_step B1.out B2)
      clear hR hb1 hF B2 B1
      go_wp2_with fail
      have hgX : w1.heap.size < w1.heap.size + 1 := by omega
      have B4 := below_alloc (below_alloc (Below.refl _ ((w1.alloc (.cells #[.slice A ls.length c, .int .i64 0] 62 (0, 0))).alloc (.cells #[.slice none 0 0] 33 (0, 0)))) (.cells #[.int .i64 0] 28 (0, 0))) (.cells #[.int .i64 0] 3 (0, 0))
      have sz2 : ((w1.alloc (.cells #[.slice A ls.length c, .int .i64 0] 62 (0, 0))).alloc (.cells #[.slice none 0 0] 33 (0, 0))).heap.size = w1.heap.size + 2 := by rw [size_alloc, size_alloc]
      have HC := clo38 k (P2.out.kp B4) (blk_below X2.out B4) hgX re HPE.out
      generalize (w1.alloc (.cells #[.slice A ls.length c, .int .i64 0] 62 (0, 0))).alloc (.cells #[.slice none 0 0] 33 (0, 0)) = W2 at *
      cases re with
      | bad er a =>
        have hp := HPP.out
        by_cases h0 : er = 0
        · simp only [h0, if_true] at hp; exact absurd hp (by simp)
        · simp only [if_neg h0] at hp
          cases hp
          have s2 : (e != 0) = true := by simpa using h0
          clear h0
          refine (caught38_bad _ _ W2 (fun k => k = w1.heap.size ∨ k = w1.heap.size + 1) (by omega) (by omega) e at_ HC).mono ?_
          rintro _ W9 ⟨rfl, w8, hk8, hW⟩
          have KF : K2 W2 _ (fun k => (k = w1.heap.size ∨ k = w1.heap.size + 1) ∨ W2.heap.size ≤ k) := (((((K2.of_below _ B4).trans (hk8.mono (fun _ h => .inl h))).trans (K2.of_below _ (below_alloc (Below.refl _ w8) (.cells #[.int .i64 e, .int .i64 at_] 80 (0, 0))))).put (G := W2.heap.size) (.inr (Nat.le_refl _)) 0 (.int .i64 e)).put (G := W2.heap.size + 1) (.inr (Nat.le_succ _)) 0 (.int .i64 at_)).trans (K2.of_below _ (below_drew1 (Below.refl _ _)))
          rw [← hW] at KF
          clear hW
          have BF := Aside0.mk (B3.out.trans (KF.below (N := w.heap.size) (fun k hk => by omega) (by omega)))
          clear KF hk8 sz2
          go_wp2_with fail
          go_ret3
          exact ⟨⟨none, 0, rfl, Nat.le_refl _, Kd.F_nil k58 _ _⟩, BF.out⟩
      | ok y j =>
        have hp := HPP.out
        simp only [Option.some.injEq, Prod.mk.injEq] at hp
        obtain ⟨rfl, rfl, rfl⟩ := hp
        have HC' := HC
        refine (caught38_ok _ _ W2 (XL (cw W2).heap.size (w1.heap.size + 1) y) (fun k => k = w1.heap.size ∨ k = w1.heap.size + 1) (by omega) (by omega) HC').mono ?_
        rintro _ _ ⟨rfl, w8, ⟨a, c8, hb8, hl8, hf8⟩, hk8, rfl⟩
        have szc : (cw W2).heap.size = W2.heap.size + 2 := by rw [cw, size_alloc, size_alloc]
        have KF : K2 W2 _ (fun k => (k = w1.heap.size ∨ k = w1.heap.size + 1) ∨ W2.heap.size ≤ k) := ((((K2.of_below _ B4).trans (hk8.mono (fun _ h => .inl h))).put (G := W2.heap.size) (.inr (Nat.le_refl _)) 0 (.int .i64 0)).put (G := W2.heap.size + 1) (.inr (Nat.le_succ _)) 0 (.int .i64 0))
        have BF := Aside0.mk (B3.out.trans (KF.below (N := w.heap.size) (fun k hk => by omega) (by omega)))
        have XF := Aside0.mk (blk_far (blk_far hb8 (p := ⟨W2.heap.size, 0, none⟩) (by show w1.heap.size + 1 ≠ W2.heap.size; omega) (.int .i64 0)) (p := ⟨W2.heap.size + 1, 0, none⟩) (by show w1.heap.size + 1 ≠ W2.heap.size + 1; omega) (.int .i64 0))
        have FF := Aside0.mk (Kd.F_mono (Kd.F_far (p := ⟨W2.heap.size + 1, 0, none⟩) (Kd.F_far (p := ⟨W2.heap.size, 0, none⟩) hf8 (fun k hk => by show k ≠ W2.heap.size; omega) (.int .i64 0)) (fun k hk => by show k ≠ W2.heap.size + 1; omega) (.int .i64 0)) (fun k hk => (by omega : w.heap.size ≤ k)))
        clear KF hk8 hb8 hf8 HC HC' sz2 szc
        have xq0 : World.cell? _ ⟨w1.heap.size + 1, 0, none⟩ = some (.slice a y.length c8) := (blk_cell XF.out 0).trans rfl
        go_wp2_with fail
        go_ret3
        exact ⟨⟨a, c8, rfl, hl8, FF.out⟩, BF.out⟩
    · rw [if_neg hl] at hp
      cases hp
  · rw [if_neg he] at hp
    have s1 : (e1 != 0) = true := by simpa using he
    clear he
    cases hp
    go_enter Tryd.func18, Tryd.ntmps18
    go_wp2_with fail
    refine (HS.out _).mono ?_
    rintro _ w1 ⟨v0, rfl, hR, hb1⟩
    have B1 := Aside0.mk hb1
    clear hR hb1
    go_wp2_with fail
    go_ret3
    exact ⟨⟨none, 0, rfl, Nat.le_refl _, Kd.F_nil k58 _ _⟩, B1.out⟩
end Go.Proofs.YtmnbbhieodcoeaaDoor.Rt
