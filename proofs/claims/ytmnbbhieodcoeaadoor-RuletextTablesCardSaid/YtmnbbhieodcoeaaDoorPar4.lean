/-
 The parser's functions come to what the grammar's Lean functions say, at every depth; and whole, which asks for the depth.
-/
import Derived.Test.YtmnbbhieodcoeaaDoorPar3
namespace Go.Proofs.YtmnbbhieodcoeaaDoor.Rt
open Go.RowKit Go.Proofs.YtmnbbhieodcoeaaDoorW.PrintWords Go.Proofs.YtmnbbhieodcoeaaDoorW.PrintLast Go.Proofs.YtmnbbhieodcoeaaDoorW.PrintMore
open Go.Proofs.YtmnbbhieodcoeaaDoor.PBase Go.Proofs.YtmnbbhieodcoeaaDoor.PScn
set_option linter.unusedVariables false
set_option linter.unusedSimpArgs false
structure All (K : Nat) : Prop where
 fac : ∀ k, k ≤ K → Con 100 (pFac k)
 trm : ∀ k, k ≤ K → Con 99 (pTrm k)
 sum : ∀ k, k ≤ K → Con 96 (pSum k)
 cmp : ∀ k, k ≤ K → Con 90 (pCmp k)
 neg : ∀ k, k ≤ K → Con 83 (pNeg k)
 cnj : ∀ k, k ≤ K → Con 76 (pCnj k)
 exr : ∀ k, k ≤ K → Con 54 (pExr k)
theorem con_zero (F : Nat) (p : List S48 → Nat → Option Rz) (h : ∀ ls i, p ls i = none) : Con F p := by
 intro w g ls i A c r _ hp
 rw [h] at hp
 cases hp
theorem le_step {p : Nat → Prop} {K : Nat} (h : ∀ k, k ≤ K → p k) (s : p (K + 1)) : ∀ k, k ≤ K + 1 → p k := by
 intro k hk
 rcases Nat.lt_or_ge k (K + 1) with h1 | h1
 ·exact h k (by omega)
 ·rw [show k = K + 1 by omega]; exact s
theorem all_con : ∀ K, All K
 | 0 => by
  have z : ∀ {p : Nat → Prop}, p 0 → ∀ k, k ≤ 0 → p k := fun h k hk => by rw [show k = 0 by omega]; exact h
  exact ⟨z (con_zero _ _ (fun _ _ => by rw [pFac])), z (con_zero _ _ (fun _ _ => by rw [pTrm])), z (con_zero _ _ (fun _ _ => by rw [pSum])), z (con_zero _ _ (fun _ _ => by rw [pCmp])), z (con_zero _ _ (fun _ _ => by rw [pNeg])), z (con_zero _ _ (fun _ _ => by rw [pCnj])), z (con_zero _ _ (fun _ _ => by rw [pExr]))⟩
 | K + 1 => by
  have h := all_con K
  exact ⟨le_step h.fac (fac_con (h.exr K (Nat.le_refl _))), le_step h.trm (term_con h.fac), le_step h.sum (sum_con h.trm), le_step h.cmp (cmp_con (h.sum K (Nat.le_refl _))), le_step h.neg (neg_con (h.cmp K (Nat.le_refl _)) (h.neg K (Nat.le_refl _))), le_step h.cnj (conj_con h.neg), le_step h.exr (expr_con h.cnj)⟩
def pWhl (k : Nat) (ls : List S48) (i : Nat) : Option Rz :=
 match pExr k ls i with
 | none => none
 | some (.bad e a) => some (.bad e a)
 | some (.ok x j) =>
  match ruletext_depth.f k x.f0 x.f1 x.f2 x.f3 with
  | none => none
  | some d => if d > 8 then some (.bad 28 (pk ls i).f3) else some (.ok x j)
set_option maxHeartbeats 4000000 in
set_option maxRecDepth 100000 in
theorem whole_con (k : Nat) : Con 33 (pWhl k) := by
 intro w g ls i A c r h hp
 unfold pWhl at hp
 have hg := blk_lt h.blk
 have h1 := h.kp (below_alloc (Below.refl _ w) (.cells #[.int .i64 0, .int .i64 0, .string (⟨#[]⟩ : ByteArray), .slice none 0 0] 24 (0, 0)))
 have hz := blk_new w (.cells #[.int .i64 0, .int .i64 0, .string (⟨#[]⟩ : ByteArray), .slice none 0 0] 24 (0, 0))
 have K0 := Aside0.mk (Kp.of_below g (below_alloc (Below.refl _ w) (.cells #[.int .i64 0, .int .i64 0, .string (⟨#[]⟩ : ByteArray), .slice none 0 0] 24 (0, 0))))
 have HZ := Aside0.mk hz
 have sz := size_alloc w (.cells #[.int .i64 0, .int .i64 0, .string (⟨#[]⟩ : ByteArray), .slice none 0 0] 24 (0, 0))
 have H1 := Aside0.mk (peek_any h1)
 have hfld := field48_3 (.int .i64 (pk ls i).f0) (.string (pk ls i).f1) (.int .i64 (pk ls i).f2) (pk ls i).f3
 unfold lexV at H1
 have HP1 := Aside0.mk h1
 generalize pk ls i = x at *
 cases hr : pExr k ls i with
 | none => rw [hr] at hp; exact absurd hp (by simp)
 | some re =>
 rw [hr] at hp
 have H2 := Aside0.mk (fun w h => (all_con k).exr k (Nat.le_refl _) w g ls i A c re h hr)
 clear h h1 hz hr
 go_enter Tryd.func33, Tryd.ntmps33
 go_wp2_with fail
 refine H1.out.mono ?_
 rintro _ w1 ⟨rfl, hb1⟩
 have K1 := Aside0.mk (K0.out.then_below hb1)
 have P1 := Aside0.mk (HP1.out.kp hb1)
 have RB1 := Aside0.mk (blk_below HZ.out hb1)
 clear hb1 K0 HP1 H1
 go_wp2_with fail
 refine (H2.out _ P1.out).mono ?_
 cases re with
 | bad er at_ =>
  cases hp
  rintro _ w2 ⟨rfl, hk2⟩
  have K2 := Aside0.mk hk2
  clear hk2
  go_wp2_with fail
  exact ⟨rfl, rfl, K1.out.trans K2.out⟩
 | ok z j =>
  simp only [] at hp
  cases hd : ruletext_depth.f k z.f0 z.f1 z.f2 z.f3 with
  | none => rw [hd] at hp; exact absurd hp (by simp)
  | some d =>
  rw [hd] at hp
  simp only [] at hp
  rintro _ w4 ⟨⟨_, rfl, a4, c4, rfl, l4, f4⟩, hk4, hp4⟩
  have s1 := blk_lt RB1.out
  have RB4 := (hk4.block w.heap.size s1 (by omega)).trans RB1.out
  have s4 := blk_lt RB4
  have B4 := below_alloc (Below.refl _ w4) (.cells #[.int .i64 z.f0, .int .i64 z.f1, .string z.f2, .slice a4 z.f3.length c4] 24 (0, 0))
  have K5 := Aside0.mk ((K1.out.trans hk4).then_below B4)
  have P5 := Aside0.mk (hp4.kp B4)
  have RB5 := Aside0.mk (blk_below RB4 B4)
  have Y := Kd.F_mono (Kd.F_elderB f4 w4.heap.size (Nat.le_refl _)) (fun k_ hk_ => (by have := hk_.1; have := hk_.2; omega : w.heap.size < k_ ∧ k_ ≠ w4.heap.size))
  have Y5 := Aside0.mk (Kd.F_below Y B4)
  have EB := Aside0.mk (blk_new w4 (.cells #[.int .i64 z.f0, .int .i64 z.f1, .string z.f2, .slice a4 z.f3.length c4] 24 (0, 0)))
  have HD := Aside0.mk (fun w h => ruletext_depth.calls k z.f0 z.f1 z.f2 a4 c4 z.f3 d w h l4 hd)
  clear hk4 hp4 f4 RB4 Y B4 hd
  go_wp2_with fail
  refine (HD.out _ (Kd.F_now Y5.out)).mono ?_
  rintro _ w6 ⟨rfl, hb6⟩
  have K6 := Aside0.mk (K5.out.then_below hb6)
  have P6 := Aside0.mk (P5.out.kp hb6)
  have RB6 := Aside0.mk (blk_below RB5.out hb6)
  have EB6 := Aside0.mk (blk_below EB.out hb6)
  have Y6 := Aside0.mk (Kd.F_below Y5.out hb6)
  clear hb6 K5 P5 RB5 EB Y5
  by_cases h8 : d > 8
  ·rw [if_pos h8] at hp
   cases hp
   go_wp2_with fail
   exact ⟨rfl, rfl, K6.out⟩
  ·rw [if_neg h8] at hp
   cases hp
   have vq0 : World.cell? _ ⟨w4.heap.size, 0, none⟩ = some (.int .i64 z.f0) := (blk_cell EB6.out 0).trans rfl
   have vq1 : World.cell? _ ⟨w4.heap.size, 1, none⟩ = some (.int .i64 z.f1) := (blk_cell EB6.out 1).trans rfl
   have vq2 : World.cell? _ ⟨w4.heap.size, 2, none⟩ = some (.string z.f2) := (blk_cell EB6.out 2).trans rfl
   have vq3 : World.cell? _ ⟨w4.heap.size, 3, none⟩ = some (.slice a4 z.f3.length c4) := (blk_cell EB6.out 3).trans rfl
   have rq0 : World.cell? _ ⟨w.heap.size, 0, none⟩ = some (.int .i64 0) := (blk_cell RB6.out 0).trans rfl
   have rf0 := blk_frozen RB6.out 0
   have rq1 : World.cell? _ ⟨w.heap.size, 1, none⟩ = some (.int .i64 0) := (blk_cell RB6.out 1).trans rfl
   have rf1 := blk_frozen RB6.out 1
   have rq2 : World.cell? _ ⟨w.heap.size, 2, none⟩ = some (.string (⟨#[]⟩ : ByteArray)) := (blk_cell RB6.out 2).trans rfl
   have rf2 := blk_frozen RB6.out 2
   have rq3 : World.cell? _ ⟨w.heap.size, 3, none⟩ = some (.slice none 0 0) := (blk_cell RB6.out 3).trans rfl
   have rf3 := blk_frozen RB6.out 3
   go_wp2_with fail
   have hfin := ret_any K6.out P6.out hg RB6.out l4 (Kd.F_mono Y6.out (fun _ h => h.1))
   refine bodyPost_ret (results_cell_row rfl _ _ w.heap.size 24 _ (0, 0) _ rfl hfin.2 Tryd.underlying24 rfl (by kernel_rfl)) rfl ?_
   exact hfin.1
end Go.Proofs.YtmnbbhieodcoeaaDoor.Rt
