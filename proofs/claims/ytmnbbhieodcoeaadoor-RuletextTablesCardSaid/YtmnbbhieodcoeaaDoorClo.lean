/-
 caught: what the deferred closure does with a parser's panic, and without one.
-/
import Derived.Test.YtmnbbhieodcoeaaDoorPar4
import Derived.Defers
import Derived.Recover
import Derived.Laws.Pointers
namespace Go.Proofs.YtmnbbhieodcoeaaDoor.Rt
open Go.RowKit Go.Proofs.YtmnbbhieodcoeaaDoorW.PrintWords Go.Proofs.YtmnbbhieodcoeaaDoorW.PrintLast Go.Proofs.YtmnbbhieodcoeaaDoorW.PrintMore
open Go.Proofs.YtmnbbhieodcoeaaDoor.PBase Go.Proofs.YtmnbbhieodcoeaaDoor.PScn
set_option linter.unusedVariables false
set_option linter.unusedSimpArgs false
set_option maxHeartbeats 1000000 in
set_option maxRecDepth 100000 in
theorem c53_idle (p q : Addr) (w : World) :
  CallsD Tryd.prog 53 #[.pointer (some p), .pointer (some q)] .returning w fun e u' w' => e = .returned (.tuple #[]) ∧ u' = .returning ∧ w' = w := by
 refine callsD_of_wpS Tryd.func53 rfl fun c₀ cs hu => ?_
 apply wpS_seq
 apply wpS_region
 simp [wpOpsS, go_sem, recoverD, hu, Tryd.ntmps53, Exit.thenS]
 refine wpS_of_wp ?_
 go_wp2_with fail
 cases c₀
 simp_all [bodyPostS, results, Tryd.results53]
theorem assert80 (v : Value) (w : World) : Sem.run Tryd.prog (Instr.typeAssert (.iface 80 v) 20 80 false) w = .ok v w := by
 kernel_rfl
set_option maxHeartbeats 1000000 in
set_option maxRecDepth 100000 in
theorem c53_panicking (b b' : Nat) (x y er at_ : Int) (w : World) (h : w.heap[b]? = some (.cells #[.int .i64 x] 28 (0, 0))) (h' : w.heap[b']? = some (.cells #[.int .i64 y] 3 (0, 0))) (hne : b ≠ b') :
  CallsD Tryd.prog 53 #[.pointer (some ⟨b, 0, none⟩), .pointer (some ⟨b', 0, none⟩)] (.panicking [{ v := failV er at_, recovered := false }]) w fun e u' w' =>
   e = .returned (.tuple #[]) ∧ u' = .panicking [{ v := failV er at_, recovered := true }] ∧ w' = (((w.alloc (.cells #[.int .i64 er, .int .i64 at_] 80 (0, 0))).setCell ⟨b, 0, none⟩ (.int .i64 er)).setCell ⟨b', 0, none⟩ (.int .i64 at_)).drew := by
 unfold failV
 refine callsD_of_wpS Tryd.func53 rfl fun c₀ cs hu => ?_
 apply wpS_seq
 apply wpS_region
 simp [wpOpsS, go_sem, recoverD, hu, Tryd.ntmps53, Exit.thenS]
 have k1 := blk_alloc h (.cells #[.int .i64 er, .int .i64 at_] 80 (0, 0))
 have k2 := blk_alloc h' (.cells #[.int .i64 er, .int .i64 at_] 80 (0, 0))
 have q1 : World.cell? _ ⟨b, 0, none⟩ = some (.int .i64 x) := (blk_cell k1 0).trans rfl
 have q2 : World.cell? _ ⟨b', 0, none⟩ = some (.int .i64 y) := (blk_cell k2 0).trans rfl
 have f1 := blk_frozen k1 0
 have f2 := blk_frozen k2 0
 have hta := assert80 (.agg #[.int .i64 er, .int .i64 at_])
 refine wpS_of_wp ?_
 go_wp2_with fail
 simp only [Array.replicate_succ, Array.replicate_zero, List.push_toArray, List.append_toArray, List.nil_append, List.cons_append, List.setIfInBounds_toArray, List.set_cons_succ, List.set_cons_zero]
 go_region
 cases c₀
 rename_i Q'
 simp_all [Q', bodyPostS, results, Tryd.results53]
structure K2 (w w' : World) (T : Nat → Prop) : Prop where
 os : w'.os = w.os
 tape : w'.tape = w.tape
 output : w'.output = w.output
 size : w.heap.size ≤ w'.heap.size
 block : ∀ k, k < w.heap.size → ¬ T k → w'.heap[k]? = w.heap[k]?
theorem Kp.k2 {w w' : World} {g : Nat} {T : Nat → Prop} (h : Kp w w' g) (hT : T g) : K2 w w' T := ⟨h.os, h.tape, h.output, h.size, fun k hk hn => h.block k hk (fun e => hn (e ▸ hT))⟩
theorem K2.trans {a b c : World} {T : Nat → Prop} (h : K2 a b T) (k : K2 b c T) : K2 a c T :=
 ⟨k.os.trans h.os, k.tape.trans h.tape, k.output.trans h.output, Nat.le_trans h.size k.size, fun i hi hn => (k.block i (Nat.lt_of_lt_of_le hi h.size) hn).trans (h.block i hi hn)⟩
theorem K2.below {w w' : World} {T : Nat → Prop} {N : Nat} (h : K2 w w' T) (h1 : ∀ k, T k → N ≤ k) (h2 : N ≤ w.heap.size) : Below N w w' :=
 ⟨h.os, h.tape, h.output, h.size, fun k hk => h.block k (Nat.lt_of_lt_of_le hk h2) (fun e => by have := h1 k e; omega)⟩
theorem K2.of_below {w w' : World} (T : Nat → Prop) (h : Below w.heap.size w w') : K2 w w' T := ⟨h.os, h.tape, h.output, h.size, fun k hk _ => h.block k hk⟩
abbrev cw (w : World) : World := (w.alloc (.cells #[.int .i64 0] 28 (0, 0))).alloc (.cells #[.int .i64 0] 3 (0, 0))
theorem cw_b (w : World) : (cw w).heap[w.heap.size]? = some (.cells #[.int .i64 0] 28 (0, 0)) := blk_alloc (blk_new w _) _
theorem cw_b' (w : World) : (cw w).heap[w.heap.size + 1]? = some (.cells #[.int .i64 0] 3 (0, 0)) := blk_top _ _ (by rw [size_alloc])
set_option maxHeartbeats 1000000 in
set_option maxRecDepth 100000 in
theorem caught32_ok (v1 v2 : Value) (w : World) (S : World → Prop) (T : Nat → Prop) (n1 : ¬ T w.heap.size) (n2 : ¬ T (w.heap.size + 1))
  (H : Calls Tryd.prog 32 #[v1, v2] (cw w) fun e w' => e = .returned (.tuple #[]) ∧ S w' ∧ K2 (cw w) w' T) :
  Calls Tryd.prog 31 #[.func (.func 32) #[] #[v1, v2]] w fun e w' => e = .returned (.tuple #[.int .i64 0, .int .i64 0]) ∧ ∃ w1, S w1 ∧ K2 (cw w) w1 T ∧ w' = (w1.setCell ⟨w.heap.size, 0, none⟩ (.int .i64 0)).setCell ⟨w.heap.size + 1, 0, none⟩ (.int .i64 0) := by
 have hmf : ∀ (fn : Fn) (first cap : Array Value) (w : World), (Instr.makeFunc fn first cap).run Tryd.prog w = .ok (.func fn first cap) w := fun _ _ _ _ => rfl
 have HH := Aside0.mk H
 clear H
 go_enter_defers Tryd.func31, Tryd.ntmps31
 go_wp2_with fail
 refine HH.out.mono ?_
 rintro _ w1 ⟨rfl, hS, hk⟩
 have l1 := blk_lt (cw_b w)
 have l2 := blk_lt (cw_b' w)
 have k1 := (hk.block _ l1 n1).trans (cw_b w)
 have k2 := (hk.block _ l2 n2).trans (cw_b' w)
 have q1 : World.cell? _ ⟨w.heap.size, 0, none⟩ = some (.int .i64 0) := (blk_cell k1 0).trans rfl
 have q2 : World.cell? _ ⟨w.heap.size + 1, 0, none⟩ = some (.int .i64 0) := (blk_cell k2 0).trans rfl
 have f1 := blk_frozen k1 0
 have f2 := blk_frozen k2 0
 have HS := Aside0.mk hS
 have HK := Aside0.mk hk
 clear hS hk l1 l2
 go_wp2_with fail
 refine leaves_cons (f := 53) (args := #[.pointer (some ⟨w.heap.size, 0, none⟩), .pointer (some ⟨w.heap.size + 1, 0, none⟩)]) (by simp) (by simp [go_sem]) ?_
 refine (c53_idle _ _ _).mono ?_
 rintro e u' w'' ⟨rfl, rfl, rfl⟩
 have m1 := blk_far (blk_put k1 0 (.int .i64 0) rfl) (p := ⟨w.heap.size + 1, 0, none⟩) (by show w.heap.size ≠ w.heap.size + 1; omega) (.int .i64 0)
 have m2 := blk_put (blk_far k2 (p := ⟨w.heap.size, 0, none⟩) (by show w.heap.size + 1 ≠ w.heap.size; omega) (.int .i64 0)) 0 (.int .i64 0) rfl
 have p1 : World.cell? _ ⟨w.heap.size, 0, none⟩ = some (.int .i64 0) := (blk_cell m1 0).trans rfl
 have p2 : World.cell? _ ⟨w.heap.size + 1, 0, none⟩ = some (.int .i64 0) := (blk_cell m2 0).trans rfl
 refine ⟨_, ?_, rfl, _, HS.out, HK.out, rfl⟩
 simp [results, Tryd.results31, go_sem, p1, p2]
set_option maxHeartbeats 1000000 in
set_option maxRecDepth 100000 in
theorem caught32_bad (v1 v2 : Value) (w : World) (T : Nat → Prop) (n1 : ¬ T w.heap.size) (n2 : ¬ T (w.heap.size + 1)) (er at_ : Int)
  (H : Calls Tryd.prog 32 #[v1, v2] (cw w) fun e w' => e = .panicked [{ v := failV er at_, recovered := false }] ∧ K2 (cw w) w' T) :
  Calls Tryd.prog 31 #[.func (.func 32) #[] #[v1, v2]] w fun e w' => e = .returned (.tuple #[.int .i64 er, .int .i64 at_]) ∧ ∃ w1, K2 (cw w) w1 T ∧ w' = (((w1.alloc (.cells #[.int .i64 er, .int .i64 at_] 80 (0, 0))).setCell ⟨w.heap.size, 0, none⟩ (.int .i64 er)).setCell ⟨w.heap.size + 1, 0, none⟩ (.int .i64 at_)).drew := by
 have hmf : ∀ (fn : Fn) (first cap : Array Value) (w : World), (Instr.makeFunc fn first cap).run Tryd.prog w = .ok (.func fn first cap) w := fun _ _ _ _ => rfl
 have HH := Aside0.mk H
 clear H
 go_enter_defers Tryd.func31, Tryd.ntmps31
 go_wp2_with fail
 refine HH.out.mono ?_
 rintro _ w1 ⟨rfl, hk⟩
 have l1 := blk_lt (cw_b w)
 have l2 := blk_lt (cw_b' w)
 have k1 := (hk.block _ l1 n1).trans (cw_b w)
 have k2 := (hk.block _ l2 n2).trans (cw_b' w)
 have HK := Aside0.mk hk
 clear hk l1 l2
 go_wp2_with fail
 refine leaves_cons (f := 53) (args := #[.pointer (some ⟨w.heap.size, 0, none⟩), .pointer (some ⟨w.heap.size + 1, 0, none⟩)]) (by simp) (by simp [go_sem]) ?_
 refine (c53_panicking w.heap.size (w.heap.size + 1) 0 0 er at_ _ k1 k2 (by omega)).mono ?_
 rintro e u' w'' ⟨rfl, rfl, rfl⟩
 have m1 := blk_far (blk_put (blk_alloc k1 (.cells #[.int .i64 er, .int .i64 at_] 80 (0, 0))) 0 (.int .i64 er) rfl) (p := ⟨w.heap.size + 1, 0, none⟩) (by show w.heap.size ≠ w.heap.size + 1; omega) (.int .i64 at_)
 have m2 := blk_put (blk_far (blk_alloc k2 (.cells #[.int .i64 er, .int .i64 at_] 80 (0, 0))) (p := ⟨w.heap.size, 0, none⟩) (by show w.heap.size + 1 ≠ w.heap.size; omega) (.int .i64 er)) 0 (.int .i64 at_) rfl
 have p1 : World.cell? _ ⟨w.heap.size, 0, none⟩ = some (.int .i64 er) := (blk_cell (blk_drew m1) 0).trans rfl
 have p2 : World.cell? _ ⟨w.heap.size + 1, 0, none⟩ = some (.int .i64 at_) := (blk_cell (blk_drew m2) 0).trans rfl
 refine ⟨_, ?_, rfl, _, HK.out, rfl⟩
 simp [results, Tryd.results31, go_sem, p1, p2]
set_option maxHeartbeats 1000000 in
set_option maxRecDepth 100000 in
theorem caught38_ok (v1 v2 : Value) (w : World) (S : World → Prop) (T : Nat → Prop) (n1 : ¬ T w.heap.size) (n2 : ¬ T (w.heap.size + 1))
  (H : Calls Tryd.prog 38 #[v1, v2] (cw w) fun e w' => e = .returned (.tuple #[]) ∧ S w' ∧ K2 (cw w) w' T) :
  Calls Tryd.prog 31 #[.func (.func 38) #[] #[v1, v2]] w fun e w' => e = .returned (.tuple #[.int .i64 0, .int .i64 0]) ∧ ∃ w1, S w1 ∧ K2 (cw w) w1 T ∧ w' = (w1.setCell ⟨w.heap.size, 0, none⟩ (.int .i64 0)).setCell ⟨w.heap.size + 1, 0, none⟩ (.int .i64 0) := by
 have hmf : ∀ (fn : Fn) (first cap : Array Value) (w : World), (Instr.makeFunc fn first cap).run Tryd.prog w = .ok (.func fn first cap) w := fun _ _ _ _ => rfl
 have HH := Aside0.mk H
 clear H
 go_enter_defers Tryd.func31, Tryd.ntmps31
 go_wp2_with fail
 refine HH.out.mono ?_
 rintro _ w1 ⟨rfl, hS, hk⟩
 have l1 := blk_lt (cw_b w)
 have l2 := blk_lt (cw_b' w)
 have k1 := (hk.block _ l1 n1).trans (cw_b w)
 have k2 := (hk.block _ l2 n2).trans (cw_b' w)
 have q1 : World.cell? _ ⟨w.heap.size, 0, none⟩ = some (.int .i64 0) := (blk_cell k1 0).trans rfl
 have q2 : World.cell? _ ⟨w.heap.size + 1, 0, none⟩ = some (.int .i64 0) := (blk_cell k2 0).trans rfl
 have f1 := blk_frozen k1 0
 have f2 := blk_frozen k2 0
 have HS := Aside0.mk hS
 have HK := Aside0.mk hk
 clear hS hk l1 l2
 go_wp2_with fail
 refine leaves_cons (f := 53) (args := #[.pointer (some ⟨w.heap.size, 0, none⟩), .pointer (some ⟨w.heap.size + 1, 0, none⟩)]) (by simp) (by simp [go_sem]) ?_
 refine (c53_idle _ _ _).mono ?_
 rintro e u' w'' ⟨rfl, rfl, rfl⟩
 have m1 := blk_far (blk_put k1 0 (.int .i64 0) rfl) (p := ⟨w.heap.size + 1, 0, none⟩) (by show w.heap.size ≠ w.heap.size + 1; omega) (.int .i64 0)
 have m2 := blk_put (blk_far k2 (p := ⟨w.heap.size, 0, none⟩) (by show w.heap.size + 1 ≠ w.heap.size; omega) (.int .i64 0)) 0 (.int .i64 0) rfl
 have p1 : World.cell? _ ⟨w.heap.size, 0, none⟩ = some (.int .i64 0) := (blk_cell m1 0).trans rfl
 have p2 : World.cell? _ ⟨w.heap.size + 1, 0, none⟩ = some (.int .i64 0) := (blk_cell m2 0).trans rfl
 refine ⟨_, ?_, rfl, _, HS.out, HK.out, rfl⟩
 simp [results, Tryd.results31, go_sem, p1, p2]
set_option maxHeartbeats 1000000 in
set_option maxRecDepth 100000 in
theorem caught38_bad (v1 v2 : Value) (w : World) (T : Nat → Prop) (n1 : ¬ T w.heap.size) (n2 : ¬ T (w.heap.size + 1)) (er at_ : Int)
  (H : Calls Tryd.prog 38 #[v1, v2] (cw w) fun e w' => e = .panicked [{ v := failV er at_, recovered := false }] ∧ K2 (cw w) w' T) :
  Calls Tryd.prog 31 #[.func (.func 38) #[] #[v1, v2]] w fun e w' => e = .returned (.tuple #[.int .i64 er, .int .i64 at_]) ∧ ∃ w1, K2 (cw w) w1 T ∧ w' = (((w1.alloc (.cells #[.int .i64 er, .int .i64 at_] 80 (0, 0))).setCell ⟨w.heap.size, 0, none⟩ (.int .i64 er)).setCell ⟨w.heap.size + 1, 0, none⟩ (.int .i64 at_)).drew := by
 have hmf : ∀ (fn : Fn) (first cap : Array Value) (w : World), (Instr.makeFunc fn first cap).run Tryd.prog w = .ok (.func fn first cap) w := fun _ _ _ _ => rfl
 have HH := Aside0.mk H
 clear H
 go_enter_defers Tryd.func31, Tryd.ntmps31
 go_wp2_with fail
 refine HH.out.mono ?_
 rintro _ w1 ⟨rfl, hk⟩
 have l1 := blk_lt (cw_b w)
 have l2 := blk_lt (cw_b' w)
 have k1 := (hk.block _ l1 n1).trans (cw_b w)
 have k2 := (hk.block _ l2 n2).trans (cw_b' w)
 have HK := Aside0.mk hk
 clear hk l1 l2
 go_wp2_with fail
 refine leaves_cons (f := 53) (args := #[.pointer (some ⟨w.heap.size, 0, none⟩), .pointer (some ⟨w.heap.size + 1, 0, none⟩)]) (by simp) (by simp [go_sem]) ?_
 refine (c53_panicking w.heap.size (w.heap.size + 1) 0 0 er at_ _ k1 k2 (by omega)).mono ?_
 rintro e u' w'' ⟨rfl, rfl, rfl⟩
 have m1 := blk_far (blk_put (blk_alloc k1 (.cells #[.int .i64 er, .int .i64 at_] 80 (0, 0))) 0 (.int .i64 er) rfl) (p := ⟨w.heap.size + 1, 0, none⟩) (by show w.heap.size ≠ w.heap.size + 1; omega) (.int .i64 at_)
 have m2 := blk_put (blk_far (blk_alloc k2 (.cells #[.int .i64 er, .int .i64 at_] 80 (0, 0))) (p := ⟨w.heap.size, 0, none⟩) (by show w.heap.size + 1 ≠ w.heap.size; omega) (.int .i64 er)) 0 (.int .i64 at_) rfl
 have p1 : World.cell? _ ⟨w.heap.size, 0, none⟩ = some (.int .i64 er) := (blk_cell (blk_drew m1) 0).trans rfl
 have p2 : World.cell? _ ⟨w.heap.size + 1, 0, none⟩ = some (.int .i64 at_) := (blk_cell (blk_drew m2) 0).trans rfl
 refine ⟨_, ?_, rfl, _, HK.out, rfl⟩
 simp [results, Tryd.results31, go_sem, p1, p2]
end Go.Proofs.YtmnbbhieodcoeaaDoor.Rt
