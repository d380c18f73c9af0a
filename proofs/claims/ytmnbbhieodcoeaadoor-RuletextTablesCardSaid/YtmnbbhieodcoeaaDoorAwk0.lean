/-
 awake: what its regions share: the variables a, b, c in their blocks, xo over one tree and over two, the parts of its code.
-/
import Derived.Test.YtmnbbhieodcoeaaDoorXo
namespace Go.Proofs.YtmnbbhieodcoeaaDoor.Rt
open Go.RowKit Go.Proofs.YtmnbbhieodcoeaaDoorW.PrintWords Go.Proofs.YtmnbbhieodcoeaaDoorW.PrintLast Go.Proofs.YtmnbbhieodcoeaaDoorW.PrintMore
open Go.Proofs.YtmnbbhieodcoeaaDoor.PBase Go.Proofs.YtmnbbhieodcoeaaDoor.PScn
set_option linter.unusedVariables false
set_option linter.unusedSimpArgs false
def cutAt : Nat → Code → Code
 | 0, .seq a _ => a
 | 0, c => c
 | n + 1, .seq _ b => cutAt n b
 | _ + 1, c => c
theorem Ex.below {w w' : World} {ok : Nat → Prop} {v : Value} {x : S24} (h : Ex w ok v x) (hb : Below w.heap.size w w') : Ex w' ok v x := by
 obtain ⟨A, c, e, hl, hF⟩ := h
 exact ⟨A, c, e, hl, Kd.F_below hF hb⟩
theorem Ex.bound {w : World} {ok : Nat → Prop} {v : Value} {x : S24} (h : Ex w ok v x) : Ex w (fun k => ok k ∧ k < w.heap.size) v x := by
 obtain ⟨A, c, e, hl, hF⟩ := h
 exact ⟨A, c, e, hl, Kd.F_bound hF⟩
def Xr (w : World) (ok : Nat → Prop) (x : S24) (e : Ending) (w' : World) : Prop := ∃ (s : Nat) (A : Option Addr) (c : Nat), s = w.heap.size ∧ e = .returned (.agg #[.int .i64 x.f0, .int .i64 x.f1, .string x.f2, .slice A x.f3.length c]) ∧ x.f3.length ≤ c ∧ Kd.F k24 w' (fun k => (ok k ∨ s ≤ k) ∧ k < w'.heap.size) A x.f3.length x.f3 ∧ Below w.heap.size w w'
theorem xo2 (op : Int) (x y : S24) (q : Nat) (w : World) (ok1 ok2 : Nat → Prop) {A1 A2 : Option Addr} {c1 c2 : Nat} (h : w.heap[q]? = some (.cells #[.int .i64 x.f0, .int .i64 x.f1, .string x.f2, .slice A1 x.f3.length c1, .int .i64 y.f0, .int .i64 y.f1, .string y.f2, .slice A2 y.f3.length c2] 24 (0, 0))) (l1 : x.f3.length ≤ c1) (F1 : Kd.F k24 w ok1 A1 x.f3.length x.f3) (l2 : y.f3.length ≤ c2) (F2 : Kd.F k24 w ok2 A2 y.f3.length y.f3) :
  Calls Tryd.prog 25 #[.int .i64 op, .slice (some ⟨q, 0, none⟩) 2 2] w (Xr w (fun k => k = q ∨ ok1 k ∨ ok2 k) ⟨op, 0, ⟨#[]⟩, [x, y]⟩) := by
 refine (xo_any op [x, y] (some ⟨q, 0, none⟩) 2 w (fun k => k = q ∨ ok1 k ∨ ok2 k) (Nat.le_refl _) (F_two h (.inl rfl) l1 (Kd.F_mono F1 fun _ h => .inr (.inl h)) l2 (Kd.F_mono F2 fun _ h => .inr (.inr h)))).mono ?_
 rintro e w' ⟨⟨v, rfl, hv⟩, hb⟩
 obtain ⟨A, c, rfl, hl, hF⟩ := hv.bound
 exact ⟨_, A, c, rfl, rfl, hl, hF, hb⟩
theorem xo1 (op : Int) (x : S24) (q : Nat) (w : World) (ok1 : Nat → Prop) {A1 : Option Addr} {c1 : Nat} (h : w.heap[q]? = some (.cells #[.int .i64 x.f0, .int .i64 x.f1, .string x.f2, .slice A1 x.f3.length c1] 24 (0, 0))) (l1 : x.f3.length ≤ c1) (F1 : Kd.F k24 w ok1 A1 x.f3.length x.f3) :
  Calls Tryd.prog 25 #[.int .i64 op, .slice (some ⟨q, 0, none⟩) 1 1] w (Xr w (fun k => k = q ∨ ok1 k) ⟨op, 0, ⟨#[]⟩, [x]⟩) := by
 refine (xo_any op [x] (some ⟨q, 0, none⟩) 1 w (fun k => k = q ∨ ok1 k) (Nat.le_refl _) (F_one h (.inl rfl) l1 (Kd.F_mono F1 fun _ h => .inr h))).mono ?_
 rintro e w' ⟨⟨v, rfl, hv⟩, hb⟩
 obtain ⟨A, c, rfl, hl, hF⟩ := hv.bound
 exact ⟨_, A, c, rfl, rfl, hl, hF, hb⟩
theorem xn1 (n : Int) (w : World) : Calls Tryd.prog 26 #[.int .i64 n] w (Xr w (fun _ => False) (num n)) := by
 refine (xn_any n w).mono ?_
 rintro e w' ⟨⟨v, rfl, hv⟩, hb⟩
 obtain ⟨A, c, rfl, hl, hF⟩ := hv.bound
 exact ⟨_, A, c, rfl, rfl, hl, Kd.F_mono hF (fun k hk => ⟨.inr hk.1, hk.2⟩), hb⟩
theorem sz_a (W : World) (o : Obj) : (W.alloc o).drew.heap.size = W.heap.size + 1 := size_alloc W o
theorem sz_b (W : World) (o o' : Obj) : (((W.alloc o).drew).alloc o').heap.size = W.heap.size + 1 + 1 := (size_alloc _ _).trans (congrArg (fun n => n + 1) (sz_a W o))
structure TB (W : World) (B : Nat) (x : S24) (A : Option Addr) (c : Nat) : Prop where
 blk : W.heap[B]? = some (.cells #[.int .i64 x.f0, .int .i64 x.f1, .string x.f2, .slice A x.f3.length c] 24 (0, 0))
 len : x.f3.length ≤ c
 row : Kd.F k24 W (fun _ => True) A x.f3.length x.f3
theorem TB.step {W W' : World} {B : Nat} {x : S24} {A : Option Addr} {c : Nat} (h : TB W B x A c) (hb : Below W.heap.size W W') : TB W' B x A c :=
 ⟨blk_below h.blk hb, h.len, Kd.F_below h.row hb⟩
theorem TB.bd {W : World} {B : Nat} {x : S24} {A : Option Addr} {c : Nat} (h : TB W B x A c) : Kd.F k24 W (fun k => k < W.heap.size) A x.f3.length x.f3 :=
 Kd.F_mono (Kd.F_bound h.row) (fun _ hk => hk.2)
theorem TB.cs {W : World} {B : Nat} {x : S24} {A : Option Addr} {c : Nat} (h : TB W B x A c) : W.cell? ⟨B, 0, none⟩ = some (.int .i64 x.f0) ∧ W.cell? ⟨B, 1, none⟩ = some (.int .i64 x.f1) ∧ W.cell? ⟨B, 2, none⟩ = some (.string x.f2) ∧ W.cell? ⟨B, 3, none⟩ = some (.slice A x.f3.length c) :=
 ⟨(blk_cell h.blk 0).trans rfl, (blk_cell h.blk 1).trans rfl, (blk_cell h.blk 2).trans rfl, (blk_cell h.blk 3).trans rfl⟩
theorem TB.new {W : World} {ok : Nat → Prop} {x : S24} {A : Option Addr} {c : Nat} (hl : x.f3.length ≤ c) (hF : Kd.F k24 W ok A x.f3.length x.f3) : TB (W.alloc (.cells #[.int .i64 x.f0, .int .i64 x.f1, .string x.f2, .slice A x.f3.length c] 24 (0, 0))) W.heap.size x A c :=
 ⟨blk_new W _, hl, Kd.F_alloc (Kd.F_mono hF (fun _ _ => trivial)) _⟩
theorem TB.put {W : World} {B : Nat} {ok : Nat → Prop} {x : S24} {A : Option Addr} {c : Nat} (hB : W.heap[B]? = some (.cells #[.int .i64 0, .int .i64 0, .string (⟨#[]⟩ : ByteArray), .slice none 0 0] 24 (0, 0))) (hl : x.f3.length ≤ c) (hF : Kd.F k24 W ok A x.f3.length x.f3) (hok : ∀ k, ok k → k ≠ B) :
  TB ((((W.setCell ⟨B, 0, none⟩ (.int .i64 x.f0)).setCell ⟨B, 1, none⟩ (.int .i64 x.f1)).setCell ⟨B, 2, none⟩ (.string x.f2)).setCell ⟨B, 3, none⟩ (.slice A x.f3.length c)) B x A c :=
 ⟨blk_put (blk_put (blk_put (blk_put hB 0 _ rfl) 1 _ rfl) 2 _ rfl) 3 _ rfl, hl, Kd.F_mono (Kd.F_far (Kd.F_far (Kd.F_far (Kd.F_far hF hok _) hok _) hok _) hok _) (fun _ _ => trivial)⟩
theorem put_below {W0 W : World} {N B : Nat} (h : Below N W0 W) (hB : N ≤ B) (v0 v1 v2 v3 : Value) : Below N W0 ((((W.setCell ⟨B, 0, none⟩ v0).setCell ⟨B, 1, none⟩ v1).setCell ⟨B, 2, none⟩ v2).setCell ⟨B, 3, none⟩ v3) :=
 (((h.setCell hB _).setCell hB _).setCell hB _).setCell hB _
structure T3 (W : World) (G1 G2 G3 : Nat) (x y z : S24) (a1 a2 a3 : Option Addr) (c1 c2 c3 : Nat) : Prop where
 hx : TB W G1 x a1 c1
 hy : TB W G2 y a2 c2
 hz : TB W G3 z a3 c3
theorem T3.step {W W' : World} {G1 G2 G3 : Nat} {x y z : S24} {a1 a2 a3 : Option Addr} {c1 c2 c3 : Nat} (h : T3 W G1 G2 G3 x y z a1 a2 a3 c1 c2 c3) (hb : Below W.heap.size W W') : T3 W' G1 G2 G3 x y z a1 a2 a3 c1 c2 c3 := ⟨h.hx.step hb, h.hy.step hb, h.hz.step hb⟩
theorem T3.cs {W : World} {G1 G2 G3 : Nat} {x y z : S24} {a1 a2 a3 : Option Addr} {c1 c2 c3 : Nat} (h : T3 W G1 G2 G3 x y z a1 a2 a3 c1 c2 c3) : W.cell? ⟨G1, 0, none⟩ = some (.int .i64 x.f0) ∧ W.cell? ⟨G1, 1, none⟩ = some (.int .i64 x.f1) ∧ W.cell? ⟨G1, 2, none⟩ = some (.string x.f2) ∧ W.cell? ⟨G1, 3, none⟩ = some (.slice a1 x.f3.length c1) ∧ W.cell? ⟨G2, 0, none⟩ = some (.int .i64 y.f0) ∧ W.cell? ⟨G2, 1, none⟩ = some (.int .i64 y.f1) ∧ W.cell? ⟨G2, 2, none⟩ = some (.string y.f2) ∧ W.cell? ⟨G2, 3, none⟩ = some (.slice a2 y.f3.length c2) ∧ W.cell? ⟨G3, 0, none⟩ = some (.int .i64 z.f0) ∧ W.cell? ⟨G3, 1, none⟩ = some (.int .i64 z.f1) ∧ W.cell? ⟨G3, 2, none⟩ = some (.string z.f2) ∧ W.cell? ⟨G3, 3, none⟩ = some (.slice a3 z.f3.length c3) :=
 ⟨(blk_cell h.hx.blk 0).trans rfl, (blk_cell h.hx.blk 1).trans rfl, (blk_cell h.hx.blk 2).trans rfl, (blk_cell h.hx.blk 3).trans rfl, (blk_cell h.hy.blk 0).trans rfl, (blk_cell h.hy.blk 1).trans rfl, (blk_cell h.hy.blk 2).trans rfl, (blk_cell h.hy.blk 3).trans rfl, (blk_cell h.hz.blk 0).trans rfl, (blk_cell h.hz.blk 1).trans rfl, (blk_cell h.hz.blk 2).trans rfl, (blk_cell h.hz.blk 3).trans rfl⟩
end Go.Proofs.YtmnbbhieodcoeaaDoor.Rt
