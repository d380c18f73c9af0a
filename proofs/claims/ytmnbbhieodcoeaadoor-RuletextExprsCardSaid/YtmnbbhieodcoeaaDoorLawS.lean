/-
  The walk of RuletextSames.
-/
import Derived.Test.YtmnbbhieodcoeaaDoorAwk
import Derived.Test.YtmnbbhieodcoeaaDoorSam
namespace Go.Proofs.YtmnbbhieodcoeaaDoor.Rt
open Go.RowKit Go.Proofs.YtmnbbhieodcoeaaDoorW.PrintWords Go.Proofs.YtmnbbhieodcoeaaDoorW.PrintLast Go.Proofs.YtmnbbhieodcoeaaDoorW.PrintMore
open Go.Proofs.YtmnbbhieodcoeaaDoor.PBase Go.Proofs.YtmnbbhieodcoeaaDoor.PScn
set_option linter.unusedVariables false
set_option linter.unusedSimpArgs false

/-- A call ends in true, and the elder blocks stay. -/
def AllTrue (w : World) (e : Ending) (w' : World) : Prop := e = .returned (.bool true) ∧ Below w.heap.size w w'
theorem below_awake {w W : World} (hb : Below w.heap.size w W) (hT : Tab W) : Calls Tryd.prog 10 #[] W fun e w' => e = .returned (.bool true) ∧ Below w.heap.size w w' :=
  (awake_any W hT).mono fun e w' h => ⟨h.1, below_step hb h.2⟩
/-- A tree that came in: its cells, and what it leads to. -/
structure TC (W : World) (x : S24) (A : Option Addr) (c : Nat) : Prop where
  len : x.f3.length ≤ c
  row : Kd.C k24 W A x.f3.length x.f3
theorem TC.step {W W' : World} {x : S24} {A : Option Addr} {c : Nat} (h : TC W x A c) (hb : Below W.heap.size W W') : TC W' x A c := ⟨h.len, Kd.C_below h.row hb⟩
/-- The variable of a tree that came in. -/
structure TV (W : World) (B : Nat) (x : S24) (A : Option Addr) (c : Nat) : Prop where
  blk : W.heap[B]? = some (.cells #[.int .i64 x.f0, .int .i64 x.f1, .string x.f2, .slice A x.f3.length c] 24 (0, 0))
  tc : TC W x A c
theorem TV.step {W W' : World} {B : Nat} {x : S24} {A : Option Addr} {c : Nat} (h : TV W B x A c) (hb : Below W.heap.size W W') : TV W' B x A c := ⟨blk_below h.blk hb, h.tc.step hb⟩
theorem TV.cs {W : World} {B : Nat} {x : S24} {A : Option Addr} {c : Nat} (h : TV W B x A c) : W.cell? ⟨B, 0, none⟩ = some (.int .i64 x.f0) ∧ W.cell? ⟨B, 1, none⟩ = some (.int .i64 x.f1) ∧ W.cell? ⟨B, 2, none⟩ = some (.string x.f2) ∧ W.cell? ⟨B, 3, none⟩ = some (.slice A x.f3.length c) :=
  ⟨(blk_cell h.blk 0).trans rfl, (blk_cell h.blk 1).trans rfl, (blk_cell h.blk 2).trans rfl, (blk_cell h.blk 3).trans rfl⟩
theorem two_cs {W : World} {G H : Nat} {s t : S24} {A B : Option Addr} {c d : Nat} (h : TV W G s A c) (k : TV W H t B d) : W.cell? ⟨G, 0, none⟩ = some (.int .i64 s.f0) ∧ W.cell? ⟨G, 1, none⟩ = some (.int .i64 s.f1) ∧ W.cell? ⟨G, 2, none⟩ = some (.string s.f2) ∧ W.cell? ⟨G, 3, none⟩ = some (.slice A s.f3.length c) ∧ W.cell? ⟨H, 0, none⟩ = some (.int .i64 t.f0) ∧ W.cell? ⟨H, 1, none⟩ = some (.int .i64 t.f1) ∧ W.cell? ⟨H, 2, none⟩ = some (.string t.f2) ∧ W.cell? ⟨H, 3, none⟩ = some (.slice B t.f3.length d) :=
  ⟨h.cs.1, h.cs.2.1, h.cs.2.2.1, h.cs.2.2.2, k.cs⟩
set_option maxHeartbeats 4000000 in
set_option maxRecDepth 100000 in
theorem sames_true {w : World} (hT : Tab w) (s t : S24) {A B : Option Addr} {c d : Nat} (hs : TC w s A c) (ht : TC w t B d) :
    Calls Tryd.prog 5 #[.agg #[.int .i64 s.f0, .int .i64 s.f1, .string s.f2, .slice A s.f3.length c], .agg #[.int .i64 t.f0, .int .i64 t.f1, .string t.f2, .slice B t.f3.length d]] w (AllTrue w) := by
  obtain ⟨k1, r1, e1, p1, q1, g1⟩ := nodes_any s 1 (by decide) (by decide)
  obtain ⟨k2, r2, e2, p2, q2, g2⟩ := nodes_any t 1 (by decide) (by decide)
  have E1 := Aside0.mk e1
  have E2 := Aside0.mk e2
  have G1 := Aside0.mk g1
  have G2 := Aside0.mk g2
  obtain ⟨W0, hW0⟩ : ∃ W0, W0 = (w.alloc (.cells #[.int .i64 s.f0, .int .i64 s.f1, .string s.f2, .slice A s.f3.length c] 24 (0, 0))).alloc (.cells #[.int .i64 t.f0, .int .i64 t.f1, .string t.f2, .slice B t.f3.length d] 24 (0, 0)) := ⟨_, rfl⟩
  have B0 : Below w.heap.size w W0 := hW0 ▸ below_alloc (below_alloc (Below.refl _ _) _) _
  have S0 : Aside0 (TV W0 w.heap.size s A c) := ⟨hW0 ▸ blk_alloc (blk_new w _) _, hs.step B0⟩
  have T0 : Aside0 (TV W0 (w.heap.size + 1) t B d) := ⟨hW0 ▸ blk_top _ _ (by rw [size_alloc]), ht.step B0⟩
  have HT0 := Aside0.mk (tab_below hT B0)
  have BW0 := Aside0.mk B0
  obtain ⟨s0, s1, s2, s3⟩ := S0.out.cs
  obtain ⟨t0, t1, t2, t3⟩ := T0.out.cs
  clear e1 e2 g1 g2 hs ht hT B0 p1 q1 p2 q2
  go_enter Tryd.func5, Tryd.ntmps5
  go_wp2_with fail
  rw [← hW0]
  clear hW0
  by_cases h1 : 600 < r1
  · refine (sawmilllaw44_nodes.calls k1 _ _ _ A c _ _ _ _ S0.out.tc.row S0.out.tc.len E1.out).mono ?_
    rintro _ w1 ⟨rfl, hb1⟩
    have S1 := Aside0.mk (S0.out.step hb1)
    have T1 := Aside0.mk (T0.out.step hb1)
    have HT1 := Aside0.mk (tab_below HT0.out hb1)
    have BW1 := Aside0.mk (below_step BW0.out hb1)
    clear S0 T0 HT0 BW0 hb1 s0 s1 s2 s3 t0 t1 t2 t3
    obtain ⟨s0, s1, s2, s3⟩ := S1.out.cs
    obtain ⟨t0, t1, t2, t3⟩ := T1.out.cs
    go_wp2_with fail
    refine (below_awake BW1.out HT1.out).mono ?_
    rintro _ w9 ⟨rfl, hb9⟩
    have BW9 := Aside0.mk hb9
    clear hb9
    go_wp2_with fail
    go_ret
    exact ⟨rfl, BW9.out⟩
  refine (sawmilllaw44_nodes.calls k1 _ _ _ A c _ _ _ _ S0.out.tc.row S0.out.tc.len E1.out).mono ?_
  rintro _ w1 ⟨rfl, hb1⟩
  have S1 := Aside0.mk (S0.out.step hb1)
  have T1 := Aside0.mk (T0.out.step hb1)
  have HT1 := Aside0.mk (tab_below HT0.out hb1)
  have BW1 := Aside0.mk (below_step BW0.out hb1)
  clear S0 T0 HT0 BW0 hb1 s0 s1 s2 s3 t0 t1 t2 t3
  obtain ⟨s0, s1, s2, s3⟩ := S1.out.cs
  obtain ⟨t0, t1, t2, t3⟩ := T1.out.cs
  by_cases h2 : 600 < r2
  · go_wp2_with fail
    refine (sawmilllaw44_nodes.calls k2 _ _ _ B d _ _ _ _ T1.out.tc.row T1.out.tc.len E2.out).mono ?_
    rintro _ w2 ⟨rfl, hb2⟩
    have S2 := Aside0.mk (S1.out.step hb2)
    have T2 := Aside0.mk (T1.out.step hb2)
    have HT2 := Aside0.mk (tab_below HT1.out hb2)
    have BW2 := Aside0.mk (below_step BW1.out hb2)
    clear S1 T1 HT1 BW1 hb2 s0 s1 s2 s3 t0 t1 t2 t3
    obtain ⟨s0, s1, s2, s3⟩ := S2.out.cs
    obtain ⟨t0, t1, t2, t3⟩ := T2.out.cs
    go_wp2_with fail
    refine (below_awake BW2.out HT2.out).mono ?_
    rintro _ w9 ⟨rfl, hb9⟩
    have BW9 := Aside0.mk hb9
    clear hb9
    go_wp2_with fail
    go_ret
    exact ⟨rfl, BW9.out⟩
  go_wp2_with fail
  refine (sawmilllaw44_nodes.calls k2 _ _ _ B d _ _ _ _ T1.out.tc.row T1.out.tc.len E2.out).mono ?_
  rintro _ w2 ⟨rfl, hb2⟩
  have S2 := Aside0.mk (S1.out.step hb2)
  have T2 := Aside0.mk (T1.out.step hb2)
  have HT2 := Aside0.mk (tab_below HT1.out hb2)
  have BW2 := Aside0.mk (below_step BW1.out hb2)
  clear S1 T1 HT1 BW1 hb2 s0 s1 s2 s3 t0 t1 t2 t3
  obtain ⟨s0, s1, s2, s3⟩ := S2.out.cs
  obtain ⟨t0, t1, t2, t3⟩ := T2.out.cs
  go_wp2_with fail
  obtain ⟨rs, ⟨k3, e3, e4⟩, g3⟩ := same_is s _ (G1.out (by omega)).2 t
  obtain ⟨rt, ⟨k5, e5, _⟩, g5⟩ := same_is s _ (G1.out (by omega)).2 s
  obtain rfl : rt = true := g5.2 rfl
  have E3 := Aside0.mk e3
  have E4 := Aside0.mk e4
  have E5 := Aside0.mk e5
  clear e3 e4 e5 g3 g5
  go_region_held3 (fun W => W.cell? ⟨w.heap.size, 0, none⟩ = some (.int .i64 s.f0) ∧ W.cell? ⟨w.heap.size, 1, none⟩ = some (.int .i64 s.f1) ∧ W.cell? ⟨w.heap.size, 2, none⟩ = some (.string s.f2) ∧ W.cell? ⟨w.heap.size, 3, none⟩ = some (.slice A s.f3.length c) ∧ W.cell? ⟨(w.heap.size + 1), 0, none⟩ = some (.int .i64 t.f0) ∧ W.cell? ⟨(w.heap.size + 1), 1, none⟩ = some (.int .i64 t.f1) ∧ W.cell? ⟨(w.heap.size + 1), 2, none⟩ = some (.string t.f2) ∧ W.cell? ⟨(w.heap.size + 1), 3, none⟩ = some (.slice B t.f3.length d))
    (first | (refine two_cs (TV.step S2.out ?_) (TV.step T2.out ?_) <;> ((repeat (first | exact D27.out | exact D24.out | exact D19.out | exact D16.out | exact Below.refl _ _ | apply below_alloc | apply pw_below_drewN | apply below_drew1)); done)) | fail)
    (first | (go_at_call 20; (with_reducible refine (ruletext_Same.calls k3 _ _ _ A c _ _ _ _ B d _ _ _ (Kd.C_below S2.out.tc.row ?ha) S2.out.tc.len (Kd.C_below T2.out.tc.row ?hc) T2.out.tc.len E3.out).mono ?_); (case ha => (repeat (first | exact Below.refl _ _ | apply below_alloc | apply pw_below_drewN | apply below_drew1)); done); (case hc => (repeat (first | exact Below.refl _ _ | apply below_alloc | apply pw_below_drewN | apply below_drew1)); done); rintro _ W16 ⟨rfl, hb⟩; have D16 : Aside0 (Below w2.heap.size w2 W16) := ⟨by refine below_step ?_ hb; (repeat (first | exact Below.refl _ _ | apply below_alloc | apply pw_below_drewN | apply below_drew1)); done⟩; clear hb) | (go_at_call 14; (with_reducible refine (sawmillref44_Same.calls k3 _ _ _ A c _ _ _ _ B d _ _ _ (Kd.C_below S2.out.tc.row ?ha) S2.out.tc.len (Kd.C_below T2.out.tc.row ?hc) T2.out.tc.len E4.out).mono ?_); (case ha => (repeat (first | exact D16.out | exact Below.refl _ _ | apply below_alloc | apply pw_below_drewN | apply below_drew1)); done); (case hc => (repeat (first | exact D16.out | exact Below.refl _ _ | apply below_alloc | apply pw_below_drewN | apply below_drew1)); done); rintro _ W19 ⟨rfl, hb⟩; have D19 : Aside0 (Below w2.heap.size w2 W19) := ⟨by refine below_step ?_ hb; (repeat (first | exact D16.out | exact Below.refl _ _ | apply below_alloc | apply pw_below_drewN | apply below_drew1)); done⟩; clear hb) | (go_at_call 20; (with_reducible refine (ruletext_Same.calls k5 _ _ _ A c _ _ _ _ A c _ _ _ (Kd.C_below S2.out.tc.row ?ha) S2.out.tc.len (Kd.C_below S2.out.tc.row ?hc) S2.out.tc.len E5.out).mono ?_); (case ha => (repeat (first | exact D19.out | exact D16.out | exact Below.refl _ _ | apply below_alloc | apply pw_below_drewN | apply below_drew1)); done); (case hc => (repeat (first | exact D19.out | exact D16.out | exact Below.refl _ _ | apply below_alloc | apply pw_below_drewN | apply below_drew1)); done); rintro _ W24 ⟨rfl, hb⟩; have D24 : Aside0 (Below w2.heap.size w2 W24) := ⟨by refine below_step ?_ hb; (repeat (first | exact D19.out | exact D16.out | exact Below.refl _ _ | apply below_alloc | apply pw_below_drewN | apply below_drew1)); done⟩; clear hb) | (go_at_call 10; (with_reducible refine (awake_any _ (tab_below HT2.out ?ha)).mono ?_); (case ha => (repeat (first | exact D24.out | exact D19.out | exact D16.out | exact Below.refl _ _ | apply below_alloc | apply pw_below_drewN | apply below_drew1)); done); rintro _ W27 ⟨rfl, hb⟩; have D27 : Aside0 (Below w2.heap.size w2 W27) := ⟨by refine below_step ?_ hb; (repeat (first | exact D24.out | exact D19.out | exact D16.out | exact Below.refl _ _ | apply below_alloc | apply pw_below_drewN | apply below_drew1)); done⟩; clear hb) | fail)
  all_goals (go_wp2_with fail; go_ret; exact ⟨rfl, below_step BW2.out D27.out⟩)
end Go.Proofs.YtmnbbhieodcoeaaDoor.Rt
