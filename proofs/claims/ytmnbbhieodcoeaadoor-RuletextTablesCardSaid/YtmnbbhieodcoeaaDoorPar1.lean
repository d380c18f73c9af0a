/-
 The parser's loops: term, conj and expr come to what the grammar's Lean function says.
-/
import Derived.Test.YtmnbbhieodcoeaaDoorPar0
namespace Go.Proofs.YtmnbbhieodcoeaaDoor.Rt
open Go.RowKit Go.Proofs.YtmnbbhieodcoeaaDoorW.PrintWords Go.Proofs.YtmnbbhieodcoeaaDoorW.PrintLast Go.Proofs.YtmnbbhieodcoeaaDoorW.PrintMore
open Go.Proofs.YtmnbbhieodcoeaaDoor.PBase Go.Proofs.YtmnbbhieodcoeaaDoor.PScn
set_option linter.unusedVariables false
set_option linter.unusedSimpArgs false
def Con (F : Nat) (p : List S48 → Nat → Option Rz) : Prop :=
 ∀ (w : World) (g : Nat) (ls : List S48) (i : Nat) (A : Option Addr) (c : Nat) (r : Rz), PS w g ls i A c → p ls i = some r → Calls Tryd.prog F #[.pointer (some ⟨g, 0, none⟩)] w (PP w g ls A c r)
structure TL (w wr : World) (g G R : Nat) (ls : List S48) (j : Nat) (A : Option Addr) (c : Nat) (x : S24) (a3 : Option Addr) (c3 : Nat) : Prop where
 kp : Kp w wr g
 ps : PS wr g ls j A c
 eb : wr.heap[G]? = some (.cells #[.int .i64 x.f0, .int .i64 x.f1, .string x.f2, .slice a3 x.f3.length c3] 24 (0, 0))
 el : x.f3.length ≤ c3
 ef : Kd.F k24 wr (fun k => R < k ∧ k ≠ G) a3 x.f3.length x.f3
 rb : wr.heap[R]? = some (.cells #[.int .i64 0, .int .i64 0, .string (⟨#[]⟩ : ByteArray), .slice none 0 0] 24 (0, 0))
 gR : g < R
 RG : R < G
theorem TL.below {w W W' : World} {g G R : Nat} {ls : List S48} {j : Nat} {A : Option Addr} {c : Nat} {x : S24} {a3 : Option Addr} {c3 : Nat} (h : TL w W g G R ls j A c x a3 c3) (hb : Below W.heap.size W W') : TL w W' g G R ls j A c x a3 c3 :=
 ⟨h.kp.then_below hb, h.ps.kp hb, blk_below h.eb hb, h.el, Kd.F_below h.ef hb, blk_below h.rb hb, h.gR, h.RG⟩
theorem TL.drewN {w W : World} {g G R : Nat} {ls : List S48} {j : Nat} {A : Option Addr} {c : Nat} {x : S24} {a3 : Option Addr} {c3 : Nat} (h : TL w W g G R ls j A c x a3 c3) (n : Nat) : TL w (W.drewN n) g G R ls j A c x a3 c3 := h.below (pw_below_drewN (Below.refl _ _) n)
theorem TL.keep {w W W' : World} {g G R : Nat} {ls : List S48} {j j' : Nat} {A : Option Addr} {c : Nat} {x : S24} {a3 : Option Addr} {c3 : Nat} (h : TL w W g G R ls j A c x a3 c3) (hk : Kp W W' g) (hp : PS W' g ls j' A c) : TL w W' g G R ls j' A c x a3 c3 := by
 have h1 := h.gR
 have h2 := h.RG
 exact ⟨h.kp.trans hk, hp, (hk.block G (blk_lt h.eb) (by omega)).trans h.eb, h.el, Kd.F_step h.ef (fun k_ hk_ hlt => hk.block k_ hlt (by omega)), (hk.block R (blk_lt h.rb) (by omega)).trans h.rb, h1, h2⟩
theorem TL.drew {w W : World} {g G R : Nat} {ls : List S48} {j : Nat} {A : Option Addr} {c : Nat} {x : S24} {a3 : Option Addr} {c3 : Nat} (h : TL w W g G R ls j A c x a3 c3) : TL w W.drew g G R ls j A c x a3 c3 := h.below (below_drew1 (Below.refl _ _))
def ES (W : World) (G : Nat) (x : S24) (a3 : Option Addr) (c3 : Nat) : Prop :=
 W.cell? ⟨G, 0, none⟩ = some (.int .i64 x.f0) ∧ W.cell? ⟨G, 1, none⟩ = some (.int .i64 x.f1) ∧ W.cell? ⟨G, 2, none⟩ = some (.string x.f2) ∧ W.cell? ⟨G, 3, none⟩ = some (.slice a3 x.f3.length c3) ∧
 W.frozen? ⟨G, 0, none⟩ = false ∧ W.frozen? ⟨G, 1, none⟩ = false ∧ W.frozen? ⟨G, 2, none⟩ = false ∧ W.frozen? ⟨G, 3, none⟩ = false
theorem TL.es {w W : World} {g G R : Nat} {ls : List S48} {j : Nat} {A : Option Addr} {c : Nat} {x : S24} {a3 : Option Addr} {c3 : Nat} (h : TL w W g G R ls j A c x a3 c3) : ES W G x a3 c3 :=
 ⟨(blk_cell h.eb 0).trans rfl, (blk_cell h.eb 1).trans rfl, (blk_cell h.eb 2).trans rfl, (blk_cell h.eb 3).trans rfl, blk_frozen h.eb 0, blk_frozen h.eb 1, blk_frozen h.eb 2, blk_frozen h.eb 3⟩
theorem TL.store {w W : World} {g G R : Nat} {ls : List S48} {j : Nat} {A : Option Addr} {c : Nat} {x y : S24} {a3 a5 : Option Addr} {c3 c5 : Nat} (h : TL w W g G R ls j A c x a3 c3) (hw : w.heap.size ≤ G) (l5 : y.f3.length ≤ c5) (f5 : Kd.F k24 W (fun k => R < k ∧ k ≠ G) a5 y.f3.length y.f3) :
  TL w ((((W.setCell ⟨G, 0, none⟩ (.int .i64 y.f0)).setCell ⟨G, 1, none⟩ (.int .i64 y.f1)).setCell ⟨G, 2, none⟩ (.string y.f2)).setCell ⟨G, 3, none⟩ (.slice a5 y.f3.length c5)) g G R ls j A c y a5 c5 := by
 have h1 := h.gR
 have h2 := h.RG
 refine ⟨(((h.kp.put hw _ _).put hw _ _).put hw _ _).put hw _ _, (((h.ps.put (by omega) _ _).put (by omega) _ _).put (by omega) _ _).put (by omega) _ _, ?_, l5, ?_, ?_, h1, h2⟩
 ·exact blk_put (cs := #[.int .i64 y.f0, .int .i64 y.f1, .string y.f2, .slice a3 x.f3.length c3]) (blk_put (cs := #[.int .i64 y.f0, .int .i64 y.f1, .string x.f2, .slice a3 x.f3.length c3]) (blk_put (cs := #[.int .i64 y.f0, .int .i64 x.f1, .string x.f2, .slice a3 x.f3.length c3]) (blk_put h.eb 0 _ rfl) 1 _ rfl) 2 _ rfl) 3 _ rfl
 ·have hn : ∀ k, (R < k ∧ k ≠ G) → k ≠ G := fun k hk => hk.2
  exact Kd.F_far (Kd.F_far (Kd.F_far (Kd.F_far f5 hn _) hn _) hn _) hn _
 ·have hn : R ≠ G := by omega
  exact blk_far (blk_far (blk_far (blk_far h.rb hn _) hn _) hn _) hn _
theorem tl_new {w W : World} {g G R : Nat} {ls : List S48} {j : Nat} {A : Option Addr} {c : Nat} {x : S24} {a3 : Option Addr} {c3 k : Nat} (h : TL w W g G R ls j A c x a3 c3) (hk : W.heap.size ≤ k) : R < k ∧ k ≠ G := by
 have h1 := blk_lt h.eb
 have h2 := h.RG
 omega
theorem tl_new2 {w W : World} {g G R : Nat} {ls : List S48} {j : Nat} {A : Option Addr} {c : Nat} {x : S24} {a3 : Option Addr} {c3 k : Nat} (h : TL w W g G R ls j A c x a3 c3) (hk : (R < k ∧ k ≠ G) ∨ W.heap.size ≤ k) : R < k ∧ k ≠ G := hk.elim id (tl_new h)
theorem ex_mk {W : World} {ok : Nat → Prop} {x : S24} {a3 : Option Addr} {c3 : Nat} (l : x.f3.length ≤ c3) (f : Kd.F k24 W ok a3 x.f3.length x.f3) : Ex W ok (.agg #[.int .i64 x.f0, .int .i64 x.f1, .string x.f2, .slice a3 x.f3.length c3]) x := ⟨a3, c3, rfl, l, f⟩
theorem TL.ret {w W : World} {g G : Nat} {ls : List S48} {j : Nat} {A : Option Addr} {c : Nat} {x : S24} {a3 : Option Addr} {c3 : Nat} (h : TL w W g G w.heap.size ls j A c x a3 c3) :
  PP w g ls A c (.ok x j) (.returned (.agg #[.int .i64 x.f0, .int .i64 x.f1, .string x.f2, .slice a3 x.f3.length c3])) ((((W.setCell ⟨w.heap.size, 0, none⟩ (.int .i64 x.f0)).setCell ⟨w.heap.size, 1, none⟩ (.int .i64 x.f1)).setCell ⟨w.heap.size, 2, none⟩ (.string x.f2)).setCell ⟨w.heap.size, 3, none⟩ (.slice a3 x.f3.length c3)) ∧
  ((((W.setCell ⟨w.heap.size, 0, none⟩ (.int .i64 x.f0)).setCell ⟨w.heap.size, 1, none⟩ (.int .i64 x.f1)).setCell ⟨w.heap.size, 2, none⟩ (.string x.f2)).setCell ⟨w.heap.size, 3, none⟩ (.slice a3 x.f3.length c3)).heap[w.heap.size]? = some (.cells #[.int .i64 x.f0, .int .i64 x.f1, .string x.f2, .slice a3 x.f3.length c3] 24 (0, 0)) := by
 have h1 := h.gR
 have hn : ∀ k, (w.heap.size < k ∧ k ≠ G) → k ≠ w.heap.size := fun k hk => by omega
 refine ⟨⟨⟨_, rfl, ex_mk h.el (Kd.F_mono (Kd.F_far (Kd.F_far (Kd.F_far (Kd.F_far h.ef hn _) hn _) hn _) hn _) (fun k hk => by omega))⟩, (((h.kp.put (Nat.le_refl _) _ _).put (Nat.le_refl _) _ _).put (Nat.le_refl _) _ _).put (Nat.le_refl _) _ _, (((h.ps.put h1 _ _).put h1 _ _).put h1 _ _).put h1 _ _⟩, ?_⟩
 exact blk_put (cs := #[.int .i64 x.f0, .int .i64 x.f1, .string x.f2, .slice none 0 0]) (blk_put (cs := #[.int .i64 x.f0, .int .i64 x.f1, .string (⟨#[]⟩ : ByteArray), .slice none 0 0]) (blk_put (cs := #[.int .i64 x.f0, .int .i64 0, .string (⟨#[]⟩ : ByteArray), .slice none 0 0]) (blk_put h.rb 0 _ rfl) 1 _ rfl) 2 _ rfl) 3 _ rfl
theorem TL.rs {w W : World} {g G R : Nat} {ls : List S48} {j : Nat} {A : Option Addr} {c : Nat} {x : S24} {a3 : Option Addr} {c3 : Nat} (h : TL w W g G R ls j A c x a3 c3) :
  W.cell? ⟨R, 0, none⟩ = some (.int .i64 0) ∧ W.cell? ⟨R, 1, none⟩ = some (.int .i64 0) ∧ W.cell? ⟨R, 2, none⟩ = some (.string (⟨#[]⟩ : ByteArray)) ∧ W.cell? ⟨R, 3, none⟩ = some (.slice none 0 0) ∧
  W.frozen? ⟨R, 0, none⟩ = false ∧ W.frozen? ⟨R, 1, none⟩ = false ∧ W.frozen? ⟨R, 2, none⟩ = false ∧ W.frozen? ⟨R, 3, none⟩ = false :=
 ⟨(blk_cell h.rb 0).trans rfl, (blk_cell h.rb 1).trans rfl, (blk_cell h.rb 2).trans rfl, (blk_cell h.rb 3).trans rfl, blk_frozen h.rb 0, blk_frozen h.rb 1, blk_frozen h.rb 2, blk_frozen h.rb 3⟩
set_option maxHeartbeats 1000000 in
set_option maxRecDepth 100000 in
theorem term_con {k : Nat} (HC : ∀ k', k' ≤ k → Con 100 (pFac k')) : Con 99 (pTrm (k + 1)) := by
 intro w g ls i A c r h hp
 rw [pTrm] at hp
 have hg := blk_lt h.blk
 have h1 := h.kp (below_alloc (Below.refl _ w) (.cells #[.int .i64 0, .int .i64 0, .string (⟨#[]⟩ : ByteArray), .slice none 0 0] 24 (0, 0)))
 have hz := blk_new w (.cells #[.int .i64 0, .int .i64 0, .string (⟨#[]⟩ : ByteArray), .slice none 0 0] 24 (0, 0))
 have K0 := Aside0.mk (Kp.of_below g (below_alloc (Below.refl _ w) (.cells #[.int .i64 0, .int .i64 0, .string (⟨#[]⟩ : ByteArray), .slice none 0 0] 24 (0, 0))))
 have HP1 := Aside0.mk h1
 have HZ := Aside0.mk hz
 have sz := size_alloc w (.cells #[.int .i64 0, .int .i64 0, .string (⟨#[]⟩ : ByteArray), .slice none 0 0] 24 (0, 0))
 cases hr : pFac k ls i with
 | none => rw [hr] at hp; exact absurd hp (by simp [bindR])
 | some r1 =>
 have H1 := Aside0.mk (HC k (Nat.le_refl _) _ _ _ _ _ _ _ h1 hr)
 rw [hr] at hp
 clear h h1 hz hr
 cases r1 with
 | bad er at_ =>
  simp only [bindR, Option.some.injEq] at hp
  subst hp
  go_enter Tryd.func99, Tryd.ntmps99
  go_wp2_with fail
  refine H1.out.mono ?_
  rintro _ w1 ⟨rfl, hk⟩
  have K1 := Aside0.mk hk
  clear hk
  go_wp2_with fail
  exact ⟨rfl, rfl, K0.out.trans K1.out⟩
 | ok x j =>
  replace hp : pTrmL k ls j x = some r := hp
  have HL := Aside0.mk hp
  clear hp
  go_enter Tryd.func99, Tryd.ntmps99
  go_wp2_with fail
  refine H1.out.mono ?_
  rintro _ w1 ⟨⟨_, rfl, a3, c3, rfl, l3, f3⟩, hk, hp⟩
  have hRG := hk.size
  rw [sz] at hRG
  have RB := (hk.block w.heap.size (by omega) (by omega)).trans HZ.out
  have B1 := below_alloc (Below.refl _ w1) (.cells #[.int .i64 x.f0, .int .i64 x.f1, .string x.f2, .slice a3 x.f3.length c3] 24 (0, 0))
  have T0 : Aside0 (TL w (w1.alloc (.cells #[.int .i64 x.f0, .int .i64 x.f1, .string x.f2, .slice a3 x.f3.length c3] 24 (0, 0))) g w1.heap.size w.heap.size ls j A c x a3 c3) := ⟨⟨(K0.out.trans hk).then_below B1, hp.kp B1, blk_new w1 _, l3, Kd.F_below (Kd.F_mono (Kd.F_bound f3) (fun k_ hk_ => ⟨by have := hk_.1; rw [sz] at this; omega, by have := hk_.2; omega⟩)) B1, blk_alloc RB _, hg, by omega⟩⟩
  clear hk hp l3 f3 RB B1 hRG
  go_wp2_with fail
  go_loopg [] k (fun kq wr => ∃ (x : S24) (j : Nat) (a3 : Option Addr) (c3 : Nat), Aside0 (pTrmL kq ls j x = some r) ∧ Aside0 (kq ≤ k) ∧ Aside0 (TL w wr g w1.heap.size w.heap.size ls j A c x a3 c3))
  case atStart => exact ⟨x, j, a3, c3, HL, ⟨Nat.le_refl _⟩, T0⟩
  case round =>
   clear HL T0
   obtain ⟨x, j, a3, c3, HL, HK, HT⟩ := hrel
   cases gk with
   | zero => exact absurd HL.out (by simp [pTrmL])
   | succ kq =>
   have hp := HL.out
   rw [pTrmL] at hp
   have HA := Aside0.mk (accept_any HT.out.ps (⟨#[42]⟩ : ByteArray))
   unfold acc at HA
   by_cases hw : isW (pk ls j) bMul = true
   ·rw [if_pos hw] at hp
    have hw' : isW (pk ls j) (⟨#[42]⟩ : ByteArray) = true := hw
    rw [hw', if_pos rfl] at HA
    clear hw hw' HL
    cases hr : pFac kq ls (j + 1) with
    | none => rw [hr] at hp; exact absurd hp (by simp [bindR])
    | some r2 =>
    rw [hr] at hp
    have H2 := Aside0.mk (fun w A c h => HC kq (by have := HK.out; omega) w g ls (j + 1) A c r2 h hr)
    clear hr
    have HPP := Aside0.mk hp
    clear hp
    go_wp2_with fail
    refine HA.out.mono ?_
    rintro _ w2 ⟨rfl, hk2, hp2⟩
    have T2 := Aside0.mk (HT.out.keep hk2 hp2)
    clear hk2 hp2 HT HA
    go_wp2_with fail
    cases r2 with
    | bad er at_ =>
     have hp := HPP.out
     simp only [bindR, Option.some.injEq] at hp
     subst hp
     obtain ⟨q0, q1, q2, q3, f0, f1, f2, f3⟩ := T2.out.es
     refine wp_region_any (by kernel_rfl) ?_
     (try (change wpAny _ _ _ _ _ _ _ (World.drew _)))
     refine wpAny_take (i := 1) (v := .pointer (some ⟨g, 0, none⟩)) rfl (by kernel_rfl) (by kernel_rfl) (by kernel_rfl) (fun _ _ _ h => h) (Or.inl ⟨by rfl, fun w => by go_simp⟩) ?_
     refine wpAny_ready (rs := [0, 2]) (by kernel_rfl) (by simp) ?_
     refine AllReady.cons rfl (fun K hK => ?_) ?_
     ·go_simp
      refine hK _ _ ?_
      clear hK K
      refine wpAny_ready (rs := [2]) (by kernel_rfl) (by simp) ?_
      refine AllReady.cons rfl (fun K hK => ?_) AllReady.nil
      go_simp
      go_wp2_with fail
      refine (H2.out _ A c (by first | exact T2.out.ps | exact T2.out.drew.ps | exact T2.out.drew.drew.ps)).mono ?_
      rintro e W1 ⟨rfl, hk3⟩
      go_wp2_with fail
      exact ⟨rfl, rfl, by first | exact T2.out.kp.trans hk3 | exact T2.out.drew.kp.trans hk3⟩
     ·refine AllReady.cons rfl (fun K hK => ?_) AllReady.nil
      go_simp
      go_wp2_with fail
      refine (H2.out _ A c (by first | exact T2.out.ps | exact T2.out.drew.ps | exact T2.out.drew.drew.ps)).mono ?_
      rintro e W1 ⟨rfl, hk3⟩
      go_wp2_with fail
      exact ⟨rfl, rfl, by first | exact T2.out.kp.trans hk3 | exact T2.out.drew.kp.trans hk3⟩
    | ok y j2 =>
     have hp : pTrmL kq ls j2 (two 5 x y) = some r := HPP.out
     have HL2 := Aside0.mk hp
     clear hp HPP
     obtain ⟨q0, q1, q2, q3, f0, f1, f2, f3⟩ := T2.out.es
     refine wp_region_any (by kernel_rfl) ?_
     (try (change wpAny _ _ _ _ _ _ _ (World.drew _)))
     refine wpAny_take (i := 1) (v := .pointer (some ⟨g, 0, none⟩)) rfl (by kernel_rfl) (by kernel_rfl) (by kernel_rfl) (fun _ _ _ h => h) (Or.inl ⟨by rfl, fun w => by go_simp⟩) ?_
     refine wpAny_ready (rs := [0, 2]) (by kernel_rfl) (by simp) ?_
     refine AllReady.cons rfl (fun K hK => ?_) ?_
     ·go_simp
      refine hK _ _ ?_
      clear hK K
      refine wpAny_ready (rs := [2]) (by kernel_rfl) (by simp) ?_
      refine AllReady.cons rfl (fun K hK => ?_) AllReady.nil
      go_simp
      go_wp2_with fail
      refine (H2.out _ A c T2.out.drew.ps).mono ?_
      rintro e W1 ⟨⟨_, rfl, a4, c4, rfl, l4, f4⟩, hk3, hp3⟩
      have T3 := Aside0.mk (T2.out.drew.keep hk3 hp3)
      have Y := Aside0.mk (Kd.F_mono f4 (fun k_ hk_ => tl_new T2.out.drew hk_))
      clear f4 hk3 hp3
      go_wp2_with fail
      refine wpAny_ready (rs := [3]) (by kernel_rfl) (by simp) ?_
      refine AllReady.cons rfl (fun K hK => ?_) AllReady.nil
      go_simp
      go_wp2_with fail
      refine (two_any (ok := fun k_ => w.heap.size < k_ ∧ k_ ≠ w1.heap.size) 5 _ _ x y (ex_mk T3.out.el T3.out.ef) (ex_mk l4 Y.out)).mono ?_
      rintro e W2 ⟨⟨_, rfl, a5, c5, rfl, l5, f5⟩, hb5⟩
      have T4 := Aside0.mk (T3.out.below hb5)
      have Z := Aside0.mk (Kd.F_mono f5 (fun k_ hk_ => tl_new2 T3.out hk_))
      clear f5 hb5
      obtain ⟨p0, p1, p2, p3, g0, g1, g2, g3⟩ := T4.out.es
      go_wp2_with fail
      refine wpAny_ready (rs := [4]) (by kernel_rfl) (by simp) ?_
      refine AllReady.cons rfl (fun K hK => ?_) AllReady.nil
      go_simp
      refine hK _ _ ?_
      clear hK K
      refine wpAny_done (by kernel_rfl) ?_ _
      go_wp2_with fail
      go_roundg kq
      case measure => omega
      case rel => exact ⟨two 5 x y, j2, a5, c5, HL2, ⟨by have := HK.out; omega⟩, ⟨T4.out.store (by have := T4.out.RG; omega) l5 Z.out⟩⟩
     ·refine AllReady.cons rfl (fun K hK => ?_) AllReady.nil
      go_simp
      go_wp2_with fail
      refine (H2.out _ A c T2.out.drew.ps).mono ?_
      rintro e W1 ⟨⟨_, rfl, a4, c4, rfl, l4, f4⟩, hk3, hp3⟩
      have T3 := Aside0.mk (T2.out.drew.keep hk3 hp3)
      have Y := Aside0.mk (Kd.F_mono f4 (fun k_ hk_ => tl_new T2.out.drew hk_))
      clear f4 hk3 hp3
      obtain ⟨s0, s1, s2, s3, t0, t1, t2, t3⟩ := T3.out.es
      go_wp2_with fail
      refine wpAny_ready (rs := [0]) (by kernel_rfl) (by simp) ?_
      refine AllReady.cons rfl (fun K hK => ?_) AllReady.nil
      go_simp
      refine hK _ _ ?_
      clear hK K
      refine wpAny_ready (rs := [3]) (by kernel_rfl) (by simp) ?_
      refine AllReady.cons rfl (fun K hK => ?_) AllReady.nil
      go_simp
      go_wp2_with fail
      refine (two_any (ok := fun k_ => w.heap.size < k_ ∧ k_ ≠ w1.heap.size) 5 _ _ x y (ex_mk T3.out.el T3.out.ef) (ex_mk l4 Y.out)).mono ?_
      rintro e W2 ⟨⟨_, rfl, a5, c5, rfl, l5, f5⟩, hb5⟩
      have T4 := Aside0.mk (T3.out.below hb5)
      have Z := Aside0.mk (Kd.F_mono f5 (fun k_ hk_ => tl_new2 T3.out hk_))
      clear f5 hb5
      obtain ⟨p0, p1, p2, p3, g0, g1, g2, g3⟩ := T4.out.es
      go_wp2_with fail
      refine wpAny_ready (rs := [4]) (by kernel_rfl) (by simp) ?_
      refine AllReady.cons rfl (fun K hK => ?_) AllReady.nil
      go_simp
      refine hK _ _ ?_
      clear hK K
      refine wpAny_done (by kernel_rfl) ?_ _
      go_wp2_with fail
      go_roundg kq
      case measure => omega
      case rel => exact ⟨two 5 x y, j2, a5, c5, HL2, ⟨by have := HK.out; omega⟩, ⟨T4.out.store (by have := T4.out.RG; omega) l5 Z.out⟩⟩
   ·rw [if_neg hw] at hp
    have hw' : isW (pk ls j) (⟨#[42]⟩ : ByteArray) = false := Bool.eq_false_iff.2 hw
    rw [hw', if_neg (by decide)] at HA
    clear hw hw' HL
    cases hp
    go_wp2_with fail
    refine HA.out.mono ?_
    rintro _ w2 ⟨rfl, hk2, hp2⟩
    have T2 := Aside0.mk (HT.out.keep hk2 hp2)
    clear hk2 hp2 HT HA
    obtain ⟨q0, q1, q2, q3, f0, f1, f2, f3⟩ := T2.out.es
    obtain ⟨p0, p1, p2, p3, g0, g1, g2, g3⟩ := T2.out.rs
    have hRG := T2.out.RG
    go_wp2_with fail
    have hfin := T2.out.ret
    refine bodyPost_ret (results_cell_row rfl _ _ w.heap.size 24 _ (0, 0) _ rfl hfin.2 Tryd.underlying24 rfl (by kernel_rfl)) rfl ?_
    exact hfin.1
set_option maxHeartbeats 1000000 in
set_option maxRecDepth 100000 in
theorem conj_con {k : Nat} (HC : ∀ k', k' ≤ k → Con 83 (pNeg k')) : Con 76 (pCnj (k + 1)) := by
 intro w g ls i A c r h hp
 rw [pCnj] at hp
 have hg := blk_lt h.blk
 have h1 := h.kp (below_alloc (Below.refl _ w) (.cells #[.int .i64 0, .int .i64 0, .string (⟨#[]⟩ : ByteArray), .slice none 0 0] 24 (0, 0)))
 have hz := blk_new w (.cells #[.int .i64 0, .int .i64 0, .string (⟨#[]⟩ : ByteArray), .slice none 0 0] 24 (0, 0))
 have K0 := Aside0.mk (Kp.of_below g (below_alloc (Below.refl _ w) (.cells #[.int .i64 0, .int .i64 0, .string (⟨#[]⟩ : ByteArray), .slice none 0 0] 24 (0, 0))))
 have HP1 := Aside0.mk h1
 have HZ := Aside0.mk hz
 have sz := size_alloc w (.cells #[.int .i64 0, .int .i64 0, .string (⟨#[]⟩ : ByteArray), .slice none 0 0] 24 (0, 0))
 cases hr : pNeg k ls i with
 | none => rw [hr] at hp; exact absurd hp (by simp [bindR])
 | some r1 =>
 have H1 := Aside0.mk (HC k (Nat.le_refl _) _ _ _ _ _ _ _ h1 hr)
 rw [hr] at hp
 clear h h1 hz hr
 cases r1 with
 | bad er at_ =>
  simp only [bindR, Option.some.injEq] at hp
  subst hp
  go_enter Tryd.func76, Tryd.ntmps76
  go_wp2_with fail
  refine H1.out.mono ?_
  rintro _ w1 ⟨rfl, hk⟩
  have K1 := Aside0.mk hk
  clear hk
  go_wp2_with fail
  exact ⟨rfl, rfl, K0.out.trans K1.out⟩
 | ok x j =>
  replace hp : pCnjL k ls j x = some r := hp
  have HL := Aside0.mk hp
  clear hp
  go_enter Tryd.func76, Tryd.ntmps76
  go_wp2_with fail
  refine H1.out.mono ?_
  rintro _ w1 ⟨⟨_, rfl, a3, c3, rfl, l3, f3⟩, hk, hp⟩
  have hRG := hk.size
  rw [sz] at hRG
  have RB := (hk.block w.heap.size (by omega) (by omega)).trans HZ.out
  have B1 := below_alloc (Below.refl _ w1) (.cells #[.int .i64 x.f0, .int .i64 x.f1, .string x.f2, .slice a3 x.f3.length c3] 24 (0, 0))
  have T0 : Aside0 (TL w (w1.alloc (.cells #[.int .i64 x.f0, .int .i64 x.f1, .string x.f2, .slice a3 x.f3.length c3] 24 (0, 0))) g w1.heap.size w.heap.size ls j A c x a3 c3) := ⟨⟨(K0.out.trans hk).then_below B1, hp.kp B1, blk_new w1 _, l3, Kd.F_below (Kd.F_mono (Kd.F_bound f3) (fun k_ hk_ => ⟨by have := hk_.1; rw [sz] at this; omega, by have := hk_.2; omega⟩)) B1, blk_alloc RB _, hg, by omega⟩⟩
  clear hk hp l3 f3 RB B1 hRG
  go_wp2_with fail
  go_loopg [] k (fun kq wr => ∃ (x : S24) (j : Nat) (a3 : Option Addr) (c3 : Nat), Aside0 (pCnjL kq ls j x = some r) ∧ Aside0 (kq ≤ k) ∧ Aside0 (TL w wr g w1.heap.size w.heap.size ls j A c x a3 c3))
  case atStart => exact ⟨x, j, a3, c3, HL, ⟨Nat.le_refl _⟩, T0⟩
  case round =>
   clear HL T0
   obtain ⟨x, j, a3, c3, HL, HK, HT⟩ := hrel
   cases gk with
   | zero => exact absurd HL.out (by simp [pCnjL])
   | succ kq =>
   have hp := HL.out
   rw [pCnjL] at hp
   have HA := Aside0.mk (accept_any HT.out.ps (⟨#[97, 110, 100]⟩ : ByteArray))
   unfold acc at HA
   by_cases hw : isW (pk ls j) bAnd = true
   ·rw [if_pos hw] at hp
    have hw' : isW (pk ls j) (⟨#[97, 110, 100]⟩ : ByteArray) = true := hw
    rw [hw', if_pos rfl] at HA
    clear hw hw' HL
    cases hr : pNeg kq ls (j + 1) with
    | none => rw [hr] at hp; exact absurd hp (by simp [bindR])
    | some r2 =>
    rw [hr] at hp
    have H2 := Aside0.mk (fun w A c h => HC kq (by have := HK.out; omega) w g ls (j + 1) A c r2 h hr)
    clear hr
    have HPP := Aside0.mk hp
    clear hp
    go_wp2_with fail
    refine HA.out.mono ?_
    rintro _ w2 ⟨rfl, hk2, hp2⟩
    have T2 := Aside0.mk (HT.out.keep hk2 hp2)
    clear hk2 hp2 HT HA
    go_wp2_with fail
    cases r2 with
    | bad er at_ =>
     have hp := HPP.out
     simp only [bindR, Option.some.injEq] at hp
     subst hp
     obtain ⟨q0, q1, q2, q3, f0, f1, f2, f3⟩ := T2.out.es
     refine wp_region_any (by kernel_rfl) ?_
     (try (change wpAny _ _ _ _ _ _ _ (World.drew _)))
     refine wpAny_take (i := 1) (v := .pointer (some ⟨g, 0, none⟩)) rfl (by kernel_rfl) (by kernel_rfl) (by kernel_rfl) (fun _ _ _ h => h) (Or.inl ⟨by rfl, fun w => by go_simp⟩) ?_
     refine wpAny_ready (rs := [0, 2]) (by kernel_rfl) (by simp) ?_
     refine AllReady.cons rfl (fun K hK => ?_) ?_
     ·go_simp
      refine hK _ _ ?_
      clear hK K
      refine wpAny_ready (rs := [2]) (by kernel_rfl) (by simp) ?_
      refine AllReady.cons rfl (fun K hK => ?_) AllReady.nil
      go_simp
      go_wp2_with fail
      refine (H2.out _ A c (by first | exact T2.out.ps | exact T2.out.drew.ps | exact T2.out.drew.drew.ps)).mono ?_
      rintro e W1 ⟨rfl, hk3⟩
      go_wp2_with fail
      exact ⟨rfl, rfl, by first | exact T2.out.kp.trans hk3 | exact T2.out.drew.kp.trans hk3⟩
     ·refine AllReady.cons rfl (fun K hK => ?_) AllReady.nil
      go_simp
      go_wp2_with fail
      refine (H2.out _ A c (by first | exact T2.out.ps | exact T2.out.drew.ps | exact T2.out.drew.drew.ps)).mono ?_
      rintro e W1 ⟨rfl, hk3⟩
      go_wp2_with fail
      exact ⟨rfl, rfl, by first | exact T2.out.kp.trans hk3 | exact T2.out.drew.kp.trans hk3⟩
    | ok y j2 =>
     have hp : pCnjL kq ls j2 (two 10 x y) = some r := HPP.out
     have HL2 := Aside0.mk hp
     clear hp HPP
     obtain ⟨q0, q1, q2, q3, f0, f1, f2, f3⟩ := T2.out.es
     refine wp_region_any (by kernel_rfl) ?_
     (try (change wpAny _ _ _ _ _ _ _ (World.drew _)))
     refine wpAny_take (i := 1) (v := .pointer (some ⟨g, 0, none⟩)) rfl (by kernel_rfl) (by kernel_rfl) (by kernel_rfl) (fun _ _ _ h => h) (Or.inl ⟨by rfl, fun w => by go_simp⟩) ?_
     refine wpAny_ready (rs := [0, 2]) (by kernel_rfl) (by simp) ?_
     refine AllReady.cons rfl (fun K hK => ?_) ?_
     ·go_simp
      refine hK _ _ ?_
      clear hK K
      refine wpAny_ready (rs := [2]) (by kernel_rfl) (by simp) ?_
      refine AllReady.cons rfl (fun K hK => ?_) AllReady.nil
      go_simp
      go_wp2_with fail
      refine (H2.out _ A c T2.out.drew.ps).mono ?_
      rintro e W1 ⟨⟨_, rfl, a4, c4, rfl, l4, f4⟩, hk3, hp3⟩
      have T3 := Aside0.mk (T2.out.drew.keep hk3 hp3)
      have Y := Aside0.mk (Kd.F_mono f4 (fun k_ hk_ => tl_new T2.out.drew hk_))
      clear f4 hk3 hp3
      go_wp2_with fail
      refine wpAny_ready (rs := [3]) (by kernel_rfl) (by simp) ?_
      refine AllReady.cons rfl (fun K hK => ?_) AllReady.nil
      go_simp
      go_wp2_with fail
      refine (two_any (ok := fun k_ => w.heap.size < k_ ∧ k_ ≠ w1.heap.size) 10 _ _ x y (ex_mk T3.out.el T3.out.ef) (ex_mk l4 Y.out)).mono ?_
      rintro e W2 ⟨⟨_, rfl, a5, c5, rfl, l5, f5⟩, hb5⟩
      have T4 := Aside0.mk (T3.out.below hb5)
      have Z := Aside0.mk (Kd.F_mono f5 (fun k_ hk_ => tl_new2 T3.out hk_))
      clear f5 hb5
      obtain ⟨p0, p1, p2, p3, g0, g1, g2, g3⟩ := T4.out.es
      go_wp2_with fail
      refine wpAny_ready (rs := [4]) (by kernel_rfl) (by simp) ?_
      refine AllReady.cons rfl (fun K hK => ?_) AllReady.nil
      go_simp
      refine hK _ _ ?_
      clear hK K
      refine wpAny_done (by kernel_rfl) ?_ _
      go_wp2_with fail
      go_roundg kq
      case measure => omega
      case rel => exact ⟨two 10 x y, j2, a5, c5, HL2, ⟨by have := HK.out; omega⟩, ⟨T4.out.store (by have := T4.out.RG; omega) l5 Z.out⟩⟩
     ·refine AllReady.cons rfl (fun K hK => ?_) AllReady.nil
      go_simp
      go_wp2_with fail
      refine (H2.out _ A c T2.out.drew.ps).mono ?_
      rintro e W1 ⟨⟨_, rfl, a4, c4, rfl, l4, f4⟩, hk3, hp3⟩
      have T3 := Aside0.mk (T2.out.drew.keep hk3 hp3)
      have Y := Aside0.mk (Kd.F_mono f4 (fun k_ hk_ => tl_new T2.out.drew hk_))
      clear f4 hk3 hp3
      obtain ⟨s0, s1, s2, s3, t0, t1, t2, t3⟩ := T3.out.es
      go_wp2_with fail
      refine wpAny_ready (rs := [0]) (by kernel_rfl) (by simp) ?_
      refine AllReady.cons rfl (fun K hK => ?_) AllReady.nil
      go_simp
      refine hK _ _ ?_
      clear hK K
      refine wpAny_ready (rs := [3]) (by kernel_rfl) (by simp) ?_
      refine AllReady.cons rfl (fun K hK => ?_) AllReady.nil
      go_simp
      go_wp2_with fail
      refine (two_any (ok := fun k_ => w.heap.size < k_ ∧ k_ ≠ w1.heap.size) 10 _ _ x y (ex_mk T3.out.el T3.out.ef) (ex_mk l4 Y.out)).mono ?_
      rintro e W2 ⟨⟨_, rfl, a5, c5, rfl, l5, f5⟩, hb5⟩
      have T4 := Aside0.mk (T3.out.below hb5)
      have Z := Aside0.mk (Kd.F_mono f5 (fun k_ hk_ => tl_new2 T3.out hk_))
      clear f5 hb5
      obtain ⟨p0, p1, p2, p3, g0, g1, g2, g3⟩ := T4.out.es
      go_wp2_with fail
      refine wpAny_ready (rs := [4]) (by kernel_rfl) (by simp) ?_
      refine AllReady.cons rfl (fun K hK => ?_) AllReady.nil
      go_simp
      refine hK _ _ ?_
      clear hK K
      refine wpAny_done (by kernel_rfl) ?_ _
      go_wp2_with fail
      go_roundg kq
      case measure => omega
      case rel => exact ⟨two 10 x y, j2, a5, c5, HL2, ⟨by have := HK.out; omega⟩, ⟨T4.out.store (by have := T4.out.RG; omega) l5 Z.out⟩⟩
   ·rw [if_neg hw] at hp
    have hw' : isW (pk ls j) (⟨#[97, 110, 100]⟩ : ByteArray) = false := Bool.eq_false_iff.2 hw
    rw [hw', if_neg (by decide)] at HA
    clear hw hw' HL
    cases hp
    go_wp2_with fail
    refine HA.out.mono ?_
    rintro _ w2 ⟨rfl, hk2, hp2⟩
    have T2 := Aside0.mk (HT.out.keep hk2 hp2)
    clear hk2 hp2 HT HA
    obtain ⟨q0, q1, q2, q3, f0, f1, f2, f3⟩ := T2.out.es
    obtain ⟨p0, p1, p2, p3, g0, g1, g2, g3⟩ := T2.out.rs
    have hRG := T2.out.RG
    go_wp2_with fail
    have hfin := T2.out.ret
    refine bodyPost_ret (results_cell_row rfl _ _ w.heap.size 24 _ (0, 0) _ rfl hfin.2 Tryd.underlying24 rfl (by kernel_rfl)) rfl ?_
    exact hfin.1
set_option maxHeartbeats 1000000 in
set_option maxRecDepth 100000 in
theorem expr_con {k : Nat} (HC : ∀ k', k' ≤ k → Con 76 (pCnj k')) : Con 54 (pExr (k + 1)) := by
 intro w g ls i A c r h hp
 rw [pExr] at hp
 have hg := blk_lt h.blk
 have h1 := h.kp (below_alloc (Below.refl _ w) (.cells #[.int .i64 0, .int .i64 0, .string (⟨#[]⟩ : ByteArray), .slice none 0 0] 24 (0, 0)))
 have hz := blk_new w (.cells #[.int .i64 0, .int .i64 0, .string (⟨#[]⟩ : ByteArray), .slice none 0 0] 24 (0, 0))
 have K0 := Aside0.mk (Kp.of_below g (below_alloc (Below.refl _ w) (.cells #[.int .i64 0, .int .i64 0, .string (⟨#[]⟩ : ByteArray), .slice none 0 0] 24 (0, 0))))
 have HP1 := Aside0.mk h1
 have HZ := Aside0.mk hz
 have sz := size_alloc w (.cells #[.int .i64 0, .int .i64 0, .string (⟨#[]⟩ : ByteArray), .slice none 0 0] 24 (0, 0))
 cases hr : pCnj k ls i with
 | none => rw [hr] at hp; exact absurd hp (by simp [bindR])
 | some r1 =>
 have H1 := Aside0.mk (HC k (Nat.le_refl _) _ _ _ _ _ _ _ h1 hr)
 rw [hr] at hp
 clear h h1 hz hr
 cases r1 with
 | bad er at_ =>
  simp only [bindR, Option.some.injEq] at hp
  subst hp
  go_enter Tryd.func54, Tryd.ntmps54
  go_wp2_with fail
  refine H1.out.mono ?_
  rintro _ w1 ⟨rfl, hk⟩
  have K1 := Aside0.mk hk
  clear hk
  go_wp2_with fail
  exact ⟨rfl, rfl, K0.out.trans K1.out⟩
 | ok x j =>
  replace hp : pExrL k ls j x = some r := hp
  have HL := Aside0.mk hp
  clear hp
  go_enter Tryd.func54, Tryd.ntmps54
  go_wp2_with fail
  refine H1.out.mono ?_
  rintro _ w1 ⟨⟨_, rfl, a3, c3, rfl, l3, f3⟩, hk, hp⟩
  have hRG := hk.size
  rw [sz] at hRG
  have RB := (hk.block w.heap.size (by omega) (by omega)).trans HZ.out
  have B1 := below_alloc (Below.refl _ w1) (.cells #[.int .i64 x.f0, .int .i64 x.f1, .string x.f2, .slice a3 x.f3.length c3] 24 (0, 0))
  have T0 : Aside0 (TL w (w1.alloc (.cells #[.int .i64 x.f0, .int .i64 x.f1, .string x.f2, .slice a3 x.f3.length c3] 24 (0, 0))) g w1.heap.size w.heap.size ls j A c x a3 c3) := ⟨⟨(K0.out.trans hk).then_below B1, hp.kp B1, blk_new w1 _, l3, Kd.F_below (Kd.F_mono (Kd.F_bound f3) (fun k_ hk_ => ⟨by have := hk_.1; rw [sz] at this; omega, by have := hk_.2; omega⟩)) B1, blk_alloc RB _, hg, by omega⟩⟩
  clear hk hp l3 f3 RB B1 hRG
  go_wp2_with fail
  go_loopg [] k (fun kq wr => ∃ (x : S24) (j : Nat) (a3 : Option Addr) (c3 : Nat), Aside0 (pExrL kq ls j x = some r) ∧ Aside0 (kq ≤ k) ∧ Aside0 (TL w wr g w1.heap.size w.heap.size ls j A c x a3 c3))
  case atStart => exact ⟨x, j, a3, c3, HL, ⟨Nat.le_refl _⟩, T0⟩
  case round =>
   clear HL T0
   obtain ⟨x, j, a3, c3, HL, HK, HT⟩ := hrel
   cases gk with
   | zero => exact absurd HL.out (by simp [pExrL])
   | succ kq =>
   have hp := HL.out
   rw [pExrL] at hp
   have HA := Aside0.mk (accept_any HT.out.ps (⟨#[111, 114]⟩ : ByteArray))
   unfold acc at HA
   by_cases hw : isW (pk ls j) bOr = true
   ·rw [if_pos hw] at hp
    have hw' : isW (pk ls j) (⟨#[111, 114]⟩ : ByteArray) = true := hw
    rw [hw', if_pos rfl] at HA
    clear hw hw' HL
    cases hr : pCnj kq ls (j + 1) with
    | none => rw [hr] at hp; exact absurd hp (by simp [bindR])
    | some r2 =>
    rw [hr] at hp
    have H2 := Aside0.mk (fun w A c h => HC kq (by have := HK.out; omega) w g ls (j + 1) A c r2 h hr)
    clear hr
    have HPP := Aside0.mk hp
    clear hp
    go_wp2_with fail
    refine HA.out.mono ?_
    rintro _ w2 ⟨rfl, hk2, hp2⟩
    have T2 := Aside0.mk (HT.out.keep hk2 hp2)
    clear hk2 hp2 HT HA
    go_wp2_with fail
    cases r2 with
    | bad er at_ =>
     have hp := HPP.out
     simp only [bindR, Option.some.injEq] at hp
     subst hp
     obtain ⟨q0, q1, q2, q3, f0, f1, f2, f3⟩ := T2.out.es
     refine wp_region_any (by kernel_rfl) ?_
     (try (change wpAny _ _ _ _ _ _ _ (World.drew _)))
     refine wpAny_take (i := 1) (v := .pointer (some ⟨g, 0, none⟩)) rfl (by kernel_rfl) (by kernel_rfl) (by kernel_rfl) (fun _ _ _ h => h) (Or.inl ⟨by rfl, fun w => by go_simp⟩) ?_
     refine wpAny_ready (rs := [0, 2]) (by kernel_rfl) (by simp) ?_
     refine AllReady.cons rfl (fun K hK => ?_) ?_
     ·go_simp
      refine hK _ _ ?_
      clear hK K
      refine wpAny_ready (rs := [2]) (by kernel_rfl) (by simp) ?_
      refine AllReady.cons rfl (fun K hK => ?_) AllReady.nil
      go_simp
      go_wp2_with fail
      refine (H2.out _ A c (by first | exact T2.out.ps | exact T2.out.drew.ps | exact T2.out.drew.drew.ps)).mono ?_
      rintro e W1 ⟨rfl, hk3⟩
      go_wp2_with fail
      exact ⟨rfl, rfl, by first | exact T2.out.kp.trans hk3 | exact T2.out.drew.kp.trans hk3⟩
     ·refine AllReady.cons rfl (fun K hK => ?_) AllReady.nil
      go_simp
      go_wp2_with fail
      refine (H2.out _ A c (by first | exact T2.out.ps | exact T2.out.drew.ps | exact T2.out.drew.drew.ps)).mono ?_
      rintro e W1 ⟨rfl, hk3⟩
      go_wp2_with fail
      exact ⟨rfl, rfl, by first | exact T2.out.kp.trans hk3 | exact T2.out.drew.kp.trans hk3⟩
    | ok y j2 =>
     have hp : pExrL kq ls j2 (two 11 x y) = some r := HPP.out
     have HL2 := Aside0.mk hp
     clear hp HPP
     obtain ⟨q0, q1, q2, q3, f0, f1, f2, f3⟩ := T2.out.es
     refine wp_region_any (by kernel_rfl) ?_
     (try (change wpAny _ _ _ _ _ _ _ (World.drew _)))
     refine wpAny_take (i := 1) (v := .pointer (some ⟨g, 0, none⟩)) rfl (by kernel_rfl) (by kernel_rfl) (by kernel_rfl) (fun _ _ _ h => h) (Or.inl ⟨by rfl, fun w => by go_simp⟩) ?_
     refine wpAny_ready (rs := [0, 2]) (by kernel_rfl) (by simp) ?_
     refine AllReady.cons rfl (fun K hK => ?_) ?_
     ·go_simp
      refine hK _ _ ?_
      clear hK K
      refine wpAny_ready (rs := [2]) (by kernel_rfl) (by simp) ?_
      refine AllReady.cons rfl (fun K hK => ?_) AllReady.nil
      go_simp
      go_wp2_with fail
      refine (H2.out _ A c T2.out.drew.ps).mono ?_
      rintro e W1 ⟨⟨_, rfl, a4, c4, rfl, l4, f4⟩, hk3, hp3⟩
      have T3 := Aside0.mk (T2.out.drew.keep hk3 hp3)
      have Y := Aside0.mk (Kd.F_mono f4 (fun k_ hk_ => tl_new T2.out.drew hk_))
      clear f4 hk3 hp3
      go_wp2_with fail
      refine wpAny_ready (rs := [3]) (by kernel_rfl) (by simp) ?_
      refine AllReady.cons rfl (fun K hK => ?_) AllReady.nil
      go_simp
      go_wp2_with fail
      refine (two_any (ok := fun k_ => w.heap.size < k_ ∧ k_ ≠ w1.heap.size) 11 _ _ x y (ex_mk T3.out.el T3.out.ef) (ex_mk l4 Y.out)).mono ?_
      rintro e W2 ⟨⟨_, rfl, a5, c5, rfl, l5, f5⟩, hb5⟩
      have T4 := Aside0.mk (T3.out.below hb5)
      have Z := Aside0.mk (Kd.F_mono f5 (fun k_ hk_ => tl_new2 T3.out hk_))
      clear f5 hb5
      obtain ⟨p0, p1, p2, p3, g0, g1, g2, g3⟩ := T4.out.es
      go_wp2_with fail
      refine wpAny_ready (rs := [4]) (by kernel_rfl) (by simp) ?_
      refine AllReady.cons rfl (fun K hK => ?_) AllReady.nil
      go_simp
      refine hK _ _ ?_
      clear hK K
      refine wpAny_done (by kernel_rfl) ?_ _
      go_wp2_with fail
      go_roundg kq
      case measure => omega
      case rel => exact ⟨two 11 x y, j2, a5, c5, HL2, ⟨by have := HK.out; omega⟩, ⟨T4.out.store (by have := T4.out.RG; omega) l5 Z.out⟩⟩
     ·refine AllReady.cons rfl (fun K hK => ?_) AllReady.nil
      go_simp
      go_wp2_with fail
      refine (H2.out _ A c T2.out.drew.ps).mono ?_
      rintro e W1 ⟨⟨_, rfl, a4, c4, rfl, l4, f4⟩, hk3, hp3⟩
      have T3 := Aside0.mk (T2.out.drew.keep hk3 hp3)
      have Y := Aside0.mk (Kd.F_mono f4 (fun k_ hk_ => tl_new T2.out.drew hk_))
      clear f4 hk3 hp3
      obtain ⟨s0, s1, s2, s3, t0, t1, t2, t3⟩ := T3.out.es
      go_wp2_with fail
      refine wpAny_ready (rs := [0]) (by kernel_rfl) (by simp) ?_
      refine AllReady.cons rfl (fun K hK => ?_) AllReady.nil
      go_simp
      refine hK _ _ ?_
      clear hK K
      refine wpAny_ready (rs := [3]) (by kernel_rfl) (by simp) ?_
      refine AllReady.cons rfl (fun K hK => ?_) AllReady.nil
      go_simp
      go_wp2_with fail
      refine (two_any (ok := fun k_ => w.heap.size < k_ ∧ k_ ≠ w1.heap.size) 11 _ _ x y (ex_mk T3.out.el T3.out.ef) (ex_mk l4 Y.out)).mono ?_
      rintro e W2 ⟨⟨_, rfl, a5, c5, rfl, l5, f5⟩, hb5⟩
      have T4 := Aside0.mk (T3.out.below hb5)
      have Z := Aside0.mk (Kd.F_mono f5 (fun k_ hk_ => tl_new2 T3.out hk_))
      clear f5 hb5
      obtain ⟨p0, p1, p2, p3, g0, g1, g2, g3⟩ := T4.out.es
      go_wp2_with fail
      refine wpAny_ready (rs := [4]) (by kernel_rfl) (by simp) ?_
      refine AllReady.cons rfl (fun K hK => ?_) AllReady.nil
      go_simp
      refine hK _ _ ?_
      clear hK K
      refine wpAny_done (by kernel_rfl) ?_ _
      go_wp2_with fail
      go_roundg kq
      case measure => omega
      case rel => exact ⟨two 11 x y, j2, a5, c5, HL2, ⟨by have := HK.out; omega⟩, ⟨T4.out.store (by have := T4.out.RG; omega) l5 Z.out⟩⟩
   ·rw [if_neg hw] at hp
    have hw' : isW (pk ls j) (⟨#[111, 114]⟩ : ByteArray) = false := Bool.eq_false_iff.2 hw
    rw [hw', if_neg (by decide)] at HA
    clear hw hw' HL
    cases hp
    go_wp2_with fail
    refine HA.out.mono ?_
    rintro _ w2 ⟨rfl, hk2, hp2⟩
    have T2 := Aside0.mk (HT.out.keep hk2 hp2)
    clear hk2 hp2 HT HA
    obtain ⟨q0, q1, q2, q3, f0, f1, f2, f3⟩ := T2.out.es
    obtain ⟨p0, p1, p2, p3, g0, g1, g2, g3⟩ := T2.out.rs
    have hRG := T2.out.RG
    go_wp2_with fail
    have hfin := T2.out.ret
    refine bodyPost_ret (results_cell_row rfl _ _ w.heap.size 24 _ (0, 0) _ rfl hfin.2 Tryd.underlying24 rfl (by kernel_rfl)) rfl ?_
    exact hfin.1
end Go.Proofs.YtmnbbhieodcoeaaDoor.Rt
