/-
  awake: all its examples are met.
-/
import Derived.Test.YtmnbbhieodcoeaaDoorEv
import Derived.Test.YtmnbbhieodcoeaaDoorIto
namespace Go.Proofs.YtmnbbhieodcoeaaDoor.Rt
open Go.RowKit Go.Proofs.YtmnbbhieodcoeaaDoorW.PrintWords Go.Proofs.YtmnbbhieodcoeaaDoorW.PrintLast Go.Proofs.YtmnbbhieodcoeaaDoorW.PrintMore
open Go.Proofs.YtmnbbhieodcoeaaDoor.PBase Go.Proofs.YtmnbbhieodcoeaaDoor.PScn
set_option linter.unusedVariables false
set_option linter.unusedSimpArgs false
theorem R_F24 {W : World} {base : Nat} {ok : Nat → Prop} {A : Option Addr} {n c : Nat} {xs : List S24} (h : Kd.R k24 24 W base ok (.slice A n c) xs) : n = xs.length ∧ xs.length ≤ c ∧ Kd.F k24 W (fun k => ok k ∧ base ≤ k) A xs.length xs := by
  obtain ⟨A', c', he, hl, hC⟩ := Kd.R_reads h
  injection he with e1 e2 e3
  subst e1
  subst e2
  subst e3
  refine ⟨rfl, hl, fun W' hW => ?_⟩
  have hb := Kd.R_mono (Kd.R_bound h) (ok' := fun k => ok k ∧ base ≤ k) (fun k hk => ⟨hk.1, hk.2.1⟩)
  obtain ⟨A2, c2, he2, _, hC2⟩ := Kd.R_reads (Kd.R_step hb hW)
  injection he2 with e1 e2 e3
  subst e1
  exact hC2
theorem xv_any (s : ByteArray) (w : World) : Calls Tryd.prog 24 #[.string s] w fun e w' => (∃ v, e = .returned v ∧ Ex w' (fun k => w.heap.size ≤ k) v (nam s)) ∧ Below w.heap.size w w' := by
  refine (sawmilllaw44_xv.calls s 2 0 s [] w rfl).mono ?_
  rintro _ w' ⟨v3, rfl, hR, hb⟩
  obtain ⟨A, c, rfl⟩ := Kd.R_slice hR
  obtain ⟨_, hc, hF⟩ := R_F24 hR
  exact ⟨⟨_, rfl, A, c, rfl, hc, Kd.F_mono hF (fun _ h => h.2)⟩, hb⟩
theorem xn_any (n : Int) (w : World) : Calls Tryd.prog 26 #[.int .i64 n] w fun e w' => (∃ v, e = .returned v ∧ Ex w' (fun k => w.heap.size ≤ k) v (num n)) ∧ Below w.heap.size w w' := by
  refine (sawmilllaw44_xn.calls n 1 n ⟨#[]⟩ [] w rfl).mono ?_
  rintro _ w' ⟨v3, rfl, hR, hb⟩
  obtain ⟨A, c, rfl⟩ := Kd.R_slice hR
  obtain ⟨_, hc, hF⟩ := R_F24 hR
  exact ⟨⟨_, rfl, A, c, rfl, hc, Kd.F_mono hF (fun _ h => h.2)⟩, hb⟩
theorem xo_any (op : Int) (l : List S24) (A : Option Addr) (c : Nat) (w : World) (ok : Nat → Prop) (hc : l.length ≤ c) (hF : Kd.F k24 w ok A l.length l) :
    Calls Tryd.prog 25 #[.int .i64 op, .slice A l.length c] w fun e w' => (∃ v, e = .returned v ∧ Ex w' (fun k => ok k ∨ w.heap.size ≤ k) v ⟨op, 0, ⟨#[]⟩, l⟩) ∧ Below w.heap.size w w' := by
  refine (sawmilllaw44_xo.calls op ok A c l op 0 ⟨#[]⟩ l w (Kd.V_mk hc hF) rfl).mono ?_
  rintro _ w' ⟨v3, rfl, ⟨A3, c3, rfl, hc3, hF3⟩, hb⟩
  exact ⟨⟨_, rfl, A3, c3, rfl, hc3, hF3⟩, hb⟩
end Go.Proofs.YtmnbbhieodcoeaaDoor.Rt
