/-
  The document's Expr; and the code's.
-/
import Derived.Test.YtmnbbhieodcoeaaDoorRtx
namespace Go.Proofs.YtmnbbhieodcoeaaDoor.Rt
open Go.RowKit Go.Proofs.YtmnbbhieodcoeaaDoorW.PrintWords Go.Proofs.YtmnbbhieodcoeaaDoorW.PrintLast Go.Proofs.YtmnbbhieodcoeaaDoorW.PrintMore
open Go.Proofs.YtmnbbhieodcoeaaDoor.PBase Go.Proofs.YtmnbbhieodcoeaaDoor.PScn Go.Proofs.YtmnbbhieodcoeaaDoor.PRex Go.Proofs.YtmnbbhieodcoeaaDoor.PWf Go.Proofs.YtmnbbhieodcoeaaDoor.PTxt
set_option linter.unusedVariables false
set_option linter.unusedSimpArgs false
theorem rtext_wf {d : Nat} {x : S24} (h : WF d x) (hd : d ≤ 8) : TxtC x := by
  induction h with
  | num d n h0 h1 => exact txt_num h0 h1
  | nam d s hs => exact txt_nam s
  | neg d a ha ih =>
    have hz := raw_size ha (by omega)
    exact txt_neg (win_of (ih (by omega)) hz) (by have := pb_pcs_le 2 a; omega)
  | two d op a b hop ha hb iha ihb =>
    have za := raw_size ha (by omega)
    have zb := raw_size hb (by omega)
    exact txt_two hop (win_of (iha (by omega)) za) (win_of (ihb (by omega)) zb) (fun m => by have := pb_pcs_le m a; omega) (fun m => by have := pb_pcs_le m b; omega)
def ExprIs (x : S24) (r : ByteArray) : Prop := (WF 8 x ∧ r = mkB (pb (raw dgB x))) ∨ (¬ WF 8 x ∧ r = ⟨#[]⟩)
set_option maxHeartbeats 4000000 in
set_option maxRecDepth 100000 in
theorem rexpr_any (x : S24) (m : Nat) (hm : wee m x) (hle : m ≤ 100000) (w : World) (A : Option Addr) (c : Nat) (hx : TC w x A c) (r : ByteArray) (hr : ExprIs x r) : Calls Tryd.prog 12 #[.agg #[.int .i64 x.f0, .int .i64 x.f1, .string x.f2, .slice A x.f3.length c]] w fun e w' => e = .returned (.string r) ∧ Below w.heap.size w w' := by
  obtain ⟨k, b, e, g⟩ := rwf_any x m hm hle
  have HE := Aside0.mk e
  have BW0 : Aside0 (Below w.heap.size w _) := ⟨below_alloc (Below.refl _ w) (.cells #[.int .i64 x.f0, .int .i64 x.f1, .string x.f2, .slice A x.f3.length c] 24)⟩
  have S0 := Aside0.mk (box_tv hx)
  obtain ⟨s0, s1, s2, s3⟩ := S0.out.cs
  rcases hr with ⟨hw, hr⟩ | ⟨hw, rfl⟩
  · obtain rfl : b = true := g.2 hw
    have HT := Aside0.mk (rtext_wf hw (by omega))
    unfold TxtC at HT
    rw [← hr] at HT
    clear hx e g hr hw hm hle
    go_enter Tryd.func12, Tryd.ntmps12
    go_wp2_with fail
    refine (sawmillref44_WellFormed.calls k _ _ _ A c _ _ _ S0.out.tc.row S0.out.tc.len HE.out).mono ?_
    rintro _ W1 ⟨rfl, hb1⟩
    have S1 := Aside0.mk (S0.out.step hb1)
    have BW1 := Aside0.mk (below_step BW0.out hb1)
    clear S0 BW0 hb1 s0 s1 s2 s3
    obtain ⟨s0, s1, s2, s3⟩ := S1.out.cs
    go_wp2_with fail
    refine (HT.out _ _ _ S1.out.tc).mono ?_
    rintro _ W2 ⟨rfl, hb2⟩
    have BW2 := Aside0.mk (below_step BW1.out hb2)
    clear S1 BW1 hb2 s0 s1 s2 s3
    go_wp2_with fail
    go_ret
    exact ⟨rfl, BW2.out⟩
  · obtain rfl : b = false := by cases b; rfl; exact absurd (g.1 rfl) hw
    clear hx e g hw hm hle
    go_enter Tryd.func12, Tryd.ntmps12
    go_wp2_with fail
    refine (sawmillref44_WellFormed.calls k _ _ _ A c _ _ _ S0.out.tc.row S0.out.tc.len HE.out).mono ?_
    rintro _ W1 ⟨rfl, hb1⟩
    have BW1 := Aside0.mk (below_step BW0.out hb1)
    clear S0 BW0 hb1 s0 s1 s2 s3
    go_wp2_with fail
    go_ret
    exact ⟨rfl, BW1.out⟩
end Go.Proofs.YtmnbbhieodcoeaaDoor.Rt
