/-
  The document's Expr, given to the printer as a function.
-/
import Derived.Test.YtmnbbhieodcoeaaDoorRex
namespace Go.Proofs.YtmnbbhieodcoeaaDoor.Rt
open Go.RowKit Go.Proofs.YtmnbbhieodcoeaaDoorW.PrintWords Go.Proofs.YtmnbbhieodcoeaaDoorW.PrintLast Go.Proofs.YtmnbbhieodcoeaaDoorW.PrintMore
open Go.Proofs.YtmnbbhieodcoeaaDoor.PBase Go.Proofs.YtmnbbhieodcoeaaDoor.PScn
set_option linter.unusedVariables false
set_option linter.unusedSimpArgs false
open Classical in
noncomputable def rexpr.f (a b : Int) (s : ByteArray) (l : List S24) : Option ByteArray :=
  if ∃ m, wee m ⟨a, b, s, l⟩ ∧ m ≤ 100000 then (if WF 8 ⟨a, b, s, l⟩ then some (mkB (pb (raw dgB ⟨a, b, s, l⟩))) else some ⟨#[]⟩) else none
theorem rexpr_eq (x : S24) (r : ByteArray) (m : Nat) (hm : wee m x) (hle : m ≤ 100000) (h : ExprIs x r) : rexpr.f x.f0 x.f1 x.f2 x.f3 = some r := by
  cases x with
  | mk a b s l =>
  show rexpr.f a b s l = some r
  unfold rexpr.f
  rw [if_pos ⟨m, hm, hle⟩]
  rcases h with ⟨hw, rfl⟩ | ⟨hw, rfl⟩
  · rw [if_pos hw]
  · rw [if_neg hw]
theorem rexpr.calls (a0_0 : Int) (a0_1 : Int) (a0_2 : ByteArray) (A0_3 : Option Addr) (c0_3 : Nat) (l0_3 : List (S24)) (r : ByteArray) (w : World) (hr0_3 : Kd.C k24 w A0_3 l0_3.length l0_3) (hc0_3 : l0_3.length ≤ c0_3) (h : rexpr.f a0_0 a0_1 a0_2 l0_3 = some r) :
    Calls Tryd.prog 12 #[.agg #[.int .i64 a0_0, .int .i64 a0_1, .string a0_2, .slice A0_3 l0_3.length c0_3]] w fun e w' => e = .returned (.string r) ∧ Below w.heap.size w w' := by
  unfold rexpr.f at h
  split at h
  · rename_i hm
    obtain ⟨m, hm, hle⟩ := hm
    refine rexpr_any ⟨a0_0, a0_1, a0_2, l0_3⟩ m hm hle w A0_3 c0_3 ⟨hc0_3, hr0_3⟩ r ?_
    split at h
    · rename_i hw; exact .inl ⟨hw, (Option.some.inj h).symm⟩
    · rename_i hw; exact .inr ⟨hw, (Option.some.inj h).symm⟩
  · cases h
theorem size_ap (x y : ByteArray) : (x ++ y).size = x.size + y.size := by rw [← bs_len, bs_append, List.length_append, bs_len, bs_len]
end Go.Proofs.YtmnbbhieodcoeaaDoor.Rt
