/-
  How a table of rules that came in is read.
-/
import Derived.Test.YtmnbbhieodcoeaaDoorOpn
namespace Go.Proofs.YtmnbbhieodcoeaaDoor.Rt
open Go.ChangeShapes Go.WideShapes Go.ChangeAt Go.RowKit Go.Deep Go.Joins
open Go.Proofs.YtmnbbhieodcoeaaDoorW.PrintWords Go.Proofs.YtmnbbhieodcoeaaDoor.PBase Go.Proofs.YtmnbbhieodcoeaaDoor.PScn
set_option linter.unusedVariables false
set_option linter.unusedSimpArgs false
section
variable {H : Type} {enc : TypeId × Value → H} {W : World}
set_option maxRecDepth 100000 in
theorem rule_node (n : Nat) (cs : List Value) (x : DataW H × List MemPlace) (h : DataW.trod enc Tryd.prog W 0 (fun _ => true) true n 58 cs = some x) : ∃ s, k58.K W s cs := by
  obtain ⟨xs, m, rfl, _, hcl, hxl, hf⟩ := DataW.trod_struct Tryd.underlying58 h
  have hcl' : cs.length = 5 := hcl.trans (by kernel_rfl)
  match cs, hcl', xs, hxl with
  | [v0, v1, v2, v3, v4], _, [y0, y1], _ =>
    have c3 : Tryd.prog.cellsOf 3 = 1 := by kernel_rfl
    have c24 : Tryd.prog.cellsOf 24 = 4 := by kernel_rfl
    have g0 := hf 0 _ rfl
    have g1 := hf 1 _ rfl
    simp [c3, c24] at g0 g1
    obtain ⟨x0, e0, _, _⟩ := DataW.trod_int Tryd.underlying3 g0
    simp at e0
    subst e0
    obtain ⟨s, hs⟩ := (node_row m).1 _ _ g1
    exact ⟨⟨x0, s⟩, [.int .i64 x0], [v1, v2, v3, v4], rfl, rfl, hs⟩
set_option maxRecDepth 100000 in
theorem rules_of {A : Option Addr} {len cap : Nat} {d : DataW H} {p : List MemPlace} (h : DataW.Trod enc Tryd.prog W 0 (fun _ => true) true 33 (.slice A len cap) d p) :
    ∃ l : List S58, len = l.length ∧ l.length ≤ cap ∧ Kd.C k58 W A l.length l := by
  obtain ⟨fuel, hf⟩ := h
  rcases DataW.trod_slice Tryd.underlying33 hf with ⟨h0, _⟩ | ⟨a, len', cap', elems, rest, m, rfl, h0, _, _, hl, hm, hlen, hel, _⟩
  · simp [Value.cells] at h0
    obtain ⟨rfl, rfl, rfl⟩ := h0
    exact ⟨[], rfl, Nat.zero_le _, Kd.C_nil k58 W⟩
  · simp [Value.cells] at h0
    obtain ⟨rfl, rfl, rfl⟩ := h0
    obtain ⟨l, rfl, hC⟩ := row_of_elems k58 (sz := 5) (by kernel_rfl) rfl (by unfold maxLen at hm; omega) hlen hel (rule_node m)
    exact ⟨l, rfl, hl, hC⟩
end
end Go.Proofs.YtmnbbhieodcoeaaDoor.Rt
