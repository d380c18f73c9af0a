/-
  How an argument that is an array of three ints is opened.
-/
import Derived.Test.YthdkfgpcdghblaaDoorOpen
import Derived.Test.YthdkfgpcdghblaaDoorLawD
import Derived.Laws.IdiomArrays
namespace Go.Proofs.YthdkfgpcdghblaaDoor.Cal
open Go.ChangeShapes Go.WideShapes Go.ChangeAt Go.RowKit Go.Deep
set_option linter.unusedVariables false

theorem three_of {H : Type} {enc : TypeId × Value → H} {W : World} {base : Nat} {v : Value} {d : DataW H} {p : List MemPlace} (hv : Value.okWide Tryd.prog W .any base 45 v) (h : DataW.Trod enc Tryd.prog W 0 (fun _ => true) true 45 v d p) :
    ∃ x y z : Int, v = .agg #[.int .i64 x, .int .i64 y, .int .i64 z] := by
  have hs : ∃ cs : Array Value, v = .agg cs ∧ cs.size = 3 := by
    simp only [Value.okWide, Tryd.underlying45] at hv
    obtain ⟨cs, h1, h2, _⟩ := hv
    exact ⟨cs, h1, h2.trans (by kernel_rfl)⟩
  obtain ⟨⟨cs⟩, rfl, hsz⟩ := hs
  match cs, hsz with
  | [c0, c1, c2], _ =>
    obtain ⟨fuel, hf⟩ := h
    obtain ⟨y0, y1, y2, n, _, t0, t1, t2⟩ := trod_array3 Tryd.underlying45 (by kernel_rfl) hf
    obtain ⟨x, e0, _, _⟩ := DataW.trod_int Tryd.underlying3 t0
    obtain ⟨y, e1, _, _⟩ := DataW.trod_int Tryd.underlying3 t1
    obtain ⟨z, e2, _, _⟩ := DataW.trod_int Tryd.underlying3 t2
    simp at e0 e1 e2
    exact ⟨x, y, z, by rw [e0, e1, e2]⟩
end Go.Proofs.YthdkfgpcdghblaaDoor.Cal
