/-
  How a tree that came in is read: the datum of an argument of the tree's type, of a row of trees, of a table of rules, gives the tree and its cells.
-/
import Derived.Test.YtmnbbhieodcoeaaDoorRows
import Derived.Test.YtmnbbhieodcoeaaDoorXo
import Derived.WalkKit
import Derived.ProofKit
import Derived.OpenShut
import Derived.Deep.SlicePairs
import Derived.Deep.DeepHandedRow
import Derived.Lib.SmallJoins
import Derived.Lib.LaidTab
namespace Go.Proofs.YtmnbbhieodcoeaaDoor.Rt
open Go.ChangeShapes Go.WideShapes Go.ChangeAt Go.RowKit Go.Deep Go.Joins
open Go.Proofs.YtmnbbhieodcoeaaDoorW.PrintWords Go.Proofs.YtmnbbhieodcoeaaDoor.PBase Go.Proofs.YtmnbbhieodcoeaaDoor.PScn
set_option linter.unusedVariables false
set_option linter.unusedSimpArgs false
theorem own : ownKnob Tryd.prog.godebug = none := by kernel_rfl
theorem laidOut : laidOutB Tryd.prog = true := by kernel_rfl
instance : Inhabited S24 := ⟨z24⟩
instance : Inhabited S58 := ⟨z58⟩
theorem C_of_rows {α : Type} [Inhabited α] (k : Kd α) (w : World) (ad : Addr) (n : Nat) (hm : n ≤ 9223372036854775807) (f : Nat → α)
    (hc : ∀ i, i < n → ∃ cs, k.K w (f i) cs ∧ ∀ j u, cs[j]? = some u → w.cell? (ad.add (i * k.sz + j)) = some u) : Kd.C k w (some ad) ((List.range n).map f).length ((List.range n).map f) := by
  refine ⟨rfl, by simpa using hm, fun _ => ⟨ad, rfl, fun j p hp => ?_⟩⟩
  have hj : j < n := by have := (List.getElem?_eq_some_iff.1 hp).1; simpa using this
  obtain rfl : f j = p := by simpa [hj] using hp
  obtain ⟨cs, hK, h⟩ := hc j hj
  exact ⟨cs, k.K_len hK, hK, h⟩
section
variable {H : Type} {enc : TypeId × Value → H} {W : World}
theorem row_of_elems {α : Type} [Inhabited α] (k : Kd α) {a : Addr} {len m : Nat} {sz : Nat} {e : TypeId} {elems : List (DataW H × List MemPlace)} (hsz : Tryd.prog.cellsOf e = sz) (hk : k.sz = sz) (hm : len ≤ 9223372036854775807) (hlen : elems.length = len)
    (hel : ∀ i, i < len → (W.cells? 0 (a.add (i * Tryd.prog.cellsOf e)) (Tryd.prog.cellsOf e)).bind (DataW.trod enc Tryd.prog W 0 (fun _ => true) true m e) = elems[i]?)
    (ih : ∀ cs x, DataW.trod enc Tryd.prog W 0 (fun _ => true) true m e cs = some x → ∃ s, k.K W s cs) :
    ∃ l : List α, len = l.length ∧ Kd.C k W (some a) l.length l := by
  have each : ∀ i, i < len → ∃ s : α, ∃ cs, k.K W s cs ∧ ∀ j u, cs[j]? = some u → W.cell? (a.add (i * k.sz + j)) = some u := by
    intro i hi
    have h := hel i hi
    rw [List.getElem?_eq_getElem (by omega)] at h
    obtain ⟨cs, h1, h2⟩ := Option.bind_eq_some_iff.1 h
    obtain ⟨s, hs⟩ := ih cs _ h2
    obtain ⟨_, hl, hc⟩ := World.cells?_some h1
    refine ⟨s, cs, hs, fun j u hu => ?_⟩
    have hj : j < cs.length := (List.getElem?_eq_some_iff.1 hu).1
    have := (hc j (by omega)).trans hu
    rw [Go.Deep.add_add] at this
    rw [hk, ← hsz]
    exact this
  obtain ⟨f, hf⟩ := choose_lt each
  exact ⟨(List.range len).map f, by simp, C_of_rows k W a len hm f hf⟩
set_option maxRecDepth 100000 in
theorem node_row : ∀ n : Nat, (∀ cs x, DataW.trod enc Tryd.prog W 0 (fun _ => true) true n 24 cs = some x → ∃ s, k24.K W s cs) ∧
    (∀ A len cap x, DataW.trod enc Tryd.prog W 0 (fun _ => true) true n 22 [.slice A len cap] = some x → ∃ l : List S24, len = l.length ∧ l.length ≤ cap ∧ Kd.C k24 W A l.length l) := by
  intro n
  induction n using Nat.strongRecOn with
  | _ n ih =>
  constructor
  · intro cs x h
    obtain ⟨xs, m, rfl, _, hcl, hxl, hf⟩ := DataW.trod_struct Tryd.underlying24 h
    have hcl' : cs.length = 4 := hcl.trans (by kernel_rfl)
    match cs, hcl', xs, hxl with
    | [v0, v1, v2, v3], _, [y0, y1, y2, y3], _ =>
      have c3 : Tryd.prog.cellsOf 3 = 1 := by kernel_rfl
      have c9 : Tryd.prog.cellsOf 9 = 1 := by kernel_rfl
      have c22 : Tryd.prog.cellsOf 22 = 1 := by kernel_rfl
      have g0 := hf 0 _ rfl
      have g1 := hf 1 _ rfl
      have g2 := hf 2 _ rfl
      have g3 := hf 3 _ rfl
      simp [c3, c9, c22] at g0 g1 g2 g3
      obtain ⟨x0, e0, _, _⟩ := DataW.trod_int Tryd.underlying3 g0
      obtain ⟨x1, e1, _, _⟩ := DataW.trod_int Tryd.underlying3 g1
      obtain ⟨x2, e2, _, _⟩ := DataW.trod_string Tryd.underlying9 g2
      simp at e0 e1 e2
      subst e0 e1 e2
      have hs : ∃ A len cap, v3 = .slice A len cap := by
        rcases DataW.trod_slice Tryd.underlying22 g3 with ⟨h0, _⟩ | ⟨a, len, cap, _, _, _, _, h0, _⟩
        · exact ⟨none, 0, 0, by simpa using h0⟩
        · exact ⟨some a, len, cap, by simpa using h0⟩
      obtain ⟨A, len, cap, rfl⟩ := hs
      obtain ⟨l, rfl, hl, hC⟩ := (ih m (by omega)).2 A len cap _ g3
      exact ⟨⟨x0, x1, x2, l⟩, k24_mk W ⟨x0, x1, x2, l⟩ hl hC⟩
  · intro A len cap x h
    rcases DataW.trod_slice Tryd.underlying22 h with ⟨h0, _⟩ | ⟨a, len', cap', elems, rest, m, rfl, h0, _, _, hl, hm, hlen, hel, _⟩
    · simp at h0
      obtain ⟨rfl, rfl, rfl⟩ := h0
      exact ⟨[], rfl, Nat.zero_le _, Kd.C_nil k24 W⟩
    · simp at h0
      obtain ⟨rfl, rfl, rfl⟩ := h0
      obtain ⟨l, rfl, hC⟩ := row_of_elems k24 (sz := 4) (by kernel_rfl) rfl (by unfold maxLen at hm; omega) hlen hel (ih m (by omega)).1
      exact ⟨l, rfl, hl, hC⟩
end
end Go.Proofs.YtmnbbhieodcoeaaDoor.Rt
