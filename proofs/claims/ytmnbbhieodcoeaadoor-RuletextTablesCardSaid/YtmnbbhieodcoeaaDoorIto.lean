/-
  strconv.Itoa for every int. Condition: the library's table of powers of ten holds what it holds at the start.
-/
import Derived.Test.YtmnbbhieodcoeaaDoorShelf
import Derived.Test.YtmnbbhieodcoeaaDoorPBasex
import Derived.Lib.AppendIntMem
namespace Go.Proofs.YtmnbbhieodcoeaaDoor.Rt
open Go.RowKit Go.Proofs.YtmnbbhieodcoeaaDoorW.PrintWords Go.Proofs.YtmnbbhieodcoeaaDoorW.PrintLast Go.Proofs.YtmnbbhieodcoeaaDoorW.PrintMore
set_option linter.unusedVariables false
set_option linter.unusedSimpArgs false
def Tab (w : World) : Prop := Lib.TabIs Tryd.prog w "internal/strconv.uint64pow10" .u64 Lib.pow10Tab
theorem tab_below {w w' : World} (h : Tab w) (hb : Below w.heap.size w w') : Tab w' := by
  unfold Tab Lib.TabIs at h ⊢
  have hg : Tryd.prog.globalNamed "internal/strconv.uint64pow10" = some 1 := by kernel_rfl
  have hlt : 1 < w.heap.size := by
    unfold World.var? at h
    simp only [hg, Option.bind_some] at h
    rcases Nat.lt_or_ge 1 w.heap.size with hl | hl
    · exact hl
    · rw [Array.getElem?_eq_none hl] at h
      cases h
  unfold World.var? at h ⊢
  simp only [hg, Option.bind_some] at h ⊢
  rw [hb.block 1 hlt]
  exact h
def itoa.f (n : Int) : Option ByteArray := if -9223372036854775808 ≤ n ∧ n ≤ 9223372036854775807 then some ⟨(Lib.itoa n).toArray⟩ else none
theorem itoa.calls (n : Int) (r : ByteArray) (w : World) (hT : Tab w) (h : itoa.f n = some r) : Calls Tryd.prog 36 #[.int .i64 n] w fun e w' => e = .returned (.string r) ∧ Below w.heap.size w w' := by
  unfold itoa.f at h
  by_cases hg : -9223372036854775808 ≤ n ∧ n ≤ 9223372036854775807
  · rw [if_pos hg] at h
    cases h
    refine (Tryd.strconv_Itoa n hg.1 hg.2 w hT).mono ?_
    rintro e w' ⟨rfl, k, os, rfl⟩
    exact ⟨rfl, Lib.below_grow _ w (Nat.le_refl _) k os⟩
  · rw [if_neg hg] at h
    cases h
theorem sz1 (a : UInt8) : (⟨#[a]⟩ : ByteArray).size = 1 := rfl
theorem sz2 (a b : UInt8) : (⟨#[a, b]⟩ : ByteArray).size = 2 := rfl
theorem sz4 (a b c d : UInt8) : (⟨#[a, b, c, d]⟩ : ByteArray).size = 4 := rfl
theorem sz6 (a b c d e f : UInt8) : (⟨#[a, b, c, d, e, f]⟩ : ByteArray).size = 6 := rfl
end Go.Proofs.YtmnbbhieodcoeaaDoor.Rt
