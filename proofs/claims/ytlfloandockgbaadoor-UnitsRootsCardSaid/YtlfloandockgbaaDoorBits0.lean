/-
  math/bits.LeadingZeros64, math/bits.Mul64, strings.CutPrefix and strings.Trim as values, for the printed functions. For every argument of their kinds; Trim at a cutset of one zero digit.
-/
import Derived.Test.YtlfloandockgbaaDoorShelf
import Derived.Test.YtlfloandockgbaaDoorWWords
import Derived.ProofKit
namespace Go.Proofs.YtlfloandockgbaaDoor.Uni
open Go.RowKit Go.Proofs.YtlfloandockgbaaDoorW.PrintWords
set_option linter.unusedVariables false
set_option linter.unusedSimpArgs false

def bits_LeadingZeros64.f (x : Int) : Option Int := if 0 ≤ x ∧ x ≤ 18446744073709551615 then some (64 - (Lib.bitLen x.toNat : Int)) else none
theorem bits_LeadingZeros64.calls (a0 : Int) (r : Int) (w : World) (h : bits_LeadingZeros64.f a0 = some r) :
    Calls Tryd.prog 35 #[.int .u64 a0] w fun e w' => e = .returned (.int .i64 r) ∧ Drawn0 w w' := by
  unfold bits_LeadingZeros64.f at h
  by_cases hg : 0 ≤ a0 ∧ a0 ≤ 18446744073709551615
  · rw [if_pos hg] at h
    cases h
    refine (Tryd.bits_LeadingZeros64 a0 w hg.1 hg.2).mono ?_
    rintro e w' ⟨rfl, rfl⟩
    exact ⟨rfl, Drawn0.refl _⟩
  · rw [if_neg hg] at h
    cases h
def bits_Mul64.f (x y : Int) : Option (Int × Int) :=
  if 0 ≤ x ∧ x ≤ 18446744073709551615 ∧ 0 ≤ y ∧ y ≤ 18446744073709551615 then some (((x.toNat * y.toNat / 18446744073709551616 : Nat) : Int), ((x.toNat * y.toNat % 18446744073709551616 : Nat) : Int)) else none
theorem bits_Mul64.calls (a0 a1 : Int) (r1 r2 : Int) (w : World) (h : bits_Mul64.f a0 a1 = some (r1, r2)) :
    Calls Tryd.prog 24 #[.int .u64 a0, .int .u64 a1] w fun e w' => e = .returned (.tuple #[.int .u64 r1, .int .u64 r2]) ∧ Drawn0 w w' := by
  unfold bits_Mul64.f at h
  by_cases hg : 0 ≤ a0 ∧ a0 ≤ 18446744073709551615 ∧ 0 ≤ a1 ∧ a1 ≤ 18446744073709551615
  · rw [if_pos hg] at h
    simp only [Option.some.injEq, Prod.mk.injEq] at h
    obtain ⟨rfl, rfl⟩ := h
    obtain ⟨g0, g1, g2, g3⟩ := hg
    have k := Tryd.bits_Mul64 a0.toNat a1.toNat (by omega) (by omega) w
    rw [Int.toNat_of_nonneg g0, Int.toNat_of_nonneg g2] at k
    refine k.mono ?_
    rintro e w' ⟨rfl, rfl⟩
    exact ⟨rfl, Drawn0.refl _⟩
  · rw [if_neg hg] at h
    cases h
def strings_CutPrefix.f (s p : ByteArray) : Option (ByteArray × Bool) := some (⟨(Lib.trimPrefix s.data.toList p.data.toList).toArray⟩, Lib.hasPrefix s.data.toList p.data.toList)
theorem strings_CutPrefix.calls (a0 a1 : ByteArray) (r1 : ByteArray) (r2 : Bool) (w : World) (h : strings_CutPrefix.f a0 a1 = some (r1, r2)) :
    Calls Tryd.prog 36 #[.string a0, .string a1] w fun e w' => e = .returned (.tuple #[.string r1, .bool r2]) ∧ Drawn0 w w' := by
  unfold strings_CutPrefix.f at h
  simp only [Option.some.injEq, Prod.mk.injEq] at h
  obtain ⟨rfl, rfl⟩ := h
  refine (Tryd.strings_CutPrefix a0 a1 w).mono ?_
  rintro e w' ⟨rfl, rfl⟩
  exact ⟨rfl, Drawn0.refl _⟩
def strings_Trim.f (s c : ByteArray) : Option ByteArray := if c = ⟨#[48]⟩ ∧ s.size ≤ 1000000 then some ⟨(Lib.trimB s.data.toList 48).toArray⟩ else none
theorem strings_Trim.calls (a0 a1 : ByteArray) (r : ByteArray) (w : World) (h : strings_Trim.f a0 a1 = some r) :
    Calls Tryd.prog 38 #[.string a0, .string a1] w fun e w' => e = .returned (.string r) ∧ Drawn0 w w' := by
  unfold strings_Trim.f at h
  by_cases hg : a1 = ⟨#[48]⟩ ∧ a0.size ≤ 1000000
  · rw [if_pos hg] at h
    cases h
    obtain ⟨rfl, hs⟩ := hg
    refine (Tryd.strings_Trim_one a0 48 (by decide) w (by omega)).mono ?_
    rintro e w' ⟨rfl, rfl | rfl⟩
    · exact ⟨rfl, Drawn0.refl _⟩
    · exact ⟨rfl, ⟨⟨1, rfl⟩⟩⟩
  · rw [if_neg hg] at h
    cases h
end Go.Proofs.YtlfloandockgbaaDoor.Uni
