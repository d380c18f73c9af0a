/-
  What the program's Format and the reference's return, as one text. For every number; for the program's: where the library's table of powers of ten holds what it holds at the start.
-/
import Derived.Test.YthdkfgpcdghblaaDoorText0
import Derived.Test.YthdkfgpcdghblaaDoorCalb
import Derived.Lib.AppendIntMem
namespace Go.Proofs.YthdkfgpcdghblaaDoor.Cal
open Go.RowKit Go.Proofs.YthdkfgpcdghblaaDoorW.PrintWords Go.Proofs.YthdkfgpcdghblaaDoorW.PrintLast Go.Proofs.YthdkfgpcdghblaaDoorW.PrintMore
open Go.Proofs.YthdkfgpcdghblaaDoor.PAll Go.Proofs.YthdkfgpcdghblaaDoor.CMath
set_option linter.unusedVariables false
set_option linter.unusedSimpArgs false

theorem w64' {x : Int} (h0 : -9000000000000000000 ≤ x) (h1 : x ≤ 9000000000000000000) : wrap64 x = x := by unfold wrap64; omega
/-- The table of powers of ten is as the start lays it. -/
def Tab (w : World) : Prop := Lib.TabIs Tryd.prog w "internal/strconv.uint64pow10" .u64 Lib.pow10Tab
def numeral (n : Int) : ByteArray := ⟨(Lib.itoa n).toArray⟩
def twoS (n : Int) : ByteArray := strOfNums [48 + n / 10, 48 + n % 10]
def fmtS (a : Int) : ByteArray :=
  if isT a = true then (((((⟨#[100]⟩ : ByteArray) ++ numeral (a / 1440)) ++ (⟨#[32]⟩ : ByteArray)) ++ twoS (a % 1440 / 60)) ++ (⟨#[58]⟩ : ByteArray)) ++ twoS (a % 60) else ⟨#[]⟩

theorem nDigits_le : ∀ (k u : Nat), u < 10 ^ (k + 1) → Lib.nDigits u ≤ k + 1
  | 0, u, h => by rw [Lib.nDigits_small (by simpa using h)]; omega
  | k + 1, u, h => by
    by_cases h1 : u < 10
    · rw [Lib.nDigits_small h1]; omega
    · rw [Lib.nDigits_big h1]
      have := nDigits_le k (u / 10) (by rw [Nat.pow_succ] at h; omega)
      omega
theorem numeral_size (n : Int) (h0 : 0 ≤ n) (h1 : n ≤ 10000000) : (numeral n).size ≤ 8 := by
  unfold numeral Lib.itoa
  rw [if_neg (by omega)]
  show (Lib.decDigits n.toNat).toArray.size ≤ 8
  rw [List.size_toArray, Lib.decDigits_length]
  exact nDigits_le 7 n.toNat (by omega)
theorem two_size (n : Int) : (twoS n).size = 2 := strOfNums_size _
theorem two_f (n : Int) (h0 : 0 ≤ n) (h1 : n < 100) : clock_two.f n = some (twoS n) := by
  unfold clock_two.f twoS
  rw [Int.tdiv_eq_ediv_of_nonneg h0, Int.tmod_eq_emod_of_nonneg h0, w64' (x := n / 10) (by omega) (by omega), w64' (by omega) (by omega), w64' (by omega) (by omega), Int.emod_eq_of_lt (a := 48 + n / 10) (by omega) (by omega), Int.emod_eq_of_lt (a := 48 + n % 10) (by omega) (by omega)]
theorem rtwo_f (n : Int) (h0 : 0 ≤ n) (h1 : n < 100) : sawmillref07_two.f n = some (twoS n) := two_f n h0 h1
theorem two_any (n : Int) (w : World) (h0 : 0 ≤ n) (h1 : n < 100) : Calls Tryd.prog 41 #[.int .i64 n] w fun e w' => e = .returned (.string (twoS n)) ∧ Below w.heap.size w w' :=
  clock_two.calls n _ w (two_f n h0 h1)
theorem rtwo_any (n : Int) (w : World) (h0 : 0 ≤ n) (h1 : n < 100) : Calls Tryd.prog 43 #[.int .i64 n] w fun e w' => e = .returned (.string (twoS n)) ∧ Below w.heap.size w w' :=
  sawmillref07_two.calls n _ w (rtwo_f n h0 h1)
theorem itoa_any (n : Int) (w : World) (ht : Tab w) (h0 : 0 ≤ n) (h1 : n ≤ 10000000) : Calls Tryd.prog 40 #[.int .i64 n] w fun e w' => e = .returned (.string (numeral n)) ∧ Below w.heap.size w w' := by
  refine (Tryd.strconv_Itoa n (by omega) (by omega) w ht).mono ?_
  rintro e w' ⟨rfl, k, os, rfl⟩
  exact ⟨rfl, Lib.below_grow _ w (Nat.le_refl _) k os⟩

set_option maxHeartbeats 1000000 in
theorem format_yes (a : Int) (w : World) (hT : Tab w) (h : isT a = true) : Calls Tryd.prog 28 #[.int .i64 a] w fun e w' => e = .returned (.string (fmtS a)) ∧ Below w.heap.size w w' := by
  have hb := (isT_iff a).mp h
  have h0 := hb.1
  have h1 := hb.2
  have HE : Aside0 (fmtS a = (((((⟨#[100]⟩ : ByteArray) ++ numeral (a / 1440)) ++ (⟨#[32]⟩ : ByteArray)) ++ twoS (a % 1440 / 60)) ++ (⟨#[58]⟩ : ByteArray)) ++ twoS (a % 60)) := ⟨by unfold fmtS; rw [if_pos h]⟩
  have HT := Aside0.mk hT
  have s1 := numeral_size (a / 1440) (by omega) (by omega)
  obtain ⟨x, hx⟩ : ∃ x, numeral (a / 1440) = x := ⟨_, rfl⟩
  obtain ⟨y, hy⟩ : ∃ x, twoS (a % 1440 / 60) = x := ⟨_, rfl⟩
  obtain ⟨z, hz⟩ : ∃ x, twoS (a % 60) = x := ⟨_, rfl⟩
  have s2 := Nat.le_of_eq (two_size (a % 1440 / 60))
  have s3 := Nat.le_of_eq (two_size (a % 60))
  rw [hx] at s1
  rw [hy] at s2
  rw [hz] at s3
  rw [hx, hy, hz] at HE
  have hA : ∀ w, Tab w → Calls Tryd.prog 40 #[.int .i64 (a / 1440)] w fun e w' => e = .returned (.string x) ∧ Below w.heap.size w w' := fun w t => by rw [← hx]; exact itoa_any _ w t (by omega) (by omega)
  have hB : ∀ w, Calls Tryd.prog 41 #[.int .i64 (a % 1440 / 60)] w fun e w' => e = .returned (.string y) ∧ Below w.heap.size w w' := fun w => by rw [← hy]; exact two_any _ w (by omega) (by omega)
  have hC : ∀ w, Calls Tryd.prog 41 #[.int .i64 (a % 60)] w fun e w' => e = .returned (.string z) ∧ Below w.heap.size w w' := fun w => by rw [← hz]; exact two_any _ w (by omega) (by omega)
  have HA := Aside0.mk hA
  have HB := Aside0.mk hB
  have HC := Aside0.mk hC
  clear hA hB hC hx hy hz hT hb
  go_enter Tryd.func28, Tryd.ntmps28
  go_wp2_with (go_at_call 31; refine (time_any _ _).mono ?_; rintro e w' ⟨rfl, rfl⟩)
  refine (HA.out _ HT.out).mono ?_
  rintro e w1 ⟨rfl, hb1⟩
  have B1 := Aside0.mk hb1
  clear hb1
  go_wp2_with fail
  refine (HB.out _).mono ?_
  rintro e w2 ⟨rfl, hb2⟩
  have B2 := Aside0.mk hb2
  clear hb2
  go_wp2_with fail
  refine (HC.out _).mono ?_
  rintro e w3 ⟨rfl, hb3⟩
  have B3 := Aside0.mk hb3
  clear hb3
  go_wp2_with fail
  go_ret
  exact ⟨by rw [HE.out]; rfl, below_step (below_step B1.out B2.out) B3.out⟩
end Go.Proofs.YthdkfgpcdghblaaDoor.Cal
