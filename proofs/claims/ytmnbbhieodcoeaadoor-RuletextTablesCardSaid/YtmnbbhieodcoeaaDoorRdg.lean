/-
  The document's Digits, strength and sign.
-/
import Derived.Test.YtmnbbhieodcoeaaDoorTxs
import Derived.Test.YtmnbbhieodcoeaaDoorRwf
namespace Go.Proofs.YtmnbbhieodcoeaaDoor.Rt
open Go.RowKit Go.Proofs.YtmnbbhieodcoeaaDoorW.PrintWords Go.Proofs.YtmnbbhieodcoeaaDoorW.PrintLast Go.Proofs.YtmnbbhieodcoeaaDoorW.PrintMore
open Go.Proofs.YtmnbbhieodcoeaaDoor.PBase Go.Proofs.YtmnbbhieodcoeaaDoor.PScn Go.Proofs.YtmnbbhieodcoeaaDoor.PRex
set_option linter.unusedVariables false
set_option linter.unusedSimpArgs false
theorem u64_id {n : Int} (h0 : 0 ≤ n) (h1 : n < 18446744073709551616) : IntKind.u64.wrap n = n := by rw [IntKind.wrap_u64]; omega
theorem nat_up {k k' : Nat} (h : k ≤ k') {a : Int} {r : ByteArray} (e : sawmillref06_natural.f k a = some r) : sawmillref06_natural.f k' a = some r :=
  up_le (g := fun k => sawmillref06_natural.f k a) (fun k => sawmillref06_natural.mono_l k a) h r e
theorem nat_one (u : Nat) (h : u < 10) (k : Nat) : sawmillref06_natural.f (k + 1) (u : Int) = some (mkB (Lib.decDigits u)) := by
  have hw : IntKind.u64.wrap ((u : Int) + 1) = (u : Int) + 1 := u64_id (by omega) (by omega)
  rw [sawmillref06_natural.f, if_pos (by omega), if_pos (by omega), hw, if_pos (by omega), if_pos (by omega)]
  congr 1
  apply bs_ext
  rw [bs_mkB, Lib.decDigits_one h, bs_extract, show ((u : Int) + 1).toNat = u + 1 by omega, Int.toNat_natCast]
  have hc : u = 0 ∨ u = 1 ∨ u = 2 ∨ u = 3 ∨ u = 4 ∨ u = 5 ∨ u = 6 ∨ u = 7 ∨ u = 8 ∨ u = 9 := by omega
  rcases hc with rfl | rfl | rfl | rfl | rfl | rfl | rfl | rfl | rfl | rfl <;> rfl
theorem nat_f (u : Nat) : u ≤ 1099511627776 → ∃ k, sawmillref06_natural.f k (u : Int) = some (mkB (Lib.decDigits u)) := by
  induction u using Nat.strongRecOn with
  | _ u ih =>
    intro hu
    by_cases h : u < 10
    · exact ⟨1, nat_one u h 0⟩
    · obtain ⟨k, hk⟩ := ih (u / 10) (by omega) (by omega)
      refine ⟨max k 1 + 1, ?_⟩
      have e1 : IntKind.u64.wrap (Int.tdiv (u : Int) 10) = ((u / 10 : Nat) : Int) := by
        rw [show Int.tdiv (u : Int) 10 = ((u / 10 : Nat) : Int) from rfl, u64_id (by omega) (by omega)]
      have e2 : Int.tmod (u : Int) 10 = ((u % 10 : Nat) : Int) := rfl
      have n2 : sawmillref06_natural.f (max k 1) ((u % 10 : Nat) : Int) = some (mkB (Lib.decDigits (u % 10))) := nat_up (Nat.le_max_right k 1) (nat_one _ (Nat.mod_lt _ (by omega)) 0)
      have l1 : (Lib.decDigits (u / 10)).length ≤ 13 := dec_len 13 _ (by have : (10:Nat)^13 = 10000000000000 := by decide
                                                                         omega) (by decide)
      rw [sawmillref06_natural.f, if_neg (by omega), e1, e2, nat_up (Nat.le_max_left k 1) hk, Option.bind_some, n2, Option.bind_some]
      rw [Lib.decDigits_one (Nat.mod_lt _ (by omega)), if_pos (by rw [size_mkB, size_mkB, List.length_singleton]; omega), mkB_app, ← dec_step u h]
theorem rdigits_f {n : Int} (h0 : -1099511627776 ≤ n) (h1 : n ≤ 1099511627776) : ∃ k, sawmillref06_Digits.f k n = some (mkB (pb (raw dgB ⟨1, n, ⟨#[]⟩, []⟩))) := by
  by_cases hn : n < 0
  · obtain ⟨k, hk⟩ := nat_f n.natAbs (by omega)
    refine ⟨k, ?_⟩
    have e : IntKind.u64.wrap ((IntKind.u64.wrap (wrap64 (-(wrap64 (n + 1))))) + 1) = (n.natAbs : Int) := by
      rw [wrap_id (n := n + 1) (by omega) (by omega), wrap_id (by omega) (by omega), u64_id (n := -(n + 1)) (by omega) (by omega), u64_id (by omega) (by omega)]; omega
    have hz : (mkB (Lib.decDigits n.natAbs)).size ≤ 13 := by
      rw [size_mkB]
      exact dec_len 13 _ (by have : (10:Nat)^13 = 10000000000000 := by decide
                             omega) (by decide)
    unfold sawmillref06_Digits.f
    rw [if_pos hn, e, hk, Option.bind_some, if_pos (by omega)]
    congr 1
    show mkB [45] ++ _ = _
    rw [mkB_app, raw, if_pos rfl, if_pos hn]
    show _ = mkB (bs bSub ++ (bs (dgB (-n)) ++ []))
    unfold dgB
    rw [bs_mkB, List.append_nil, show n.natAbs = (-n).toNat by omega]
    rfl
  · obtain ⟨k, hk⟩ := nat_f n.toNat (by omega)
    refine ⟨k, ?_⟩
    have e : IntKind.u64.wrap n = (n.toNat : Int) := by rw [u64_id (by omega) (by omega)]; omega
    unfold sawmillref06_Digits.f
    rw [if_neg hn, e, hk, Option.bind_some]
    congr 1
    rw [raw, if_pos rfl, if_neg hn]
    show _ = mkB (bs (dgB n) ++ [])
    unfold dgB
    rw [bs_mkB, List.append_nil]
theorem rstrength_eq (op : Int) (k : Nat) : sawmillref44_strength.f (k + 2) op = some (((bind op : Nat) : Int) + 1) := by
  unfold sawmillref44_strength.f bind
  by_cases h11 : op = 11
  · rw [if_pos h11, if_pos h11]; rfl
  rw [if_neg h11, if_neg h11]
  by_cases h10 : op = 10
  · rw [if_pos h10, if_pos h10]; rfl
  rw [if_neg h10, if_neg h10]
  by_cases h9 : op = 9
  · rw [if_pos h9, if_pos h9]; rfl
  rw [if_neg h9, if_neg h9]
  by_cases h6 : op = 6
  · subst h6; rfl
  rw [if_neg h6]
  by_cases h7 : op = 7
  · subst h7; rfl
  rw [if_neg h7]
  by_cases h8 : op = 8
  · subst h8; rfl
  rw [sawmillref44_strength.j0, if_neg (by simp [h8]), if_neg (show ¬ (op = 6 ∨ op = 7 ∨ op = 8) from fun h => h.elim h6 (fun h => h.elim h7 h8))]
  by_cases h3 : op = 3
  · subst h3; rfl
  rw [if_neg h3]
  by_cases h4 : op = 4
  · subst h4; rfl
  rw [sawmillref44_strength.j1, if_neg (by simp [h4]), if_neg (show ¬ (op = 3 ∨ op = 4) from fun h => h.elim h3 h4)]
  split <;> rfl
theorem rsign_eq {op : Int} (hop : 3 ≤ op ∧ op ≤ 8 ∨ op = 10 ∨ op = 11) : sawmillref44_sign.f op = some (sgn op).f1 := by
  have hc : op = 3 ∨ op = 4 ∨ op = 5 ∨ op = 6 ∨ op = 7 ∨ op = 8 ∨ op = 10 ∨ op = 11 := by omega
  rcases hc with rfl | rfl | rfl | rfl | rfl | rfl | rfl | rfl <;> rfl
end Go.Proofs.YtmnbbhieodcoeaaDoor.Rt
