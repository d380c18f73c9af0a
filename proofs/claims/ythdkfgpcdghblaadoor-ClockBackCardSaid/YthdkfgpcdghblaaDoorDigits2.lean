/-
  Digits2: the reference's Parse with no decimals answers the value of a plain numeral and refuses every other text. For texts of at most 1000 bytes.
-/
import Derived.Test.YthdkfgpcdghblaaDoorDigits
namespace Go.Proofs.YthdkfgpcdghblaaDoor.Cal
open Go.RowKit Go.Proofs.YthdkfgpcdghblaaDoorW.PrintWords Go.Proofs.YthdkfgpcdghblaaDoorW.PrintLast Go.Proofs.YthdkfgpcdghblaaDoorW.PrintMore
open Go.Proofs.YthdkfgpcdghblaaDoor.PAll Go.Proofs.YthdkfgpcdghblaaDoor.CMath
set_option linter.unusedVariables false
set_option linter.unusedSimpArgs false

theorem j0_eq (k : Nat) (x : ByteArray) (neg : Bool) : sawmillref01_Parse.j0 (k + 1) x 0 neg = (sawmillref01_Clamp.f k 0 0 9).bind fun t160 => ((sawmillref01_form.f k x t160).bind fun bt161 => (if bt161.2 = true then (sawmillref01_Parse.l0 k neg bt161.1 0 false true 0) else (some (0, 5)))) := by
  rw [sawmillref01_Parse.j0]
theorem j0_eqb (k m : Nat) (hm : k = m + 1) (x : ByteArray) (neg : Bool) : sawmillref01_Parse.j0 (k + 1) x 0 neg = ((sawmillref01_form.f k x 0).bind fun bt161 => (if bt161.2 = true then (sawmillref01_Parse.l0 k neg bt161.1 0 false true 0) else (some (0, 5)))) := by
  have h : sawmillref01_Clamp.f k 0 0 9 = some 0 := by rw [hm]; exact clamp0 m
  rw [j0_eq, h, Option.bind_some]
theorem pj_no (k : Nat) (x : ByteArray) (neg : Bool) (h : sawmillref01_form.f k x 0 = some ([], false)) (m : Nat) (hm : k = m + 1) : sawmillref01_Parse.j0 (k + 1) x 0 neg = some (0, 5) := by
  rw [j0_eqb k m hm, h, Option.bind_some, if_neg (by decide)]
theorem pj_yes (k : Nat) (x : ByteArray) (neg : Bool) (l : List Int) (h : sawmillref01_form.f k x 0 = some (l, true)) (m : Nat) (hm : k = m + 1) : sawmillref01_Parse.j0 (k + 1) x 0 neg = sawmillref01_Parse.l0 k neg l 0 false true 0 := by
  rw [j0_eqb k m hm, h, Option.bind_some, if_pos rfl]
theorem parse_j0 (k : Nat) (hk : 2000 ≤ k) (x : ByteArray) (neg : Bool) (hx : x.size ≤ 1000) : (sawmillref01_Parse.j0 (k + 2) x 0 neg = some (0, 5) ∧ ¬ Formed x) ∨
    (Formed x ∧ ∃ u o z, sawmillref01_Parse.j0 (k + 2) x 0 neg = pEnd (k - x.size) neg u o z ∧
      (o = false → u = val x x.size ∧ u ≤ 9223372036854775808) ∧ (z = false → o = false → 1 ≤ u) ∧ 0 ≤ u ∧ u ≤ 9223372036854775808 ∧ (val x x.size ≤ 1099511627776 → o = false)) := by
  by_cases hf : Formed x
  · right
    refine ⟨hf, ?_⟩
    rw [pj_yes (k + 1) x neg _ ((form_f x hx (k + 1) (by omega)).1 hf) k rfl]
    have hl := parse_l0 x hf.2.2 hx neg (k - x.size) x.size 0 0 false true (by omega) (by omega) (fun _ => ⟨rfl, by omega⟩) (fun h => by cases h) (by omega) (by omega)
    rw [show x.size + (k - x.size) + 1 = k + 1 by omega] at hl
    obtain ⟨u, o, z, e, a1, a2, a3, a4, a5⟩ := hl
    exact ⟨u, o, z, e, a1, a2, a3, a4, fun h => a5 h rfl⟩
  · left
    exact ⟨pj_no (k + 1) x neg ((form_f x hx (k + 1) (by omega)).2 hf) k rfl, hf⟩
theorem parse_f (t : ByteArray) (hs : t.size ≤ 1000) (k : Nat) (hk : 2100 ≤ k) : (Numl t → sawmillref01_Parse.f k t 0 = some (val t t.size, 0)) ∧ (¬ Numl t → ∃ r e, sawmillref01_Parse.f k t 0 = some (r, e) ∧ (e ≠ 0 ∨ r < 0 ∨ r > 1099511627776)) := by
  obtain ⟨k, rfl⟩ : ∃ m, k = m + 1 := ⟨k - 1, by omega⟩
  have he : (t.toList = ([] : List UInt8)) ↔ t.size = 0 := by
    rw [ByteArray.toList_eq]
    constructor
    · intro h
      have := congrArg List.length h
      simpa using this
    · intro h
      apply List.eq_nil_of_length_eq_zero
      simpa using h
  unfold sawmillref01_Parse.f
  by_cases h0 : t.size = 0
  · rw [if_pos (he.mpr h0)]
    exact ⟨fun h => absurd h.1 (by omega), fun _ => ⟨0, 3, rfl, .inl (by decide)⟩⟩
  · rw [if_neg (fun h => h0 (he.mp h)), if_pos (by omega)]
    obtain ⟨k, rfl⟩ : ∃ m, k = m + 1 := ⟨k - 1, by omega⟩
    by_cases hm : bt t 0 = 45
    · rw [if_pos hm, if_pos (by omega)]
      have hn : ¬ Numl t := fun h => by have := h.2.2.1 0 (by omega); have e : ((0 : Nat) : Int) = 0 := rfl; rw [e] at this; omega
      refine ⟨fun h => absurd h hn, fun _ => ?_⟩
      have hx : (t.extract 1 t.size).size ≤ 1000 := by rw [size_extract _ _ _ (Nat.le_refl _)]; omega
      have hb : (bt t 0 == 45) = true := by simp [hm]
      rw [hb]
      rcases parse_j0 k (by omega) (t.extract 1 t.size) true hx with ⟨e, _⟩ | ⟨_, u, o, z, e, a1, a2, a3, a4, _⟩
      · exact ⟨0, 5, e, .inl (by decide)⟩
      · obtain ⟨r, e', h1, h2⟩ := pEnd_neg (k - (t.extract 1 t.size).size) (by omega) u o z a3 a4 a2
        exact ⟨r, e', e.trans h1, by rcases h2 with h2 | h2; exact .inl h2; exact .inr (.inl h2)⟩
    · rw [if_neg hm]
      have hb : (bt t 0 == 45) = false := by simp [hm]
      rw [hb]
      rcases parse_j0 k (by omega) t false hs with ⟨e, hf⟩ | ⟨hf, u, o, z, e, a1, a2, a3, a4, a5⟩
      · rw [e]
        exact ⟨fun h => absurd ⟨h.1, h.2.1, h.2.2.1⟩ hf, fun _ => ⟨0, 5, rfl, .inl (by decide)⟩⟩
      · rw [e, pEnd_pos (k - t.size) (by omega) u o z a3 a4]
        by_cases hv : val t t.size ≤ 1099511627776
        · have ho := a5 hv
          have hu := a1 ho
          rw [if_neg (by rintro (h | h); rw [ho] at h; cases h; omega)]
          exact ⟨fun _ => by rw [hu.1], fun h => absurd ⟨hf.1, hf.2.1, hf.2.2, hv⟩ h⟩
        · refine ⟨fun h => absurd h.2.2.2 hv, fun _ => ?_⟩
          by_cases ho : o = true ∨ u > 9223372036854775807
          · rw [if_pos ho]
            exact ⟨0, 9, rfl, .inl (by decide)⟩
          · rw [if_neg ho]
            have hof : o = false := Bool.eq_false_iff.mpr (fun h => ho (.inl h))
            have hu := a1 hof
            exact ⟨u, 0, rfl, .inr (.inr (by omega))⟩
end Go.Proofs.YthdkfgpcdghblaaDoor.Cal
