/-
  The lexemes that texts of trees are made of, scanned.
-/
import Derived.Test.YtmnbbhieodcoeaaDoorNam
import Derived.Lib.ItoaNum
namespace Go.Proofs.YtmnbbhieodcoeaaDoor.Rt
open Go.RowKit Go.Proofs.YtmnbbhieodcoeaaDoorW.PrintWords Go.Proofs.YtmnbbhieodcoeaaDoorW.PrintLast Go.Proofs.YtmnbbhieodcoeaaDoorW.PrintMore
open Go.Proofs.YtmnbbhieodcoeaaDoor.PBase Go.Proofs.YtmnbbhieodcoeaaDoor.PScn
set_option linter.unusedVariables false
set_option linter.unusedSimpArgs false

/-! ### Numerals -/
theorem dec_step (u : Nat) (h : ¬ u < 10) : Lib.decDigits u = Lib.decDigits (u / 10) ++ [UInt8.ofNat (48 + u % 10)] := by rw [Lib.decDigits, dif_neg h]
theorem dig_ofNat {d : Nat} (h : d < 10) : (UInt8.ofNat (48 + d)).toNat = 48 + d := by rw [UInt8.toNat_ofNat']; omega
theorem dec_dig (u : Nat) : ∀ c ∈ Lib.decDigits u, digB c = true := by
  have one : ∀ d, d < 10 → digB (UInt8.ofNat (48 + d)) = true := by
    intro d hd
    unfold digB
    rw [dig_ofNat hd]
    simp; omega
  induction u using Nat.strongRecOn with
  | _ u ih =>
    intro c hc
    by_cases h : u < 10
    · rw [Lib.decDigits_one h, List.mem_singleton] at hc
      rw [hc]; exact one u h
    · rw [dec_step u h, List.mem_append, List.mem_singleton] at hc
      rcases hc with hc | rfl
      · exact ih (u / 10) (by omega) c hc
      · exact one _ (Nat.mod_lt _ (by omega))
theorem dec_head (u : Nat) : ∃ c r, Lib.decDigits u = c :: r ∧ (1 ≤ u → c ≠ 48) ∧ (r ≠ [] → c ≠ 48) := by
  induction u using Nat.strongRecOn with
  | _ u ih =>
    by_cases h : u < 10
    · refine ⟨_, _, Lib.decDigits_one h, fun h1 e => ?_, fun hr => absurd rfl hr⟩
      have := congrArg UInt8.toNat e
      rw [dig_ofNat h] at this
      have e48 : (48 : UInt8).toNat = 48 := rfl
      omega
    · obtain ⟨c, r, e, h1, _⟩ := ih (u / 10) (by omega)
      have hc := h1 (by omega)
      exact ⟨c, r ++ [UInt8.ofNat (48 + u % 10)], by rw [dec_step u h, e]; rfl, fun _ => hc, fun _ => hc⟩
theorem numV_app : ∀ (l m : List UInt8) (a : Int), numV a (l ++ m) = (numV a l).bind fun b => numV b m
  | [], m, a => rfl
  | c :: r, m, a => by
    rw [List.cons_append, numV, numV]
    split
    · rfl
    · exact numV_app r m _
theorem dec_num (u : Nat) (hu : (u : Int) ≤ 1099511627776) : numV 0 (Lib.decDigits u) = some (u : Int) := by
  induction u using Nat.strongRecOn with
  | _ u ih =>
    by_cases h : u < 10
    · rw [Lib.decDigits_one h, numV, dig_ofNat h, if_neg (by omega), numV]
      congr 1; omega
    · rw [dec_step u h, numV_app, ih (u / 10) (by omega) (by omega), Option.bind_some, numV, dig_ofNat (Nat.mod_lt _ (by omega)), if_neg (by omega), numV]
      congr 1; omega
theorem dec_len (k : Nat) : ∀ u, u < 10 ^ k → 1 ≤ k → (Lib.decDigits u).length ≤ k := by
  induction k with
  | zero => intro u _ h; omega
  | succ k ih =>
    intro u hu _
    by_cases h : u < 10
    · rw [Lib.decDigits_one h]; simp
    · rw [dec_step u h, List.length_append, List.length_singleton]
      have hk : 1 ≤ k := by
        rcases Nat.lt_or_ge 0 k with h1 | h1
        · exact h1
        · obtain rfl : k = 0 := by omega
          simp at hu; omega
      have := ih (u / 10) (by rw [Nat.pow_succ] at hu; omega) hk
      omega

/-! ### Marks -/
theorem ite_some (c : Prop) [Decidable c] (x : Option Bool) : ((if c then some true else x).getD false = true) ↔ (c ∨ x.getD false = true) := by
  by_cases h : c <;> simp [h]
theorem isMkL_eq (l : List UInt8) : isMkL l = true ↔ l ∈ ([[60, 61], [62, 61], [33, 61], [46, 46], [60], [61], [62], [40], [41], [123], [125], [44], [59], [58], [43], [45], [42], [47], [64]] : List (List UInt8)) := by
  unfold isMkL isMk lexer_IsMark.f
  rw [toList_bs, bs_mkB]
  simp only [List.mem_cons, List.not_mem_nil, ite_some, Option.getD_some, Bool.false_eq_true]
theorem mark_one {c : UInt8} (hc : c ∈ ([61, 40, 41, 43, 45, 42, 59, 44] : List UInt8)) (r : List UInt8) : fsl (c :: r) = (3, [c], 0, 0) := by
  have hd : ¬ onB isDig c = true := by
    rw [digB_on]
    simp only [List.mem_cons, List.not_mem_nil, or_false] at hc
    rcases hc with rfl | rfl | rfl | rfl | rfl | rfl | rfl | rfl <;> decide
  have hw : ¬ onB isWrd c = true := by
    simp only [List.mem_cons, List.not_mem_nil, or_false] at hc
    rcases hc with rfl | rfl | rfl | rfl | rfl | rfl | rfl | rfl <;> decide
  have h1 : isMkL [c] = true := by
    rw [isMkL_eq]
    simp only [List.mem_cons, List.not_mem_nil, or_false] at hc
    rcases hc with rfl | rfl | rfl | rfl | rfl | rfl | rfl | rfl <;> simp
  have h2 : ¬ (1 ≤ r.length ∧ isMkL ((c :: r).take 2) = true) := by
    rintro ⟨hr, h⟩
    cases r with
    | nil => simp at hr
    | cons x q =>
      rw [isMkL_eq] at h
      simp only [List.take_succ_cons, List.take_zero, List.mem_cons, List.not_mem_nil, or_false, List.cons.injEq, and_false] at h hc
      rcases hc with rfl | rfl | rfl | rfl | rfl | rfl | rfl | rfl <;> simp at h
  rw [fsl, if_neg hd, if_neg hw, if_neg h2, if_pos h1]
theorem mark_lt (r : List UInt8) : fsl (60 :: 32 :: r) = (3, [60], 0, 0) := by
  rw [fsl, if_neg (by decide), if_neg (by decide), if_neg (by rintro ⟨_, h⟩; rw [isMkL_eq] at h; simp at h), if_pos (by rw [isMkL_eq]; simp)]
theorem mark_le (r : List UInt8) : fsl (60 :: 61 :: r) = (3, [60, 61], 0, 0) := by
  rw [fsl, if_neg (by decide), if_neg (by decide), if_pos ⟨by simp, by rw [isMkL_eq]; simp⟩]; rfl

/-! ### Words and numerals, where something else follows -/
/-- No letter and no digit follows. -/
def Sep (r : List UInt8) : Prop := r = [] ∨ ∃ c q, r = c :: q ∧ onB isWrd c = false
theorem dig_wrd {c : UInt8} (h : onB isWrd c = false) : onB isDig c = false := by
  cases hd : onB isDig c with
  | false => rfl
  | true =>
    unfold onB isDig at hd
    unfold onB isWrd at h
    rw [decide_eq_true_iff] at hd
    simp only [Bool.or_eq_false_iff, decide_eq_false_iff_not] at h
    omega
theorem run_sep {p : UInt8 → Bool} {l r : List UInt8} (hl : ∀ x ∈ l, p x = true) (hr : r = [] ∨ ∃ c q, r = c :: q ∧ p c = false) : (l ++ r).takeWhile p = l := by
  rw [List.takeWhile_append_of_pos hl]
  rcases hr with rfl | ⟨c, q, rfl, h⟩
  · simp
  · rw [List.takeWhile_cons, if_neg (by rw [h]; decide), List.append_nil]
theorem word_tok {w r : List UInt8} {c : UInt8} {q : List UInt8} (hw : w = c :: q) (hd : digB c = false) (hall : ∀ x ∈ w, okc x = true) (hl : w.length ≤ 16) (hr : Sep r) : fsl (w ++ r) = (1, w, 0, 0) := by
  have ht : (c :: (q ++ r)).takeWhile (onB isWrd) = w := by
    have := run_sep (p := onB isWrd) (l := w) (r := r) (fun x hx => okc_wrd (hall x hx)) hr
    rw [hw, List.cons_append] at this
    rw [this, hw]
  have hc : onB isWrd c = true := okc_wrd (hall c (by rw [hw]; exact List.mem_cons_self ..))
  rw [hw, List.cons_append, fsl, if_neg (by rw [digB_on, hd]; decide), if_pos hc, ht, if_pos hl, hw]
theorem num_tok (u : Nat) (hu : (u : Int) ≤ 1099511627776) {r : List UInt8} (hr : Sep r) : fsl (Lib.decDigits u ++ r) = (2, Lib.decDigits u, (u : Int), 0) := by
  obtain ⟨c, q, e, _, h0⟩ := dec_head u
  have hr' : r = [] ∨ ∃ c q, r = c :: q ∧ onB isDig c = false := by
    rcases hr with h | ⟨c, q, h1, h2⟩
    · exact .inl h
    · exact .inr ⟨c, q, h1, dig_wrd h2⟩
  have ht : (c :: (q ++ r)).takeWhile (onB isDig) = Lib.decDigits u := by
    have := run_sep (p := onB isDig) (l := Lib.decDigits u) (r := r) (fun x hx => by rw [digB_on]; exact dec_dig u x hx) hr'
    rw [e, List.cons_append] at this
    rw [this, e]
  have hc : onB isDig c = true := by rw [digB_on]; exact dec_dig u c (by rw [e]; exact List.mem_cons_self ..)
  rw [e, List.cons_append, fsl, if_pos hc, ht, if_neg (by
    rintro ⟨h1, h2⟩
    rw [e] at h1
    refine h0 ?_ h2
    rintro rfl
    simp at h1), dec_num u hu]
  exact congrArg (fun l => ((2 : Int), l, (u : Int), (0 : Int))) e
end Go.Proofs.YtmnbbhieodcoeaaDoor.Rt
