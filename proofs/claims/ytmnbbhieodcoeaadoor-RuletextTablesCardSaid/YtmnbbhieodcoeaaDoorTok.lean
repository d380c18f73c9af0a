/-
  What names are.
-/
import Derived.Test.YtmnbbhieodcoeaaDoorLex4
import Derived.Test.YtmnbbhieodcoeaaDoorRtp
import Derived.Lib.ItoaNum
namespace Go.Proofs.YtmnbbhieodcoeaaDoor.Rt
open Go.RowKit Go.Proofs.YtmnbbhieodcoeaaDoorW.PrintWords Go.Proofs.YtmnbbhieodcoeaaDoorW.PrintLast Go.Proofs.YtmnbbhieodcoeaaDoorW.PrintMore
open Go.Proofs.YtmnbbhieodcoeaaDoor.PBase Go.Proofs.YtmnbbhieodcoeaaDoor.PScn
set_option linter.unusedVariables false
set_option linter.unusedSimpArgs false
def digB (c : UInt8) : Bool := decide (48 ≤ c.toNat) && decide (c.toNat ≤ 57)
def okc (c : UInt8) : Bool := digB c || decide (c.toNat = 95) || (decide (97 ≤ c.toNat) && decide (c.toNat ≤ 122))
def nameB : List UInt8 → Bool
  | [] => false
  | c :: r => decide ((c :: r).length ≤ 16) && !digB c && !decide (c.toNat = 95) && (c :: r).all okc
def resB (l : List UInt8) : Bool := decide (l = [97, 110, 100]) || decide (l = [111, 114]) || decide (l = [110, 111, 116]) || decide (l = [119, 104, 101, 110]) || decide (l = [103, 114, 97, 100, 101])
def nmB (l : List UInt8) : Bool := nameB l && !resB l
theorem digit_f (c : UInt8) : ident_digit.f (c.toNat : Int) = some (digB c) := by
  unfold ident_digit.f digB
  by_cases h : 48 ≤ c.toNat
  · rw [if_pos (by omega), decide_eq_true h, Bool.true_and]
    congr 1
    apply decide_eq_decide.2
    omega
  · rw [if_neg (by omega), decide_eq_false h, Bool.false_and]
theorem name_l0 (s : ByteArray) (hs : s.size ≤ 1000) : ∀ (t : List UInt8) (i k : Nat), (bs s).drop i = t → t.length + 1 ≤ k → ident_IsName.l0 k s (s.size : Int) (i : Int) = some (t.all okc) := by
  intro t
  induction t with
  | nil =>
    intro i k h hk
    obtain ⟨k, rfl⟩ : ∃ k', k = k' + 1 := ⟨k - 1, by omega⟩
    have hl := congrArg List.length h
    rw [List.length_drop, bs_len, List.length_nil] at hl
    rw [ident_IsName.l0, if_neg (by omega)]
    rfl
  | cons c r ih =>
    intro i k h hk
    obtain ⟨k, rfl⟩ : ∃ k', k = k' + 1 := ⟨k - 1, by omega⟩
    have hi := lt_of_drop h
    have IH := ih (i + 1) k (drop_succ h) (by rw [List.length_cons] at hk; omega)
    rw [ident_IsName.l0, if_pos (by omega), if_pos (by omega), if_pos (by omega), bt_bs h, digit_f, wrap_id (n := (i : Int) + 1) (by omega) (by omega)]
    rw [show ((i : Int) + 1) = ((i + 1 : Nat) : Int) by omega, IH, Option.bind_some, List.all_cons]
    unfold okc
    cases hd : digB c with
    | true => simp
    | false =>
      rw [if_neg (by decide)]
      by_cases h95 : c.toNat = 95
      · rw [if_pos (by omega)]; simp [h95]
      · rw [if_neg (by omega)]
        by_cases h97 : (c.toNat : Int) < 97
        · rw [if_pos h97]; simp [h95, show ¬ 97 ≤ c.toNat by omega]
        · rw [if_neg h97]
          by_cases h122 : (c.toNat : Int) > 122
          · rw [if_pos h122]; simp [h95, show ¬ c.toNat ≤ 122 by omega]
          · rw [if_neg h122]; simp [h95, show 97 ≤ c.toNat by omega, show c.toNat ≤ 122 by omega]
theorem toList_bs (s : ByteArray) : s.toList = bs s := Lib.toList_data s
theorem isName_eq (s : ByteArray) (k : Nat) (hk : 20 ≤ k) : ident_IsName.f k s = some (nameB (bs s)) := by
  obtain ⟨k, rfl⟩ : ∃ k', k = k' + 1 := ⟨k - 1, by omega⟩
  have h0 := bs_len s
  unfold ident_IsName.f
  rw [toList_bs]
  cases hb : bs s with
  | nil =>
    rw [if_pos rfl, ident_IsName.j0, if_pos rfl]; rfl
  | cons c r =>
    rw [hb, List.length_cons] at h0
    rw [if_neg (by simp)]
    by_cases hl : (s.size : Int) > 16
    · rw [if_pos hl, ident_IsName.j0, if_pos rfl]
      rw [nameB, List.length_cons]
      simp [show ¬ r.length + 1 ≤ 16 by omega]
    · have hbt : bt s 0 = (c.toNat : Int) := bt_bs (i := 0) (by rw [hb]; rfl)
      have hl0 := name_l0 s (by omega) (c :: r) 0 k (by rw [hb]; rfl) (by rw [List.length_cons]; omega)
      rw [if_neg hl, if_pos (by omega), hbt, digit_f, Option.bind_some]
      rw [nameB, List.length_cons]
      cases hd : digB c with
      | true => rw [if_pos rfl, ident_IsName.j0, if_pos rfl]; simp
      | false =>
        rw [if_neg (by decide), ident_IsName.j0]
        by_cases h95 : c.toNat = 95
        · rw [if_pos (by rw [beq_iff_eq]; omega)]; simp [h95]
        · rw [if_neg (by rw [beq_iff_eq]; omega)]
          have : ident_IsName.l0 k s (s.size : Int) 0 = some ((c :: r).all okc) := hl0
          rw [this]
          simp [h95, show r.length + 1 ≤ 16 by omega]
theorem reserved_eq (s : ByteArray) : ruletext_reserved.f s = some (resB (bs s)) := by
  unfold ruletext_reserved.f resB
  rw [toList_bs]
  repeat (split; · rename_i h; simp [h])
  rename_i h1 h2 h3 h4 h5
  simp [h1, h2, h3, h4, h5]
theorem rname_eq (s : ByteArray) (k : Nat) (hk : 20 ≤ k) : ruletext_isName.f k s = some (nmB (bs s)) := by
  unfold ruletext_isName.f nmB
  rw [isName_eq s k hk, reserved_eq, Option.bind_some]
  cases nameB (bs s) <;> simp
theorem isNm_iff (s : ByteArray) : isNm s ↔ nmB (bs s) = true := by
  unfold isNm
  rw [rname_eq s 100 (by omega)]
  simp
theorem isNm_bytes {s : ByteArray} (h : isNm s) : ∃ c r, bs s = c :: r ∧ r.length ≤ 15 ∧ digB c = false ∧ (∀ x ∈ bs s, okc x = true) := by
  rw [isNm_iff] at h
  unfold nmB at h
  rw [Bool.and_eq_true] at h
  have h := h.1
  cases hb : bs s with
  | nil => rw [hb] at h; cases h
  | cons c r =>
    rw [hb, nameB] at h
    simp only [Bool.and_eq_true, decide_eq_true_eq, Bool.not_eq_true', List.length_cons] at h
    refine ⟨c, r, rfl, by omega, h.1.1.2, fun x hx => List.all_eq_true.1 h.2 x hx⟩
theorem okc_wrd {c : UInt8} (h : okc c = true) : onB isWrd c = true := by
  unfold okc digB at h
  unfold onB isWrd
  simp only [Bool.or_eq_true, Bool.and_eq_true, decide_eq_true_eq] at h ⊢
  omega
theorem digB_on (c : UInt8) : onB isDig c = digB c := by
  unfold onB isDig digB
  rw [← Bool.decide_and]
  apply decide_eq_decide.2
  omega
end Go.Proofs.YtmnbbhieodcoeaaDoor.Rt

namespace Go.Proofs.YtmnbbhieodcoeaaDoor.Rt
open Go.RowKit Go.Proofs.YtmnbbhieodcoeaaDoorW.PrintWords Go.Proofs.YtmnbbhieodcoeaaDoorW.PrintLast Go.Proofs.YtmnbbhieodcoeaaDoorW.PrintMore
open Go.Proofs.YtmnbbhieodcoeaaDoor.PBase Go.Proofs.YtmnbbhieodcoeaaDoor.PScn
set_option linter.unusedVariables false
set_option linter.unusedSimpArgs false
theorem dec_step (u : Nat) (h : ¬ u < 10) : Lib.decDigits u = Lib.decDigits (u / 10) ++ [UInt8.ofNat (48 + u % 10)] := by rw [Lib.decDigits, dif_neg h]
theorem dig_ofNat {d : Nat} (h : d < 10) : (UInt8.ofNat (48 + d)).toNat = 48 + d := by rw [UInt8.toNat_ofNat']; omega
theorem dec_dig (u : Nat) : ∀ c ∈ Lib.decDigits u, digB c = true := by
  have one : ∀ d, d < 10 → digB (UInt8.ofNat (48 + d)) = true := by
    intro d hd
    unfold digB
    rw [dig_ofNat hd]
    simp; omega
  induction u using Nat.strongRecOn with
  | _ u ih =>
    intro c hc
    by_cases h : u < 10
    · rw [Lib.decDigits_one h, List.mem_singleton] at hc
      rw [hc]; exact one u h
    · rw [dec_step u h, List.mem_append, List.mem_singleton] at hc
      rcases hc with hc | rfl
      · exact ih (u / 10) (by omega) c hc
      · exact one _ (Nat.mod_lt _ (by omega))
theorem dec_head (u : Nat) : ∃ c r, Lib.decDigits u = c :: r ∧ (1 ≤ u → c ≠ 48) ∧ (r ≠ [] → c ≠ 48) := by
  induction u using Nat.strongRecOn with
  | _ u ih =>
    by_cases h : u < 10
    · refine ⟨_, _, Lib.decDigits_one h, fun h1 e => ?_, fun hr => absurd rfl hr⟩
      have := congrArg UInt8.toNat e
      rw [dig_ofNat h] at this
      have e48 : (48 : UInt8).toNat = 48 := rfl
      omega
    · obtain ⟨c, r, e, h1, _⟩ := ih (u / 10) (by omega)
      have hc := h1 (by omega)
      exact ⟨c, r ++ [UInt8.ofNat (48 + u % 10)], by rw [dec_step u h, e]; rfl, fun _ => hc, fun _ => hc⟩
theorem numV_app : ∀ (l m : List UInt8) (a : Int), numV a (l ++ m) = (numV a l).bind fun b => numV b m
  | [], m, a => rfl
  | c :: r, m, a => by
    rw [List.cons_append, numV, numV]
    split
    · rfl
    · exact numV_app r m _
theorem dec_num (u : Nat) (hu : (u : Int) ≤ 1099511627776) : numV 0 (Lib.decDigits u) = some (u : Int) := by
  induction u using Nat.strongRecOn with
  | _ u ih =>
    by_cases h : u < 10
    · rw [Lib.decDigits_one h, numV, dig_ofNat h, if_neg (by omega), numV]
      congr 1; omega
    · rw [dec_step u h, numV_app, ih (u / 10) (by omega) (by omega), Option.bind_some, numV, dig_ofNat (Nat.mod_lt _ (by omega)), if_neg (by omega), numV]
      congr 1; omega
theorem dec_len (k : Nat) : ∀ u, u < 10 ^ k → 1 ≤ k → (Lib.decDigits u).length ≤ k := by
  induction k with
  | zero => intro u _ h; omega
  | succ k ih =>
    intro u hu _
    by_cases h : u < 10
    · rw [Lib.decDigits_one h]; simp
    · rw [dec_step u h, List.length_append, List.length_singleton]
      have hk : 1 ≤ k := by
        rcases Nat.lt_or_ge 0 k with h1 | h1
        · exact h1
        · obtain rfl : k = 0 := by omega
          simp at hu; omega
      have := ih (u / 10) (by rw [Nat.pow_succ] at hu; omega) hk
      omega
theorem ite_some (c : Prop) [Decidable c] (x : Option Bool) : ((if c then some true else x).getD false = true) ↔ (c ∨ x.getD false = true) := by
  by_cases h : c <;> simp [h]
theorem isMkL_eq (l : List UInt8) : isMkL l = true ↔ l ∈ ([[60, 61], [62, 61], [33, 61], [46, 46], [60], [61], [62], [40], [41], [123], [125], [44], [59], [58], [43], [45], [42], [47], [64]] : List (List UInt8)) := by
  unfold isMkL isMk lexer_IsMark.f
  rw [toList_bs, bs_mkB]
  simp only [List.mem_cons, List.not_mem_nil, ite_some, Option.getD_some, Bool.false_eq_true]
theorem mark_one {c : UInt8} (hc : c ∈ ([61, 40, 41, 43, 45, 42, 59, 44] : List UInt8)) (r : List UInt8) : fsl (c :: r) = (3, [c], 0, 0) := by
  have hd : ¬ onB isDig c = true := by
    rw [digB_on]
    simp only [List.mem_cons, List.not_mem_nil, or_false] at hc
    rcases hc with rfl | rfl | rfl | rfl | rfl | rfl | rfl | rfl <;> decide
  have hw : ¬ onB isWrd c = true := by
    simp only [List.mem_cons, List.not_mem_nil, or_false] at hc
    rcases hc with rfl | rfl | rfl | rfl | rfl | rfl | rfl | rfl <;> decide
  have h1 : isMkL [c] = true := by
    rw [isMkL_eq]
    simp only [List.mem_cons, List.not_mem_nil, or_false] at hc
    rcases hc with rfl | rfl | rfl | rfl | rfl | rfl | rfl | rfl <;> simp
  have h2 : ¬ (1 ≤ r.length ∧ isMkL ((c :: r).take 2) = true) := by
    rintro ⟨hr, h⟩
    cases r with
    | nil => simp at hr
    | cons x q =>
      rw [isMkL_eq] at h
      simp only [List.take_succ_cons, List.take_zero, List.mem_cons, List.not_mem_nil, or_false, List.cons.injEq, and_false] at h hc
      rcases hc with rfl | rfl | rfl | rfl | rfl | rfl | rfl | rfl <;> simp at h
  rw [fsl, if_neg hd, if_neg hw, if_neg h2, if_pos h1]
theorem mark_lt (r : List UInt8) : fsl (60 :: 32 :: r) = (3, [60], 0, 0) := by
  rw [fsl, if_neg (by decide), if_neg (by decide), if_neg (by rintro ⟨_, h⟩; rw [isMkL_eq] at h; simp at h), if_pos (by rw [isMkL_eq]; simp)]
theorem mark_le (r : List UInt8) : fsl (60 :: 61 :: r) = (3, [60, 61], 0, 0) := by
  rw [fsl, if_neg (by decide), if_neg (by decide), if_pos ⟨by simp, by rw [isMkL_eq]; simp⟩]; rfl
def Sep (r : List UInt8) : Prop := r = [] ∨ ∃ c q, r = c :: q ∧ onB isWrd c = false
theorem dig_wrd {c : UInt8} (h : onB isWrd c = false) : onB isDig c = false := by
  cases hd : onB isDig c with
  | false => rfl
  | true =>
    unfold onB isDig at hd
    unfold onB isWrd at h
    rw [decide_eq_true_iff] at hd
    simp only [Bool.or_eq_false_iff, decide_eq_false_iff_not] at h
    omega
theorem run_sep {p : UInt8 → Bool} {l r : List UInt8} (hl : ∀ x ∈ l, p x = true) (hr : r = [] ∨ ∃ c q, r = c :: q ∧ p c = false) : (l ++ r).takeWhile p = l := by
  rw [List.takeWhile_append_of_pos hl]
  rcases hr with rfl | ⟨c, q, rfl, h⟩
  · simp
  · rw [List.takeWhile_cons, if_neg (by rw [h]; decide), List.append_nil]
theorem word_tok {w r : List UInt8} {c : UInt8} {q : List UInt8} (hw : w = c :: q) (hd : digB c = false) (hall : ∀ x ∈ w, okc x = true) (hl : w.length ≤ 16) (hr : Sep r) : fsl (w ++ r) = (1, w, 0, 0) := by
  have ht : (c :: (q ++ r)).takeWhile (onB isWrd) = w := by
    have := run_sep (p := onB isWrd) (l := w) (r := r) (fun x hx => okc_wrd (hall x hx)) hr
    rw [hw, List.cons_append] at this
    rw [this, hw]
  have hc : onB isWrd c = true := okc_wrd (hall c (by rw [hw]; exact List.mem_cons_self ..))
  rw [hw, List.cons_append, fsl, if_neg (by rw [digB_on, hd]; decide), if_pos hc, ht, if_pos hl, hw]
theorem num_tok (u : Nat) (hu : (u : Int) ≤ 1099511627776) {r : List UInt8} (hr : Sep r) : fsl (Lib.decDigits u ++ r) = (2, Lib.decDigits u, (u : Int), 0) := by
  obtain ⟨c, q, e, _, h0⟩ := dec_head u
  have hr' : r = [] ∨ ∃ c q, r = c :: q ∧ onB isDig c = false := by
    rcases hr with h | ⟨c, q, h1, h2⟩
    · exact .inl h
    · exact .inr ⟨c, q, h1, dig_wrd h2⟩
  have ht : (c :: (q ++ r)).takeWhile (onB isDig) = Lib.decDigits u := by
    have := run_sep (p := onB isDig) (l := Lib.decDigits u) (r := r) (fun x hx => by rw [digB_on]; exact dec_dig u x hx) hr'
    rw [e, List.cons_append] at this
    rw [this, e]
  have hc : onB isDig c = true := by rw [digB_on]; exact dec_dig u c (by rw [e]; exact List.mem_cons_self ..)
  rw [e, List.cons_append, fsl, if_pos hc, ht, if_neg (by
    rintro ⟨h1, h2⟩
    rw [e] at h1
    refine h0 ?_ h2
    rintro rfl
    simp at h1), dec_num u hu]
  exact congrArg (fun l => ((2 : Int), l, (u : Int), (0 : Int))) e
end Go.Proofs.YtmnbbhieodcoeaaDoor.Rt
