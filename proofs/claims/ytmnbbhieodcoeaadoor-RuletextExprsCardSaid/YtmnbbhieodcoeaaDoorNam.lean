/-
  What names are.
-/
import Derived.Test.YtmnbbhieodcoeaaDoorLex4
import Derived.Test.YtmnbbhieodcoeaaDoorRtp
namespace Go.Proofs.YtmnbbhieodcoeaaDoor.Rt
open Go.RowKit Go.Proofs.YtmnbbhieodcoeaaDoorW.PrintWords Go.Proofs.YtmnbbhieodcoeaaDoorW.PrintLast Go.Proofs.YtmnbbhieodcoeaaDoorW.PrintMore
open Go.Proofs.YtmnbbhieodcoeaaDoor.PBase Go.Proofs.YtmnbbhieodcoeaaDoor.PScn
set_option linter.unusedVariables false
set_option linter.unusedSimpArgs false

def digB (c : UInt8) : Bool := decide (48 ≤ c.toNat) && decide (c.toNat ≤ 57)
def okc (c : UInt8) : Bool := digB c || decide (c.toNat = 95) || (decide (97 ≤ c.toNat) && decide (c.toNat ≤ 122))
def nameB : List UInt8 → Bool
  | [] => false
  | c :: r => decide ((c :: r).length ≤ 16) && !digB c && !decide (c.toNat = 95) && (c :: r).all okc
def resB (l : List UInt8) : Bool := decide (l = [97, 110, 100]) || decide (l = [111, 114]) || decide (l = [110, 111, 116]) || decide (l = [119, 104, 101, 110]) || decide (l = [103, 114, 97, 100, 101])
def nmB (l : List UInt8) : Bool := nameB l && !resB l
theorem digit_f (c : UInt8) : ident_digit.f (c.toNat : Int) = some (digB c) := by
  unfold ident_digit.f digB
  by_cases h : 48 ≤ c.toNat
  · rw [if_pos (by omega), decide_eq_true h, Bool.true_and]
    congr 1
    apply decide_eq_decide.2
    omega
  · rw [if_neg (by omega), decide_eq_false h, Bool.false_and]
theorem name_l0 (s : ByteArray) (hs : s.size ≤ 1000) : ∀ (t : List UInt8) (i k : Nat), (bs s).drop i = t → t.length + 1 ≤ k → ident_IsName.l0 k s (s.size : Int) (i : Int) = some (t.all okc) := by
  intro t
  induction t with
  | nil =>
    intro i k h hk
    obtain ⟨k, rfl⟩ : ∃ k', k = k' + 1 := ⟨k - 1, by omega⟩
    have hl := congrArg List.length h
    rw [List.length_drop, bs_len, List.length_nil] at hl
    rw [ident_IsName.l0, if_neg (by omega)]
    rfl
  | cons c r ih =>
    intro i k h hk
    obtain ⟨k, rfl⟩ : ∃ k', k = k' + 1 := ⟨k - 1, by omega⟩
    have hi := lt_of_drop h
    have IH := ih (i + 1) k (drop_succ h) (by rw [List.length_cons] at hk; omega)
    rw [ident_IsName.l0, if_pos (by omega), if_pos (by omega), if_pos (by omega), bt_bs h, digit_f, wrap_id (n := (i : Int) + 1) (by omega) (by omega)]
    rw [show ((i : Int) + 1) = ((i + 1 : Nat) : Int) by omega, IH, Option.bind_some, List.all_cons]
    unfold okc
    cases hd : digB c with
    | true => simp
    | false =>
      rw [if_neg (by decide)]
      by_cases h95 : c.toNat = 95
      · rw [if_pos (by omega)]; simp [h95]
      · rw [if_neg (by omega)]
        by_cases h97 : (c.toNat : Int) < 97
        · rw [if_pos h97]; simp [h95, show ¬ 97 ≤ c.toNat by omega]
        · rw [if_neg h97]
          by_cases h122 : (c.toNat : Int) > 122
          · rw [if_pos h122]; simp [h95, show ¬ c.toNat ≤ 122 by omega]
          · rw [if_neg h122]; simp [h95, show 97 ≤ c.toNat by omega, show c.toNat ≤ 122 by omega]
theorem toList_bs (s : ByteArray) : s.toList = bs s := Lib.toList_data s
theorem isName_eq (s : ByteArray) (k : Nat) (hk : 20 ≤ k) : ident_IsName.f k s = some (nameB (bs s)) := by
  obtain ⟨k, rfl⟩ : ∃ k', k = k' + 1 := ⟨k - 1, by omega⟩
  have h0 := bs_len s
  unfold ident_IsName.f
  rw [toList_bs]
  cases hb : bs s with
  | nil =>
    rw [if_pos rfl, ident_IsName.j0, if_pos rfl]; rfl
  | cons c r =>
    rw [hb, List.length_cons] at h0
    rw [if_neg (by simp)]
    by_cases hl : (s.size : Int) > 16
    · rw [if_pos hl, ident_IsName.j0, if_pos rfl]
      rw [nameB, List.length_cons]
      simp [show ¬ r.length + 1 ≤ 16 by omega]
    · have hbt : bt s 0 = (c.toNat : Int) := bt_bs (i := 0) (by rw [hb]; rfl)
      have hl0 := name_l0 s (by omega) (c :: r) 0 k (by rw [hb]; rfl) (by rw [List.length_cons]; omega)
      rw [if_neg hl, if_pos (by omega), hbt, digit_f, Option.bind_some]
      rw [nameB, List.length_cons]
      cases hd : digB c with
      | true => rw [if_pos rfl, ident_IsName.j0, if_pos rfl]; simp
      | false =>
        rw [if_neg (by decide), ident_IsName.j0]
        by_cases h95 : c.toNat = 95
        · rw [if_pos (by rw [beq_iff_eq]; omega)]; simp [h95]
        · rw [if_neg (by rw [beq_iff_eq]; omega)]
          have : ident_IsName.l0 k s (s.size : Int) 0 = some ((c :: r).all okc) := hl0
          rw [this]
          simp [h95, show r.length + 1 ≤ 16 by omega]
theorem reserved_eq (s : ByteArray) : ruletext_reserved.f s = some (resB (bs s)) := by
  unfold ruletext_reserved.f resB
  rw [toList_bs]
  repeat (split; · rename_i h; simp [h])
  rename_i h1 h2 h3 h4 h5
  simp [h1, h2, h3, h4, h5]
theorem rname_eq (s : ByteArray) (k : Nat) (hk : 20 ≤ k) : ruletext_isName.f k s = some (nmB (bs s)) := by
  unfold ruletext_isName.f nmB
  rw [isName_eq s k hk, reserved_eq, Option.bind_some]
  cases nameB (bs s) <;> simp
theorem isNm_iff (s : ByteArray) : isNm s ↔ nmB (bs s) = true := by
  unfold isNm
  rw [rname_eq s 100 (by omega)]
  simp
/-- What a name is: 16 bytes at most, a letter ahead, each a letter, a digit or '_'. -/
theorem isNm_bytes {s : ByteArray} (h : isNm s) : ∃ c r, bs s = c :: r ∧ r.length ≤ 15 ∧ digB c = false ∧ (∀ x ∈ bs s, okc x = true) := by
  rw [isNm_iff] at h
  unfold nmB at h
  rw [Bool.and_eq_true] at h
  have h := h.1
  cases hb : bs s with
  | nil => rw [hb] at h; cases h
  | cons c r =>
    rw [hb, nameB] at h
    simp only [Bool.and_eq_true, decide_eq_true_eq, Bool.not_eq_true', List.length_cons] at h
    refine ⟨c, r, rfl, by omega, h.1.1.2, fun x hx => List.all_eq_true.1 h.2 x hx⟩
theorem okc_wrd {c : UInt8} (h : okc c = true) : onB isWrd c = true := by
  unfold okc digB at h
  unfold onB isWrd
  simp only [Bool.or_eq_true, Bool.and_eq_true, decide_eq_true_eq] at h ⊢
  omega
theorem digB_on (c : UInt8) : onB isDig c = digB c := by
  unfold onB isDig digB
  rw [← Bool.decide_and]
  apply decide_eq_decide.2
  omega
end Go.Proofs.YtmnbbhieodcoeaaDoor.Rt
