/-
  The lexer over lists of bytes.
-/
import Derived.Test.YtmnbbhieodcoeaaDoorPScnx
import Derived.Test.YtmnbbhieodcoeaaDoorSmc
namespace Go.Proofs.YtmnbbhieodcoeaaDoor.Rt
open Go.RowKit Go.Proofs.YtmnbbhieodcoeaaDoorW.PrintWords Go.Proofs.YtmnbbhieodcoeaaDoorW.PrintLast Go.Proofs.YtmnbbhieodcoeaaDoorW.PrintMore
open Go.Proofs.YtmnbbhieodcoeaaDoor.PBase Go.Proofs.YtmnbbhieodcoeaaDoor.PScn
set_option linter.unusedVariables false
set_option linter.unusedSimpArgs false
def bs (s : ByteArray) : List UInt8 := s.data.toList
def mkB (l : List UInt8) : ByteArray := ⟨l.toArray⟩
theorem bs_mkB (l : List UInt8) : bs (mkB l) = l := by simp [bs, mkB]
theorem mkB_bs (s : ByteArray) : mkB (bs s) = s := by cases s; simp [bs, mkB]
theorem bs_len (s : ByteArray) : (bs s).length = s.size := by cases s; simp [bs, ByteArray.size]
theorem size_mkB (l : List UInt8) : (mkB l).size = l.length := by rw [← bs_len, bs_mkB]
theorem bs_ext {a b : ByteArray} (h : bs a = bs b) : a = b := by rw [← mkB_bs a, h, mkB_bs]
theorem bs_extract (s : ByteArray) (i j : Nat) : bs (s.extract i j) = ((bs s).take j).drop i := by
  unfold bs
  rw [ByteArray.data_extract, Array.toList_extract]
  simp [List.extract_eq_take_drop, List.drop_take]
theorem bs_from (s : ByteArray) (i : Nat) : bs (s.extract i s.size) = (bs s).drop i := by
  rw [bs_extract, ← bs_len, List.take_length]
theorem bs_to (s : ByteArray) (j : Nat) : bs (s.extract 0 j) = (bs s).take j := by rw [bs_extract, List.drop_zero]
theorem bt_bs {s : ByteArray} {i : Nat} {c : UInt8} {r : List UInt8} (h : (bs s).drop i = c :: r) : bt s (i : Int) = (c.toNat : Int) := by
  have hi : i < s.size := by
    rw [← bs_len]
    rcases Nat.lt_or_ge i (bs s).length with h1 | h1
    · exact h1
    · rw [List.drop_eq_nil_of_le h1] at h; cases h
  have h2 := bt_at s (i : Int) (by simpa using hi)
  rw [← h2]
  have h3 : (bs s)[i]? = some c := by rw [← List.head?_drop, h]; rfl
  have h4 : s[i]'hi = c := by
    unfold bs at h3
    rw [Array.getElem?_toList] at h3
    obtain ⟨_, h5⟩ := Array.getElem?_eq_some_iff.1 h3
    exact h5
  simp [h4]
theorem lt_of_drop {s : ByteArray} {i : Nat} {c : UInt8} {r : List UInt8} (h : (bs s).drop i = c :: r) : i < s.size := by
  rw [← bs_len]
  rcases Nat.lt_or_ge i (bs s).length with h1 | h1
  · exact h1
  · rw [List.drop_eq_nil_of_le h1] at h; cases h
theorem drop_succ {s : ByteArray} {i : Nat} {c : UInt8} {r : List UInt8} (h : (bs s).drop i = c :: r) : (bs s).drop (i + 1) = r := by
  rw [← List.drop_drop, h]; rfl
def onB (p : Int → Bool) (c : UInt8) : Bool := p (c.toNat : Int)
theorem runl_eq (p : Int → Bool) (s : ByteArray) : ∀ (t : List UInt8) (i : Nat), (bs s).drop i = t → runl p s t.length i = i + (t.takeWhile (onB p)).length := by
  intro t
  induction t with
  | nil => intro i h; rfl
  | cons c r ih =>
    intro i h
    rw [List.length_cons, runl, bt_bs h, List.takeWhile_cons]
    by_cases hc : p (c.toNat : Int) = true
    · rw [if_pos hc, ih (i + 1) (drop_succ h), if_pos (show onB p c = true from hc), List.length_cons]; omega
    · rw [if_neg hc, if_neg (show ¬ onB p c = true from hc)]; rfl
theorem runl0 (p : Int → Bool) (s : ByteArray) : runl p s s.size 0 = ((bs s).takeWhile (onB p)).length := by
  have := runl_eq p s (bs s) 0 rfl
  rw [bs_len] at this
  rw [this]; omega
def skl : Bool → List UInt8 → List UInt8
  | _, [] => []
  | false, c :: r => if c = 32 ∨ c = 10 then skl false r else if c = 35 then skl true r else c :: r
  | true, c :: r => if c = 10 then skl false r else skl true r
theorem skl_le : ∀ (b : Bool) (t : List UInt8), (skl b t).length ≤ t.length
  | _, [] => by simp [skl]
  | false, c :: r => by
    rw [skl]
    split
    · exact Nat.le_succ_of_le (skl_le false r)
    · split
      · exact Nat.le_succ_of_le (skl_le true r)
      · exact Nat.le_refl _
  | true, c :: r => by
    rw [skl]
    split
    · exact Nat.le_succ_of_le (skl_le false r)
    · exact Nat.le_succ_of_le (skl_le true r)
theorem isRem_on (c : UInt8) : onB isRem c = true ↔ c ≠ 10 := by
  unfold onB isRem
  rw [decide_eq_true_iff]
  constructor
  · intro h e; subst e; exact h rfl
  · intro h e
    exact h (UInt8.toNat_inj.1 (by have : c.toNat = 10 := by omega
                                   rw [this]; rfl))
theorem skl_rem : ∀ t : List UInt8, skl true t = skl false (t.drop (t.takeWhile (onB isRem)).length)
  | [] => rfl
  | c :: r => by
    rw [skl, List.takeWhile_cons]
    by_cases hc : c = 10
    · rw [if_pos hc, if_neg (by rw [isRem_on]; simp [hc])]
      subst hc
      simp [skl]
    · rw [if_neg hc, if_pos (by rw [isRem_on]; exact hc), List.length_cons, List.drop_succ_cons]
      exact skl_rem r
theorem bt_is {s : ByteArray} {i : Nat} {c : UInt8} {r : List UInt8} (h : (bs s).drop i = c :: r) (n : Int) (m : UInt8) (hm : (m.toNat : Int) = n) : bt s (i : Int) = n ↔ c = m := by
  rw [bt_bs h, ← hm]
  constructor
  · intro e; exact UInt8.toNat_inj.1 (by omega)
  · intro e; rw [e]
theorem skp_eq (s : ByteArray) : ∀ (n : Nat) (t : List UInt8) (i d : Nat), t.length ≤ n → (bs s).drop i = t → t.length ≤ d → i ≤ s.size → skp s d i = s.size - (skl false t).length := by
  intro n
  induction n with
  | zero =>
    intro t i d hn h hd hi
    obtain rfl : t = [] := List.eq_nil_of_length_eq_zero (by omega)
    have hl := congrArg List.length h
    rw [List.length_drop, bs_len, List.length_nil] at hl
    cases d with
    | zero => rw [skp]; simp [skl]; omega
    | succ d => rw [skp, if_neg (by omega)]; simp [skl]; omega
  | succ n ih =>
    intro t i d hn h hd hi
    have hl := congrArg List.length h
    rw [List.length_drop, bs_len] at hl
    cases t with
    | nil =>
      rw [List.length_nil] at hl
      cases d with
      | zero => rw [skp]; simp [skl]; omega
      | succ d => rw [skp, if_neg (by omega)]; simp [skl]; omega
    | cons c r =>
      cases d with
      | zero => simp at hd
      | succ d =>
      rw [List.length_cons] at hl hn hd
      rw [skp, if_pos (lt_of_drop h), skl]
      have e32 := bt_is h 32 32 rfl
      have e10 := bt_is h 10 10 rfl
      have e35 := bt_is h 35 35 rfl
      by_cases h32 : c = 32
      · rw [if_pos (e32.2 h32), if_pos (.inl h32)]
        exact ih r (i + 1) d (by omega) (drop_succ h) (by omega) (by omega)
      rw [if_neg (fun e => h32 (e32.1 e))]
      by_cases h10 : c = 10
      · rw [if_pos (e10.2 h10), if_pos (.inr h10)]
        exact ih r (i + 1) d (by omega) (drop_succ h) (by omega) (by omega)
      rw [if_neg (fun e => h10 (e10.1 e)), if_neg (show ¬ (c = 32 ∨ c = 10) from fun e => e.elim h32 h10)]
      by_cases h35 : c = 35
      · rw [if_pos (e35.2 h35), if_pos h35, runl0, bs_from, h, List.takeWhile_cons, if_pos (by rw [isRem_on]; exact h10), List.length_cons, skl_rem r]
        have hd' : (bs s).drop (i + ((r.takeWhile (onB isRem)).length + 1)) = r.drop (r.takeWhile (onB isRem)).length := by
          rw [show i + ((r.takeWhile (onB isRem)).length + 1) = (i + 1) + (r.takeWhile (onB isRem)).length by omega, ← List.drop_drop, drop_succ h]
        have ht : (r.takeWhile (onB isRem)).length ≤ r.length := List.Sublist.length_le (List.takeWhile_sublist _)
        exact ih _ _ d (by rw [List.length_drop]; omega) hd' (by rw [List.length_drop]; omega) (by omega)
      · rw [if_neg (fun e => h35 (e35.1 e)), if_neg h35, List.length_cons]; omega
theorem skip_eq (s : ByteArray) (hs : s.size ≤ 1000000) : lexeme_skip.f s = some ((s.size - (skl false (bs s)).length : Nat) : Int) := by
  unfold lexeme_skip.f
  rw [if_pos hs, skp_eq s _ (bs s) 0 s.size (Nat.le_refl _) rfl (by rw [bs_len]; exact Nat.le_refl _) (Nat.zero_le _)]
def numV : Int → List UInt8 → Option Int
  | a, [] => some a
  | a, c :: r => if 10 * a + ((c.toNat : Int) - 48) > 1099511627776 then none else numV (10 * a + ((c.toNat : Int) - 48)) r
theorem number_l0 (s : ByteArray) (hs : s.size ≤ 1000000) : ∀ (t : List UInt8) (i : Nat) (a : Int), (bs s).drop i = t → (∀ c ∈ t, onB isDig c = true) → 0 ≤ a → a ≤ 1099511627776 →
    lexer_number.l0 (t.length + 1) s a (s.size : Int) i = match numV a t with | some n => some (2, s, n, 0, 0) | none => some (0, ⟨#[]⟩, 0, 0, 9) := by
  intro t
  induction t with
  | nil =>
    intro i a h _ h0 h1
    have hl := congrArg List.length h
    rw [List.length_drop, bs_len, List.length_nil] at hl
    rw [lexer_number.l0, if_neg (by omega)]
    rfl
  | cons c r ih =>
    intro i a h hc h0 h1
    have hi := lt_of_drop h
    have hd := hc c (List.mem_cons_self ..)
    unfold onB isDig at hd
    rw [decide_eq_true_iff] at hd
    have e : wrap64 (wrap64 (10 * a) + ((bt s (i : Int)) - 48) % 256) = 10 * a + ((c.toNat : Int) - 48) := by
      rw [bt_bs h, wrap_id (n := 10 * a) (by omega) (by omega), show ((c.toNat : Int) - 48) % 256 = (c.toNat : Int) - 48 by omega, wrap_id (by omega) (by omega)]
    rw [List.length_cons, lexer_number.l0, if_pos (by omega), if_pos (by omega), if_pos (by omega), e, numV]
    by_cases hb : 10 * a + ((c.toNat : Int) - 48) > 1099511627776
    · rw [if_pos hb, if_pos hb]
    · rw [if_neg hb, if_neg hb, wrap_id (n := (i : Int) + 1) (by omega) (by omega)]
      exact ih (i + 1) _ (drop_succ h) (fun c hc' => hc c (List.mem_cons_of_mem _ hc')) (by omega) (by omega)
def isMkL (l : List UInt8) : Bool := isMk (mkB l)
def fsl : List UInt8 → Int × List UInt8 × Int × Int
  | [] => (0, [], 0, 5)
  | c :: r =>
    if onB isDig c = true then
      (if 1 < ((c :: r).takeWhile (onB isDig)).length ∧ c = 48 then (0, [], 0, 5)
       else match numV 0 ((c :: r).takeWhile (onB isDig)) with
         | none => (0, [], 0, 9)
         | some n => (2, (c :: r).takeWhile (onB isDig), n, 0))
    else if onB isWrd c = true then
      (if ((c :: r).takeWhile (onB isWrd)).length ≤ 16 then (1, (c :: r).takeWhile (onB isWrd), 0, 0) else (0, [], 0, 6))
    else if 1 ≤ r.length ∧ isMkL ((c :: r).take 2) = true then (3, (c :: r).take 2, 0, 0)
    else if isMkL [c] = true then (3, [c], 0, 0) else (0, [], 0, 5)
theorem extract_run (p : Int → Bool) (s : ByteArray) : s.extract 0 (runl p s s.size 0) = mkB ((bs s).takeWhile (onB p)) := by
  apply bs_ext
  rw [bs_to, bs_mkB, runl0]
  exact (List.prefix_iff_eq_take.1 (List.takeWhile_prefix _)).symm
theorem first_eq (s : ByteArray) (hs : s.size ≤ 1000000) (h1 : 1 ≤ s.size) (k : Nat) (hk : s.size + 3 ≤ k) :
    lexeme_first.f k s = some ((fsl (bs s)).1, mkB (fsl (bs s)).2.1, (fsl (bs s)).2.2.1, 0, (fsl (bs s)).2.2.2) := by
  unfold lexeme_first.f
  rw [if_pos ⟨hs, h1⟩]
  cases hb : bs s with
  | nil => rw [← bs_len, hb] at h1; simp at h1
  | cons c r =>
    have hb0 : (bs s).drop 0 = c :: r := by rw [hb]; rfl
    have hbt : bt s 0 = (c.toNat : Int) := bt_bs hb0
    have hsz : s.size = r.length + 1 := by rw [← bs_len, hb]; rfl
    rw [hbt, fsl]
    by_cases hd : onB isDig c = true
    · rw [if_pos (show isDig (c.toNat : Int) = true from hd), if_pos hd, extract_run, hb]
      have hall : ∀ x ∈ (c :: r).takeWhile (onB isDig), onB isDig x = true := fun x hx => by
        have := List.all_takeWhile (p := onB isDig) (l := c :: r)
        exact List.all_eq_true.1 this x hx
      have hcons : ∃ q, (c :: r).takeWhile (onB isDig) = c :: q := ⟨_, by rw [List.takeWhile_cons, if_pos hd]⟩
      have hle : ((c :: r).takeWhile (onB isDig)).length ≤ r.length + 1 := List.Sublist.length_le (List.takeWhile_sublist _)
      generalize (c :: r).takeWhile (onB isDig) = T at *
      obtain ⟨q, rfl⟩ := hcons
      have hT : bs (mkB (c :: q)) = c :: q := bs_mkB _
      have hTs : (mkB (c :: q)).size = q.length + 1 := size_mkB _
      have hl0 := number_l0 (mkB (c :: q)) (by rw [hTs]; simp at hle; omega) (c :: q) 0 0 (by rw [hT]; rfl) hall (by decide) (by decide)
      obtain ⟨k', rfl⟩ : ∃ k', k = k' + 1 := ⟨k - 1, by omega⟩
      have hl0' : lexer_number.l0 k' (mkB (c :: q)) 0 ((mkB (c :: q)).size : Int) 0 = match numV 0 (c :: q) with | some n => some (2, mkB (c :: q), n, 0, 0) | none => some (0, ⟨#[]⟩, 0, 0, 9) := by
        cases hv : numV 0 (c :: q) with
        | none => rw [hv] at hl0; exact up_le (g := fun k => lexer_number.l0 k (mkB (c :: q)) 0 ((mkB (c :: q)).size : Int) 0) (fun k => (lexer_number.mono_l k).2 _ _ _ _) (by simp at hle ⊢; omega) _ hl0
        | some n => rw [hv] at hl0; exact up_le (g := fun k => lexer_number.l0 k (mkB (c :: q)) 0 ((mkB (c :: q)).size : Int) 0) (fun k => (lexer_number.mono_l k).2 _ _ _ _) (by simp at hle ⊢; omega) _ hl0
      have hb2 : bt (mkB (c :: q)) 0 = (c.toNat : Int) := bt_bs (i := 0) (by rw [hT]; rfl)
      unfold lexer_number.f
      rw [hb2, hTs]
      by_cases hq : 1 < (c :: q).length
      · rw [if_pos (by have : (c :: q).length = q.length + 1 := rfl; omega), if_pos (by omega), lexer_number.j0]
        by_cases h48 : c = 48
        · rw [if_pos (show 1 < (c :: q).length ∧ c = 48 from ⟨hq, h48⟩), if_pos (by subst h48; rfl)]; rfl
        · have h48' : ¬ ((c.toNat : Int) == 48) = true := by
            rw [beq_iff_eq]
            intro e
            exact h48 (UInt8.toNat_inj.1 (by have : c.toNat = 48 := by omega
                                             rw [this]; rfl))
          rw [if_neg (show ¬ (1 < (c :: q).length ∧ c = 48) from fun e => h48 e.2), if_neg h48']
          rw [hl0']
          cases numV 0 (c :: q) <;> rfl
      · rw [if_neg (by have : (c :: q).length = q.length + 1 := rfl; omega), lexer_number.j0, if_neg (show ¬ (1 < (c :: q).length ∧ c = 48) from fun e => hq e.1), if_neg (by decide)]
        rw [hl0']
        cases numV 0 (c :: q) <;> rfl
    rw [if_neg (show ¬ isDig (c.toNat : Int) = true from hd), if_neg hd]
    by_cases hw : onB isWrd c = true
    · rw [if_pos (show isWrd (c.toNat : Int) = true from hw), if_pos hw, extract_run, runl0, hb]
      by_cases h16 : ((c :: r).takeWhile (onB isWrd)).length ≤ 16
      · rw [if_pos h16, if_pos h16]
      · rw [if_neg h16, if_neg h16]; rfl
    rw [if_neg (show ¬ isWrd (c.toNat : Int) = true from hw), if_neg hw]
    have e1 : s.extract 0 1 = mkB [c] := bs_ext (by rw [bs_to, bs_mkB, hb]; rfl)
    have e2 : s.extract 0 2 = mkB ((c :: r).take 2) := bs_ext (by rw [bs_to, bs_mkB, hb])
    have m1 : mkl s 1 = if isMkL [c] = true then (3, mkB [c], 0) else (0, ⟨#[]⟩, 5) := by
      rw [mkl, mkl, e1]; rfl
    by_cases h2 : 1 ≤ r.length
    · rw [show min 2 s.size = 1 + 1 by omega, mkl, e2, m1]
      by_cases hm : isMkL ((c :: r).take 2) = true
      · rw [if_pos (show isMk _ = true from hm), if_pos (show 1 ≤ r.length ∧ isMkL ((c :: r).take 2) = true from ⟨h2, hm⟩)]
      · rw [if_neg (show ¬ isMk _ = true from hm), if_neg (show ¬ (1 ≤ r.length ∧ isMkL ((c :: r).take 2) = true) from fun e => hm e.2)]
        split <;> rfl
    · rw [show min 2 s.size = 1 by omega, m1, if_neg (show ¬ (1 ≤ r.length ∧ isMkL ((c :: r).take 2) = true) from fun e => h2 e.1)]
      split <;> rfl
end Go.Proofs.YtmnbbhieodcoeaaDoor.Rt

namespace Go.Proofs.YtmnbbhieodcoeaaDoor.Rt
open Go.RowKit Go.Proofs.YtmnbbhieodcoeaaDoorW.PrintWords Go.Proofs.YtmnbbhieodcoeaaDoorW.PrintLast Go.Proofs.YtmnbbhieodcoeaaDoorW.PrintMore
open Go.Proofs.YtmnbbhieodcoeaaDoor.PBase Go.Proofs.YtmnbbhieodcoeaaDoor.PScn
set_option linter.unusedVariables false
set_option linter.unusedSimpArgs false
theorem skl_suf : ∀ (b : Bool) (t : List UInt8), skl b t = t.drop (t.length - (skl b t).length)
  | _, [] => by simp [skl]
  | false, c :: r => by
    rw [skl]
    split
    · have h := skl_suf false r
      have hl := skl_le false r
      rw [List.length_cons, show r.length + 1 - (skl false r).length = (r.length - (skl false r).length) + 1 by omega, List.drop_succ_cons, ← h]
    · split
      · have h := skl_suf true r
        have hl := skl_le true r
        rw [List.length_cons, show r.length + 1 - (skl true r).length = (r.length - (skl true r).length) + 1 by omega, List.drop_succ_cons, ← h]
      · simp
  | true, c :: r => by
    rw [skl]
    split
    · have h := skl_suf false r
      have hl := skl_le false r
      rw [List.length_cons, show r.length + 1 - (skl false r).length = (r.length - (skl false r).length) + 1 by omega, List.drop_succ_cons, ← h]
    · have h := skl_suf true r
      have hl := skl_le true r
      rw [List.length_cons, show r.length + 1 - (skl true r).length = (r.length - (skl true r).length) + 1 by omega, List.drop_succ_cons, ← h]
theorem scan_step (s : ByteArray) (hs : s.size ≤ 8000) (k P : Nat) (t : List UInt8) (out : List S48) (h1 : 1 ≤ t.length) (ht : (bs s).drop P = t) (hP : P + t.length = s.size) (ho : out.length ≤ 8000) (hk : s.size + 3 ≤ k) (kd n : Int) (tx : List UInt8) (hF : fsl t = (kd, tx, n, 0)) (hx : tx.length ≤ t.length) :
    lexer_Scan.l0 (k + 1) s out (P : Int) = lexer_Scan.l0 k s (out ++ [⟨kd, mkB tx, n, (P : Int)⟩]) ((s.size - (skl false (t.drop tx.length)).length : Nat) : Int) := by
  have hbe : bs (s.extract P s.size) = t := by rw [bs_from]; exact ht
  have hse : (s.extract P s.size).size = t.length := by rw [← bs_len, hbe]
  have hf := first_eq (s.extract P s.size) (by omega) (by omega) k (by omega)
  rw [hbe, hF] at hf
  have hbd : bs (s.extract (P + tx.length) s.size) = t.drop tx.length := by rw [bs_from, ← List.drop_drop, ht]
  have hsd : (s.extract (P + tx.length) s.size).size = t.length - tx.length := by rw [← bs_len, hbd, List.length_drop]
  have hsk := skip_eq (s.extract (P + tx.length) s.size) (by omega)
  rw [hbd, hsd] at hsk
  have hkl := skl_le false (t.drop tx.length)
  rw [List.length_drop] at hkl
  have hsz : (mkB tx).size = tx.length := size_mkB tx
  generalize hZ : (skl false (t.drop tx.length)).length = z at *
  generalize hL : tx.length = L at *
  generalize hT : t.length = T at *
  clear hZ hL hT hF ht hbe hse hbd hsd
  have e1 : wrap64 ((P : Int) + ((mkB tx).size : Int)) = ((P + L : Nat) : Int) := by rw [hsz, wrap_id (by omega) (by omega)]; omega
  have e2 : wrap64 (((P + L : Nat) : Int) + ((T - L - z : Nat) : Int)) = ((s.size - z : Nat) : Int) := by rw [wrap_id (by omega) (by omega)]; omega
  rw [lexer_Scan.l0, if_pos (by omega), if_pos (by omega), if_pos (by omega), Int.toNat_natCast, hf, Option.bind_some]
  simp only
  rw [if_pos trivial, if_pos (by omega), e1, if_pos (by omega), if_pos (by omega), Int.toNat_natCast, hsk, Option.bind_some, e2]
inductive Sc (N : Nat) : List UInt8 → List S48 → Prop
  | fin : Sc N [] [⟨0, ⟨#[]⟩, 0, (N : Int)⟩]
  | cons (t : List UInt8) (kd n : Int) (tx : List UInt8) (ls : List S48) : fsl t = (kd, tx, n, 0) → 1 ≤ tx.length → tx.length ≤ t.length → Sc N (skl false (t.drop tx.length)) ls → Sc N t (⟨kd, mkB tx, n, ((N - t.length : Nat) : Int)⟩ :: ls)
theorem drop_suf {L t t' : List UInt8} (hA : L.drop (L.length - t.length) = t) (hle : t.length ≤ L.length) (hB : t' = t.drop (t.length - t'.length)) (hle' : t'.length ≤ t.length) : L.drop (L.length - t'.length) = t' := by
  rw [show L.length - t'.length = (L.length - t.length) + (t.length - t'.length) by omega, ← List.drop_drop, hA, ← hB]
theorem up_l0 {k k' : Nat} (h : k ≤ k') {s : ByteArray} {out : List S48} {i : Int} {r : List S48 × Int × Int} (e : lexer_Scan.l0 k s out i = some r) : lexer_Scan.l0 k' s out i = some r :=
  up_le (g := fun k => lexer_Scan.l0 k s out i) (fun k => lexer_Scan.mono_l k s out i) h r e
theorem scan_sc (s : ByteArray) (hs : s.size ≤ 8000) {t : List UInt8} {ls : List S48} (h : Sc s.size t ls) : ∀ (out : List S48), t.length ≤ s.size → (bs s).drop (s.size - t.length) = t → out.length + t.length ≤ 8000 →
    ∃ k, lexer_Scan.l0 k s out ((s.size - t.length : Nat) : Int) = some (out ++ ls, 0, 0) := by
  induction h with
  | fin =>
    intro out _ _ ho
    refine ⟨1, ?_⟩
    rw [lexer_Scan.l0, if_neg (by simp), if_pos (by simp at ho; omega)]
  | cons t kd n tx ls hF h1 h2 _ ih =>
    intro out hl ht ho
    have hkl := skl_le false (t.drop tx.length)
    rw [List.length_drop] at hkl
    have hu : t.drop tx.length = t.drop (t.length - (t.drop tx.length).length) := by rw [List.length_drop]; congr 1; omega
    have hB := drop_suf (L := t) (t := t.drop tx.length) hu.symm (by rw [List.length_drop]; omega) (skl_suf false (t.drop tx.length)) (skl_le _ _)
    have hsuf : (bs s).drop (s.size - (skl false (t.drop tx.length)).length) = skl false (t.drop tx.length) := by
      have := drop_suf (L := bs s) (t := t) (t' := skl false (t.drop tx.length)) (by rw [bs_len]; exact ht) (by rw [bs_len]; exact hl) hB.symm (by omega)
      rwa [bs_len] at this
    obtain ⟨k, hk⟩ := ih (out ++ [⟨kd, mkB tx, n, ((s.size - t.length : Nat) : Int)⟩]) (by omega) hsuf (by rw [List.length_append, List.length_singleton]; omega)
    refine ⟨max k (s.size + 3) + 1, ?_⟩
    rw [scan_step s hs (max k (s.size + 3)) (s.size - t.length) t out (by omega) ht (by omega) (by omega) (by omega) kd n tx hF h2]
    have := up_l0 (Nat.le_max_left k (s.size + 3)) hk
    rw [List.append_assoc] at this
    exact this
theorem scan_ok (s : ByteArray) (hs : s.size ≤ 8000) {ls : List S48} (h : Sc s.size (skl false (bs s)) ls) : ∃ k, lexer_Scan.f k s = some (ls, 0, 0) := by
  have hl := skl_le false (bs s)
  rw [bs_len] at hl
  have hsuf := skl_suf false (bs s)
  rw [bs_len] at hsuf
  obtain ⟨k, hk⟩ := scan_sc s hs h [] (by omega) hsuf.symm (by simp; omega)
  refine ⟨k, ?_⟩
  unfold lexer_Scan.f
  rw [if_neg (by omega), skip_eq s (by omega)]
  exact hk
end Go.Proofs.YtmnbbhieodcoeaaDoor.Rt
