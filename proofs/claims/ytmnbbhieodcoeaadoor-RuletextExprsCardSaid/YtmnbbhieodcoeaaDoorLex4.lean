/-
  Scan over lists of bytes.
-/
import Derived.Test.YtmnbbhieodcoeaaDoorLex3
namespace Go.Proofs.YtmnbbhieodcoeaaDoor.Rt
open Go.RowKit Go.Proofs.YtmnbbhieodcoeaaDoorW.PrintWords Go.Proofs.YtmnbbhieodcoeaaDoorW.PrintLast Go.Proofs.YtmnbbhieodcoeaaDoorW.PrintMore
open Go.Proofs.YtmnbbhieodcoeaaDoor.PBase Go.Proofs.YtmnbbhieodcoeaaDoor.PScn
set_option linter.unusedVariables false
set_option linter.unusedSimpArgs false

theorem fsl_ok (c : UInt8) (r : List UInt8) (h : (fsl (c :: r)).2.2.2 = 0) : 1 ≤ (fsl (c :: r)).2.1.length ∧ (fsl (c :: r)).2.1.length ≤ r.length + 1 ∧ (fsl (c :: r)).2.1 = (c :: r).take (fsl (c :: r)).2.1.length := by
  have tw : ∀ p, onB p c = true → 1 ≤ ((c :: r).takeWhile (onB p)).length ∧ ((c :: r).takeWhile (onB p)).length ≤ r.length + 1 ∧ (c :: r).takeWhile (onB p) = (c :: r).take ((c :: r).takeWhile (onB p)).length := by
    intro p hp
    refine ⟨by rw [List.takeWhile_cons, if_pos hp]; simp, List.Sublist.length_le (List.takeWhile_sublist _), List.prefix_iff_eq_take.1 (List.takeWhile_prefix _)⟩
  revert h
  rw [fsl]
  split
  · rename_i hd
    split
    · intro h; cases h
    · split
      · intro h; cases h
      · intro _; exact tw _ hd
  · split
    · rename_i hw
      split
      · intro _; exact tw _ hw
      · intro h; cases h
    · split
      · rename_i h2
        intro _
        refine ⟨by simp, by simp; omega, ?_⟩
        have : ((c :: r).take 2).length = 2 := by simp; omega
        rw [this]
      · split
        · intro _; exact ⟨Nat.le_refl _, by simp, rfl⟩
        · intro h; cases h
theorem skl_suf : ∀ (b : Bool) (t : List UInt8), skl b t = t.drop (t.length - (skl b t).length)
  | _, [] => by simp [skl]
  | false, c :: r => by
    rw [skl]
    split
    · have h := skl_suf false r
      have hl := skl_le false r
      rw [List.length_cons, show r.length + 1 - (skl false r).length = (r.length - (skl false r).length) + 1 by omega, List.drop_succ_cons, ← h]
    · split
      · have h := skl_suf true r
        have hl := skl_le true r
        rw [List.length_cons, show r.length + 1 - (skl true r).length = (r.length - (skl true r).length) + 1 by omega, List.drop_succ_cons, ← h]
      · simp
  | true, c :: r => by
    rw [skl]
    split
    · have h := skl_suf false r
      have hl := skl_le false r
      rw [List.length_cons, show r.length + 1 - (skl false r).length = (r.length - (skl false r).length) + 1 by omega, List.drop_succ_cons, ← h]
    · have h := skl_suf true r
      have hl := skl_le true r
      rw [List.length_cons, show r.length + 1 - (skl true r).length = (r.length - (skl true r).length) + 1 by omega, List.drop_succ_cons, ← h]
/-- One step of Scan's loop, from place P where t = (c :: r) begins. -/
theorem scan_step (s : ByteArray) (hs : s.size ≤ 8000) (k P : Nat) (t : List UInt8) (out : List S48) (h1 : 1 ≤ t.length) (ht : (bs s).drop P = t) (hP : P + t.length = s.size) (ho : out.length ≤ 8000) (hk : s.size + 3 ≤ k) (kd n : Int) (tx : List UInt8) (hF : fsl t = (kd, tx, n, 0)) (hx : tx.length ≤ t.length) :
    lexer_Scan.l0 (k + 1) s out (P : Int) = lexer_Scan.l0 k s (out ++ [⟨kd, mkB tx, n, (P : Int)⟩]) ((s.size - (skl false (t.drop tx.length)).length : Nat) : Int) := by
  have hbe : bs (s.extract P s.size) = t := by rw [bs_from]; exact ht
  have hse : (s.extract P s.size).size = t.length := by rw [← bs_len, hbe]
  have hf := first_eq (s.extract P s.size) (by omega) (by omega) k (by omega)
  rw [hbe, hF] at hf
  have hbd : bs (s.extract (P + tx.length) s.size) = t.drop tx.length := by rw [bs_from, ← List.drop_drop, ht]
  have hsd : (s.extract (P + tx.length) s.size).size = t.length - tx.length := by rw [← bs_len, hbd, List.length_drop]
  have hsk := skip_eq (s.extract (P + tx.length) s.size) (by omega)
  rw [hbd, hsd] at hsk
  have hkl := skl_le false (t.drop tx.length)
  rw [List.length_drop] at hkl
  have hsz : (mkB tx).size = tx.length := size_mkB tx
  generalize hZ : (skl false (t.drop tx.length)).length = z at *
  generalize hL : tx.length = L at *
  generalize hT : t.length = T at *
  clear hZ hL hT hF ht hbe hse hbd hsd
  have e1 : wrap64 ((P : Int) + ((mkB tx).size : Int)) = ((P + L : Nat) : Int) := by rw [hsz, wrap_id (by omega) (by omega)]; omega
  have e2 : wrap64 (((P + L : Nat) : Int) + ((T - L - z : Nat) : Int)) = ((s.size - z : Nat) : Int) := by rw [wrap_id (by omega) (by omega)]; omega
  rw [lexer_Scan.l0, if_pos (by omega), if_pos (by omega), if_pos (by omega), Int.toNat_natCast, hf, Option.bind_some]
  simp only
  rw [if_pos trivial, if_pos (by omega), e1, if_pos (by omega), if_pos (by omega), Int.toNat_natCast, hsk, Option.bind_some, e2]
theorem scan_err (s : ByteArray) (hs : s.size ≤ 8000) (k P : Nat) (t : List UInt8) (out : List S48) (h1 : 1 ≤ t.length) (ht : (bs s).drop P = t) (hP : P + t.length = s.size) (hk : s.size + 3 ≤ k) (kd n er : Int) (tx : List UInt8) (hF : fsl t = (kd, tx, n, er)) (he : er ≠ 0) :
    lexer_Scan.l0 (k + 1) s out (P : Int) = some ([], er, (P : Int)) := by
  have hbe : bs (s.extract P s.size) = t := by rw [bs_from]; exact ht
  have hse : (s.extract P s.size).size = t.length := by rw [← bs_len, hbe]
  have hf := first_eq (s.extract P s.size) (by omega) (by omega) k (by omega)
  rw [hbe, hF] at hf
  rw [lexer_Scan.l0, if_pos (by omega), if_pos (by omega), if_pos (by omega), Int.toNat_natCast, hf, Option.bind_some]
  simp only
  rw [if_neg he]
/-- The lexemes of what is left, t, of a text of N bytes. -/
inductive Sc (N : Nat) : List UInt8 → List S48 → Prop
  | fin : Sc N [] [⟨0, ⟨#[]⟩, 0, (N : Int)⟩]
  | cons (t : List UInt8) (kd n : Int) (tx : List UInt8) (ls : List S48) : fsl t = (kd, tx, n, 0) → 1 ≤ tx.length → tx.length ≤ t.length → Sc N (skl false (t.drop tx.length)) ls → Sc N t (⟨kd, mkB tx, n, ((N - t.length : Nat) : Int)⟩ :: ls)
theorem drop_suf {L t t' : List UInt8} (hA : L.drop (L.length - t.length) = t) (hle : t.length ≤ L.length) (hB : t' = t.drop (t.length - t'.length)) (hle' : t'.length ≤ t.length) : L.drop (L.length - t'.length) = t' := by
  rw [show L.length - t'.length = (L.length - t.length) + (t.length - t'.length) by omega, ← List.drop_drop, hA, ← hB]
theorem up_l0 {k k' : Nat} (h : k ≤ k') {s : ByteArray} {out : List S48} {i : Int} {r : List S48 × Int × Int} (e : lexer_Scan.l0 k s out i = some r) : lexer_Scan.l0 k' s out i = some r :=
  up_le (g := fun k => lexer_Scan.l0 k s out i) (fun k => lexer_Scan.mono_l k s out i) h r e
theorem scan_sc (s : ByteArray) (hs : s.size ≤ 8000) {t : List UInt8} {ls : List S48} (h : Sc s.size t ls) : ∀ (out : List S48), t.length ≤ s.size → (bs s).drop (s.size - t.length) = t → out.length + t.length ≤ 8000 →
    ∃ k, lexer_Scan.l0 k s out ((s.size - t.length : Nat) : Int) = some (out ++ ls, 0, 0) := by
  induction h with
  | fin =>
    intro out _ _ ho
    refine ⟨1, ?_⟩
    rw [lexer_Scan.l0, if_neg (by simp), if_pos (by simp at ho; omega)]
  | cons t kd n tx ls hF h1 h2 _ ih =>
    intro out hl ht ho
    have hkl := skl_le false (t.drop tx.length)
    rw [List.length_drop] at hkl
    have hu : t.drop tx.length = t.drop (t.length - (t.drop tx.length).length) := by rw [List.length_drop]; congr 1; omega
    have hB := drop_suf (L := t) (t := t.drop tx.length) hu.symm (by rw [List.length_drop]; omega) (skl_suf false (t.drop tx.length)) (skl_le _ _)
    have hsuf : (bs s).drop (s.size - (skl false (t.drop tx.length)).length) = skl false (t.drop tx.length) := by
      have := drop_suf (L := bs s) (t := t) (t' := skl false (t.drop tx.length)) (by rw [bs_len]; exact ht) (by rw [bs_len]; exact hl) hB.symm (by omega)
      rwa [bs_len] at this
    obtain ⟨k, hk⟩ := ih (out ++ [⟨kd, mkB tx, n, ((s.size - t.length : Nat) : Int)⟩]) (by omega) hsuf (by rw [List.length_append, List.length_singleton]; omega)
    refine ⟨max k (s.size + 3) + 1, ?_⟩
    rw [scan_step s hs (max k (s.size + 3)) (s.size - t.length) t out (by omega) ht (by omega) (by omega) (by omega) kd n tx hF h2]
    have := up_l0 (Nat.le_max_left k (s.size + 3)) hk
    rw [List.append_assoc] at this
    exact this
theorem scan_ok (s : ByteArray) (hs : s.size ≤ 8000) {ls : List S48} (h : Sc s.size (skl false (bs s)) ls) : ∃ k, lexer_Scan.f k s = some (ls, 0, 0) := by
  have hl := skl_le false (bs s)
  rw [bs_len] at hl
  have hsuf := skl_suf false (bs s)
  rw [bs_len] at hsuf
  obtain ⟨k, hk⟩ := scan_sc s hs h [] (by omega) hsuf.symm (by simp; omega)
  refine ⟨k, ?_⟩
  unfold lexer_Scan.f
  rw [if_neg (by omega), skip_eq s (by omega)]
  exact hk
end Go.Proofs.YtmnbbhieodcoeaaDoor.Rt
