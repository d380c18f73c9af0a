/-
  text writes a well-formed tree's pieces.
-/
import Derived.Test.YtmnbbhieodcoeaaDoorPrs
import Derived.Test.YtmnbbhieodcoeaaDoorPTxtx
namespace Go.Proofs.YtmnbbhieodcoeaaDoor.Rt
open Go.RowKit Go.Proofs.YtmnbbhieodcoeaaDoorW.PrintWords Go.Proofs.YtmnbbhieodcoeaaDoorW.PrintLast Go.Proofs.YtmnbbhieodcoeaaDoorW.PrintMore
open Go.Proofs.YtmnbbhieodcoeaaDoor.PBase Go.Proofs.YtmnbbhieodcoeaaDoor.PScn Go.Proofs.YtmnbbhieodcoeaaDoor.PTxt
set_option linter.unusedVariables false
set_option linter.unusedSimpArgs false
theorem bs_append (a b : ByteArray) : bs (a ++ b) = bs a ++ bs b := by unfold bs; simp [ByteArray.data_append]
theorem mkB_app (a b : List UInt8) : mkB a ++ mkB b = mkB (a ++ b) := bs_ext (by rw [bs_append, bs_mkB, bs_mkB, bs_mkB])
theorem strength_eq (op : Int) (k : Nat) : ruletext_strength.f (k + 2) op = some ((bind op : Nat) : Int) := by
  unfold ruletext_strength.f bind
  by_cases h11 : op = 11
  · rw [if_pos h11, if_pos h11]; rfl
  rw [if_neg h11, if_neg h11]
  by_cases h10 : op = 10
  · rw [if_pos h10, if_pos h10]; rfl
  rw [if_neg h10, if_neg h10]
  by_cases h9 : op = 9
  · rw [if_pos h9, if_pos h9]; rfl
  rw [if_neg h9, if_neg h9]
  by_cases h6 : op = 6
  · subst h6; rfl
  rw [if_neg h6]
  by_cases h7 : op = 7
  · subst h7; rfl
  rw [if_neg h7]
  by_cases h8 : op = 8
  · subst h8; rfl
  rw [ruletext_strength.j0, if_neg (by simp [h8]), if_neg (show ¬ (op = 6 ∨ op = 7 ∨ op = 8) from fun h => h.elim h6 (fun h => h.elim h7 h8))]
  by_cases h3 : op = 3
  · subst h3; rfl
  rw [if_neg h3]
  by_cases h4 : op = 4
  · subst h4; rfl
  rw [ruletext_strength.j1, if_neg (by simp [h4]), if_neg (show ¬ (op = 3 ∨ op = 4) from fun h => h.elim h3 h4)]
  split <;> rfl
theorem sign_eq {op : Int} (hop : 3 ≤ op ∧ op ≤ 8 ∨ op = 10 ∨ op = 11) : ruletext_sign.f op = some (mkB (32 :: (bs (sgn op).f1 ++ [32]))) := by
  have hc : op = 3 ∨ op = 4 ∨ op = 5 ∨ op = 6 ∨ op = 7 ∨ op = 8 ∨ op = 10 ∨ op = 11 := by omega
  rcases hc with rfl | rfl | rfl | rfl | rfl | rfl | rfl | rfl <;> rfl
theorem paren_eq (own m : Nat) (S : ByteArray) (hs : S.size ≤ 1000000) :
    (if ((own : Nat) : Int) < (m : Int) then (if 1 + S.size ≤ 9223372036854775807 then (if ((⟨#[40]⟩ : ByteArray) ++ S).size + 1 ≤ 9223372036854775807 then (some (((⟨#[40]⟩ : ByteArray) ++ S) ++ (⟨#[41]⟩ : ByteArray))) else (none)) else (none)) else (some S)) = some (if own < m then mkB (40 :: (bs S ++ [41])) else S) := by
  by_cases h : own < m
  · have hz : ((⟨#[40]⟩ : ByteArray) ++ S).size = 1 + S.size := by rw [← bs_len, bs_append, List.length_append, bs_len, bs_len]; rfl
    rw [if_pos (by omega), if_pos (by omega), if_pos (by omega), if_pos h]
    exact congrArg some (bs_ext (by rw [bs_append, bs_append, bs_mkB]; rfl))
  · rw [if_neg (by omega), if_neg h]
theorem pcs_text (m : Nat) (x : S24) : mkB (pb (pcs dgB m x)) = if bind x.f0 < m then mkB (40 :: (bs (mkB (pb (raw dgB x))) ++ [41])) else mkB (pb (raw dgB x)) := by
  rw [pcs]
  split
  · rw [List.cons_append, pb, pb_app, bs_mkB]; rfl
  · rfl
theorem raw_size {d : Nat} {x : S24} (h : WF d x) (hd : d ≤ 8) : (pb (raw dgB x)).length ≤ 3191 := by
  obtain ⟨e, rfl, hl⟩ := raw_len h
  have : 2 ^ e ≤ 2 ^ 7 := Nat.pow_le_pow_right (by omega) (by omega)
  have h7 : 2 ^ 7 = 128 := by decide
  omega
theorem text_up {k k' : Nat} (h : k ≤ k') {x : S24} {a : Int} {r : ByteArray} (e : ruletext_text.f k x.f0 x.f1 x.f2 x.f3 a = some r) : ruletext_text.f k' x.f0 x.f1 x.f2 x.f3 a = some r :=
  up_le (g := fun k => ruletext_text.f k x.f0 x.f1 x.f2 x.f3 a) (fun k => ruletext_text.mono_l k _ _ _ _ _) h r e
theorem num_text {n : Int} (h0 : -1099511627776 ≤ n) (h1 : n ≤ 1099511627776) : itoa.f n = some (mkB (pb (raw dgB ⟨1, n, ⟨#[]⟩, []⟩))) := by
  unfold itoa.f
  rw [if_pos (by omega)]
  congr 1
  show mkB (Lib.itoa n) = _
  congr 1
  rw [raw, if_pos rfl]
  unfold Lib.itoa
  by_cases hn : n < 0
  · rw [if_pos hn, if_pos hn]
    show _ = bs bSub ++ (bs (dgB (-n)) ++ [])
    unfold dgB
    rw [bs_mkB, List.append_nil, show n.natAbs = (-n).toNat by omega]
    rfl
  · rw [if_neg hn, if_neg hn]
    show _ = bs (dgB n) ++ []
    unfold dgB
    rw [bs_mkB, List.append_nil]
theorem text_wf {d : Nat} {x : S24} (h : WF d x) (hd : d ≤ 8) : ∃ k, ∀ m : Nat, ruletext_text.f k x.f0 x.f1 x.f2 x.f3 (m : Int) = some (mkB (pb (pcs dgB m x))) := by
  have hsz : (mkB (pb (raw dgB x))).size ≤ 1000000 := by rw [size_mkB]; have := raw_size h hd; omega
  induction h with
  | num d n h0 h1 =>
    refine ⟨3, fun m => ?_⟩
    show ruletext_text.f 3 1 n ⟨#[]⟩ [] (m : Int) = _
    rw [ruletext_text.f, strength_eq, Option.bind_some, if_pos rfl, num_text h0 h1, Option.bind_some, pcs_text]
    exact paren_eq (bind 1) m _ hsz
  | nam d s hs =>
    refine ⟨3, fun m => ?_⟩
    show ruletext_text.f 3 2 0 s [] (m : Int) = _
    have e : mkB (pb (raw dgB ⟨2, 0, s, []⟩)) = s := by
      rw [raw, if_neg (by decide)]
      show mkB (bs s ++ []) = s
      rw [List.append_nil, mkB_bs]
    rw [e] at hsz
    rw [ruletext_text.f, strength_eq, Option.bind_some, if_neg (by decide), if_pos rfl, pcs_text, e]
    exact paren_eq (bind 2) m s hsz
  | neg d a ha ih =>
    obtain ⟨k, hk⟩ := ih (by omega) (by rw [size_mkB]; have := raw_size ha (by omega); omega)
    refine ⟨k + 3, fun m => ?_⟩
    show ruletext_text.f (k + 3) 9 0 ⟨#[]⟩ [a] (m : Int) = _
    have ek : ruletext_text.f (k + 2) a.f0 a.f1 a.f2 a.f3 2 = some (mkB (pb (pcs dgB 2 a))) := text_up (by omega) (hk 2)
    have hp := pb_pcs_le 2 a
    have hr := raw_size ha (by omega)
    have hS : (⟨#[110, 111, 116, 32]⟩ : ByteArray) ++ mkB (pb (pcs dgB 2 a)) = mkB (pb (raw dgB ⟨9, 0, ⟨#[]⟩, [a]⟩)) := by
      apply bs_ext
      rw [bs_append, bs_mkB, bs_mkB, raw, pb, pb]
      rfl
    rw [ruletext_text.f, strength_eq, Option.bind_some, if_neg (by decide), if_neg (by decide), if_pos rfl, if_pos (show (0 : Int) < (([a] : List S24).length : Int) from Int.one_pos)]
    show (ruletext_text.f (k + 2) a.f0 a.f1 a.f2 a.f3 2).bind _ = _
    rw [ek, Option.bind_some, hS, if_pos (by rw [size_mkB]; omega), pcs_text]
    exact paren_eq (bind 9) m _ hsz
  | two d op a b hop ha hb iha ihb =>
    obtain ⟨k, hk⟩ := iha (by omega) (by rw [size_mkB]; have := raw_size ha (by omega); omega)
    obtain ⟨k', hk'⟩ := ihb (by omega) (by rw [size_mkB]; have := raw_size hb (by omega); omega)
    refine ⟨max k k' + 3, fun m => ?_⟩
    show ruletext_text.f (max k k' + 3) op 0 ⟨#[]⟩ [a, b] (m : Int) = _
    have ea : ∀ n : Nat, ruletext_text.f (max k k' + 2) a.f0 a.f1 a.f2 a.f3 (n : Int) = some (mkB (pb (pcs dgB n a))) := fun n => text_up (by omega) (hk n)
    have eb : ∀ n : Nat, ruletext_text.f (max k k' + 2) b.f0 b.f1 b.f2 b.f3 (n : Int) = some (mkB (pb (pcs dgB n b))) := fun n => text_up (by omega) (hk' n)
    have hpa := fun n => pb_pcs_le n a
    have hra := raw_size ha (by omega)
    have hpb := fun n => pb_pcs_le n b
    have hrb := raw_size hb (by omega)
    have hsg := sgn_len hop
    have hS : (mkB (pb (pcs dgB (lft op) a)) ++ mkB (32 :: (bs (sgn op).f1 ++ [32]))) ++ mkB (pb (pcs dgB (rgt op) b)) = mkB (pb (raw dgB ⟨op, 0, ⟨#[]⟩, [a, b]⟩)) := by
      apply bs_ext
      rw [bs_append, bs_append, bs_mkB, bs_mkB, bs_mkB, bs_mkB, raw, pb_app, pb, pb, pb]
      simp
    have h1 : ¬ op = 1 := by omega
    have h2 : ¬ op = 2 := by omega
    have h9 : ¬ op = 9 := by omega
    have l2 : (([a, b] : List S24).length : Int) = 2 := rfl
    have z1 : (mkB (pb (pcs dgB (lft op) a))).size + (mkB (32 :: (bs (sgn op).f1 ++ [32]))).size ≤ 9223372036854775807 := by
      rw [size_mkB, size_mkB, List.length_cons, List.length_append, List.length_singleton]; have := hpa (lft op); omega
    have z2 : (mkB (pb (pcs dgB (lft op) a)) ++ mkB (32 :: (bs (sgn op).f1 ++ [32]))).size + (mkB (pb (pcs dgB (rgt op) b))).size ≤ 9223372036854775807 := by
      rw [mkB_app, size_mkB, size_mkB, List.length_append, List.length_cons, List.length_append, List.length_singleton]; have := hpa (lft op); have := hpb (rgt op); omega
    rw [ruletext_text.f, strength_eq, Option.bind_some, if_neg h1, if_neg h2, if_neg h9, sign_eq hop]
    by_cases h3 : bind op = 3
    · have hl : lft op = 4 := by unfold lft; rw [if_pos h3]
      have hr : rgt op = 4 := by unfold rgt; rw [if_pos h3]
      rw [hl, hr] at hS z2
      rw [hl] at z1
      rw [if_pos (by omega), if_pos (by rw [l2]; decide)]
      show (ruletext_text.f (max k k' + 2) a.f0 a.f1 a.f2 a.f3 ((4 : Nat) : Int)).bind _ = _
      rw [ea, Option.bind_some, Option.bind_some, if_pos z1, if_pos (by rw [l2]; decide)]
      show (ruletext_text.f (max k k' + 2) b.f0 b.f1 b.f2 b.f3 ((4 : Nat) : Int)).bind _ = _
      rw [eb, Option.bind_some, if_pos z2, hS, pcs_text]
      exact paren_eq (bind op) m _ hsz
    · have hl : lft op = bind op := by unfold lft; rw [if_neg h3]
      have hr : rgt op = bind op + 1 := by unfold rgt; rw [if_neg h3]
      have hw : wrap64 (((bind op : Nat) : Int) + 1) = ((bind op + 1 : Nat) : Int) := by have := bind_le op; rw [wrap_id (by omega) (by omega)]; omega
      rw [hl, hr] at hS z2
      rw [hl] at z1
      have h3' : ¬ (((bind op : Nat) : Int) = 3) := fun e => h3 (Int.ofNat_inj.1 e)
      have p0 : (0 : Int) < (([a, b] : List S24).length : Int) := by rw [l2]; decide
      have p1 : (1 : Int) < (([a, b] : List S24).length : Int) := by rw [l2]; decide
      rw [if_neg h3', if_pos p0]
      show (ruletext_text.f (max k k' + 2) a.f0 a.f1 a.f2 a.f3 ((bind op : Nat) : Int)).bind _ = _
      rw [ea, Option.bind_some, Option.bind_some, if_pos z1, if_pos p1, hw]
      show (ruletext_text.f (max k k' + 2) b.f0 b.f1 b.f2 b.f3 ((bind op + 1 : Nat) : Int)).bind _ = _
      rw [eb, Option.bind_some, if_pos z2, hS, pcs_text]
      exact paren_eq (bind op) m _ hsz
end Go.Proofs.YtmnbbhieodcoeaaDoor.Rt
