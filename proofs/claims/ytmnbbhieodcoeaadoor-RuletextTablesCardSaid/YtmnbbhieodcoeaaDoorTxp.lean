/-
  The text of a well-formed tree is scanned and parsed as that tree.
-/
import Derived.Test.YtmnbbhieodcoeaaDoorTok
import Derived.Test.YtmnbbhieodcoeaaDoorPE
namespace Go.Proofs.YtmnbbhieodcoeaaDoor.Rt
open Go.RowKit Go.Proofs.YtmnbbhieodcoeaaDoorW.PrintWords Go.Proofs.YtmnbbhieodcoeaaDoorW.PrintLast Go.Proofs.YtmnbbhieodcoeaaDoorW.PrintMore
open Go.Proofs.YtmnbbhieodcoeaaDoor.PBase Go.Proofs.YtmnbbhieodcoeaaDoor.PScn
set_option linter.unusedVariables false
set_option linter.unusedSimpArgs false
def dgB (n : Int) : ByteArray := mkB (Lib.decDigits n.toNat)
def pb : List (Option S48) → List UInt8
  | [] => []
  | none :: r => 32 :: pb r
  | some t :: r => bs t.f1 ++ pb r
theorem pb_app : ∀ a b : List (Option S48), pb (a ++ b) = pb a ++ pb b
  | [], b => rfl
  | none :: r, b => by rw [List.cons_append, pb, pb, pb_app r b]; rfl
  | some t :: r, b => by rw [List.cons_append, pb, pb, pb_app r b, List.append_assoc]
def Good (t : S48) (r : List UInt8) : Prop := fsl (bs t.f1 ++ r) = (t.f0, bs t.f1, t.f2, 0) ∧ ∃ c q, bs t.f1 = c :: q ∧ c ≠ 32 ∧ c ≠ 10 ∧ c ≠ 35
def OkT (tail : List UInt8) : List (Option S48) → Prop
  | [] => True
  | none :: r => OkT tail r
  | some t :: r => Good t (pb r ++ tail) ∧ OkT tail r
def key (x : S48) : Int × ByteArray × Int := (x.f0, x.f1, x.f2)
theorem sc_of (N : Nat) (tail : List UInt8) (ls' : List S48) (h' : Sc N (skl false tail) ls') : ∀ ps, OkT tail ps → ∃ ls, Sc N (skl false (pb ps ++ tail)) ls ∧ ls.map key = (lxs ps).map key ++ ls'.map key
  | [], _ => ⟨ls', h', rfl⟩
  | none :: r, h => by
    obtain ⟨ls, h1, h2⟩ := sc_of N tail ls' h' r h
    refine ⟨ls, ?_, h2⟩
    rw [pb, List.cons_append, skl, if_pos (.inl rfl)]
    exact h1
  | some t :: r, ⟨⟨hf, c, q, hc, h32, h10, h35⟩, h⟩ => by
    obtain ⟨ls, h1, h2⟩ := sc_of N tail ls' h' r h
    have e : skl false (pb (some t :: r) ++ tail) = bs t.f1 ++ (pb r ++ tail) := by
      rw [pb, List.append_assoc, hc, List.cons_append, skl, if_neg (fun e => e.elim h32 h10), if_neg h35]
    have hd : (bs t.f1 ++ (pb r ++ tail)).drop (bs t.f1).length = pb r ++ tail := by simp
    have hS := Sc.cons (N := N) (bs t.f1 ++ (pb r ++ tail)) _ _ _ ls hf (by rw [hc]; simp) (by simp) (by rw [hd]; exact h1)
    refine ⟨_, (show Sc N (skl false (pb (some t :: r) ++ tail)) _ by rw [e]; exact hS), ?_⟩
    rw [List.map_cons, h2, lxs_some, List.map_cons, List.cons_append]
    show (t.f0, mkB (bs t.f1), t.f2) :: _ = _
    rw [mkB_bs]
    rfl
theorem seg_of {ls T : List S48} {r : List (Int × ByteArray × Int)} (h : ls.map key = T.map key ++ r) : Seg ls 0 T := by
  intro q t hq
  have hq' : q < T.length := (List.getElem?_eq_some_iff.1 hq).1
  have h1 : (ls.map key)[q]? = some (key t) := by
    rw [h, List.getElem?_append_left (by simpa using hq'), List.getElem?_map, hq]; rfl
  rw [List.getElem?_map] at h1
  obtain ⟨x, hx, he⟩ := Option.map_eq_some_iff.1 h1
  have hp : pk ls (0 + q) = x := by
    unfold pk rd_T48
    rw [Nat.zero_add, Int.toNat_natCast, List.getD_eq_getElem?_getD, hx]; rfl
  rw [hp]
  unfold key at he
  injection he with e1 e2
  injection e2 with e2 e3
  exact ⟨e1, e2, e3⟩
theorem good_mark {c : UInt8} (hc : c ∈ ([61, 40, 41, 43, 45, 42, 59, 44] : List UInt8)) (r : List UInt8) : Good ⟨3, mkB [c], 0, 0⟩ r := by
  refine ⟨?_, c, [], by rw [bs_mkB], ?_, ?_, ?_⟩
  · show fsl (bs (mkB [c]) ++ r) = (3, bs (mkB [c]), 0, 0)
    rw [bs_mkB]; exact mark_one hc r
  all_goals (simp only [List.mem_cons, List.not_mem_nil, or_false] at hc; rcases hc with rfl | rfl | rfl | rfl | rfl | rfl | rfl | rfl <;> decide)
theorem good_word {w : List UInt8} {c : UInt8} {q : List UInt8} (hw : w = c :: q) (hd : digB c = false) (hall : ∀ x ∈ w, okc x = true) (hl : w.length ≤ 16) {r : List UInt8} (hr : Sep r) : Good ⟨1, mkB w, 0, 0⟩ r := by
  refine ⟨?_, c, q, by rw [bs_mkB, hw], ?_, ?_, ?_⟩
  · show fsl (bs (mkB w) ++ r) = (1, bs (mkB w), 0, 0)
    rw [bs_mkB]; exact word_tok hw hd hall hl hr
  all_goals (rintro rfl; have := hall _ (by rw [hw]; exact List.mem_cons_self ..); revert this; decide)
theorem good_name {s : ByteArray} (h : isNm s) {r : List UInt8} (hr : Sep r) : Good ⟨1, s, 0, 0⟩ r := by
  obtain ⟨c, q, e, hl, hd, hall⟩ := isNm_bytes h
  have := good_word e hd hall (by rw [e, List.length_cons]; omega) hr
  rwa [mkB_bs] at this
theorem good_num {n : Int} (h0 : 0 ≤ n) (h1 : n ≤ 1099511627776) {r : List UInt8} (hr : Sep r) : Good ⟨2, dgB n, n, 0⟩ r := by
  have hn : ((n.toNat : Nat) : Int) = n := by omega
  have hf := num_tok n.toNat (by omega) hr
  rw [hn] at hf
  obtain ⟨c, q, e, _⟩ := dec_head n.toNat
  have hc := dec_dig n.toNat c (by rw [e]; exact List.mem_cons_self ..)
  refine ⟨?_, c, q, by show bs (dgB n) = _; unfold dgB; rw [bs_mkB, e], ?_, ?_, ?_⟩
  · show fsl (bs (dgB n) ++ r) = (2, bs (dgB n), n, 0)
    unfold dgB; rw [bs_mkB]; exact hf
  all_goals (rintro rfl; revert hc; decide)
theorem sep_blank (r : List UInt8) : Sep (32 :: r) := .inr ⟨32, r, rfl, by decide⟩
theorem sep_rp (r : List UInt8) : Sep (41 :: r) := .inr ⟨41, r, rfl, by decide⟩
theorem good_sgn {op : Int} (hop : 3 ≤ op ∧ op ≤ 8 ∨ op = 10 ∨ op = 11) (r : List UInt8) : Good (sgn op) (32 :: r) := by
  have hc : op = 3 ∨ op = 4 ∨ op = 5 ∨ op = 6 ∨ op = 7 ∨ op = 8 ∨ op = 10 ∨ op = 11 := by omega
  rcases hc with rfl | rfl | rfl | rfl | rfl | rfl | rfl | rfl
  · exact good_mark (c := 43) (by simp) _
  · exact good_mark (c := 45) (by simp) _
  · exact good_mark (c := 42) (by simp) _
  · exact good_mark (c := 61) (by simp) _
  · exact ⟨mark_lt r, 60, [], rfl, by decide, by decide, by decide⟩
  · exact ⟨mark_le (32 :: r), 60, [61], rfl, by decide, by decide, by decide⟩
  · exact good_word (w := [97, 110, 100]) rfl (by decide) (by decide) (by decide) (sep_blank r)
  · exact good_word (w := [111, 114]) rfl (by decide) (by decide) (by decide) (sep_blank r)
theorem ok_pcs {d : Nat} {x : S24} (h : WF d x) (tail : List UInt8) : (∀ rest, Sep (pb rest ++ tail) → OkT tail rest → OkT tail (raw dgB x ++ rest)) ∧ (∀ m rest, Sep (pb rest ++ tail) → OkT tail rest → OkT tail (pcs dgB m x ++ rest)) := by
  have lift : ∀ x : S24, (∀ rest, Sep (pb rest ++ tail) → OkT tail rest → OkT tail (raw dgB x ++ rest)) → (∀ m rest, Sep (pb rest ++ tail) → OkT tail rest → OkT tail (pcs dgB m x ++ rest)) := by
    intro x hx m rest hs ho
    rw [pcs]
    split
    · rw [List.cons_append, List.cons_append, List.append_assoc]
      refine ⟨good_mark (c := 40) (by simp) _, hx _ ?_ ?_⟩
      · show Sep (bs bRp ++ _ ++ tail)
        exact sep_rp _
      · exact ⟨good_mark (c := 41) (by simp) _, ho⟩
    · exact hx rest hs ho
  refine ⟨?_, lift x ?_⟩ <;> (
    induction h with
    | num d n h0 h1 =>
      intro rest hs ho
      rw [raw, if_pos rfl]
      split
      · exact ⟨good_mark (c := 45) (by simp) _, good_num (by omega) (by omega) hs, ho⟩
      · exact ⟨good_num (by omega) h1 hs, ho⟩
    | nam d s h =>
      intro rest hs ho
      rw [raw, if_neg (by decide)]
      exact ⟨good_name h hs, ho⟩
    | neg d a _ ih =>
      intro rest hs ho
      rw [raw]
      refine ⟨good_word (w := [110, 111, 116]) rfl (by decide) (by decide) (by decide) (sep_blank _), ?_⟩
      exact lift a ih 2 rest hs ho
    | two d op a b hop _ _ iha ihb =>
      intro rest hs ho
      rw [raw, List.append_assoc]
      refine lift a iha _ _ (sep_blank _) ?_
      refine ⟨good_sgn hop _, ?_⟩
      exact lift b ihb _ rest hs ho)
end Go.Proofs.YtmnbbhieodcoeaaDoor.Rt
