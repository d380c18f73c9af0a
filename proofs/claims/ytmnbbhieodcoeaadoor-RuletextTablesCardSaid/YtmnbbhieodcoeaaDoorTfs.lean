/-
  What both Formats tell of a table; and few.
-/
import Derived.Test.YtmnbbhieodcoeaaDoorTbl
import Derived.Test.YtmnbbhieodcoeaaDoorPTabx
namespace Go.Proofs.YtmnbbhieodcoeaaDoor.Rt
open Go.RowKit Go.Proofs.YtmnbbhieodcoeaaDoorW.PrintWords Go.Proofs.YtmnbbhieodcoeaaDoorW.PrintLast Go.Proofs.YtmnbbhieodcoeaaDoorW.PrintMore
open Go.Proofs.YtmnbbhieodcoeaaDoor.PBase Go.Proofs.YtmnbbhieodcoeaaDoor.PScn Go.Proofs.YtmnbbhieodcoeaaDoor.PTxt Go.Proofs.YtmnbbhieodcoeaaDoor.PWf Go.Proofs.YtmnbbhieodcoeaaDoor.PRex Go.Proofs.YtmnbbhieodcoeaaDoor.PTab
set_option linter.unusedVariables false
set_option linter.unusedSimpArgs false
theorem rd_mid8 (pre : List S58) (c : S58) (suf : List S58) : rd_T58 (pre ++ c :: suf) (pre.length : Int) = c := by
  simp [rd_T58]
def rowB (r : S58) : List UInt8 := pb (rpc r) ++ [10]
theorem tb_cons (r : S58) (l : List S58) : tb (r :: l) = rowB r ++ tb l := by unfold rowB; rw [tb, List.append_assoc]; rfl
theorem row_bytes (r : S58) : rowB r = [103, 114, 97, 100, 101, 32] ++ (Lib.decDigits r.f0.toNat ++ ([32, 119, 104, 101, 110, 32] ++ (pb (raw dgB r.f1) ++ [59, 10]))) := by
  unfold rowB rpc
  rw [pb, pb, pb, pb, pb, pb, pb_app]
  have hdg : bs (dgB r.f0) = Lib.decDigits r.f0.toNat := bs_mkB _
  simp only [hdg]
  show ([103, 114, 97, 100, 101] ++ 32 :: (Lib.decDigits r.f0.toNat ++ 32 :: ([119, 104, 101, 110] ++ 32 :: (pb (raw dgB r.f1) ++ ([59] ++ []))))) ++ [10] = _
  simp
theorem row_len {r : S58} (h : GoodR r) : (rowB r).length ≤ 3300 := by
  have h1 := raw_size h.2.2 (by omega)
  have h2 : (Lib.decDigits r.f0.toNat).length ≤ 1 := dec_len 1 _ (by have := h.1; have := h.2.1; omega) (by omega)
  rw [row_bytes]
  simp only [List.length_append, List.length_cons, List.length_nil]
  omega
theorem goodr_dec (r : S58) (m : Nat) (hm : wee m r.f1) : ∃ k b, ruletext_wellFormed.f k r.f1.f0 r.f1.f1 r.f1.f2 r.f1.f3 1 = some b ∧ (b = true ↔ WF 8 r.f1) := wf_f r.f1 m hm 8 (by omega)
theorem digit_text {g : Int} (h0 : 0 ≤ g) (h1 : g ≤ 9) : itoa.f g = some (mkB (Lib.decDigits g.toNat)) := by
  unfold itoa.f
  rw [if_pos (by omega)]
  unfold Lib.itoa
  rw [if_neg (by omega)]
  rfl
def FmtIs (out : ByteArray) (suf : List S58) (r : ByteArray) : Prop :=
  ((∀ x ∈ suf, GoodR x) ∧ out.size + (tb suf).length ≤ 8000 ∧ r = out ++ mkB (tb suf)) ∨ (¬ ((∀ x ∈ suf, GoodR x) ∧ out.size + (tb suf).length ≤ 8000) ∧ r = ⟨#[]⟩)
theorem fmt_cons {out : ByteArray} {x : S58} {suf : List S58} {r : ByteArray} (hx : GoodR x) (h : FmtIs (out ++ mkB (rowB x)) suf r) : FmtIs out (x :: suf) r := by
  have hs : (out ++ mkB (rowB x)).size + (tb suf).length = out.size + (tb (x :: suf)).length := by
    rw [size_ap, size_mkB, tb_cons, List.length_append]; omega
  rcases h with ⟨h1, h2, h3⟩ | ⟨h1, h2⟩
  · refine .inl ⟨?_, by omega, ?_⟩
    · rw [List.forall_mem_cons]; exact ⟨hx, h1⟩
    · rw [h3, tb_cons, ← mkB_app]
      apply bs_ext
      simp only [bs_append, List.append_assoc]
  · refine .inr ⟨?_, h2⟩
    rintro ⟨g1, g2⟩
    rw [List.forall_mem_cons] at g1
    exact h1 ⟨g1.2, by omega⟩
theorem fmt_bad {out : ByteArray} {x : S58} {suf : List S58} (hx : ¬ GoodR x) : FmtIs out (x :: suf) ⟨#[]⟩ := .inr ⟨fun h => hx (h.1 x (List.mem_cons_self ..)), rfl⟩
theorem fml_up {k k' : Nat} (h : k ≤ k') {o : ByteArray} {l : List S58} {n i : Int} {r : ByteArray} (e : ruletext_Format.l0 k o l n i = some r) : ruletext_Format.l0 k' o l n i = some r :=
  up_le (g := fun k => ruletext_Format.l0 k o l n i) (fun k => (ruletext_Format.mono_l k).1 o l n i) h r e
theorem fmt_loop (l : List S58) (hl : l.length ≤ 40) (hw : ∀ x ∈ l, ∃ m, wee m x.f1) : ∀ (suf pre : List S58), pre ++ suf = l → ∀ out : ByteArray, out.size + 3300 * suf.length ≤ 200000 →
    ∃ k r, ruletext_Format.l0 k out l (l.length : Int) (pre.length : Int) = some r ∧ FmtIs out suf r := by
  intro suf
  induction suf with
  | nil =>
    intro pre hp out ho
    simp at hp
    subst hp
    by_cases h : out.size ≤ 8000
    · refine ⟨1, out, by rw [ruletext_Format.l0, if_neg (by omega), if_neg (by omega)], .inl ⟨by simp, by simpa [tb] using h, ?_⟩⟩
      apply bs_ext; rw [bs_append, bs_mkB, tb, List.append_nil]
    · exact ⟨1, ⟨#[]⟩, by rw [ruletext_Format.l0, if_neg (by omega), if_pos (by omega)], .inr ⟨fun hh => h (by simpa [tb] using hh.2), rfl⟩⟩
  | cons x suf ih =>
    intro pre hp out ho
    have hlen : l.length = pre.length + 1 + suf.length := by rw [← hp]; simp; omega
    have hrd : rd_T58 l (pre.length : Int) = x := by rw [← hp]; exact rd_mid8 pre x suf
    obtain ⟨m, hm⟩ := hw x (by rw [← hp]; simp)
    by_cases h0 : x.f0 < 0
    · refine ⟨2, ⟨#[]⟩, ?_, fmt_bad (fun h => by have := h.1; omega)⟩
      rw [ruletext_Format.l0, if_pos (by omega), if_pos (by omega), if_pos (by omega), hrd, if_pos h0, ruletext_Format.j1, if_pos rfl]
    by_cases h9 : x.f0 > 9
    · refine ⟨2, ⟨#[]⟩, ?_, fmt_bad (fun h => by have := h.2.1; omega)⟩
      rw [ruletext_Format.l0, if_pos (by omega), if_pos (by omega), if_pos (by omega), hrd, if_neg h0, if_pos h9, ruletext_Format.j1, if_pos rfl]
    obtain ⟨k1, b, e1, g1⟩ := goodr_dec x m hm
    cases b with
    | false =>
      refine ⟨max k1 1 + 1, ⟨#[]⟩, ?_, fmt_bad (fun h => absurd (g1.2 h.2.2) (by decide))⟩
      have hj : ∃ q, max k1 1 = q + 1 := ⟨max k1 1 - 1, by omega⟩
      obtain ⟨q, hq⟩ := hj
      rw [ruletext_Format.l0, if_pos (by omega), if_pos (by omega), if_pos (by omega), hrd, if_neg h0, if_neg h9, wff_up (Nat.le_max_left k1 1) e1, Option.bind_some, hq, ruletext_Format.j1]
      rfl
    | true =>
      have hg : GoodR x := ⟨by omega, by omega, g1.1 rfl⟩
      have hrow := row_len hg
      obtain ⟨k2, h2⟩ := text_wf hg.2.2 (by omega)
      have t0 : ruletext_text.f k2 x.f1.f0 x.f1.f1 x.f1.f2 x.f1.f3 0 = some (mkB (pb (raw dgB x.f1))) := by
        have := h2 0
        rw [pcs, if_neg (by omega)] at this
        exact this
      obtain ⟨k3, r, e3, g3⟩ := ih (pre ++ [x]) (by rw [← hp]; simp) (out ++ mkB (rowB x)) (by rw [size_ap, size_mkB]; rw [List.length_cons] at ho; omega)
      have hc : (((pre ++ [x]).length : Nat) : Int) = (pre.length : Int) + 1 := by simp
      rw [hc] at e3
      refine ⟨max k1 (max k2 k3) + 2, r, ?_, fmt_cons hg g3⟩
      have hz := raw_size hg.2.2 (by omega)
      have hd : (Lib.decDigits x.f0.toNat).length ≤ 1 := dec_len 1 _ (by omega) (by omega)
      have hR : ((((⟨#[103, 114, 97, 100, 101, 32]⟩ : ByteArray) ++ mkB (Lib.decDigits x.f0.toNat)) ++ (⟨#[32, 119, 104, 101, 110, 32]⟩ : ByteArray)) ++ mkB (pb (raw dgB x.f1))) ++ (⟨#[59, 10]⟩ : ByteArray) = mkB (rowB x) := by
        apply bs_ext
        rw [bs_mkB, row_bytes]
        simp only [bs_append, bs_mkB, List.append_assoc]
        rfl
      have s6 : (⟨#[103, 114, 97, 100, 101, 32]⟩ : ByteArray).size = 6 := rfl
      have s6' : (⟨#[32, 119, 104, 101, 110, 32]⟩ : ByteArray).size = 6 := rfl
      have z1 : 6 + (mkB (Lib.decDigits x.f0.toNat)).size ≤ 9223372036854775807 := by rw [size_mkB]; omega
      have z2 : ((⟨#[103, 114, 97, 100, 101, 32]⟩ : ByteArray) ++ mkB (Lib.decDigits x.f0.toNat)).size + 6 ≤ 9223372036854775807 := by rw [size_ap, size_mkB, s6]; omega
      have z3 : (((⟨#[103, 114, 97, 100, 101, 32]⟩ : ByteArray) ++ mkB (Lib.decDigits x.f0.toNat)) ++ (⟨#[32, 119, 104, 101, 110, 32]⟩ : ByteArray)).size + (mkB (pb (raw dgB x.f1))).size ≤ 9223372036854775807 := by rw [size_ap, size_ap, size_mkB, size_mkB, s6, s6']; omega
      have z4 : ((((⟨#[103, 114, 97, 100, 101, 32]⟩ : ByteArray) ++ mkB (Lib.decDigits x.f0.toNat)) ++ (⟨#[32, 119, 104, 101, 110, 32]⟩ : ByteArray)) ++ mkB (pb (raw dgB x.f1))).size + 2 ≤ 9223372036854775807 := by rw [size_ap, size_ap, size_ap, size_mkB, size_mkB, s6, s6']; omega
      have z5 : out.size + (mkB (rowB x)).size ≤ 9223372036854775807 := by rw [size_mkB]; rw [List.length_cons] at ho; omega
      rw [ruletext_Format.l0, if_pos (by omega), if_pos (by omega), if_pos (by omega), hrd, if_neg h0, if_neg h9, wff_up (show k1 ≤ max k1 (max k2 k3) + 1 by omega) e1, Option.bind_some, ruletext_Format.j1, if_neg (by decide), digit_text hg.1 hg.2.1, Option.bind_some, if_pos z1, if_pos z2, text_up (show k2 ≤ max k1 (max k2 k3) by omega) t0, Option.bind_some, if_pos z3, if_pos z4, hR, if_pos z5, wrap_id (n := (pre.length : Int) + 1) (by omega) (by omega)]
      exact fml_up (show k3 ≤ max k1 (max k2 k3) by omega) e3
end Go.Proofs.YtmnbbhieodcoeaaDoor.Rt
