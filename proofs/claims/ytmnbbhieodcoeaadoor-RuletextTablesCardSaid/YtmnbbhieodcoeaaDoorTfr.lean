/-
  The document's Format, few and SameRules.
-/
import Derived.Test.YtmnbbhieodcoeaaDoorTfs
namespace Go.Proofs.YtmnbbhieodcoeaaDoor.Rt
open Go.RowKit Go.Proofs.YtmnbbhieodcoeaaDoorW.PrintWords Go.Proofs.YtmnbbhieodcoeaaDoorW.PrintLast Go.Proofs.YtmnbbhieodcoeaaDoorW.PrintMore
open Go.Proofs.YtmnbbhieodcoeaaDoor.PBase Go.Proofs.YtmnbbhieodcoeaaDoor.PScn Go.Proofs.YtmnbbhieodcoeaaDoor.PTxt Go.Proofs.YtmnbbhieodcoeaaDoor.PWf Go.Proofs.YtmnbbhieodcoeaaDoor.PRex Go.Proofs.YtmnbbhieodcoeaaDoor.PTab
set_option linter.unusedVariables false
set_option linter.unusedSimpArgs false
theorem expr_is (x : S24) : ∃ r, ExprIs x r := by
  by_cases h : WF 8 x
  · exact ⟨_, .inl ⟨h, rfl⟩⟩
  · exact ⟨_, .inr ⟨h, rfl⟩⟩
theorem rfl_up {k k' : Nat} (h : k ≤ k') {o : ByteArray} {l : List S58} {i : Int} {r : ByteArray} (e : sawmillref44_Format.l0 k l o i = some r) : sawmillref44_Format.l0 k' l o i = some r :=
  up_le (g := fun k => sawmillref44_Format.l0 k l o i) (fun k => sawmillref44_Format.mono_l k l o i) h r e
theorem rdig_up {k k' : Nat} (h : k ≤ k') {n : Int} {r : ByteArray} (e : sawmillref06_Digits.f k n = some r) : sawmillref06_Digits.f k' n = some r :=
  up_le (g := fun k => sawmillref06_Digits.f k n) (fun k => sawmillref06_Digits.mono n k) h r e
theorem rdig_one {g : Int} (h0 : 0 ≤ g) (h1 : g ≤ 9) : ∃ k, sawmillref06_Digits.f k g = some (mkB (Lib.decDigits g.toNat)) := by
  obtain ⟨k, hk⟩ := rdigits_f (n := g) (by omega) (by omega)
  refine ⟨k, hk.trans ?_⟩
  congr 1
  rw [raw, if_pos rfl, if_neg (by omega)]
  show mkB (bs (dgB g) ++ []) = _
  unfold dgB
  rw [bs_mkB, List.append_nil]
theorem rfmt_loop (l : List S58) (hl : l.length ≤ 40) (hw : ∀ x ∈ l, ∃ m, wee m x.f1 ∧ m ≤ 100000) : ∀ (suf pre : List S58), pre ++ suf = l → ∀ out : ByteArray, out.size + 3300 * suf.length ≤ 200000 →
    ∃ k r, sawmillref44_Format.l0 k l out (pre.length : Int) = some r ∧ FmtIs out suf r := by
  intro suf
  induction suf with
  | nil =>
    intro pre hp out ho
    simp at hp
    subst hp
    by_cases h : out.size ≤ 8000
    · refine ⟨1, out, by rw [sawmillref44_Format.l0, if_neg (by omega), if_neg (by omega)], .inl ⟨by simp, by simpa [tb] using h, ?_⟩⟩
      apply bs_ext; rw [bs_append, bs_mkB, tb, List.append_nil]
    · exact ⟨1, ⟨#[]⟩, by rw [sawmillref44_Format.l0, if_neg (by omega), if_pos (by omega)], .inr ⟨fun hh => h (by simpa [tb] using hh.2), rfl⟩⟩
  | cons x suf ih =>
    intro pre hp out ho
    have hlen : l.length = pre.length + 1 + suf.length := by rw [← hp]; simp; omega
    have hrd : rd_T58 l (pre.length : Int) = x := by rw [← hp]; exact rd_mid8 pre x suf
    obtain ⟨m, hm, hle⟩ := hw x (by rw [← hp]; simp)
    obtain ⟨q, hq⟩ := expr_is x.f1
    have eq := rexpr_eq x.f1 q m hm hle hq
    by_cases h0 : x.f0 < 0
    · refine ⟨1, ⟨#[]⟩, ?_, fmt_bad (fun h => by have := h.1; omega)⟩
      rw [sawmillref44_Format.l0, if_pos (by omega), if_pos (by omega), hrd, eq, Option.bind_some, if_pos h0]
    by_cases h9 : x.f0 > 9
    · refine ⟨1, ⟨#[]⟩, ?_, fmt_bad (fun h => by have := h.2.1; omega)⟩
      rw [sawmillref44_Format.l0, if_pos (by omega), if_pos (by omega), hrd, eq, Option.bind_some, if_neg h0, if_pos h9]
    rcases hq with ⟨hwf, rfl⟩ | ⟨hwf, rfl⟩
    · have hg : GoodR x := ⟨by omega, by omega, hwf⟩
      have hrow := row_len hg
      have hz := raw_size hg.2.2 (by omega)
      have hne : ¬ (mkB (pb (raw dgB x.f1))).toList = [] := by
        rw [toList_bs, bs_mkB]
        intro e
        have h1 := lxs_le _ (ok_rpc hg [])
        have hok := (ok_pcs hwf []).1 [] (.inl rfl) trivial
        rw [List.append_nil] at hok
        have h2 := lxs_le _ hok
        rw [e] at h2
        have h3 : (lxs (raw dgB x.f1)).length = 0 := by simpa using h2
        revert h3
        cases x with
        | mk g y =>
        simp only at hwf ⊢
        cases hwf with
        | num d n _ _ => rw [raw, if_pos rfl]; split <;> simp [lxs]
        | nam d s _ => rw [raw, if_neg (by decide)]; simp [lxs]
        | neg d a _ => rw [raw]; simp [lxs]
        | two d op a b _ _ _ => rw [raw, lxs_app, lxs_none, lxs_some, List.length_append, List.length_cons]; omega
      obtain ⟨k2, h2⟩ := rdig_one hg.1 hg.2.1
      obtain ⟨k3, r, e3, g3⟩ := ih (pre ++ [x]) (by rw [← hp]; simp) (out ++ mkB (rowB x)) (by rw [size_ap, size_mkB]; rw [List.length_cons] at ho; omega)
      have hc : (((pre ++ [x]).length : Nat) : Int) = (pre.length : Int) + 1 := by simp
      rw [hc] at e3
      refine ⟨max k2 k3 + 1, r, ?_, fmt_cons hg g3⟩
      have hd : (Lib.decDigits x.f0.toNat).length ≤ 1 := dec_len 1 _ (by omega) (by omega)
      have hR : (((((out ++ (⟨#[103, 114, 97, 100, 101, 32]⟩ : ByteArray)) ++ mkB (Lib.decDigits x.f0.toNat)) ++ (⟨#[32, 119, 104, 101, 110, 32]⟩ : ByteArray)) ++ mkB (pb (raw dgB x.f1))) ++ (⟨#[59, 10]⟩ : ByteArray)) = out ++ mkB (rowB x) := by
        apply bs_ext
        rw [bs_append out, bs_mkB, row_bytes]
        simp only [bs_append, bs_mkB, List.append_assoc]
        rfl
      have s6 : (⟨#[103, 114, 97, 100, 101, 32]⟩ : ByteArray).size = 6 := rfl
      have s6' : (⟨#[32, 119, 104, 101, 110, 32]⟩ : ByteArray).size = 6 := rfl
      have hoo : out.size ≤ 200000 := by omega
      have z0 : out.size + 6 ≤ 9223372036854775807 := by omega
      have z1 : (out ++ (⟨#[103, 114, 97, 100, 101, 32]⟩ : ByteArray)).size + (mkB (Lib.decDigits x.f0.toNat)).size ≤ 9223372036854775807 := by rw [size_ap, size_mkB, s6]; omega
      have z2 : ((out ++ (⟨#[103, 114, 97, 100, 101, 32]⟩ : ByteArray)) ++ mkB (Lib.decDigits x.f0.toNat)).size + 6 ≤ 9223372036854775807 := by rw [size_ap, size_ap, size_mkB, s6]; omega
      have z3 : (((out ++ (⟨#[103, 114, 97, 100, 101, 32]⟩ : ByteArray)) ++ mkB (Lib.decDigits x.f0.toNat)) ++ (⟨#[32, 119, 104, 101, 110, 32]⟩ : ByteArray)).size + (mkB (pb (raw dgB x.f1))).size ≤ 9223372036854775807 := by rw [size_ap, size_ap, size_ap, size_mkB, size_mkB, s6, s6']; omega
      have z4 : ((((out ++ (⟨#[103, 114, 97, 100, 101, 32]⟩ : ByteArray)) ++ mkB (Lib.decDigits x.f0.toNat)) ++ (⟨#[32, 119, 104, 101, 110, 32]⟩ : ByteArray)) ++ mkB (pb (raw dgB x.f1))).size + 2 ≤ 9223372036854775807 := by rw [size_ap, size_ap, size_ap, size_ap, size_mkB, size_mkB, s6, s6']; omega
      rw [sawmillref44_Format.l0, if_pos (by omega), if_pos (by omega), hrd, eq, Option.bind_some, if_neg h0, if_neg h9, if_neg hne, if_pos z0, rdig_up (Nat.le_max_left k2 k3) h2, Option.bind_some, if_pos z1, if_pos z2, if_pos z3, if_pos z4, hR, wrap_id (n := (pre.length : Int) + 1) (by omega) (by omega)]
      exact rfl_up (Nat.le_max_right k2 k3) e3
    · refine ⟨1, ⟨#[]⟩, ?_, fmt_bad (fun h => hwf h.2.2)⟩
      rw [sawmillref44_Format.l0, if_pos (by omega), if_pos (by omega), hrd, eq, Option.bind_some, if_neg h0, if_neg h9, if_pos ((toList_nil _).2 rfl)]
theorem fmt_same {out : ByteArray} {l : List S58} {r r' : ByteArray} (h : FmtIs out l r) (h' : FmtIs out l r') : r = r' := by
  rcases h with ⟨h1, h2, h3⟩ | ⟨h1, h2⟩ <;> rcases h' with ⟨g1, g2, g3⟩ | ⟨g1, g2⟩
  · rw [h3, g3]
  · exact absurd ⟨h1, h2⟩ g1
  · exact absurd ⟨g1, g2⟩ h1
  · rw [h2, g2]
def TabIs (l : List S58) (r : ByteArray) : Prop := ((l.length ≤ 32 ∧ ∀ x ∈ l, GoodR x) ∧ (tb l).length ≤ 8000 ∧ r = mkB (tb l)) ∨ (¬ ((l.length ≤ 32 ∧ ∀ x ∈ l, GoodR x) ∧ (tb l).length ≤ 8000) ∧ r = ⟨#[]⟩)
theorem tab_of_fmt {l : List S58} {r : ByteArray} (hl : l.length ≤ 32) (h : FmtIs ⟨#[]⟩ l r) : TabIs l r := by
  have e : ∀ b, (⟨#[]⟩ : ByteArray) ++ b = b := fun b => bs_ext (by rw [bs_append]; rfl)
  have z : (⟨#[]⟩ : ByteArray).size = 0 := rfl
  rcases h with ⟨h1, h2, h3⟩ | ⟨h1, h2⟩
  · exact .inl ⟨⟨hl, h1⟩, by omega, by rw [h3, e]⟩
  · exact .inr ⟨fun hh => h1 ⟨hh.1.2, by have := hh.2; omega⟩, h2⟩
theorem formats (l : List S58) (hl : l.length ≤ 40) (hw : ∀ x ∈ l, wee 40 x.f1) : ∃ k r, ruletext_Format.f k l = some r ∧ sawmillref44_Format.f k l = some r ∧ TabIs l r := by
  by_cases h32 : l.length ≤ 32
  · have z : (⟨#[]⟩ : ByteArray).size = 0 := rfl
    obtain ⟨k, r, e, g⟩ := fmt_loop l hl (fun x hx => ⟨40, hw x hx⟩) l [] rfl ⟨#[]⟩ (by omega)
    obtain ⟨k', r', e', g'⟩ := rfmt_loop l hl (fun x hx => ⟨40, hw x hx, by omega⟩) l [] rfl ⟨#[]⟩ (by omega)
    obtain rfl := fmt_same g g'
    refine ⟨max k k', r, ?_, ?_, tab_of_fmt h32 g⟩
    · unfold ruletext_Format.f
      rw [if_neg (by omega)]
      exact fml_up (Nat.le_max_left k k') e
    · unfold sawmillref44_Format.f
      rw [if_neg (by omega)]
      exact rfl_up (Nat.le_max_right k k') e'
  · refine ⟨1, ⟨#[]⟩, ?_, ?_, .inr ⟨fun h => h32 h.1.1, rfl⟩⟩
    · unfold ruletext_Format.f; rw [if_pos (by omega)]
    · unfold sawmillref44_Format.f; rw [if_pos (by omega)]
theorem few_up {k k' : Nat} (h : k ≤ k') {l : List S58} {n i : Int} {r : Bool} (e : sawmilllaw44_few.l0 k l n i = some r) : sawmilllaw44_few.l0 k' l n i = some r :=
  up_le (g := fun k => sawmilllaw44_few.l0 k l n i) (fun k => sawmilllaw44_few.mono_l k l n i) h r e
theorem nds_up {k k' : Nat} (h : k ≤ k') {x : S24} {d : Int} {r : Int} (e : sawmilllaw44_nodes.f k x.f0 x.f1 x.f2 x.f3 d = some r) : sawmilllaw44_nodes.f k' x.f0 x.f1 x.f2 x.f3 d = some r :=
  up_le (g := fun k => sawmilllaw44_nodes.f k x.f0 x.f1 x.f2 x.f3 d) (fun k => sawmilllaw44_nodes.mono _ _ _ _ _ k) h r e
theorem few_loop (l : List S58) (hl : l.length ≤ 40) : ∀ (suf pre : List S58), pre ++ suf = l → ∀ n : Int, 0 ≤ n → n + 30000 * suf.length ≤ 2000000 →
    ∃ k b, sawmilllaw44_few.l0 k l n (pre.length : Int) = some b ∧ (b = true → n ≤ 600 ∧ ∀ x ∈ suf, wee 40 x.f1) := by
  intro suf
  induction suf with
  | nil =>
    intro pre hp n h0 h1
    simp at hp
    subst hp
    exact ⟨1, decide (n ≤ 600), by rw [sawmilllaw44_few.l0, if_neg (by omega)], fun h => ⟨by simpa using h, by simp⟩⟩
  | cons x suf ih =>
    intro pre hp n h0 h1
    have hlen : l.length = pre.length + 1 + suf.length := by rw [← hp]; simp; omega
    have hrd : rd_T58 l (pre.length : Int) = x := by rw [← hp]; exact rd_mid8 pre x suf
    rw [List.length_cons] at h1
    obtain ⟨k1, r1, e1, p1, q1, g1⟩ := nodes_any x.f1 1 (by decide) (by decide)
    obtain ⟨k2, b, e2, g2⟩ := ih (pre ++ [x]) (by rw [← hp]; simp) (n + r1) (by omega) (by omega)
    have hc : (((pre ++ [x]).length : Nat) : Int) = (pre.length : Int) + 1 := by simp
    rw [hc] at e2
    refine ⟨max k1 k2 + 1, b, ?_, fun h => ?_⟩
    · rw [sawmilllaw44_few.l0, if_pos (by omega), if_pos (by omega), hrd, nds_up (Nat.le_max_left k1 k2) e1, Option.bind_some, wrap_id (n := n + r1) (by omega) (by omega), wrap_id (n := (pre.length : Int) + 1) (by omega) (by omega)]
      exact few_up (Nat.le_max_right k1 k2) e2
    · obtain ⟨h2, h3⟩ := g2 h
      refine ⟨by omega, ?_⟩
      rw [List.forall_mem_cons]
      exact ⟨(g1 (by omega)).2, h3⟩
theorem few_any (l : List S58) : ∃ k b, sawmilllaw44_few.f k l = some b ∧ (b = true → l.length ≤ 40 ∧ ∀ x ∈ l, wee 40 x.f1) := by
  by_cases hl : l.length ≤ 40
  · obtain ⟨k, b, e, g⟩ := few_loop l hl l [] rfl 0 (by omega) (by omega)
    refine ⟨k, b, ?_, fun h => ⟨hl, (g h).2⟩⟩
    unfold sawmilllaw44_few.f
    rw [if_neg (by omega)]
    exact e
  · refine ⟨1, false, ?_, fun h => by cases h⟩
    unfold sawmilllaw44_few.f
    rw [if_pos (by omega)]
theorem rsm_up {k k' : Nat} (h : k ≤ k') {x y : S24} {r : Bool} (e : sawmillref44_Same.f k x.f0 x.f1 x.f2 x.f3 y.f0 y.f1 y.f2 y.f3 = some r) : sawmillref44_Same.f k' x.f0 x.f1 x.f2 x.f3 y.f0 y.f1 y.f2 y.f3 = some r :=
  up_le (g := fun k => sawmillref44_Same.f k x.f0 x.f1 x.f2 x.f3 y.f0 y.f1 y.f2 y.f3) (fun k => sawmillref44_Same.mono _ _ _ _ _ _ _ _ k) h r e
theorem srl_up {k k' : Nat} (h : k ≤ k') {l l' : List S58} {i : Int} {r : Bool} (e : sawmillref44_SameRules.l0 k l l' i = some r) : sawmillref44_SameRules.l0 k' l l' i = some r :=
  up_le (g := fun k => sawmillref44_SameRules.l0 k l l' i) (fun k => sawmillref44_SameRules.mono_l k l l' i) h r e
theorem sr_loop (l : List S58) (hl : l.length ≤ 40) (hw : ∀ x ∈ l, wee 40 x.f1) : ∀ (suf pre : List S58), pre ++ suf = l → ∃ k, sawmillref44_SameRules.l0 k l l (pre.length : Int) = some true := by
  intro suf
  induction suf with
  | nil =>
    intro pre hp
    simp at hp
    subst hp
    exact ⟨1, by rw [sawmillref44_SameRules.l0, if_neg (by omega)]⟩
  | cons x suf ih =>
    intro pre hp
    have hlen : l.length = pre.length + 1 + suf.length := by rw [← hp]; simp; omega
    have hrd : rd_T58 l (pre.length : Int) = x := by rw [← hp]; exact rd_mid8 pre x suf
    obtain ⟨r, ⟨k1, _, e1⟩, g1⟩ := same_is x.f1 40 (hw x (by rw [← hp]; simp)) x.f1
    obtain rfl : r = true := g1.2 rfl
    obtain ⟨k2, e2⟩ := ih (pre ++ [x]) (by rw [← hp]; simp)
    have hc : (((pre ++ [x]).length : Nat) : Int) = (pre.length : Int) + 1 := by simp
    rw [hc] at e2
    refine ⟨max k1 k2 + 1, ?_⟩
    rw [sawmillref44_SameRules.l0, if_pos (by omega), if_pos (by omega), if_pos (by omega), if_pos rfl, hrd, rsm_up (Nat.le_max_left k1 k2) e1, Option.bind_some, if_pos rfl, wrap_id (n := (pre.length : Int) + 1) (by omega) (by omega)]
    exact srl_up (Nat.le_max_right k1 k2) e2
theorem sr_any (l : List S58) (hl : l.length ≤ 40) (hw : ∀ x ∈ l, wee 40 x.f1) : ∃ k, sawmillref44_SameRules.f k l l = some true := by
  obtain ⟨k, e⟩ := sr_loop l hl hw l [] rfl
  refine ⟨k, ?_⟩
  unfold sawmillref44_SameRules.f
  rw [if_pos rfl]
  exact e
end Go.Proofs.YtmnbbhieodcoeaaDoor.Rt
