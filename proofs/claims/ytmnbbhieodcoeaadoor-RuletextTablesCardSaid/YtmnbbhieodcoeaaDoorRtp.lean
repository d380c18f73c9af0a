/-
  The lexemes of a well-formed tree, and that the grammar reads them as that tree.
-/
import Derived.Test.YtmnbbhieodcoeaaDoorGrm
namespace Go.Proofs.YtmnbbhieodcoeaaDoor.Rt
open Go.RowKit Go.Proofs.YtmnbbhieodcoeaaDoorW.PrintWords Go.Proofs.YtmnbbhieodcoeaaDoorW.PrintLast Go.Proofs.YtmnbbhieodcoeaaDoorW.PrintMore
open Go.Proofs.YtmnbbhieodcoeaaDoor.PBase Go.Proofs.YtmnbbhieodcoeaaDoor.PScn
set_option linter.unusedVariables false
set_option linter.unusedSimpArgs false
def bind (op : Int) : Nat :=
  if op = 11 then 0 else if op = 10 then 1 else if op = 9 then 2 else if op = 6 ∨ op = 7 ∨ op = 8 then 3 else if op = 3 ∨ op = 4 then 4 else if op = 5 then 5 else 6
def sgn (op : Int) : S48 :=
  if op = 11 then ⟨1, bOr, 0, 0⟩ else if op = 10 then ⟨1, bAnd, 0, 0⟩ else if op = 6 then ⟨3, bEq, 0, 0⟩ else if op = 7 then ⟨3, bLt, 0, 0⟩ else if op = 8 then ⟨3, bLe, 0, 0⟩
  else if op = 3 then ⟨3, bAdd, 0, 0⟩ else if op = 4 then ⟨3, bSub, 0, 0⟩ else ⟨3, bMul, 0, 0⟩
def lft (op : Int) : Nat := if bind op = 3 then 4 else bind op
def rgt (op : Int) : Nat := if bind op = 3 then 4 else bind op + 1
section
variable (dg : Int → ByteArray)
mutual
def raw : S24 → List (Option S48)
  | ⟨op, n, s, []⟩ => if op = 1 then (if n < 0 then [some ⟨3, bSub, 0, 0⟩, some ⟨2, dg (-n), -n, 0⟩] else [some ⟨2, dg n, n, 0⟩]) else [some ⟨1, s, 0, 0⟩]
  | ⟨op, n, s, [a]⟩ => some ⟨1, bNot, 0, 0⟩ :: none :: pcs 2 a
  | ⟨op, n, s, a :: b :: l⟩ => pcs (lft op) a ++ none :: some (sgn op) :: none :: pcs (rgt op) b
termination_by x => (SizeOf.sizeOf x, 0)
def pcs (m : Nat) (x : S24) : List (Option S48) := if bind x.f0 < m then some ⟨3, bLp, 0, 0⟩ :: raw x ++ [some ⟨3, bRp, 0, 0⟩] else raw x
termination_by (SizeOf.sizeOf x, 1)
end
end
def lxs (l : List (Option S48)) : List S48 := l.filterMap id
def isNm (s : ByteArray) : Prop := ruletext_isName.f 100 s = some true
inductive WF : Nat → S24 → Prop
  | num (d : Nat) (n : Int) : -1099511627776 ≤ n → n ≤ 1099511627776 → WF (d + 1) ⟨1, n, ⟨#[]⟩, []⟩
  | nam (d : Nat) (s : ByteArray) : isNm s → WF (d + 1) ⟨2, 0, s, []⟩
  | neg (d : Nat) (a : S24) : WF d a → WF (d + 1) ⟨9, 0, ⟨#[]⟩, [a]⟩
  | two (d : Nat) (op : Int) (a b : S24) : (3 ≤ op ∧ op ≤ 8 ∨ op = 10 ∨ op = 11) → WF d a → WF d b → WF (d + 1) ⟨op, 0, ⟨#[]⟩, [a, b]⟩
def Mat (x t : S48) : Prop := x.f0 = t.f0 ∧ x.f1 = t.f1 ∧ x.f2 = t.f2
def Seg (ls : List S48) (i : Nat) (T : List S48) : Prop := ∀ q t, T[q]? = some t → Mat (pk ls (i + q)) t
theorem isW_mat {x t : S48} (h : Mat x t) (s : ByteArray) : isW x s = isW t s := by unfold isW; rw [h.1, h.2.1]
theorem seg_app {ls : List S48} {i : Nat} {A B : List S48} (h : Seg ls i (A ++ B)) : Seg ls i A ∧ Seg ls (i + A.length) B := by
  refine ⟨fun q t hq => h q t ?_, fun q t hq => ?_⟩
  · rw [List.getElem?_append_left (by have := (List.getElem?_eq_some_iff.1 hq).1; exact this)]; exact hq
  · have := h (A.length + q) t (by rw [List.getElem?_append_right (by omega)]; rw [show A.length + q - A.length = q by omega]; exact hq)
    rw [show i + A.length + q = i + (A.length + q) by omega]; exact this
theorem seg_cons {ls : List S48} {i : Nat} {t : S48} {B : List S48} (h : Seg ls i (t :: B)) : Mat (pk ls i) t ∧ Seg ls (i + 1) B := by
  refine ⟨h 0 t rfl, fun q u hq => ?_⟩
  have := h (q + 1) u (by simpa using hq)
  rw [show i + 1 + q = i + (q + 1) by omega]; exact this
def noMul (x : S48) : Prop := isW x bMul = false
def noSum (x : S48) : Prop := isW x bMul = false ∧ isW x bAdd = false ∧ isW x bSub = false
def noCmp (x : S48) : Prop := noSum x ∧ isW x bEq = false ∧ isW x bNe = false ∧ isW x bLt = false ∧ isW x bLe = false ∧ isW x bGt = false ∧ isW x bGe = false
def noAnd (x : S48) : Prop := noCmp x ∧ isW x bAnd = false
def noOr (x : S48) : Prop := noAnd x ∧ isW x bOr = false
section
variable {ls : List S48} {i j : Nat} {x : S24}
def At6 (ls : List S48) (i j : Nat) (x : S24) : Prop := YFac ls i (.ok x j)
def At5 (ls : List S48) (i j : Nat) (x : S24) : Prop := ∀ r, YTrmL ls j x r → YTrm ls i r
def At4 (ls : List S48) (i j : Nat) (x : S24) : Prop := noMul (pk ls j) → ∀ r, YSumL ls j x r → YSum ls i r
def At3 (ls : List S48) (i j : Nat) (x : S24) : Prop := noCmp (pk ls j) → YCmp ls i (.ok x j)
def At2 (ls : List S48) (i j : Nat) (x : S24) : Prop := noCmp (pk ls j) → YNeg ls i (.ok x j)
def At1 (ls : List S48) (i j : Nat) (x : S24) : Prop := noCmp (pk ls j) → ∀ r, YCnjL ls j x r → YCnj ls i r
def At0 (ls : List S48) (i j : Nat) (x : S24) : Prop := noAnd (pk ls j) → ∀ r, YExrL ls j x r → YExr ls i r
theorem at5_of (h : At6 ls i j x) : At5 ls i j x := fun r g => y_trm h g
theorem at4_of (h : At5 ls i j x) : At4 ls i j x := fun hn r g => y_sum (h _ (y_trmL_end hn)) g
theorem at3_of (h : At4 ls i j x) : At3 ls i j x := fun hn => y_cmp_end (h hn.1.1 _ (y_sumL_end hn.1.2.1 hn.1.2.2)) hn.2.1 hn.2.2.1 hn.2.2.2.1 hn.2.2.2.2.1 hn.2.2.2.2.2.1 hn.2.2.2.2.2.2
theorem at2_of (hf : isW (pk ls i) bNot = false) (h : At3 ls i j x) : At2 ls i j x := fun hn => y_neg_cmp hf (h hn)
theorem at1_of (h : At2 ls i j x) : At1 ls i j x := fun hn r g => y_cnj (h hn) g
theorem at0_of (h : At1 ls i j x) : At0 ls i j x := fun hn r g => y_exr (h hn.1 _ (y_cnjL_end hn.2)) g
def AtM (ls : List S48) (i j : Nat) (x : S24) : Nat → Prop
  | 0 => At0 ls i j x
  | 1 => At1 ls i j x
  | 2 => At2 ls i j x
  | 3 => At3 ls i j x
  | 4 => At4 ls i j x
  | 5 => At5 ls i j x
  | _ => At6 ls i j x
theorem at_down (hf : isW (pk ls i) bNot = false) {m n : Nat} (hn : n ≤ 6) (hm : m ≤ n) (h : AtM ls i j x n) : AtM ls i j x m := by
  have st : ∀ n, n < 6 → AtM ls i j x (n + 1) → AtM ls i j x n := by
    intro n hn h
    match n, hn, h with
    | 0, _, h => exact at0_of h
    | 1, _, h => exact at1_of h
    | 2, _, h => exact at2_of hf h
    | 3, _, h => exact at3_of h
    | 4, _, h => exact at4_of h
    | 5, _, h => exact at5_of h
  obtain ⟨d, rfl⟩ := Nat.exists_eq_add_of_le hm
  clear hm
  induction d with
  | zero => exact h
  | succ d ih => exact ih (by omega) (st _ (by omega) h)
theorem at_down2 {m n : Nat} (hn : n ≤ 2) (hm : m ≤ n) (h : AtM ls i j x n) : AtM ls i j x m := by
  match n, hn, m, hm, h with
  | 0, _, 0, _, h => exact h
  | 1, _, 0, _, h => exact at0_of h
  | 1, _, 1, _, h => exact h
  | 2, _, 0, _, h => exact at0_of (at1_of h)
  | 2, _, 1, _, h => exact at1_of h
  | 2, _, 2, _, h => exact h
end
theorem lxs_app (a b : List (Option S48)) : lxs (a ++ b) = lxs a ++ lxs b := List.filterMap_append
theorem lxs_some (t : S48) (a : List (Option S48)) : lxs (some t :: a) = t :: lxs a := rfl
theorem lxs_none (a : List (Option S48)) : lxs (none :: a) = lxs a := rfl
section
variable {ls : List S48} {i j : Nat} {x : S24}
theorem y_fac_num (h : (pk ls i).f0 = 2) : YFac ls i (.ok (num (pk ls i).f2) (i + 1)) := ⟨1, by rw [pFac.eq_2, if_pos h]⟩
theorem y_fac_neg (h0 : (pk ls i).f0 ≠ 2) (h1 : isW (pk ls i) bSub = true) (h2 : (pk ls (i + 1)).f0 = 2) (h3 : (pk ls (i + 1)).f2 ≠ 0) : YFac ls i (.ok (num (wrap64 (-(pk ls (i + 1)).f2))) (i + 2)) :=
  ⟨1, by rw [pFac.eq_2, if_neg h0, if_pos h1, if_pos h2, if_neg h3]⟩
theorem y_fac_par (h0 : (pk ls i).f0 ≠ 2) (h1 : isW (pk ls i) bSub = false) (h2 : isW (pk ls i) bLp = true) (h3 : YExr ls (i + 1) (.ok x j)) (h4 : isW (pk ls j) bRp = true) : YFac ls i (.ok x (j + 1)) := by
  obtain ⟨a, ha⟩ := h3
  exact ⟨a + 1, by rw [pFac.eq_2, if_neg h0, if_neg (by rw [h1]; decide), if_pos h2, bindR_ok ha, if_pos h4]⟩
theorem y_fac_nam (h0 : (pk ls i).f0 = 1) (h1 : isW (pk ls i) bSub = false) (h2 : isW (pk ls i) bLp = false) (h3 : isNm (pk ls i).f1) : YFac ls i (.ok (nam (pk ls i).f1) (i + 1)) := by
  refine ⟨1, ?_⟩
  rw [pFac.eq_2, if_neg (by rw [h0]; decide), if_neg (by rw [h1]; decide), if_neg (by rw [h2]; decide), if_pos h0]
  unfold isNm at h3
  rw [h3]
end
theorem isW_nm {s : ByteArray} (h : isNm s) {t : ByteArray} (ht : ruletext_isName.f 100 t = some false) : isW ⟨1, s, 0, 0⟩ t = false := by
  cases hb : isW ⟨1, s, 0, 0⟩ t with
  | false => rfl
  | true =>
    unfold isW at hb
    simp at hb
    have := bytes_eq hb
    subst this
    unfold isNm at h
    rw [ht] at h
    cases h
section
variable (dg : Int → ByteArray)
def Core (x : S24) : Prop := ∀ ls i, Seg ls i (lxs (raw dg x)) → AtM ls i (i + (lxs (raw dg x)).length) x (bind x.f0) ∧ (3 ≤ bind x.f0 → isW (pk ls i) bNot = false)
theorem bind_le (op : Int) : bind op ≤ 6 := by unfold bind; (repeat' split) <;> omega
theorem all_of {x : S24} (h : Core dg x) (m : Nat) (hm : m ≤ 6) (ls : List S48) (i : Nat) (hs : Seg ls i (lxs (pcs dg m x))) : AtM ls i (i + (lxs (pcs dg m x)).length) x m ∧ (3 ≤ m → isW (pk ls i) bNot = false) := by
  have hb := bind_le x.f0
  by_cases hlt : bind x.f0 < m
  · rw [pcs, if_pos hlt] at hs ⊢
    rw [List.cons_append, lxs_some, lxs_app] at hs ⊢
    obtain ⟨m1, hs⟩ := seg_cons hs
    obtain ⟨hs, hr⟩ := seg_app hs
    obtain ⟨m2, _⟩ := seg_cons (show Seg ls _ (⟨3, bRp, 0, 0⟩ :: []) from hr)
    obtain ⟨hA, hf⟩ := h ls (i + 1) hs
    have h0 : At0 ls (i + 1) (i + 1 + (lxs (raw dg x)).length) x := by
      by_cases h3 : 3 ≤ bind x.f0
      · exact at_down (m := 0) (hf h3) hb (Nat.zero_le _) hA
      · exact at_down2 (m := 0) (by omega) (Nat.zero_le _) hA
    have hR : ∀ t, isW (pk ls (i + 1 + (lxs (raw dg x)).length)) t = isW ⟨3, bRp, 0, 0⟩ t := isW_mat m2
    have hL : ∀ t, isW (pk ls i) t = isW ⟨3, bLp, 0, 0⟩ t := isW_mat m1
    have hE := h0 ⟨⟨⟨by rw [hR]; kernel_rfl, by rw [hR]; kernel_rfl, by rw [hR]; kernel_rfl⟩, by rw [hR]; kernel_rfl, by rw [hR]; kernel_rfl, by rw [hR]; kernel_rfl, by rw [hR]; kernel_rfl, by rw [hR]; kernel_rfl, by rw [hR]; kernel_rfl⟩, by rw [hR]; kernel_rfl⟩ _ (y_exrL_end (by rw [hR]; kernel_rfl))
    have hF : At6 ls i (i + 1 + (lxs (raw dg x)).length + 1) x := y_fac_par (by rw [m1.1]; decide) (by rw [hL]; kernel_rfl) (by rw [hL]; kernel_rfl) hE (by rw [hR]; kernel_rfl)
    have hn : isW (pk ls i) bNot = false := by rw [hL]; kernel_rfl
    have hlen : i + (⟨3, bLp, 0, 0⟩ :: (lxs (raw dg x) ++ lxs [some (⟨3, bRp, 0, 0⟩ : S48)])).length = i + 1 + (lxs (raw dg x)).length + 1 := by
      rw [List.length_cons, List.length_append]; show i + ((lxs (raw dg x)).length + 1 + 1) = _; omega
    rw [hlen]
    exact ⟨at_down (n := 6) hn (by omega) hm hF, fun _ => hn⟩
  · rw [pcs, if_neg hlt] at hs ⊢
    obtain ⟨hA, hf⟩ := h ls i hs
    refine ⟨?_, fun h3 => hf (by omega)⟩
    by_cases h3 : 3 ≤ bind x.f0
    · exact at_down (hf h3) hb (by omega) hA
    · exact at_down2 (by omega) (by omega) hA
theorem core_num (n : Int) (h0 : -1099511627776 ≤ n) (h1 : n ≤ 1099511627776) : Core dg ⟨1, n, ⟨#[]⟩, []⟩ := by
  intro ls i hs
  have hb : bind (⟨1, n, ⟨#[]⟩, []⟩ : S24).f0 = 6 := by simp [bind]
  rw [hb]
  rw [raw] at hs ⊢
  rw [if_pos rfl] at hs ⊢
  by_cases hn : n < 0
  · rw [if_pos hn] at hs ⊢
    rw [lxs_some, lxs_some] at hs ⊢
    obtain ⟨m1, hs⟩ := seg_cons hs
    obtain ⟨m2, _⟩ := seg_cons hs
    have hL : ∀ t, isW (pk ls i) t = isW ⟨3, bSub, 0, 0⟩ t := isW_mat m1
    have := y_fac_neg (ls := ls) (i := i) (by rw [m1.1]; decide) (by rw [hL]; kernel_rfl) m2.1 (by rw [m2.2.2]; show -n ≠ 0; omega)
    rw [m2.2.2] at this
    refine ⟨?_, fun _ => by rw [hL]; kernel_rfl⟩
    show At6 ls i (i + 2) _
    rw [show wrap64 (-(-n)) = n by unfold wrap64; omega] at this
    exact this
  · rw [if_neg hn] at hs ⊢
    rw [lxs_some] at hs ⊢
    obtain ⟨m1, _⟩ := seg_cons hs
    have := y_fac_num (ls := ls) (i := i) m1.1
    rw [m1.2.2] at this
    exact ⟨this, fun _ => by rw [isW_mat m1]; rfl⟩
theorem core_nam (s : ByteArray) (h : isNm s) : Core dg ⟨2, 0, s, []⟩ := by
  intro ls i hs
  have hb : bind (⟨2, 0, s, []⟩ : S24).f0 = 6 := by simp [bind]
  rw [hb]
  rw [raw] at hs ⊢
  rw [if_neg (by decide)] at hs ⊢
  rw [lxs_some] at hs ⊢
  obtain ⟨m1, _⟩ := seg_cons hs
  have hL : ∀ t, isW (pk ls i) t = isW ⟨1, s, 0, 0⟩ t := isW_mat m1
  have := y_fac_nam (ls := ls) (i := i) m1.1 (by rw [hL]; exact isW_nm h (by kernel_rfl)) (by rw [hL]; exact isW_nm h (by kernel_rfl)) (by rw [m1.2.1]; exact h)
  rw [m1.2.1] at this
  exact ⟨this, fun _ => by rw [hL]; exact isW_nm h (by kernel_rfl)⟩
theorem core_neg (a : S24) (ha : Core dg a) : Core dg ⟨9, 0, ⟨#[]⟩, [a]⟩ := by
  intro ls i hs
  have hb : bind (⟨9, 0, ⟨#[]⟩, [a]⟩ : S24).f0 = 2 := by simp [bind]
  rw [hb]
  rw [raw] at hs ⊢
  rw [lxs_some, lxs_none] at hs ⊢
  obtain ⟨m1, hs⟩ := seg_cons hs
  obtain ⟨hA, _⟩ := all_of dg ha 2 (by omega) ls (i + 1) hs
  have hL : ∀ t, isW (pk ls i) t = isW ⟨1, bNot, 0, 0⟩ t := isW_mat m1
  refine ⟨fun hn => ?_, fun h => absurd h (by omega)⟩
  rw [List.length_cons, show i + ((lxs (pcs dg 2 a)).length + 1) = i + 1 + (lxs (pcs dg 2 a)).length by omega] at hn ⊢
  exact y_neg_not (by rw [hL]; kernel_rfl) (hA hn)
theorem core_two (op : Int) (a b : S24) (hop : 3 ≤ op ∧ op ≤ 8 ∨ op = 10 ∨ op = 11) (ha : Core dg a) (hb : Core dg b) : Core dg ⟨op, 0, ⟨#[]⟩, [a, b]⟩ := by
  intro ls i hs
  rw [raw] at hs ⊢
  rw [lxs_app, lxs_none, lxs_some, lxs_none] at hs ⊢
  obtain ⟨hsa, hs⟩ := seg_app hs
  obtain ⟨m1, hsb⟩ := seg_cons hs
  have hl6 : lft op ≤ 6 := by unfold lft; have := bind_le op; split <;> omega
  have hr6 : rgt op ≤ 6 := by
    have : bind op ≤ 5 := by unfold bind; (repeat' split) <;> omega
    unfold rgt; split <;> omega
  obtain ⟨hA, hfa⟩ := all_of dg ha (lft op) hl6 ls i hsa
  obtain ⟨hB, _⟩ := all_of dg hb (rgt op) hr6 ls _ hsb
  have hL := isW_mat m1
  rw [List.length_append, List.length_cons]
  rw [show i + ((lxs (pcs dg (lft op) a)).length + ((lxs (pcs dg (rgt op) b)).length + 1)) = i + (lxs (pcs dg (lft op) a)).length + 1 + (lxs (pcs dg (rgt op) b)).length by omega]
  generalize i + (lxs (pcs dg (lft op) a)).length = ja at *
  generalize ja + 1 + (lxs (pcs dg (rgt op) b)).length = j at *
  show AtM ls i j ⟨op, 0, ⟨#[]⟩, [a, b]⟩ (bind op) ∧ (3 ≤ bind op → _)
  have hf : 3 ≤ bind op → isW (pk ls i) bNot = false := fun h => hfa (by unfold lft; split <;> omega)
  refine ⟨?_, hf⟩
  clear hf hfa hs hsa hsb m1 hl6 hr6
  have hc : op = 3 ∨ op = 4 ∨ op = 5 ∨ op = 6 ∨ op = 7 ∨ op = 8 ∨ op = 10 ∨ op = 11 := by omega
  rcases hc with rfl | rfl | rfl | rfl | rfl | rfl | rfl | rfl
  · intro hn r g
    exact hA (by show isW _ _ = false; rw [hL]; kernel_rfl) r (y_sumL_add (by rw [hL]; kernel_rfl) (hB _ (y_trmL_end hn)) g)
  · intro hn r g
    exact hA (by show isW _ _ = false; rw [hL]; kernel_rfl) r (y_sumL_sub (by rw [hL]; kernel_rfl) (by rw [hL]; kernel_rfl) (hB _ (y_trmL_end hn)) g)
  · intro r g
    exact hA r (y_trmL_mul (by rw [hL]; kernel_rfl) hB g)
  · intro hn
    exact y_cmp_eq (hA (by show isW _ _ = false; rw [hL]; kernel_rfl) _ (y_sumL_end (by rw [hL]; kernel_rfl) (by rw [hL]; kernel_rfl))) (by rw [hL]; kernel_rfl) (hB hn.1.1 _ (y_sumL_end hn.1.2.1 hn.1.2.2))
  · intro hn
    exact y_cmp_lt (hA (by show isW _ _ = false; rw [hL]; kernel_rfl) _ (y_sumL_end (by rw [hL]; kernel_rfl) (by rw [hL]; kernel_rfl))) (by rw [hL]; kernel_rfl) (by rw [hL]; kernel_rfl) (by rw [hL]; kernel_rfl) (hB hn.1.1 _ (y_sumL_end hn.1.2.1 hn.1.2.2))
  · intro hn
    exact y_cmp_le (hA (by show isW _ _ = false; rw [hL]; kernel_rfl) _ (y_sumL_end (by rw [hL]; kernel_rfl) (by rw [hL]; kernel_rfl))) (by rw [hL]; kernel_rfl) (by rw [hL]; kernel_rfl) (by rw [hL]; kernel_rfl) (by rw [hL]; kernel_rfl) (hB hn.1.1 _ (y_sumL_end hn.1.2.1 hn.1.2.2))
  · intro hn r g
    exact hA ⟨⟨by rw [hL]; kernel_rfl, by rw [hL]; kernel_rfl, by rw [hL]; kernel_rfl⟩, by rw [hL]; kernel_rfl, by rw [hL]; kernel_rfl, by rw [hL]; kernel_rfl, by rw [hL]; kernel_rfl, by rw [hL]; kernel_rfl, by rw [hL]; kernel_rfl⟩ r (y_cnjL_and (by rw [hL]; kernel_rfl) (hB hn) g)
  · intro hn r g
    exact hA ⟨⟨⟨by rw [hL]; kernel_rfl, by rw [hL]; kernel_rfl, by rw [hL]; kernel_rfl⟩, by rw [hL]; kernel_rfl, by rw [hL]; kernel_rfl, by rw [hL]; kernel_rfl, by rw [hL]; kernel_rfl, by rw [hL]; kernel_rfl, by rw [hL]; kernel_rfl⟩, by rw [hL]; kernel_rfl⟩ r (y_exrL_or (by rw [hL]; kernel_rfl) (hB hn.1 _ (y_cnjL_end hn.2)) g)
theorem core_wf {d : Nat} {x : S24} (h : WF d x) : Core dg x := by
  induction h with
  | num d n h0 h1 => exact core_num dg n h0 h1
  | nam d s h => exact core_nam dg s h
  | neg d a _ ih => exact core_neg dg a ih
  | two d op a b hop _ _ iha ihb => exact core_two dg op a b hop iha ihb
end
end Go.Proofs.YtmnbbhieodcoeaaDoor.Rt
