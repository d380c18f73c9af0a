/-
  The grammar, read back: the lexemes of a well-formed tree are parsed as that tree.
-/
import Derived.Test.YtmnbbhieodcoeaaDoorPar0
import Derived.Test.YtmnbbhieodcoeaaDoorSmc
namespace Go.Proofs.YtmnbbhieodcoeaaDoor.Rt
open Go.RowKit Go.Proofs.YtmnbbhieodcoeaaDoorW.PrintWords Go.Proofs.YtmnbbhieodcoeaaDoorW.PrintLast Go.Proofs.YtmnbbhieodcoeaaDoorW.PrintMore
open Go.Proofs.YtmnbbhieodcoeaaDoor.PBase Go.Proofs.YtmnbbhieodcoeaaDoor.PScn
set_option linter.unusedVariables false
set_option linter.unusedSimpArgs false
theorem LeO.bindR {o o' : Option Rz} {f f' : S24 → Nat → Option Rz} (h : LeO o o') (k : ∀ x j, LeO (f x j) (f' x j)) : LeO (bindR o f) (bindR o' f') := by
  cases o with
  | none => exact LeO.none _
  | some r =>
    rw [h r rfl]
    cases r with
    | ok x j => exact k x j
    | bad e a => exact LeO.refl _
theorem p_up : ∀ k, (∀ ls i, LeO (pFac k ls i) (pFac (k + 1) ls i)) ∧ (∀ ls i, LeO (pTrm k ls i) (pTrm (k + 1) ls i)) ∧ (∀ ls i x, LeO (pTrmL k ls i x) (pTrmL (k + 1) ls i x)) ∧
    (∀ ls i, LeO (pSum k ls i) (pSum (k + 1) ls i)) ∧ (∀ ls i x, LeO (pSumL k ls i x) (pSumL (k + 1) ls i x)) ∧ (∀ ls i, LeO (pCmp k ls i) (pCmp (k + 1) ls i)) ∧
    (∀ ls i, LeO (pNeg k ls i) (pNeg (k + 1) ls i)) ∧ (∀ ls i, LeO (pCnj k ls i) (pCnj (k + 1) ls i)) ∧ (∀ ls i x, LeO (pCnjL k ls i x) (pCnjL (k + 1) ls i x)) ∧
    (∀ ls i, LeO (pExr k ls i) (pExr (k + 1) ls i)) ∧ (∀ ls i x, LeO (pExrL k ls i x) (pExrL (k + 1) ls i x)) := by
  intro k
  induction k with
  | zero =>
    refine ⟨fun ls i r h => ?_, fun ls i r h => ?_, fun ls i x r h => ?_, fun ls i r h => ?_, fun ls i x r h => ?_, fun ls i r h => ?_, fun ls i r h => ?_, fun ls i r h => ?_, fun ls i x r h => ?_, fun ls i r h => ?_, fun ls i x r h => ?_⟩
    · rw [pFac.eq_1] at h; cases h
    · rw [pTrm.eq_1] at h; cases h
    · rw [pTrmL.eq_1] at h; cases h
    · rw [pSum.eq_1] at h; cases h
    · rw [pSumL.eq_1] at h; cases h
    · rw [pCmp.eq_1] at h; cases h
    · rw [pNeg.eq_1] at h; cases h
    · rw [pCnj.eq_1] at h; cases h
    · rw [pCnjL.eq_1] at h; cases h
    · rw [pExr.eq_1] at h; cases h
    · rw [pExrL.eq_1] at h; cases h
  | succ k ih =>
    obtain ⟨h1, h2, h3, h4, h5, h6, h7, h8, h9, h10, h11⟩ := ih
    refine ⟨fun ls i => ?_, fun ls i => ?_, fun ls i x => ?_, fun ls i => ?_, fun ls i x => ?_, fun ls i => ?_, fun ls i => ?_, fun ls i => ?_, fun ls i x => ?_, fun ls i => ?_, fun ls i x => ?_⟩
    · rw [pFac.eq_2, pFac.eq_2]
      repeat' (first | exact h10 _ _ | exact LeO.refl _ | refine LeO.ite ?_ ?_ | refine LeO.bindR ?_ (fun _ _ => ?_))
    · rw [pTrm.eq_2, pTrm.eq_2]
      exact LeO.bindR (h1 _ _) (fun _ _ => h3 _ _ _)
    · rw [pTrmL.eq_2, pTrmL.eq_2]
      exact LeO.ite (LeO.bindR (h1 _ _) (fun _ _ => h3 _ _ _)) (LeO.refl _)
    · rw [pSum.eq_2, pSum.eq_2]
      exact LeO.bindR (h2 _ _) (fun _ _ => h5 _ _ _)
    · rw [pSumL.eq_2, pSumL.eq_2]
      exact LeO.ite (LeO.bindR (h2 _ _) (fun _ _ => h5 _ _ _)) (LeO.ite (LeO.bindR (h2 _ _) (fun _ _ => h5 _ _ _)) (LeO.refl _))
    · rw [pCmp.eq_2, pCmp.eq_2]
      refine LeO.bindR (h4 _ _) (fun _ _ => ?_)
      repeat' (first | exact h4 _ _ | exact LeO.refl _ | refine LeO.ite ?_ ?_ | refine LeO.bindR ?_ (fun _ _ => ?_))
    · rw [pNeg.eq_2, pNeg.eq_2]
      exact LeO.ite (LeO.bindR (h7 _ _) (fun _ _ => LeO.refl _)) (h6 _ _)
    · rw [pCnj.eq_2, pCnj.eq_2]
      exact LeO.bindR (h7 _ _) (fun _ _ => h9 _ _ _)
    · rw [pCnjL.eq_2, pCnjL.eq_2]
      exact LeO.ite (LeO.bindR (h7 _ _) (fun _ _ => h9 _ _ _)) (LeO.refl _)
    · rw [pExr.eq_2, pExr.eq_2]
      exact LeO.bindR (h8 _ _) (fun _ _ => h11 _ _ _)
    · rw [pExrL.eq_2, pExrL.eq_2]
      exact LeO.ite (LeO.bindR (h8 _ _) (fun _ _ => h11 _ _ _)) (LeO.refl _)
def YFac (ls : List S48) (i : Nat) (r : Rz) : Prop := ∃ k, pFac k ls i = some r
def YTrm (ls : List S48) (i : Nat) (r : Rz) : Prop := ∃ k, pTrm k ls i = some r
def YTrmL (ls : List S48) (i : Nat) (x : S24) (r : Rz) : Prop := ∃ k, pTrmL k ls i x = some r
def YSum (ls : List S48) (i : Nat) (r : Rz) : Prop := ∃ k, pSum k ls i = some r
def YSumL (ls : List S48) (i : Nat) (x : S24) (r : Rz) : Prop := ∃ k, pSumL k ls i x = some r
def YCmp (ls : List S48) (i : Nat) (r : Rz) : Prop := ∃ k, pCmp k ls i = some r
def YNeg (ls : List S48) (i : Nat) (r : Rz) : Prop := ∃ k, pNeg k ls i = some r
def YCnj (ls : List S48) (i : Nat) (r : Rz) : Prop := ∃ k, pCnj k ls i = some r
def YCnjL (ls : List S48) (i : Nat) (x : S24) (r : Rz) : Prop := ∃ k, pCnjL k ls i x = some r
def YExr (ls : List S48) (i : Nat) (r : Rz) : Prop := ∃ k, pExr k ls i = some r
def YExrL (ls : List S48) (i : Nat) (x : S24) (r : Rz) : Prop := ∃ k, pExrL k ls i x = some r
section
variable {ls : List S48} {i j m : Nat} {x y : S24} {r : Rz}
theorem bindR_ok {o : Option Rz} {f : S24 → Nat → Option Rz} (h : o = some (.ok x j)) : bindR o f = f x j := by rw [h]; rfl
theorem y_trm (h : YFac ls i (.ok x j)) (g : YTrmL ls j x r) : YTrm ls i r := by
  obtain ⟨a, ha⟩ := h
  obtain ⟨b, hb⟩ := g
  refine ⟨max a b + 1, ?_⟩
  rw [pTrm.eq_2, bindR_ok (up_le (g := fun k => pFac k ls i) (fun k => (p_up k).1 _ _) (Nat.le_max_left a b) _ ha)]
  exact up_le (g := fun k => pTrmL k ls j x) (fun k => (p_up k).2.2.1 _ _ _) (Nat.le_max_right a b) _ hb
theorem y_trmL_mul (hw : isW (pk ls i) bMul = true) (h : YFac ls (i + 1) (.ok y j)) (g : YTrmL ls j (two 5 x y) r) : YTrmL ls i x r := by
  obtain ⟨a, ha⟩ := h
  obtain ⟨b, hb⟩ := g
  refine ⟨max a b + 1, ?_⟩
  rw [pTrmL.eq_2, if_pos hw, bindR_ok (up_le (g := fun k => pFac k ls (i + 1)) (fun k => (p_up k).1 _ _) (Nat.le_max_left a b) _ ha)]
  exact up_le (g := fun k => pTrmL k ls j (two 5 x y)) (fun k => (p_up k).2.2.1 _ _ _) (Nat.le_max_right a b) _ hb
theorem y_trmL_end (hw : isW (pk ls i) bMul = false) : YTrmL ls i x (.ok x i) := ⟨1, by rw [pTrmL.eq_2, if_neg (by rw [hw]; decide)]⟩
theorem y_sum (h : YTrm ls i (.ok x j)) (g : YSumL ls j x r) : YSum ls i r := by
  obtain ⟨a, ha⟩ := h
  obtain ⟨b, hb⟩ := g
  refine ⟨max a b + 1, ?_⟩
  rw [pSum.eq_2, bindR_ok (up_le (g := fun k => pTrm k ls i) (fun k => (p_up k).2.1 _ _) (Nat.le_max_left a b) _ ha)]
  exact up_le (g := fun k => pSumL k ls j x) (fun k => (p_up k).2.2.2.2.1 _ _ _) (Nat.le_max_right a b) _ hb
theorem y_sumL_add (hw : isW (pk ls i) bAdd = true) (h : YTrm ls (i + 1) (.ok y j)) (g : YSumL ls j (two 3 x y) r) : YSumL ls i x r := by
  obtain ⟨a, ha⟩ := h
  obtain ⟨b, hb⟩ := g
  refine ⟨max a b + 1, ?_⟩
  rw [pSumL.eq_2, if_pos hw, bindR_ok (up_le (g := fun k => pTrm k ls (i + 1)) (fun k => (p_up k).2.1 _ _) (Nat.le_max_left a b) _ ha)]
  exact up_le (g := fun k => pSumL k ls j (two 3 x y)) (fun k => (p_up k).2.2.2.2.1 _ _ _) (Nat.le_max_right a b) _ hb
theorem y_sumL_sub (hv : isW (pk ls i) bAdd = false) (hw : isW (pk ls i) bSub = true) (h : YTrm ls (i + 1) (.ok y j)) (g : YSumL ls j (two 4 x y) r) : YSumL ls i x r := by
  obtain ⟨a, ha⟩ := h
  obtain ⟨b, hb⟩ := g
  refine ⟨max a b + 1, ?_⟩
  rw [pSumL.eq_2, if_neg (by rw [hv]; decide), if_pos hw, bindR_ok (up_le (g := fun k => pTrm k ls (i + 1)) (fun k => (p_up k).2.1 _ _) (Nat.le_max_left a b) _ ha)]
  exact up_le (g := fun k => pSumL k ls j (two 4 x y)) (fun k => (p_up k).2.2.2.2.1 _ _ _) (Nat.le_max_right a b) _ hb
theorem y_sumL_end (hv : isW (pk ls i) bAdd = false) (hw : isW (pk ls i) bSub = false) : YSumL ls i x (.ok x i) :=
  ⟨1, by rw [pSumL.eq_2, if_neg (by rw [hv]; decide), if_neg (by rw [hw]; decide)]⟩
theorem y_cnj (h : YNeg ls i (.ok x j)) (g : YCnjL ls j x r) : YCnj ls i r := by
  obtain ⟨a, ha⟩ := h
  obtain ⟨b, hb⟩ := g
  refine ⟨max a b + 1, ?_⟩
  rw [pCnj.eq_2, bindR_ok (up_le (g := fun k => pNeg k ls i) (fun k => (p_up k).2.2.2.2.2.2.1 _ _) (Nat.le_max_left a b) _ ha)]
  exact up_le (g := fun k => pCnjL k ls j x) (fun k => (p_up k).2.2.2.2.2.2.2.2.1 _ _ _) (Nat.le_max_right a b) _ hb
theorem y_cnjL_and (hw : isW (pk ls i) bAnd = true) (h : YNeg ls (i + 1) (.ok y j)) (g : YCnjL ls j (two 10 x y) r) : YCnjL ls i x r := by
  obtain ⟨a, ha⟩ := h
  obtain ⟨b, hb⟩ := g
  refine ⟨max a b + 1, ?_⟩
  rw [pCnjL.eq_2, if_pos hw, bindR_ok (up_le (g := fun k => pNeg k ls (i + 1)) (fun k => (p_up k).2.2.2.2.2.2.1 _ _) (Nat.le_max_left a b) _ ha)]
  exact up_le (g := fun k => pCnjL k ls j (two 10 x y)) (fun k => (p_up k).2.2.2.2.2.2.2.2.1 _ _ _) (Nat.le_max_right a b) _ hb
theorem y_cnjL_end (hw : isW (pk ls i) bAnd = false) : YCnjL ls i x (.ok x i) := ⟨1, by rw [pCnjL.eq_2, if_neg (by rw [hw]; decide)]⟩
theorem y_exr (h : YCnj ls i (.ok x j)) (g : YExrL ls j x r) : YExr ls i r := by
  obtain ⟨a, ha⟩ := h
  obtain ⟨b, hb⟩ := g
  refine ⟨max a b + 1, ?_⟩
  rw [pExr.eq_2, bindR_ok (up_le (g := fun k => pCnj k ls i) (fun k => (p_up k).2.2.2.2.2.2.2.1 _ _) (Nat.le_max_left a b) _ ha)]
  exact up_le (g := fun k => pExrL k ls j x) (fun k => (p_up k).2.2.2.2.2.2.2.2.2.2 _ _ _) (Nat.le_max_right a b) _ hb
theorem y_exrL_or (hw : isW (pk ls i) bOr = true) (h : YCnj ls (i + 1) (.ok y j)) (g : YExrL ls j (two 11 x y) r) : YExrL ls i x r := by
  obtain ⟨a, ha⟩ := h
  obtain ⟨b, hb⟩ := g
  refine ⟨max a b + 1, ?_⟩
  rw [pExrL.eq_2, if_pos hw, bindR_ok (up_le (g := fun k => pCnj k ls (i + 1)) (fun k => (p_up k).2.2.2.2.2.2.2.1 _ _) (Nat.le_max_left a b) _ ha)]
  exact up_le (g := fun k => pExrL k ls j (two 11 x y)) (fun k => (p_up k).2.2.2.2.2.2.2.2.2.2 _ _ _) (Nat.le_max_right a b) _ hb
theorem y_exrL_end (hw : isW (pk ls i) bOr = false) : YExrL ls i x (.ok x i) := ⟨1, by rw [pExrL.eq_2, if_neg (by rw [hw]; decide)]⟩
theorem y_neg_not (hw : isW (pk ls i) bNot = true) (h : YNeg ls (i + 1) (.ok x j)) : YNeg ls i (.ok (neg x) j) := by
  obtain ⟨a, ha⟩ := h
  exact ⟨a + 1, by rw [pNeg.eq_2, if_pos hw, bindR_ok ha]⟩
theorem y_neg_cmp (hw : isW (pk ls i) bNot = false) (h : YCmp ls i r) : YNeg ls i r := by
  obtain ⟨a, ha⟩ := h
  exact ⟨a + 1, by rw [pNeg.eq_2, if_neg (by rw [hw]; decide), ha]⟩
theorem y_cmp_end (h : YSum ls i (.ok x j)) (h1 : isW (pk ls j) bEq = false) (h2 : isW (pk ls j) bNe = false) (h3 : isW (pk ls j) bLt = false) (h4 : isW (pk ls j) bLe = false) (h5 : isW (pk ls j) bGt = false) (h6 : isW (pk ls j) bGe = false) : YCmp ls i (.ok x j) := by
  obtain ⟨a, ha⟩ := h
  exact ⟨a + 1, by rw [pCmp.eq_2, bindR_ok ha, if_neg (by rw [h1]; decide), if_neg (by rw [h2]; decide), if_neg (by rw [h3]; decide), if_neg (by rw [h4]; decide), if_neg (by rw [h5]; decide), if_neg (by rw [h6]; decide)]⟩
theorem y_cmp_eq (h : YSum ls i (.ok x j)) (h1 : isW (pk ls j) bEq = true) (g : YSum ls (j + 1) (.ok y m)) : YCmp ls i (.ok (two 6 x y) m) := by
  obtain ⟨a, ha⟩ := h
  obtain ⟨b, hb⟩ := g
  refine ⟨max a b + 1, ?_⟩
  rw [pCmp.eq_2, bindR_ok (up_le (g := fun k => pSum k ls i) (fun k => (p_up k).2.2.2.1 _ _) (Nat.le_max_left a b) _ ha), if_pos h1, bindR_ok (up_le (g := fun k => pSum k ls (j + 1)) (fun k => (p_up k).2.2.2.1 _ _) (Nat.le_max_right a b) _ hb)]
theorem y_cmp_lt (h : YSum ls i (.ok x j)) (h1 : isW (pk ls j) bEq = false) (h2 : isW (pk ls j) bNe = false) (h3 : isW (pk ls j) bLt = true) (g : YSum ls (j + 1) (.ok y m)) : YCmp ls i (.ok (two 7 x y) m) := by
  obtain ⟨a, ha⟩ := h
  obtain ⟨b, hb⟩ := g
  refine ⟨max a b + 1, ?_⟩
  rw [pCmp.eq_2, bindR_ok (up_le (g := fun k => pSum k ls i) (fun k => (p_up k).2.2.2.1 _ _) (Nat.le_max_left a b) _ ha), if_neg (by rw [h1]; decide), if_neg (by rw [h2]; decide), if_pos h3, bindR_ok (up_le (g := fun k => pSum k ls (j + 1)) (fun k => (p_up k).2.2.2.1 _ _) (Nat.le_max_right a b) _ hb)]
theorem y_cmp_le (h : YSum ls i (.ok x j)) (h1 : isW (pk ls j) bEq = false) (h2 : isW (pk ls j) bNe = false) (h3 : isW (pk ls j) bLt = false) (h4 : isW (pk ls j) bLe = true) (g : YSum ls (j + 1) (.ok y m)) : YCmp ls i (.ok (two 8 x y) m) := by
  obtain ⟨a, ha⟩ := h
  obtain ⟨b, hb⟩ := g
  refine ⟨max a b + 1, ?_⟩
  rw [pCmp.eq_2, bindR_ok (up_le (g := fun k => pSum k ls i) (fun k => (p_up k).2.2.2.1 _ _) (Nat.le_max_left a b) _ ha), if_neg (by rw [h1]; decide), if_neg (by rw [h2]; decide), if_neg (by rw [h3]; decide), if_pos h4, bindR_ok (up_le (g := fun k => pSum k ls (j + 1)) (fun k => (p_up k).2.2.2.1 _ _) (Nat.le_max_right a b) _ hb)]
end
end Go.Proofs.YtmnbbhieodcoeaaDoor.Rt
