/-
  Trees: induction; nodes counts them; Same, by the code and by the document, says whether two trees are equal.
-/
import Derived.Test.YtmnbbhieodcoeaaDoorPBasex
import Derived.Lib.Strings
namespace Go.Proofs.YtmnbbhieodcoeaaDoor.Rt
open Go.RowKit Go.Proofs.YtmnbbhieodcoeaaDoorW.PrintWords Go.Proofs.YtmnbbhieodcoeaaDoorW.PrintLast Go.Proofs.YtmnbbhieodcoeaaDoorW.PrintMore
open Go.Proofs.YtmnbbhieodcoeaaDoor.PBase
set_option linter.unusedVariables false
set_option linter.unusedSimpArgs false

theorem tree_ind {P : S24 → Prop} (h : ∀ s : S24, (∀ c ∈ s.f3, P c) → P s) (s : S24) : P s := by
  have key : ∀ n : Nat, ∀ s : S24, SizeOf.sizeOf s < n → P s := by
    intro n
    induction n with
    | zero => intro s hs; omega
    | succ n ih =>
      intro s hs
      refine h s fun c hc => ih c ?_
      have h1 := List.sizeOf_lt_of_mem hc
      have h2 : SizeOf.sizeOf s = 1 + SizeOf.sizeOf s.f0 + SizeOf.sizeOf s.f1 + SizeOf.sizeOf s.f2 + SizeOf.sizeOf s.f3 := by cases s; simp
      omega
  exact key _ s (Nat.lt_succ_self _)
theorem up_le {α : Type} {g : Nat → Option α} (h : ∀ k, LeO (g k) (g (k + 1))) {k k' : Nat} (hk : k ≤ k') : LeO (g k) (g k') := by
  induction hk with
  | refl => exact LeO.refl _
  | step _ ih => exact LeO.trans ih (h _)
mutual
/-- How many nodes a tree has. -/
def cnt : S24 → Nat
  | ⟨_, _, _, l⟩ => 1 + cnts l
def cnts : List S24 → Nat
  | [] => 0
  | x :: xs => cnt x + cnts xs
end
mutual
/-- A tree is at most m deep, its nodes have 20 children and names of 200 bytes at most. -/
def wee : Nat → S24 → Prop
  | m, ⟨_, _, s, l⟩ => 0 < m ∧ l.length ≤ 20 ∧ s.size ≤ 200 ∧ wees (m - 1) l
def wees : Nat → List S24 → Prop
  | _, [] => True
  | m, x :: xs => wee m x ∧ wees m xs
end
theorem rd_mid (pre : List S24) (c : S24) (suf : List S24) : rd_T24 (pre ++ c :: suf) (pre.length : Int) = c := by
  simp [rd_T24]
theorem wrap_id {n : Int} (h0 : -9223372036854775808 ≤ n) (h1 : n ≤ 9223372036854775807) : wrap64 n = n := by
  unfold wrap64; omega
theorem nodes_loop (d : Int) (a b : Int) (s : ByteArray) (M : Int) (m : Nat) (hM : 0 ≤ M) (hM' : M ≤ 1000000) (hd0 : 0 ≤ d) (hd : d ≤ 40) (l : List S24) (hl : l.length ≤ 20)
    (IH : ∀ c ∈ l, ∃ k r, sawmilllaw44_nodes.f k c.f0 c.f1 c.f2 c.f3 (d + 1) = some r ∧ 1 ≤ r ∧ r ≤ M ∧ (r ≤ 600 → r = cnt c ∧ wee m c)) :
    ∀ (suf pre : List S24), pre ++ suf = l → ∀ n : Int, 1 ≤ n → n ≤ 600 + M → ∃ k r, sawmilllaw44_nodes.l0 k d n pre.length a b s l = some r ∧ 1 ≤ r ∧ r ≤ 600 + M ∧ (r ≤ 600 → r = n + cnts suf ∧ wees m suf) := by
  intro suf
  induction suf with
  | nil =>
    intro pre hp n h1 h2
    refine ⟨1, n, ?_, h1, h2, fun _ => ⟨by simp [cnts], trivial⟩⟩
    rw [sawmilllaw44_nodes.l0, if_neg]
    simp at hp
    subst hp
    omega
  | cons c suf ih =>
    intro pre hp n h1 h2
    by_cases hn : n ≤ 600
    · obtain ⟨k1, r1, e1, p1, q1, g1⟩ := IH c (by rw [← hp]; simp)
      obtain ⟨k2, r2, e2, p2, q2, g2⟩ := ih (pre ++ [c]) (by rw [← hp]; simp) (n + r1) (by omega) (by omega)
      refine ⟨max k1 k2 + 1, r2, ?_, p2, q2, fun h => ?_⟩
      · have hlen : l.length = pre.length + 1 + suf.length := by rw [← hp]; simp; omega
        have hrd : rd_T24 l (pre.length : Int) = c := by rw [← hp]; exact rd_mid pre c suf
        rw [sawmilllaw44_nodes.l0, if_pos (by omega), if_pos hn, if_pos (by omega), hrd, wrap_id (by omega) (by omega)]
        rw [up_le (g := fun k => sawmilllaw44_nodes.f k c.f0 c.f1 c.f2 c.f3 (d + 1)) (fun k => sawmilllaw44_nodes.mono _ _ _ _ _ k) (Nat.le_max_left k1 k2) _ e1]
        show sawmilllaw44_nodes.l0 (max k1 k2) d (wrap64 (n + r1)) (wrap64 (pre.length + 1)) a b s l = some r2
        rw [wrap_id (by omega) (by omega), wrap_id (by omega) (by omega)]
        have e2' : sawmilllaw44_nodes.l0 k2 d (n + r1) ((pre.length : Int) + 1) a b s l = some r2 := by
          have : (((pre ++ [c]).length : Nat) : Int) = (pre.length : Int) + 1 := by simp
          rw [← this]; exact e2
        exact up_le (g := fun k => sawmilllaw44_nodes.l0 k d (n + r1) ((pre.length : Int) + 1) a b s l) (fun k => (sawmilllaw44_nodes.mono_l k).2.2 _ _ _ _ _ _ _) (Nat.le_max_right k1 k2) _ e2'
      · obtain ⟨h3, h4⟩ := g2 h
        have : (0 : Int) ≤ cnts suf := by omega
        obtain ⟨h5, h6⟩ := g1 (by omega)
        refine ⟨?_, ?_⟩
        · rw [h3, h5]; simp [cnts]; omega
        · rw [wees]; exact ⟨h6, h4⟩
    · refine ⟨1, n, ?_, h1, h2, fun h => absurd h hn⟩
      have hlen : l.length = pre.length + 1 + suf.length := by rw [← hp]; simp; omega
      rw [sawmilllaw44_nodes.l0, if_pos (by omega), if_neg hn]
theorem nodes_any (s : S24) : ∀ d : Int, 1 ≤ d → d ≤ 41 → ∃ k r, sawmilllaw44_nodes.f k s.f0 s.f1 s.f2 s.f3 d = some r ∧ 1 ≤ r ∧ r ≤ 1000 + 600 * (41 - d) ∧ (r ≤ 600 → r = cnt s ∧ wee (41 - d).toNat s) := by
  induction s using tree_ind with
  | h s ih =>
  intro d h1 h2
  by_cases hd : d > 40
  · refine ⟨2, 1000, ?_, by omega, by omega, fun h => by omega⟩
    rw [sawmilllaw44_nodes.f, if_pos hd, sawmilllaw44_nodes.j0, if_pos rfl]
  by_cases hl : (s.f3.length : Int) > 20
  · refine ⟨2, 1000, ?_, by omega, by omega, fun h => by omega⟩
    rw [sawmilllaw44_nodes.f, if_neg hd, if_pos hl, sawmilllaw44_nodes.j0, if_pos rfl]
  by_cases hs : (s.f2.size : Int) > 200
  · refine ⟨2, 1000, ?_, by omega, by omega, fun h => by omega⟩
    rw [sawmilllaw44_nodes.f, if_neg hd, if_neg hl, sawmilllaw44_nodes.j0, if_pos (by simpa using hs)]
  obtain ⟨k, r, e, p, q, g⟩ := nodes_loop d s.f0 s.f1 s.f2 (1000 + 600 * (40 - d)) (40 - d).toNat (by omega) (by omega) (by omega) (by omega) s.f3 (by omega)
    (fun c hc => by
      obtain ⟨k, r, e, p, q, g⟩ := ih c hc (d + 1) (by omega) (by omega)
      exact ⟨k, r, e, p, by omega, fun h => by have := g h; rw [show (41 - (d + 1)).toNat = (40 - d).toNat by omega] at this; exact this⟩) s.f3 [] rfl 1 (by omega) (by omega)
  refine ⟨k + 2, r, ?_, p, by omega, fun h => ?_⟩
  · rw [sawmilllaw44_nodes.f, if_neg hd, if_neg hl, sawmilllaw44_nodes.j0, if_neg (by simpa using hs)]
    exact e
  · obtain ⟨h3, h4⟩ := g h
    cases s with
    | mk a b t l =>
      refine ⟨by rw [cnt]; simpa using h3, ?_⟩
      rw [wee]
      simp only at hl hs h4
      refine ⟨by omega, by omega, by omega, ?_⟩
      rw [show (41 - d).toNat - 1 = (40 - d).toNat by omega]
      exact h4
theorem bytes_eq {a b : ByteArray} (h : a.toList = b.toList) : a = b := by
  rw [Lib.toList_data, Lib.toList_data] at h
  exact ByteArray.ext (Array.toList_inj.1 h)
/-- Both functions, with some fuel, give r. -/
def SameIs (s t : S24) (r : Bool) : Prop := ∃ k, ruletext_Same.f k s.f0 s.f1 s.f2 s.f3 t.f0 t.f1 t.f2 t.f3 = some r ∧ sawmillref44_Same.f k s.f0 s.f1 s.f2 s.f3 t.f0 t.f1 t.f2 t.f3 = some r
theorem same_loop (a b : Int) (c : ByteArray) (a' b' : Int) (c' : ByteArray) (l l' : List S24) (hl : l.length ≤ 9223372036854775807)
    (IH : ∀ x ∈ l, ∀ y, ∃ r, SameIs x y r ∧ (r = true ↔ x = y)) :
    ∀ (suf pre suf' pre' : List S24), pre ++ suf = l → pre' ++ suf' = l' → pre.length = pre'.length → suf.length = suf'.length → ∃ k r, ruletext_Same.l0 k (l.length : Int) pre.length a b c l a' b' c' l' = some r ∧ sawmillref44_Same.l0 k pre.length a b c l a' b' c' l' = some r ∧ (r = true ↔ suf = suf') := by
  intro suf
  induction suf with
  | nil =>
    intro pre suf' pre' hp hp' hpp hss
    obtain rfl : suf' = [] := by cases suf'; rfl; simp at hss
    simp at hp hp'
    subst hp hp'
    refine ⟨1, true, ?_, ?_, by simp⟩
    · rw [ruletext_Same.l0, if_neg (by omega)]
    · rw [sawmillref44_Same.l0, if_neg (by omega)]
  | cons x suf ih =>
    intro pre suf' pre' hp hp' hpp hss
    cases suf' with
    | nil => simp at hss
    | cons y suf' =>
    have hss' : suf.length = suf'.length := by simpa using hss
    have hlen : l.length = pre.length + 1 + suf.length := by rw [← hp]; simp; omega
    have hlen' : l'.length = pre.length + 1 + suf.length := by rw [← hp']; simp; omega
    have hrd : rd_T24 l (pre.length : Int) = x := by rw [← hp]; exact rd_mid pre x suf
    have hrd' : rd_T24 l' (pre.length : Int) = y := by rw [← hp', hpp]; exact rd_mid pre' y suf'
    obtain ⟨r1, ⟨k1, e1, f1⟩, g1⟩ := IH x (by rw [← hp]; simp) y
    obtain ⟨k2, r2, e2, f2, g2⟩ := ih (pre ++ [x]) suf' (pre' ++ [y]) (by rw [← hp]; simp) (by rw [← hp']; simp) (by simp; omega) hss'
    have hw : wrap64 ((pre.length : Int) + 1) = (pre.length : Int) + 1 := wrap_id (by omega) (by omega)
    have hc : (((pre ++ [x]).length : Nat) : Int) = (pre.length : Int) + 1 := by simp
    rw [hc] at e2 f2
    have E1 := up_le (g := fun k => ruletext_Same.f k x.f0 x.f1 x.f2 x.f3 y.f0 y.f1 y.f2 y.f3) (fun k => ruletext_Same.mono _ _ _ _ _ _ _ _ k) (Nat.le_max_left k1 k2) _ e1
    have F1 := up_le (g := fun k => sawmillref44_Same.f k x.f0 x.f1 x.f2 x.f3 y.f0 y.f1 y.f2 y.f3) (fun k => sawmillref44_Same.mono _ _ _ _ _ _ _ _ k) (Nat.le_max_left k1 k2) _ f1
    have E2 := up_le (g := fun k => ruletext_Same.l0 k (l.length : Int) ((pre.length : Int) + 1) a b c l a' b' c' l') (fun k => (ruletext_Same.mono_l k).2.2 _ _ _ _ _ _ _ _ _ _) (Nat.le_max_right k1 k2) _ e2
    have F2 := up_le (g := fun k => sawmillref44_Same.l0 k ((pre.length : Int) + 1) a b c l a' b' c' l') (fun k => (sawmillref44_Same.mono_l k).2.2 _ _ _ _ _ _ _ _ _) (Nat.le_max_right k1 k2) _ f2
    refine ⟨max k1 k2 + 1, (r1 && r2), ?_, ?_, ?_⟩
    · rw [ruletext_Same.l0, if_pos (by omega), if_pos (by omega), if_pos (by omega), if_pos (by omega), hrd, hrd']
      simp only [E1]
      show (if r1 = true then _ else _) = _
      cases r1
      · rfl
      · rw [if_pos rfl, hw, E2]; rfl
    · rw [sawmillref44_Same.l0, if_pos (by omega), if_pos (by omega), if_pos (by omega), hrd, hrd']
      simp only [F1]
      show (if r1 = true then _ else _) = _
      cases r1
      · rfl
      · rw [if_pos rfl, hw, F2]; rfl
    · rw [Bool.and_eq_true, g1, g2, List.cons.injEq]
theorem wees_mem {m : Nat} : ∀ {l : List S24}, wees m l → ∀ c ∈ l, wee m c
  | [], _, c, hc => by simp at hc
  | x :: xs, h, c, hc => by
    rw [wees] at h
    rcases List.mem_cons.1 hc with rfl | h'
    · exact h.1
    · exact wees_mem h.2 c h'
theorem wee_open {m : Nat} {s : S24} (h : wee m s) : 0 < m ∧ s.f3.length ≤ 20 ∧ s.f2.size ≤ 200 ∧ wees (m - 1) s.f3 := by
  cases s; rw [wee] at h; exact h
/-- Same returns true exactly for equal trees, the code's and the document's. -/
theorem same_is (s : S24) : ∀ m, wee m s → ∀ t, ∃ r, SameIs s t r ∧ (r = true ↔ s = t) := by
  induction s using tree_ind with
  | h s ih =>
  intro m hm t
  obtain ⟨_, hl, _, hw⟩ := wee_open hm
  cases s with
  | mk a b c l =>
  cases t with
  | mk a' b' c' l' =>
  simp only at hl hw ih
  by_cases h0 : a = a'
  case neg =>
    exact ⟨false, ⟨2, by simp only [ruletext_Same.f, if_neg h0, ruletext_Same.j0, if_pos], by simp only [sawmillref44_Same.f, if_neg h0, sawmillref44_Same.j0, if_pos]⟩, by simp; intro h; exact absurd h h0⟩
  by_cases h1 : b = b'
  case neg =>
    exact ⟨false, ⟨2, by simp only [ruletext_Same.f, if_pos h0, if_neg h1, ruletext_Same.j0, if_pos], by simp only [sawmillref44_Same.f, if_pos h0, if_neg h1, sawmillref44_Same.j0, if_pos]⟩, by simp; intro _ h; exact absurd h h1⟩
  by_cases h2 : c.toList = c'.toList
  case neg =>
    exact ⟨false, ⟨2, by simp only [ruletext_Same.f, if_pos h0, if_pos h1, if_neg h2, ruletext_Same.j0, if_pos], by simp only [sawmillref44_Same.f, if_pos h0, if_pos h1, if_neg h2, sawmillref44_Same.j0, if_pos]⟩, by simp; intro _ _ h; exact absurd (h ▸ rfl) h2⟩
  by_cases h3 : l.length = l'.length
  case neg =>
    have h3' : ((l.length : Int) != (l'.length : Int)) = true := by simp; omega
    exact ⟨false, ⟨2, by simp only [ruletext_Same.f, if_pos h0, if_pos h1, if_pos h2, ruletext_Same.j0, if_pos h3'], by simp only [sawmillref44_Same.f, if_pos h0, if_pos h1, if_pos h2, sawmillref44_Same.j0, if_pos h3']⟩, by simp; intro _ _ _ h; exact absurd (h ▸ rfl) h3⟩
  have h3' : ¬ ((l.length : Int) != (l'.length : Int)) = true := by simp; omega
  obtain ⟨k, r, e, f, g⟩ := same_loop a b c a' b' c' l l' (by omega) (fun x hx y => ih x hx (m - 1) (wees_mem hw x hx) y) l [] l' [] rfl rfl rfl h3
  refine ⟨r, ⟨k + 2, ?_, ?_⟩, ?_⟩
  · simp only [ruletext_Same.f, if_pos h0, if_pos h1, if_pos h2, ruletext_Same.j0, if_neg h3']; exact e
  · simp only [sawmillref44_Same.f, if_pos h0, if_pos h1, if_pos h2, sawmillref44_Same.j0, if_neg h3']; exact f
  · rw [g, S24.mk.injEq]
    exact ⟨fun h => ⟨h0, h1, bytes_eq h2, h⟩, fun h => h.2.2.2⟩
end Go.Proofs.YtmnbbhieodcoeaaDoor.Rt
