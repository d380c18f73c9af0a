/-
  Trees: induction; nodes counts them; Same, by the code and by the document, says whether two trees are equal.
-/
import Derived.Test.YtmnbbhieodcoeaaDoorPBasex
import Derived.Lib.Strings
namespace Go.Proofs.YtmnbbhieodcoeaaDoor.Rt
open Go.RowKit Go.Proofs.YtmnbbhieodcoeaaDoorW.PrintWords Go.Proofs.YtmnbbhieodcoeaaDoorW.PrintLast Go.Proofs.YtmnbbhieodcoeaaDoorW.PrintMore
open Go.Proofs.YtmnbbhieodcoeaaDoor.PBase
set_option linter.unusedVariables false
set_option linter.unusedSimpArgs false
theorem tree_ind {P : S24 → Prop} (h : ∀ s : S24, (∀ c ∈ s.f3, P c) → P s) (s : S24) : P s := by
  have key : ∀ n : Nat, ∀ s : S24, SizeOf.sizeOf s < n → P s := by
    intro n
    induction n with
    | zero => intro s hs; omega
    | succ n ih =>
      intro s hs
      refine h s fun c hc => ih c ?_
      have h1 := List.sizeOf_lt_of_mem hc
      have h2 : SizeOf.sizeOf s = 1 + SizeOf.sizeOf s.f0 + SizeOf.sizeOf s.f1 + SizeOf.sizeOf s.f2 + SizeOf.sizeOf s.f3 := by cases s; simp
      omega
  exact key _ s (Nat.lt_succ_self _)
theorem up_le {α : Type} {g : Nat → Option α} (h : ∀ k, LeO (g k) (g (k + 1))) {k k' : Nat} (hk : k ≤ k') : LeO (g k) (g k') := by
  induction hk with
  | refl => exact LeO.refl _
  | step _ ih => exact LeO.trans ih (h _)
mutual
def cnt : S24 → Nat
  | ⟨_, _, _, l⟩ => 1 + cnts l
def cnts : List S24 → Nat
  | [] => 0
  | x :: xs => cnt x + cnts xs
end
mutual
def wee : Nat → S24 → Prop
  | m, ⟨_, _, s, l⟩ => 0 < m ∧ l.length ≤ 20 ∧ s.size ≤ 200 ∧ wees (m - 1) l
def wees : Nat → List S24 → Prop
  | _, [] => True
  | m, x :: xs => wee m x ∧ wees m xs
end
theorem rd_mid (pre : List S24) (c : S24) (suf : List S24) : rd_T24 (pre ++ c :: suf) (pre.length : Int) = c := by
  simp [rd_T24]
theorem wrap_id {n : Int} (h0 : -9223372036854775808 ≤ n) (h1 : n ≤ 9223372036854775807) : wrap64 n = n := by
  unfold wrap64; omega
theorem nodes_loop (d : Int) (a b : Int) (s : ByteArray) (M : Int) (m : Nat) (hM : 0 ≤ M) (hM' : M ≤ 1000000) (hd0 : 0 ≤ d) (hd : d ≤ 40) (l : List S24) (hl : l.length ≤ 20)
    (IH : ∀ c ∈ l, ∃ k r, sawmilllaw44_nodes.f k c.f0 c.f1 c.f2 c.f3 (d + 1) = some r ∧ 1 ≤ r ∧ r ≤ M ∧ (r ≤ 600 → r = cnt c ∧ wee m c)) :
    ∀ (suf pre : List S24), pre ++ suf = l → ∀ n : Int, 1 ≤ n → n ≤ 600 + M → ∃ k r, sawmilllaw44_nodes.l0 k d n pre.length a b s l = some r ∧ 1 ≤ r ∧ r ≤ 600 + M ∧ (r ≤ 600 → r = n + cnts suf ∧ wees m suf) := by
  intro suf
  induction suf with
  | nil =>
    intro pre hp n h1 h2
    refine ⟨1, n, ?_, h1, h2, fun _ => ⟨by simp [cnts], trivial⟩⟩
    rw [sawmilllaw44_nodes.l0, if_neg]
    simp at hp
    subst hp
    omega
  | cons c suf ih =>
    intro pre hp n h1 h2
    by_cases hn : n ≤ 600
    · obtain ⟨k1, r1, e1, p1, q1, g1⟩ := IH c (by rw [← hp]; simp)
      obtain ⟨k2, r2, e2, p2, q2, g2⟩ := ih (pre ++ [c]) (by rw [← hp]; simp) (n + r1) (by omega) (by omega)
      refine ⟨max k1 k2 + 1, r2, ?_, p2, q2, fun h => ?_⟩
      · have hlen : l.length = pre.length + 1 + suf.length := by rw [← hp]; simp; omega
        have hrd : rd_T24 l (pre.length : Int) = c := by rw [← hp]; exact rd_mid pre c suf
        rw [sawmilllaw44_nodes.l0, if_pos (by omega), if_pos hn, if_pos (by omega), hrd, wrap_id (by omega) (by omega)]
        rw [up_le (g := fun k => sawmilllaw44_nodes.f k c.f0 c.f1 c.f2 c.f3 (d + 1)) (fun k => sawmilllaw44_nodes.mono _ _ _ _ _ k) (Nat.le_max_left k1 k2) _ e1]
        show sawmilllaw44_nodes.l0 (max k1 k2) d (wrap64 (n + r1)) (wrap64 (pre.length + 1)) a b s l = some r2
        rw [wrap_id (by omega) (by omega), wrap_id (by omega) (by omega)]
        have e2' : sawmilllaw44_nodes.l0 k2 d (n + r1) ((pre.length : Int) + 1) a b s l = some r2 := by
          have : (((pre ++ [c]).length : Nat) : Int) = (pre.length : Int) + 1 := by simp
          rw [← this]; exact e2
        exact up_le (g := fun k => sawmilllaw44_nodes.l0 k d (n + r1) ((pre.length : Int) + 1) a b s l) (fun k => (sawmilllaw44_nodes.mono_l k).2.2 _ _ _ _ _ _ _) (Nat.le_max_right k1 k2) _ e2'
      · obtain ⟨h3, h4⟩ := g2 h
        have : (0 : Int) ≤ cnts suf := by omega
        obtain ⟨h5, h6⟩ := g1 (by omega)
        refine ⟨?_, ?_⟩
        · rw [h3, h5]; simp [cnts]; omega
        · rw [wees]; exact ⟨h6, h4⟩
    · refine ⟨1, n, ?_, h1, h2, fun h => absurd h hn⟩
      have hlen : l.length = pre.length + 1 + suf.length := by rw [← hp]; simp; omega
      rw [sawmilllaw44_nodes.l0, if_pos (by omega), if_neg hn]
theorem nodes_any (s : S24) : ∀ d : Int, 1 ≤ d → d ≤ 41 → ∃ k r, sawmilllaw44_nodes.f k s.f0 s.f1 s.f2 s.f3 d = some r ∧ 1 ≤ r ∧ r ≤ 1000 + 600 * (41 - d) ∧ (r ≤ 600 → r = cnt s ∧ wee (41 - d).toNat s) := by
  induction s using tree_ind with
  | h s ih =>
  intro d h1 h2
  by_cases hd : d > 40
  · refine ⟨2, 1000, ?_, by omega, by omega, fun h => by omega⟩
    rw [sawmilllaw44_nodes.f, if_pos hd, sawmilllaw44_nodes.j0, if_pos rfl]
  by_cases hl : (s.f3.length : Int) > 20
  · refine ⟨2, 1000, ?_, by omega, by omega, fun h => by omega⟩
    rw [sawmilllaw44_nodes.f, if_neg hd, if_pos hl, sawmilllaw44_nodes.j0, if_pos rfl]
  by_cases hs : (s.f2.size : Int) > 200
  · refine ⟨2, 1000, ?_, by omega, by omega, fun h => by omega⟩
    rw [sawmilllaw44_nodes.f, if_neg hd, if_neg hl, sawmilllaw44_nodes.j0, if_pos (by simpa using hs)]
  obtain ⟨k, r, e, p, q, g⟩ := nodes_loop d s.f0 s.f1 s.f2 (1000 + 600 * (40 - d)) (40 - d).toNat (by omega) (by omega) (by omega) (by omega) s.f3 (by omega)
    (fun c hc => by
      obtain ⟨k, r, e, p, q, g⟩ := ih c hc (d + 1) (by omega) (by omega)
      exact ⟨k, r, e, p, by omega, fun h => by have := g h; rw [show (41 - (d + 1)).toNat = (40 - d).toNat by omega] at this; exact this⟩) s.f3 [] rfl 1 (by omega) (by omega)
  refine ⟨k + 2, r, ?_, p, by omega, fun h => ?_⟩
  · rw [sawmilllaw44_nodes.f, if_neg hd, if_neg hl, sawmilllaw44_nodes.j0, if_neg (by simpa using hs)]
    exact e
  · obtain ⟨h3, h4⟩ := g h
    cases s with
    | mk a b t l =>
      refine ⟨by rw [cnt]; simpa using h3, ?_⟩
      rw [wee]
      simp only at hl hs h4
      refine ⟨by omega, by omega, by omega, ?_⟩
      rw [show (41 - d).toNat - 1 = (40 - d).toNat by omega]
      exact h4
theorem bytes_eq {a b : ByteArray} (h : a.toList = b.toList) : a = b := by
  rw [Lib.toList_data, Lib.toList_data] at h
  exact ByteArray.ext (Array.toList_inj.1 h)
def SameIs (s t : S24) (r : Bool) : Prop := ∃ k, ruletext_Same.f k s.f0 s.f1 s.f2 s.f3 t.f0 t.f1 t.f2 t.f3 = some r ∧ sawmillref44_Same.f k s.f0 s.f1 s.f2 s.f3 t.f0 t.f1 t.f2 t.f3 = some r
theorem same_loop (a b : Int) (c : ByteArray) (a' b' : Int) (c' : ByteArray) (l l' : List S24) (hl : l.length ≤ 9223372036854775807)
    (IH : ∀ x ∈ l, ∀ y, ∃ r, SameIs x y r ∧ (r = true ↔ x = y)) :
    ∀ (suf pre suf' pre' : List S24), pre ++ suf = l → pre' ++ suf' = l' → pre.length = pre'.length → suf.length = suf'.length → ∃ k r, ruletext_Same.l0 k (l.length : Int) pre.length a b c l a' b' c' l' = some r ∧ sawmillref44_Same.l0 k pre.length a b c l a' b' c' l' = some r ∧ (r = true ↔ suf = suf') := by
  intro suf
  induction suf with
  | nil =>
    intro pre suf' pre' hp hp' hpp hss
    obtain rfl : suf' = [] := by cases suf'; rfl; simp at hss
    simp at hp hp'
    subst hp hp'
    refine ⟨1, true, ?_, ?_, by simp⟩
    · rw [ruletext_Same.l0, if_neg (by omega)]
    · rw [sawmillref44_Same.l0, if_neg (by omega)]
  | cons x suf ih =>
    intro pre suf' pre' hp hp' hpp hss
    cases suf' with
    | nil => simp at hss
    | cons y suf' =>
    have hss' : suf.length = suf'.length := by simpa using hss
    have hlen : l.length = pre.length + 1 + suf.length := by rw [← hp]; simp; omega
    have hlen' : l'.length = pre.length + 1 + suf.length := by rw [← hp']; simp; omega
    have hrd : rd_T24 l (pre.length : Int) = x := by rw [← hp]; exact rd_mid pre x suf
    have hrd' : rd_T24 l' (pre.length : Int) = y := by rw [← hp', hpp]; exact rd_mid pre' y suf'
    obtain ⟨r1, ⟨k1, e1, f1⟩, g1⟩ := IH x (by rw [← hp]; simp) y
    obtain ⟨k2, r2, e2, f2, g2⟩ := ih (pre ++ [x]) suf' (pre' ++ [y]) (by rw [← hp]; simp) (by rw [← hp']; simp) (by simp; omega) hss'
    have hw : wrap64 ((pre.length : Int) + 1) = (pre.length : Int) + 1 := wrap_id (by omega) (by omega)
    have hc : (((pre ++ [x]).length : Nat) : Int) = (pre.length : Int) + 1 := by simp
    rw [hc] at e2 f2
    have E1 := up_le (g := fun k => ruletext_Same.f k x.f0 x.f1 x.f2 x.f3 y.f0 y.f1 y.f2 y.f3) (fun k => ruletext_Same.mono _ _ _ _ _ _ _ _ k) (Nat.le_max_left k1 k2) _ e1
    have F1 := up_le (g := fun k => sawmillref44_Same.f k x.f0 x.f1 x.f2 x.f3 y.f0 y.f1 y.f2 y.f3) (fun k => sawmillref44_Same.mono _ _ _ _ _ _ _ _ k) (Nat.le_max_left k1 k2) _ f1
    have E2 := up_le (g := fun k => ruletext_Same.l0 k (l.length : Int) ((pre.length : Int) + 1) a b c l a' b' c' l') (fun k => (ruletext_Same.mono_l k).2.2 _ _ _ _ _ _ _ _ _ _) (Nat.le_max_right k1 k2) _ e2
    have F2 := up_le (g := fun k => sawmillref44_Same.l0 k ((pre.length : Int) + 1) a b c l a' b' c' l') (fun k => (sawmillref44_Same.mono_l k).2.2 _ _ _ _ _ _ _ _ _) (Nat.le_max_right k1 k2) _ f2
    refine ⟨max k1 k2 + 1, (r1 && r2), ?_, ?_, ?_⟩
    · rw [ruletext_Same.l0, if_pos (by omega), if_pos (by omega), if_pos (by omega), if_pos (by omega), hrd, hrd']
      simp only [E1]
      show (if r1 = true then _ else _) = _
      cases r1
      · rfl
      · rw [if_pos rfl, hw, E2]; rfl
    · rw [sawmillref44_Same.l0, if_pos (by omega), if_pos (by omega), if_pos (by omega), hrd, hrd']
      simp only [F1]
      show (if r1 = true then _ else _) = _
      cases r1
      · rfl
      · rw [if_pos rfl, hw, F2]; rfl
    · rw [Bool.and_eq_true, g1, g2, List.cons.injEq]
theorem wees_mem {m : Nat} : ∀ {l : List S24}, wees m l → ∀ c ∈ l, wee m c
  | [], _, c, hc => by simp at hc
  | x :: xs, h, c, hc => by
    rw [wees] at h
    rcases List.mem_cons.1 hc with rfl | h'
    · exact h.1
    · exact wees_mem h.2 c h'
theorem wee_open {m : Nat} {s : S24} (h : wee m s) : 0 < m ∧ s.f3.length ≤ 20 ∧ s.f2.size ≤ 200 ∧ wees (m - 1) s.f3 := by
  cases s; rw [wee] at h; exact h
theorem same_is (s : S24) : ∀ m, wee m s → ∀ t, ∃ r, SameIs s t r ∧ (r = true ↔ s = t) := by
  induction s using tree_ind with
  | h s ih =>
  intro m hm t
  obtain ⟨_, hl, _, hw⟩ := wee_open hm
  cases s with
  | mk a b c l =>
  cases t with
  | mk a' b' c' l' =>
  simp only at hl hw ih
  by_cases h0 : a = a'
  case neg =>
    exact ⟨false, ⟨2, by simp only [ruletext_Same.f, if_neg h0, ruletext_Same.j0, if_pos], by simp only [sawmillref44_Same.f, if_neg h0, sawmillref44_Same.j0, if_pos]⟩, by simp; intro h; exact absurd h h0⟩
  by_cases h1 : b = b'
  case neg =>
    exact ⟨false, ⟨2, by simp only [ruletext_Same.f, if_pos h0, if_neg h1, ruletext_Same.j0, if_pos], by simp only [sawmillref44_Same.f, if_pos h0, if_neg h1, sawmillref44_Same.j0, if_pos]⟩, by simp; intro _ h; exact absurd h h1⟩
  by_cases h2 : c.toList = c'.toList
  case neg =>
    exact ⟨false, ⟨2, by simp only [ruletext_Same.f, if_pos h0, if_pos h1, if_neg h2, ruletext_Same.j0, if_pos], by simp only [sawmillref44_Same.f, if_pos h0, if_pos h1, if_neg h2, sawmillref44_Same.j0, if_pos]⟩, by simp; intro _ _ h; exact absurd (h ▸ rfl) h2⟩
  by_cases h3 : l.length = l'.length
  case neg =>
    have h3' : ((l.length : Int) != (l'.length : Int)) = true := by simp; omega
    exact ⟨false, ⟨2, by simp only [ruletext_Same.f, if_pos h0, if_pos h1, if_pos h2, ruletext_Same.j0, if_pos h3'], by simp only [sawmillref44_Same.f, if_pos h0, if_pos h1, if_pos h2, sawmillref44_Same.j0, if_pos h3']⟩, by simp; intro _ _ _ h; exact absurd (h ▸ rfl) h3⟩
  have h3' : ¬ ((l.length : Int) != (l'.length : Int)) = true := by simp; omega
  obtain ⟨k, r, e, f, g⟩ := same_loop a b c a' b' c' l l' (by omega) (fun x hx y => ih x hx (m - 1) (wees_mem hw x hx) y) l [] l' [] rfl rfl rfl h3
  refine ⟨r, ⟨k + 2, ?_, ?_⟩, ?_⟩
  · simp only [ruletext_Same.f, if_pos h0, if_pos h1, if_pos h2, ruletext_Same.j0, if_neg h3']; exact e
  · simp only [sawmillref44_Same.f, if_pos h0, if_pos h1, if_pos h2, sawmillref44_Same.j0, if_neg h3']; exact f
  · rw [g, S24.mk.injEq]
    exact ⟨fun h => ⟨h0, h1, bytes_eq h2, h⟩, fun h => h.2.2.2⟩
end Go.Proofs.YtmnbbhieodcoeaaDoor.Rt

namespace Go.Proofs.YtmnbbhieodcoeaaDoor.Rt
open Go.RowKit Go.Proofs.YtmnbbhieodcoeaaDoorW.PrintWords Go.Proofs.YtmnbbhieodcoeaaDoorW.PrintLast Go.Proofs.YtmnbbhieodcoeaaDoorW.PrintMore
open Go.Proofs.YtmnbbhieodcoeaaDoor.PBase
set_option linter.unusedVariables false
set_option linter.unusedSimpArgs false
theorem blk_topT (W : World) (o : Obj) {k : Nat} (hk : k = W.heap.size) : (W.alloc o).heap[k]? = some o := hk ▸ blk_new W o
theorem size_allocT (W : World) (o : Obj) : (W.alloc o).heap.size = W.heap.size + 1 := by first | rfl | (simp; done) | (unfold World.alloc; simp)
structure TC (W : World) (x : S24) (A : Option Addr) (c : Nat) : Prop where
  len : x.f3.length ≤ c
  row : Kd.C k24 W A x.f3.length x.f3
theorem TC.step {W W' : World} {x : S24} {A : Option Addr} {c : Nat} (h : TC W x A c) (hb : Below W.heap.size W W') : TC W' x A c := ⟨h.len, Kd.C_below h.row hb⟩
structure TV (W : World) (B : Nat) (x : S24) (A : Option Addr) (c : Nat) : Prop where
  blk : W.heap[B]? = some (.cells #[.int .i64 x.f0, .int .i64 x.f1, .string x.f2, .slice A x.f3.length c] 24 (0, 0))
  tc : TC W x A c
theorem TV.step {W W' : World} {B : Nat} {x : S24} {A : Option Addr} {c : Nat} (h : TV W B x A c) (hb : Below W.heap.size W W') : TV W' B x A c := ⟨blk_below h.blk hb, h.tc.step hb⟩
theorem TV.cs {W : World} {B : Nat} {x : S24} {A : Option Addr} {c : Nat} (h : TV W B x A c) : W.cell? ⟨B, 0, none⟩ = some (.int .i64 x.f0) ∧ W.cell? ⟨B, 1, none⟩ = some (.int .i64 x.f1) ∧ W.cell? ⟨B, 2, none⟩ = some (.string x.f2) ∧ W.cell? ⟨B, 3, none⟩ = some (.slice A x.f3.length c) :=
  ⟨(blk_cell h.blk 0).trans rfl, (blk_cell h.blk 1).trans rfl, (blk_cell h.blk 2).trans rfl, (blk_cell h.blk 3).trans rfl⟩
theorem row_at {W : World} {A : Option Addr} {l : List S24} (h : Kd.C k24 W A l.length l) (i : Nat) (a : S24) (hi : l[i]? = some a) : ∃ ad A3 c3, A = some ad ∧ W.cell? (ad.add (i * 4)) = some (.int .i64 a.f0) ∧ W.cell? ⟨(ad.add (i * 4)).block, (ad.add (i * 4)).off + 1, none⟩ = some (.int .i64 a.f1) ∧ W.cell? ⟨(ad.add (i * 4)).block, (ad.add (i * 4)).off + 2, none⟩ = some (.string a.f2) ∧ W.cell? ⟨(ad.add (i * 4)).block, (ad.add (i * 4)).off + 3, none⟩ = some (.slice A3 a.f3.length c3) ∧ TC W a A3 c3 := by
  have hlt : i < l.length := (List.getElem?_eq_some_iff.1 hi).1
  obtain ⟨ad, A3, c3, e, h0, h1, h2, h3, hl, hC⟩ := at_T24 h (i : Int) (by omega) (by omega)
  have hr : rd_T24 l (i : Int) = a := by
    unfold rd_T24
    rw [Int.toNat_natCast, List.getD_eq_getElem?_getD, hi]; rfl
  rw [hr, Int.toNat_natCast] at h0 h1 h2 h3
  rw [hr] at hl hC
  exact ⟨ad, A3, c3, e, h0, h1, h2, h3, hl, hC⟩
end Go.Proofs.YtmnbbhieodcoeaaDoor.Rt

namespace Go.Proofs.YtmnbbhieodcoeaaDoor.Rt
open Go.RowKit Go.Proofs.YtmnbbhieodcoeaaDoorW.PrintWords Go.Proofs.YtmnbbhieodcoeaaDoorW.PrintLast Go.Proofs.YtmnbbhieodcoeaaDoorW.PrintMore
open Go.Proofs.YtmnbbhieodcoeaaDoor.PBase
set_option linter.unusedVariables false
set_option linter.unusedSimpArgs false
def SameC (f : FuncId) (x y : S24) : Prop := ∀ (w : World) (A B : Option Addr) (c d : Nat) (r : Bool), TC w x A c → TC w y B d → (r = true ↔ x = y) →
  Calls Tryd.prog f #[.agg #[.int .i64 x.f0, .int .i64 x.f1, .string x.f2, .slice A x.f3.length c], .agg #[.int .i64 y.f0, .int .i64 y.f1, .string y.f2, .slice B y.f3.length d]] w fun e w' => e = .returned (.bool r) ∧ Below w.heap.size w w'
theorem tc_drew {W : World} {x : S24} {A : Option Addr} {c : Nat} (h : TC W x A c) : TC W.drew x A c := h.step (below_drew1 (Below.refl _ _))
theorem drew_step {W W' : World} (h : Below W.drew.heap.size W.drew W') : Below W.heap.size W W' := below_step (below_drew1 (Below.refl _ _)) h
theorem same_q {f : FuncId} {x y : S24} {q : Bool} (h : SameC f x y) (hq : q = true ↔ x = y) (w : World) (A B : Option Addr) (c d : Nat) (hx : TC w x A c) (hy : TC w y B d) : Calls Tryd.prog f #[.agg #[.int .i64 x.f0, .int .i64 x.f1, .string x.f2, .slice A x.f3.length c], .agg #[.int .i64 y.f0, .int .i64 y.f1, .string y.f2, .slice B y.f3.length d]] w fun e w' => e = .returned (.bool q) ∧ Below w.heap.size w w' := h w A B c d q hx hy hq
theorem bool_of (p : Prop) : ∃ b : Bool, (b = true ↔ p) := by
  by_cases h : p
  · exact ⟨true, by simp [h]⟩
  · exact ⟨false, by simp [h]⟩
def TwoC (W : World) (G : Nat) (ad bd : Addr) (m n c d : Nat) (k : Nat) (a b : S24) (A3 A4 : Option Addr) (c3 c4 : Nat) : Prop :=
  W.cell? ⟨G, 3, none⟩ = some (.slice (some ad) m c) ∧ W.cell? ⟨G + 1, 3, none⟩ = some (.slice (some bd) n d) ∧
  W.cell? (ad.add (k * 4)) = some (.int .i64 a.f0) ∧ W.cell? ⟨(ad.add (k * 4)).block, (ad.add (k * 4)).off + 1, none⟩ = some (.int .i64 a.f1) ∧ W.cell? ⟨(ad.add (k * 4)).block, (ad.add (k * 4)).off + 2, none⟩ = some (.string a.f2) ∧ W.cell? ⟨(ad.add (k * 4)).block, (ad.add (k * 4)).off + 3, none⟩ = some (.slice A3 a.f3.length c3) ∧
  W.cell? (bd.add (k * 4)) = some (.int .i64 b.f0) ∧ W.cell? ⟨(bd.add (k * 4)).block, (bd.add (k * 4)).off + 1, none⟩ = some (.int .i64 b.f1) ∧ W.cell? ⟨(bd.add (k * 4)).block, (bd.add (k * 4)).off + 2, none⟩ = some (.string b.f2) ∧ W.cell? ⟨(bd.add (k * 4)).block, (bd.add (k * 4)).off + 3, none⟩ = some (.slice A4 b.f3.length c4)
theorem TwoC.step {W W' : World} {G : Nat} {ad bd : Addr} {m n c d k : Nat} {a b : S24} {A3 A4 : Option Addr} {c3 c4 : Nat} (h : TwoC W G ad bd m n c d k a b A3 A4 c3 c4) (hb : Below W.heap.size W W') : TwoC W' G ad bd m n c d k a b A3 A4 c3 c4 := by
  obtain ⟨h0, h1, h2, h3, h4, h5, h6, h7, h8, h9⟩ := h
  exact ⟨pw_cell_below hb h0, pw_cell_below hb h1, pw_cell_below hb h2, pw_cell_below hb h3, pw_cell_below hb h4, pw_cell_below hb h5, pw_cell_below hb h6, pw_cell_below hb h7, pw_cell_below hb h8, pw_cell_below hb h9⟩
set_option maxHeartbeats 8000000 in
set_option maxRecDepth 100000 in
theorem same20 (x : S24) : ∀ y, SameC 20 x y := by
  induction x using tree_ind with
  | h x ih =>
  intro y w A B c d r hx hy hr
  have W0B : Below w.heap.size w ((w.alloc (.cells #[.int .i64 x.f0, .int .i64 x.f1, .string x.f2, .slice A x.f3.length c] 24 (0, 0))).alloc (.cells #[.int .i64 y.f0, .int .i64 y.f1, .string y.f2, .slice B y.f3.length d] 24 (0, 0))) := below_alloc (below_alloc (Below.refl _ _) _) _
  have S0 : Aside0 (TV _ w.heap.size x A c) := ⟨⟨blk_alloc (blk_new w _) _, hx.step W0B⟩⟩
  have T0 : Aside0 (TV _ (w.heap.size + 1) y B d) := ⟨⟨blk_topT _ _ (by rw [size_allocT]), hy.step W0B⟩⟩
  have BW0 := Aside0.mk W0B
  clear W0B
  obtain ⟨s0, s1, s2, s3⟩ := S0.out.cs
  obtain ⟨t0, t1, t2, t3⟩ := T0.out.cs
  by_cases n0 : x.f0 = y.f0
  case neg =>
    obtain rfl : r = false := by cases r; rfl; exact absurd (hr.1 rfl) (fun e => n0 (e ▸ rfl))
    have e0 : (x.f0 == y.f0) = false := by simpa using n0
    have e1 : (x.f0 != y.f0) = true := by simpa using n0
    have e2 : decide (x.f0 = y.f0) = false := by simpa using n0
    clear hr hx hy
    go_enter Tryd.func20, Tryd.ntmps20
    go_wp2_with fail
    go_ret
    exact ⟨rfl, by repeat (first | exact Below.refl _ _ | apply below_alloc | apply pw_below_drewN | apply below_drew1)⟩
  have n0a : (x.f0 == y.f0) = true := by simpa using n0
  have n0b : (x.f0 != y.f0) = false := by simpa using n0
  have n0c : decide (x.f0 = y.f0) = true := by simpa using n0
  have N0' := Aside0.mk n0
  clear n0
  by_cases n1 : x.f1 = y.f1
  case neg =>
    obtain rfl : r = false := by cases r; rfl; exact absurd (hr.1 rfl) (fun e => n1 (e ▸ rfl))
    have e0 : (x.f1 == y.f1) = false := by simpa using n1
    have e1 : (x.f1 != y.f1) = true := by simpa using n1
    have e2 : decide (x.f1 = y.f1) = false := by simpa using n1
    clear hr hx hy
    go_enter Tryd.func20, Tryd.ntmps20
    go_wp2_with fail
    go_ret
    exact ⟨rfl, by repeat (first | exact Below.refl _ _ | apply below_alloc | apply pw_below_drewN | apply below_drew1)⟩
  have n1a : (x.f1 == y.f1) = true := by simpa using n1
  have n1b : (x.f1 != y.f1) = false := by simpa using n1
  have n1c : decide (x.f1 = y.f1) = true := by simpa using n1
  have N1' := Aside0.mk n1
  clear n1
  by_cases n2 : x.f2 = y.f2
  case neg =>
    obtain rfl : r = false := by cases r; rfl; exact absurd (hr.1 rfl) (fun e => n2 (e ▸ rfl))
    have e3 : ¬ x.f2.toList = y.f2.toList := fun e => n2 (bytes_eq e)
    have e4 : (x.f2.toList == y.f2.toList) = false := by simpa using e3
    have e5 : (x.f2.toList != y.f2.toList) = true := by simpa using e3
    have e6 : decide (x.f2.toList = y.f2.toList) = false := by simpa using e3
    clear hr hx hy
    go_enter Tryd.func20, Tryd.ntmps20
    go_wp2_with fail
    go_ret
    exact ⟨rfl, by repeat (first | exact Below.refl _ _ | apply below_alloc | apply pw_below_drewN | apply below_drew1)⟩
  have n2d : (x.f2.toList == y.f2.toList) = true := by rw [n2]; simp
  have n2e : (x.f2.toList != y.f2.toList) = false := by rw [n2]; simp
  have n2f : decide (x.f2.toList = y.f2.toList) = true := by rw [n2]; simp
  have N2' := Aside0.mk n2
  clear n2
  by_cases n3 : x.f3.length = y.f3.length
  case neg =>
    have m3 : ¬ (x.f3.length : Int) = (y.f3.length : Int) := by omega
    have e0 : ((x.f3.length : Int) == (y.f3.length : Int)) = false := by simpa using m3
    have e1 : ((x.f3.length : Int) != (y.f3.length : Int)) = true := by simpa using m3
    have e2 : decide ((x.f3.length : Int) = (y.f3.length : Int)) = false := by simpa using m3
    obtain rfl : r = false := by cases r; rfl; exact absurd (hr.1 rfl) (fun e => n3 (e ▸ rfl))
    clear hr hx hy
    go_enter Tryd.func20, Tryd.ntmps20
    go_wp2_with fail
    go_ret
    exact ⟨rfl, by repeat (first | exact Below.refl _ _ | apply below_alloc | apply pw_below_drewN | apply below_drew1)⟩
  have m3 : (x.f3.length : Int) = (y.f3.length : Int) := by omega
  have n3a : ((x.f3.length : Int) == (y.f3.length : Int)) = true := by simpa using m3
  have n3b : ((x.f3.length : Int) != (y.f3.length : Int)) = false := by simpa using m3
  have n3c : decide ((x.f3.length : Int) = (y.f3.length : Int)) = true := by simpa using m3
  have N3 := Aside0.mk n3
  have hmax : x.f3.length ≤ 9223372036854775807 := hx.row.2.1
  have HR : Aside0 (r = true ↔ x.f3.drop 0 = y.f3.drop 0) := ⟨by
    rw [hr, List.drop_zero, List.drop_zero]
    refine ⟨fun e => e ▸ rfl, fun e => ?_⟩
    have h0 := N0'.out
    have h1 := N1'.out
    have h2 := N2'.out
    cases x
    cases y
    simp only at h0 h1 h2 e
    rw [h0, h1, h2, e]⟩
  clear hr hx hy n3 m3 N0' N1' N2'
  go_enter Tryd.func20, Tryd.ntmps20
  go_wp2_with fail
  go_loopw [37] (fun i wr => ∃ k : Nat, k ≤ x.f3.length ∧ i = .int .i64 k ∧ Aside0 (r = true ↔ x.f3.drop k = y.f3.drop k) ∧ Aside0 (TV wr w.heap.size x A c) ∧ Aside0 (TV wr (w.heap.size + 1) y B d) ∧ Aside0 (Below w.heap.size w wr)) (fun i _ => x.f3.length - (intOf i).toNat)
  case atStart => exact ⟨0, Nat.zero_le _, rfl, HR, S0, T0, BW0⟩
  case round =>
    obtain ⟨k, hk, rfl, HK, S1, T1, B1⟩ := hrel
    clear S0 T0 BW0 HR s0 s1 s2 s3 t0 t1 t2 t3
    obtain ⟨s0, s1, s2, s3⟩ := S1.out.cs
    obtain ⟨t0, t1, t2, t3⟩ := T1.out.cs
    by_cases hlt : k < x.f3.length
    · obtain ⟨a, hxa⟩ : ∃ a, x.f3[k]? = some a := ⟨_, List.getElem?_eq_getElem hlt⟩
      obtain ⟨b, hyb⟩ : ∃ b, y.f3[k]? = some b := ⟨_, List.getElem?_eq_getElem (by have := N3.out; omega)⟩
      obtain ⟨ad, A3, c3, eA, p0, p1, p2, p3, hCa⟩ := row_at S1.out.tc.row k a hxa
      obtain ⟨bd, A4, c4, eB, q0, q1, q2, q3, hCb⟩ := row_at T1.out.tc.row k b hyb
      subst eA
      subst eB
      have CA := Aside0.mk hCa
      have CB := Aside0.mk hCb
      have CC : Aside0 (TwoC _ w.heap.size ad bd x.f3.length y.f3.length c d k a b A3 A4 c3 c4) := ⟨⟨s3, t3, p0, p1, p2, p3, q0, q1, q2, q3⟩⟩
      obtain ⟨q, hq⟩ := bool_of (a = b)
      have IH := Aside0.mk (same_q (ih a (List.mem_of_getElem? hxa) b) hq)
      have hdx : x.f3.drop k = a :: x.f3.drop (k + 1) := by rw [List.drop_eq_getElem_cons hlt]; rw [List.getElem?_eq_getElem hlt] at hxa; rw [Option.some.inj hxa]
      have hdy : y.f3.drop k = b :: y.f3.drop (k + 1) := by rw [List.drop_eq_getElem_cons (show k < y.f3.length by have := N3.out; omega)]; rw [List.getElem?_eq_getElem (show k < y.f3.length by have := N3.out; omega)] at hyb; rw [Option.some.inj hyb]
      have HD := HK.out
      rw [hdx, hdy, List.cons.injEq, ← hq] at HD
      have HD' := Aside0.mk HD
      have hlt2 : k < y.f3.length := by have := N3.out; omega
      have i0 : (0 : Int) ≤ (k : Int) := by omega
      have i1 : (k : Int) < (x.f3.length : Int) := by omega
      have i2 : (k : Int) < (y.f3.length : Int) := by omega
      clear hCa hCb hxa hyb hdx hdy HD hq HK
      cases q with
      | false =>
        obtain rfl : r = false := by cases r; rfl; exact absurd (HD'.out.1 rfl).1 (by decide)
        clear HD'
        go_wp2_with fail
        go_region_held3 (fun W => W.cell? ⟨w.heap.size, 3, none⟩ = some (.slice (some ad) x.f3.length c) ∧ W.cell? ⟨w.heap.size + 1, 3, none⟩ = some (.slice (some bd) y.f3.length d) ∧ W.cell? (ad.add (k * 4)) = some (.int .i64 a.f0) ∧ W.cell? ⟨(ad.add (k * 4)).block, (ad.add (k * 4)).off + 1, none⟩ = some (.int .i64 a.f1) ∧ W.cell? ⟨(ad.add (k * 4)).block, (ad.add (k * 4)).off + 2, none⟩ = some (.string a.f2) ∧ W.cell? ⟨(ad.add (k * 4)).block, (ad.add (k * 4)).off + 3, none⟩ = some (.slice A3 a.f3.length c3) ∧ W.cell? (bd.add (k * 4)) = some (.int .i64 b.f0) ∧ W.cell? ⟨(bd.add (k * 4)).block, (bd.add (k * 4)).off + 1, none⟩ = some (.int .i64 b.f1) ∧ W.cell? ⟨(bd.add (k * 4)).block, (bd.add (k * 4)).off + 2, none⟩ = some (.string b.f2) ∧ W.cell? ⟨(bd.add (k * 4)).block, (bd.add (k * 4)).off + 3, none⟩ = some (.slice A4 b.f3.length c4))
          (first | (refine TwoC.step CC.out ?_; (repeat (first | exact D50.out | exact Below.refl _ _ | apply below_alloc | apply pw_below_drewN | apply below_drew1)); done) | fail)
          (first | (go_at_call 20; (with_reducible refine (IH.out _ A3 A4 c3 c4 (tc_drew CA.out) (tc_drew CB.out)).mono ?_); rintro _ W50 ⟨rfl, hb⟩; have D50 := Aside0.mk (drew_step hb); clear hb) | fail)
        go_wp2_with fail
        go_ret
        exact ⟨rfl, below_step B1.out D50.out⟩
      | true =>
        have HN : Aside0 (r = true ↔ x.f3.drop (k + 1) = y.f3.drop (k + 1)) := ⟨by rw [HD'.out]; simp⟩
        clear HD'
        go_wp2_with fail
        go_region_held3 (fun W => W.cell? ⟨w.heap.size, 3, none⟩ = some (.slice (some ad) x.f3.length c) ∧ W.cell? ⟨w.heap.size + 1, 3, none⟩ = some (.slice (some bd) y.f3.length d) ∧ W.cell? (ad.add (k * 4)) = some (.int .i64 a.f0) ∧ W.cell? ⟨(ad.add (k * 4)).block, (ad.add (k * 4)).off + 1, none⟩ = some (.int .i64 a.f1) ∧ W.cell? ⟨(ad.add (k * 4)).block, (ad.add (k * 4)).off + 2, none⟩ = some (.string a.f2) ∧ W.cell? ⟨(ad.add (k * 4)).block, (ad.add (k * 4)).off + 3, none⟩ = some (.slice A3 a.f3.length c3) ∧ W.cell? (bd.add (k * 4)) = some (.int .i64 b.f0) ∧ W.cell? ⟨(bd.add (k * 4)).block, (bd.add (k * 4)).off + 1, none⟩ = some (.int .i64 b.f1) ∧ W.cell? ⟨(bd.add (k * 4)).block, (bd.add (k * 4)).off + 2, none⟩ = some (.string b.f2) ∧ W.cell? ⟨(bd.add (k * 4)).block, (bd.add (k * 4)).off + 3, none⟩ = some (.slice A4 b.f3.length c4))
          (first | (refine TwoC.step CC.out ?_; (repeat (first | exact D50.out | exact Below.refl _ _ | apply below_alloc | apply pw_below_drewN | apply below_drew1)); done) | fail)
          (first | (go_at_call 20; (with_reducible refine (IH.out _ A3 A4 c3 c4 (tc_drew CA.out) (tc_drew CB.out)).mono ?_); rintro _ W50 ⟨rfl, hb⟩; have D50 := Aside0.mk (drew_step hb); clear hb) | fail)
        go_wp2_with fail
        go_roundw
        case rel => exact ⟨k + 1, by omega, by go_num, HN, ⟨S1.out.step D50.out⟩, ⟨T1.out.step D50.out⟩, ⟨below_step B1.out D50.out⟩⟩
        case measure => simp [intOf]; omega
    · have hr1 : r = true := HK.out.2 (by rw [List.drop_eq_nil_of_le (by omega), List.drop_eq_nil_of_le (by have := N3.out; omega)])
      subst hr1
      clear HK
      go_wp2_with fail
      go_ret
      exact ⟨rfl, B1.out⟩
set_option maxHeartbeats 8000000 in
set_option maxRecDepth 100000 in
theorem same14 (x : S24) : ∀ y, SameC 14 x y := by
  induction x using tree_ind with
  | h x ih =>
  intro y w A B c d r hx hy hr
  have W0B : Below w.heap.size w ((w.alloc (.cells #[.int .i64 x.f0, .int .i64 x.f1, .string x.f2, .slice A x.f3.length c] 24 (0, 0))).alloc (.cells #[.int .i64 y.f0, .int .i64 y.f1, .string y.f2, .slice B y.f3.length d] 24 (0, 0))) := below_alloc (below_alloc (Below.refl _ _) _) _
  have S0 : Aside0 (TV _ w.heap.size x A c) := ⟨⟨blk_alloc (blk_new w _) _, hx.step W0B⟩⟩
  have T0 : Aside0 (TV _ (w.heap.size + 1) y B d) := ⟨⟨blk_topT _ _ (by rw [size_allocT]), hy.step W0B⟩⟩
  have BW0 := Aside0.mk W0B
  clear W0B
  obtain ⟨s0, s1, s2, s3⟩ := S0.out.cs
  obtain ⟨t0, t1, t2, t3⟩ := T0.out.cs
  by_cases n0 : x.f0 = y.f0
  case neg =>
    obtain rfl : r = false := by cases r; rfl; exact absurd (hr.1 rfl) (fun e => n0 (e ▸ rfl))
    have e0 : (x.f0 == y.f0) = false := by simpa using n0
    have e1 : (x.f0 != y.f0) = true := by simpa using n0
    have e2 : decide (x.f0 = y.f0) = false := by simpa using n0
    clear hr hx hy
    go_enter Tryd.func14, Tryd.ntmps14
    go_wp2_with fail
    go_ret
    exact ⟨rfl, by repeat (first | exact Below.refl _ _ | apply below_alloc | apply pw_below_drewN | apply below_drew1)⟩
  have n0a : (x.f0 == y.f0) = true := by simpa using n0
  have n0b : (x.f0 != y.f0) = false := by simpa using n0
  have n0c : decide (x.f0 = y.f0) = true := by simpa using n0
  have N0' := Aside0.mk n0
  clear n0
  by_cases n1 : x.f1 = y.f1
  case neg =>
    obtain rfl : r = false := by cases r; rfl; exact absurd (hr.1 rfl) (fun e => n1 (e ▸ rfl))
    have e0 : (x.f1 == y.f1) = false := by simpa using n1
    have e1 : (x.f1 != y.f1) = true := by simpa using n1
    have e2 : decide (x.f1 = y.f1) = false := by simpa using n1
    clear hr hx hy
    go_enter Tryd.func14, Tryd.ntmps14
    go_wp2_with fail
    go_ret
    exact ⟨rfl, by repeat (first | exact Below.refl _ _ | apply below_alloc | apply pw_below_drewN | apply below_drew1)⟩
  have n1a : (x.f1 == y.f1) = true := by simpa using n1
  have n1b : (x.f1 != y.f1) = false := by simpa using n1
  have n1c : decide (x.f1 = y.f1) = true := by simpa using n1
  have N1' := Aside0.mk n1
  clear n1
  by_cases n2 : x.f2 = y.f2
  case neg =>
    obtain rfl : r = false := by cases r; rfl; exact absurd (hr.1 rfl) (fun e => n2 (e ▸ rfl))
    have e3 : ¬ x.f2.toList = y.f2.toList := fun e => n2 (bytes_eq e)
    have e4 : (x.f2.toList == y.f2.toList) = false := by simpa using e3
    have e5 : (x.f2.toList != y.f2.toList) = true := by simpa using e3
    have e6 : decide (x.f2.toList = y.f2.toList) = false := by simpa using e3
    clear hr hx hy
    go_enter Tryd.func14, Tryd.ntmps14
    go_wp2_with fail
    go_ret
    exact ⟨rfl, by repeat (first | exact Below.refl _ _ | apply below_alloc | apply pw_below_drewN | apply below_drew1)⟩
  have n2d : (x.f2.toList == y.f2.toList) = true := by rw [n2]; simp
  have n2e : (x.f2.toList != y.f2.toList) = false := by rw [n2]; simp
  have n2f : decide (x.f2.toList = y.f2.toList) = true := by rw [n2]; simp
  have N2' := Aside0.mk n2
  clear n2
  by_cases n3 : x.f3.length = y.f3.length
  case neg =>
    have m3 : ¬ (x.f3.length : Int) = (y.f3.length : Int) := by omega
    have e0 : ((x.f3.length : Int) == (y.f3.length : Int)) = false := by simpa using m3
    have e1 : ((x.f3.length : Int) != (y.f3.length : Int)) = true := by simpa using m3
    have e2 : decide ((x.f3.length : Int) = (y.f3.length : Int)) = false := by simpa using m3
    obtain rfl : r = false := by cases r; rfl; exact absurd (hr.1 rfl) (fun e => n3 (e ▸ rfl))
    clear hr hx hy
    go_enter Tryd.func14, Tryd.ntmps14
    go_wp2_with fail
    go_ret
    exact ⟨rfl, by repeat (first | exact Below.refl _ _ | apply below_alloc | apply pw_below_drewN | apply below_drew1)⟩
  have m3 : (x.f3.length : Int) = (y.f3.length : Int) := by omega
  have n3a : ((x.f3.length : Int) == (y.f3.length : Int)) = true := by simpa using m3
  have n3b : ((x.f3.length : Int) != (y.f3.length : Int)) = false := by simpa using m3
  have n3c : decide ((x.f3.length : Int) = (y.f3.length : Int)) = true := by simpa using m3
  have N3 := Aside0.mk n3
  have hmax : x.f3.length ≤ 9223372036854775807 := hx.row.2.1
  have HR : Aside0 (r = true ↔ x.f3.drop 0 = y.f3.drop 0) := ⟨by
    rw [hr, List.drop_zero, List.drop_zero]
    refine ⟨fun e => e ▸ rfl, fun e => ?_⟩
    have h0 := N0'.out
    have h1 := N1'.out
    have h2 := N2'.out
    cases x
    cases y
    simp only at h0 h1 h2 e
    rw [h0, h1, h2, e]⟩
  clear hr hx hy n3 m3 N0' N1' N2'
  go_enter Tryd.func14, Tryd.ntmps14
  go_wp2_with fail
  go_loopw [5] (fun i wr => ∃ k : Nat, k ≤ x.f3.length ∧ i = .int .i64 k ∧ Aside0 (r = true ↔ x.f3.drop k = y.f3.drop k) ∧ Aside0 (TV wr w.heap.size x A c) ∧ Aside0 (TV wr (w.heap.size + 1) y B d) ∧ Aside0 (Below w.heap.size w wr)) (fun i _ => x.f3.length - (intOf i).toNat)
  case atStart => exact ⟨0, Nat.zero_le _, rfl, HR, S0, T0, BW0⟩
  case round =>
    obtain ⟨k, hk, rfl, HK, S1, T1, B1⟩ := hrel
    clear S0 T0 BW0 HR s0 s1 s2 s3 t0 t1 t2 t3
    obtain ⟨s0, s1, s2, s3⟩ := S1.out.cs
    obtain ⟨t0, t1, t2, t3⟩ := T1.out.cs
    by_cases hlt : k < x.f3.length
    · obtain ⟨a, hxa⟩ : ∃ a, x.f3[k]? = some a := ⟨_, List.getElem?_eq_getElem hlt⟩
      obtain ⟨b, hyb⟩ : ∃ b, y.f3[k]? = some b := ⟨_, List.getElem?_eq_getElem (by have := N3.out; omega)⟩
      obtain ⟨ad, A3, c3, eA, p0, p1, p2, p3, hCa⟩ := row_at S1.out.tc.row k a hxa
      obtain ⟨bd, A4, c4, eB, q0, q1, q2, q3, hCb⟩ := row_at T1.out.tc.row k b hyb
      subst eA
      subst eB
      have CA := Aside0.mk hCa
      have CB := Aside0.mk hCb
      have CC : Aside0 (TwoC _ w.heap.size ad bd x.f3.length y.f3.length c d k a b A3 A4 c3 c4) := ⟨⟨s3, t3, p0, p1, p2, p3, q0, q1, q2, q3⟩⟩
      obtain ⟨q, hq⟩ := bool_of (a = b)
      have IH := Aside0.mk (same_q (ih a (List.mem_of_getElem? hxa) b) hq)
      have hdx : x.f3.drop k = a :: x.f3.drop (k + 1) := by rw [List.drop_eq_getElem_cons hlt]; rw [List.getElem?_eq_getElem hlt] at hxa; rw [Option.some.inj hxa]
      have hdy : y.f3.drop k = b :: y.f3.drop (k + 1) := by rw [List.drop_eq_getElem_cons (show k < y.f3.length by have := N3.out; omega)]; rw [List.getElem?_eq_getElem (show k < y.f3.length by have := N3.out; omega)] at hyb; rw [Option.some.inj hyb]
      have HD := HK.out
      rw [hdx, hdy, List.cons.injEq, ← hq] at HD
      have HD' := Aside0.mk HD
      have hlt2 : k < y.f3.length := by have := N3.out; omega
      have i0 : (0 : Int) ≤ (k : Int) := by omega
      have i1 : (k : Int) < (x.f3.length : Int) := by omega
      have i2 : (k : Int) < (y.f3.length : Int) := by omega
      clear hCa hCb hxa hyb hdx hdy HD hq HK
      cases q with
      | false =>
        obtain rfl : r = false := by cases r; rfl; exact absurd (HD'.out.1 rfl).1 (by decide)
        clear HD'
        go_wp2_with fail
        go_region_held3 (fun W => W.cell? ⟨w.heap.size, 3, none⟩ = some (.slice (some ad) x.f3.length c) ∧ W.cell? ⟨w.heap.size + 1, 3, none⟩ = some (.slice (some bd) y.f3.length d) ∧ W.cell? (ad.add (k * 4)) = some (.int .i64 a.f0) ∧ W.cell? ⟨(ad.add (k * 4)).block, (ad.add (k * 4)).off + 1, none⟩ = some (.int .i64 a.f1) ∧ W.cell? ⟨(ad.add (k * 4)).block, (ad.add (k * 4)).off + 2, none⟩ = some (.string a.f2) ∧ W.cell? ⟨(ad.add (k * 4)).block, (ad.add (k * 4)).off + 3, none⟩ = some (.slice A3 a.f3.length c3) ∧ W.cell? (bd.add (k * 4)) = some (.int .i64 b.f0) ∧ W.cell? ⟨(bd.add (k * 4)).block, (bd.add (k * 4)).off + 1, none⟩ = some (.int .i64 b.f1) ∧ W.cell? ⟨(bd.add (k * 4)).block, (bd.add (k * 4)).off + 2, none⟩ = some (.string b.f2) ∧ W.cell? ⟨(bd.add (k * 4)).block, (bd.add (k * 4)).off + 3, none⟩ = some (.slice A4 b.f3.length c4))
          (first | (refine TwoC.step CC.out ?_; (repeat (first | exact D50.out | exact Below.refl _ _ | apply below_alloc | apply pw_below_drewN | apply below_drew1)); done) | fail)
          (first | (go_at_call 14; (with_reducible refine (IH.out _ A3 A4 c3 c4 (tc_drew CA.out) (tc_drew CB.out)).mono ?_); rintro _ W50 ⟨rfl, hb⟩; have D50 := Aside0.mk (drew_step hb); clear hb) | fail)
        go_wp2_with fail
        go_ret
        exact ⟨rfl, below_step B1.out D50.out⟩
      | true =>
        have HN : Aside0 (r = true ↔ x.f3.drop (k + 1) = y.f3.drop (k + 1)) := ⟨by rw [HD'.out]; simp⟩
        clear HD'
        go_wp2_with fail
        go_region_held3 (fun W => W.cell? ⟨w.heap.size, 3, none⟩ = some (.slice (some ad) x.f3.length c) ∧ W.cell? ⟨w.heap.size + 1, 3, none⟩ = some (.slice (some bd) y.f3.length d) ∧ W.cell? (ad.add (k * 4)) = some (.int .i64 a.f0) ∧ W.cell? ⟨(ad.add (k * 4)).block, (ad.add (k * 4)).off + 1, none⟩ = some (.int .i64 a.f1) ∧ W.cell? ⟨(ad.add (k * 4)).block, (ad.add (k * 4)).off + 2, none⟩ = some (.string a.f2) ∧ W.cell? ⟨(ad.add (k * 4)).block, (ad.add (k * 4)).off + 3, none⟩ = some (.slice A3 a.f3.length c3) ∧ W.cell? (bd.add (k * 4)) = some (.int .i64 b.f0) ∧ W.cell? ⟨(bd.add (k * 4)).block, (bd.add (k * 4)).off + 1, none⟩ = some (.int .i64 b.f1) ∧ W.cell? ⟨(bd.add (k * 4)).block, (bd.add (k * 4)).off + 2, none⟩ = some (.string b.f2) ∧ W.cell? ⟨(bd.add (k * 4)).block, (bd.add (k * 4)).off + 3, none⟩ = some (.slice A4 b.f3.length c4))
          (first | (refine TwoC.step CC.out ?_; (repeat (first | exact D50.out | exact Below.refl _ _ | apply below_alloc | apply pw_below_drewN | apply below_drew1)); done) | fail)
          (first | (go_at_call 14; (with_reducible refine (IH.out _ A3 A4 c3 c4 (tc_drew CA.out) (tc_drew CB.out)).mono ?_); rintro _ W50 ⟨rfl, hb⟩; have D50 := Aside0.mk (drew_step hb); clear hb) | fail)
        go_wp2_with fail
        go_roundw
        case rel => exact ⟨k + 1, by omega, by go_num, HN, ⟨S1.out.step D50.out⟩, ⟨T1.out.step D50.out⟩, ⟨below_step B1.out D50.out⟩⟩
        case measure => simp [intOf]; omega
    · have hr1 : r = true := HK.out.2 (by rw [List.drop_eq_nil_of_le (by omega), List.drop_eq_nil_of_le (by have := N3.out; omega)])
      subst hr1
      clear HK
      go_wp2_with fail
      go_ret
      exact ⟨rfl, B1.out⟩
end Go.Proofs.YtmnbbhieodcoeaaDoor.Rt

namespace Go.Proofs.YtmnbbhieodcoeaaDoor.Rt
open Go.RowKit Go.Proofs.YtmnbbhieodcoeaaDoorW.PrintWords Go.Proofs.YtmnbbhieodcoeaaDoorW.PrintLast Go.Proofs.YtmnbbhieodcoeaaDoorW.PrintMore
open Go.Proofs.YtmnbbhieodcoeaaDoor.PBase
set_option linter.unusedVariables false
set_option linter.unusedSimpArgs false
theorem same_tc (s : S24) : ∀ (w : World) (A : Option Addr) (c : Nat), TC w s A c → ∀ t, ∃ r, SameIs s t r ∧ (r = true ↔ s = t) := by
  induction s using tree_ind with
  | h s ih =>
  intro w A cc hC t
  have hl : s.f3.length ≤ 9223372036854775807 := hC.row.2.1
  have ih' : ∀ x ∈ s.f3, ∀ y, ∃ r, SameIs x y r ∧ (r = true ↔ x = y) := by
    intro x hx y
    obtain ⟨i, hi, rfl⟩ := List.mem_iff_getElem.1 hx
    obtain ⟨ad, A3, c3, _, _, _, _, _, h⟩ := row_at hC.row i _ (List.getElem?_eq_getElem hi)
    exact ih _ hx w A3 c3 h y
  clear ih hC
  cases s with
  | mk a b c l =>
  cases t with
  | mk a' b' c' l' =>
  simp only at hl ih'
  by_cases h0 : a = a'
  case neg =>
    exact ⟨false, ⟨2, by simp only [ruletext_Same.f, if_neg h0, ruletext_Same.j0, if_pos], by simp only [sawmillref44_Same.f, if_neg h0, sawmillref44_Same.j0, if_pos]⟩, by simp; intro h; exact absurd h h0⟩
  by_cases h1 : b = b'
  case neg =>
    exact ⟨false, ⟨2, by simp only [ruletext_Same.f, if_pos h0, if_neg h1, ruletext_Same.j0, if_pos], by simp only [sawmillref44_Same.f, if_pos h0, if_neg h1, sawmillref44_Same.j0, if_pos]⟩, by simp; intro _ h; exact absurd h h1⟩
  by_cases h2 : c.toList = c'.toList
  case neg =>
    exact ⟨false, ⟨2, by simp only [ruletext_Same.f, if_pos h0, if_pos h1, if_neg h2, ruletext_Same.j0, if_pos], by simp only [sawmillref44_Same.f, if_pos h0, if_pos h1, if_neg h2, sawmillref44_Same.j0, if_pos]⟩, by simp; intro _ _ h; exact absurd (h ▸ rfl) h2⟩
  by_cases h3 : l.length = l'.length
  case neg =>
    have h3' : ((l.length : Int) != (l'.length : Int)) = true := by simp; omega
    exact ⟨false, ⟨2, by simp only [ruletext_Same.f, if_pos h0, if_pos h1, if_pos h2, ruletext_Same.j0, if_pos h3'], by simp only [sawmillref44_Same.f, if_pos h0, if_pos h1, if_pos h2, sawmillref44_Same.j0, if_pos h3']⟩, by simp; intro _ _ _ h; exact absurd (h ▸ rfl) h3⟩
  have h3' : ¬ ((l.length : Int) != (l'.length : Int)) = true := by simp; omega
  obtain ⟨k, r, e, f, g⟩ := same_loop a b c a' b' c' l l' (by omega) ih' l [] l' [] rfl rfl rfl h3
  refine ⟨r, ⟨k + 2, ?_, ?_⟩, ?_⟩
  · simp only [ruletext_Same.f, if_pos h0, if_pos h1, if_pos h2, ruletext_Same.j0, if_neg h3']; exact e
  · simp only [sawmillref44_Same.f, if_pos h0, if_pos h1, if_pos h2, sawmillref44_Same.j0, if_neg h3']; exact f
  · rw [g, S24.mk.injEq]
    exact ⟨fun h => ⟨h0, h1, bytes_eq h2, h⟩, fun h => h.2.2.2⟩
theorem same20_calls (k : Nat) (a0_0 : Int) (a0_1 : Int) (a0_2 : ByteArray) (A0_3 : Option Addr) (c0_3 : Nat) (l0_3 : List (S24)) (a1_0 : Int) (a1_1 : Int) (a1_2 : ByteArray) (A1_3 : Option Addr) (c1_3 : Nat) (l1_3 : List (S24)) (r : Bool) (w : World) (hr0_3 : Kd.C k24 w A0_3 l0_3.length l0_3) (hc0_3 : l0_3.length ≤ c0_3) (hr1_3 : Kd.C k24 w A1_3 l1_3.length l1_3) (hc1_3 : l1_3.length ≤ c1_3) (h : ruletext_Same.f k a0_0 a0_1 a0_2 l0_3 a1_0 a1_1 a1_2 l1_3 = some r) :
    Calls Tryd.prog 20 #[.agg #[.int .i64 a0_0, .int .i64 a0_1, .string a0_2, .slice A0_3 l0_3.length c0_3], .agg #[.int .i64 a1_0, .int .i64 a1_1, .string a1_2, .slice A1_3 l1_3.length c1_3]] w fun e w' => e = .returned (.bool r) ∧ Below w.heap.size w w' := by
  obtain ⟨r', ⟨k', e, _⟩, g⟩ := same_tc ⟨a0_0, a0_1, a0_2, l0_3⟩ w A0_3 c0_3 ⟨hc0_3, hr0_3⟩ ⟨a1_0, a1_1, a1_2, l1_3⟩
  have h1 := up_le (g := fun k => ruletext_Same.f k a0_0 a0_1 a0_2 l0_3 a1_0 a1_1 a1_2 l1_3) (fun k => ruletext_Same.mono _ _ _ _ _ _ _ _ k) (Nat.le_max_left k k') _ h
  have h2 := up_le (g := fun k => ruletext_Same.f k a0_0 a0_1 a0_2 l0_3 a1_0 a1_1 a1_2 l1_3) (fun k => ruletext_Same.mono _ _ _ _ _ _ _ _ k) (Nat.le_max_right k k') _ e
  obtain rfl : r = r' := Option.some.inj (h1.symm.trans h2)
  exact same20 ⟨a0_0, a0_1, a0_2, l0_3⟩ ⟨a1_0, a1_1, a1_2, l1_3⟩ w A0_3 A1_3 c0_3 c1_3 r ⟨hc0_3, hr0_3⟩ ⟨hc1_3, hr1_3⟩ g
theorem same14_calls (k : Nat) (a0_0 : Int) (a0_1 : Int) (a0_2 : ByteArray) (A0_3 : Option Addr) (c0_3 : Nat) (l0_3 : List (S24)) (a1_0 : Int) (a1_1 : Int) (a1_2 : ByteArray) (A1_3 : Option Addr) (c1_3 : Nat) (l1_3 : List (S24)) (r : Bool) (w : World) (hr0_3 : Kd.C k24 w A0_3 l0_3.length l0_3) (hc0_3 : l0_3.length ≤ c0_3) (hr1_3 : Kd.C k24 w A1_3 l1_3.length l1_3) (hc1_3 : l1_3.length ≤ c1_3) (h : sawmillref44_Same.f k a0_0 a0_1 a0_2 l0_3 a1_0 a1_1 a1_2 l1_3 = some r) :
    Calls Tryd.prog 14 #[.agg #[.int .i64 a0_0, .int .i64 a0_1, .string a0_2, .slice A0_3 l0_3.length c0_3], .agg #[.int .i64 a1_0, .int .i64 a1_1, .string a1_2, .slice A1_3 l1_3.length c1_3]] w fun e w' => e = .returned (.bool r) ∧ Below w.heap.size w w' := by
  obtain ⟨r', ⟨k', _, e⟩, g⟩ := same_tc ⟨a0_0, a0_1, a0_2, l0_3⟩ w A0_3 c0_3 ⟨hc0_3, hr0_3⟩ ⟨a1_0, a1_1, a1_2, l1_3⟩
  have h1 := up_le (g := fun k => sawmillref44_Same.f k a0_0 a0_1 a0_2 l0_3 a1_0 a1_1 a1_2 l1_3) (fun k => sawmillref44_Same.mono _ _ _ _ _ _ _ _ k) (Nat.le_max_left k k') _ h
  have h2 := up_le (g := fun k => sawmillref44_Same.f k a0_0 a0_1 a0_2 l0_3 a1_0 a1_1 a1_2 l1_3) (fun k => sawmillref44_Same.mono _ _ _ _ _ _ _ _ k) (Nat.le_max_right k k') _ e
  obtain rfl : r = r' := Option.some.inj (h1.symm.trans h2)
  exact same14 ⟨a0_0, a0_1, a0_2, l0_3⟩ ⟨a1_0, a1_1, a1_2, l1_3⟩ w A0_3 A1_3 c0_3 c1_3 r ⟨hc0_3, hr0_3⟩ ⟨hc1_3, hr1_3⟩ g
end Go.Proofs.YtmnbbhieodcoeaaDoor.Rt
