/-
  Parse reads the text of a table of well-formed rules as that table.
-/
import Derived.Test.YtmnbbhieodcoeaaDoorPrs
import Derived.Test.YtmnbbhieodcoeaaDoorPA
namespace Go.Proofs.YtmnbbhieodcoeaaDoor.Rt
open Go.RowKit Go.Proofs.YtmnbbhieodcoeaaDoorW.PrintWords Go.Proofs.YtmnbbhieodcoeaaDoorW.PrintLast Go.Proofs.YtmnbbhieodcoeaaDoorW.PrintMore
open Go.Proofs.YtmnbbhieodcoeaaDoor.PBase Go.Proofs.YtmnbbhieodcoeaaDoor.PScn
set_option linter.unusedVariables false
set_option linter.unusedSimpArgs false
def rpc (r : S58) : List (Option S48) := some ⟨1, bGrade, 0, 0⟩ :: none :: some ⟨2, dgB r.f0, r.f0, 0⟩ :: none :: some ⟨1, bWhen, 0, 0⟩ :: none :: (raw dgB r.f1 ++ [some ⟨3, bSemi, 0, 0⟩])
def tb : List S58 → List UInt8
  | [] => []
  | r :: l => pb (rpc r) ++ (10 :: tb l)
def tlx : List S58 → List S48
  | [] => []
  | r :: l => lxs (rpc r) ++ tlx l
def GoodR (r : S58) : Prop := 0 ≤ r.f0 ∧ r.f0 ≤ 9 ∧ WF 8 r.f1
theorem ok_rpc {r : S58} (h : GoodR r) (t : List UInt8) : OkT (10 :: t) (rpc r) := by
  refine ⟨good_word (w := [103, 114, 97, 100, 101]) rfl (by decide) (by decide) (by decide) (sep_blank _), good_num h.1 (by have := h.2.1; omega) (sep_blank _), good_word (w := [119, 104, 101, 110]) rfl (by decide) (by decide) (by decide) (sep_blank _), ?_⟩
  refine (ok_pcs h.2.2 (10 :: t)).1 [some ⟨3, bSemi, 0, 0⟩] (.inr ⟨59, 10 :: t, rfl, by decide⟩) ⟨good_mark (c := 59) (by simp) _, trivial⟩
theorem sc_tb (N : Nat) : ∀ l : List S58, (∀ r ∈ l, GoodR r) → ∃ ls, Sc N (skl false (tb l)) ls ∧ ls.map key = (tlx l).map key ++ [endK]
  | [], _ => ⟨_, .fin, rfl⟩
  | r :: l, h => by
    obtain ⟨ls', h1, h2⟩ := sc_tb N l (fun x hx => h x (List.mem_cons_of_mem _ hx))
    have h1' : Sc N (skl false (10 :: tb l)) ls' := by rw [skl, if_pos (.inr rfl)]; exact h1
    obtain ⟨ls, h3, h4⟩ := sc_of N (10 :: tb l) ls' h1' (rpc r) (ok_rpc (h r (List.mem_cons_self ..)) _)
    refine ⟨ls, h3, ?_⟩
    rw [h4, h2, tlx, List.map_append, List.append_assoc]
theorem pWhl_up {k k' : Nat} (h : k ≤ k') {ls : List S48} {i : Nat} {r : Rz} (e : pWhl k ls i = some r) : pWhl k' ls i = some r := by
  unfold pWhl at e ⊢
  cases he : pExr k ls i with
  | none => rw [he] at e; cases e
  | some q =>
    rw [he] at e
    rw [exr_up h he]
    cases q with
    | bad a b => exact e
    | ok x j =>
      simp only at e ⊢
      cases hd : ruletext_depth.f k x.f0 x.f1 x.f2 x.f3 with
      | none => rw [hd] at e; cases e
      | some d => rw [hd] at e; rw [depth_up h hd]; exact e
theorem pRls_up : ∀ (k : Nat) (ls : List S48) (i : Nat) (l : List S58), LeO (pRls k ls i l) (pRls (k + 1) ls i l)
  | 0, ls, i, l => fun r h => by rw [pRls.eq_1] at h; cases h
  | k + 1, ls, i, l => by
    rw [pRls.eq_2, pRls.eq_2]
    refine LeO.ite (LeO.refl _) (LeO.ite (LeO.ite (LeO.refl _) (LeO.ite (LeO.ite (LeO.refl _) (LeO.ite ?_ (LeO.refl _))) (LeO.refl _))) (LeO.refl _))
    intro r h
    cases hw : pWhl k ls (i + 3) with
    | none => rw [hw] at h; cases h
    | some q =>
      rw [hw] at h
      rw [pWhl_up (Nat.le_succ k) hw]
      cases q with
      | bad a b => exact h
      | ok x j =>
        simp only at h ⊢
        split at h
        · rename_i hs; rw [if_pos hs]; exact pRls_up k _ _ _ _ h
        · rename_i hs; rw [if_neg hs]; exact h
theorem rls_up {k k' : Nat} (h : k ≤ k') {ls : List S48} {i : Nat} {l : List S58} {r : Rl} (e : pRls k ls i l = some r) : pRls k' ls i l = some r :=
  up_le (g := fun k => pRls k ls i l) (fun k => pRls_up k ls i l) h r e
theorem whl_wf {x : S24} (h : WF 8 x) (ls : List S48) (i : Nat) (hs : Seg ls i (lxs (raw dgB x))) (hn : noOr (pk ls (i + (lxs (raw dgB x)).length))) : ∃ k, pWhl k ls i = some (.ok x (i + (lxs (raw dgB x)).length)) := by
  obtain ⟨k2, h2⟩ := exr_wf h ls i hs hn
  obtain ⟨k3, v, h3, _, hv⟩ := depth_wf h (by omega)
  refine ⟨max k2 k3, ?_⟩
  unfold pWhl
  rw [exr_up (Nat.le_max_left k2 k3) h2]
  simp only
  rw [depth_up (Nat.le_max_right k2 k3) h3]
  simp only
  rw [if_neg (by omega)]
theorem noOr_semi {x : S48} (h : Mat x ⟨3, bSemi, 0, 0⟩) : noOr x := by
  have hR := isW_mat h
  exact ⟨⟨⟨⟨by rw [hR]; kernel_rfl, by rw [hR]; kernel_rfl, by rw [hR]; kernel_rfl⟩, by rw [hR]; kernel_rfl, by rw [hR]; kernel_rfl, by rw [hR]; kernel_rfl, by rw [hR]; kernel_rfl, by rw [hR]; kernel_rfl, by rw [hR]; kernel_rfl⟩, by rw [hR]; kernel_rfl⟩, by rw [hR]; kernel_rfl⟩
theorem rls_ok (ls : List S48) : ∀ (l : List S58) (i : Nat) (acc : List S58), (∀ r ∈ l, GoodR r) → acc.length + l.length ≤ 32 → Seg ls i (tlx l) → (pk ls (i + (tlx l).length)).f0 = 0 → ∃ k, pRls k ls i acc = some (.ok (acc ++ l) (i + (tlx l).length))
  | [], i, acc, _, _, _, h0 => ⟨1, by rw [pRls.eq_2, if_pos (show (pk ls i).f0 = 0 from h0), List.append_nil]; rfl⟩
  | r :: l, i, acc, h, hl, hs, h0 => by
    rw [tlx] at hs h0 ⊢
    obtain ⟨hr, hs'⟩ := seg_app hs
    have hg := h r (List.mem_cons_self ..)
    unfold rpc at hr
    rw [lxs_some, lxs_none, lxs_some, lxs_none, lxs_some, lxs_none, lxs_app] at hr
    obtain ⟨m1, hr⟩ := seg_cons hr
    obtain ⟨m2, hr⟩ := seg_cons hr
    obtain ⟨m3, hr⟩ := seg_cons hr
    obtain ⟨hx, hr⟩ := seg_app hr
    obtain ⟨m4, _⟩ := seg_cons (show Seg ls _ (⟨3, bSemi, 0, 0⟩ :: []) from hr)
    have hlen : (lxs (rpc r)).length = (lxs (raw dgB r.f1)).length + 4 := by
      unfold rpc
      rw [lxs_some, lxs_none, lxs_some, lxs_none, lxs_some, lxs_none, lxs_app, List.length_cons, List.length_cons, List.length_cons, List.length_append]; rfl
    obtain ⟨k1, h1⟩ := whl_wf hg.2.2 ls (i + 1 + 1 + 1) hx (noOr_semi m4)
    have e1 : i + 1 + 1 + 1 + (lxs (raw dgB r.f1)).length + 1 = i + (lxs (rpc r)).length := by omega
    rw [List.length_append, ← Nat.add_assoc] at h0
    obtain ⟨k2, h2⟩ := rls_ok ls l (i + (lxs (rpc r)).length) (acc ++ [r]) (fun x hx => h x (List.mem_cons_of_mem _ hx)) (by rw [List.length_append, List.length_singleton]; rw [List.length_cons] at hl; omega) hs' h0
    refine ⟨max k1 k2 + 1, ?_⟩
    rw [pRls.eq_2, if_neg (by rw [m1.1]; decide), if_pos (by rw [isW_mat m1]; kernel_rfl), if_neg (by rw [List.length_cons] at hl; omega), if_pos m2.1, if_neg (by rw [m2.2.2]; have := hg.2.1; show ¬ r.f0 > 9; omega), if_pos (by rw [show i + 2 = i + 1 + 1 by omega, isW_mat m3]; kernel_rfl), show i + 3 = i + 1 + 1 + 1 by omega, pWhl_up (Nat.le_max_left k1 k2) h1]
    simp only
    rw [if_pos (by rw [isW_mat m4]; kernel_rfl), e1, m2.2.2]
    show pRls (max k1 k2) ls (i + (lxs (rpc r)).length) (acc ++ [r]) = _
    rw [rls_up (Nat.le_max_right k1 k2) h2, List.append_assoc, List.length_append, Nat.add_assoc]
    rfl
theorem tlx_le : ∀ l : List S58, (∀ r ∈ l, GoodR r) → (tlx l).length ≤ (tb l).length
  | [], _ => Nat.le_refl _
  | r :: l, h => by
    have h1 := tlx_le l (fun x hx => h x (List.mem_cons_of_mem _ hx))
    have h2 := lxs_le _ (ok_rpc (h r (List.mem_cons_self ..)) (tb l))
    rw [tlx, tb, List.length_append, List.length_append, List.length_cons]
    omega
theorem parse_table {l : List S58} (h : ∀ r ∈ l, GoodR r) (hl : l.length ≤ 32) (hz : (tb l).length ≤ 8000) : ∃ k, PAs k (mkB (tb l)) = some (l, 0, 0) := by
  have hsz : (mkB (tb l)).size ≤ 8000 := by rw [size_mkB]; exact hz
  obtain ⟨ls, hsc, hm⟩ := sc_tb (mkB (tb l)).size l h
  obtain ⟨k1, h1⟩ := scan_ok (mkB (tb l)) hsz (by rw [bs_mkB]; exact hsc)
  obtain ⟨hend, hll⟩ := end_pk hm
  have hseg := seg_of hm
  have hle := tlx_le l h
  obtain ⟨k2, h2⟩ := rls_ok ls l 0 [] h (by simpa using hl) hseg (by rw [Nat.zero_add]; exact hend)
  rw [List.nil_append] at h2
  refine ⟨max k1 k2, ?_⟩
  unfold PAs
  rw [scan_up (Nat.le_max_left k1 k2) h1]
  simp only
  rw [if_pos trivial, if_pos (by omega), rls_up (Nat.le_max_right k1 k2) h2]
end Go.Proofs.YtmnbbhieodcoeaaDoor.Rt
