/-
  ParseExpr reads the text of a well-formed tree as that tree.
-/
import Derived.Test.YtmnbbhieodcoeaaDoorTxp
namespace Go.Proofs.YtmnbbhieodcoeaaDoor.Rt
open Go.RowKit Go.Proofs.YtmnbbhieodcoeaaDoorW.PrintWords Go.Proofs.YtmnbbhieodcoeaaDoorW.PrintLast Go.Proofs.YtmnbbhieodcoeaaDoorW.PrintMore
open Go.Proofs.YtmnbbhieodcoeaaDoor.PBase Go.Proofs.YtmnbbhieodcoeaaDoor.PScn
set_option linter.unusedVariables false
set_option linter.unusedSimpArgs false
theorem pb_pcs_le (m : Nat) (x : S24) : (pb (pcs dgB m x)).length ≤ (pb (raw dgB x)).length + 2 := by
  rw [pcs]
  split
  · rw [List.cons_append, pb, pb_app, List.length_append, List.length_append]
    show 1 + (_ + 1) ≤ _
    omega
  · omega
theorem sgn_len {op : Int} (hop : 3 ≤ op ∧ op ≤ 8 ∨ op = 10 ∨ op = 11) : (bs (sgn op).f1).length ≤ 3 := by
  have hc : op = 3 ∨ op = 4 ∨ op = 5 ∨ op = 6 ∨ op = 7 ∨ op = 8 ∨ op = 10 ∨ op = 11 := by omega
  rcases hc with rfl | rfl | rfl | rfl | rfl | rfl | rfl | rfl <;> decide
theorem num_len {n : Int} (h0 : 0 ≤ n) (h1 : n ≤ 1099511627776) : (bs (dgB n)).length ≤ 13 := by
  unfold dgB
  rw [bs_mkB]
  exact dec_len 13 n.toNat (by have : (10:Nat)^13 = 10000000000000 := by decide
                               omega) (by decide)
theorem raw_len {d : Nat} {x : S24} (h : WF d x) : ∃ e, d = e + 1 ∧ (pb (raw dgB x)).length + 9 ≤ 25 * 2 ^ e := by
  induction h with
  | num d n h0 h1 =>
    refine ⟨d, rfl, ?_⟩
    have hp : 1 ≤ 2 ^ d := Nat.one_le_two_pow
    rw [raw, if_pos rfl]
    split
    · have := num_len (n := -n) (by omega) (by omega)
      simp only [pb, List.length_append, List.length_nil]
      have h2 : (bs bSub).length = 1 := rfl
      omega
    · have := num_len (n := n) (by omega) (by omega)
      simp only [pb, List.length_append, List.length_nil]
      omega
  | nam d s h =>
    refine ⟨d, rfl, ?_⟩
    have hp : 1 ≤ 2 ^ d := Nat.one_le_two_pow
    obtain ⟨c, r, e, hl, _⟩ := isNm_bytes h
    rw [raw, if_neg (by decide)]
    simp only [pb, List.length_append, List.length_nil, e, List.length_cons]
    omega
  | neg d a _ ih =>
    obtain ⟨e, rfl, hl⟩ := ih
    refine ⟨e + 1, rfl, ?_⟩
    have hp : 1 ≤ 2 ^ e := Nat.one_le_two_pow
    have := pb_pcs_le 2 a
    rw [raw, Nat.pow_succ]
    simp only [pb, List.length_append, List.length_cons]
    have h2 : (bs bNot).length = 3 := rfl
    omega
  | two d op a b hop _ _ iha ihb =>
    obtain ⟨e, rfl, hl⟩ := iha
    obtain ⟨e', he, hl'⟩ := ihb
    obtain rfl : e = e' := by omega
    refine ⟨e + 1, rfl, ?_⟩
    have h1 := pb_pcs_le (lft op) a
    have h2 := pb_pcs_le (rgt op) b
    have h3 := sgn_len hop
    rw [raw, pb_app, Nat.pow_succ]
    simp only [pb, List.length_append, List.length_cons]
    omega
theorem lxs_le {tail : List UInt8} : ∀ ps, OkT tail ps → (lxs ps).length ≤ (pb ps).length
  | [], _ => Nat.le_refl _
  | none :: r, h => by rw [lxs_none, pb, List.length_cons]; exact Nat.le_succ_of_le (lxs_le r h)
  | some t :: r, ⟨⟨_, c, q, hc, _⟩, h⟩ => by
    rw [lxs_some, pb, List.length_append, List.length_cons, hc, List.length_cons]
    have := lxs_le r h
    omega
def endK : Int × ByteArray × Int := (0, ⟨#[]⟩, 0)
theorem end_pk {ls T : List S48} (h : ls.map key = T.map key ++ [endK]) : (pk ls T.length).f0 = 0 ∧ ls.length = T.length + 1 := by
  have hl : ls.length = T.length + 1 := by
    have := congrArg List.length h
    simpa using this
  refine ⟨?_, hl⟩
  have h1 : (ls.map key)[T.length]? = some endK := by
    rw [h, List.getElem?_append_right (by simp)]; simp
  rw [List.getElem?_map] at h1
  obtain ⟨x, hx, he⟩ := Option.map_eq_some_iff.1 h1
  have hp : pk ls T.length = x := by
    unfold pk rd_T48
    rw [Int.toNat_natCast, List.getD_eq_getElem?_getD, hx]; rfl
  rw [hp]
  unfold key endK at he
  injection he with e1 _
theorem depth_up {k k' : Nat} (h : k ≤ k') {x : S24} {v : Int} (e : ruletext_depth.f k x.f0 x.f1 x.f2 x.f3 = some v) : ruletext_depth.f k' x.f0 x.f1 x.f2 x.f3 = some v :=
  up_le (g := fun k => ruletext_depth.f k x.f0 x.f1 x.f2 x.f3) (fun k => (ruletext_depth.mono_l k).1 x.f0 x.f1 x.f2 x.f3) h v e
theorem w01 : wrap64 (0 + 1) = 1 := wrap_id (by omega) (by omega)
theorem w11 : wrap64 (1 + 1) = 2 := wrap_id (by omega) (by omega)
theorem depth_leaf (a b : Int) (s : ByteArray) : ruletext_depth.f 2 a b s [] = some 1 := by
  rw [ruletext_depth.f]
  show ruletext_depth.l0 1 0 [] 0 0 = some 1
  rw [ruletext_depth.l0, if_neg (by decide), w01]
theorem depth_wf {d : Nat} {x : S24} (h : WF d x) (hd : d ≤ 1000) : ∃ k v, ruletext_depth.f k x.f0 x.f1 x.f2 x.f3 = some v ∧ 1 ≤ v ∧ v ≤ d := by
  induction h with
  | num d n _ _ => exact ⟨2, 1, depth_leaf _ _ _, by omega, by omega⟩
  | nam d s _ => exact ⟨2, 1, depth_leaf _ _ _, by omega, by omega⟩
  | neg d a _ ih =>
    obtain ⟨k, v, e, h1, h2⟩ := ih (by omega)
    refine ⟨k + 3, v + 1, ?_, by omega, by omega⟩
    show ruletext_depth.f (k + 3) 9 0 ⟨#[]⟩ [a] = _
    rw [ruletext_depth.f]
    show ruletext_depth.l0 (k + 2) 0 [a] 1 0 = _
    rw [ruletext_depth.l0, if_pos (by decide), if_pos (by decide), if_pos (show (0 : Int) < (([a] : List S24).length : Int) from Int.one_pos)]
    show (ruletext_depth.f (k + 1) a.f0 a.f1 a.f2 a.f3).bind _ = _
    rw [depth_up (Nat.le_succ k) e, Option.bind_some, w01, ruletext_depth.l0, if_neg (by decide)]
    unfold mx
    rw [if_pos (by omega), wrap_id (by omega) (by omega)]
  | two d op a b _ _ _ iha ihb =>
    obtain ⟨k, v, e, h1, h2⟩ := iha (by omega)
    obtain ⟨k', v', e', h1', h2'⟩ := ihb (by omega)
    refine ⟨max k k' + 4, (if v < v' then v' else v) + 1, ?_, by split <;> omega, by split <;> omega⟩
    show ruletext_depth.f (max k k' + 4) op 0 ⟨#[]⟩ [a, b] = _
    rw [ruletext_depth.f]
    show ruletext_depth.l0 (max k k' + 3) 0 [a, b] 2 0 = _
    have h2l : (([a, b] : List S24).length : Int) = 2 := rfl
    rw [ruletext_depth.l0, if_pos (by decide), if_pos (by decide), if_pos (by rw [h2l]; decide)]
    show (ruletext_depth.f (max k k' + 2) a.f0 a.f1 a.f2 a.f3).bind _ = _
    rw [depth_up (show k ≤ max k k' + 2 by omega) e, Option.bind_some, w01, ruletext_depth.l0, if_pos (by decide), if_pos (by decide), if_pos (by rw [h2l]; decide)]
    show (ruletext_depth.f (max k k' + 1) b.f0 b.f1 b.f2 b.f3).bind _ = _
    rw [depth_up (show k' ≤ max k k' + 1 by omega) e', Option.bind_some, w11, ruletext_depth.l0, if_neg (by decide)]
    unfold mx
    rw [if_pos (show (0:Int) < v by omega)]
    congr 1
    split
    · rw [wrap_id (by omega) (by omega)]
    · rw [wrap_id (by omega) (by omega)]
theorem exr_up {k k' : Nat} (h : k ≤ k') {ls : List S48} {i : Nat} {r : Rz} (e : pExr k ls i = some r) : pExr k' ls i = some r :=
  up_le (g := fun k => pExr k ls i) (fun k => (p_up k).2.2.2.2.2.2.2.2.2.1 ls i) h r e
theorem scan_up {k k' : Nat} (h : k ≤ k') {s : ByteArray} {r : List S48 × Int × Int} (e : lexer_Scan.f k s = some r) : lexer_Scan.f k' s = some r :=
  up_le (g := fun k => lexer_Scan.f k s) (fun k => lexer_Scan.mono s k) h r e
theorem exr_wf {d : Nat} {x : S24} (h : WF d x) (ls : List S48) (i : Nat) (hs : Seg ls i (lxs (raw dgB x))) (hn : noOr (pk ls (i + (lxs (raw dgB x)).length))) : YExr ls i (.ok x (i + (lxs (raw dgB x)).length)) := by
  obtain ⟨hA, hf⟩ := core_wf dgB h ls i hs
  have h0 : At0 ls i (i + (lxs (raw dgB x)).length) x := by
    by_cases h3 : 3 ≤ bind x.f0
    · exact at_down (m := 0) (hf h3) (bind_le _) (Nat.zero_le _) hA
    · exact at_down2 (m := 0) (by omega) (Nat.zero_le _) hA
  exact h0 hn.1 _ (y_exrL_end hn.2)
end Go.Proofs.YtmnbbhieodcoeaaDoor.Rt
