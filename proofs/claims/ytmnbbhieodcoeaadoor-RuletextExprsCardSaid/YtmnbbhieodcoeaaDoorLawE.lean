/-
  The walk of RuletextExprs.
-/
import Derived.Test.YtmnbbhieodcoeaaDoorRex
namespace Go.Proofs.YtmnbbhieodcoeaaDoor.Rt
open Go.RowKit Go.Proofs.YtmnbbhieodcoeaaDoorW.PrintWords Go.Proofs.YtmnbbhieodcoeaaDoorW.PrintLast Go.Proofs.YtmnbbhieodcoeaaDoorW.PrintMore
open Go.Proofs.YtmnbbhieodcoeaaDoor.PBase Go.Proofs.YtmnbbhieodcoeaaDoor.PScn Go.Proofs.YtmnbbhieodcoeaaDoor.PTxt
set_option linter.unusedVariables false
set_option linter.unusedSimpArgs false

theorem raw_ne {d : Nat} {x : S24} (h : WF d x) (hd : d ≤ 8) : pb (raw dgB x) ≠ [] := by
  intro e
  have hok := (ok_pcs h []).1 [] (.inl rfl) trivial
  rw [List.append_nil] at hok
  have h1 := lxs_le _ hok
  rw [e] at h1
  have h2 : (lxs (raw dgB x)).length = 0 := by simpa using h1
  cases h with
  | num d n _ _ => rw [raw, if_pos rfl] at h2; split at h2 <;> simp [lxs] at h2
  | nam d s _ => rw [raw, if_neg (by decide)] at h2; simp [lxs] at h2
  | neg d a _ => rw [raw] at h2; simp [lxs] at h2
  | two d op a b _ _ _ => rw [raw, lxs_app, lxs_none, lxs_some, List.length_append, List.length_cons] at h2; omega
set_option maxHeartbeats 4000000 in
set_option maxRecDepth 100000 in
theorem exprs_true {w : World} (hT : Tab w) (x : S24) {A : Option Addr} {c : Nat} (hx : TC w x A c) :
    Calls Tryd.prog 3 #[.agg #[.int .i64 x.f0, .int .i64 x.f1, .string x.f2, .slice A x.f3.length c]] w (AllTrue w) := by
  obtain ⟨k1, r1, e1, p1, q1, g1⟩ := nodes_any x 1 (by decide) (by decide)
  have E1 := Aside0.mk e1
  have G1 := Aside0.mk g1
  obtain ⟨W0, hW0⟩ : ∃ W0, W0 = w.alloc (.cells #[.int .i64 x.f0, .int .i64 x.f1, .string x.f2, .slice A x.f3.length c] 24 (0, 0)) := ⟨_, rfl⟩
  have B0 : Below w.heap.size w W0 := hW0 ▸ below_alloc (Below.refl _ _) _
  have S0 : Aside0 (TV W0 w.heap.size x A c) := ⟨hW0 ▸ blk_new w _, hx.step B0⟩
  have HT0 := Aside0.mk (tab_below hT B0)
  have BW0 := Aside0.mk B0
  obtain ⟨s0, s1, s2, s3⟩ := S0.out.cs
  clear e1 g1 hx hT B0 p1 q1
  go_enter Tryd.func3, Tryd.ntmps3
  go_wp2_with fail
  rw [← hW0]
  clear hW0
  by_cases h1 : 600 < r1
  · refine (sawmilllaw44_nodes.calls k1 _ _ _ A c _ _ _ _ S0.out.tc.row S0.out.tc.len E1.out).mono ?_
    rintro _ w1 ⟨rfl, hb1⟩
    have S1 := Aside0.mk (S0.out.step hb1)
    have HT1 := Aside0.mk (tab_below HT0.out hb1)
    have BW1 := Aside0.mk (below_step BW0.out hb1)
    clear S0 HT0 BW0 hb1 s0 s1 s2 s3
    obtain ⟨s0, s1, s2, s3⟩ := S1.out.cs
    go_wp2_with fail
    refine (below_awake BW1.out HT1.out).mono ?_
    rintro _ w9 ⟨rfl, hb9⟩
    have BW9 := Aside0.mk hb9
    clear hb9
    go_wp2_with fail
    go_ret
    exact ⟨rfl, BW9.out⟩
  refine (sawmilllaw44_nodes.calls k1 _ _ _ A c _ _ _ _ S0.out.tc.row S0.out.tc.len E1.out).mono ?_
  rintro _ w1 ⟨rfl, hb1⟩
  have S1 := Aside0.mk (S0.out.step hb1)
  have HT1 := Aside0.mk (tab_below HT0.out hb1)
  have BW1 := Aside0.mk (below_step BW0.out hb1)
  clear S0 HT0 BW0 hb1 s0 s1 s2 s3
  obtain ⟨s0, s1, s2, s3⟩ := S1.out.cs
  have hwee := (G1.out (by omega)).2
  obtain ⟨k2, r, e2, he⟩ := expr_f x _ hwee
  have E2 := Aside0.mk e2
  have HR := Aside0.mk (fun w A c hx => rexpr_any x _ hwee (by decide) w A c hx r he)
  obtain ⟨rs, ⟨k3, _, e3⟩, g3⟩ := same_is x _ hwee x
  obtain rfl : rs = true := g3.2 rfl
  have E3 := Aside0.mk e3
  clear e2 e3 g3 hwee G1
  rcases (show ExprIs x r from he) with ⟨hw, hr⟩ | ⟨hw, hr⟩
  · have hrn : bs r ≠ [] := by rw [hr, bs_mkB]; exact raw_ne hw (by omega)
    obtain ⟨kp, hp⟩ := parse_text hw
    rw [← hr] at hp
    have HP := Aside0.mk (fun w => parseExpr_any kp r x 0 0 hp w)
    have n1 : ¬ r = ⟨#[]⟩ := by rintro rfl; exact hrn rfl
    have n2 : ¬ r.toList = [] := by rw [toList_bs]; exact hrn
    have n3 : r.toList.isEmpty = false := by rw [toList_bs]; simpa using hrn
    have n4 : (r.toList == []) = false := by rw [toList_bs]; simpa using hrn
    have n5 : decide (r.toList = []) = false := by simpa using n2
    clear hrn hp hw hr he
    go_wp2_with fail
    refine (ruletext_Expr.calls k2 _ _ _ A c _ _ _ HT1.out S1.out.tc.row S1.out.tc.len E2.out).mono ?_
    rintro _ w2 ⟨rfl, hb2⟩
    have S2 := Aside0.mk (S1.out.step hb2)
    have HT2 := Aside0.mk (tab_below HT1.out hb2)
    have BW2 := Aside0.mk (below_step BW1.out hb2)
    clear S1 HT1 BW1 hb2 s0 s1 s2 s3
    obtain ⟨s0, s1, s2, s3⟩ := S2.out.cs
    go_wp2_with fail
    refine (HR.out _ _ _ S2.out.tc).mono ?_
    rintro _ w3 ⟨rfl, hb3⟩
    have S3 := Aside0.mk (S2.out.step hb3)
    have HT3 := Aside0.mk (tab_below HT2.out hb3)
    have BW3 := Aside0.mk (below_step BW2.out hb3)
    clear S2 HT2 BW2 hb3 s0 s1 s2 s3
    obtain ⟨s0, s1, s2, s3⟩ := S3.out.cs
    go_wp2_with fail
    refine (HP.out _).mono ?_
    rintro _ w4 ⟨⟨_, rfl, a4, c4, rfl, l4, f4⟩, hb4⟩
    have B5 := below_alloc hb4 (.cells #[.int .i64 x.f0, .int .i64 x.f1, .string x.f2, .slice a4 x.f3.length c4] 24 (0, 0))
    have X5 := Aside0.mk (TB.new (x := x) l4 f4)
    have S5 := Aside0.mk (S3.out.step B5)
    have HT5 := Aside0.mk (tab_below HT3.out B5)
    have BW5 := Aside0.mk (below_step BW3.out B5)
    clear s0 s1 s2 s3 S3 HT3 BW3 hb4 f4 B5 l4
    generalize hw5 : w4.alloc (.cells #[.int .i64 x.f0, .int .i64 x.f1, .string x.f2, .slice a4 x.f3.length c4] 24 (0, 0)) = W5 at *
    obtain ⟨s0, s1, s2, s3⟩ := S5.out.cs
    obtain ⟨x0, x1, x2, x3⟩ := X5.out.cs
    go_wp2_with fail
    refine (sawmillref44_Same.calls k3 _ _ _ a4 c4 _ _ _ _ A c _ _ _ (Kd.F_now X5.out.row) X5.out.len S5.out.tc.row S5.out.tc.len E3.out).mono ?_
    rintro _ w6 ⟨rfl, hb6⟩
    have HT6 := Aside0.mk (tab_below HT5.out hb6)
    have BW6 := Aside0.mk (below_step BW5.out hb6)
    clear S5 X5 HT5 BW5 hb6 s0 s1 s2 s3 x0 x1 x2 x3
    go_wp2_with fail
    refine (below_awake BW6.out HT6.out).mono ?_
    rintro _ w9 ⟨rfl, hb9⟩
    have BW9 := Aside0.mk hb9
    clear hb9
    go_wp2_with fail
    go_ret
    exact ⟨rfl, BW9.out⟩
  · clear hw he
    obtain rfl : r = ⟨#[]⟩ := hr
    go_wp2_with fail
    refine (ruletext_Expr.calls k2 _ _ _ A c _ _ _ HT1.out S1.out.tc.row S1.out.tc.len E2.out).mono ?_
    rintro _ w2 ⟨rfl, hb2⟩
    have S2 := Aside0.mk (S1.out.step hb2)
    have HT2 := Aside0.mk (tab_below HT1.out hb2)
    have BW2 := Aside0.mk (below_step BW1.out hb2)
    clear S1 HT1 BW1 hb2 s0 s1 s2 s3
    obtain ⟨s0, s1, s2, s3⟩ := S2.out.cs
    go_wp2_with fail
    refine (HR.out _ _ _ S2.out.tc).mono ?_
    rintro _ w3 ⟨rfl, hb3⟩
    have S3 := Aside0.mk (S2.out.step hb3)
    have HT3 := Aside0.mk (tab_below HT2.out hb3)
    have BW3 := Aside0.mk (below_step BW2.out hb3)
    clear S2 HT2 BW2 hb3 s0 s1 s2 s3
    obtain ⟨s0, s1, s2, s3⟩ := S3.out.cs
    go_wp2_with fail
    refine (below_awake BW3.out HT3.out).mono ?_
    rintro _ w9 ⟨rfl, hb9⟩
    have BW9 := Aside0.mk hb9
    clear hb9
    go_wp2_with fail
    go_ret
    exact ⟨rfl, BW9.out⟩
end Go.Proofs.YtmnbbhieodcoeaaDoor.Rt
