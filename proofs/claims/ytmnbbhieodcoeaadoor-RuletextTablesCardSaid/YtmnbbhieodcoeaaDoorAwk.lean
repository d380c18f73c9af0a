/-
 awake: all its examples are met.
-/
import Derived.Test.YtmnbbhieodcoeaaDoorAwk5
import Derived.Test.YtmnbbhieodcoeaaDoorAwk6
import Derived.Test.YtmnbbhieodcoeaaDoorEv2
import Derived.Test.YtmnbbhieodcoeaaDoorSmc
namespace Go.Proofs.YtmnbbhieodcoeaaDoor.Rt
open Go.RowKit Go.Proofs.YtmnbbhieodcoeaaDoorW.PrintWords Go.Proofs.YtmnbbhieodcoeaaDoorW.PrintLast Go.Proofs.YtmnbbhieodcoeaaDoorW.PrintMore
open Go.Proofs.YtmnbbhieodcoeaaDoor.PBase Go.Proofs.YtmnbbhieodcoeaaDoor.PScn Go.Proofs.YtmnbbhieodcoeaaDoor.PTxt
set_option linter.unusedVariables false
set_option linter.unusedSimpArgs false
def LT (W : World) (A : Option Addr) (c : Nat) : Prop := exL.length ≤ c ∧ Kd.F k58 W (fun _ => True) A exL.length exL
theorem LT.cell {W : World} {A : Option Addr} {c : Nat} (h : LT W A c) : ∃ ad, A = some ad ∧ W.cell? ⟨ad.block, ad.off + 5, none⟩ = some (.int .i64 2) := by
 obtain ⟨ad, _, _, e, h0, _⟩ := at_T58 (Kd.F_now h.2) 1 (by decide) (by decide)
 exact ⟨ad, e, h0⟩
theorem LT.step {W W' : World} {A : Option Addr} {c : Nat} (h : LT W A c) (hb : Below W.heap.size W W') : LT W' A c := ⟨h.1, Kd.F_below h.2 hb⟩
set_option maxHeartbeats 40000000 in
set_option maxRecDepth 100000 in
theorem awake_any (w : World) (hT : Tab w) : Calls Tryd.prog 10 #[] w fun e w' => e = .returned (.bool true) ∧ Below w.heap.size w w' := by
 have HT := Aside0.mk hT
 have HPa := Aside0.mk (fun w => parse_any 200 _ _ 0 0 ev_pa w)
 have HP1 := Aside0.mk (fun w => parseExpr_any 200 _ _ 5 6 ev_pe1 w)
 have HP2 := Aside0.mk (fun w => parseExpr_any 200 _ _ 6 6 ev_pe2 w)
 have HX := Aside0.mk (fun s w => xv_any s w)
 clear hT
 go_enter Tryd.func10, Tryd.ntmps10
 go_wp2_with fail
 refine (HX.out _ _).mono ?_
 obtain ⟨x, hx⟩ : ∃ x, nam (⟨#[97]⟩ : ByteArray) = x := ⟨_, rfl⟩
 rw [hx]
 rintro _ w1 ⟨⟨_, rfl, a1, c1, rfl, l1, f1⟩, hb1⟩
 go_wp2_with fail
 refine (HX.out _ _).mono ?_
 obtain ⟨y, hy⟩ : ∃ x, nam (⟨#[98]⟩ : ByteArray) = x := ⟨_, rfl⟩
 rw [hy]
 rintro _ w2 ⟨⟨_, rfl, a2, c2, rfl, l2, f2⟩, hb2⟩
 go_wp2_with fail
 refine (HX.out _ _).mono ?_
 obtain ⟨z, hz⟩ : ∃ x, nam (⟨#[99]⟩ : ByteArray) = x := ⟨_, rfl⟩
 rw [hz]
 rintro _ w3 ⟨⟨_, rfl, a3, c3, rfl, l3, f3⟩, hb3⟩
 obtain ⟨X, hX⟩ : ∃ X, exX x y z = X := ⟨_, rfl⟩
 obtain ⟨Y, hY⟩ : ∃ Y, exY x y z = Y := ⟨_, rfl⟩
 obtain ⟨Z, hZ⟩ : ∃ Z, exZ = Z := ⟨_, rfl⟩
 have V1 : Aside0 (ruletext_Expr.f 300 X.f0 X.f1 X.f2 X.f3 = some (⟨#[110, 111, 116, 32, 97, 32, 61, 32, 98, 32, 111, 114, 32, 99, 32, 60, 32, 51]⟩ : ByteArray)) := ⟨by rw [← hX, ← hx, ← hy, ← hz]; exact ev_x⟩
 have V2 : Aside0 (ruletext_Expr.f 300 Y.f0 Y.f1 Y.f2 Y.f3 = some (⟨#[40, 97, 32, 43, 32, 49, 41, 32, 42, 32, 40, 98, 32, 45, 32, 40, 99, 32, 45, 32, 45, 50, 41, 41]⟩ : ByteArray)) := ⟨by rw [← hY, ← hx, ← hy, ← hz]; exact ev_y⟩
 have V3 : Aside0 (ruletext_Same.f 300 Z.f0 Z.f1 Z.f2 Z.f3 X.f0 X.f1 X.f2 X.f3 = some true) := ⟨by rw [← hZ, ← hX, ← hx, ← hy, ← hz]; exact ev_zx⟩
 have V4 : Aside0 (ruletext_Same.f 300 X.f0 X.f1 X.f2 X.f3 Y.f0 Y.f1 Y.f2 Y.f3 = some false) := ⟨by rw [← hX, ← hY, ← hx, ← hy, ← hz]; exact ev_xy⟩
 have hp3 : PEs 200 (⟨#[97, 32, 33, 61, 32, 98, 32, 111, 114, 32, 99, 32, 60, 32, 51]⟩ : ByteArray) = some (Z, 0, 0) := hZ ▸ ev_pe3
 have HP3 := Aside0.mk (fun w => parseExpr_any 200 _ Z 0 0 hp3 w)
 clear hp3
 have EX := Aside0.mk hX
 have EY := Aside0.mk hY
 have EZ := Aside0.mk hZ
 clear hX hY hZ hx hy hz
 have BB := below_alloc (below_alloc (below_alloc (Below.refl _ w3) (.cells #[.int .i64 x.f0, .int .i64 x.f1, .string x.f2, .slice a1 x.f3.length c1] 24 (0, 0))) (.cells #[.int .i64 y.f0, .int .i64 y.f1, .string y.f2, .slice a2 y.f3.length c2] 24 (0, 0))) (.cells #[.int .i64 z.f0, .int .i64 z.f1, .string z.f2, .slice a3 z.f3.length c3] 24 (0, 0))
 have T1 : Aside0 (T3 (((w3.alloc (.cells #[.int .i64 x.f0, .int .i64 x.f1, .string x.f2, .slice a1 x.f3.length c1] 24 (0, 0))).alloc (.cells #[.int .i64 y.f0, .int .i64 y.f1, .string y.f2, .slice a2 y.f3.length c2] 24 (0, 0))).alloc (.cells #[.int .i64 z.f0, .int .i64 z.f1, .string z.f2, .slice a3 z.f3.length c3] 24 (0, 0))) w3.heap.size (w3.heap.size + 1) (w3.heap.size + 1 + 1) x y z a1 a2 a3 c1 c2 c3) :=
  ⟨⟨⟨blk_alloc (blk_alloc (blk_new w3 _) _) _, l1, Kd.F_below (Kd.F_mono (Kd.F_below (Kd.F_below f1 hb2) hb3) (fun _ _ => trivial)) BB⟩, ⟨blk_alloc (blk_top _ _ (by rw [size_alloc])) _, l2, Kd.F_below (Kd.F_mono (Kd.F_below f2 hb3) (fun _ _ => trivial)) BB⟩, ⟨blk_top _ _ (by rw [size_alloc, size_alloc]), l3, Kd.F_below (Kd.F_mono f3 (fun _ _ => trivial)) BB⟩⟩⟩
 have BW := Aside0.mk (below_step (below_step (below_step hb1 hb2) hb3) BB)
 clear hb1 hb2 hb3 f1 f2 f3 BB l1 l2 l3
 generalize hg1 : w3.heap.size = g1 at T1
 go_wp2_with fail
 refine (HPa.out _).mono ?_
 rintro _ w4 ⟨⟨A4, c4, rfl, l4, f4⟩, hb4⟩
 have T4 := Aside0.mk (T1.out.step hb4)
 have L4 : Aside0 (LT w4 A4 c4) := ⟨l4, Kd.F_mono f4 (fun _ _ => trivial : ∀ k, _ → (fun _ => True) k)⟩
 have BW4 := Aside0.mk (below_step BW.out hb4)
 clear T1 hb4 f4 l4 BW
 go_wp2_with fail
 refine (HP1.out _).mono ?_
 rintro _ w5 ⟨⟨_, rfl, a5, c5, rfl, l5, f5⟩, hb5⟩
 have T5 := Aside0.mk (T4.out.step hb5)
 have L5 := Aside0.mk (L4.out.step hb5)
 have BW5 := Aside0.mk (below_step BW4.out hb5)
 clear T4 L4 hb5 f5 l5 BW4
 go_wp2_with fail
 refine (HP2.out _).mono ?_
 rintro _ w6 ⟨⟨_, rfl, a6, c6, rfl, l6, f6⟩, hb6⟩
 have B6 := below_step (below_alloc (Below.refl _ w5) (.cells #[.int .i64 0, .int .i64 0, .string ⟨#[]⟩, .slice a5 0 c5] 24 (0, 0))) hb6
 have T6 := Aside0.mk (T5.out.step B6)
 have L6 := Aside0.mk (L5.out.step B6)
 have BW6 := Aside0.mk (below_step BW5.out B6)
 clear T5 L5 hb6 f6 l6 BW5 B6
 go_wp2_with fail
 refine Code.wp_mono ?hm (reg5 (x := x) (y := y) (z := z) (a1 := a1) (a2 := a2) (a3 := a3) (c1 := c1) (c2 := c2) (c3 := c3) ?ht _ _ _ _ _ _ _ _ _ _ _ _ _ _ _ _ _ _ _ _ _ _ _ _ _ _ _ _)
 case ht => exact T6.out.step (by (repeat (first | exact Below.refl _ _ | apply below_alloc | apply pw_below_drewN | apply below_drew1)); done)
 rintro e a w7 ⟨rfl, B7, A7, c7, t36, t37, t38, t39, t40, t41, t42, t43, t44, t45, t46, t47, rfl, hX7, hb7⟩
 have B7b : Below w6.heap.size w6 w7 := below_step (by (repeat (first | exact Below.refl _ _ | apply below_alloc | apply pw_below_drewN | apply below_drew1)); done) hb7
 have X7 : Aside0 (TB w7 B7 X A7 c7) := ⟨EX.out ▸ hX7⟩
 have T7 := Aside0.mk (T6.out.step B7b)
 have L7 := Aside0.mk (L6.out.step B7b)
 have BW7 := Aside0.mk (below_step BW6.out B7b)
 clear T6 L6 BW6 hX7 hb7 B7b
 go_wp2_with fail
 refine Code.wp_mono ?hm6 (reg6 (x := x) (y := y) (z := z) (a1 := a1) (a2 := a2) (a3 := a3) (c1 := c1) (c2 := c2) (c3 := c3) ?ht6 _ _ _ _ _ _ _ _ _ _ _ _ _ _ _ _ _ _ _ _ _ _ _ _ _ _ _ _ _ _ _ _ _ _ _ _ _ _ _ _ _)
 case ht6 => exact T7.out.step (by (repeat (first | exact Below.refl _ _ | apply below_alloc | apply pw_below_drewN | apply below_drew1)); done)
 rintro e a w8 ⟨rfl, B8, A8, c8, t48, t49, t50, t51, t52, t53, t54, t55, t56, t57, t58, t59, t60, rfl, hY8, hb8⟩
 have B8b : Below w7.heap.size w7 w8 := below_step (by (repeat (first | exact Below.refl _ _ | apply below_alloc | apply pw_below_drewN | apply below_drew1)); done) hb8
 have X8 := Aside0.mk (X7.out.step B8b)
 have Y8 : Aside0 (TB w8 B8 Y A8 c8) := ⟨EY.out ▸ hY8⟩
 have T8 := Aside0.mk (T7.out.step B8b)
 have L8 := Aside0.mk (L7.out.step B8b)
 have BW8 := Aside0.mk (below_step BW7.out B8b)
 clear T7 L7 BW7 X7 hY8 hb8 B8b
 go_wp2_with fail
 refine (HP3.out _).mono ?_
 rintro _ w9 ⟨⟨_, rfl, a9, c9, rfl, l9, f9⟩, hb9⟩
 have B9 := below_alloc hb9 (.cells #[.int .i64 Z.f0, .int .i64 Z.f1, .string Z.f2, .slice a9 Z.f3.length c9] 24 (0, 0))
 have X9 := Aside0.mk (X8.out.step B9)
 have Y9 := Aside0.mk (Y8.out.step B9)
 have L9 := Aside0.mk (L8.out.step B9)
 have Z9 := Aside0.mk (TB.new (x := Z) l9 f9)
 have BW9 := Aside0.mk (below_step BW8.out B9)
 have HT9 := Aside0.mk (tab_below HT.out BW9.out)
 clear T8 L8 BW8 X8 Y8 hb9 f9 l9 B9 HT
 generalize hw9 : w9.alloc (.cells #[.int .i64 Z.f0, .int .i64 Z.f1, .string Z.f2, .slice a9 Z.f3.length c9] 24 (0, 0)) = W9 at *
 obtain ⟨ad, rfl, hl1⟩ := L9.out.cell
 obtain ⟨xq0, xq1, xq2, xq3⟩ := X9.out.cs
 go_wp2_with fail
 refine (ruletext_Expr.calls 300 _ _ _ A7 c7 _ _ _ HT9.out (Kd.F_now X9.out.row) X9.out.len V1.out).mono ?_
 rintro _ w10 ⟨rfl, hb10⟩
 have X10 := Aside0.mk (X9.out.step hb10)
 have Y10 := Aside0.mk (Y9.out.step hb10)
 have Z10 := Aside0.mk (Z9.out.step hb10)
 have L10 := Aside0.mk (L9.out.step hb10)
 have BW10 := Aside0.mk (below_step BW9.out hb10)
 have HT10 := Aside0.mk (tab_below HT9.out hb10)
 clear X9 Y9 Z9 L9 BW9 HT9 hb10 hl1 hw9
 try clear xq0 xq1 xq2 xq3
 try clear yq0 yq1 yq2 yq3
 try clear zq0 zq1 zq2 zq3
 obtain ⟨yq0, yq1, yq2, yq3⟩ := Y10.out.cs
 go_wp2_with fail
 refine (ruletext_Expr.calls 300 _ _ _ A8 c8 _ _ _ HT10.out (Kd.F_now Y10.out.row) Y10.out.len V2.out).mono ?_
 rintro _ w11 ⟨rfl, hb11⟩
 have X11 := Aside0.mk (X10.out.step hb11)
 have Y11 := Aside0.mk (Y10.out.step hb11)
 have Z11 := Aside0.mk (Z10.out.step hb11)
 have L11 := Aside0.mk (L10.out.step hb11)
 have BW11 := Aside0.mk (below_step BW10.out hb11)
 have HT11 := Aside0.mk (tab_below HT10.out hb11)
 clear X10 Y10 Z10 L10 BW10 HT10 hb11
 try clear xq0 xq1 xq2 xq3
 try clear yq0 yq1 yq2 yq3
 try clear zq0 zq1 zq2 zq3
 obtain ⟨zq0, zq1, zq2, zq3⟩ := Z11.out.cs
 obtain ⟨xq0, xq1, xq2, xq3⟩ := X11.out.cs
 go_wp2_with fail
 refine (same20_calls 300 _ _ _ a9 c9 _ _ _ _ A7 c7 _ _ _ (Kd.F_now Z11.out.row) Z11.out.len (Kd.F_now X11.out.row) X11.out.len V3.out).mono ?_
 rintro _ w12 ⟨rfl, hb12⟩
 have X12 := Aside0.mk (X11.out.step hb12)
 have Y12 := Aside0.mk (Y11.out.step hb12)
 have Z12 := Aside0.mk (Z11.out.step hb12)
 have L12 := Aside0.mk (L11.out.step hb12)
 have BW12 := Aside0.mk (below_step BW11.out hb12)
 have HT12 := Aside0.mk (tab_below HT11.out hb12)
 clear X11 Y11 Z11 L11 BW11 HT11 hb12
 try clear xq0 xq1 xq2 xq3
 try clear yq0 yq1 yq2 yq3
 try clear zq0 zq1 zq2 zq3
 obtain ⟨xq0, xq1, xq2, xq3⟩ := X12.out.cs
 obtain ⟨yq0, yq1, yq2, yq3⟩ := Y12.out.cs
 go_wp2_with fail
 refine (same20_calls 300 _ _ _ A7 c7 _ _ _ _ A8 c8 _ _ _ (Kd.F_now X12.out.row) X12.out.len (Kd.F_now Y12.out.row) Y12.out.len V4.out).mono ?_
 rintro _ w13 ⟨rfl, hb13⟩
 have X13 := Aside0.mk (X12.out.step hb13)
 have Y13 := Aside0.mk (Y12.out.step hb13)
 have Z13 := Aside0.mk (Z12.out.step hb13)
 have L13 := Aside0.mk (L12.out.step hb13)
 have BW13 := Aside0.mk (below_step BW12.out hb13)
 have HT13 := Aside0.mk (tab_below HT12.out hb13)
 clear X12 Y12 Z12 L12 BW12 HT12 hb13
 try clear xq0 xq1 xq2 xq3
 try clear yq0 yq1 yq2 yq3
 try clear zq0 zq1 zq2 zq3
 go_wp2_with fail
 refine (ruletext_Format.calls 300 (some ad) c4 exL _ _ HT13.out (Kd.F_now L13.out.2) L13.out.1 ev_l).mono ?_
 rintro _ w14 ⟨rfl, hb14⟩
 have X14 := Aside0.mk (X13.out.step hb14)
 have Y14 := Aside0.mk (Y13.out.step hb14)
 have Z14 := Aside0.mk (Z13.out.step hb14)
 have L14 := Aside0.mk (L13.out.step hb14)
 have BW14 := Aside0.mk (below_step BW13.out hb14)
 have HT14 := Aside0.mk (tab_below HT13.out hb14)
 clear X13 Y13 Z13 L13 BW13 HT13 hb14
 try clear xq0 xq1 xq2 xq3
 try clear yq0 yq1 yq2 yq3
 try clear zq0 zq1 zq2 zq3
 go_wp2_with fail
 refine (HX.out _ _).mono ?_
 rintro _ w15 ⟨⟨_, rfl, a15, c15, rfl, l15, f15⟩, hb15⟩
 have BW15 := Aside0.mk (below_step BW14.out hb15)
 have HT15 := Aside0.mk (tab_below HT14.out hb15)
 have L15 := Aside0.mk l15
 have F15 := Aside0.mk f15
 clear X14 Y14 Z14 L14 BW14 HT14 hb15 l15 f15
 go_wp2_with fail
 refine (ruletext_Expr.calls 300 _ _ _ a15 c15 _ _ _ HT15.out (Kd.F_now F15.out) L15.out ev_and).mono ?_
 rintro _ w16 ⟨rfl, hb16⟩
 have BW16 := Aside0.mk (below_step BW15.out hb16)
 clear BW15 HT15 hb16 L15 F15
 go_wp2_with fail
 go_ret
 exact ⟨rfl, BW16.out⟩
end Go.Proofs.YtmnbbhieodcoeaaDoor.Rt
