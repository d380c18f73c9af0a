/-
 The document's text writes a well-formed tree's pieces.
-/
import Derived.Test.YtmnbbhieodcoeaaDoorRdg
import Derived.Test.YtmnbbhieodcoeaaDoorLawS
namespace Go.Proofs.YtmnbbhieodcoeaaDoor.Rt
open Go.RowKit Go.Proofs.YtmnbbhieodcoeaaDoorW.PrintWords Go.Proofs.YtmnbbhieodcoeaaDoorW.PrintLast Go.Proofs.YtmnbbhieodcoeaaDoorW.PrintMore
open Go.Proofs.YtmnbbhieodcoeaaDoor.PBase Go.Proofs.YtmnbbhieodcoeaaDoor.PScn Go.Proofs.YtmnbbhieodcoeaaDoor.PRex
set_option linter.unusedVariables false
set_option linter.unusedSimpArgs false
def TxtC (x : S24) : Prop := ∀ (w : World) (A : Option Addr) (c : Nat), TC w x A c → Calls Tryd.prog 30 #[.agg #[.int .i64 x.f0, .int .i64 x.f1, .string x.f2, .slice A x.f3.length c]] w fun e w' => e = .returned (.string (mkB (pb (raw dgB x)))) ∧ Below w.heap.size w w'
def WinC (x : S24) : Prop := ∀ (w : World) (A : Option Addr) (c m : Nat), TC w x A c → m ≤ 7 → Calls Tryd.prog 50 #[.agg #[.int .i64 x.f0, .int .i64 x.f1, .string x.f2, .slice A x.f3.length c], .int .i64 ((m : Int) + 1)] w fun e w' => e = .returned (.string (mkB (pb (pcs dgB m x)))) ∧ Below w.heap.size w w'
set_option maxHeartbeats 4000000 in
set_option maxRecDepth 100000 in
theorem win_of {x : S24} (h : TxtC x) (hsz : (pb (raw dgB x)).length ≤ 3191) : WinC x := by
 intro w A c m hx hm
 obtain ⟨S, hS⟩ : ∃ S, mkB (pb (raw dgB x)) = S := ⟨_, rfl⟩
 have hSz : S.size ≤ 3191 := by rw [← hS, size_mkB]; exact hsz
 obtain ⟨R, hR⟩ : ∃ R, mkB (pb (pcs dgB m x)) = R := ⟨_, rfl⟩
 have HR : Aside0 (R = if bind x.f0 < m then mkB (40 :: (bs S ++ [41])) else S) := ⟨by rw [← hR, ← hS]; exact pcs_text m x⟩
 have hb := bind_le x.f0
 have HB := Aside0.mk (rstrength_eq x.f0 0)
 unfold TxtC at h
 rw [hS] at h
 rw [hR]
 clear hS hR hsz
 generalize bind x.f0 = b at *
 have HH := Aside0.mk h
 obtain ⟨W0, hW0⟩ : ∃ W0, W0 = w.alloc (.cells #[.int .i64 x.f0, .int .i64 x.f1, .string x.f2, .slice A x.f3.length c] 24 (0, 0)) := ⟨_, rfl⟩
 have B0 : Below w.heap.size w W0 := hW0 ▸ below_alloc (Below.refl _ _) _
 have S0 : Aside0 (TV W0 w.heap.size x A c) := ⟨hW0 ▸ blk_new w _, hx.step B0⟩
 have BW0 := Aside0.mk B0
 obtain ⟨s0, s1, s2, s3⟩ := S0.out.cs
 clear h hx B0
 have hz1 : 1 + S.size ≤ 9223372036854775807 := by omega
 have hz2 : ((⟨#[40]⟩ : ByteArray) ++ S).size + 1 ≤ 9223372036854775807 := by
  have : ((⟨#[40]⟩ : ByteArray) ++ S).size = 1 + S.size := by rw [← bs_len, bs_append, List.length_append, bs_len, bs_len]; rfl
  omega
 have hp : Aside0 (((⟨#[40]⟩ : ByteArray) ++ S) ++ (⟨#[41]⟩ : ByteArray) = mkB (40 :: (bs S ++ [41]))) := ⟨bs_ext (by rw [bs_append, bs_append, bs_mkB]; rfl)⟩
 by_cases hlt : b < m
 ·have hlt1 : decide ((b : Int) + 1 < (m : Int) + 1) = true := by simp; omega
  have hR : R = ((⟨#[40]⟩ : ByteArray) ++ S) ++ (⟨#[41]⟩ : ByteArray) := by rw [HR.out, if_pos hlt, hp.out]
  subst hR
  clear HR hp
  go_enter Tryd.func50, Tryd.ntmps50
  go_wp2_with fail
  rw [← hW0]
  clear hW0
  refine (sawmillref44_strength.calls 2 _ _ _ HB.out).mono ?_
  rintro _ W1 ⟨rfl, D1⟩
  have S1 := Aside0.mk (S0.out.step D1.below)
  have BW1 := Aside0.mk (below_step BW0.out D1.below)
  clear S0 BW0 D1 s0 s1 s2 s3
  obtain ⟨s0, s1, s2, s3⟩ := S1.out.cs
  go_wp2_with fail
  refine (HH.out _ _ _ S1.out.tc).mono ?_
  rintro _ W2 ⟨rfl, hb2⟩
  have BW2 := Aside0.mk (below_step BW1.out hb2)
  clear S1 BW1 hb2 s0 s1 s2 s3
  go_wp2_with fail
  go_ret
  exact ⟨rfl, BW2.out⟩
 ·have hlt1 : decide ((b : Int) + 1 < (m : Int) + 1) = false := by simp; omega
  have hR : R = S := by rw [HR.out, if_neg hlt]
  subst hR
  clear HR hp
  go_enter Tryd.func50, Tryd.ntmps50
  go_wp2_with fail
  rw [← hW0]
  clear hW0
  refine (sawmillref44_strength.calls 2 _ _ _ HB.out).mono ?_
  rintro _ W1 ⟨rfl, D1⟩
  have S1 := Aside0.mk (S0.out.step D1.below)
  have BW1 := Aside0.mk (below_step BW0.out D1.below)
  clear S0 BW0 D1 s0 s1 s2 s3
  obtain ⟨s0, s1, s2, s3⟩ := S1.out.cs
  go_wp2_with fail
  refine (HH.out _ _ _ S1.out.tc).mono ?_
  rintro _ W2 ⟨rfl, hb2⟩
  have BW2 := Aside0.mk (below_step BW1.out hb2)
  clear S1 BW1 hb2 s0 s1 s2 s3
  go_wp2_with fail
  go_ret
  exact ⟨rfl, BW2.out⟩
theorem box_tv {w : World} {x : S24} {A : Option Addr} {c : Nat} (hx : TC w x A c) : TV (w.alloc (.cells #[.int .i64 x.f0, .int .i64 x.f1, .string x.f2, .slice A x.f3.length c] 24 (0, 0))) w.heap.size x A c :=
 ⟨blk_new w _, hx.step (below_alloc (Below.refl _ _) _)⟩
set_option maxHeartbeats 4000000 in
set_option maxRecDepth 100000 in
theorem txt_num {n : Int} (h0 : -1099511627776 ≤ n) (h1 : n ≤ 1099511627776) : TxtC ⟨1, n, ⟨#[]⟩, []⟩ := by
 intro w A c hx
 obtain ⟨k, hk⟩ := rdigits_f h0 h1
 generalize mkB (pb (raw dgB ⟨1, n, ⟨#[]⟩, []⟩)) = R at *
 have HK := Aside0.mk hk
 have S0 := Aside0.mk (box_tv hx)
 obtain ⟨s0, s1, s2, s3⟩ := S0.out.cs
 clear hx hk h0 h1
 go_enter Tryd.func30, Tryd.ntmps30
 go_wp2_with fail
 refine (sawmillref06_Digits.calls k _ _ _ HK.out).mono ?_
 rintro _ W1 ⟨rfl, D1⟩
 have BW1 := Aside0.mk (below_step (below_alloc (Below.refl _ w) _) D1.below)
 clear D1 S0 s0 s1 s2 s3
 go_wp2_with fail
 go_ret
 exact ⟨rfl, BW1.out⟩
set_option maxHeartbeats 4000000 in
set_option maxRecDepth 100000 in
theorem txt_nam (s : ByteArray) : TxtC ⟨2, 0, s, []⟩ := by
 intro w A c hx
 have e : mkB (pb (raw dgB ⟨2, 0, s, []⟩)) = s := by
  rw [raw, if_neg (by decide)]
  show mkB (bs s ++ []) = s
  rw [List.append_nil, mkB_bs]
 rw [e]
 have S0 := Aside0.mk (box_tv hx)
 obtain ⟨s0, s1, s2, s3⟩ := S0.out.cs
 clear hx e
 go_enter Tryd.func30, Tryd.ntmps30
 go_wp2_with fail
 go_ret
 exact ⟨rfl, by repeat (first | exact Below.refl _ _ | apply below_alloc | apply pw_below_drewN | apply below_drew1)⟩
set_option maxHeartbeats 4000000 in
set_option maxRecDepth 100000 in
theorem txt_neg {a : S24} (h : WinC a) (hsz : (pb (pcs dgB 2 a)).length ≤ 4000) : TxtC ⟨9, 0, ⟨#[]⟩, [a]⟩ := by
 intro w A c hx
 have e : mkB (pb (raw dgB ⟨9, 0, ⟨#[]⟩, [a]⟩)) = (⟨#[110, 111, 116, 32]⟩ : ByteArray) ++ mkB (pb (pcs dgB 2 a)) := by
  apply bs_ext
  rw [bs_append, bs_mkB, bs_mkB, raw, pb, pb]
  rfl
 rw [e]
 have hw : ∀ (w : World) (A : Option Addr) (c : Nat), TC w a A c → Calls Tryd.prog 50 #[.agg #[.int .i64 a.f0, .int .i64 a.f1, .string a.f2, .slice A a.f3.length c], .int .i64 3] w fun e w' => e = .returned (.string (mkB (pb (pcs dgB 2 a)))) ∧ Below w.heap.size w w' := fun w A c h' => h w A c 2 h' (by omega)
 have hz : 4 + (mkB (pb (pcs dgB 2 a))).size ≤ 9223372036854775807 := by rw [size_mkB]; omega
 generalize mkB (pb (pcs dgB 2 a)) = R at *
 have HW := Aside0.mk hw
 have S0 := Aside0.mk (box_tv hx)
 have BW0 : Aside0 (Below w.heap.size w _) := ⟨below_alloc (Below.refl _ w) (.cells #[.int .i64 9, .int .i64 0, .string (⟨#[]⟩ : ByteArray), .slice A 1 c] 24)⟩
 obtain ⟨ad, A3, c3, rfl, p0, p1, p2, p3, hC⟩ := row_at S0.out.tc.row 0 a rfl
 have p0' : World.cell? (w.alloc (.cells #[.int .i64 9, .int .i64 0, .string (⟨#[]⟩ : ByteArray), .slice (some ad) 1 c] 24)) ad = some (.int .i64 a.f0) := p0
 have p1' : World.cell? (w.alloc (.cells #[.int .i64 9, .int .i64 0, .string (⟨#[]⟩ : ByteArray), .slice (some ad) 1 c] 24)) ⟨ad.block, ad.off + 1, none⟩ = some (.int .i64 a.f1) := p1
 have p2' : World.cell? (w.alloc (.cells #[.int .i64 9, .int .i64 0, .string (⟨#[]⟩ : ByteArray), .slice (some ad) 1 c] 24)) ⟨ad.block, ad.off + 2, none⟩ = some (.string a.f2) := p2
 have p3' : World.cell? (w.alloc (.cells #[.int .i64 9, .int .i64 0, .string (⟨#[]⟩ : ByteArray), .slice (some ad) 1 c] 24)) ⟨ad.block, ad.off + 3, none⟩ = some (.slice A3 a.f3.length c3) := p3
 have HC := Aside0.mk hC
 clear hx e h hsz hw p0 p1 p2 p3 hC S0
 go_enter Tryd.func30, Tryd.ntmps30
 go_wp2_with fail
 refine (HW.out _ _ _ HC.out).mono ?_
 rintro _ W1 ⟨rfl, hb1⟩
 have BW1 := Aside0.mk (below_step BW0.out hb1)
 clear hb1 p0' p1' p2' p3' HC BW0
 go_wp2_with fail
 go_ret
 exact ⟨rfl, BW1.out⟩
theorem quiet_drawn {f : FuncId} {args : Array Value} {w : World} {n : Nat} {v : Value} (h : Calls Tryd.prog f args (w.drewN n) fun e w' => e = .returned v ∧ Drawn0 (w.drewN n) w') : Calls Tryd.prog f args (w.drewN n) fun e w' => e = .returned v ∧ ∃ m, w' = w.drewN m :=
 h.mono fun e w' ⟨he, hk⟩ => ⟨he, by obtain ⟨k, rfl⟩ := hk.out; exact ⟨_, World.drewN_drewN ..⟩⟩
def TenC (W : World) (B : Nat) (op : Int) (ad : Addr) (c : Nat) (a b : S24) (A3 A4 : Option Addr) (c3 c4 : Nat) : Prop :=
 W.cell? ⟨B, 0, none⟩ = some (.int .i64 op) ∧ W.cell? ⟨B, 3, none⟩ = some (.slice (some ad) 2 c) ∧
 W.cell? ad = some (.int .i64 a.f0) ∧ W.cell? ⟨ad.block, ad.off + 1, none⟩ = some (.int .i64 a.f1) ∧ W.cell? ⟨ad.block, ad.off + 2, none⟩ = some (.string a.f2) ∧ W.cell? ⟨ad.block, ad.off + 3, none⟩ = some (.slice A3 a.f3.length c3) ∧
 W.cell? ⟨ad.block, ad.off + 4, none⟩ = some (.int .i64 b.f0) ∧ W.cell? ⟨ad.block, ad.off + 4 + 1, none⟩ = some (.int .i64 b.f1) ∧ W.cell? ⟨ad.block, ad.off + 4 + 2, none⟩ = some (.string b.f2) ∧ W.cell? ⟨ad.block, ad.off + 4 + 3, none⟩ = some (.slice A4 b.f3.length c4)
theorem TenC.step {W W' : World} {B : Nat} {op : Int} {ad : Addr} {c : Nat} {a b : S24} {A3 A4 : Option Addr} {c3 c4 : Nat} (h : TenC W B op ad c a b A3 A4 c3 c4) (hb : Below W.heap.size W W') : TenC W' B op ad c a b A3 A4 c3 c4 := by
 obtain ⟨h0, h1, h2, h3, h4, h5, h6, h7, h8, h9⟩ := h
 exact ⟨pw_cell_below hb h0, pw_cell_below hb h1, pw_cell_below hb h2, pw_cell_below hb h3, pw_cell_below hb h4, pw_cell_below hb h5, pw_cell_below hb h6, pw_cell_below hb h7, pw_cell_below hb h8, pw_cell_below hb h9⟩
set_option maxHeartbeats 4000000 in
set_option maxRecDepth 100000 in
theorem txt_two {op : Int} {a b : S24} (hop : 3 ≤ op ∧ op ≤ 8 ∨ op = 10 ∨ op = 11) (ha : WinC a) (hb : WinC b) (za : ∀ m, (pb (pcs dgB m a)).length ≤ 4000) (zb : ∀ m, (pb (pcs dgB m b)).length ≤ 4000) : TxtC ⟨op, 0, ⟨#[]⟩, [a, b]⟩ := by
 intro w A c hx
 have hsg := sgn_len hop
 obtain ⟨L, hL⟩ : ∃ L, mkB (pb (pcs dgB (lft op) a)) = L := ⟨_, rfl⟩
 obtain ⟨R, hR⟩ : ∃ R, mkB (pb (pcs dgB (rgt op) b)) = R := ⟨_, rfl⟩
 obtain ⟨G, hG⟩ : ∃ G, (sgn op).f1 = G := ⟨_, rfl⟩
 have e : mkB (pb (raw dgB ⟨op, 0, ⟨#[]⟩, [a, b]⟩)) = (((L ++ (⟨#[32]⟩ : ByteArray)) ++ G) ++ (⟨#[32]⟩ : ByteArray)) ++ R := by
  rw [← hL, ← hR, ← hG]
  apply bs_ext
  rw [bs_append, bs_append, bs_append, bs_append, bs_mkB, bs_mkB, bs_mkB, raw, pb_app, pb, pb, pb]
  simp [show bs (⟨#[32]⟩ : ByteArray) = [32] from rfl]
 rw [e]
 have zL : L.size ≤ 4000 := by rw [← hL, size_mkB]; exact za _
 have zR : R.size ≤ 4000 := by rw [← hR, size_mkB]; exact zb _
 have zG : G.size ≤ 3 := by rw [← hG, ← bs_len]; exact hsg
 have one : (⟨#[32]⟩ : ByteArray).size = 1 := rfl
 have ap : ∀ x y : ByteArray, (x ++ y).size = x.size + y.size := fun x y => by rw [← bs_len, bs_append, List.length_append, bs_len, bs_len]
 have z1 : L.size + 1 ≤ 9223372036854775807 := by omega
 have z2 : (L ++ (⟨#[32]⟩ : ByteArray)).size + G.size ≤ 9223372036854775807 := by rw [ap, one]; omega
 have z3 : ((L ++ (⟨#[32]⟩ : ByteArray)) ++ G).size + 1 ≤ 9223372036854775807 := by rw [ap, ap, one]; omega
 have z4 : (((L ++ (⟨#[32]⟩ : ByteArray)) ++ G) ++ (⟨#[32]⟩ : ByteArray)).size + R.size ≤ 9223372036854775807 := by rw [ap, ap, ap, one]; omega
 have z2' : L.size + 1 + G.size ≤ 9223372036854775807 := by omega
 have z3' : L.size + 1 + G.size + 1 ≤ 9223372036854775807 := by omega
 have z4' : L.size + 1 + G.size + 1 + R.size ≤ 9223372036854775807 := by omega
 have y1 := eq_false (Nat.not_lt.2 z1)
 have y2 := eq_false (Nat.not_lt.2 z2')
 have y3 := eq_false (Nat.not_lt.2 z3')
 have y4 := eq_false (Nat.not_lt.2 z4')
 have bl := bind_le op
 have hl6 : lft op ≤ 7 := by unfold lft; split <;> omega
 have hr6 : rgt op ≤ 7 := by unfold rgt; split <;> omega
 have HA : Aside0 (∀ (w : World) (A : Option Addr) (c : Nat), TC w a A c → Calls Tryd.prog 50 #[.agg #[.int .i64 a.f0, .int .i64 a.f1, .string a.f2, .slice A a.f3.length c], .int .i64 ((lft op : Int) + 1)] w fun e w' => e = .returned (.string L) ∧ Below w.heap.size w w') := ⟨fun w A c h => hL ▸ ha w A c (lft op) h hl6⟩
 have HB : Aside0 (∀ (w : World) (A : Option Addr) (c : Nat), TC w b A c → Calls Tryd.prog 50 #[.agg #[.int .i64 b.f0, .int .i64 b.f1, .string b.f2, .slice A b.f3.length c], .int .i64 ((rgt op : Int) + 1)] w fun e w' => e = .returned (.string R) ∧ Below w.heap.size w w') := ⟨fun w A c h => hR ▸ hb w A c (rgt op) h hr6⟩
 have HG := Aside0.mk ((rsign_eq hop).trans (congrArg some hG))
 have HS : Aside0 (∀ (w : World) (n : Nat), Calls Tryd.prog 51 #[.int .i64 op] (w.drewN n) fun e w' => e = .returned (.int .i64 (((bind op : Nat) : Int) + 1)) ∧ ∃ m, w' = w.drewN m) := ⟨fun w n => quiet_drawn (sawmillref44_strength.calls 2 _ _ _ (rstrength_eq op 0))⟩
 have hlr : (bind op = 3 ∧ lft op = 4 ∧ rgt op = 4) ∨ (bind op ≠ 3 ∧ lft op = bind op ∧ rgt op = bind op + 1) := by
  unfold lft rgt
  by_cases h : bind op = 3
  ·exact .inl ⟨h, if_pos h, if_pos h⟩
  ·exact .inr ⟨h, if_neg h, if_neg h⟩
 generalize lft op = l at *
 generalize rgt op = r at *
 generalize bind op = q at *
 have S0 := box_tv hx
 have BW0 : Aside0 (Below w.heap.size w _) := ⟨below_alloc (Below.refl _ w) (.cells #[.int .i64 op, .int .i64 0, .string (⟨#[]⟩ : ByteArray), .slice A 2 c] 24)⟩
 have n1 : decide (op = 1) = false := by simp; omega
 have n2 : decide (op = 2) = false := by simp; omega
 have n9 : decide (op = 9) = false := by simp; omega
 have n1' : (op == 1) = false := by simp; omega
 have n2' : (op == 2) = false := by simp; omega
 have n9' : (op == 9) = false := by simp; omega
 have S0' := Aside0.mk S0
 obtain ⟨ad, A3, c3, rfl, p0, p1, p2, p3, hCa⟩ := row_at S0.tc.row 0 a rfl
 obtain ⟨ad', A4, c4, e4, q0, q1, q2, q3, hCb⟩ := row_at S0.tc.row 1 b rfl
 obtain rfl : ad = ad' := Option.some.inj e4
 obtain ⟨s0, _, _, s3⟩ := S0.cs
 obtain ⟨W0, hW0⟩ : ∃ W0, W0 = w.alloc (.cells #[.int .i64 op, .int .i64 0, .string (⟨#[]⟩ : ByteArray), .slice (some ad) 2 c] 24) := ⟨_, rfl⟩
 have CS : Aside0 (TenC W0 w.heap.size op ad c a b A3 A4 c3 c4) := ⟨by subst hW0; exact ⟨s0, s3, p0, p1, p2, p3, q0, q1, q2, q3⟩⟩
 have CA : Aside0 (TC W0 a A3 c3) := ⟨by subst hW0; exact hCa⟩
 have CB : Aside0 (TC W0 b A4 c4) := ⟨by subst hW0; exact hCb⟩
 have BW1 : Aside0 (Below w.heap.size w W0) := ⟨by subst hW0; exact BW0.out⟩
 have C0 := CS.out
 unfold TenC at C0
 obtain ⟨x0, x3, y0, y1, y2, y3, t0, t1, t2, t3⟩ := C0
 clear hx e hL hR hG ha hb za zb hsg hop zL zR zG one ap S0 S0' p0 p1 p2 p3 q0 q1 q2 q3 s0 s3 e4 hCa hCb BW0
 rcases hlr with ⟨rfl, rfl, rfl⟩ | ⟨h3, rfl, rfl⟩
 ·have HA' : Aside0 (∀ (w : World) (A : Option Addr) (c : Nat), TC w a A c → Calls Tryd.prog 50 #[.agg #[.int .i64 a.f0, .int .i64 a.f1, .string a.f2, .slice A a.f3.length c], .int .i64 5] w fun e w' => e = .returned (.string L) ∧ Below w.heap.size w w') := ⟨HA.out⟩
  have HB' : Aside0 (∀ (w : World) (A : Option Addr) (c : Nat), TC w b A c → Calls Tryd.prog 50 #[.agg #[.int .i64 b.f0, .int .i64 b.f1, .string b.f2, .slice A b.f3.length c], .int .i64 5] w fun e w' => e = .returned (.string R) ∧ Below w.heap.size w w') := ⟨HB.out⟩
  clear HA HB
  go_enter Tryd.func30, Tryd.ntmps30
  go_wp2_with fail
  rw [← hW0]
  clear hW0
  go_quiet ((go_at_call 51; exact HS.out _ _))
  go_wp2_with fail
  have BD : Below W0.heap.size W0 (W0.drewN nq) := pw_below_drewN (Below.refl _ _) nq
  have CS1 := Aside0.mk (CS.out.step BD)
  have CA1 := Aside0.mk (CA.out.step BD)
  have CB1 := Aside0.mk (CB.out.step BD)
  have BW2 := Aside0.mk (below_step BW1.out BD)
  clear CS CA CB BW1 BD x0 x3 y0 y1 y2 y3 t0 t1 t2 t3 HS
  generalize W0.drewN nq = W1 at *
  go_region_held3 (fun W => W.cell? ⟨w.heap.size, 0, none⟩ = some (.int .i64 op) ∧ W.cell? ⟨w.heap.size, 3, none⟩ = some (.slice (some ad) 2 c) ∧ W.cell? ad = some (.int .i64 a.f0) ∧ W.cell? ⟨ad.block, ad.off + 1, none⟩ = some (.int .i64 a.f1) ∧ W.cell? ⟨ad.block, ad.off + 2, none⟩ = some (.string a.f2) ∧ W.cell? ⟨ad.block, ad.off + 3, none⟩ = some (.slice A3 a.f3.length c3) ∧ W.cell? ⟨ad.block, ad.off + 4, none⟩ = some (.int .i64 b.f0) ∧ W.cell? ⟨ad.block, ad.off + 4 + 1, none⟩ = some (.int .i64 b.f1) ∧ W.cell? ⟨ad.block, ad.off + 4 + 2, none⟩ = some (.string b.f2) ∧ W.cell? ⟨ad.block, ad.off + 4 + 3, none⟩ = some (.slice A4 b.f3.length c4))
   (first | (refine TenC.step CS1.out ?_; (repeat (first | exact D50.out | exact D42.out | exact D38.out | exact Below.refl _ _ | apply below_alloc | apply pw_below_drewN | apply below_drew1)); done) | fail)
   (first | (go_at_call 50; (with_reducible refine (HA'.out _ A3 c3 (TC.step CA1.out ?ha)).mono ?_); (case ha => (repeat (first | exact Below.refl _ _ | apply below_alloc | apply pw_below_drewN | apply below_drew1)); done); rintro _ W38 ⟨rfl, hb⟩; have D38 : Aside0 (Below W1.heap.size W1 W38) := ⟨by refine below_step ?_ hb; (repeat (first | exact Below.refl _ _ | apply below_alloc | apply pw_below_drewN | apply below_drew1)); done⟩; clear hb) | (go_at_call 52; (with_reducible refine (sawmillref44_sign.calls op _ _ HG.out).mono ?_); rintro _ W42 ⟨rfl, hd⟩; have hb := hd.below; clear hd; have D42 : Aside0 (Below W1.heap.size W1 W42) := ⟨by refine below_step ?_ hb; (repeat (first | exact D38.out | exact Below.refl _ _ | apply below_alloc | apply pw_below_drewN | apply below_drew1)); done⟩; clear hb) | (go_at_call 50; (with_reducible refine (HB'.out _ A4 c4 (TC.step CB1.out ?ha)).mono ?_); (case ha => (repeat (first | exact D42.out | exact D38.out | exact Below.refl _ _ | apply below_alloc | apply pw_below_drewN | apply below_drew1)); done); rintro _ W50 ⟨rfl, hb⟩; have D50 : Aside0 (Below W1.heap.size W1 W50) := ⟨by refine below_step ?_ hb; (repeat (first | exact D42.out | exact D38.out | exact Below.refl _ _ | apply below_alloc | apply pw_below_drewN | apply below_drew1)); done⟩; clear hb) | fail)
  all_goals (go_wp2_with fail; go_ret; exact ⟨rfl, below_step BW2.out D50.out⟩)
 ·obtain ⟨v, hv⟩ : ∃ v : Int, v = (l : Int) + 1 := ⟨_, rfl⟩
  have HA' : Aside0 (∀ (w : World) (A : Option Addr) (c : Nat), TC w a A c → Calls Tryd.prog 50 #[.agg #[.int .i64 a.f0, .int .i64 a.f1, .string a.f2, .slice A a.f3.length c], .int .i64 v] w fun e w' => e = .returned (.string L) ∧ Below w.heap.size w w') := ⟨hv ▸ HA.out⟩
  have HB' : Aside0 (∀ (w : World) (A : Option Addr) (c : Nat), TC w b A c → Calls Tryd.prog 50 #[.agg #[.int .i64 b.f0, .int .i64 b.f1, .string b.f2, .slice A b.f3.length c], .int .i64 (v + 1)] w fun e w' => e = .returned (.string R) ∧ Below w.heap.size w w') := ⟨by rw [hv]; exact HB.out⟩
  have HS' : Aside0 (∀ (w : World) (n : Nat), Calls Tryd.prog 51 #[.int .i64 op] (w.drewN n) fun e w' => e = .returned (.int .i64 v) ∧ ∃ m, w' = w.drewN m) := ⟨hv ▸ HS.out⟩
  have v4 : decide (v = 4) = false := by simp; omega
  have v4' : (v == 4) = false := by simp; omega
  have v0 : -100 ≤ v := by omega
  have v9 : v ≤ 100 := by omega
  clear HA HB HS hv h3 hl6 hr6 bl
  have HS := HS'
  clear HS'
  go_enter Tryd.func30, Tryd.ntmps30
  go_wp2_with fail
  rw [← hW0]
  clear hW0
  go_quiet ((go_at_call 51; exact HS.out _ _))
  go_wp2_with fail
  have BD : Below W0.heap.size W0 (W0.drewN nq) := pw_below_drewN (Below.refl _ _) nq
  have CS1 := Aside0.mk (CS.out.step BD)
  have CA1 := Aside0.mk (CA.out.step BD)
  have CB1 := Aside0.mk (CB.out.step BD)
  have BW2 := Aside0.mk (below_step BW1.out BD)
  clear CS CA CB BW1 BD x0 x3 y0 y1 y2 y3 t0 t1 t2 t3 HS
  generalize W0.drewN nq = W1 at *
  go_region_held3 (fun W => W.cell? ⟨w.heap.size, 0, none⟩ = some (.int .i64 op) ∧ W.cell? ⟨w.heap.size, 3, none⟩ = some (.slice (some ad) 2 c) ∧ W.cell? ad = some (.int .i64 a.f0) ∧ W.cell? ⟨ad.block, ad.off + 1, none⟩ = some (.int .i64 a.f1) ∧ W.cell? ⟨ad.block, ad.off + 2, none⟩ = some (.string a.f2) ∧ W.cell? ⟨ad.block, ad.off + 3, none⟩ = some (.slice A3 a.f3.length c3) ∧ W.cell? ⟨ad.block, ad.off + 4, none⟩ = some (.int .i64 b.f0) ∧ W.cell? ⟨ad.block, ad.off + 4 + 1, none⟩ = some (.int .i64 b.f1) ∧ W.cell? ⟨ad.block, ad.off + 4 + 2, none⟩ = some (.string b.f2) ∧ W.cell? ⟨ad.block, ad.off + 4 + 3, none⟩ = some (.slice A4 b.f3.length c4))
   (first | (refine TenC.step CS1.out ?_; (repeat (first | exact D50.out | exact D42.out | exact D38.out | exact Below.refl _ _ | apply below_alloc | apply pw_below_drewN | apply below_drew1)); done) | fail)
   (first | (go_at_call 50; (with_reducible refine (HA'.out _ A3 c3 (TC.step CA1.out ?ha)).mono ?_); (case ha => (repeat (first | exact Below.refl _ _ | apply below_alloc | apply pw_below_drewN | apply below_drew1)); done); rintro _ W38 ⟨rfl, hb⟩; have D38 : Aside0 (Below W1.heap.size W1 W38) := ⟨by refine below_step ?_ hb; (repeat (first | exact Below.refl _ _ | apply below_alloc | apply pw_below_drewN | apply below_drew1)); done⟩; clear hb) | (go_at_call 52; (with_reducible refine (sawmillref44_sign.calls op _ _ HG.out).mono ?_); rintro _ W42 ⟨rfl, hd⟩; have hb := hd.below; clear hd; have D42 : Aside0 (Below W1.heap.size W1 W42) := ⟨by refine below_step ?_ hb; (repeat (first | exact D38.out | exact Below.refl _ _ | apply below_alloc | apply pw_below_drewN | apply below_drew1)); done⟩; clear hb) | (go_at_call 50; (with_reducible refine (HB'.out _ A4 c4 (TC.step CB1.out ?ha)).mono ?_); (case ha => (repeat (first | exact D42.out | exact D38.out | exact Below.refl _ _ | apply below_alloc | apply pw_below_drewN | apply below_drew1)); done); rintro _ W50 ⟨rfl, hb⟩; have D50 : Aside0 (Below W1.heap.size W1 W50) := ⟨by refine below_step ?_ hb; (repeat (first | exact D42.out | exact D38.out | exact Below.refl _ _ | apply below_alloc | apply pw_below_drewN | apply below_drew1)); done⟩; clear hb) | fail)
  all_goals (go_wp2_with fail; go_ret; exact ⟨rfl, below_step BW2.out D50.out⟩)
end Go.Proofs.YtmnbbhieodcoeaaDoor.Rt
