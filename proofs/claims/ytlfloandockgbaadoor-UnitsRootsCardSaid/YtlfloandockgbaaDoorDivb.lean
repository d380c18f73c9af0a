/-
  math/bits.Div64 returns the quotient and the remainder of the double word by the divisor. For every dividend whose upper half is below the divisor.
-/
import Derived.Test.YtlfloandockgbaaDoorDiv
import Derived.Lib.ItoaNum
namespace Go.Proofs.YtlfloandockgbaaDoor.Uni
open Go.RowKit Go.Proofs.YtlfloandockgbaaDoorW.PrintWords Go.Proofs.YtlfloandockgbaaDoorW.PrintLast Go.Proofs.YtlfloandockgbaaDoorW.PrintMore
open Go.Proofs.YtlfloandockgbaaDoor.PAll
set_option linter.unusedVariables false
set_option linter.unusedSimpArgs false

theorem blen : ∀ (f x : Nat), x ≠ 0 → x < 2 ^ f → ∃ L, Lib.bitLenAux f x = L + 1 ∧ 2 ^ L ≤ x ∧ x < 2 ^ (L + 1) ∧ L + 1 ≤ f
  | 0, x, h0, h => by simp at h; omega
  | f + 1, x, h0, h => by
    unfold Lib.bitLenAux
    rw [if_neg h0]
    by_cases hz : x / 2 = 0
    · rw [hz, Lib.bitLenAux_zero]
      exact ⟨0, rfl, by simp; omega, by simp; omega, by omega⟩
    · obtain ⟨L, e, h1, h2, h3⟩ := blen f (x / 2) hz (by rw [Nat.pow_succ] at h; omega)
      refine ⟨L + 1, by omega, ?_, ?_, by omega⟩
      · rw [Nat.pow_succ]; omega
      · rw [Nat.pow_succ]; omega
theorem rem_wrap (Y u v Q : Nat) (hQ : (4294967296 * u + v) / Y = Q) (hY : 0 < Y) (hY1 : Y < 18446744073709551616) :
    IntKind.u64.wrap ((IntKind.u64.wrap ((IntKind.u64.wrap ((u : Int) * 4294967296)) + (v : Int))) - (IntKind.u64.wrap ((Q : Int) * (Y : Int)))) = (((4294967296 * u + v) % Y : Nat) : Int) := by
  have h := Nat.div_add_mod (4294967296 * u + v) Y
  have hr := Nat.mod_lt (4294967296 * u + v) hY
  rw [hQ, Nat.mul_comm] at h
  rw [← Int.natCast_mul]
  generalize Q * Y = z at *
  generalize (4294967296 * u + v) % Y = r at *
  simp only [wM]
  clear hQ
  omega
theorem dig_start (Y a b R un0 : Nat) (hY0 : Y = 4294967296 * a + b) (ha0 : 2147483648 ≤ a) (ha1 : a < 4294967296) (hb1 : b < 4294967296) (h0 : un0 < 4294967296) (hR : R < Y) :
    Dig Y a b R un0 (R / a) (R % a) ∧ Aside0 (IntKind.u64.wrap (Int.tdiv (R : Int) (a : Int)) = ((R / a : Nat) : Int)) ∧ Aside0 (IntKind.u64.wrap ((R : Int) - IntKind.u64.wrap (((R / a : Nat) : Int) * (a : Int))) = ((R % a : Nat) : Int)) ∧
      ∃ Q0 d, (4294967296 * R + un0) / Y = Q0 ∧ Q0 < 4294967296 ∧ R / a = Q0 + d ∧ d ≤ 2 := by
  have hY : 0 < Y := by omega
  have hdl : R / a ≤ 4294967297 := by
    have : R / a < 4294967298 := by
      rw [Nat.div_lt_iff_lt_mul (by omega)]
      omega
    omega
  have hml := Nat.mod_lt R (show 0 < a by omega)
  have hda := Nat.div_add_mod R a
  have e1 : Aside0 (IntKind.u64.wrap (Int.tdiv (R : Int) (a : Int)) = ((R / a : Nat) : Int)) := ⟨by
    rw [Int.tdiv_eq_ediv_of_nonneg (by omega), ← Int.natCast_ediv]
    generalize R / a = z at *
    exact wN z (by omega)⟩
  have e2 : Aside0 (IntKind.u64.wrap ((R : Int) - IntKind.u64.wrap (((R / a : Nat) : Int) * (a : Int))) = ((R % a : Nat) : Int)) := ⟨by
    rw [← Int.natCast_mul, Nat.mul_comm (R / a) a]
    generalize a * (R / a) = z at *
    generalize R % a = y at *
    rw [wN z (by omega), show (R : Int) - (z : Int) = (y : Int) by omega, wN y (by omega)]⟩
  have D : Dig Y a b R un0 (R / a) (R % a) := ⟨hY0, ha0, ha1, hb1, hR, h0, by omega, hdl, by rw [Nat.mul_comm]; exact hda⟩
  obtain ⟨Q0, hQ0⟩ : ∃ Q0, (4294967296 * R + un0) / Y = Q0 := ⟨_, rfl⟩
  have hge : Q0 ≤ R / a := by
    rcases Nat.lt_or_ge (R / a) Q0 with hlt | hge
    · exfalso
      rw [← hQ0, Nat.lt_iff_add_one_le, Nat.le_div_iff_mul_le hY] at hlt
      have h5 := D.qY
      have h6 := D.sum
      rw [Nat.add_mul, h5] at hlt
      generalize R / a * a = x at *
      generalize R / a * b = y at *
      generalize R % a = z at *
      clear e1 e2 D hQ0 hda
      omega
    · exact hge
  have hQ0l : Q0 < 4294967296 := by
    rw [← hQ0, Nat.div_lt_iff_lt_mul hY]
    clear e1 e2 D hQ0 hda hdl hml
    omega
  obtain ⟨d, hd⟩ : ∃ d, R / a = Q0 + d := ⟨R / a - Q0, by omega⟩
  have hdle : d ≤ 2 := by
    rcases Nat.lt_or_ge 2 d with hlt | hge
    · exfalso
      have hov : 4294967296 * R + un0 < (Q0 + 1) * Y := by
        rw [← Nat.div_lt_iff_lt_mul hY, hQ0]
        omega
      have h5 : (Q0 + 3) * a ≤ R := by
        have : (Q0 + 3) * a ≤ (R / a) * a := Nat.mul_le_mul_right a (by omega)
        have h7 := Nat.div_mul_le_self R a
        omega
      have h6 : Q0 * b ≤ 4294967295 * b := Nat.mul_le_mul_right b (by omega)
      rw [hY0, Nat.add_mul, Nat.mul_add, Nat.mul_left_comm] at hov
      rw [Nat.add_mul] at h5
      generalize Q0 * a = x at *
      generalize Q0 * b = y at *
      clear e1 e2 D hQ0 hda hdl hml hd hR
      omega
    · exact hge
  exact ⟨D, e1, e2, Q0, d, hQ0, hQ0l, hd, hdle⟩
theorem j2_run (k Y s a b u v un0 Q1 : Nat) (hQ : (4294967296 * u + v) / Y = Q1) (hY0 : Y = 4294967296 * a + b) (ha0 : 2147483648 ≤ a) (ha1 : a < 4294967296) (hb1 : b < 4294967296) (h0 : un0 < 4294967296) (hQ1 : Q1 < 4294967296) (hk : 20 ≤ k) :
    bits_Div64.j2 k (Y : Int) (s : Int) (a : Int) (b : Int) (u : Int) (v : Int) (un0 : Int) (Q1 : Int) =
      some (((4294967296 * Q1 + (4294967296 * ((4294967296 * u + v) % Y) + un0) / Y : Nat) : Int), shr .u64 (((4294967296 * ((4294967296 * u + v) % Y) + un0) % Y : Nat) : Int) (s : Int)) := by
  have hY : 0 < Y := by omega
  have hY1 : Y < 18446744073709551616 := by omega
  obtain ⟨k, rfl⟩ : ∃ j, k = j + 1 := ⟨k - 1, by omega⟩
  have hw := rem_wrap Y u v Q1 hQ hY hY1
  have hR := Nat.mod_lt (4294967296 * u + v) hY
  rw [bits_Div64.j2, if_neg (by omega), hw]
  clear hw hQ
  generalize (4294967296 * u + v) % Y = R at *
  obtain ⟨D, e1, e2, Q0, d, hQ0, hQ0l, hd, hdle⟩ := dig_start Y a b R un0 hY0 ha0 ha1 hb1 h0 hR
  rw [e1.out, e2.out]
  have hl := l1_run (Y := Y) (a := a) (b := b) (u := R) (v := un0) s Q0 hQ0 Q1 d k (R / a) (R % a) D hd (by omega)
  have hw0 := rem_wrap Y R un0 Q0 hQ0 hY hY1
  rw [hl, hw0, hQ0]
  congr 2
  clear hl hw0 e1 e2 D hQ0 hd
  simp only [wM]
  omega
theorem div64_run (hi lo y : Nat) (h1 : hi < y) (hy : y < 18446744073709551616) (hlo : lo < 18446744073709551616) (k : Nat) (hk : 60 ≤ k) :
    bits_Div64.f k (hi : Int) (lo : Int) (y : Int) = some ((((18446744073709551616 * hi + lo) / y : Nat) : Int), (((18446744073709551616 * hi + lo) % y : Nat) : Int)) := by
  unfold bits_Div64.f
  rw [if_neg (by omega), if_neg (by omega)]
  by_cases hz : hi = 0
  · subst hz
    rw [if_pos (by rfl), Int.tdiv_eq_ediv_of_nonneg (by omega), Int.tmod_eq_emod_of_nonneg (by omega), ← Int.natCast_ediv, ← Int.natCast_emod, Nat.mul_zero, Nat.zero_add]
    rw [wN]
    exact Nat.lt_of_le_of_lt (Nat.div_le_self lo y) hlo
  rw [if_neg (by omega)]
  obtain ⟨L, hL, hp1, hp2, hL64⟩ := blen 64 y (by omega) hy
  obtain ⟨s, hs⟩ : ∃ s, s + (L + 1) = 64 := ⟨64 - (L + 1), by omega⟩
  have hlz : bits_LeadingZeros64.f (y : Int) = some (s : Int) := by
    unfold bits_LeadingZeros64.f
    rw [if_pos (by omega), Int.toNat_natCast]
    unfold Lib.bitLen
    rw [hL]
    congr 1
    omega
  rw [hlz, Option.bind_some, wN s (by omega), if_pos (by omega)]
  have h64s : Aside0 (IntKind.u64.wrap (64 - (s : Int)) = ((64 - s : Nat) : Int)) := ⟨by rw [show (64 : Int) - (s : Int) = ((64 - s : Nat) : Int) by omega, wN _ (by omega)]⟩
  rw [h64s.out, if_pos (by omega)]
  clear h64s hlz
  have hPP : 2 ^ s * 2 ^ (64 - s) = 18446744073709551616 := by rw [← Nat.pow_add, show s + (64 - s) = 64 by omega]
  have hP0 : 0 < 2 ^ s := Nat.pow_pos (by decide)
  have hP1 : 0 < 2 ^ (64 - s) := Nat.pow_pos (by decide)
  have hyP : y * 2 ^ s < 18446744073709551616 := by
    have : y * 2 ^ s < 2 ^ (L + 1) * 2 ^ s := Nat.mul_lt_mul_of_pos_right hp2 hP0
    rw [← Nat.pow_add, show L + 1 + s = 64 by omega] at this
    exact this
  have hyP0 : 9223372036854775808 ≤ y * 2 ^ s := by
    have : 2 ^ L * 2 ^ s ≤ y * 2 ^ s := Nat.mul_le_mul_right _ hp1
    rw [← Nat.pow_add, show L + s = 63 by omega] at this
    exact this
  have hiP : hi * 2 ^ s + 2 ^ s ≤ y * 2 ^ s := by
    have : (hi + 1) * 2 ^ s ≤ y * 2 ^ s := Nat.mul_le_mul_right _ h1
    rw [Nat.add_mul, Nat.one_mul] at this
    exact this
  have hloq : lo / 2 ^ (64 - s) < 2 ^ s := by
    rw [Nat.div_lt_iff_lt_mul hP1, hPP]
    exact hlo
  have hcast : ∀ x : Nat, (x : Int) * 2 ^ s = ((x * 2 ^ s : Nat) : Int) := by
    intro x
    rw [Int.natCast_mul, Int.natCast_pow]
    rfl
  have hshl : ∀ x : Nat, shl .u64 (x : Int) (s : Int) = ((x * 2 ^ s % 18446744073709551616 : Nat) : Int) := by
    intro x
    unfold shl
    rw [Int.toNat_natCast, Nat.min_eq_left (show s ≤ IntKind.u64.bits by show s ≤ 64; omega), hcast, wM, Int.natCast_emod]
    rfl
  have hshr : shr .u64 (lo : Int) ((64 - s : Nat) : Int) = ((lo / 2 ^ (64 - s) : Nat) : Int) := by
    unfold shr
    rw [Int.toNat_natCast, Nat.min_eq_left (show 64 - s ≤ IntKind.u64.bits by show 64 - s ≤ 64; omega), Int.natCast_ediv, Int.natCast_pow]
    rfl
  have hshr2 : ∀ r : Nat, shr .u64 (r : Int) (s : Int) = ((r / 2 ^ s : Nat) : Int) := by
    intro r
    unfold shr
    rw [Int.toNat_natCast, Nat.min_eq_left (show s ≤ IntKind.u64.bits by show s ≤ 64; omega), Int.natCast_ediv, Int.natCast_pow]
    rfl
  have hloM := Nat.div_add_mod (lo * 2 ^ s) 18446744073709551616
  have hloP : lo * 2 ^ s / 18446744073709551616 = lo / 2 ^ (64 - s) := by
    rw [← hPP, Nat.mul_comm (2 ^ s), Nat.mul_div_mul_right _ _ hP0]
  rw [hloP] at hloM
  have hor : ∀ z : Nat, z < 2 ^ s → hi * 2 ^ s ||| z = hi * 2 ^ s + z := by
    intro z hzl
    rw [Nat.mul_comm]
    exact (Nat.two_pow_add_eq_or_of_lt hzl hi).symm
  have hmask : ∀ z : Nat, z < 18446744073709551616 → bits .and .u64 (z : Int) 4294967295 = ((z % 4294967296 : Nat) : Int) := by
    intro z hzl
    have h := bits_and_u64_nat z 4294967295 hzl (by omega)
    rw [show z &&& 4294967295 = z % 4294967296 from Nat.and_two_pow_sub_one_eq_mod z 32] at h
    exact h
  rw [hshl y, hshl hi, hshl lo, hshr, Nat.mod_eq_of_lt hyP, Nat.mod_eq_of_lt (show hi * 2 ^ s < 18446744073709551616 by omega)]
  have hq := hor _ hloq
  have hNP : (18446744073709551616 * hi + lo) * 2 ^ s = 18446744073709551616 * (hi * 2 ^ s + lo / 2 ^ (64 - s)) + lo * 2 ^ s % 18446744073709551616 := by
    rw [Nat.add_mul, Nat.mul_assoc, Nat.mul_add, Nat.add_assoc]
    congr 1
    exact hloM.symm
  have hbor : bits .or .u64 ((hi * 2 ^ s : Nat) : Int) ((lo / 2 ^ (64 - s) : Nat) : Int) = ((hi * 2 ^ s + lo / 2 ^ (64 - s) : Nat) : Int) := by
    rw [bits_or_u64_nat _ _ (by omega) (by omega), hq]
  rw [hbor]
  have hu : hi * 2 ^ s + lo / 2 ^ (64 - s) < y * 2 ^ s := by omega
  have hlm := Nat.mod_lt (lo * 2 ^ s) (show 0 < 18446744073709551616 by decide)
  rw [hmask _ hyP, hmask _ hlm]
  have hdiv := Nat.mul_div_mul_right (m := 2 ^ s) (18446744073709551616 * hi + lo) y hP0
  have hmod := Nat.mul_mod_mul_right (2 ^ s) (18446744073709551616 * hi + lo) y
  rw [hNP] at hdiv hmod
  rw [← hdiv]
  have hmod2 : (18446744073709551616 * hi + lo) % y = (18446744073709551616 * (hi * 2 ^ s + lo / 2 ^ (64 - s)) + lo * 2 ^ s % 18446744073709551616) % (y * 2 ^ s) / 2 ^ s := by
    rw [hmod, Nat.mul_div_cancel _ hP0]
  rw [hmod2]
  clear hmod hmod2 hdiv hNP hq hor hmask hloM hloP hbor hshl hshr hcast hloq hiP hPP hP1
  generalize hi * 2 ^ s + lo / 2 ^ (64 - s) = u at *
  generalize lo * 2 ^ s % 18446744073709551616 = w at *
  generalize y * 2 ^ s = Y at *
  have ca : ((Y : Nat) : Int) / 4294967296 = ((Y / 4294967296 : Nat) : Int) := by omega
  have cw : ((w : Nat) : Int) / 4294967296 = ((w / 4294967296 : Nat) : Int) := by omega
  rw [ca, cw, if_neg (by omega)]
  obtain ⟨a, ha⟩ : ∃ a, Y / 4294967296 = a := ⟨_, rfl⟩
  obtain ⟨b, hb⟩ : ∃ a, Y % 4294967296 = a := ⟨_, rfl⟩
  obtain ⟨v, hv⟩ : ∃ a, w / 4294967296 = a := ⟨_, rfl⟩
  obtain ⟨un0, hun⟩ : ∃ a, w % 4294967296 = a := ⟨_, rfl⟩
  rw [ha, hb, hv, hun]
  have hYab : Y = 4294967296 * a + b := by omega
  have hwvu : w = 4294967296 * v + un0 := by omega
  have ba0 : 2147483648 ≤ a := by omega
  have ba1 : a < 4294967296 := by omega
  have bb1 : b < 4294967296 := by omega
  have bv : v < 4294967296 := by omega
  have bu : un0 < 4294967296 := by omega
  clear ca cw ha hb hv hun
  obtain ⟨D, e1, e2, Q1, d, hQ1, hQ1l, hd, hdle⟩ := dig_start Y a b u v hYab ba0 ba1 bb1 bv hu
  rw [e1.out, e2.out]
  obtain ⟨k', hk', h0⟩ := l0_run (Y := Y) (a := a) (b := b) (u := u) (v := v) s un0 Q1 hQ1 20 d k (u / a) (u % a) D hd (by omega)
  rw [h0, j2_run k' Y s a b u v un0 Q1 hQ1 hYab ba0 ba1 bb1 bu hQ1l hk', hshr2]
  clear h0 e1 e2 D hshr2
  have hY : 0 < Y := by omega
  have x1 := Nat.div_add_mod (4294967296 * u + v) Y
  rw [hQ1] at x1
  have x0 := Nat.div_add_mod (4294967296 * ((4294967296 * u + v) % Y) + un0) Y
  have xr := Nat.mod_lt (4294967296 * ((4294967296 * u + v) % Y) + un0) hY
  generalize (4294967296 * ((4294967296 * u + v) % Y) + un0) / Y = Q0 at *
  generalize (4294967296 * ((4294967296 * u + v) % Y) + un0) % Y = R0 at *
  generalize (4294967296 * u + v) % Y = R1 at *
  have hU : 18446744073709551616 * u + w = Y * (4294967296 * Q1 + Q0) + R0 := by
    rw [Nat.mul_add, Nat.mul_left_comm]
    generalize Y * Q1 = p at *
    generalize Y * Q0 = q at *
    omega
  have hd1 : (18446744073709551616 * u + w) / Y = 4294967296 * Q1 + Q0 := by
    rw [hU, Nat.mul_add_div hY, Nat.div_eq_of_lt xr, Nat.add_zero]
  have hm1 : (18446744073709551616 * u + w) % Y = R0 := by
    rw [hU, Nat.mul_add_mod, Nat.mod_eq_of_lt xr]
  rw [hd1, hm1]
end Go.Proofs.YtlfloandockgbaaDoor.Uni
