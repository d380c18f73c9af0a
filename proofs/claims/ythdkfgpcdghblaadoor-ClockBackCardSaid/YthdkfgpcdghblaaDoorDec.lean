/-
  Dec: the reference's Decimal with no decimals shows the plain numeral. For numbers from 0 to 10000000.
-/
import Derived.Test.YthdkfgpcdghblaaDoorDigits2
namespace Go.Proofs.YthdkfgpcdghblaaDoor.Cal
open Go.RowKit Go.Proofs.YthdkfgpcdghblaaDoorW.PrintWords Go.Proofs.YthdkfgpcdghblaaDoorW.PrintLast Go.Proofs.YthdkfgpcdghblaaDoorW.PrintMore
open Go.Proofs.YthdkfgpcdghblaaDoor.PAll Go.Proofs.YthdkfgpcdghblaaDoor.CMath
set_option linter.unusedVariables false
set_option linter.unusedSimpArgs false

/-- The digits of a number as bytes, the last first. -/
def Lr (u : Nat) : List Int := (Lib.decDigits u).reverse.map fun b => (b.toNat : Int)
theorem ofNat_toNat {n : Nat} (h : n < 256) : (UInt8.ofNat n).toNat = n := by
  rw [UInt8.toNat_ofNat']
  omega
theorem Lr_small {u : Nat} (h : u < 10) : Lr u = [48 + (u : Int)] := by
  unfold Lr
  rw [Lib.decDigits_one h]
  simp only [List.reverse_cons, List.reverse_nil, List.nil_append, List.map_cons, List.map_nil]
  rw [ofNat_toNat (by omega)]
  congr 1
theorem Lr_big {u : Nat} (h : ¬ u < 10) : Lr u = (48 + ((u % 10 : Nat) : Int)) :: Lr (u / 10) := by
  unfold Lr
  rw [Lib.decDigits, dif_neg h]
  simp only [List.reverse_append, List.reverse_cons, List.reverse_nil, List.nil_append, List.cons_append, List.map_cons]
  rw [ofNat_toNat (by omega)]
  congr 1
theorem Lr_back (u : Nat) : strOfNums (Lr u).reverse = ⟨(Lib.decDigits u).toArray⟩ := by
  unfold strOfNums Lr
  congr 2
  rw [← List.map_reverse, List.reverse_reverse, List.map_map]
  conv => rhs; rw [← List.map_id (Lib.decDigits u)]
  apply List.map_congr_left
  intro b _
  show UInt8.ofNat ((b.toNat : Int)).toNat = b
  rw [Int.toNat_natCast]
  exact UInt8.ofNat_toNat
theorem dec_l1 (xs : List Int) (hx : xs.length ≤ 1000) : ∀ (j k : Nat) (out : List Int), j ≤ xs.length → j < k → out.length + j ≤ 1000 →
    sawmillref01_Decimal.l1 k xs out ((j : Int) - 1) = some (strOfNums (out ++ (xs.take j).reverse))
  | 0, k, out, _, hk, _ => by
    obtain ⟨k, rfl⟩ : ∃ m, k = m + 1 := ⟨k - 1, by omega⟩
    rw [sawmillref01_Decimal.l1, if_neg (by omega)]
    simp
  | j + 1, k, out, hj, hk, ho => by
    obtain ⟨k, rfl⟩ : ∃ m, k = m + 1 := ⟨k - 1, by omega⟩
    have e1 : ((j + 1 : Nat) : Int) - 1 = (j : Int) := by omega
    have e2 : rd xs (j : Int) = xs[j]'(by omega) := by simp [rd]; rw [List.getElem?_eq_getElem (by omega)]; rfl
    have e3 : (xs.take (j + 1)).reverse = xs[j]'(by omega) :: (xs.take j).reverse := by
      rw [List.take_succ_eq_append_getElem (by omega), List.reverse_append]
      rfl
    have h := dec_l1 xs hx j k (out ++ [xs[j]'(by omega)]) (by omega) (by omega) (by simp; omega)
    rw [e1, sawmillref01_Decimal.l1, if_pos (by omega), if_pos (by omega), if_pos (by omega), if_pos (by omega), e2, w64' (by omega) (by omega), h, e3, List.append_assoc]
    rfl
theorem dec_l0 (n : Int) (h0 : 0 ≤ n) (d : Nat) : ∀ (u i m : Nat) (acc : List Int), u < 10 ^ d → d ≤ 8 → 1 ≤ i → i + d ≤ 1000 → acc.length + d ≤ 1000 →
    ∃ m', m ≤ m' ∧ sawmillref01_Decimal.l0 (2 * d + m + 2) n 0 (u : Int) acc (i : Int) = sawmillref01_Decimal.j2 m' (acc ++ (if u = 0 then [] else Lr u)) := by
  induction d with
  | zero =>
    intro u i m acc hu hd hi hi2 hacc
    have hu0 : u = 0 := by simpa using hu
    subst hu0
    refine ⟨m, Nat.le_refl _, ?_⟩
    rw [show 2 * 0 + m + 2 = m + 1 + 1 by omega, sawmillref01_Decimal.l0, if_neg (by decide), decide_eq_false (by omega), sawmillref01_Decimal.j1, if_neg (by decide), if_neg (by omega), if_pos rfl, List.append_nil]
  | succ d ih =>
    intro u i m acc hu hd hi hi2 hacc
    by_cases hz : u = 0
    · subst hz
      refine ⟨2 * d + m + 2, by omega, ?_⟩
      rw [show 2 * (d + 1) + m + 2 = 2 * d + m + 2 + 1 + 1 by omega]
      generalize 2 * d + m + 2 = q
      rw [sawmillref01_Decimal.l0, if_neg (by decide), decide_eq_false (by omega), sawmillref01_Decimal.j1, if_neg (by decide), if_neg (by omega), if_pos rfl, List.append_nil]
    · have hlt : u < 100000000 := Nat.lt_of_lt_of_le hu (Nat.pow_le_pow_right (by decide) hd)
      have hu' : u / 10 < 10 ^ d := by rw [Nat.pow_succ] at hu; omega
      have e2 : IntKind.u64.wrap (Int.tdiv (u : Int) 10) = ((u / 10 : Nat) : Int) := by
        rw [Int.tdiv_eq_ediv_of_nonneg (by omega), u64_in (by omega) (by omega)]
        omega
      have e3 : (IntKind.u64.wrap (48 + (Int.tmod (u : Int) 10))) % 256 = 48 + ((u % 10 : Nat) : Int) := by
        rw [Int.tmod_eq_emod_of_nonneg (by omega), u64_in (by omega) (by omega)]
        omega
      have e4 : wrap64 ((i : Int) + 1) = ((i + 1 : Nat) : Int) := by rw [w64' (x := (i : Int) + 1) (by omega) (by omega)]; omega
      have E2 := Aside0.mk e2
      have E3 := Aside0.mk e3
      have E4 := Aside0.mk e4
      clear e2 e3 e4
      obtain ⟨m', hm, h⟩ := ih (u / 10) (i + 1) m (acc ++ [48 + ((u % 10 : Nat) : Int)]) hu' (by omega) (by omega) (by omega) (by simp; omega)
      refine ⟨m', hm, ?_⟩
      have hL : acc ++ [48 + ((u % 10 : Nat) : Int)] ++ (if u / 10 = 0 then [] else Lr (u / 10)) = acc ++ (if u = 0 then [] else Lr u) := by
        rw [if_neg hz, List.append_assoc]
        congr 1
        by_cases h10 : u < 10
        · rw [if_pos (by omega), Lr_small h10, show u % 10 = u by omega]
          rfl
        · rw [if_neg (by omega), Lr_big h10]
          rfl
      rw [← hL, ← h, show 2 * (d + 1) + m + 2 = 2 * d + m + 2 + 1 + 1 by omega]
      generalize 2 * d + m + 2 = q
      rw [sawmillref01_Decimal.l0, if_pos (by omega), sawmillref01_Decimal.j1, if_pos rfl, if_neg (by omega), if_pos (by omega), E2.out, E3.out, E4.out]
theorem dec_f (n : Nat) (h1 : n ≤ 10000000) (k : Nat) (hk : 1100 ≤ k) : sawmillref01_Decimal.f k (n : Int) 0 = some (numeral (n : Int)) := by
  obtain ⟨m, rfl⟩ : ∃ m, k = 2 * 8 + m + 2 + 1 + 1 := ⟨k - 20, by omega⟩
  have hN : numeral (n : Int) = strOfNums (Lr n).reverse := by
    rw [Lr_back]
    unfold numeral Lib.itoa
    rw [if_neg (by omega), Int.toNat_natCast]
  have hlen : (Lr n).length ≤ 8 := by
    unfold Lr
    rw [List.length_map, List.length_reverse, Lib.decDigits_length]
    exact nDigits_le 7 n (by omega)
  have hs : sawmillref01_size.f (n : Int) = some (n : Int) := by
    unfold sawmillref01_size.f
    rw [if_neg (by omega), u64_in (by omega) (by omega)]
  obtain ⟨m', hm, h⟩ := dec_l0 (n : Int) (by omega) 8 (n / 10) 1 m [48 + ((n % 10 : Nat) : Int)] (by omega) (by omega) (by omega) (by omega) (by simp)
  have hL : [48 + ((n % 10 : Nat) : Int)] ++ (if n / 10 = 0 then [] else Lr (n / 10)) = Lr n := by
    by_cases h10 : n < 10
    · rw [if_pos (by omega), Lr_small h10, show n % 10 = n by omega]
      rfl
    · rw [if_neg (by omega), Lr_big h10]
      rfl
  rw [hL] at h
  have e2 : Aside0 (IntKind.u64.wrap (Int.tdiv (n : Int) 10) = ((n / 10 : Nat) : Int)) := ⟨by
    rw [Int.tdiv_eq_ediv_of_nonneg (by omega), u64_in (by omega) (by omega)]
    omega⟩
  have e3 : Aside0 ((IntKind.u64.wrap (48 + (Int.tmod (n : Int) 10))) % 256 = 48 + ((n % 10 : Nat) : Int)) := ⟨by
    rw [Int.tmod_eq_emod_of_nonneg (by omega), u64_in (by omega) (by omega)]
    omega⟩
  unfold sawmillref01_Decimal.f
  rw [clamp0, Option.bind_some, hs, Option.bind_some, hN]
  have hm8 : 1000 ≤ 2 * 8 + m + 2 := by omega
  generalize 2 * 8 + m + 2 = q at h hm8 ⊢
  have hst : sawmillref01_Decimal.l0 (q + 1 + 1) (n : Int) 0 (n : Int) [] 0 = sawmillref01_Decimal.l0 q (n : Int) 0 ((n / 10 : Nat) : Int) [48 + ((n % 10 : Nat) : Int)] ((1 : Nat) : Int) := by
    have hj : sawmillref01_Decimal.j1 (q + 1) (n : Int) 0 (n : Int) [] 0 true = sawmillref01_Decimal.l0 q (n : Int) 0 ((n / 10 : Nat) : Int) [48 + ((n % 10 : Nat) : Int)] ((1 : Nat) : Int) := by
      rw [sawmillref01_Decimal.j1, if_pos rfl, if_pos rfl, if_neg (by decide), if_pos (by decide), e2.out, e3.out, List.nil_append, show wrap64 (0 + 1) = ((1 : Nat) : Int) by rw [w64' (by omega) (by omega)]; rfl]
    rw [sawmillref01_Decimal.l0]
    by_cases hz : (n : Int) > 0
    · rw [if_pos hz, hj]
    · rw [if_neg hz, decide_eq_true (Int.le_refl _), hj]
  rw [hst, h]
  obtain ⟨z, rfl⟩ : ∃ z, m' = z + 1 := ⟨m' - 1, by omega⟩
  have hl := dec_l1 (Lr n) (by omega) (Lr n).length z [] (Nat.le_refl _) (by omega) (by simp; omega)
  rw [sawmillref01_Decimal.j2, w64' (by omega) (by omega), hl, List.nil_append, List.take_length]
end Go.Proofs.YthdkfgpcdghblaaDoor.Cal
