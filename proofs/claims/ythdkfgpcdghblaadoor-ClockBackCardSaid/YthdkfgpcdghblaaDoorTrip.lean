/-
  Trip: the text of a time shows the time, and a text that shows a time is the time's own text.
-/
import Derived.Test.YthdkfgpcdghblaaDoorTime
namespace Go.Proofs.YthdkfgpcdghblaaDoor.Cal
open Go.RowKit Go.Proofs.YthdkfgpcdghblaaDoorW.PrintWords Go.Proofs.YthdkfgpcdghblaaDoorW.PrintLast Go.Proofs.YthdkfgpcdghblaaDoorW.PrintMore
open Go.Proofs.YthdkfgpcdghblaaDoor.PAll Go.Proofs.YthdkfgpcdghblaaDoor.CMath
set_option linter.unusedVariables false
set_option linter.unusedSimpArgs false

theorem toN {n : Nat} (h : n < 256) : (UInt8.ofNat n).toNat = n := by
  rw [UInt8.toNat_ofNat']
  omega
theorem same_list {s u : ByteArray} (h : s.data.toList = u.data.toList) : s = u := by
  apply ByteArray.ext
  exact Array.toList_inj.1 h
theorem ext_list (s : ByteArray) (a b : Nat) : (s.extract a b).data.toList = (s.data.toList.drop a).take (b - a) := by
  rw [ByteArray.data_extract, Array.toList_extract, List.extract_eq_take_drop]
theorem len_list (s : ByteArray) : s.data.toList.length = s.size := by simp
theorem bt_at (s : ByteArray) (l1 l2 : List UInt8) (c : UInt8) (h : s.data.toList = l1 ++ c :: l2) : bt s (l1.length : Int) = (c.toNat : Int) := by
  refine ((bt_list s l1.length c).1 ?_).2
  rw [h, List.getElem?_append_right (Nat.le_refl _), Nat.sub_self]
  rfl
theorem list_at (s : ByteArray) (i : Nat) (h : i < s.size) : s.data.toList[i]'(by rw [len_list]; exact h) = UInt8.ofNat (bt s (i : Int)).toNat := by
  rw [bt_nat s i h, Int.toNat_natCast, UInt8.ofNat_toNat]
  rfl
/-- The plain numeral of a text's value is the text. -/
theorem dec_list (t : ByteArray) (ha : AllD t t.size) (h0 : ¬ (1 < t.size ∧ bt t 0 = 48)) : ∀ j, j + 1 ≤ t.size → Lib.decDigits (val t (j + 1)).toNat = t.data.toList.take (j + 1)
  | 0, h => by
    have hd := ha 0 (by omega)
    have e : val t (0 + 1) = bt t ((0 : Nat) : Int) - 48 := by show 10 * 0 + (bt t ((0 : Nat) : Int) - 48) = _; omega
    rw [e, Lib.decDigits_one (by omega), List.take_succ_eq_append_getElem (by rw [len_list]; omega), list_at t 0 (by omega)]
    simp only [List.take_zero, List.nil_append]
    congr 2
    omega
  | j + 1, h => by
    have ih := dec_list t ha h0 j (by omega)
    have hd := ha (j + 1) (by omega)
    have hb : bt t 0 ≠ 48 := fun e => h0 ⟨by omega, e⟩
    have hg := val_ge t hb j (ha.less (by omega))
    have hp : (0 : Int) < 10 ^ j := Int.pow_pos (by decide)
    have e : val t (j + 1 + 1) = 10 * val t (j + 1) + (bt t ((j + 1 : Nat) : Int) - 48) := rfl
    have hbig : ¬ (val t (j + 1 + 1)).toNat < 10 := by omega
    rw [Lib.decDigits, dif_neg hbig, show (val t (j + 1 + 1)).toNat / 10 = (val t (j + 1)).toNat by omega, ih, List.take_succ_eq_append_getElem (i := j + 1) (by rw [len_list]; omega), list_at t (j + 1) (by omega)]
    congr 3
    omega
theorem numeral_val (t : ByteArray) (h1 : 1 ≤ t.size) (ha : AllD t t.size) (h0 : ¬ (1 < t.size ∧ bt t 0 = 48)) : numeral (val t t.size) = t := by
  obtain ⟨j, hj⟩ : ∃ j, t.size = j + 1 := ⟨t.size - 1, by omega⟩
  have h := dec_list t ha h0 j (by omega)
  have hv := val_bd t (j + 1) (by rw [← hj]; exact ha)
  apply same_list
  unfold numeral Lib.itoa
  rw [hj, if_neg (by omega), h]
  show t.data.toList.take (j + 1) = _
  rw [← hj, ← len_list, List.take_length]
theorem val_same (s u : ByteArray) : ∀ j : Nat, (∀ i : Nat, i < j → bt s (i : Int) = bt u (i : Int)) → val s j = val u j
  | 0, _ => rfl
  | j + 1, h => by
    show 10 * val s j + (bt s (j : Int) - 48) = 10 * val u j + (bt u (j : Int) - 48)
    rw [val_same s u j (fun i hi => h i (by omega)), h j (by omega)]
theorem bt_app (s u : ByteArray) (l : List UInt8) (h : s.data.toList = u.data.toList ++ l) (i : Nat) (hi : i < u.size) : bt s (i : Int) = bt u (i : Int) := by
  have h1 : u.data.toList[i]? = some (u.data.toList[i]'(by rw [len_list]; exact hi)) := List.getElem?_eq_getElem _
  have h2 := (bt_list u i _).1 h1
  have h3 : s.data.toList[i]? = some (u.data.toList[i]'(by rw [len_list]; exact hi)) := by rw [h, List.getElem?_append_left (by rw [len_list]; exact hi), h1]
  rw [h2.2, ((bt_list s i _).1 h3).2]
theorem val_numeral (u : Nat) : 1 ≤ (numeral (u : Int)).size ∧ AllD (numeral (u : Int)) (numeral (u : Int)).size ∧ (bt (numeral (u : Int)) 0 = 48 → u = 0) ∧ (1 < (numeral (u : Int)).size → u ≠ 0) ∧ val (numeral (u : Int)) (numeral (u : Int)).size = u := by
  induction u using Nat.strongRecOn with
  | _ u ih =>
    have hl : (numeral (u : Int)).data.toList = Lib.decDigits u := by
      unfold numeral Lib.itoa
      rw [if_neg (by omega), Int.toNat_natCast]
    by_cases h : u < 10
    · rw [Lib.decDigits_one h] at hl
      have hs : (numeral (u : Int)).size = 1 := by rw [← len_list, hl]; rfl
      have hb := bt_at _ [] [] _ hl
      rw [toN (by omega)] at hb
      have hb' : bt (numeral (u : Int)) ((0 : Nat) : Int) = ((48 + u : Nat) : Int) := hb
      rw [hs]
      refine ⟨Nat.le_refl _, fun i hi => ?_, fun e => ?_, fun e => by omega, ?_⟩
      · obtain rfl : i = 0 := by omega
        rw [hb']
        omega
      · have e' : bt (numeral (u : Int)) ((0 : Nat) : Int) = 48 := e
        omega
      · show 10 * 0 + (bt (numeral (u : Int)) ((0 : Nat) : Int) - 48) = _
        omega
    · obtain ⟨i1, i2, i3, i4, i5⟩ := ih (u / 10) (by omega)
      have hl' : (numeral ((u / 10 : Nat) : Int)).data.toList = Lib.decDigits (u / 10) := by
        unfold numeral Lib.itoa
        rw [if_neg (by omega), Int.toNat_natCast]
      rw [Lib.decDigits, dif_neg h, ← hl'] at hl
      generalize numeral ((u / 10 : Nat) : Int) = y at *
      generalize numeral (u : Int) = x at *
      have hs : x.size = y.size + 1 := by rw [← len_list, hl, List.length_append, len_list]; rfl
      have hb := bt_at x _ [] _ hl
      rw [len_list, toN (by omega)] at hb
      have hlow := fun i hi => bt_app x y _ hl i hi
      rw [hs]
      refine ⟨by omega, fun i hi => ?_, fun e => ?_, fun e => by omega, ?_⟩
      · by_cases hi' : i < y.size
        · rw [hlow i hi']
          exact i2 i hi'
        · obtain rfl : i = y.size := by omega
          rw [hb]
          omega
      · have e' : bt x ((0 : Nat) : Int) = 48 := e
        rw [hlow 0 (by omega)] at e'
        have := i3 e'
        omega
      · show 10 * val x y.size + (bt x (y.size : Int) - 48) = _
        rw [val_same x y y.size hlow, i5, hb]
        omega
theorem numl_numeral (u : Nat) (h : u ≤ 10000000) : Numl (numeral (u : Int)) ∧ val (numeral (u : Int)) (numeral (u : Int)).size = u := by
  obtain ⟨i1, i2, i3, i4, i5⟩ := val_numeral u
  exact ⟨⟨i1, fun hh => i4 hh.1 (i3 hh.2), i2, by omega⟩, i5⟩
theorem two_list (n : Int) : (twoS n).data.toList = [UInt8.ofNat (48 + n / 10).toNat, UInt8.ofNat (48 + n % 10).toNat] := rfl
theorem fmt_list (a : Int) (h : isT a = true) : (fmtS a).data.toList = 100 :: ((numeral (a / 1440)).data.toList ++
    [32, UInt8.ofNat (48 + a % 1440 / 60 / 10).toNat, UInt8.ofNat (48 + a % 1440 / 60 % 10).toNat, 58, UInt8.ofNat (48 + a % 60 / 10).toNat, UInt8.ofNat (48 + a % 60 % 10).toNat]) := by
  unfold fmtS
  rw [if_pos h]
  simp only [ByteArray.data_append, Array.toList_append, two_list]
  simp
theorem fmt_shp (a : Int) (h : isT a = true) : ∃ n, Shp (fmtS a) n ∧ tv (fmtS a) n = a := by
  have hb := (isT_iff a).1 h
  have hl := fmt_list a h
  obtain ⟨d, hd⟩ : ∃ d : Nat, a / 1440 = d := ⟨(a / 1440).toNat, by omega⟩
  obtain ⟨p, hp⟩ : ∃ d : Nat, a % 1440 / 60 = d := ⟨(a % 1440 / 60).toNat, by omega⟩
  obtain ⟨q, hq⟩ : ∃ d : Nat, a % 60 = d := ⟨(a % 60).toNat, by omega⟩
  have hp' : p < 24 := by omega
  have hq' : q < 60 := by omega
  have ha : a = d * 1440 + p * 60 + q := by omega
  have hd' : d ≤ 10000000 := by omega
  rw [hd, hp, hq, show (48 + (p : Int) / 10).toNat = 48 + p / 10 by omega, show (48 + (p : Int) % 10).toNat = 48 + p % 10 by omega,
    show (48 + (q : Int) / 10).toNat = 48 + q / 10 by omega, show (48 + (q : Int) % 10).toNat = 48 + q % 10 by omega] at hl
  obtain ⟨nn, nv⟩ := numl_numeral d hd'
  generalize numeral (d : Int) = y at *
  generalize fmtS a = s at *
  have hs : s.size = y.size + 1 + 6 := by rw [← len_list, hl, List.length_cons, List.length_append, len_list]; rfl
  have hx : s.extract 1 (y.size + 1) = y := by
    apply same_list
    rw [ext_list, hl]
    show (y.data.toList ++ _).take (y.size + 1 - 1) = _
    rw [Nat.add_sub_cancel, ← len_list, List.take_left]
  have at' : ∀ (l1 l2 : List UInt8) (c : UInt8) (j : Nat), s.data.toList = 100 :: (y.data.toList ++ (l1 ++ c :: l2)) → l1.length = j → bt s ((y.size + 1 + j : Nat) : Int) = (c.toNat : Int) := by
    intro l1 l2 c j e e2
    have := bt_at s (100 :: (y.data.toList ++ l1)) l2 c (by rw [e]; simp)
    rw [List.length_cons, List.length_append, len_list, e2] at this
    rw [← this]
    congr 1
    omega
  have b0 := bt_at s [] _ 100 hl
  have b1 := at' [] _ _ 0 hl rfl
  have b2 := at' [_] _ _ 1 hl rfl
  have b3 := at' [_, _] _ _ 2 hl rfl
  have b4 := at' [_, _, _] _ _ 3 hl rfl
  have b5 := at' [_, _, _, _] _ _ 4 hl rfl
  have b6 := at' [_, _, _, _, _] _ _ 5 hl rfl
  rw [toN (by omega)] at b2 b3 b5 b6
  have B2 := Aside0.mk b2
  have B3 := Aside0.mk b3
  have B5 := Aside0.mk b5
  have B6 := Aside0.mk b6
  clear b2 b3 b5 b6 at' hl hd hp hq
  have hv : val (s.extract 1 (y.size + 1)) (y.size + 1 - 1) = d := by rw [hx, Nat.add_sub_cancel, nv]
  refine ⟨y.size + 1, ⟨hs, by have := nn.1; omega, b0, b1, b4, by rw [hx]; exact nn, ?_, ?_⟩, ?_⟩
  · rw [B2.out, B3.out]
    unfold P2
    omega
  · rw [B5.out, B6.out]
    unfold P2
    omega
  · unfold tv
    rw [hv, B2.out, B3.out, B5.out, B6.out, ha]
    omega
theorem list_parts (l : List UInt8) (n : Nat) (hlen : l.length = n + 6) (h2 : 2 ≤ n) : l[0]'(by omega) :: ((l.drop 1).take (n - 1) ++ [l[n]'(by omega), l[n + 1]'(by omega), l[n + 2]'(by omega), l[n + 3]'(by omega), l[n + 4]'(by omega), l[n + 5]'(by omega)]) = l := by
  apply List.ext_getElem
  · simp
    omega
  · intro i hi1 hi2
    match i with
    | 0 => rfl
    | i + 1 =>
      rw [List.getElem_cons_succ]
      by_cases hlt : i < n - 1
      · rw [List.getElem_append_left (by simp; omega), List.getElem_take, List.getElem_drop]
        congr 1
        omega
      · rw [List.getElem_append_right (by simp; omega)]
        obtain ⟨j, hj⟩ : ∃ j, i = n - 1 + j := ⟨i - (n - 1), by omega⟩
        have hjl : j < 6 := by omega
        have hz : ((l.drop 1).take (n - 1)).length = n - 1 := by simp; omega
        simp only [hz, hj, Nat.add_sub_cancel_left]
        have : i + 1 = n + j := by omega
        match j, hjl with
        | 0, _ => show l[n] = _; congr 1; omega
        | 1, _ => show l[n + 1] = _; congr 1; omega
        | 2, _ => show l[n + 2] = _; congr 1; omega
        | 3, _ => show l[n + 3] = _; congr 1; omega
        | 4, _ => show l[n + 4] = _; congr 1; omega
        | 5, _ => show l[n + 5] = _; congr 1; omega
theorem digit_byte (x : Int) (u : Int) (h : x = u) (s : ByteArray) (i : Nat) (hi : i < s.size) (hb : bt s (i : Int) = u) : UInt8.ofNat x.toNat = s.data.toList[i]'(by rw [len_list]; exact hi) := by
  rw [list_at s i hi, hb, h]
theorem shp_fmt (s : ByteArray) (n : Nat) (h : Shp s n) (ht : isT (tv s n) = true) : fmtS (tv s n) = s := by
  apply same_list
  rw [fmt_list _ ht]
  have hb := (isT_iff _).1 ht
  obtain ⟨h1, h2, h3, h4, h5, h6, h7, h8⟩ := h
  have hsz : (s.extract 1 n).size = n - 1 := size_extract s 1 n (by omega)
  have hvb := val_bd (s.extract 1 n) (n - 1) (by rw [← hsz]; exact h6.2.2.1)
  have hnv := numeral_val _ h6.1 h6.2.2.1 h6.2.1
  rw [hsz] at hnv
  obtain ⟨v, hv⟩ : ∃ v, val (s.extract 1 n) (n - 1) = v := ⟨_, rfl⟩
  obtain ⟨A, hA⟩ : ∃ v, bt s ((n + 1 : Nat) : Int) = v := ⟨_, rfl⟩
  obtain ⟨B, hB⟩ : ∃ v, bt s ((n + 2 : Nat) : Int) = v := ⟨_, rfl⟩
  obtain ⟨C, hC⟩ : ∃ v, bt s ((n + 4 : Nat) : Int) = v := ⟨_, rfl⟩
  obtain ⟨D, hD⟩ : ∃ v, bt s ((n + 5 : Nat) : Int) = v := ⟨_, rfl⟩
  have htv : tv s n = v * 1440 + (10 * (A - 48) + (B - 48)) * 60 + (10 * (C - 48) + (D - 48)) := by unfold tv; rw [hv, hA, hB, hC, hD]
  rw [hA, hB] at h7
  rw [hC, hD] at h8
  rw [hv] at hvb hnv
  replace hA := Aside0.mk hA
  replace hB := Aside0.mk hB
  replace hC := Aside0.mk hC
  replace hD := Aside0.mk hD
  replace h3 := Aside0.mk h3
  replace h4 := Aside0.mk h4
  replace h5 := Aside0.mk h5
  rw [htv]
  clear htv ht hb
  unfold P2 at h7 h8
  have f1 : (v * 1440 + (10 * (A - 48) + (B - 48)) * 60 + (10 * (C - 48) + (D - 48))) / 1440 = v := by omega
  have f2 : (v * 1440 + (10 * (A - 48) + (B - 48)) * 60 + (10 * (C - 48) + (D - 48))) % 1440 / 60 = 10 * (A - 48) + (B - 48) := by omega
  have f3 : (v * 1440 + (10 * (A - 48) + (B - 48)) * 60 + (10 * (C - 48) + (D - 48))) % 60 = 10 * (C - 48) + (D - 48) := by omega
  rw [f1, f2, f3, hnv, ext_list]
  clear f1 f2 f3
  have hlen : s.data.toList.length = n + 6 := by rw [len_list]; exact h1
  rw [digit_byte _ A (by omega) s (n + 1) (by omega) hA.out, digit_byte _ B (by omega) s (n + 2) (by omega) hB.out, digit_byte _ C (by omega) s (n + 4) (by omega) hC.out, digit_byte _ D (by omega) s (n + 5) (by omega) hD.out]
  have e0 : (100 : UInt8) = s.data.toList[0]'(by omega) := digit_byte 100 _ rfl s 0 (by omega) h3.out
  have e1 : (32 : UInt8) = s.data.toList[n]'(by omega) := digit_byte 32 _ rfl s n (by omega) h4.out
  have e2 : (58 : UInt8) = s.data.toList[n + 3]'(by omega) := digit_byte 58 _ rfl s (n + 3) (by omega) h5.out
  rw [e0, e1, e2]
  exact list_parts _ n hlen h2
end Go.Proofs.YthdkfgpcdghblaaDoor.Cal
