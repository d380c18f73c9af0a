/-
  The lexer's helpers: length over each kind of characters, skip, and the first lexeme of a string. For strings of at most a million bytes.
-/
import Derived.Test.YtmnbbhieodcoeaaDoorPBasex
import Derived.ProofKit
namespace Go.Proofs.YtmnbbhieodcoeaaDoor.Rt
open Go.RowKit Go.Proofs.YtmnbbhieodcoeaaDoorW.PrintWords Go.Proofs.YtmnbbhieodcoeaaDoorW.PrintLast Go.Proofs.YtmnbbhieodcoeaaDoorW.PrintMore
open Go.Proofs.YtmnbbhieodcoeaaDoor.PBase
set_option linter.unusedVariables false
set_option linter.unusedSimpArgs false
theorem Drawn0.trans {a b c : World} (h : Drawn0 a b) (k : Drawn0 b c) : Drawn0 a c := by
  obtain ⟨n, rfl⟩ := k.out
  exact h.step n
def isDig (c : Int) : Bool := decide (48 ≤ c ∧ c ≤ 57)
def isWrd (c : Int) : Bool := decide (48 ≤ c ∧ c ≤ 57) || decide (97 ≤ c ∧ c ≤ 122) || decide (65 ≤ c ∧ c ≤ 90) || decide (c = 95)
def isRem (c : Int) : Bool := decide (c ≠ 10)
theorem isDig_f (c : Int) : lexer_isDigit.f c = some (isDig c) := by
  unfold lexer_isDigit.f isDig
  by_cases h : 48 ≤ c
  · rw [if_pos h]
    congr 1
    simp [h]
  · rw [if_neg h]
    congr 1
    simp [h]
theorem isWrd_f (c : Int) : lexer_isWord.f c = some (isWrd c) := by
  unfold lexer_isWord.f isWrd
  rw [isDig_f, Option.bind_some]
  unfold isDig
  by_cases h1 : 48 ≤ c ∧ c ≤ 57
  · simp [h1]
  · by_cases h2 : 97 ≤ c
    · by_cases h3 : c ≤ 122
      · simp [h1, h2, h3]
      · by_cases h4 : 65 ≤ c
        · by_cases h5 : c ≤ 90
          · omega
          · simp [h1, h2, h3, h4, h5]
            by_cases h6 : c = 95 <;> simp [h6]
        · omega
    · by_cases h4 : 65 ≤ c
      · by_cases h5 : c ≤ 90
        · simp [h1, h2, h4, h5]
        · simp [h1, h2, h4, h5]
          by_cases h6 : c = 95 <;> simp [h6]
      · simp [h1, h2, h4]
        by_cases h6 : c = 95 <;> simp [h6]
theorem k63 (c : Int) (w : World) : Calls Tryd.prog 63 #[.int .i32 c] w fun e w' => e = .returned (.bool (isDig c)) ∧ Drawn0 w w' := lexer_isDigit.calls c _ w (isDig_f c)
theorem k65 (c : Int) (w : World) : Calls Tryd.prog 65 #[.int .i32 c] w fun e w' => e = .returned (.bool (isWrd c)) ∧ Drawn0 w w' := lexer_isWord.calls c _ w (isWrd_f c)
theorem k62 (c : Int) (w : World) : Calls Tryd.prog 62 #[.int .i32 c] w fun e w' => e = .returned (.bool (isRem c)) ∧ Drawn0 w w' := by
  have HE := Aside0.mk (show (c != 10) = isRem c by unfold isRem; by_cases h : c = 10 <;> simp [h])
  go_enter Tryd.func62, Tryd.ntmps62
  go_wp2_with fail
  go_ret
  exact ⟨by rw [← HE.out]; rfl, ⟨0, rfl⟩⟩
def runl (p : Int → Bool) (s : ByteArray) : Nat → Nat → Nat
  | 0, i => i
  | d + 1, i => if p (bt s i) = true then runl p s d (i + 1) else i
theorem runl_le (p : Int → Bool) (s : ByteArray) : ∀ d i, i ≤ runl p s d i ∧ runl p s d i ≤ i + d
  | 0, i => by rw [runl]; omega
  | d + 1, i => by
    have := runl_le p s d (i + 1)
    rw [runl]
    split <;> omega
set_option maxHeartbeats 1000000 in
set_option maxRecDepth 100000 in
theorem length_62 (s : ByteArray) (hs : s.size ≤ 1000000) (w : World) :
    Calls Tryd.prog 61 #[.string s, .func (.func 62) #[] #[]] w fun e w' => e = .returned (.int .i64 (runl isRem s s.size 0 : Nat)) ∧ Drawn0 w w' := by
  obtain ⟨R, hR⟩ : ∃ R, runl isRem s s.size 0 = R := ⟨_, rfl⟩
  have HR := Aside0.mk hR
  rw [hR]
  clear hR
  go_enter Tryd.func61, Tryd.ntmps61
  go_wp2_with fail
  go_loopw [8, 5] (fun c i wr => ∃ k : Nat, k ≤ s.size ∧ c = .int .i64 k ∧ Aside0 (runl isRem s (s.size - k) k = R) ∧ Aside0 (Drawn0 w wr)) (fun c _ _ => s.size - (intOf c).toNat)
  case atStart => exact ⟨0, Nat.zero_le _, rfl, HR, ⟨Drawn0.refl _⟩⟩
  case round =>
    obtain ⟨k, hk, rfl, HK, HD⟩ := hrel
    by_cases hlt : k < s.size
    · have hb0 := (bt_range s (k : Int)).1
      have hb1 := (bt_range s (k : Int)).2
      have e : ((s[k]'hlt).toNat : Int) = bt s k := bt_at s (k : Int) hlt
      have HS := Aside0.mk (show runl isRem s (s.size - k) k = if isRem (bt s k) = true then runl isRem s (s.size - (k + 1)) (k + 1) else k by
        rw [show s.size - k = (s.size - (k + 1)) + 1 by omega, runl])
      obtain ⟨c, hc⟩ : ∃ c, bt s (k : Int) = c := ⟨_, rfl⟩
      rw [hc] at hb0 hb1 HS e
      have HE := Aside0.mk (show wrap32 ((s[k]'hlt).toNat : Int) = c by rw [e]; unfold wrap32; omega)
      clear hc e
      go_wp2_with fail
      rw [HE.out]
      refine (k62 c _).mono ?_
      rintro _ w1 ⟨rfl, hd⟩
      have HD1 := Aside0.mk (Drawn0.trans HD.out hd)
      clear hd HD
      by_cases hp : isRem c = true
      · rw [hp]
        rw [if_pos hp] at HS
        have HK1 := Aside0.mk (HS.out.symm.trans HK.out)
        go_wp2_with fail
        exact ⟨⟨k + 1, by omega, rfl, HK1, HD1⟩, by simp [intOf]; omega⟩
      · rw [if_neg hp] at HS
        have hkR := HS.out.symm.trans HK.out
        rw [Bool.eq_false_iff.2 hp]
        subst hkR
        go_wp2_with fail
        go_ret
        exact ⟨rfl, HD1.out⟩
    · have e : runl isRem s (s.size - k) k = k := by rw [show s.size - k = 0 by omega, runl]
      rw [e] at HK
      have hkR := HK.out
      subst hkR
      go_wp2_with fail
      go_ret
      have hks : s.size = k := by omega
      exact ⟨by rw [← hks]; rfl, HD.out⟩
set_option maxHeartbeats 1000000 in
set_option maxRecDepth 100000 in
theorem length_63 (s : ByteArray) (hs : s.size ≤ 1000000) (w : World) :
    Calls Tryd.prog 61 #[.string s, .func (.func 63) #[] #[]] w fun e w' => e = .returned (.int .i64 (runl isDig s s.size 0 : Nat)) ∧ Drawn0 w w' := by
  obtain ⟨R, hR⟩ : ∃ R, runl isDig s s.size 0 = R := ⟨_, rfl⟩
  have HR := Aside0.mk hR
  rw [hR]
  clear hR
  go_enter Tryd.func61, Tryd.ntmps61
  go_wp2_with fail
  go_loopw [8, 5] (fun c i wr => ∃ k : Nat, k ≤ s.size ∧ c = .int .i64 k ∧ Aside0 (runl isDig s (s.size - k) k = R) ∧ Aside0 (Drawn0 w wr)) (fun c _ _ => s.size - (intOf c).toNat)
  case atStart => exact ⟨0, Nat.zero_le _, rfl, HR, ⟨Drawn0.refl _⟩⟩
  case round =>
    obtain ⟨k, hk, rfl, HK, HD⟩ := hrel
    by_cases hlt : k < s.size
    · have hb0 := (bt_range s (k : Int)).1
      have hb1 := (bt_range s (k : Int)).2
      have e : ((s[k]'hlt).toNat : Int) = bt s k := bt_at s (k : Int) hlt
      have HS := Aside0.mk (show runl isDig s (s.size - k) k = if isDig (bt s k) = true then runl isDig s (s.size - (k + 1)) (k + 1) else k by
        rw [show s.size - k = (s.size - (k + 1)) + 1 by omega, runl])
      obtain ⟨c, hc⟩ : ∃ c, bt s (k : Int) = c := ⟨_, rfl⟩
      rw [hc] at hb0 hb1 HS e
      have HE := Aside0.mk (show wrap32 ((s[k]'hlt).toNat : Int) = c by rw [e]; unfold wrap32; omega)
      clear hc e
      go_wp2_with fail
      rw [HE.out]
      refine (k63 c _).mono ?_
      rintro _ w1 ⟨rfl, hd⟩
      have HD1 := Aside0.mk (Drawn0.trans HD.out hd)
      clear hd HD
      by_cases hp : isDig c = true
      · rw [hp]
        rw [if_pos hp] at HS
        have HK1 := Aside0.mk (HS.out.symm.trans HK.out)
        go_wp2_with fail
        exact ⟨⟨k + 1, by omega, rfl, HK1, HD1⟩, by simp [intOf]; omega⟩
      · rw [if_neg hp] at HS
        have hkR := HS.out.symm.trans HK.out
        rw [Bool.eq_false_iff.2 hp]
        subst hkR
        go_wp2_with fail
        go_ret
        exact ⟨rfl, HD1.out⟩
    · have e : runl isDig s (s.size - k) k = k := by rw [show s.size - k = 0 by omega, runl]
      rw [e] at HK
      have hkR := HK.out
      subst hkR
      go_wp2_with fail
      go_ret
      have hks : s.size = k := by omega
      exact ⟨by rw [← hks]; rfl, HD.out⟩
set_option maxHeartbeats 1000000 in
set_option maxRecDepth 100000 in
theorem length_65 (s : ByteArray) (hs : s.size ≤ 1000000) (w : World) :
    Calls Tryd.prog 61 #[.string s, .func (.func 65) #[] #[]] w fun e w' => e = .returned (.int .i64 (runl isWrd s s.size 0 : Nat)) ∧ Drawn0 w w' := by
  obtain ⟨R, hR⟩ : ∃ R, runl isWrd s s.size 0 = R := ⟨_, rfl⟩
  have HR := Aside0.mk hR
  rw [hR]
  clear hR
  go_enter Tryd.func61, Tryd.ntmps61
  go_wp2_with fail
  go_loopw [8, 5] (fun c i wr => ∃ k : Nat, k ≤ s.size ∧ c = .int .i64 k ∧ Aside0 (runl isWrd s (s.size - k) k = R) ∧ Aside0 (Drawn0 w wr)) (fun c _ _ => s.size - (intOf c).toNat)
  case atStart => exact ⟨0, Nat.zero_le _, rfl, HR, ⟨Drawn0.refl _⟩⟩
  case round =>
    obtain ⟨k, hk, rfl, HK, HD⟩ := hrel
    by_cases hlt : k < s.size
    · have hb0 := (bt_range s (k : Int)).1
      have hb1 := (bt_range s (k : Int)).2
      have e : ((s[k]'hlt).toNat : Int) = bt s k := bt_at s (k : Int) hlt
      have HS := Aside0.mk (show runl isWrd s (s.size - k) k = if isWrd (bt s k) = true then runl isWrd s (s.size - (k + 1)) (k + 1) else k by
        rw [show s.size - k = (s.size - (k + 1)) + 1 by omega, runl])
      obtain ⟨c, hc⟩ : ∃ c, bt s (k : Int) = c := ⟨_, rfl⟩
      rw [hc] at hb0 hb1 HS e
      have HE := Aside0.mk (show wrap32 ((s[k]'hlt).toNat : Int) = c by rw [e]; unfold wrap32; omega)
      clear hc e
      go_wp2_with fail
      rw [HE.out]
      refine (k65 c _).mono ?_
      rintro _ w1 ⟨rfl, hd⟩
      have HD1 := Aside0.mk (Drawn0.trans HD.out hd)
      clear hd HD
      by_cases hp : isWrd c = true
      · rw [hp]
        rw [if_pos hp] at HS
        have HK1 := Aside0.mk (HS.out.symm.trans HK.out)
        go_wp2_with fail
        exact ⟨⟨k + 1, by omega, rfl, HK1, HD1⟩, by simp [intOf]; omega⟩
      · rw [if_neg hp] at HS
        have hkR := HS.out.symm.trans HK.out
        rw [Bool.eq_false_iff.2 hp]
        subst hkR
        go_wp2_with fail
        go_ret
        exact ⟨rfl, HD1.out⟩
    · have e : runl isWrd s (s.size - k) k = k := by rw [show s.size - k = 0 by omega, runl]
      rw [e] at HK
      have hkR := HK.out
      subst hkR
      go_wp2_with fail
      go_ret
      have hks : s.size = k := by omega
      exact ⟨by rw [← hks]; rfl, HD.out⟩
end Go.Proofs.YtmnbbhieodcoeaaDoor.Rt

namespace Go.Proofs.YtmnbbhieodcoeaaDoor.Rt
open Go.RowKit Go.Proofs.YtmnbbhieodcoeaaDoorW.PrintWords Go.Proofs.YtmnbbhieodcoeaaDoorW.PrintLast Go.Proofs.YtmnbbhieodcoeaaDoorW.PrintMore
open Go.Proofs.YtmnbbhieodcoeaaDoor.PBase
set_option linter.unusedVariables false
set_option linter.unusedSimpArgs false
theorem size_from (s : ByteArray) (k : Nat) : (s.extract k s.size).size = s.size - k := by simp
theorem bt_from (s : ByteArray) (k i : Nat) (h : k + i < s.size) : bt (s.extract k s.size) (i : Int) = bt s ((k + i : Nat) : Int) := by
  unfold bt
  rw [dif_pos (by rw [size_from]; omega), dif_pos (by omega)]
  simp only [Int.toNat_natCast, ByteArray.getElem_extract]
def skp (s : ByteArray) : Nat → Nat → Nat
  | 0, i => i
  | d + 1, i => if i < s.size then (if bt s i = 32 then skp s d (i + 1) else if bt s i = 10 then skp s d (i + 1) else if bt s i = 35 then skp s d (i + runl isRem (s.extract i s.size) (s.extract i s.size).size 0) else i) else i
set_option maxHeartbeats 1000000 in
set_option maxRecDepth 100000 in
theorem skip_any (s : ByteArray) (hs : s.size ≤ 1000000) (w : World) :
    Calls Tryd.prog 40 #[.string s] w fun e w' => e = .returned (.int .i64 (skp s s.size 0 : Nat)) ∧ Drawn0 w w' := by
  obtain ⟨R, hR⟩ : ∃ R, skp s s.size 0 = R := ⟨_, rfl⟩
  have HR := Aside0.mk hR
  rw [hR]
  clear hR
  go_enter Tryd.func40, Tryd.ntmps40
  go_wp2_with fail
  go_loopw [3] (fun c wr => ∃ k d : Nat, k ≤ s.size ∧ s.size - k ≤ d ∧ c = .int .i64 k ∧ Aside0 (skp s d k = R) ∧ Aside0 (Drawn0 w wr)) (fun c _ => s.size - (intOf c).toNat)
  case atStart => exact ⟨0, s.size, Nat.zero_le _, by omega, rfl, HR, ⟨Drawn0.refl _⟩⟩
  case round =>
    obtain ⟨k, d, hk, hd, rfl, HK, HD⟩ := hrel
    by_cases hlt : k < s.size
    · obtain ⟨d, rfl⟩ : ∃ j, d = j + 1 := ⟨d - 1, by omega⟩
      have hb0 := (bt_range s (k : Int)).1
      have hb1 := (bt_range s (k : Int)).2
      have e : ((s[k]'hlt).toNat : Int) = bt s k := bt_at s (k : Int) hlt
      have hb := bt_from s k 0 (by omega)
      have HS := HK.out
      rw [skp, if_pos hlt] at HS
      obtain ⟨c, hc⟩ : ∃ c, bt s (k : Int) = c := ⟨_, rfl⟩
      rw [Nat.add_zero, hc] at hb
      rw [hc] at hb0 hb1 e HS
      clear hc HK
      by_cases h32 : c = 32
      · rw [if_pos h32] at HS
        have HK := Aside0.mk HS
        rw [h32] at e
        clear HS hb
        go_wp2_with fail
        exact ⟨⟨k + 1, d, by omega, by omega, rfl, HK, HD⟩, by simp [intOf]; omega⟩
      rw [if_neg h32] at HS
      by_cases h10 : c = 10
      · rw [if_pos h10] at HS
        have HK := Aside0.mk HS
        rw [h10] at e
        clear HS hb
        go_wp2_with fail
        exact ⟨⟨k + 1, d, by omega, by omega, rfl, HK, HD⟩, by simp [intOf]; omega⟩
      rw [if_neg h10] at HS
      by_cases h35 : c = 35
      · rw [if_pos h35] at HS
        have hr := runl_le isRem (s.extract k s.size) (s.extract k s.size).size 0
        have hp : 1 ≤ runl isRem (s.extract k s.size) (s.extract k s.size).size 0 := by
          rw [size_from, show s.size - k = (s.size - k - 1) + 1 by omega, runl, if_pos (by rw [show ((0 : Nat) : Int) = ((0 : Nat) : Int) from rfl, hb, h35]; decide)]
          exact (runl_le isRem (s.extract k s.size) (s.size - k - 1) 1).1
        have H := Aside0.mk (length_62 (s.extract k s.size) (by rw [size_from]; omega))
        generalize runl isRem (s.extract k s.size) (s.extract k s.size).size 0 = m at *
        rw [size_from] at hr
        have HK := Aside0.mk HS
        rw [h35] at e
        clear HS hb
        go_wp2_with fail
        refine (H.out _).mono ?_
        rintro _ w1 ⟨rfl, hd1⟩
        have HD1 := Aside0.mk (Drawn0.trans HD.out hd1)
        clear hd1 HD
        go_wp2_with fail
        exact ⟨⟨k + m, d, by omega, by omega, by simp, HK, HD1⟩, by simp [intOf]; omega⟩
      · rw [if_neg h35] at HS
        have q1 : (c == 32) = false := by simpa using h32
        have q2 : (c == 10) = false := by simpa using h10
        have q3 : (c == 35) = false := by simpa using h35
        subst HS
        clear hb
        go_wp2_with fail
        go_ret
        exact ⟨rfl, HD.out⟩
    · have e : skp s d k = k := by
        cases d with
        | zero => rw [skp]
        | succ d => rw [skp, if_neg hlt]
      rw [e] at HK
      have hkR := HK.out
      subst hkR
      go_wp2_with fail
      go_ret
      have hks : s.size = k := by omega
      exact ⟨rfl, HD.out⟩
end Go.Proofs.YtmnbbhieodcoeaaDoor.Rt

namespace Go.Proofs.YtmnbbhieodcoeaaDoor.Rt
open Go.RowKit Go.Proofs.YtmnbbhieodcoeaaDoorW.PrintWords Go.Proofs.YtmnbbhieodcoeaaDoorW.PrintLast Go.Proofs.YtmnbbhieodcoeaaDoorW.PrintMore
open Go.Proofs.YtmnbbhieodcoeaaDoor.PBase
set_option linter.unusedVariables false
set_option linter.unusedSimpArgs false
def isMk (s : ByteArray) : Bool := (lexer_IsMark.f s).getD false
theorem isMk_f (s : ByteArray) : lexer_IsMark.f s = some (isMk s) := by
  unfold isMk
  have st : ∀ (c : Prop) [Decidable c] (x : Option Bool), (∃ b, x = some b) → ∃ b, (if c then some true else x) = some b := by
    intro c _ x h
    by_cases hc : c
    · exact ⟨true, if_pos hc⟩
    · rw [if_neg hc]; exact h
  have h : ∃ b, lexer_IsMark.f s = some b := by
    unfold lexer_IsMark.f
    repeat (first | exact ⟨_, rfl⟩ | refine st _ _ ?_)
  obtain ⟨b, hb⟩ := h
  rw [hb]
  rfl
theorem k66 (s : ByteArray) (w : World) : Calls Tryd.prog 66 #[.string s] w fun e w' => e = .returned (.bool (isMk s)) ∧ Drawn0 w w' := lexer_IsMark.calls s _ w (isMk_f s)
def mkl (s : ByteArray) : Nat → Int × ByteArray × Int
  | 0 => (0, ⟨#[]⟩, 5)
  | n + 1 => if isMk (s.extract 0 (n + 1)) = true then (3, s.extract 0 (n + 1), 0) else mkl s n
def lexeme_first.f (k : Nat) (s : ByteArray) : Option (Int × ByteArray × Int × Int × Int) :=
  if s.size ≤ 1000000 ∧ 1 ≤ s.size then
    if isDig (bt s 0) = true then lexer_number.f k (s.extract 0 (runl isDig s s.size 0))
    else if isWrd (bt s 0) = true then (if runl isWrd s s.size 0 ≤ 16 then some (1, s.extract 0 (runl isWrd s s.size 0), 0, 0, 0) else some (0, ⟨#[]⟩, 0, 0, 6))
    else some ((mkl s (min 2 s.size)).1, (mkl s (min 2 s.size)).2.1, 0, 0, (mkl s (min 2 s.size)).2.2)
  else none
set_option maxHeartbeats 1000000 in
set_option maxRecDepth 100000 in
theorem first_wrd (s : ByteArray) (hs : s.size ≤ 1000000) (h1 : 1 ≤ s.size) (hd : isDig (bt s 0) = false) (hw : isWrd (bt s 0) = true) (hm : runl isWrd s s.size 0 ≤ 16) (w : World) :
    Calls Tryd.prog 41 #[.string s] w fun e w' => e = .returned (.tuple #[.agg #[.int .i64 1, .string (s.extract 0 (runl isWrd s s.size 0)), .int .i64 0, .int .i64 0], .int .i64 0]) ∧ Below w.heap.size w w' := by
  have h0 : 0 < s.size := h1
  have e : ((s[0]'h0).toNat : Int) = bt s 0 := bt_at s 0 h0
  have hb0 := (bt_range s 0).1
  have hb1 := (bt_range s 0).2
  generalize bt s 0 = c at *
  have HE := Aside0.mk (show wrap32 ((s[0]'h0).toNat : Int) = c by rw [e]; unfold wrap32; omega)
  clear e
  have hr := runl_le isWrd s s.size 0
  have HL := Aside0.mk (length_65 s hs)
  generalize runl isWrd s s.size 0 = m at *
  have hm1 : m ≤ s.size := by omega
  have hm2 : decide ((16 : Int) < (m : Int)) = false := by simp; omega
  clear hr
  go_enter Tryd.func41, Tryd.ntmps41
  go_wp2_with fail
  rw [HE.out]
  refine (k63 c _).mono ?_
  rintro _ _ ⟨rfl, ⟨n1, rfl⟩⟩
  rw [hd]
  go_wp2_with fail
  rw [HE.out]
  refine (k65 c _).mono ?_
  rintro _ _ ⟨rfl, ⟨n2, rfl⟩⟩
  rw [hw]
  go_wp2_with fail
  refine (HL.out _).mono ?_
  rintro _ _ ⟨rfl, ⟨n3, rfl⟩⟩
  go_wp2_with fail
  refine bodyPost_ret (results_ct rfl _ _ w.heap.size 48 #[.int .i64 1, .string (s.extract 0 m), .int .i64 0, .int .i64 0] (0, 0) _ rfl (by (with_reducible repeat (first | refine blk_drewN ?_ _ | refine blk_drew ?_)); refine blk_put (cs := #[.int .i64 1, .string (s.extract 0 m), .int .i64 0, .int .i64 0]) ?_ 3 _ rfl; (with_reducible repeat (first | refine blk_drewN ?_ _ | refine blk_drew ?_)); refine blk_put (cs := #[.int .i64 1, .string (s.extract 0 m), .int .i64 0, .int .i64 0]) ?_ 2 _ rfl; (with_reducible repeat (first | refine blk_drewN ?_ _ | refine blk_drew ?_)); refine blk_put (cs := #[.int .i64 1, .string (⟨#[]⟩ : ByteArray), .int .i64 0, .int .i64 0]) ?_ 1 _ rfl; (with_reducible repeat (first | refine blk_drewN ?_ _ | refine blk_drew ?_)); refine blk_put (cs := #[.int .i64 0, .string (⟨#[]⟩ : ByteArray), .int .i64 0, .int .i64 0]) ?_ 0 _ rfl; (with_reducible repeat (first | refine blk_drewN ?_ _ | refine blk_drew ?_)); exact blk_new w _) Tryd.underlying48 rfl (by kernel_rfl)) rfl ?_
  exact ⟨rfl, by repeat (first | (with_reducible first | apply below_alloc | apply pw_below_drewN | apply below_drew1 | refine below_set ?_ (Nat.le_refl _)) | exact Below.refl _ _)⟩
set_option maxHeartbeats 1000000 in
set_option maxRecDepth 100000 in
theorem first_long (s : ByteArray) (hs : s.size ≤ 1000000) (h1 : 1 ≤ s.size) (hd : isDig (bt s 0) = false) (hw : isWrd (bt s 0) = true) (hm : ¬ runl isWrd s s.size 0 ≤ 16) (w : World) :
    Calls Tryd.prog 41 #[.string s] w fun e w' => e = .returned (.tuple #[.agg #[.int .i64 0, .string (⟨#[]⟩ : ByteArray), .int .i64 0, .int .i64 0], .int .i64 6]) ∧ Below w.heap.size w w' := by
  have h0 : 0 < s.size := h1
  have e : ((s[0]'h0).toNat : Int) = bt s 0 := bt_at s 0 h0
  have hb0 := (bt_range s 0).1
  have hb1 := (bt_range s 0).2
  generalize bt s 0 = c at *
  have HE := Aside0.mk (show wrap32 ((s[0]'h0).toNat : Int) = c by rw [e]; unfold wrap32; omega)
  clear e
  have hr := runl_le isWrd s s.size 0
  have HL := Aside0.mk (length_65 s hs)
  generalize runl isWrd s s.size 0 = m at *
  have hm1 : m ≤ s.size := by omega
  have hm2 : decide ((16 : Int) < (m : Int)) = true := by simp; omega
  clear hr
  go_enter Tryd.func41, Tryd.ntmps41
  go_wp2_with fail
  rw [HE.out]
  refine (k63 c _).mono ?_
  rintro _ _ ⟨rfl, ⟨n1, rfl⟩⟩
  rw [hd]
  go_wp2_with fail
  rw [HE.out]
  refine (k65 c _).mono ?_
  rintro _ _ ⟨rfl, ⟨n2, rfl⟩⟩
  rw [hw]
  go_wp2_with fail
  refine (HL.out _).mono ?_
  rintro _ _ ⟨rfl, ⟨n3, rfl⟩⟩
  go_wp2_with fail
  refine bodyPost_ret (results_ct rfl _ _ w.heap.size 48 #[.int .i64 0, .string (⟨#[]⟩ : ByteArray), .int .i64 0, .int .i64 0] (0, 0) _ rfl (by (with_reducible repeat (first | refine blk_drewN ?_ _ | refine blk_drew ?_)); refine blk_put (cs := #[.int .i64 0, .string (⟨#[]⟩ : ByteArray), .int .i64 0, .int .i64 0]) ?_ 3 _ rfl; (with_reducible repeat (first | refine blk_drewN ?_ _ | refine blk_drew ?_)); refine blk_put (cs := #[.int .i64 0, .string (⟨#[]⟩ : ByteArray), .int .i64 0, .int .i64 0]) ?_ 2 _ rfl; (with_reducible repeat (first | refine blk_drewN ?_ _ | refine blk_drew ?_)); refine blk_put (cs := #[.int .i64 0, .string (⟨#[]⟩ : ByteArray), .int .i64 0, .int .i64 0]) ?_ 1 _ rfl; (with_reducible repeat (first | refine blk_drewN ?_ _ | refine blk_drew ?_)); refine blk_put (cs := #[.int .i64 0, .string (⟨#[]⟩ : ByteArray), .int .i64 0, .int .i64 0]) ?_ 0 _ rfl; (with_reducible repeat (first | refine blk_drewN ?_ _ | refine blk_drew ?_)); exact blk_new w _) Tryd.underlying48 rfl (by kernel_rfl)) rfl ?_
  exact ⟨rfl, by repeat (first | (with_reducible first | apply below_alloc | apply pw_below_drewN | apply below_drew1 | refine below_set ?_ (Nat.le_refl _)) | exact Below.refl _ _)⟩
set_option maxHeartbeats 1000000 in
set_option maxRecDepth 100000 in
theorem first_dig (s : ByteArray) (hs : s.size ≤ 1000000) (h1 : 1 ≤ s.size) (hd : isDig (bt s 0) = true) (k : Nat) (r1 : Int) (r2 : ByteArray) (r3 r4 r5 : Int) (hn : lexer_number.f k (s.extract 0 (runl isDig s s.size 0)) = some (r1, r2, r3, r4, r5)) (w : World) :
    Calls Tryd.prog 41 #[.string s] w fun e w' => e = .returned (.tuple #[.agg #[.int .i64 r1, .string r2, .int .i64 r3, .int .i64 r4], .int .i64 r5]) ∧ Below w.heap.size w w' := by
  have h0 : 0 < s.size := h1
  have e : ((s[0]'h0).toNat : Int) = bt s 0 := bt_at s 0 h0
  have hb0 := (bt_range s 0).1
  have hb1 := (bt_range s 0).2
  generalize bt s 0 = c at *
  have HE := Aside0.mk (show wrap32 ((s[0]'h0).toNat : Int) = c by rw [e]; unfold wrap32; omega)
  clear e
  have hr := runl_le isDig s s.size 0
  have HL := Aside0.mk (length_63 s hs)
  generalize runl isDig s s.size 0 = m at *
  have hm1 : m ≤ s.size := by omega
  have HN := Aside0.mk (fun w => lexer_number.calls k _ r1 r2 r3 r4 r5 w hn)
  clear hr hn
  go_enter Tryd.func41, Tryd.ntmps41
  go_wp2_with fail
  rw [HE.out]
  refine (k63 c _).mono ?_
  rintro _ _ ⟨rfl, ⟨n1, rfl⟩⟩
  rw [hd]
  go_wp2_with fail
  refine (HL.out _).mono ?_
  rintro _ _ ⟨rfl, ⟨n3, rfl⟩⟩
  go_wp2_with fail
  refine (HN.out _).mono ?_
  rintro _ w4 ⟨rfl, hb4⟩
  have BK : w4.heap[w.heap.size]? = some (.cells #[.int .i64 0, .string (⟨#[]⟩ : ByteArray), .int .i64 0, .int .i64 0] 48 (0, 0)) := blk_below (by (with_reducible repeat (first | refine blk_drewN ?_ _ | refine blk_drew ?_)); exact blk_new w _) hb4
  have B4 := Aside0.mk (below_step (by repeat (first | (with_reducible first | apply below_alloc | apply pw_below_drewN | apply below_drew1 | refine below_set ?_ (Nat.le_refl _)) | exact Below.refl _ _)) hb4)
  clear hb4
  have q0 := (blk_cell BK 0).trans rfl
  have q1 := (blk_cell BK 1).trans rfl
  have q2 := (blk_cell BK 2).trans rfl
  have q3 := (blk_cell BK 3).trans rfl
  have f0 := blk_frozen BK 0
  have f1 := blk_frozen BK 1
  have f2 := blk_frozen BK 2
  have f3 := blk_frozen BK 3
  have BK' := Aside0.mk BK
  clear BK
  go_wp2_with fail
  refine bodyPost_ret (results_ct rfl _ _ w.heap.size 48 #[.int .i64 r1, .string r2, .int .i64 r3, .int .i64 r4] (0, 0) _ rfl (by (with_reducible repeat (first | refine blk_drewN ?_ _ | refine blk_drew ?_)); refine blk_put (cs := #[.int .i64 r1, .string r2, .int .i64 r3, .int .i64 0]) ?_ 3 _ rfl; (with_reducible repeat (first | refine blk_drewN ?_ _ | refine blk_drew ?_)); refine blk_put (cs := #[.int .i64 r1, .string r2, .int .i64 0, .int .i64 0]) ?_ 2 _ rfl; (with_reducible repeat (first | refine blk_drewN ?_ _ | refine blk_drew ?_)); refine blk_put (cs := #[.int .i64 r1, .string (⟨#[]⟩ : ByteArray), .int .i64 0, .int .i64 0]) ?_ 1 _ rfl; (with_reducible repeat (first | refine blk_drewN ?_ _ | refine blk_drew ?_)); refine blk_put (cs := #[.int .i64 0, .string (⟨#[]⟩ : ByteArray), .int .i64 0, .int .i64 0]) ?_ 0 _ rfl; (with_reducible repeat (first | refine blk_drewN ?_ _ | refine blk_drew ?_)); exact BK'.out) Tryd.underlying48 rfl (by kernel_rfl)) rfl ?_
  exact ⟨rfl, by repeat (first | (with_reducible first | apply below_alloc | apply pw_below_drewN | apply below_drew1 | refine below_set ?_ (Nat.le_refl _)) | exact B4.out)⟩
set_option maxHeartbeats 1000000 in
set_option maxRecDepth 100000 in
theorem first_mark_two (s : ByteArray) (hs : s.size ≤ 1000000) (h1 : 1 ≤ s.size) (hz : (2 : Int) ≤ (s.size : Int)) (hd : isDig (bt s 0) = false) (hw : isWrd (bt s 0) = false) (x : Int) (y : ByteArray) (z : Int) (hR : mkl s 2 = (x, y, z)) (w : World) :
    Calls Tryd.prog 41 #[.string s] w fun e w' => e = .returned (.tuple #[.agg #[.int .i64 x, .string y, .int .i64 0, .int .i64 0], .int .i64 z]) ∧ Below w.heap.size w w' := by
  have h0 : 0 < s.size := h1
  have e : ((s[0]'h0).toNat : Int) = bt s 0 := bt_at s 0 h0
  have hb0 := (bt_range s 0).1
  have hb1 := (bt_range s 0).2
  generalize bt s 0 = c at *
  have HE := Aside0.mk (show wrap32 ((s[0]'h0).toNat : Int) = c by rw [e]; unfold wrap32; omega)
  clear e
  have HR := Aside0.mk hR
  clear hR
  go_enter Tryd.func41, Tryd.ntmps41
  go_wp2_with fail
  rw [HE.out]
  refine (k63 c _).mono ?_
  rintro _ _ ⟨rfl, ⟨n1, rfl⟩⟩
  rw [hd]
  go_wp2_with fail
  rw [HE.out]
  refine (k65 c _).mono ?_
  rintro _ _ ⟨rfl, ⟨n2, rfl⟩⟩
  rw [hw]
  go_wp2_with fail
  go_loopw [5] (fun n wr => ∃ j : Nat, j ≤ 2 ∧ j ≤ s.size ∧ n = .int .i64 j ∧ Aside0 (mkl s j = (x, y, z)) ∧ Aside0 (∃ q, wr = (w.alloc (.cells #[.int .i64 0, .string (⟨#[]⟩ : ByteArray), .int .i64 0, .int .i64 0] 48 (0, 0))).drewN q)) (fun n _ => (intOf n).toNat)
  case atStart => exact ⟨2, by omega, by omega, rfl, HR, ⟨_, rfl⟩⟩
  case round =>
    obtain ⟨j, hj2, hjs, rfl, HJ, HQ⟩ := hrel
    obtain ⟨q, rfl⟩ := HQ.out
    clear HQ
    by_cases hj : 0 < j
    · have HS := HJ.out
      rw [show j = (j - 1) + 1 by omega, mkl, show (j - 1) + 1 = j by omega] at HS
      clear HJ
      obtain ⟨b, hb⟩ : ∃ b, isMk (s.extract 0 j) = b := ⟨_, rfl⟩
      rw [hb] at HS
      have HB := Aside0.mk hb
      have HS := Aside0.mk HS
      clear hb
      go_wp2_with fail
      refine (k66 _ _).mono ?_
      rintro _ _ ⟨rfl, ⟨n4, rfl⟩⟩
      rw [HB.out]
      cases b with
      | true =>
        have hS := HS.out
        rw [if_pos rfl] at hS
        simp only [Prod.mk.injEq] at hS
        obtain ⟨rfl, rfl, rfl⟩ := hS
        go_wp2_with fail
        refine bodyPost_ret (results_ct rfl _ _ w.heap.size 48 #[.int .i64 3, .string (s.extract 0 j), .int .i64 0, .int .i64 0] (0, 0) _ rfl (by (with_reducible repeat (first | refine blk_drewN ?_ _ | refine blk_drew ?_)); refine blk_put (cs := #[.int .i64 3, .string (s.extract 0 j), .int .i64 0, .int .i64 0]) ?_ 3 _ rfl; (with_reducible repeat (first | refine blk_drewN ?_ _ | refine blk_drew ?_)); refine blk_put (cs := #[.int .i64 3, .string (s.extract 0 j), .int .i64 0, .int .i64 0]) ?_ 2 _ rfl; (with_reducible repeat (first | refine blk_drewN ?_ _ | refine blk_drew ?_)); refine blk_put (cs := #[.int .i64 3, .string (⟨#[]⟩ : ByteArray), .int .i64 0, .int .i64 0]) ?_ 1 _ rfl; (with_reducible repeat (first | refine blk_drewN ?_ _ | refine blk_drew ?_)); refine blk_put (cs := #[.int .i64 0, .string (⟨#[]⟩ : ByteArray), .int .i64 0, .int .i64 0]) ?_ 0 _ rfl; (with_reducible repeat (first | refine blk_drewN ?_ _ | refine blk_drew ?_)); exact blk_new w _) Tryd.underlying48 rfl (by kernel_rfl)) rfl ?_
        exact ⟨rfl, by repeat (first | (with_reducible first | apply below_alloc | apply pw_below_drewN | apply below_drew1 | refine below_set ?_ (Nat.le_refl _)) | exact Below.refl _ _)⟩
      | false =>
        have HK := HS.out
        rw [if_neg (by decide)] at HK
        have HK := Aside0.mk HK
        go_wp2_with fail
        exact ⟨⟨j - 1, by omega, by omega, by congr 1; omega, HK, ⟨_, rfl⟩⟩, by simp [intOf]; omega⟩
    · have hz0 : j = 0 := by omega
      subst hz0
      have hS := HJ.out
      rw [mkl] at hS
      simp only [Prod.mk.injEq] at hS
      obtain ⟨rfl, rfl, rfl⟩ := hS
      go_wp2_with fail
      refine bodyPost_ret (results_ct rfl _ _ w.heap.size 48 #[.int .i64 0, .string (⟨#[]⟩ : ByteArray), .int .i64 0, .int .i64 0] (0, 0) _ rfl (by (with_reducible repeat (first | refine blk_drewN ?_ _ | refine blk_drew ?_)); refine blk_put (cs := #[.int .i64 0, .string (⟨#[]⟩ : ByteArray), .int .i64 0, .int .i64 0]) ?_ 3 _ rfl; (with_reducible repeat (first | refine blk_drewN ?_ _ | refine blk_drew ?_)); refine blk_put (cs := #[.int .i64 0, .string (⟨#[]⟩ : ByteArray), .int .i64 0, .int .i64 0]) ?_ 2 _ rfl; (with_reducible repeat (first | refine blk_drewN ?_ _ | refine blk_drew ?_)); refine blk_put (cs := #[.int .i64 0, .string (⟨#[]⟩ : ByteArray), .int .i64 0, .int .i64 0]) ?_ 1 _ rfl; (with_reducible repeat (first | refine blk_drewN ?_ _ | refine blk_drew ?_)); refine blk_put (cs := #[.int .i64 0, .string (⟨#[]⟩ : ByteArray), .int .i64 0, .int .i64 0]) ?_ 0 _ rfl; (with_reducible repeat (first | refine blk_drewN ?_ _ | refine blk_drew ?_)); exact blk_new w _) Tryd.underlying48 rfl (by kernel_rfl)) rfl ?_
      exact ⟨rfl, by repeat (first | (with_reducible first | apply below_alloc | apply pw_below_drewN | apply below_drew1 | refine below_set ?_ (Nat.le_refl _)) | exact Below.refl _ _)⟩
set_option maxHeartbeats 1000000 in
set_option maxRecDepth 100000 in
theorem first_mark_one (s : ByteArray) (hs : s.size ≤ 1000000) (h1 : 1 ≤ s.size) (hz : ¬ (2 : Int) ≤ (s.size : Int)) (hd : isDig (bt s 0) = false) (hw : isWrd (bt s 0) = false) (x : Int) (y : ByteArray) (z : Int) (hR : mkl s s.size = (x, y, z)) (w : World) :
    Calls Tryd.prog 41 #[.string s] w fun e w' => e = .returned (.tuple #[.agg #[.int .i64 x, .string y, .int .i64 0, .int .i64 0], .int .i64 z]) ∧ Below w.heap.size w w' := by
  have h0 : 0 < s.size := h1
  have e : ((s[0]'h0).toNat : Int) = bt s 0 := bt_at s 0 h0
  have hb0 := (bt_range s 0).1
  have hb1 := (bt_range s 0).2
  generalize bt s 0 = c at *
  have HE := Aside0.mk (show wrap32 ((s[0]'h0).toNat : Int) = c by rw [e]; unfold wrap32; omega)
  clear e
  have HR := Aside0.mk hR
  clear hR
  go_enter Tryd.func41, Tryd.ntmps41
  go_wp2_with fail
  rw [HE.out]
  refine (k63 c _).mono ?_
  rintro _ _ ⟨rfl, ⟨n1, rfl⟩⟩
  rw [hd]
  go_wp2_with fail
  rw [HE.out]
  refine (k65 c _).mono ?_
  rintro _ _ ⟨rfl, ⟨n2, rfl⟩⟩
  rw [hw]
  go_wp2_with fail
  go_loopw [5] (fun n wr => ∃ j : Nat, j ≤ 2 ∧ j ≤ s.size ∧ n = .int .i64 j ∧ Aside0 (mkl s j = (x, y, z)) ∧ Aside0 (∃ q, wr = (w.alloc (.cells #[.int .i64 0, .string (⟨#[]⟩ : ByteArray), .int .i64 0, .int .i64 0] 48 (0, 0))).drewN q)) (fun n _ => (intOf n).toNat)
  case atStart => exact ⟨s.size, by omega, by omega, rfl, HR, ⟨_, rfl⟩⟩
  case round =>
    obtain ⟨j, hj2, hjs, rfl, HJ, HQ⟩ := hrel
    obtain ⟨q, rfl⟩ := HQ.out
    clear HQ
    by_cases hj : 0 < j
    · have HS := HJ.out
      rw [show j = (j - 1) + 1 by omega, mkl, show (j - 1) + 1 = j by omega] at HS
      clear HJ
      obtain ⟨b, hb⟩ : ∃ b, isMk (s.extract 0 j) = b := ⟨_, rfl⟩
      rw [hb] at HS
      have HB := Aside0.mk hb
      have HS := Aside0.mk HS
      clear hb
      go_wp2_with fail
      refine (k66 _ _).mono ?_
      rintro _ _ ⟨rfl, ⟨n4, rfl⟩⟩
      rw [HB.out]
      cases b with
      | true =>
        have hS := HS.out
        rw [if_pos rfl] at hS
        simp only [Prod.mk.injEq] at hS
        obtain ⟨rfl, rfl, rfl⟩ := hS
        go_wp2_with fail
        refine bodyPost_ret (results_ct rfl _ _ w.heap.size 48 #[.int .i64 3, .string (s.extract 0 j), .int .i64 0, .int .i64 0] (0, 0) _ rfl (by (with_reducible repeat (first | refine blk_drewN ?_ _ | refine blk_drew ?_)); refine blk_put (cs := #[.int .i64 3, .string (s.extract 0 j), .int .i64 0, .int .i64 0]) ?_ 3 _ rfl; (with_reducible repeat (first | refine blk_drewN ?_ _ | refine blk_drew ?_)); refine blk_put (cs := #[.int .i64 3, .string (s.extract 0 j), .int .i64 0, .int .i64 0]) ?_ 2 _ rfl; (with_reducible repeat (first | refine blk_drewN ?_ _ | refine blk_drew ?_)); refine blk_put (cs := #[.int .i64 3, .string (⟨#[]⟩ : ByteArray), .int .i64 0, .int .i64 0]) ?_ 1 _ rfl; (with_reducible repeat (first | refine blk_drewN ?_ _ | refine blk_drew ?_)); refine blk_put (cs := #[.int .i64 0, .string (⟨#[]⟩ : ByteArray), .int .i64 0, .int .i64 0]) ?_ 0 _ rfl; (with_reducible repeat (first | refine blk_drewN ?_ _ | refine blk_drew ?_)); exact blk_new w _) Tryd.underlying48 rfl (by kernel_rfl)) rfl ?_
        exact ⟨rfl, by repeat (first | (with_reducible first | apply below_alloc | apply pw_below_drewN | apply below_drew1 | refine below_set ?_ (Nat.le_refl _)) | exact Below.refl _ _)⟩
      | false =>
        have HK := HS.out
        rw [if_neg (by decide)] at HK
        have HK := Aside0.mk HK
        go_wp2_with fail
        exact ⟨⟨j - 1, by omega, by omega, by congr 1; omega, HK, ⟨_, rfl⟩⟩, by simp [intOf]; omega⟩
    · have hz0 : j = 0 := by omega
      subst hz0
      have hS := HJ.out
      rw [mkl] at hS
      simp only [Prod.mk.injEq] at hS
      obtain ⟨rfl, rfl, rfl⟩ := hS
      go_wp2_with fail
      refine bodyPost_ret (results_ct rfl _ _ w.heap.size 48 #[.int .i64 0, .string (⟨#[]⟩ : ByteArray), .int .i64 0, .int .i64 0] (0, 0) _ rfl (by (with_reducible repeat (first | refine blk_drewN ?_ _ | refine blk_drew ?_)); refine blk_put (cs := #[.int .i64 0, .string (⟨#[]⟩ : ByteArray), .int .i64 0, .int .i64 0]) ?_ 3 _ rfl; (with_reducible repeat (first | refine blk_drewN ?_ _ | refine blk_drew ?_)); refine blk_put (cs := #[.int .i64 0, .string (⟨#[]⟩ : ByteArray), .int .i64 0, .int .i64 0]) ?_ 2 _ rfl; (with_reducible repeat (first | refine blk_drewN ?_ _ | refine blk_drew ?_)); refine blk_put (cs := #[.int .i64 0, .string (⟨#[]⟩ : ByteArray), .int .i64 0, .int .i64 0]) ?_ 1 _ rfl; (with_reducible repeat (first | refine blk_drewN ?_ _ | refine blk_drew ?_)); refine blk_put (cs := #[.int .i64 0, .string (⟨#[]⟩ : ByteArray), .int .i64 0, .int .i64 0]) ?_ 0 _ rfl; (with_reducible repeat (first | refine blk_drewN ?_ _ | refine blk_drew ?_)); exact blk_new w _) Tryd.underlying48 rfl (by kernel_rfl)) rfl ?_
      exact ⟨rfl, by repeat (first | (with_reducible first | apply below_alloc | apply pw_below_drewN | apply below_drew1 | refine below_set ?_ (Nat.le_refl _)) | exact Below.refl _ _)⟩
theorem lexeme_first.calls (k : Nat) (a0 : ByteArray) (r1 : Int) (r2 : ByteArray) (r3 : Int) (r4 : Int) (r5 : Int) (w : World) (h : lexeme_first.f k a0 = some (r1, r2, r3, r4, r5)) :
    Calls Tryd.prog 41 #[.string a0] w fun e w' => e = .returned (.tuple #[.agg #[.int .i64 r1, .string r2, .int .i64 r3, .int .i64 r4], .int .i64 r5]) ∧ Below w.heap.size w w' := by
  unfold lexeme_first.f at h
  by_cases hg : a0.size ≤ 1000000 ∧ 1 ≤ a0.size
  · rw [if_pos hg] at h
    by_cases hd : isDig (bt a0 0) = true
    · rw [if_pos hd] at h
      exact first_dig a0 hg.1 hg.2 hd k r1 r2 r3 r4 r5 h w
    · rw [if_neg hd] at h
      replace hd := Bool.eq_false_iff.2 hd
      by_cases hw : isWrd (bt a0 0) = true
      · rw [if_pos hw] at h
        by_cases hm : runl isWrd a0 a0.size 0 ≤ 16
        · rw [if_pos hm] at h
          simp only [Option.some.injEq, Prod.mk.injEq] at h
          obtain ⟨rfl, rfl, rfl, rfl, rfl⟩ := h
          exact first_wrd a0 hg.1 hg.2 hd hw hm w
        · rw [if_neg hm] at h
          simp only [Option.some.injEq, Prod.mk.injEq] at h
          obtain ⟨rfl, rfl, rfl, rfl, rfl⟩ := h
          exact first_long a0 hg.1 hg.2 hd hw hm w
      · rw [if_neg hw] at h
        replace hw := Bool.eq_false_iff.2 hw
        simp only [Option.some.injEq, Prod.mk.injEq] at h
        obtain ⟨rfl, rfl, rfl, rfl, rfl⟩ := h
        by_cases hz : 2 ≤ a0.size
        · rw [Nat.min_eq_left hz]
          exact first_mark_two a0 hg.1 hg.2 (by omega) hd hw _ _ _ rfl w
        · rw [Nat.min_eq_right (by omega)]
          exact first_mark_one a0 hg.1 hg.2 (by omega) hd hw _ _ _ rfl w
  · rw [if_neg hg] at h
    cases h
theorem LeO_ite {α : Type} {c : Prop} [Decidable c] {a b a' b' : Option α} (h : LeO a a') (k : LeO b b') : LeO (if c then a else b) (if c then a' else b') := by
  by_cases hc : c
  · rw [if_pos hc, if_pos hc]; exact h
  · rw [if_neg hc, if_neg hc]; exact k
theorem lexeme_first.mono : ∀ a0 k, LeO (lexeme_first.f k a0) (lexeme_first.f (k + 1) a0) := by
  intro a0 k
  unfold lexeme_first.f
  exact LeO_ite (LeO_ite (lexer_number.mono _ _) (fun r h => h)) (fun r h => h)
def lexeme_skip.f (s : ByteArray) : Option Int := if s.size ≤ 1000000 then some ((skp s s.size 0 : Nat) : Int) else none
theorem lexeme_skip.calls (a0 : ByteArray) (r : Int) (w : World) (h : lexeme_skip.f a0 = some r) : Calls Tryd.prog 40 #[.string a0] w fun e w' => e = .returned (.int .i64 r) ∧ Drawn0 w w' := by
  unfold lexeme_skip.f at h
  by_cases hg : a0.size ≤ 1000000
  · rw [if_pos hg] at h
    cases h
    exact skip_any a0 hg w
  · rw [if_neg hg] at h
    cases h
end Go.Proofs.YtmnbbhieodcoeaaDoor.Rt
