/-
  The lexer's helpers: length over each kind of characters, skip, and the first lexeme of a string. For strings of at most a million bytes.
-/
import Derived.Test.YtmnbbhieodcoeaaDoorPBasex
import Derived.ProofKit
namespace Go.Proofs.YtmnbbhieodcoeaaDoor.Rt
open Go.RowKit Go.Proofs.YtmnbbhieodcoeaaDoorW.PrintWords Go.Proofs.YtmnbbhieodcoeaaDoorW.PrintLast Go.Proofs.YtmnbbhieodcoeaaDoorW.PrintMore
open Go.Proofs.YtmnbbhieodcoeaaDoor.PBase
set_option linter.unusedVariables false
set_option linter.unusedSimpArgs false

theorem Drawn0.trans {a b c : World} (h : Drawn0 a b) (k : Drawn0 b c) : Drawn0 a c := by
  obtain ⟨n, rfl⟩ := k.out
  exact h.step n
def isDig (c : Int) : Bool := decide (48 ≤ c ∧ c ≤ 57)
def isWrd (c : Int) : Bool := decide (48 ≤ c ∧ c ≤ 57) || decide (97 ≤ c ∧ c ≤ 122) || decide (65 ≤ c ∧ c ≤ 90) || decide (c = 95)
def isRem (c : Int) : Bool := decide (c ≠ 10)
theorem isDig_f (c : Int) : lexer_isDigit.f c = some (isDig c) := by
  unfold lexer_isDigit.f isDig
  by_cases h : 48 ≤ c
  · rw [if_pos h]
    congr 1
    simp [h]
  · rw [if_neg h]
    congr 1
    simp [h]
theorem isWrd_f (c : Int) : lexer_isWord.f c = some (isWrd c) := by
  unfold lexer_isWord.f isWrd
  rw [isDig_f, Option.bind_some]
  unfold isDig
  by_cases h1 : 48 ≤ c ∧ c ≤ 57
  · simp [h1]
  · by_cases h2 : 97 ≤ c
    · by_cases h3 : c ≤ 122
      · simp [h1, h2, h3]
      · by_cases h4 : 65 ≤ c
        · by_cases h5 : c ≤ 90
          · omega
          · simp [h1, h2, h3, h4, h5]
            by_cases h6 : c = 95 <;> simp [h6]
        · omega
    · by_cases h4 : 65 ≤ c
      · by_cases h5 : c ≤ 90
        · simp [h1, h2, h4, h5]
        · simp [h1, h2, h4, h5]
          by_cases h6 : c = 95 <;> simp [h6]
      · simp [h1, h2, h4]
        by_cases h6 : c = 95 <;> simp [h6]
theorem k63 (c : Int) (w : World) : Calls Tryd.prog 63 #[.int .i32 c] w fun e w' => e = .returned (.bool (isDig c)) ∧ Drawn0 w w' := lexer_isDigit.calls c _ w (isDig_f c)
theorem k65 (c : Int) (w : World) : Calls Tryd.prog 65 #[.int .i32 c] w fun e w' => e = .returned (.bool (isWrd c)) ∧ Drawn0 w w' := lexer_isWord.calls c _ w (isWrd_f c)
theorem k62 (c : Int) (w : World) : Calls Tryd.prog 62 #[.int .i32 c] w fun e w' => e = .returned (.bool (isRem c)) ∧ Drawn0 w w' := by
  have HE := Aside0.mk (show (c != 10) = isRem c by unfold isRem; by_cases h : c = 10 <;> simp [h])
  go_enter Tryd.func62, Tryd.ntmps62
  go_wp2_with fail
  go_ret
  exact ⟨by rw [← HE.out]; rfl, ⟨0, rfl⟩⟩
/-- How many bytes from k on are of the kind. -/
def runl (p : Int → Bool) (s : ByteArray) : Nat → Nat → Nat
  | 0, i => i
  | d + 1, i => if p (bt s i) = true then runl p s d (i + 1) else i
theorem runl_le (p : Int → Bool) (s : ByteArray) : ∀ d i, i ≤ runl p s d i ∧ runl p s d i ≤ i + d
  | 0, i => by rw [runl]; omega
  | d + 1, i => by
    have := runl_le p s d (i + 1)
    rw [runl]
    split <;> omega
set_option maxHeartbeats 1000000 in
set_option maxRecDepth 100000 in
theorem length_62 (s : ByteArray) (hs : s.size ≤ 1000000) (w : World) :
    Calls Tryd.prog 61 #[.string s, .func (.func 62) #[] #[]] w fun e w' => e = .returned (.int .i64 (runl isRem s s.size 0 : Nat)) ∧ Drawn0 w w' := by
  obtain ⟨R, hR⟩ : ∃ R, runl isRem s s.size 0 = R := ⟨_, rfl⟩
  have HR := Aside0.mk hR
  rw [hR]
  clear hR
  go_enter Tryd.func61, Tryd.ntmps61
  go_wp2_with fail
  go_loopw [8, 5] (fun c i wr => ∃ k : Nat, k ≤ s.size ∧ c = .int .i64 k ∧ Aside0 (runl isRem s (s.size - k) k = R) ∧ Aside0 (Drawn0 w wr)) (fun c _ _ => s.size - (intOf c).toNat)
  case atStart => exact ⟨0, Nat.zero_le _, rfl, HR, ⟨Drawn0.refl _⟩⟩
  case round =>
    obtain ⟨k, hk, rfl, HK, HD⟩ := hrel
    by_cases hlt : k < s.size
    · have hb0 := (bt_range s (k : Int)).1
      have hb1 := (bt_range s (k : Int)).2
      have e : ((s[k]'hlt).toNat : Int) = bt s k := bt_at s (k : Int) hlt
      have HS := Aside0.mk (show runl isRem s (s.size - k) k = if isRem (bt s k) = true then runl isRem s (s.size - (k + 1)) (k + 1) else k by
        rw [show s.size - k = (s.size - (k + 1)) + 1 by omega, runl])
      obtain ⟨c, hc⟩ : ∃ c, bt s (k : Int) = c := ⟨_, rfl⟩
      rw [hc] at hb0 hb1 HS e
      have HE := Aside0.mk (show wrap32 ((s[k]'hlt).toNat : Int) = c by rw [e]; unfold wrap32; omega)
      clear hc e
      go_wp2_with fail
      rw [HE.out]
      refine (k62 c _).mono ?_
      rintro _ w1 ⟨rfl, hd⟩
      have HD1 := Aside0.mk (Drawn0.trans HD.out hd)
      clear hd HD
      by_cases hp : isRem c = true
      · rw [hp]
        rw [if_pos hp] at HS
        have HK1 := Aside0.mk (HS.out.symm.trans HK.out)
        go_wp2_with fail
        exact ⟨⟨k + 1, by omega, rfl, HK1, HD1⟩, by simp [intOf]; omega⟩
      · rw [if_neg hp] at HS
        have hkR := HS.out.symm.trans HK.out
        rw [Bool.eq_false_iff.2 hp]
        subst hkR
        go_wp2_with fail
        go_ret
        exact ⟨rfl, HD1.out⟩
    · have e : runl isRem s (s.size - k) k = k := by rw [show s.size - k = 0 by omega, runl]
      rw [e] at HK
      have hkR := HK.out
      subst hkR
      go_wp2_with fail
      go_ret
      have hks : s.size = k := by omega
      exact ⟨by rw [← hks]; rfl, HD.out⟩
set_option maxHeartbeats 1000000 in
set_option maxRecDepth 100000 in
theorem length_63 (s : ByteArray) (hs : s.size ≤ 1000000) (w : World) :
    Calls Tryd.prog 61 #[.string s, .func (.func 63) #[] #[]] w fun e w' => e = .returned (.int .i64 (runl isDig s s.size 0 : Nat)) ∧ Drawn0 w w' := by
  obtain ⟨R, hR⟩ : ∃ R, runl isDig s s.size 0 = R := ⟨_, rfl⟩
  have HR := Aside0.mk hR
  rw [hR]
  clear hR
  go_enter Tryd.func61, Tryd.ntmps61
  go_wp2_with fail
  go_loopw [8, 5] (fun c i wr => ∃ k : Nat, k ≤ s.size ∧ c = .int .i64 k ∧ Aside0 (runl isDig s (s.size - k) k = R) ∧ Aside0 (Drawn0 w wr)) (fun c _ _ => s.size - (intOf c).toNat)
  case atStart => exact ⟨0, Nat.zero_le _, rfl, HR, ⟨Drawn0.refl _⟩⟩
  case round =>
    obtain ⟨k, hk, rfl, HK, HD⟩ := hrel
    by_cases hlt : k < s.size
    · have hb0 := (bt_range s (k : Int)).1
      have hb1 := (bt_range s (k : Int)).2
      have e : ((s[k]'hlt).toNat : Int) = bt s k := bt_at s (k : Int) hlt
      have HS := Aside0.mk (show runl isDig s (s.size - k) k = if isDig (bt s k) = true then runl isDig s (s.size - (k + 1)) (k + 1) else k by
        rw [show s.size - k = (s.size - (k + 1)) + 1 by omega, runl])
      obtain ⟨c, hc⟩ : ∃ c, bt s (k : Int) = c := ⟨_, rfl⟩
      rw [hc] at hb0 hb1 HS e
      have HE := Aside0.mk (show wrap32 ((s[k]'hlt).toNat : Int) = c by rw [e]; unfold wrap32; omega)
      clear hc e
      go_wp2_with fail
      rw [HE.out]
      refine (k63 c _).mono ?_
      rintro _ w1 ⟨rfl, hd⟩
      have HD1 := Aside0.mk (Drawn0.trans HD.out hd)
      clear hd HD
      by_cases hp : isDig c = true
      · rw [hp]
        rw [if_pos hp] at HS
        have HK1 := Aside0.mk (HS.out.symm.trans HK.out)
        go_wp2_with fail
        exact ⟨⟨k + 1, by omega, rfl, HK1, HD1⟩, by simp [intOf]; omega⟩
      · rw [if_neg hp] at HS
        have hkR := HS.out.symm.trans HK.out
        rw [Bool.eq_false_iff.2 hp]
        subst hkR
        go_wp2_with fail
        go_ret
        exact ⟨rfl, HD1.out⟩
    · have e : runl isDig s (s.size - k) k = k := by rw [show s.size - k = 0 by omega, runl]
      rw [e] at HK
      have hkR := HK.out
      subst hkR
      go_wp2_with fail
      go_ret
      have hks : s.size = k := by omega
      exact ⟨by rw [← hks]; rfl, HD.out⟩
set_option maxHeartbeats 1000000 in
set_option maxRecDepth 100000 in
theorem length_65 (s : ByteArray) (hs : s.size ≤ 1000000) (w : World) :
    Calls Tryd.prog 61 #[.string s, .func (.func 65) #[] #[]] w fun e w' => e = .returned (.int .i64 (runl isWrd s s.size 0 : Nat)) ∧ Drawn0 w w' := by
  obtain ⟨R, hR⟩ : ∃ R, runl isWrd s s.size 0 = R := ⟨_, rfl⟩
  have HR := Aside0.mk hR
  rw [hR]
  clear hR
  go_enter Tryd.func61, Tryd.ntmps61
  go_wp2_with fail
  go_loopw [8, 5] (fun c i wr => ∃ k : Nat, k ≤ s.size ∧ c = .int .i64 k ∧ Aside0 (runl isWrd s (s.size - k) k = R) ∧ Aside0 (Drawn0 w wr)) (fun c _ _ => s.size - (intOf c).toNat)
  case atStart => exact ⟨0, Nat.zero_le _, rfl, HR, ⟨Drawn0.refl _⟩⟩
  case round =>
    obtain ⟨k, hk, rfl, HK, HD⟩ := hrel
    by_cases hlt : k < s.size
    · have hb0 := (bt_range s (k : Int)).1
      have hb1 := (bt_range s (k : Int)).2
      have e : ((s[k]'hlt).toNat : Int) = bt s k := bt_at s (k : Int) hlt
      have HS := Aside0.mk (show runl isWrd s (s.size - k) k = if isWrd (bt s k) = true then runl isWrd s (s.size - (k + 1)) (k + 1) else k by
        rw [show s.size - k = (s.size - (k + 1)) + 1 by omega, runl])
      obtain ⟨c, hc⟩ : ∃ c, bt s (k : Int) = c := ⟨_, rfl⟩
      rw [hc] at hb0 hb1 HS e
      have HE := Aside0.mk (show wrap32 ((s[k]'hlt).toNat : Int) = c by rw [e]; unfold wrap32; omega)
      clear hc e
      go_wp2_with fail
      rw [HE.out]
      refine (k65 c _).mono ?_
      rintro _ w1 ⟨rfl, hd⟩
      have HD1 := Aside0.mk (Drawn0.trans HD.out hd)
      clear hd HD
      by_cases hp : isWrd c = true
      · rw [hp]
        rw [if_pos hp] at HS
        have HK1 := Aside0.mk (HS.out.symm.trans HK.out)
        go_wp2_with fail
        exact ⟨⟨k + 1, by omega, rfl, HK1, HD1⟩, by simp [intOf]; omega⟩
      · rw [if_neg hp] at HS
        have hkR := HS.out.symm.trans HK.out
        rw [Bool.eq_false_iff.2 hp]
        subst hkR
        go_wp2_with fail
        go_ret
        exact ⟨rfl, HD1.out⟩
    · have e : runl isWrd s (s.size - k) k = k := by rw [show s.size - k = 0 by omega, runl]
      rw [e] at HK
      have hkR := HK.out
      subst hkR
      go_wp2_with fail
      go_ret
      have hks : s.size = k := by omega
      exact ⟨by rw [← hks]; rfl, HD.out⟩
end Go.Proofs.YtmnbbhieodcoeaaDoor.Rt
