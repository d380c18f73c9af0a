/-
  The lexer's skip: how many bytes of blanks and remarks a string begins with. For strings of at most a million bytes.
-/
import Derived.Test.YtmnbbhieodcoeaaDoorLex0
namespace Go.Proofs.YtmnbbhieodcoeaaDoor.Rt
open Go.RowKit Go.Proofs.YtmnbbhieodcoeaaDoorW.PrintWords Go.Proofs.YtmnbbhieodcoeaaDoorW.PrintLast Go.Proofs.YtmnbbhieodcoeaaDoorW.PrintMore
open Go.Proofs.YtmnbbhieodcoeaaDoor.PBase
set_option linter.unusedVariables false
set_option linter.unusedSimpArgs false

theorem size_from (s : ByteArray) (k : Nat) : (s.extract k s.size).size = s.size - k := by simp
theorem bt_from (s : ByteArray) (k i : Nat) (h : k + i < s.size) : bt (s.extract k s.size) (i : Int) = bt s ((k + i : Nat) : Int) := by
  unfold bt
  rw [dif_pos (by rw [size_from]; omega), dif_pos (by omega)]
  simp only [Int.toNat_natCast, ByteArray.getElem_extract]
/-- Where the blanks and remarks from i on end. -/
def skp (s : ByteArray) : Nat → Nat → Nat
  | 0, i => i
  | d + 1, i => if i < s.size then (if bt s i = 32 then skp s d (i + 1) else if bt s i = 10 then skp s d (i + 1) else if bt s i = 35 then skp s d (i + runl isRem (s.extract i s.size) (s.extract i s.size).size 0) else i) else i
theorem skp_le (s : ByteArray) : ∀ d i, i ≤ s.size → i ≤ skp s d i ∧ skp s d i ≤ s.size
  | 0, i, h => by rw [skp]; omega
  | d + 1, i, h => by
    rw [skp]
    by_cases c : i < s.size
    · have h1 := skp_le s d (i + 1) (by omega)
      have h2 := runl_le isRem (s.extract i s.size) (s.extract i s.size).size 0
      have h3 := skp_le s d (i + runl isRem (s.extract i s.size) (s.extract i s.size).size 0) (by rw [size_from] at h2 ⊢; omega)
      rw [if_pos c]
      split
      · omega
      · split
        · omega
        · split <;> omega
    · rw [if_neg c]; omega
set_option maxHeartbeats 1000000 in
set_option maxRecDepth 100000 in
theorem skip_any (s : ByteArray) (hs : s.size ≤ 1000000) (w : World) :
    Calls Tryd.prog 40 #[.string s] w fun e w' => e = .returned (.int .i64 (skp s s.size 0 : Nat)) ∧ Drawn0 w w' := by
  obtain ⟨R, hR⟩ : ∃ R, skp s s.size 0 = R := ⟨_, rfl⟩
  have HR := Aside0.mk hR
  rw [hR]
  clear hR
  go_enter Tryd.func40, Tryd.ntmps40
  go_wp2_with fail
  go_loopw [3] (fun c wr => ∃ k d : Nat, k ≤ s.size ∧ s.size - k ≤ d ∧ c = .int .i64 k ∧ Aside0 (skp s d k = R) ∧ Aside0 (Drawn0 w wr)) (fun c _ => s.size - (intOf c).toNat)
  case atStart => exact ⟨0, s.size, Nat.zero_le _, by omega, rfl, HR, ⟨Drawn0.refl _⟩⟩
  case round =>
    obtain ⟨k, d, hk, hd, rfl, HK, HD⟩ := hrel
    by_cases hlt : k < s.size
    · obtain ⟨d, rfl⟩ : ∃ j, d = j + 1 := ⟨d - 1, by omega⟩
      have hb0 := (bt_range s (k : Int)).1
      have hb1 := (bt_range s (k : Int)).2
      have e : ((s[k]'hlt).toNat : Int) = bt s k := bt_at s (k : Int) hlt
      have hb := bt_from s k 0 (by omega)
      have HS := HK.out
      rw [skp, if_pos hlt] at HS
      obtain ⟨c, hc⟩ : ∃ c, bt s (k : Int) = c := ⟨_, rfl⟩
      rw [Nat.add_zero, hc] at hb
      rw [hc] at hb0 hb1 e HS
      clear hc HK
      by_cases h32 : c = 32
      · rw [if_pos h32] at HS
        have HK := Aside0.mk HS
        rw [h32] at e
        clear HS hb
        go_wp2_with fail
        exact ⟨⟨k + 1, d, by omega, by omega, rfl, HK, HD⟩, by simp [intOf]; omega⟩
      rw [if_neg h32] at HS
      by_cases h10 : c = 10
      · rw [if_pos h10] at HS
        have HK := Aside0.mk HS
        rw [h10] at e
        clear HS hb
        go_wp2_with fail
        exact ⟨⟨k + 1, d, by omega, by omega, rfl, HK, HD⟩, by simp [intOf]; omega⟩
      rw [if_neg h10] at HS
      by_cases h35 : c = 35
      · rw [if_pos h35] at HS
        have hr := runl_le isRem (s.extract k s.size) (s.extract k s.size).size 0
        have hp : 1 ≤ runl isRem (s.extract k s.size) (s.extract k s.size).size 0 := by
          rw [size_from, show s.size - k = (s.size - k - 1) + 1 by omega, runl, if_pos (by rw [show ((0 : Nat) : Int) = ((0 : Nat) : Int) from rfl, hb, h35]; decide)]
          exact (runl_le isRem (s.extract k s.size) (s.size - k - 1) 1).1
        have H := Aside0.mk (length_62 (s.extract k s.size) (by rw [size_from]; omega))
        generalize runl isRem (s.extract k s.size) (s.extract k s.size).size 0 = m at *
        rw [size_from] at hr
        have HK := Aside0.mk HS
        rw [h35] at e
        clear HS hb
        go_wp2_with fail
        refine (H.out _).mono ?_
        rintro _ w1 ⟨rfl, hd1⟩
        have HD1 := Aside0.mk (Drawn0.trans HD.out hd1)
        clear hd1 HD
        go_wp2_with fail
        exact ⟨⟨k + m, d, by omega, by omega, by simp, HK, HD1⟩, by simp [intOf]; omega⟩
      · rw [if_neg h35] at HS
        have q1 : (c == 32) = false := by simpa using h32
        have q2 : (c == 10) = false := by simpa using h10
        have q3 : (c == 35) = false := by simpa using h35
        subst HS
        clear hb
        go_wp2_with fail
        go_ret
        exact ⟨rfl, HD.out⟩
    · have e : skp s d k = k := by
        cases d with
        | zero => rw [skp]
        | succ d => rw [skp, if_neg hlt]
      rw [e] at HK
      have hkR := HK.out
      subst hkR
      go_wp2_with fail
      go_ret
      have hks : s.size = k := by omega
      exact ⟨rfl, HD.out⟩
end Go.Proofs.YtmnbbhieodcoeaaDoor.Rt
