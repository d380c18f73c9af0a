/-
  The laws UnitsSteps and UnitsRoots return true. Condition: the library's table of powers of ten holds what it holds at the start.
-/
import Derived.Test.YtlfloandockgbaaDoorLawB
import Derived.Test.YtlfloandockgbaaDoorLawA
namespace Go.Proofs.YtlfloandockgbaaDoor.Uni
open Go.RowKit Go.Proofs.YtlfloandockgbaaDoorW.PrintWords Go.Proofs.YtlfloandockgbaaDoorW.PrintLast Go.Proofs.YtlfloandockgbaaDoorW.PrintMore
open Go.Proofs.YtlfloandockgbaaDoor.PAll
set_option linter.unusedVariables false
set_option linter.unusedSimpArgs false

def st (u c : Nat) : Nat := if u * c / 10000 = 0 then 1 else u * c / 10000
theorem st_pos (u c : Nat) : 1 ≤ st u c := by
  unfold st
  split <;> omega
theorem st_le (u c : Nat) (hu : 0 < u) (hc : c ≤ 10000) : st u c ≤ u := by
  have h : u * c ≤ u * 10000 := Nat.mul_le_mul_left u hc
  unfold st
  generalize u * c = z at *
  split <;> omega
theorem st_full (u : Nat) (hu : 0 < u) : st u 10000 = u := by
  unfold st
  rw [if_neg (by omega)]
  omega
theorem st_mono (u c d : Nat) (h : c ≤ d) : st u c ≤ st u d := by
  have h : u * c ≤ u * d := Nat.mul_le_mul_left u h
  unfold st
  generalize u * c = z at *
  generalize u * d = y at *
  split <;> split <;> omega
def ck (k : Int) : Nat := if k < 0 then 0 else if k > 10000 then 10000 else k.toNat
/-- Where Toward comes to. -/
def tw (a b k : Int) : Int := if ck k = 0 ∨ a = b then a else if b < a then a - (st (a - b).toNat (ck k) : Nat) else a + (st (b - a).toNat (ck k) : Nat)
structure TW (a b k n m : Int) : Prop where
  inn : (a ≤ n ∧ n ≤ b) ∨ (b ≤ n ∧ n ≤ a)
  no : k ≤ 0 → n = a
  all : 10000 ≤ k → n = b
  any : 0 < k → a ≠ b → n ≠ a
  nxt : 0 < k → k < 10000 → (n ≤ m ∧ m ≤ b) ∨ (b ≤ m ∧ m ≤ n)
theorem tw_all (a b k : Int) : TW a b k (tw a b k) (tw a b (k + 1)) := by
  have hk : ck k ≤ 10000 := by unfold ck; split <;> (try split) <;> omega
  have hk1 : ck (k + 1) ≤ 10000 := by unfold ck; split <;> (try split) <;> omega
  have hkk : ck k ≤ ck (k + 1) := by unfold ck; repeat (first | omega | split)
  have h0 : k ≤ 0 → ck k = 0 := by unfold ck; intro h; repeat (first | omega | split)
  have h1 : 10000 ≤ k → ck k = 10000 := by unfold ck; intro h; repeat (first | omega | split)
  have h2 : 0 < k → ck k ≠ 0 := by unfold ck; intro h; repeat (first | omega | split)
  unfold tw
  generalize ck k = c at *
  generalize ck (k + 1) = d at *
  by_cases hab : a = b
  · subst hab
    rw [if_pos (Or.inr rfl), if_pos (Or.inr rfl)]
    exact ⟨by omega, fun _ => rfl, fun _ => rfl, fun _ h => absurd rfl h, fun _ _ => by omega⟩
  by_cases hc : c = 0
  · rw [if_pos (Or.inl hc)]
    exact ⟨by omega, fun _ => rfl, fun h => by have := h1 h; omega, fun h => by have := h2 h; omega, fun h => by have := h2 h; omega⟩
  rw [if_neg (by omega), if_neg (show ¬ (d = 0 ∨ a = b) by omega)]
  by_cases hl : b < a
  · rw [if_pos hl, if_pos hl]
    have e : ((a - b).toNat : Int) = a - b := by omega
    generalize (a - b).toNat = u at *
    have p1 := st_pos u c
    have p2 := st_pos u d
    have l1 := st_le u c (by omega) hk
    have l2 := st_le u d (by omega) hk1
    have m := st_mono u c d hkk
    have f : c = 10000 → st u c = u := fun h => by rw [h]; exact st_full u (by omega)
    generalize st u c = x at *
    generalize st u d = y at *
    exact ⟨by omega, fun h => by have := h0 h; omega, fun h => by have := f (h1 h); omega, fun h h' => by omega, fun _ _ => by omega⟩
  · rw [if_neg hl, if_neg hl]
    have e : ((b - a).toNat : Int) = b - a := by omega
    generalize (b - a).toNat = u at *
    have p1 := st_pos u c
    have p2 := st_pos u d
    have l1 := st_le u c (by omega) hk
    have l2 := st_le u d (by omega) hk1
    have m := st_mono u c d hkk
    have f : c = 10000 → st u c = u := fun h => by rw [h]; exact st_full u (by omega)
    generalize st u c = x at *
    generalize st u d = y at *
    exact ⟨by omega, fun h => by have := h0 h; omega, fun h => by have := f (h1 h); omega, fun h h' => by omega, fun _ _ => by omega⟩
theorem toward_tw (a b k : Int) (a0 : -9223372036854775808 ≤ a) (a1 : a ≤ 9223372036854775807) (b0 : -9223372036854775808 ≤ b) (b1 : b ≤ 9223372036854775807) : units_Toward.f 100 a b k = some (tw a b k) := by
  have hck : cl k 0 10000 = ((ck k : Nat) : Int) := by unfold cl ck; repeat (first | omega | split)
  have hcl : ck k ≤ 10000 := by unfold ck; split <;> (try split) <;> omega
  unfold units_Toward.f tw
  rw [clamp_f, Option.bind_some, hck]
  clear hck
  generalize ck k = c at *
  by_cases hab : a = b
  · rw [if_pos hab, if_pos (Or.inr hab)]
    rfl
  · rw [if_neg hab]
    by_cases hz : c = 0
    · subst hz
      rw [if_pos (Or.inl rfl)]
      rfl
    · have hb : (((c : Nat) : Int) == 0) = false := by simpa using hz
      rw [hb, if_neg (by omega), units_Toward.j0, if_neg (by decide)]
      by_cases hl : b < a
      · rw [if_pos hl, if_pos hl]
        have eu : IntKind.u64.wrap (IntKind.u64.wrap a - IntKind.u64.wrap b) = (((a - b).toNat : Nat) : Int) := by simp only [wM]; omega
        have hle := st_le (a - b).toNat c (by omega) hcl
        have hlb := st_pos (a - b).toNat c
        rw [eu, j1_val 99 (by decide) a b _ c (by omega) hcl, if_pos hl, step_eq _ (a - b).toNat c (by omega) (by omega)]
        have e : (if 0 < c ∧ 0 < (a - b).toNat ∧ (a - b).toNat * c / 10000 = 0 then (1 : Int) else (((a - b).toNat * c / 10000 : Nat) : Int)) = ((st (a - b).toNat c : Nat) : Int) := by
          unfold st
          by_cases h : (a - b).toNat * c / 10000 = 0
          · rw [if_pos ⟨by omega, by omega, h⟩, if_pos h]; rfl
          · rw [if_neg (fun h' => h h'.2.2), if_neg h]
        rw [e]
        generalize st (a - b).toNat c = s at *
        congr 1
        simp only [wM]
        unfold wrap64
        clear e eu hb
        omega
      · rw [if_neg hl, if_neg hl]
        have eu : IntKind.u64.wrap (IntKind.u64.wrap b - IntKind.u64.wrap a) = (((b - a).toNat : Nat) : Int) := by simp only [wM]; omega
        have hle := st_le (b - a).toNat c (by omega) hcl
        have hlb := st_pos (b - a).toNat c
        rw [eu, j1_val 99 (by decide) a b _ c (by omega) hcl, if_neg hl, step_eq _ (b - a).toNat c (by omega) (by omega)]
        have e : (if 0 < c ∧ 0 < (b - a).toNat ∧ (b - a).toNat * c / 10000 = 0 then (1 : Int) else (((b - a).toNat * c / 10000 : Nat) : Int)) = ((st (b - a).toNat c : Nat) : Int) := by
          unfold st
          by_cases h : (b - a).toNat * c / 10000 = 0
          · rw [if_pos ⟨by omega, by omega, h⟩, if_pos h]; rfl
          · rw [if_neg (fun h' => h h'.2.2), if_neg h]
        rw [e]
        generalize st (b - a).toNat c = s at *
        congr 1
        simp only [wM]
        unfold wrap64
        clear e eu hb
        omega
theorem between_t (n a b : Int) (h : (a ≤ n ∧ n ≤ b) ∨ (b ≤ n ∧ n ≤ a)) : sawmilllaw01_between.f n a b = some true := by
  unfold sawmilllaw01_between.f
  by_cases h1 : a ≤ n
  · rw [if_pos h1]
    by_cases h2 : n ≤ b
    · rw [if_pos h2]
    · rw [if_neg h2, if_pos (by omega), decide_eq_true (by omega)]
  · rw [if_neg h1, if_pos (by omega), decide_eq_true (by omega)]
set_option maxHeartbeats 4000000 in
set_option maxRecDepth 100000 in
theorem steps_lo {w : World} (HT : Aside0 (Tab w)) (a b k : Int) (hk : k ≤ 0) (H1 : Aside0 (∀ w, Calls Tryd.prog 13 #[.int .i64 (a), .int .i64 (b), .int .i64 (k)] w fun e w' => e = .returned (.int .i64 (a)) ∧ Below w.heap.size w w')) (H2 : Aside0 (∀ w, Calls Tryd.prog 14 #[.int .i64 (a), .int .i64 (a), .int .i64 (b)] w fun e w' => e = .returned (.bool true) ∧ Drawn0 w w')) (H3 : Aside0 (∀ w, Calls Tryd.prog 13 #[.int .i64 (a), .int .i64 (b), .int .i64 (10000)] w fun e w' => e = .returned (.int .i64 (b)) ∧ Below w.heap.size w w')) (H4 : Aside0 (∀ w, Calls Tryd.prog 13 #[.int .i64 (a), .int .i64 (b), .int .i64 (0)] w fun e w' => e = .returned (.int .i64 (a)) ∧ Below w.heap.size w w')) : Calls Tryd.prog 4 #[.int .i64 a, .int .i64 b, .int .i64 k] w (AllTrue w) := by
  go_enter Tryd.func4, Tryd.ntmps4
  go_wp2_with fail
  refine (H1.out _).mono ?_
  rintro _ w1 ⟨rfl, hb⟩
  have B1 := Aside0.mk (show Below w.heap.size w w1 by first | exact hb | exact hb.below)
  clear hb
  go_wp2_with fail
  refine (H2.out _).mono ?_
  rintro _ w2 ⟨rfl, hb⟩
  have B2 := Aside0.mk (below_step B1.out (by first | exact hb | exact hb.below))
  clear hb B1
  go_wp2_with fail
  refine (H3.out _).mono ?_
  rintro _ w3 ⟨rfl, hb⟩
  have B3 := Aside0.mk (below_step B2.out (by first | exact hb | exact hb.below))
  clear hb B2
  go_wp2_with fail
  refine (H4.out _).mono ?_
  rintro _ w4 ⟨rfl, hb⟩
  have B4 := Aside0.mk (below_step B3.out (by first | exact hb | exact hb.below))
  clear hb B3
  go_wp2_with fail
  refine (awake_any _ (tab_below HT.out B4.out)).mono ?_
  rintro _ w5 ⟨rfl, hb⟩
  have B5 := Aside0.mk (below_step B4.out hb)
  clear hb B4
  go_wp2_with fail
  go_ret
  exact ⟨rfl, B5.out⟩
set_option maxHeartbeats 4000000 in
set_option maxRecDepth 100000 in
theorem steps_hi_eq {w : World} (HT : Aside0 (Tab w)) (a k : Int) (hk : k ≥ 10000) (H1 : Aside0 (∀ w, Calls Tryd.prog 13 #[.int .i64 (a), .int .i64 (a), .int .i64 (k)] w fun e w' => e = .returned (.int .i64 (a)) ∧ Below w.heap.size w w')) (H2 : Aside0 (∀ w, Calls Tryd.prog 14 #[.int .i64 (a), .int .i64 (a), .int .i64 (a)] w fun e w' => e = .returned (.bool true) ∧ Drawn0 w w')) (H3 : Aside0 (∀ w, Calls Tryd.prog 13 #[.int .i64 (a), .int .i64 (a), .int .i64 (10000)] w fun e w' => e = .returned (.int .i64 (a)) ∧ Below w.heap.size w w')) (H4 : Aside0 (∀ w, Calls Tryd.prog 13 #[.int .i64 (a), .int .i64 (a), .int .i64 (0)] w fun e w' => e = .returned (.int .i64 (a)) ∧ Below w.heap.size w w')) : Calls Tryd.prog 4 #[.int .i64 a, .int .i64 a, .int .i64 k] w (AllTrue w) := by
  go_enter Tryd.func4, Tryd.ntmps4
  go_wp2_with fail
  refine (H1.out _).mono ?_
  rintro _ w1 ⟨rfl, hb⟩
  have B1 := Aside0.mk (show Below w.heap.size w w1 by first | exact hb | exact hb.below)
  clear hb
  go_wp2_with fail
  refine (H2.out _).mono ?_
  rintro _ w2 ⟨rfl, hb⟩
  have B2 := Aside0.mk (below_step B1.out (by first | exact hb | exact hb.below))
  clear hb B1
  go_wp2_with fail
  refine (H3.out _).mono ?_
  rintro _ w3 ⟨rfl, hb⟩
  have B3 := Aside0.mk (below_step B2.out (by first | exact hb | exact hb.below))
  clear hb B2
  go_wp2_with fail
  refine (H4.out _).mono ?_
  rintro _ w4 ⟨rfl, hb⟩
  have B4 := Aside0.mk (below_step B3.out (by first | exact hb | exact hb.below))
  clear hb B3
  go_wp2_with fail
  refine (awake_any _ (tab_below HT.out B4.out)).mono ?_
  rintro _ w5 ⟨rfl, hb⟩
  have B5 := Aside0.mk (below_step B4.out hb)
  clear hb B4
  go_wp2_with fail
  go_ret
  exact ⟨rfl, B5.out⟩
set_option maxHeartbeats 4000000 in
set_option maxRecDepth 100000 in
theorem steps_hi_ne {w : World} (HT : Aside0 (Tab w)) (a b k : Int) (hk : k ≥ 10000) (hab : ¬ a = b) (hba : ¬ b = a) (hab1 : (a == b) = false) (hba1 : (b == a) = false) (hab2 : (a != b) = true) (hba2 : (b != a) = true) (H1 : Aside0 (∀ w, Calls Tryd.prog 13 #[.int .i64 (a), .int .i64 (b), .int .i64 (k)] w fun e w' => e = .returned (.int .i64 (b)) ∧ Below w.heap.size w w')) (H2 : Aside0 (∀ w, Calls Tryd.prog 14 #[.int .i64 (b), .int .i64 (a), .int .i64 (b)] w fun e w' => e = .returned (.bool true) ∧ Drawn0 w w')) (H3 : Aside0 (∀ w, Calls Tryd.prog 13 #[.int .i64 (a), .int .i64 (b), .int .i64 (10000)] w fun e w' => e = .returned (.int .i64 (b)) ∧ Below w.heap.size w w')) (H4 : Aside0 (∀ w, Calls Tryd.prog 13 #[.int .i64 (a), .int .i64 (b), .int .i64 (0)] w fun e w' => e = .returned (.int .i64 (a)) ∧ Below w.heap.size w w')) : Calls Tryd.prog 4 #[.int .i64 a, .int .i64 b, .int .i64 k] w (AllTrue w) := by
  go_enter Tryd.func4, Tryd.ntmps4
  go_wp2_with fail
  refine (H1.out _).mono ?_
  rintro _ w1 ⟨rfl, hb⟩
  have B1 := Aside0.mk (show Below w.heap.size w w1 by first | exact hb | exact hb.below)
  clear hb
  go_wp2_with fail
  refine (H2.out _).mono ?_
  rintro _ w2 ⟨rfl, hb⟩
  have B2 := Aside0.mk (below_step B1.out (by first | exact hb | exact hb.below))
  clear hb B1
  go_wp2_with fail
  refine (H3.out _).mono ?_
  rintro _ w3 ⟨rfl, hb⟩
  have B3 := Aside0.mk (below_step B2.out (by first | exact hb | exact hb.below))
  clear hb B2
  go_wp2_with fail
  refine (H4.out _).mono ?_
  rintro _ w4 ⟨rfl, hb⟩
  have B4 := Aside0.mk (below_step B3.out (by first | exact hb | exact hb.below))
  clear hb B3
  go_wp2_with fail
  refine (awake_any _ (tab_below HT.out B4.out)).mono ?_
  rintro _ w5 ⟨rfl, hb⟩
  have B5 := Aside0.mk (below_step B4.out hb)
  clear hb B4
  go_wp2_with fail
  go_ret
  exact ⟨rfl, B5.out⟩
set_option maxHeartbeats 4000000 in
set_option maxRecDepth 100000 in
theorem steps_mid_eq {w : World} (HT : Aside0 (Tab w)) (a k : Int) (hk : k > 0) (hk2 : k < 10000) (H1 : Aside0 (∀ w, Calls Tryd.prog 13 #[.int .i64 (a), .int .i64 (a), .int .i64 (k)] w fun e w' => e = .returned (.int .i64 (a)) ∧ Below w.heap.size w w')) (H2 : Aside0 (∀ w, Calls Tryd.prog 14 #[.int .i64 (a), .int .i64 (a), .int .i64 (a)] w fun e w' => e = .returned (.bool true) ∧ Drawn0 w w')) (H5 : Aside0 (∀ w, Calls Tryd.prog 13 #[.int .i64 (a), .int .i64 (a), .int .i64 (k + 1)] w fun e w' => e = .returned (.int .i64 (a)) ∧ Below w.heap.size w w')) (H6 : Aside0 (∀ w, Calls Tryd.prog 14 #[.int .i64 (a), .int .i64 (a), .int .i64 (a)] w fun e w' => e = .returned (.bool true) ∧ Drawn0 w w')) (H3 : Aside0 (∀ w, Calls Tryd.prog 13 #[.int .i64 (a), .int .i64 (a), .int .i64 (10000)] w fun e w' => e = .returned (.int .i64 (a)) ∧ Below w.heap.size w w')) (H4 : Aside0 (∀ w, Calls Tryd.prog 13 #[.int .i64 (a), .int .i64 (a), .int .i64 (0)] w fun e w' => e = .returned (.int .i64 (a)) ∧ Below w.heap.size w w')) : Calls Tryd.prog 4 #[.int .i64 a, .int .i64 a, .int .i64 k] w (AllTrue w) := by
  go_enter Tryd.func4, Tryd.ntmps4
  go_wp2_with fail
  refine (H1.out _).mono ?_
  rintro _ w1 ⟨rfl, hb⟩
  have B1 := Aside0.mk (show Below w.heap.size w w1 by first | exact hb | exact hb.below)
  clear hb
  go_wp2_with fail
  refine (H2.out _).mono ?_
  rintro _ w2 ⟨rfl, hb⟩
  have B2 := Aside0.mk (below_step B1.out (by first | exact hb | exact hb.below))
  clear hb B1
  go_wp2_with fail
  refine (H5.out _).mono ?_
  rintro _ w3 ⟨rfl, hb⟩
  have B3 := Aside0.mk (below_step B2.out (by first | exact hb | exact hb.below))
  clear hb B2
  go_wp2_with fail
  refine (H6.out _).mono ?_
  rintro _ w4 ⟨rfl, hb⟩
  have B4 := Aside0.mk (below_step B3.out (by first | exact hb | exact hb.below))
  clear hb B3
  go_wp2_with fail
  refine (H3.out _).mono ?_
  rintro _ w5 ⟨rfl, hb⟩
  have B5 := Aside0.mk (below_step B4.out (by first | exact hb | exact hb.below))
  clear hb B4
  go_wp2_with fail
  refine (H4.out _).mono ?_
  rintro _ w6 ⟨rfl, hb⟩
  have B6 := Aside0.mk (below_step B5.out (by first | exact hb | exact hb.below))
  clear hb B5
  go_wp2_with fail
  refine (awake_any _ (tab_below HT.out B6.out)).mono ?_
  rintro _ w7 ⟨rfl, hb⟩
  have B7 := Aside0.mk (below_step B6.out hb)
  clear hb B6
  go_wp2_with fail
  go_ret
  exact ⟨rfl, B7.out⟩
set_option maxHeartbeats 4000000 in
set_option maxRecDepth 100000 in
theorem steps_mid_ne {w : World} (HT : Aside0 (Tab w)) (a b k n m : Int) (hk : k > 0) (hk2 : k < 10000) (hab : ¬ a = b) (hna : ¬ n = a) (hab1 : (a == b) = false) (hna1 : (n == a) = false) (hab2 : (a != b) = true) (hna2 : (n != a) = true) (H1 : Aside0 (∀ w, Calls Tryd.prog 13 #[.int .i64 (a), .int .i64 (b), .int .i64 (k)] w fun e w' => e = .returned (.int .i64 (n)) ∧ Below w.heap.size w w')) (H2 : Aside0 (∀ w, Calls Tryd.prog 14 #[.int .i64 (n), .int .i64 (a), .int .i64 (b)] w fun e w' => e = .returned (.bool true) ∧ Drawn0 w w')) (H5 : Aside0 (∀ w, Calls Tryd.prog 13 #[.int .i64 (a), .int .i64 (b), .int .i64 (k + 1)] w fun e w' => e = .returned (.int .i64 (m)) ∧ Below w.heap.size w w')) (H6 : Aside0 (∀ w, Calls Tryd.prog 14 #[.int .i64 (m), .int .i64 (n), .int .i64 (b)] w fun e w' => e = .returned (.bool true) ∧ Drawn0 w w')) (H3 : Aside0 (∀ w, Calls Tryd.prog 13 #[.int .i64 (a), .int .i64 (b), .int .i64 (10000)] w fun e w' => e = .returned (.int .i64 (b)) ∧ Below w.heap.size w w')) (H4 : Aside0 (∀ w, Calls Tryd.prog 13 #[.int .i64 (a), .int .i64 (b), .int .i64 (0)] w fun e w' => e = .returned (.int .i64 (a)) ∧ Below w.heap.size w w')) : Calls Tryd.prog 4 #[.int .i64 a, .int .i64 b, .int .i64 k] w (AllTrue w) := by
  go_enter Tryd.func4, Tryd.ntmps4
  go_wp2_with fail
  refine (H1.out _).mono ?_
  rintro _ w1 ⟨rfl, hb⟩
  have B1 := Aside0.mk (show Below w.heap.size w w1 by first | exact hb | exact hb.below)
  clear hb
  go_wp2_with fail
  refine (H2.out _).mono ?_
  rintro _ w2 ⟨rfl, hb⟩
  have B2 := Aside0.mk (below_step B1.out (by first | exact hb | exact hb.below))
  clear hb B1
  go_wp2_with fail
  refine (H5.out _).mono ?_
  rintro _ w3 ⟨rfl, hb⟩
  have B3 := Aside0.mk (below_step B2.out (by first | exact hb | exact hb.below))
  clear hb B2
  go_wp2_with fail
  refine (H6.out _).mono ?_
  rintro _ w4 ⟨rfl, hb⟩
  have B4 := Aside0.mk (below_step B3.out (by first | exact hb | exact hb.below))
  clear hb B3
  go_wp2_with fail
  refine (H3.out _).mono ?_
  rintro _ w5 ⟨rfl, hb⟩
  have B5 := Aside0.mk (below_step B4.out (by first | exact hb | exact hb.below))
  clear hb B4
  go_wp2_with fail
  refine (H4.out _).mono ?_
  rintro _ w6 ⟨rfl, hb⟩
  have B6 := Aside0.mk (below_step B5.out (by first | exact hb | exact hb.below))
  clear hb B5
  go_wp2_with fail
  refine (awake_any _ (tab_below HT.out B6.out)).mono ?_
  rintro _ w7 ⟨rfl, hb⟩
  have B7 := Aside0.mk (below_step B6.out hb)
  clear hb B6
  go_wp2_with fail
  go_ret
  exact ⟨rfl, B7.out⟩
theorem steps_true {w : World} (hT : Tab w) (a b k : Int) (ra : -9223372036854775808 ≤ a ∧ a ≤ 9223372036854775807) (rb : -9223372036854775808 ≤ b ∧ b ≤ 9223372036854775807) (rk : -9223372036854775808 ≤ k ∧ k ≤ 9223372036854775807) : Calls Tryd.prog 4 #[.int .i64 a, .int .i64 b, .int .i64 k] w (AllTrue w) := by
  have HT := Aside0.mk hT
  have hk := tw_all a b k
  have H := fun j => Aside0.mk (fun w => units_Toward.calls 100 a b j _ w (toward_tw a b j ra.1 ra.2 rb.1 rb.2))
  have H3 := H 10000
  have H4 := H 0
  rw [(tw_all a b 10000).all (by decide)] at H3
  rw [(tw_all a b 0).no (by decide)] at H4
  have H1 := H k
  have H5 := H (k + 1)
  have hB := fun x y z h => Aside0.mk (fun w => sawmilllaw01_between.calls x y z true w (between_t x y z h))
  clear H
  generalize tw a b k = n at *
  generalize tw a b (k + 1) = m at *
  obtain ⟨inn, no, all, any, nxt⟩ := hk
  by_cases h0 : k ≤ 0
  · have e := no h0
    subst e
    exact steps_lo HT _ b k h0 H1 (hB _ _ _ inn) H3 H4
  by_cases h1 : k ≥ 10000
  · have e := all h1
    subst e
    by_cases hab : a = n
    · subst hab
      exact steps_hi_eq HT a k h1 H1 (hB _ _ _ inn) H3 H4
    · exact steps_hi_ne HT a n k h1 hab (fun h => hab h.symm) (by simpa using hab) (by simpa using fun h => hab h.symm) (by simpa using hab) (by simpa using fun h => hab h.symm) H1 (hB _ _ _ inn) H3 H4
  · by_cases hab : a = b
    · subst hab
      have e : n = a := by omega
      subst e
      have e2 : m = n := by have := nxt (by omega) (by omega); omega
      subst e2
      exact steps_mid_eq HT m k (by omega) (by omega) H1 (hB _ _ _ inn) H5 (hB _ _ _ inn) H3 H4
    · have hna := any (by omega) hab
      exact steps_mid_ne HT a b k n m (by omega) (by omega) hab hna (by simpa using hab) (by simpa using hna) (by simpa using hab) (by simpa using hna) H1 (hB _ _ _ inn) H5 (hB _ _ _ (nxt (by omega) (by omega))) H3 H4
theorem or_i64 (a b : Nat) (ha : a < 4611686018427387904) (hb : b < 4611686018427387904) : bits .or .i64 (a : Int) (b : Int) = ((a ||| b : Nat) : Int) := by
  have hx : a ||| b < 2 ^ 62 := Nat.or_lt_two_pow (by omega) (by omega)
  have h1 : (BitVec.ofInt 64 (a : Int)).toNat = a := by
    rw [BitVec.ofInt_natCast, BitVec.toNat_ofNat]; exact Nat.mod_eq_of_lt (by omega)
  have h2 : (BitVec.ofInt 64 (b : Int)).toNat = b := by
    rw [BitVec.ofInt_natCast, BitVec.toNat_ofNat]; exact Nat.mod_eq_of_lt (by omega)
  show IntKind.i64.wrap ((BitVec.ofInt 64 (a : Int) ||| BitVec.ofInt 64 (b : Int)).toNat : Int) = _
  rw [BitVec.toNat_or, h1, h2]
  rw [IntKind.wrap_i64]
  omega
theorem root_run (n : Nat) (hn : n < 9223372036854775808) : ∀ (i k r m : Nat), i ≤ 32 → i + 1 ≤ k → r = m * 2 ^ i → r + 2 ^ i ≤ 4294967296 → r * r ≤ n → n < (r + 2 ^ i) * (r + 2 ^ i) →
    ∃ s : Nat, units_Root.l0 k (n : Int) (r : Int) ((i : Int) - 1) = some (s : Int) ∧ s * s ≤ n ∧ n < (s + 1) * (s + 1)
  | 0, k, r, m, _, hk, _, _, h1, h2 => by
    obtain ⟨k, rfl⟩ : ∃ j, k = j + 1 := ⟨k - 1, by omega⟩
    exact ⟨r, by rw [units_Root.l0, if_neg (by omega)], h1, h2⟩
  | i + 1, k, r, m, hi, hk, hr, hb, h1, h2 => by
    obtain ⟨k, rfl⟩ : ∃ j, k = j + 1 := ⟨k - 1, by omega⟩
    have hP : 2 ^ (i + 1) = 2 ^ i + 2 ^ i := by rw [Nat.pow_succ]; omega
    have hP0 : 0 < 2 ^ i := Nat.pow_pos (by decide)
    have hsh : shl .i64 1 (((i + 1 : Nat) : Int) - 1) = ((2 ^ i : Nat) : Int) := by
      unfold shl
      rw [show ((i + 1 : Nat) : Int) - 1 = (i : Int) by omega, Int.toNat_natCast, Nat.min_eq_left (show i ≤ IntKind.i64.bits by show i ≤ 64; omega), Int.one_mul]
      rw [show ((2 : Int) ^ i) = ((2 ^ i : Nat) : Int) by rw [Int.natCast_pow]; rfl]
      rw [IntKind.wrap_i64]
      generalize 2 ^ i = p at *
      omega
    have hor : r ||| 2 ^ i = r + 2 ^ i := by
      have h := Nat.two_pow_add_eq_or_of_lt (i := i + 1) (b := 2 ^ i) (by omega) m
      rw [Nat.mul_comm, ← hr] at h
      exact h.symm
    have hwd : wrap64 ((((i + 1 : Nat) : Int) - 1) - 1) = (i : Int) - 1 := by unfold wrap64; omega
    have ih := root_run n hn i k
    rw [units_Root.l0, if_pos (by omega), if_pos (by omega), hsh, or_i64 _ _ (by omega) (by omega), hor, hwd]
    have hrm : r = (2 * m) * 2 ^ i := by rw [hr, Nat.pow_succ, Nat.mul_comm (2 ^ i) 2, Nat.mul_comm 2 m, Nat.mul_assoc]
    have hrm2 : r + 2 ^ i = (2 * m + 1) * 2 ^ i := by rw [Nat.add_mul, Nat.one_mul, ← hrm]
    clear hsh hor hwd
    rw [if_neg (by omega)]
    have hdiv : wrap64 (Int.tdiv (n : Int) ((r + 2 ^ i : Nat) : Int)) = ((n / (r + 2 ^ i) : Nat) : Int) := by
      rw [Int.tdiv_eq_ediv_of_nonneg (by omega), ← Int.natCast_ediv]
      have := Nat.div_le_self n (r + 2 ^ i)
      generalize n / (r + 2 ^ i) = z at *
      unfold wrap64
      omega
    rw [hdiv]
    have hle := Nat.le_div_iff_mul_le (x := r + 2 ^ i) (y := n) (k := r + 2 ^ i) (by omega)
    by_cases hc : r + 2 ^ i ≤ n / (r + 2 ^ i)
    · rw [if_pos (by omega)]
      exact ih (r + 2 ^ i) (2 * m + 1) (by omega) (by omega) hrm2 (by omega) (hle.1 hc) (by rw [Nat.add_assoc, ← hP]; exact h2)
    · rw [if_neg (by omega)]
      exact ih r (2 * m) (by omega) (by omega) hrm (by omega) h1 (Nat.lt_of_not_le (fun h => hc (hle.2 h)))
theorem root_f (n : Int) (h0 : 0 ≤ n) (h1 : n ≤ 9223372036854775807) : ∃ s : Nat, units_Root.f 100 n = some (s : Int) ∧ s ≤ 3037000499 ∧ ((s * s : Nat) : Int) ≤ n ∧ n ≤ ((s * s : Nat) : Int) + 2 * (s : Int) := by
  unfold units_Root.f
  by_cases hz : n ≤ 0
  · rw [if_pos hz]
    exact ⟨0, rfl, by decide, by omega, by omega⟩
  · rw [if_neg hz]
    obtain ⟨m, rfl⟩ : ∃ m : Nat, n = m := ⟨n.toNat, by omega⟩
    obtain ⟨s, e, h2, h3⟩ := root_run m (by omega) 32 100 0 0 (by omega) (by omega) (by omega) (by omega) (by omega) (by omega)
    refine ⟨s, e, ?_, ?_, ?_⟩
    · rcases Nat.lt_or_ge s 3037000500 with h | h
      · omega
      · exfalso
        have : 3037000500 * 3037000500 ≤ s * s := Nat.mul_le_mul h h
        omega
    · generalize s * s = z at *
      omega
    · rw [Nat.add_mul, Nat.mul_add] at h3
      generalize s * s = z at *
      omega
set_option maxHeartbeats 4000000 in
set_option maxRecDepth 100000 in
theorem roots_neg {w : World} (HT : Aside0 (Tab w)) (n : Int) (hn : n < 0) (H1 : Aside0 (∀ w, Calls Tryd.prog 23 #[.int .i64 n] w fun e w' => e = .returned (.int .i64 0) ∧ Drawn0 w w')) : Calls Tryd.prog 8 #[.int .i64 n] w (AllTrue w) := by
  go_enter Tryd.func8, Tryd.ntmps8
  go_wp2_with fail
  refine (H1.out _).mono ?_
  rintro _ w1 ⟨rfl, hb⟩
  have B1 := Aside0.mk (show Below w.heap.size w w1 by first | exact hb | exact hb.below)
  clear hb
  go_wp2_with fail
  refine (awake_any _ (tab_below HT.out B1.out)).mono ?_
  rintro _ w2 ⟨rfl, hb⟩
  have B2 := Aside0.mk (below_step B1.out hb)
  clear hb B1
  go_wp2_with fail
  go_ret
  exact ⟨rfl, B2.out⟩
set_option maxHeartbeats 4000000 in
set_option maxRecDepth 100000 in
theorem roots_pos {w : World} (HT : Aside0 (Tab w)) (n s : Int) (hn : ¬ n < 0) (h0 : s ≥ 0) (h1 : s ≤ 3037000499) (h2 : wrap64 (s * s) ≤ n) (h3 : wrap64 (n - wrap64 (s * s)) ≤ 2 * s) (H1 : Aside0 (∀ w, Calls Tryd.prog 23 #[.int .i64 n] w fun e w' => e = .returned (.int .i64 s) ∧ Drawn0 w w')) : Calls Tryd.prog 8 #[.int .i64 n] w (AllTrue w) := by
  go_enter Tryd.func8, Tryd.ntmps8
  go_wp2_with fail
  refine (H1.out _).mono ?_
  rintro _ w1 ⟨rfl, hb⟩
  have B1 := Aside0.mk (show Below w.heap.size w w1 by first | exact hb | exact hb.below)
  clear hb
  go_wp2_with fail
  refine (awake_any _ (tab_below HT.out B1.out)).mono ?_
  rintro _ w2 ⟨rfl, hb⟩
  have B2 := Aside0.mk (below_step B1.out hb)
  clear hb B1
  go_wp2_with fail
  go_ret
  exact ⟨rfl, B2.out⟩
theorem roots_true {w : World} (hT : Tab w) (n : Int) (rn : -9223372036854775808 ≤ n ∧ n ≤ 9223372036854775807) : Calls Tryd.prog 8 #[.int .i64 n] w (AllTrue w) := by
  have HT := Aside0.mk hT
  by_cases hn : n < 0
  · exact roots_neg HT n hn (Aside0.mk (fun w => units_Root.calls 100 n 0 w (by unfold units_Root.f; rw [if_pos (by omega)])))
  · obtain ⟨s, e, h1, h2, h3⟩ := root_f n (by omega) rn.2
    have H1 := Aside0.mk (fun w => units_Root.calls 100 n s w e)
    have hw : wrap64 ((s : Int) * (s : Int)) = ((s * s : Nat) : Int) := by
      rw [← Int.natCast_mul]
      exact w64 (by omega) (by omega)
    have hs : 0 ≤ ((s * s : Nat) : Int) := Int.natCast_nonneg _
    refine roots_pos HT n s hn (by omega) (by omega) (by rw [hw]; exact h2) ?_ H1
    rw [hw]
    generalize ((s * s : Nat) : Int) = z at *
    rw [w64 (by omega) (by omega)]
    omega
end Go.Proofs.YtlfloandockgbaaDoor.Uni
