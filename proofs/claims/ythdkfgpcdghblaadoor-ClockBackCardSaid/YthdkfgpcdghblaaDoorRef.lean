/-
  What the reference's functions over a list of shifts answer, in the words of the plain arithmetic; and so their calls. Conditions: at most 21 shifts, a valid list where a lemma says so.
-/
import Derived.Test.YthdkfgpcdghblaaDoorCal
namespace Go.Proofs.YthdkfgpcdghblaaDoor.Cal
open Go.RowKit Go.Proofs.YthdkfgpcdghblaaDoorW.PrintWords Go.Proofs.YthdkfgpcdghblaaDoorW.PrintLast Go.Proofs.YthdkfgpcdghblaaDoorW.PrintMore
open Go.Proofs.YthdkfgpcdghblaaDoor.PAll Go.Proofs.YthdkfgpcdghblaaDoor.CMath
set_option linter.unusedVariables false
set_option linter.unusedSimpArgs false

theorem w64 {x : Int} (h0 : -9000000000000000000 ≤ x) (h1 : x ≤ 9000000000000000000) : wrap64 x = x := by unfold wrap64; omega

theorem check_l0 (l : List S47) (hl : l.length ≤ 21) (d : Nat) : ∀ (k i : Nat) (last : Int), i ≤ l.length → l.length - i = d → 2 * d < k →
    sawmillref07_Check.l0 k l last (i : Int) = some (chk last (prs (l.drop i))) := by
  induction d with
  | zero =>
    intro k i last hi hd hk
    obtain ⟨k, rfl⟩ : ∃ m, k = m + 1 := ⟨k - 1, by omega⟩
    simp only [sawmillref07_Check.l0]
    rw [if_neg (by omega), prs_drop_end l i (by omega)]
    rfl
  | succ d ih =>
    intro k i last hi hd hk
    obtain ⟨k, rfl⟩ : ∃ m, k = m + 2 := ⟨k - 2, by omega⟩
    have hlt : i < l.length := by omega
    simp only [sawmillref07_Check.l0]
    rw [if_pos (by omega), if_pos (by omega), prs_drop l i hlt]
    simp only [sawmillref07_Check.j1]
    unfold chk
    simp only
    by_cases c : (rd_T47 l i).f0 < 0 ∨ (rd_T47 l i).f1 ≤ (rd_T47 l i).f0 ∨ 10080 < (rd_T47 l i).f1
    · rw [if_pos c]
      by_cases c1 : (rd_T47 l i).f0 < 0
      · rw [if_pos c1, if_pos trivial]
      · rw [if_neg c1]
        by_cases c2 : (rd_T47 l i).f0 ≥ (rd_T47 l i).f1
        · rw [if_pos c2, if_pos trivial]
        · rw [if_neg c2, if_pos (by simp; omega)]
    · rw [if_neg c, if_neg (by omega), if_neg (by omega), if_neg (by simp; omega), if_pos (by omega), if_pos (by omega)]
      by_cases c3 : (rd_T47 l i).f0 < last
      · rw [if_pos c3, if_pos c3]
      · rw [if_neg c3, if_neg c3, w64 (by omega) (by omega)]
        have := ih k (i + 1) (rd_T47 l i).f1 (by omega) (by omega) (by omega)
        rw [← this]
        rfl
theorem check_f (l : List S47) (k : Nat) (hk : 43 ≤ k) : sawmillref07_Check.f k l = some (newE (prs l)) := by
  unfold sawmillref07_Check.f newE
  rw [prs_length]
  by_cases h0 : l.length = 0
  · rw [if_pos (by omega), if_pos h0]
  · rw [if_neg (by omega), if_neg h0]
    by_cases h1 : 21 < l.length
    · rw [if_pos (by omega), if_pos h1]
    · rw [if_neg (by omega), if_neg h1]
      exact check_l0 l (by omega) l.length k 0 0 (by omega) (by omega) (by omega)
theorem check_any (A : Option Addr) (c : Nat) (l : List S47) (w : World) (hr : Kd.C k47 w A l.length l) (hc : l.length ≤ c) :
    Calls Tryd.prog 16 #[.slice A l.length c] w fun e w' => e = .returned (.int .i64 (newE (prs l))) ∧ Below w.heap.size w w' := by
  refine (sawmillref07_Check.calls 43 A c l (newE (prs l)) w hr hc (check_f l 43 (by omega))).mono ?_
  rintro e w' ⟨rfl, h⟩
  first | exact ⟨rfl, h⟩ | exact ⟨rfl, h.below⟩

theorem open_l0 (l : List S47) (hl : l.length ≤ 21) (m : Int) (d : Nat) : ∀ (k i : Nat), i ≤ l.length → l.length - i = d → d < k →
    sawmillref07_Open.l0 k l m (i : Int) = some (opn m (prs (l.drop i))) := by
  induction d with
  | zero =>
    intro k i hi hd hk
    obtain ⟨k, rfl⟩ : ∃ m, k = m + 1 := ⟨k - 1, by omega⟩
    simp only [sawmillref07_Open.l0]
    rw [if_neg (by omega), prs_drop_end l i (by omega)]
    rfl
  | succ d ih =>
    intro k i hi hd hk
    obtain ⟨k, rfl⟩ : ∃ m, k = m + 1 := ⟨k - 1, by omega⟩
    have hlt : i < l.length := by omega
    have hn := ih k (i + 1) (by omega) (by omega) (by omega)
    rw [show ((i + 1 : Nat) : Int) = (i : Int) + 1 from rfl] at hn
    simp only [sawmillref07_Open.l0]
    rw [if_pos (by omega), if_pos (by omega), w64 (by omega) (by omega), hn]
    by_cases c1 : (rd_T47 l i).f0 ≤ m
    · rw [if_pos c1]
      by_cases c2 : m < (rd_T47 l i).f1
      · rw [if_pos c2, opn_yes m l i hlt c1 c2]
      · rw [if_neg c2, opn_no m l i hlt (fun h => c2 h.2)]
    · rw [if_neg c1, opn_no m l i hlt (fun h => c1 h.1)]
theorem open_f (l : List S47) (hl : l.length ≤ 21) (a : Int) (k : Nat) (hk : 22 ≤ k) : sawmillref07_Open.f k l a = some (openS (prs l) a) := by
  unfold sawmillref07_Open.f openS
  rw [rtime_f]
  simp only [Option.bind_some]
  by_cases h : isT a = true
  · rw [if_pos h, if_pos h]
    have hb := (isT_iff a).mp h
    rw [Int.tmod_eq_emod_of_nonneg hb.1]
    exact open_l0 l hl _ l.length k 0 (by omega) (by omega) (by omega)
  · rw [if_neg h, if_neg h]
theorem ropen_any (A : Option Addr) (c : Nat) (l : List S47) (a : Int) (w : World) (hr : Kd.C k47 w A l.length l) (hc : l.length ≤ c) (hl : l.length ≤ 21) :
    Calls Tryd.prog 21 #[.slice A l.length c, .int .i64 a] w fun e w' => e = .returned (.bool (openS (prs l) a)) ∧ Below w.heap.size w w' := by
  refine (sawmillref07_Open.calls 22 A c l a _ w hr hc (open_f l hl a 22 (by omega))).mono ?_
  rintro e w' ⟨rfl, h⟩
  first | exact ⟨rfl, h⟩ | exact ⟨rfl, h.below⟩

theorem nxr_head (m d : Int) (l : List S47) (k : Nat) (hk : k < l.length) : nxr m d (prs (l.drop k)) = if m < (rd_T47 l k).f0 then (rd_T47 l k).f0 else nxr m d (prs (l.drop (k + 1))) := by
  rw [prs_drop l k hk]
  rfl
theorem next_l0 (l : List S47) (hl : l.length ≤ 21) (hv : Val 0 (prs l)) (a : Int) (h0 : 0 ≤ a) (h1 : a ≤ 10000000) (d : Int) : ∀ (i k : Nat) (v : Int), i ≤ l.length → i < k → v = a - a % 10080 + nxr (a % 10080) d (prs (l.drop i)) →
    sawmillref07_Next.l0 k l a (a % 10080) v ((i : Int) - 1) = if a - a % 10080 + nxr (a % 10080) d (prs l) > 10000000 then some (0, 15) else some (a - a % 10080 + nxr (a % 10080) d (prs l), 0) := by
  intro i
  induction i with
  | zero =>
    intro k v hi hk hv'
    obtain ⟨k, rfl⟩ : ∃ m, k = m + 1 := ⟨k - 1, by omega⟩
    simp only [sawmillref07_Next.l0]
    rw [if_neg (by omega)]
    rw [hv']
    rfl
  | succ i ih =>
    intro k v hi hk hv'
    obtain ⟨k, rfl⟩ : ∃ m, k = m + 1 := ⟨k - 1, by omega⟩
    have hlt : i < l.length := by omega
    have hb := val_at l hv i hlt
    have e : ((i + 1 : Nat) : Int) - 1 = (i : Int) := by omega
    have hh := nxr_head (a % 10080) d l i hlt
    simp only [sawmillref07_Next.l0]
    rw [e, if_pos (by omega), if_pos (by omega), if_pos (by omega), w64 (x := (i : Int) - 1) (by omega) (by omega)]
    by_cases c : (rd_T47 l i).f0 > a % 10080
    · rw [if_pos c, w64 (x := a - a % 10080) (by omega) (by omega), w64 (by omega) (by omega)]
      rw [if_pos c] at hh
      exact ih k _ (by omega) (by omega) (by rw [hh])
    · rw [if_neg c]
      rw [if_neg c] at hh
      exact ih k v (by omega) (by omega) (by rw [hh]; exact hv')
theorem next_f (l : List S47) (hl : l.length ≤ 21) (hp : 0 < l.length) (hv : Val 0 (prs l)) (a : Int) (k : Nat) (hk : 23 ≤ k) : sawmillref07_Next.f k l a = some (nextN (prs l) a, nextE (prs l) a) := by
  unfold sawmillref07_Next.f nextN nextE
  rw [rtime_f]
  simp only [Option.bind_some]
  by_cases h : isT a = true
  · rw [if_pos h, if_pos h, if_pos h, open_f l hl a k (by omega)]
    simp only [Option.bind_some]
    have hb := (isT_iff a).mp h
    have h0 := hb.1
    have h1 := hb.2
    have eo : openS (prs l) a = opn (a % 10080) (prs l) := by unfold openS; rw [if_pos h]
    rw [eo]
    have v0 := val_at l hv 0 hp
    have e0 : rd_T47 l ((0 : Nat) : Int) = rd_T47 l 0 := rfl
    rw [e0] at v0
    by_cases ho : opn (a % 10080) (prs l) = true
    · rw [if_pos ho]
      have e : nextT (prs l) a = a := by
        unfold nextT
        rw [nxt_open (prs l) 0 (a % 10080) _ hv ho]
        omega
      rw [e, if_neg (by omega), if_neg (by omega)]
    · rw [if_neg ho, if_pos (by omega), Int.tmod_eq_emod_of_nonneg h0]
      have e : nextT (prs l) a = a - a % 10080 + nxr (a % 10080) (10080 + (rd_T47 l 0).f0) (prs l) := by
        unfold nextT
        rw [nxt_shut (prs l) 0 (a % 10080) _ hv (Bool.eq_false_iff.mpr ho), first_rd l hp]
      rw [w64 (x := a - a % 10080) (by omega) (by omega), w64 (x := a - a % 10080 + 10080) (by omega) (by omega), w64 (x := a - a % 10080 + 10080 + (rd_T47 l 0).f0) (by omega) (by omega), w64 (x := (l.length : Int) - 1) (by omega) (by omega)]
      rw [next_l0 l hl hv a h0 h1 (10080 + (rd_T47 l 0).f0) l.length k _ (Nat.le_refl _) (by omega) (by rw [prs_drop_end l l.length (Nat.le_refl _)]; show _ = _ + (10080 + _); omega), e]
      by_cases c : a - a % 10080 + nxr (a % 10080) (10080 + (rd_T47 l 0).f0) (prs l) > 10000000
      · rw [if_pos c, if_pos c, if_pos c]
      · rw [if_neg c, if_neg c, if_neg c]
  · rw [if_neg h, if_neg h, if_neg h]
theorem rnext_any (A : Option Addr) (c : Nat) (l : List S47) (a : Int) (w : World) (hr : Kd.C k47 w A l.length l) (hc : l.length ≤ c) (hl : l.length ≤ 21) (hp : 0 < l.length) (hv : Val 0 (prs l)) :
    Calls Tryd.prog 19 #[.slice A l.length c, .int .i64 a] w fun e w' => e = .returned (.tuple #[.int .i64 (nextN (prs l) a), .int .i64 (nextE (prs l) a)]) ∧ Below w.heap.size w w' := by
  refine (sawmillref07_Next.calls 23 A c l a _ _ w hr hc (next_f l hl hp hv a 23 (by omega))).mono ?_
  rintro e w' ⟨rfl, h⟩
  first | exact ⟨rfl, h⟩ | exact ⟨rfl, h.below⟩

theorem mpart_mx (m : Int) (s : S47) (h0 : 0 ≤ s.f0) (h1 : s.f0 < s.f1) (h2 : s.f1 ≤ 10080) (hm : 0 ≤ m) (hm1 : m ≤ 10080) : mx 0 (wrap64 (mn m s.f1 - s.f0)) = mpart m (s.f0, s.f1) := by
  unfold mn mx mpart
  simp only
  split
  · rw [w64 (by omega) (by omega)]
  · rw [w64 (by omega) (by omega)]
theorem before_l0 (l : List S47) (hl : l.length ≤ 21) (hv : Val 0 (prs l)) (m : Int) (hm : 0 ≤ m) (hm1 : m ≤ 10080) (d : Nat) : ∀ (k i : Nat) (v : Int), i ≤ l.length → l.length - i = d → d < k → 0 ≤ v → v ≤ (i : Int) * 10080 →
    sawmillref07_before.l0 k l m v (i : Int) = some (v + bef m (prs (l.drop i))) := by
  induction d with
  | zero =>
    intro k i v hi hd hk h0 h1
    obtain ⟨k, rfl⟩ : ∃ m, k = m + 1 := ⟨k - 1, by omega⟩
    simp only [sawmillref07_before.l0]
    rw [if_neg (by omega), prs_drop_end l i (by omega)]
    show some v = some (v + 0)
    rw [Int.add_zero]
  | succ d ih =>
    intro k i v hi hd hk h0 h1
    obtain ⟨k, rfl⟩ : ∃ m, k = m + 1 := ⟨k - 1, by omega⟩
    have hlt : i < l.length := by omega
    have hb := val_at l hv i hlt
    have hp := mpart_bd m ((rd_T47 l i).f0, (rd_T47 l i).f1) hb.2.1
    simp only at hp
    simp only [sawmillref07_before.l0]
    rw [if_pos (by omega), if_pos (by omega), mpart_mx m _ hb.1 hb.2.1 hb.2.2 hm hm1, w64 (x := v + _) (by omega) (by omega), w64 (x := (i : Int) + 1) (by omega) (by omega), bef_head m l i hlt]
    have hn := ih k (i + 1) (v + mpart m ((rd_T47 l i).f0, (rd_T47 l i).f1)) (by omega) (by omega) (by omega) (by omega) (by omega)
    rw [show ((i + 1 : Nat) : Int) = (i : Int) + 1 from rfl] at hn
    rw [hn, Int.add_assoc]
theorem before_f (l : List S47) (hl : l.length ≤ 21) (hv : Val 0 (prs l)) (m : Int) (hm : 0 ≤ m) (hm1 : m ≤ 10080) (k : Nat) (hk : 22 ≤ k) : sawmillref07_before.f k l m = some (bef m (prs l)) := by
  unfold sawmillref07_before.f
  have := before_l0 l hl hv m hm hm1 l.length k 0 0 (by omega) (by omega) (by omega) (by omega) (by omega)
  rw [show ((0 : Nat) : Int) = 0 from rfl] at this
  rw [this, Int.zero_add]
  rfl
theorem until_f (l : List S47) (hl : l.length ≤ 21) (hv : Val 0 (prs l)) (a : Int) (h0 : 0 ≤ a) (h1 : a ≤ 10000000) (k : Nat) (hk : 22 ≤ k) : sawmillref07_until.f k l a = some (pas (prs l) a) := by
  unfold sawmillref07_until.f
  rw [Int.tmod_eq_emod_of_nonneg h0, Int.tdiv_eq_ediv_of_nonneg h0, before_f l hl hv 10080 (by omega) (by omega) k hk, before_f l hl hv (a % 10080) (by omega) (by omega) k hk]
  simp only [Option.bind_some]
  rw [bef_full (prs l) 0 hv]
  have pb := pas_bd (prs l) hv a h0 (by omega)
  have bb := bef_bd (prs l) 0 (a % 10080) hv
  have tb := tot_bd (prs l) 0 (by omega) hv
  have q0 : 0 ≤ a / 10080 := by omega
  have m0 : 0 ≤ a / 10080 * tot (prs l) := Int.mul_nonneg q0 tb.1
  have e : pas (prs l) a = a / 10080 * tot (prs l) + bef (a % 10080) (prs l) := rfl
  rw [w64 (x := a / 10080) (by omega) (by omega), w64 (x := a / 10080 * tot (prs l)) (by omega) (by omega), w64 (by omega) (by omega), e]
theorem work_f (l : List S47) (hl : l.length ≤ 21) (hv : Val 0 (prs l)) (a b : Int) (k : Nat) (hk : 23 ≤ k) : sawmillref07_Work.f k l a b = some (workS (prs l) a b) := by
  obtain ⟨k, rfl⟩ : ∃ m, k = m + 1 := ⟨k - 1, by omega⟩
  unfold sawmillref07_Work.f workS
  rw [rtime_f, rtime_f]
  simp only [Option.bind_some, sawmillref07_Work.j0]
  by_cases ha : isT a = true
  · rw [if_pos ha]
    by_cases hb : isT b = true
    · rw [if_pos hb]
      by_cases hab : a ≤ b
      · have a1 := (isT_iff a).mp ha
        have b1 := (isT_iff b).mp hb
        have p1 := pas_bd (prs l) hv a a1.1 (by omega)
        have p2 := pas_bd (prs l) hv b b1.1 (by omega)
        rw [if_neg (by simp; omega), if_pos ⟨ha, hb, hab⟩, until_f l hl hv b b1.1 b1.2 k (by omega), until_f l hl hv a a1.1 a1.2 k (by omega)]
        simp only [Option.bind_some]
        rw [w64 (by omega) (by omega)]
      · rw [if_pos (by simp; omega), if_neg (fun h => hab h.2.2)]
    · rw [if_neg hb, if_pos trivial, if_neg (fun h => hb h.2.1)]
  · rw [if_neg ha, if_pos trivial, if_neg (fun h => ha h.1)]
theorem rwork_any (A : Option Addr) (c : Nat) (l : List S47) (a b : Int) (w : World) (hr : Kd.C k47 w A l.length l) (hc : l.length ≤ c) (hl : l.length ≤ 21) (hv : Val 0 (prs l)) :
    Calls Tryd.prog 23 #[.slice A l.length c, .int .i64 a, .int .i64 b] w fun e w' => e = .returned (.int .i64 (workS (prs l) a b)) ∧ Below w.heap.size w w' := by
  refine (sawmillref07_Work.calls 23 A c l a b _ w hr hc (work_f l hl hv a b 23 (by omega))).mono ?_
  rintro e w' ⟨rfl, h⟩
  first | exact ⟨rfl, h⟩ | exact ⟨rfl, h.below⟩

/-- The binary search finds the first time at which so much is worked. -/
theorem add_l0 (l : List S47) (hl : l.length ≤ 21) (hv : Val 0 (prs l)) (a m t : Int) (ha : 0 ≤ a) (ht : ∀ x, a ≤ x → x ≤ 10000000 → (m ≤ pas (prs l) x - pas (prs l) a ↔ t ≤ x)) : ∀ (d k : Nat) (lo hi : Int),
    hi - lo ≤ d → a ≤ lo → lo ≤ t → t ≤ hi → hi ≤ 10000000 → d + 23 < k → sawmillref07_Add.l0 k l a m lo hi = some (t, 0) := by
  intro d
  induction d with
  | zero =>
    intro k lo hi hd h1 h2 h3 h4 hk
    obtain ⟨k, rfl⟩ : ∃ m, k = m + 1 := ⟨k - 1, by omega⟩
    simp only [sawmillref07_Add.l0]
    rw [if_neg (by omega)]
    have : lo = t := by omega
    rw [this]
  | succ d ih =>
    intro k lo hi hd h1 h2 h3 h4 hk
    obtain ⟨k, rfl⟩ : ∃ m, k = m + 1 := ⟨k - 1, by omega⟩
    simp only [sawmillref07_Add.l0]
    by_cases c : lo < hi
    · rw [if_pos c, w64 (x := lo + hi) (by omega) (by omega), Int.tdiv_eq_ediv_of_nonneg (by omega), w64 (x := (lo + hi) / 2) (by omega) (by omega), work_f l hl hv a _ k (by omega)]
      simp only [Option.bind_some]
      have hw : workS (prs l) a ((lo + hi) / 2) = pas (prs l) ((lo + hi) / 2) - pas (prs l) a := by
        unfold workS
        rw [if_pos ⟨(isT_iff _).mpr (by omega), (isT_iff _).mpr (by omega), by omega⟩]
      have hx := ht ((lo + hi) / 2) (by omega) (by omega)
      rw [hw, w64 (x := (lo + hi) / 2 + 1) (by omega) (by omega)]
      by_cases c2 : pas (prs l) ((lo + hi) / 2) - pas (prs l) a ≥ m
      · rw [if_pos c2]
        have := hx.mp c2
        exact ih k lo _ (by omega) h1 h2 this (by omega) (by omega)
      · rw [if_neg c2]
        have : ¬ t ≤ (lo + hi) / 2 := fun h => c2 (hx.mpr h)
        exact ih k _ hi (by omega) (by omega) (by omega) h3 h4 (by omega)
    · rw [if_neg c]
      have : lo = t := by omega
      rw [this]
theorem add_f (l : List S47) (hl : l.length ≤ 21) (hp : 0 < l.length) (hv : Val 0 (prs l)) (a m : Int) (k : Nat) (hk : 10000100 ≤ k) : sawmillref07_Add.f k l a m = some (addN (prs l) a m, addE (prs l) a m) := by
  obtain ⟨k, rfl⟩ : ∃ j, k = j + 1 := ⟨k - 1, by omega⟩
  unfold sawmillref07_Add.f addN addE
  rw [rtime_f]
  simp only [Option.bind_some, sawmillref07_Add.j0]
  by_cases ha : isT a = true
  · rw [if_pos ha, if_pos ha, if_pos ha]
    have a1 := (isT_iff a).mp ha
    by_cases hm : m < 0 ∨ 10000000 < m
    · rw [if_pos hm, if_pos hm]
      by_cases hm0 : m < 0
      · rw [if_pos hm0, if_pos trivial]
      · rw [if_neg hm0, if_pos (by simp; omega)]
    · rw [if_neg hm, if_neg hm, if_neg (by omega), if_neg (by simp; omega), work_f l hl hv a 10000000 k (by omega)]
      simp only [Option.bind_some]
      have hw : workS (prs l) a 10000000 = pas (prs l) 10000000 - pas (prs l) a := by
        unfold workS
        rw [if_pos ⟨ha, by decide, by omega⟩]
      rw [hw]
      by_cases h0 : m = 0
      · rw [if_pos h0, if_pos h0]
        have := pas_le (prs l) hv a1.2
        rw [if_neg (by omega)]
        exact add_l0 l hl hv a m a a1.1 (fun x hx _ => ⟨fun _ => hx, fun h => by have := pas_le (prs l) hv h; omega⟩) 10000000 k a 10000000 (by omega) (by omega) (by omega) (by omega) (by omega) (by omega)
      · rw [if_neg h0, if_neg h0]
        obtain ⟨t1, t2, t3⟩ := add_tells (prs l) hv (by rw [prs_length]; exact hp) a m a1.1 a1.2 (by omega) (by omega)
        have hmono : ∀ x, (m ≤ pas (prs l) x - pas (prs l) a ↔ addT (prs l) a m ≤ x) := by
          intro x
          constructor
          · intro h
            apply Classical.byContradiction
            intro c
            have := pas_le (prs l) hv (a := x) (b := addT (prs l) a m - 1) (by omega)
            omega
          · intro h
            have := pas_le (prs l) hv h
            omega
        by_cases hm10 : 10000000 < addT (prs l) a m
        · rw [if_pos hm10, if_pos hm10]
          have : ¬ m ≤ pas (prs l) 10000000 - pas (prs l) a := fun h => by have := (hmono 10000000).mp h; omega
          rw [if_pos (by omega)]
        · rw [if_neg hm10, if_neg hm10]
          have := (hmono 10000000).mpr (by omega)
          rw [if_neg (by omega)]
          exact add_l0 l hl hv a m _ a1.1 (fun x _ _ => hmono x) 10000000 k a 10000000 (by omega) (by omega) (by omega) (by omega) (by omega) (by omega)
  · rw [if_neg ha, if_neg ha, if_neg ha]
theorem radd_any (A : Option Addr) (c : Nat) (l : List S47) (a m : Int) (w : World) (hr : Kd.C k47 w A l.length l) (hc : l.length ≤ c) (hl : l.length ≤ 21) (hp : 0 < l.length) (hv : Val 0 (prs l)) :
    Calls Tryd.prog 25 #[.slice A l.length c, .int .i64 a, .int .i64 m] w fun e w' => e = .returned (.tuple #[.int .i64 (addN (prs l) a m), .int .i64 (addE (prs l) a m)]) ∧ Below w.heap.size w w' := by
  refine (sawmillref07_Add.calls 10000100 A c l a m _ _ w hr hc (add_f l hl hp hv a m 10000100 (by omega))).mono ?_
  rintro e w' ⟨rfl, h⟩
  first | exact ⟨rfl, h⟩ | exact ⟨rfl, h.below⟩
end Go.Proofs.YthdkfgpcdghblaaDoor.Cal
