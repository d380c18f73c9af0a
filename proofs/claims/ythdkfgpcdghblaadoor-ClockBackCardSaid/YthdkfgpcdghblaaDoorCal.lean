/-
  The calendar in memory: a block of 44 cells that holds the shifts of a list, their number and their minutes together; and what Open answers over it. Condition: the list is valid.
-/
import Derived.Test.YthdkfgpcdghblaaDoorPAllx
import Derived.Test.YthdkfgpcdghblaaDoorMath
namespace Go.Proofs.YthdkfgpcdghblaaDoor.Cal
open Go.RowKit Go.Proofs.YthdkfgpcdghblaaDoorW.PrintWords Go.Proofs.YthdkfgpcdghblaaDoorW.PrintLast Go.Proofs.YthdkfgpcdghblaaDoorW.PrintMore
open Go.Proofs.YthdkfgpcdghblaaDoor.PAll Go.Proofs.YthdkfgpcdghblaaDoor.CMath
attribute [local go_sem] max2_int min2_int max_two min_two
set_option linter.unusedVariables false
set_option linter.unusedSimpArgs false

def prs (l : List S47) : List Sh := l.map fun s => (s.f0, s.f1)
theorem prs_length (l : List S47) : (prs l).length = l.length := by simp [prs]
theorem prs_drop (l : List S47) (k : Nat) (h : k < l.length) : prs (l.drop k) = ((rd_T47 l k).f0, (rd_T47 l k).f1) :: prs (l.drop (k + 1)) := by
  rw [List.drop_eq_getElem_cons h]
  have e : rd_T47 l k = l[k] := by simp [rd_T47, List.getElem?_eq_getElem h]
  rw [e]
  rfl
theorem prs_drop_end (l : List S47) (k : Nat) (h : l.length ≤ k) : prs (l.drop k) = [] := by
  rw [List.drop_eq_nil_of_le h]
  rfl
theorem prs_map_drop (l : List S47) (k : Nat) : prs (l.drop k) = (prs l).drop k := by simp [prs, List.map_drop]
/-- A shift of a valid list. -/
theorem val_at (l : List S47) (h : Val 0 (prs l)) (k : Nat) (hk : k < l.length) : 0 ≤ (rd_T47 l k).f0 ∧ (rd_T47 l k).f0 < (rd_T47 l k).f1 ∧ (rd_T47 l k).f1 ≤ 10080 := by
  have h1 := val_drop (prs l) 0 k h
  rw [← prs_map_drop, prs_drop l k hk] at h1
  exact ⟨h1.1, h1.2.1, h1.2.2.1⟩

/-- A calendar's cells. -/
def calC (l : List S47) (n tt : Int) : List Value :=
  (List.range 21).flatMap (fun i : Nat => [Value.int .i64 (rd_T47 l i).f0, Value.int .i64 (rd_T47 l i).f1]) ++ [.int .i64 n, .int .i64 tt]
theorem calC_even (l : List S47) (n tt : Int) (i : Nat) (h : i < 21) : (calC l n tt)[i * 2]? = some (.int .i64 (rd_T47 l i).f0) := by
  iterate 21 (rcases i with _ | i; · rfl)
  omega
theorem calC_odd (l : List S47) (n tt : Int) (i : Nat) (h : i < 21) : (calC l n tt)[i * 2 + 1]? = some (.int .i64 (rd_T47 l i).f1) := by
  iterate 21 (rcases i with _ | i; · rfl)
  omega
theorem calC_n (l : List S47) (n tt : Int) : (calC l n tt)[42]? = some (.int .i64 n) := rfl
theorem calC_t (l : List S47) (n tt : Int) : (calC l n tt)[43]? = some (.int .i64 tt) := rfl
theorem calC_length (l : List S47) (n tt : Int) : (calC l n tt).length = 44 := rfl

def CalAt (w : World) (g : Nat) (l : List S47) (n tt : Int) : Prop := w.heap[g]? = some (.cells (calC l n tt).toArray 52 (0, 0))
section
variable {w w' : World} {g : Nat} {l : List S47} {n tt : Int}
theorem CalAt.lt (h : CalAt w g l n tt) : g < w.heap.size := by
  rcases Nat.lt_or_ge g w.heap.size with hlt | hge
  · exact hlt
  · unfold CalAt at h
    rw [Array.getElem?_eq_none hge] at h
    cases h
theorem CalAt.cell (h : CalAt w g l n tt) (i : Nat) : w.cell? ⟨g, i, none⟩ = (calC l n tt)[i]? := by
  have := cell_of_row w g i _ 52 (0, 0) h
  simpa using this
theorem CalAt.from (h : CalAt w g l n tt) (k : Nat) (hk : k < 21) : w.cell? ⟨g, k * 2, none⟩ = some (.int .i64 (rd_T47 l k).f0) := (h.cell _).trans (calC_even l n tt k hk)
theorem CalAt.till (h : CalAt w g l n tt) (k : Nat) (hk : k < 21) : w.cell? ⟨g, k * 2 + 1, none⟩ = some (.int .i64 (rd_T47 l k).f1) := (h.cell _).trans (calC_odd l n tt k hk)
theorem CalAt.count (h : CalAt w g l n tt) : w.cell? ⟨g, 42, none⟩ = some (.int .i64 n) := (h.cell _).trans (calC_n l n tt)
theorem CalAt.total (h : CalAt w g l n tt) : w.cell? ⟨g, 43, none⟩ = some (.int .i64 tt) := (h.cell _).trans (calC_t l n tt)
theorem CalAt.below (h : CalAt w g l n tt) (hb : Below w.heap.size w w') : CalAt w' g l n tt := (hb.block g h.lt).trans h
theorem CalAt.free (h : CalAt w g l n tt) (i : Nat) : w.frozen? ⟨g, i, none⟩ = false := by
  unfold CalAt at h
  simp [World.frozen?, h]
end
/-- A whole calendar of a valid list. -/
structure IsCal (w : World) (g : Nat) (l : List S47) : Prop where
  at_ : CalAt w g l l.length (tot (prs l))
  val : Val 0 (prs l)
  pos : 0 < l.length
  few : l.length ≤ 21
theorem IsCal.below {w w' : World} {g : Nat} {l : List S47} (h : IsCal w g l) (hb : Below w.heap.size w w') : IsCal w' g l := ⟨h.at_.below hb, h.val, h.pos, h.few⟩

theorem time_f (a : Int) : clock_isTime.f a = some (isT a) := by
  unfold clock_isTime.f isT
  split <;> simp_all <;> omega
theorem rtime_f (a : Int) : sawmillref07_IsTime.f a = some (isT a) := by
  unfold sawmillref07_IsTime.f isT
  split <;> simp_all <;> omega
theorem ltime_f (a : Int) : sawmilllaw07_isTime.f a = some (isT a) := by
  unfold sawmilllaw07_isTime.f isT
  split <;> simp_all <;> omega
theorem time_yes (a : Int) (w : World) (h : isT a = true) : Calls Tryd.prog 31 #[.int .i64 a] w fun e w' => e = .returned (.bool true) ∧ w = w' := by
  have hb := (isT_iff a).mp h
  have h0 := hb.1
  have h1 := hb.2
  clear hb h
  go_enter Tryd.func31, Tryd.ntmps31
  go_wp2
  go_ret
  exact ⟨rfl, rfl⟩
theorem time_no (a : Int) (w : World) (h : isT a = false) : Calls Tryd.prog 31 #[.int .i64 a] w fun e w' => e = .returned (.bool false) ∧ w = w' := by
  by_cases h0 : 0 ≤ a
  · have h1 : ¬ a ≤ 10000000 := fun h1 => by rw [(isT_iff a).mpr ⟨h0, h1⟩] at h; cases h
    clear h
    go_enter Tryd.func31, Tryd.ntmps31
    go_wp2
    go_ret
    exact ⟨rfl, rfl⟩
  · clear h
    go_enter Tryd.func31, Tryd.ntmps31
    go_wp2
    go_ret
    exact ⟨rfl, rfl⟩

theorem opn_yes (m : Int) (l : List S47) (k : Nat) (hk : k < l.length) (h1 : (rd_T47 l k).f0 ≤ m) (h2 : m < (rd_T47 l k).f1) : opn m (prs (l.drop k)) = true := by
  rw [prs_drop l k hk]
  unfold opn
  rw [if_pos ⟨h1, h2⟩]
theorem opn_no (m : Int) (l : List S47) (k : Nat) (hk : k < l.length) (h : ¬ ((rd_T47 l k).f0 ≤ m ∧ m < (rd_T47 l k).f1)) : opn m (prs (l.drop k)) = opn m (prs (l.drop (k + 1))) := by
  rw [prs_drop l k hk]
  conv => lhs; unfold opn
  rw [if_neg h]
theorem opn_end (m : Int) (l : List S47) (k : Nat) (hk : l.length ≤ k) : opn m (prs (l.drop k)) = false := by rw [prs_drop_end l k hk]; rfl

set_option maxHeartbeats 1000000 in
theorem open_yes (g : Nat) (l : List S47) (a : Int) (w : World) (hc : IsCal w g l) (h0 : 0 ≤ a) (h1 : a ≤ 10000000) :
    Calls Tryd.prog 20 #[.pointer (some ⟨g, 0, none⟩), .int .i64 a] w fun e w' => e = .returned (.bool (opn (a % 10080) (prs l))) ∧ w = w' := by
  have HC := Aside0.mk hc
  have hn := hc.at_.count
  have hf := hc.few
  have HT := Aside0.mk ((isT_iff a).mpr ⟨h0, h1⟩)
  obtain ⟨R, hR⟩ : ∃ R, opn (a % 10080) (prs l) = R := ⟨_, rfl⟩
  rw [hR]
  have HR := Aside0.mk hR
  clear hc hR
  go_enter Tryd.func20, Tryd.ntmps20
  go_wp2_with (go_at_call 31; refine (time_yes a _ HT.out).mono ?_; rintro e w' ⟨rfl, rfl⟩)
  go_loop [20, 6] (fun i _ => ∃ k : Nat, k ≤ l.length ∧ i = .int .i64 k ∧ Aside0 (opn (a % 10080) (prs (l.drop k)) = R)) (fun i _ => l.length - (intOf i).toNat)
  case atStart => exact ⟨0, Nat.zero_le _, rfl, HR⟩
  case round =>
    obtain ⟨k, hk, rfl, HK⟩ := hrel
    by_cases hlt : k < l.length
    · have c0 := HC.out.at_.from k (by omega)
      have c1 := HC.out.at_.till k (by omega)
      by_cases d1 : (rd_T47 l k).f0 ≤ a % 10080
      · by_cases d2 : a % 10080 < (rd_T47 l k).f1
        · have hy := Aside0.mk (HK.out.symm.trans (opn_yes _ l k hlt d1 d2))
          go_wp2
          go_ret
          exact ⟨by rw [hy.out]; rfl, rfl⟩
        · have hy := Aside0.mk ((opn_no _ l k hlt (fun h => d2 h.2)).symm.trans HK.out)
          go_wp2
          go_round
          case rel => exact ⟨k + 1, by omega, by go_num, hy⟩
          case measure => simp [intOf]; omega
      · have hy := Aside0.mk ((opn_no _ l k hlt (fun h => d1 h.1)).symm.trans HK.out)
        go_wp2
        go_round
        case rel => exact ⟨k + 1, by omega, by go_num, hy⟩
        case measure => simp [intOf]; omega
    · have hy := Aside0.mk (HK.out.symm.trans (opn_end _ l k (by omega)))
      go_wp2
      go_ret
      exact ⟨by rw [hy.out]; rfl, rfl⟩

theorem open_shut (g : Nat) (a : Int) (w : World) (h : isT a = false) :
    Calls Tryd.prog 20 #[.pointer (some ⟨g, 0, none⟩), .int .i64 a] w fun e w' => e = .returned (.bool false) ∧ w = w' := by
  have HT := Aside0.mk h
  clear h
  go_enter Tryd.func20, Tryd.ntmps20
  go_wp2_with (go_at_call 31; refine (time_no a _ HT.out).mono ?_; rintro e w' ⟨rfl, rfl⟩)
  go_ret
  exact ⟨rfl, rfl⟩
theorem open_any (g : Nat) (l : List S47) (a : Int) (w : World) (hc : IsCal w g l) :
    Calls Tryd.prog 20 #[.pointer (some ⟨g, 0, none⟩), .int .i64 a] w fun e w' => e = .returned (.bool (openS (prs l) a)) ∧ w = w' := by
  unfold openS
  by_cases h : isT a = true
  · rw [if_pos h]
    have hb := (isT_iff a).mp h
    exact open_yes g l a w hc hb.1 hb.2
  · rw [if_neg h]
    exact open_shut g a w (Bool.eq_false_iff.mpr h)

theorem nxt_lo (m d : Int) (l : List S47) (k : Nat) (hk : k < l.length) (h1 : m < (rd_T47 l k).f1) (h2 : m < (rd_T47 l k).f0) : nxt m d (prs (l.drop k)) = (rd_T47 l k).f0 := by
  rw [prs_drop l k hk]
  unfold nxt
  rw [if_pos h1, if_pos h2]
theorem nxt_in (m d : Int) (l : List S47) (k : Nat) (hk : k < l.length) (h1 : m < (rd_T47 l k).f1) (h2 : ¬ m < (rd_T47 l k).f0) : nxt m d (prs (l.drop k)) = m := by
  rw [prs_drop l k hk]
  unfold nxt
  rw [if_pos h1, if_neg h2]
theorem nxt_hi (m d : Int) (l : List S47) (k : Nat) (hk : k < l.length) (h1 : ¬ m < (rd_T47 l k).f1) : nxt m d (prs (l.drop k)) = nxt m d (prs (l.drop (k + 1))) := by
  rw [prs_drop l k hk]
  conv => lhs; unfold nxt
  rw [if_neg h1]
theorem nxt_end (m d : Int) (l : List S47) (k : Nat) (hk : l.length ≤ k) : nxt m d (prs (l.drop k)) = d := by rw [prs_drop_end l k hk]; rfl
theorem first_rd (l : List S47) (h : 0 < l.length) : first (prs l) = (rd_T47 l 0).f0 := by
  cases l with
  | nil => simp at h
  | cons s t => rfl

set_option maxHeartbeats 1000000 in
theorem next_yes (g : Nat) (l : List S47) (a : Int) (w : World) (hc : IsCal w g l) (h0 : 0 ≤ a) (h1 : a ≤ 10000000) :
    Calls Tryd.prog 18 #[.pointer (some ⟨g, 0, none⟩), .int .i64 a] w fun e w' => e = .returned (.tuple #[.int .i64 (nextN (prs l) a), .int .i64 (nextE (prs l) a)]) ∧ w = w' := by
  have HC := Aside0.mk hc
  have hn := hc.at_.count
  have hf := hc.few
  have hp := hc.pos
  have c00 := hc.at_.from 0 (by omega)
  have v00 := val_at l hc.val 0 hp
  have HT := Aside0.mk ((isT_iff a).mpr ⟨h0, h1⟩)
  obtain ⟨f, hf0⟩ : ∃ f, (rd_T47 l ((0 : Nat) : Int)).f0 = f := ⟨_, rfl⟩
  rw [hf0] at c00
  have hfl : 0 ≤ f := by have := v00.1; omega
  have hfh : f ≤ 10080 := by have := v00.2.1; have := v00.2.2; omega
  have HF := Aside0.mk hf0
  clear hc hf0 v00
  have HE : Aside0 (nxt (a % 10080) (10080 + f) (prs (l.drop l.length)) = 10080 + f) := ⟨nxt_end _ _ l l.length (Nat.le_refl _)⟩
  have hfin : ∀ v : Int, v = a - a % 10080 + nxt (a % 10080) (10080 + f) (prs (l.drop 0)) → nextT (prs l) a = v := by
    intro v hv
    rw [hv]
    unfold nextT
    rw [first_rd l hp]
    exact congrArg (fun z => a - a % 10080 + nxt (a % 10080) (10080 + z) (prs l)) HF.out
  have HFIN := Aside0.mk hfin
  clear hfin
  go_enter Tryd.func18, Tryd.ntmps18
  go_wp2_with (go_at_call 31; refine (time_yes a _ HT.out).mono ?_; rintro e w' ⟨rfl, rfl⟩)
  go_loop [7, 8] (fun nx i => ∃ (k : Nat) (v : Int), k ≤ l.length ∧ i = .int .i64 ((k : Int) - 1) ∧ nx = .int .i64 v ∧ Aside0 (v = a - a % 10080 + nxt (a % 10080) (10080 + f) (prs (l.drop k)))) (fun _ i => (intOf i + 1).toNat)
  case atStart => exact ⟨l.length, _, Nat.le_refl _, rfl, rfl, ⟨by rw [HE.out]; omega⟩⟩
  case round =>
    obtain ⟨k, v, hk, hi, rfl, HV⟩ := hrel
    clear HE c00
    cases k with
    | zero =>
      obtain rfl := hi.trans (show _ = Value.int .i64 (-1) from rfl)
      have HN := Aside0.mk (HFIN.out v HV.out)
      by_cases hm : 10000000 < v
      · go_wp2
        go_ret2
        exact ⟨by unfold nextN nextE; rw [if_pos HT.out, if_pos HT.out, HN.out, if_pos hm, if_pos hm]; rfl, rfl⟩
      · go_wp2
        go_ret2
        exact ⟨by unfold nextN nextE; rw [if_pos HT.out, if_pos HT.out, HN.out, if_neg (by omega), if_neg (by omega)]; rfl, rfl⟩
    | succ k =>
      obtain rfl := hi.trans (show _ = Value.int .i64 (k : Int) by go_num)
      have c0 := HC.out.at_.from k (by omega)
      have c1 := HC.out.at_.till k (by omega)
      have hlt : k < l.length := by omega
      have hb := val_at l HC.out.val k hlt
      have hb0 := hb.1
      have hb1 := hb.2.1
      have hb2 := hb.2.2
      clear hb
      by_cases d1 : a % 10080 < (rd_T47 l k).f1
      · by_cases d2 : a % 10080 < (rd_T47 l k).f0
        · have hy := Aside0.mk (nxt_lo (a % 10080) (10080 + f) l k hlt d1 d2)
          go_wp2
          go_round
          case rel => exact ⟨k, _, by omega, by go_num, rfl, ⟨by have := hy.out; omega⟩⟩
          case measure => simp [intOf]
        · have hy := Aside0.mk (nxt_in (a % 10080) (10080 + f) l k hlt d1 d2)
          go_wp2
          go_round
          case rel => exact ⟨k, _, by omega, by go_num, rfl, ⟨by have := hy.out; omega⟩⟩
          case measure => simp [intOf]
      · have hy := Aside0.mk (nxt_hi (a % 10080) (10080 + f) l k hlt d1)
        go_wp2
        go_round
        case rel => exact ⟨k, _, by omega, by go_num, rfl, ⟨by rw [hy.out]; exact HV.out⟩⟩
        case measure => simp [intOf]
theorem next_shut (g : Nat) (a : Int) (w : World) (h : isT a = false) :
    Calls Tryd.prog 18 #[.pointer (some ⟨g, 0, none⟩), .int .i64 a] w fun e w' => e = .returned (.tuple #[.int .i64 0, .int .i64 15]) ∧ w = w' := by
  have HT := Aside0.mk h
  clear h
  go_enter Tryd.func18, Tryd.ntmps18
  go_wp2_with (go_at_call 31; refine (time_no a _ HT.out).mono ?_; rintro e w' ⟨rfl, rfl⟩)
  go_ret2
  exact ⟨rfl, rfl⟩
theorem next_any (g : Nat) (l : List S47) (a : Int) (w : World) (hc : IsCal w g l) :
    Calls Tryd.prog 18 #[.pointer (some ⟨g, 0, none⟩), .int .i64 a] w fun e w' => e = .returned (.tuple #[.int .i64 (nextN (prs l) a), .int .i64 (nextE (prs l) a)]) ∧ w = w' := by
  by_cases h : isT a = true
  · have hb := (isT_iff a).mp h
    exact next_yes g l a w hc hb.1 hb.2
  · have e1 : nextN (prs l) a = 0 := by unfold nextN; rw [if_neg h]
    have e2 : nextE (prs l) a = 15 := by unfold nextE; rw [if_neg h]
    rw [e1, e2]
    exact next_shut g a w (Bool.eq_false_iff.mpr h)

theorem bef_head (m : Int) (l : List S47) (k : Nat) (hk : k < l.length) : bef m (prs (l.drop k)) = mpart m ((rd_T47 l k).f0, (rd_T47 l k).f1) + bef m (prs (l.drop (k + 1))) := by
  rw [prs_drop l k hk]
  rfl
theorem bef_end (m : Int) (l : List S47) (k : Nat) (hk : l.length ≤ k) : bef m (prs (l.drop k)) = 0 := by rw [prs_drop_end l k hk]; rfl
theorem part_all {m a b : Int} (h : a < b) (h1 : b < m) : mpart m (a, b) = b - a := by unfold mpart; simp only; rw [if_pos h1, if_pos (by omega)]
theorem part_some {m a b : Int} (h1 : ¬ b < m) (h2 : a < m) : mpart m (a, b) = m - a := by unfold mpart; simp only; rw [if_neg h1, if_pos (by omega)]
theorem part_none {m a b : Int} (h1 : ¬ b < m) (h2 : ¬ a < m) : mpart m (a, b) = 0 := by unfold mpart; simp only; rw [if_neg h1, if_neg (by omega)]

set_option maxHeartbeats 1000000 in
theorem passed_any (g : Nat) (l : List S47) (a : Int) (w : World) (hc : IsCal w g l) (h0 : 0 ≤ a) (h1 : a ≤ 10000000) :
    Calls Tryd.prog 33 #[.pointer (some ⟨g, 0, none⟩), .int .i64 a] w fun e w' => e = .returned (.int .i64 (pas (prs l) a)) ∧ Below w.heap.size w w' := by
  have HC := Aside0.mk hc
  have hn := hc.at_.count
  have ht := hc.at_.total
  have hf := hc.few
  have tb := tot_bd (prs l) 0 (by omega) hc.val
  have tb0 := tb.1
  have tb1 := tb.2
  have pb := pas_bd (prs l) hc.val a h0 (by omega)
  obtain ⟨R, hR⟩ : ∃ R, pas (prs l) a = R := ⟨_, rfl⟩
  rw [hR] at pb ⊢
  have hR1 := pb.2
  obtain ⟨T, hT⟩ : ∃ T, tot (prs l) = T := ⟨_, rfl⟩
  rw [hT] at ht tb0 tb1
  have q0 : 0 ≤ a / 10080 := by omega
  have q1 : a / 10080 ≤ 1000 := by omega
  have m0 : 0 ≤ a / 10080 * T := Int.mul_nonneg q0 tb0
  have m1 : a / 10080 * T ≤ a / 10080 * 10080 := Int.mul_le_mul_of_nonneg_left (by omega) q0
  have m2 : a / 10080 * T ≤ 10080000 := by omega
  have HR : Aside0 (a / 10080 * T + bef (a % 10080) (prs (l.drop 0)) = R) := ⟨by rw [← hR, ← hT]; rfl⟩
  have HV := Aside0.mk hc.val
  clear hc hR hT pb tb m1
  go_enter Tryd.func33, Tryd.ntmps33
  go_wp2
  clear ht hn
  go_loopw [5, 22] (fun n i wr => ∃ (k : Nat) (v : Int), k ≤ l.length ∧ i = .int .i64 k ∧ n = .int .i64 v ∧ 0 ≤ v ∧ Aside0 (v + bef (a % 10080) (prs (l.drop k)) = R) ∧ Aside0 (Below w.heap.size w wr)) (fun _ i _ => l.length - (intOf i).toNat)
  case atStart => exact ⟨0, _, Nat.zero_le _, rfl, rfl, m0, HR, ⟨Below.refl _ _⟩⟩
  case round =>
    obtain ⟨k, v, hk, rfl, rfl, hv0, HK, HB⟩ := hrel
    clear HR
    by_cases hlt : k < l.length
    · have hcal := HC.out.below HB.out
      have c0 := hcal.at_.from k (by omega)
      have c1 := hcal.at_.till k (by omega)
      have hb := val_at l HV.out k hlt
      have hb0 := hb.1
      have hb1 := hb.2.1
      have hb2 := hb.2.2
      have hs := bef_head (a % 10080) l k hlt
      have hbb := bef_bd (prs (l.drop (k + 1))) 0 (a % 10080) (by rw [prs_map_drop]; exact val_drop _ 0 _ HV.out)
      clear hb hcal
      by_cases d1 : (rd_T47 l k).f1 < a % 10080
      · have hp := part_all hb1 d1
        rw [hp] at hs
        have hs1 : v + ((rd_T47 l k).f1 - (rd_T47 l k).f0) + bef (a % 10080) (prs (l.drop (k + 1))) = R := by have := HK.out; omega
        have hvb : v + ((rd_T47 l k).f1 - (rd_T47 l k).f0) ≤ 30000000 := by omega
        have HS := Aside0.mk hs1
        clear hs hs1 hp hbb
        go_wp2
        go_roundw
        case rel => exact ⟨k + 1, _, by omega, by go_num, rfl, by omega, HS, ⟨by repeat (first | (with_reducible first | exact HB.out | apply below_alloc | apply pw_below_drewN | apply below_drew1) | exact HB.out)⟩⟩
        case measure => simp [intOf]; omega
      · by_cases d2 : (rd_T47 l k).f0 < a % 10080
        · have hp := part_some (a := (rd_T47 l k).f0) d1 d2
          rw [hp] at hs
          have hs1 : v + (a % 10080 - (rd_T47 l k).f0) + bef (a % 10080) (prs (l.drop (k + 1))) = R := by have := HK.out; omega
          have hvb : v + (a % 10080 - (rd_T47 l k).f0) ≤ 30000000 := by omega
          have HS := Aside0.mk hs1
          clear hs hs1 hp hbb
          go_wp2
          go_roundw
          case rel => exact ⟨k + 1, _, by omega, by go_num, rfl, by omega, HS, ⟨by repeat (first | (with_reducible first | exact HB.out | apply below_alloc | apply pw_below_drewN | apply below_drew1) | exact HB.out)⟩⟩
          case measure => simp [intOf]; omega
        · have hp := part_none (a := (rd_T47 l k).f0) d1 d2
          rw [hp] at hs
          have hs1 : v + bef (a % 10080) (prs (l.drop (k + 1))) = R := by have := HK.out; omega
          have hvb : v ≤ 30000000 := by omega
          have HS := Aside0.mk hs1
          clear hs hs1 hp hbb
          go_wp2
          go_roundw
          case rel => exact ⟨k + 1, _, by omega, by go_num, rfl, by omega, HS, ⟨by repeat (first | (with_reducible first | exact HB.out | apply below_alloc | apply pw_below_drewN | apply below_drew1) | exact HB.out)⟩⟩
          case measure => simp [intOf]; omega
    · have hy : v = R := by have := HK.out; rw [bef_end _ l k (by omega)] at this; omega
      have HY := Aside0.mk hy
      clear hy
      go_wp2
      go_ret
      exact ⟨by rw [← HY.out]; rfl, HB.out⟩
end Go.Proofs.YthdkfgpcdghblaaDoor.Cal
