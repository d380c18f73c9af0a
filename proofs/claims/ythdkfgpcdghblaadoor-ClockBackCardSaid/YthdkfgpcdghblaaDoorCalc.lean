/-
  New: it returns a calendar exactly for the valid lists, and otherwise the list's error. For every list.
-/
import Derived.Test.YthdkfgpcdghblaaDoorCalb
namespace Go.Proofs.YthdkfgpcdghblaaDoor.Cal
open Go.RowKit Go.Proofs.YthdkfgpcdghblaaDoorW.PrintWords Go.Proofs.YthdkfgpcdghblaaDoorW.PrintLast Go.Proofs.YthdkfgpcdghblaaDoorW.PrintMore
open Go.Proofs.YthdkfgpcdghblaaDoor.PAll Go.Proofs.YthdkfgpcdghblaaDoor.CMath
attribute [local go_sem] max2_int min2_int max_two min_two
set_option linter.unusedVariables false
set_option linter.unusedSimpArgs false

/-- What New leaves. -/
def NewPost (l : List S47) (w : World) (e : Ending) (w' : World) : Prop :=
  Below w.heap.size w w' ∧ ((newE (prs l) = 0 ∧ ∃ g, e = .returned (.tuple #[.pointer (some ⟨g, 0, none⟩), .int .i64 0]) ∧ w.heap.size ≤ g ∧ IsCal w' g l) ∨
    (newE (prs l) ≠ 0 ∧ e = .returned (.tuple #[.pointer none, .int .i64 (newE (prs l))])))

def lastOf (l : List S47) (k : Nat) : Int := if k = 0 then 0 else (rd_T47 l ((k : Int) - 1)).f1
theorem chk_range (l : List S47) (k : Nat) (last : Int) (hk : k < l.length) (h : (rd_T47 l k).f0 < 0 ∨ (rd_T47 l k).f1 ≤ (rd_T47 l k).f0 ∨ 10080 < (rd_T47 l k).f1) : chk last (prs (l.drop k)) = 9 := by
  rw [prs_drop l k hk]
  unfold chk
  rw [if_pos h]
theorem chk_order (l : List S47) (k : Nat) (last : Int) (hk : k < l.length) (h : ¬ ((rd_T47 l k).f0 < 0 ∨ (rd_T47 l k).f1 ≤ (rd_T47 l k).f0 ∨ 10080 < (rd_T47 l k).f1)) (h2 : (rd_T47 l k).f0 < last) : chk last (prs (l.drop k)) = 11 := by
  rw [prs_drop l k hk]
  unfold chk
  rw [if_neg h, if_pos h2]
theorem chk_on (l : List S47) (k : Nat) (last : Int) (hk : k < l.length) (h : ¬ ((rd_T47 l k).f0 < 0 ∨ (rd_T47 l k).f1 ≤ (rd_T47 l k).f0 ∨ 10080 < (rd_T47 l k).f1)) (h2 : ¬ (rd_T47 l k).f0 < last) : chk last (prs (l.drop k)) = chk (rd_T47 l k).f1 (prs (l.drop (k + 1))) := by
  rw [prs_drop l k hk]
  conv => lhs; unfold chk
  rw [if_neg h, if_neg h2]
theorem chk_end (l : List S47) (k : Nat) (last : Int) (hk : l.length ≤ k) : chk last (prs (l.drop k)) = 0 := by rw [prs_drop_end l k hk]; rfl

theorem cal_of_alloc (w : World) (n : Int) : CalAt (w.alloc (.cells (calC [] n 0).toArray 52 (0, 0))) w.heap.size [] n 0 := heap_alloc_new w _

section
variable {w : World} {g : Nat} {cs : Array Value}
theorem row_alloc (h : w.heap[g]? = some (.cells cs 52 (0, 0))) (o : Obj) : (w.alloc o).heap[g]? = some (.cells cs 52 (0, 0)) :=
  (Below.heap_alloc w o g (Array.getElem?_eq_some_iff.1 h).1).trans h
theorem row_drewN (h : w.heap[g]? = some (.cells cs 52 (0, 0))) (n : Nat) : (w.drewN n).heap[g]? = some (.cells cs 52 (0, 0)) := h
theorem row_drew (h : w.heap[g]? = some (.cells cs 52 (0, 0))) : w.drew.heap[g]? = some (.cells cs 52 (0, 0)) := h
theorem row_set (h : w.heap[g]? = some (.cells cs 52 (0, 0))) (i : Nat) (u : Value) : (w.setCell ⟨g, i, none⟩ u).heap[g]? = some (.cells (cs.setIfInBounds i u) 52 (0, 0)) := by
  simp [World.setCell, Array.getElem?_modify, h]
end
theorem rd_take (l : List S47) (k i : Nat) (h : i < k) : rd_T47 (l.take k) i = rd_T47 l i := by
  unfold rd_T47
  simp only [Int.toNat_natCast, List.getD_eq_getElem?_getD, List.getElem?_take, if_pos h]
theorem rd_past (l : List S47) (k i : Nat) (h : k ≤ i) : rd_T47 (l.take k) i = z47 := by
  unfold rd_T47
  simp only [Int.toNat_natCast, List.getD_eq_getElem?_getD, List.getElem?_take, if_neg (Nat.not_lt.mpr h), Option.getD_none]
theorem calC_next (l : List S47) (k : Nat) (n tt t2 : Int) (hk : k < 21) :
    (((calC (l.take k) n tt).toArray.setIfInBounds (k * 2) (.int .i64 (rd_T47 l k).f0)).setIfInBounds (k * 2 + 1) (.int .i64 (rd_T47 l k).f1)).setIfInBounds 43 (.int .i64 t2) = (calC (l.take (k + 1)) n t2).toArray := by
  rw [List.setIfInBounds_toArray, List.setIfInBounds_toArray, List.setIfInBounds_toArray]
  congr 1
  apply List.ext_getElem?
  intro j
  rw [List.getElem?_set, List.getElem?_set, List.getElem?_set]
  by_cases h44 : 44 ≤ j
  · rw [List.getElem?_eq_none (by rw [calC_length]; omega), List.getElem?_eq_none (by rw [calC_length]; omega), if_neg (by omega), if_neg (by omega), if_neg (by omega)]
  · by_cases h43 : j = 43
    · subst h43
      rw [if_pos rfl, if_pos (by simp only [List.length_set, calC_length]; omega), calC_t]
    · rw [if_neg (fun e => h43 e.symm)]
      by_cases h42 : j = 42
      · subst h42
        rw [if_neg (by omega), if_neg (by omega), calC_n, calC_n]
      · have hj : j = (j / 2) * 2 ∨ j = (j / 2) * 2 + 1 := by omega
        have hi : j / 2 < 21 := by omega
        generalize j / 2 = i at hj hi
        by_cases hik : i = k
        · subst hik
          rcases hj with rfl | rfl
          · rw [if_neg (by omega), if_pos rfl, if_pos (by simp only [List.length_set, calC_length]; omega), calC_even _ _ _ _ hi, rd_take _ _ _ (by omega)]
          · rw [if_pos rfl, if_pos (by simp only [List.length_set, calC_length]; omega), calC_odd _ _ _ _ hi, rd_take _ _ _ (by omega)]
        · have er : rd_T47 (l.take k) i = rd_T47 (l.take (k + 1)) i := by
            rcases Nat.lt_or_ge i k with h | h
            · rw [rd_take _ _ _ h, rd_take _ _ _ (by omega)]
            · rw [rd_past _ _ _ h, rd_past _ _ _ (by omega)]
          rcases hj with rfl | rfl
          · rw [if_neg (by omega), if_neg (by omega), calC_even _ _ _ _ hi, calC_even _ _ _ _ hi, er]
          · rw [if_neg (by omega), if_neg (by omega), calC_odd _ _ _ _ hi, calC_odd _ _ _ _ hi, er]
theorem cal_next {w : World} {g : Nat} {l : List S47} {k : Nat} {n tt t2 : Int} (hk : k < 21)
    (h : w.heap[g]? = some (.cells ((((calC (l.take k) n tt).toArray.setIfInBounds (k * 2) (.int .i64 (rd_T47 l k).f0)).setIfInBounds (k * 2 + 1) (.int .i64 (rd_T47 l k).f1)).setIfInBounds 43 (.int .i64 t2)) 52 (0, 0))) :
    CalAt w g (l.take (k + 1)) n t2 := by
  rw [calC_next l k n tt t2 hk] at h
  exact h
theorem tot_take (l : List S47) (k : Nat) (hk : k < l.length) : tot (prs (l.take (k + 1))) = tot (prs (l.take k)) + ((rd_T47 l k).f1 - (rd_T47 l k).f0) := by
  induction l generalizing k with
  | nil => simp at hk
  | cons s t ih =>
    cases k with
    | zero =>
      show s.f1 - s.f0 + 0 = 0 + (s.f1 - s.f0)
      omega
    | succ k =>
      have e : rd_T47 (s :: t) ((k + 1 : Nat) : Int) = rd_T47 t (k : Int) := by unfold rd_T47; simp
      have := ih k (by simpa using hk)
      rw [e]
      show s.f1 - s.f0 + tot (prs (t.take (k + 1))) = s.f1 - s.f0 + tot (prs (t.take k)) + _
      omega

set_option maxHeartbeats 2000000 in
theorem new_any (A : Option Addr) (c : Nat) (l : List S47) (w : World) (hr : Kd.C k47 w A l.length l) (hc : l.length ≤ c) :
    Calls Tryd.prog 15 #[.slice A l.length c] w (NewPost l w) := by
  have HR := Aside0.mk hr
  have HC := Aside0.mk hc
  clear hr hc
  by_cases h0 : l.length = 0
  · have e : newE (prs l) = 3 := by unfold newE; rw [prs_length, if_pos h0]
    have HE := Aside0.mk e
    have hz : ((l.length : Int) == 0) = true := by simp [h0]
    clear e h0
    go_enter Tryd.func15, Tryd.ntmps15
    go_wp2
    go_ret2
    exact ⟨Below.refl _ _, .inr ⟨by rw [HE.out]; decide, by rw [HE.out]; rfl⟩⟩
  have hz : ((l.length : Int) == 0) = false := by simp; intro h; exact h0 (by simp [h])
  by_cases h1 : 21 < l.length
  · have e : newE (prs l) = 4 := by unfold newE; rw [prs_length, if_neg h0, if_pos h1]
    have HE := Aside0.mk e
    clear e h0
    go_enter Tryd.func15, Tryd.ntmps15
    go_wp2
    go_ret2
    exact ⟨Below.refl _ _, .inr ⟨by rw [HE.out]; decide, by rw [HE.out]; rfl⟩⟩
  have HE : Aside0 (newE (prs l) = chk 0 (prs (l.drop 0))) := ⟨by unfold newE; rw [prs_length, if_neg h0, if_neg h1]; rfl⟩
  have H0 := Aside0.mk h0
  clear h0
  go_enter Tryd.func15, Tryd.ntmps15
  go_wp2
  go_loopw [19] (fun i wr => ∃ (k : Nat) (tt : Int), k ≤ l.length ∧ i = .int .i64 k ∧ 0 ≤ tt ∧ tt ≤ (k : Int) * 10080 ∧ Aside0 (tt = tot (prs (l.take k))) ∧ Aside0 (CalAt wr w.heap.size (l.take k) l.length tt) ∧ Aside0 (chk (lastOf l k) (prs (l.drop k)) = newE (prs l)) ∧ Aside0 (Below w.heap.size w wr) ∧ w.heap.size < wr.heap.size) (fun i _ => l.length - (intOf i).toNat)
  case atStart => exact ⟨0, 0, Nat.zero_le _, rfl, by omega, by omega, ⟨rfl⟩, ⟨heap_alloc_new w _⟩, ⟨HE.out.symm⟩, ⟨(Below.refl _ _).alloc (Nat.le_refl _) _⟩, by simp⟩
  case round =>
    obtain ⟨k, tt, hk, rfl, ht0, ht1, HT, HCAL, HK, HB, hsz⟩ := hrel
    by_cases hlt : k < l.length
    · obtain ⟨ad, e, hx0, hx1⟩ := at_T47 HR.out k (by omega) (by omega)
      cases e
      rw [Int.toNat_natCast] at hx0 hx1
      replace hx0 := (HB.out.cell (World.block_lt_of_cell? w _ hx0)).trans hx0
      replace hx1 := (HB.out.cell (World.block_lt_of_cell? w _ hx1)).trans hx1
      obtain ⟨f0, hf0⟩ : ∃ x, (rd_T47 l k).f0 = x := ⟨_, rfl⟩
      obtain ⟨f1, hf1⟩ : ∃ x, (rd_T47 l k).f1 = x := ⟨_, rfl⟩
      rw [hf0] at hx0
      rw [hf1] at hx1
      have F0 := Aside0.mk hf0
      have F1 := Aside0.mk hf1
      have cr := chk_range l k (lastOf l k) hlt
      have co := chk_order l k (lastOf l k) hlt
      have cn := chk_on l k (lastOf l k) hlt
      have tk := tot_take l k hlt
      have nx : ∀ {W : World} {g : Nat} {n tt t2 : Int}, k < 21 → W.heap[g]? = some (.cells ((((calC (l.take k) n tt).toArray.setIfInBounds (k * 2) (.int .i64 f0)).setIfInBounds (k * 2 + 1) (.int .i64 f1)).setIfInBounds 43 (.int .i64 t2)) 52 (0, 0)) → CalAt W g (l.take (k + 1)) n t2 := by
        intro W g n tt t2 h1 h2
        rw [← hf0, ← hf1] at h2
        exact cal_next h1 h2
      rw [hf0, hf1] at cr co cn tk
      have CR := Aside0.mk cr
      have CO := Aside0.mk co
      have CN := Aside0.mk cn
      have TK := Aside0.mk tk
      have NX := Aside0.mk (@nx)
      clear cr co cn tk nx hf0 hf1
      by_cases b1 : f0 < 0
      · have hy := Aside0.mk (HK.out.symm.trans (CR.out (.inl b1)))
        go_wp2
        go_ret2
        exact ⟨by repeat (first | (with_reducible first | exact HB.out | apply below_alloc | apply pw_below_drewN | apply below_drew1) | exact HB.out), .inr ⟨by rw [hy.out]; decide, by rw [hy.out]; rfl⟩⟩
      · by_cases b2 : f1 ≤ f0
        · have hy := Aside0.mk (HK.out.symm.trans (CR.out (.inr (.inl b2))))
          go_wp2
          go_ret2
          exact ⟨by repeat (first | (with_reducible first | exact HB.out | apply below_alloc | apply pw_below_drewN | apply below_drew1) | exact HB.out), .inr ⟨by rw [hy.out]; decide, by rw [hy.out]; rfl⟩⟩
        · by_cases b3 : 10080 < f1
          · have hy := Aside0.mk (HK.out.symm.trans (CR.out (.inr (.inr b3))))
            go_wp2
            go_ret2
            exact ⟨by repeat (first | (with_reducible first | exact HB.out | apply below_alloc | apply pw_below_drewN | apply below_drew1) | exact HB.out), .inr ⟨by rw [hy.out]; decide, by rw [hy.out]; rfl⟩⟩
          · have hnr : ¬ (f0 < 0 ∨ f1 ≤ f0 ∨ 10080 < f1) := by omega
            have HNR := Aside0.mk hnr
            clear hnr
            have cc := HCAL.out.total
            have cf := HCAL.out.free
            by_cases hk0 : k = 0
            · have hd : decide (0 < (k : Int)) = false := by simp [hk0]
              have hd2 : decide (0 < k) = false := by simp [hk0]
              have HY : Aside0 (chk (lastOf l (k + 1)) (prs (l.drop (k + 1))) = newE (prs l)) := ⟨by
                have e : lastOf l (k + 1) = f1 := by rw [← F1.out]; unfold lastOf; simp
                rw [e, ← HK.out]
                refine (CN.out HNR.out ?_).symm
                unfold lastOf
                rw [if_pos hk0]
                omega⟩
              clear hk0
              go_wp2_with fail
              go_quiet (fail)
              go_wp2_with fail
              have hk21 : k < 21 := by omega
              have cA := HCAL.out.from k hk21
              have cB := HCAL.out.till k hk21
              go_region
              have hU1 : f1 - f0 ≤ 10080 := by omega
              have hU0 : 0 ≤ f1 - f0 := by omega
              have ht2 : tt + (f1 - f0) ≤ 1000000 := by omega
              go_wp2_with fail
              go_region
              go_wp2_with fail
              go_roundw
              case rel => exact ⟨k + 1, tt + (f1 - f0), by omega, by go_num, by omega, by push_cast; omega, ⟨by rw [TK.out, HT.out]⟩, ⟨NX.out hk21 (by repeat (first | exact HCAL.out | with_reducible apply row_drew | with_reducible apply row_drewN | with_reducible apply row_set | with_reducible apply row_alloc))⟩, ⟨HY.out⟩, ⟨by repeat (first | (with_reducible first | exact HB.out | apply below_alloc | apply pw_below_drewN | exact HB.out | apply below_drew1) | refine below_set ?_ (Nat.le_refl _))⟩, by simp; omega⟩
              case measure => simp [intOf]; omega
            · obtain ⟨j, rfl⟩ : ∃ j, k = j + 1 := ⟨k - 1, by omega⟩
              have hd : decide (0 < ((j + 1 : Nat) : Int)) = true := by simp
              have hd2 : decide (0 < j + 1) = true := by simp
              have hd3 : decide (0 < (j : Int) + 1) = true := by simp
              have hj : j < l.length := by omega
              obtain ⟨ad2, e2, hy0, hy1⟩ := at_T47 HR.out (j : Int) (by omega) (by omega)
              obtain rfl : ad = ad2 := by injection e2
              rw [Int.toNat_natCast] at hy0 hy1
              replace hy0 := (HB.out.cell (World.block_lt_of_cell? w _ hy0)).trans hy0
              replace hy1 := (HB.out.cell (World.block_lt_of_cell? w _ hy1)).trans hy1
              have hz1 : ∀ o : Obj, (wr.alloc o).cell? ⟨(ad.add (j * 2)).block, (ad.add (j * 2)).off + 1, none⟩ = some (.int .i64 (rd_T47 l j).f1) := fun o => (World.cell?_alloc_lt wr o _ (World.block_lt_of_cell? wr _ hy1)).trans hy1
              have el : lastOf l (j + 1) = (rd_T47 l j).f1 := by unfold lastOf; simp
              have EL := Aside0.mk el
              clear el e2
              have HY : ¬ f0 < (rd_T47 l (j : Int)).f1 → Aside0 (chk (lastOf l (j + 1 + 1)) (prs (l.drop (j + 1 + 1))) = newE (prs l)) := fun b4 => ⟨by
                have e : lastOf l (j + 1 + 1) = f1 := by rw [← F1.out]; unfold lastOf; simp
                rw [e, ← HK.out]
                exact (CN.out HNR.out (by rw [EL.out]; exact b4)).symm⟩
              have hy4 : f0 < (rd_T47 l (j : Int)).f1 → Aside0 (newE (prs l) = 11) := fun b4 => ⟨HK.out.symm.trans (CO.out HNR.out (by rw [EL.out]; exact b4))⟩
              by_cases b4 : f0 < (rd_T47 l (j : Int)).f1
              · have hy := hy4 b4
                clear hy4 HY
                have hw := IntWalk.i64_in (j : Int) (by omega)
                go_wp2_with fail
                go_quiet (fail)
                clear hw
                go_wp2_with fail
                go_ret2
                exact ⟨by repeat (first | (with_reducible first | exact HB.out | apply below_alloc | apply pw_below_drewN | apply below_drew1) | exact HB.out), .inr ⟨by rw [hy.out]; decide, by rw [hy.out]; rfl⟩⟩
              · have hy := HY b4
                clear hy4 HY
                have hw := IntWalk.i64_in (j : Int) (by omega)
                go_wp2_with fail
                go_quiet (fail)
                clear hw
                go_wp2_with fail
                have hk21 : j + 1 < 21 := by omega
                have cA := HCAL.out.from (j + 1) hk21
                have cB := HCAL.out.till (j + 1) hk21
                go_region
                have hU1 : f1 - f0 ≤ 10080 := by omega
                have hU0 : 0 ≤ f1 - f0 := by omega
                have ht2 : tt + (f1 - f0) ≤ 1000000 := by omega
                go_wp2_with fail
                go_region
                go_wp2_with fail
                go_roundw
                case rel => exact ⟨j + 1 + 1, tt + (f1 - f0), by omega, by go_num, by omega, by push_cast at ht1 ⊢; omega, ⟨by rw [TK.out, HT.out]⟩, ⟨NX.out hk21 (by repeat (first | exact HCAL.out | with_reducible apply row_drew | with_reducible apply row_drewN | with_reducible apply row_set | with_reducible apply row_alloc))⟩, ⟨hy.out⟩, ⟨by repeat (first | (with_reducible first | exact HB.out | apply below_alloc | apply pw_below_drewN | exact HB.out | apply below_drew1) | refine below_set ?_ (Nat.le_refl _))⟩, by simp; omega⟩
                case measure => simp [intOf]; omega
    · have e : chk (lastOf l k) (prs (l.drop k)) = 0 := chk_end l k _ (by omega)
      have hz0 : newE (prs l) = 0 := HK.out.symm.trans e
      have HZ := Aside0.mk hz0
      have hkl : k = l.length := by omega
      have HKL := Aside0.mk hkl
      clear e hz0 hkl
      go_wp2
      go_ret2
      refine ⟨HB.out, .inl ⟨HZ.out, w.heap.size, rfl, Nat.le_refl _, ?_⟩⟩
      have hc := HCAL.out
      rw [HKL.out, List.take_length] at hc
      have ht := HT.out
      rw [HKL.out, List.take_length] at ht
      rw [ht] at hc
      have hv := newE_val HZ.out
      exact ⟨hc, hv.1, by rw [← prs_length]; exact hv.2.1, by rw [← prs_length]; exact hv.2.2⟩
end Go.Proofs.YthdkfgpcdghblaaDoor.Cal
