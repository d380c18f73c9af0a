/-
  The lexer's first: the lexeme with which a string begins, or an error. For strings of one to a million bytes.
-/
import Derived.Test.YtmnbbhieodcoeaaDoorLex1
namespace Go.Proofs.YtmnbbhieodcoeaaDoor.Rt
open Go.RowKit Go.Proofs.YtmnbbhieodcoeaaDoorW.PrintWords Go.Proofs.YtmnbbhieodcoeaaDoorW.PrintLast Go.Proofs.YtmnbbhieodcoeaaDoorW.PrintMore
open Go.Proofs.YtmnbbhieodcoeaaDoor.PBase
set_option linter.unusedVariables false
set_option linter.unusedSimpArgs false

def isMk (s : ByteArray) : Bool := (lexer_IsMark.f s).getD false
theorem isMk_f (s : ByteArray) : lexer_IsMark.f s = some (isMk s) := by
  unfold isMk
  have st : ∀ (c : Prop) [Decidable c] (x : Option Bool), (∃ b, x = some b) → ∃ b, (if c then some true else x) = some b := by
    intro c _ x h
    by_cases hc : c
    · exact ⟨true, if_pos hc⟩
    · rw [if_neg hc]; exact h
  have h : ∃ b, lexer_IsMark.f s = some b := by
    unfold lexer_IsMark.f
    repeat (first | exact ⟨_, rfl⟩ | refine st _ _ ?_)
  obtain ⟨b, hb⟩ := h
  rw [hb]
  rfl
theorem k66 (s : ByteArray) (w : World) : Calls Tryd.prog 66 #[.string s] w fun e w' => e = .returned (.bool (isMk s)) ∧ Drawn0 w w' := lexer_IsMark.calls s _ w (isMk_f s)
/-- The mark of n bytes or less that a string begins with. -/
def mkl (s : ByteArray) : Nat → Int × ByteArray × Int
  | 0 => (0, ⟨#[]⟩, 5)
  | n + 1 => if isMk (s.extract 0 (n + 1)) = true then (3, s.extract 0 (n + 1), 0) else mkl s n
def lexeme_first.f (k : Nat) (s : ByteArray) : Option (Int × ByteArray × Int × Int × Int) :=
  if s.size ≤ 1000000 ∧ 1 ≤ s.size then
    if isDig (bt s 0) = true then lexer_number.f k (s.extract 0 (runl isDig s s.size 0))
    else if isWrd (bt s 0) = true then (if runl isWrd s s.size 0 ≤ 16 then some (1, s.extract 0 (runl isWrd s s.size 0), 0, 0, 0) else some (0, ⟨#[]⟩, 0, 0, 6))
    else some ((mkl s (min 2 s.size)).1, (mkl s (min 2 s.size)).2.1, 0, 0, (mkl s (min 2 s.size)).2.2)
  else none
set_option maxHeartbeats 1000000 in
set_option maxRecDepth 100000 in
theorem first_wrd (s : ByteArray) (hs : s.size ≤ 1000000) (h1 : 1 ≤ s.size) (hd : isDig (bt s 0) = false) (hw : isWrd (bt s 0) = true) (hm : runl isWrd s s.size 0 ≤ 16) (w : World) :
    Calls Tryd.prog 41 #[.string s] w fun e w' => e = .returned (.tuple #[.agg #[.int .i64 1, .string (s.extract 0 (runl isWrd s s.size 0)), .int .i64 0, .int .i64 0], .int .i64 0]) ∧ Below w.heap.size w w' := by
  have h0 : 0 < s.size := h1
  have e : ((s[0]'h0).toNat : Int) = bt s 0 := bt_at s 0 h0
  have hb0 := (bt_range s 0).1
  have hb1 := (bt_range s 0).2
  generalize bt s 0 = c at *
  have HE := Aside0.mk (show wrap32 ((s[0]'h0).toNat : Int) = c by rw [e]; unfold wrap32; omega)
  clear e
  have hr := runl_le isWrd s s.size 0
  have HL := Aside0.mk (length_65 s hs)
  generalize runl isWrd s s.size 0 = m at *
  have hm1 : m ≤ s.size := by omega
  have hm2 : decide ((16 : Int) < (m : Int)) = false := by simp; omega
  clear hr
  go_enter Tryd.func41, Tryd.ntmps41
  go_wp2_with fail
  rw [HE.out]
  refine (k63 c _).mono ?_
  rintro _ _ ⟨rfl, ⟨n1, rfl⟩⟩
  rw [hd]
  go_wp2_with fail
  rw [HE.out]
  refine (k65 c _).mono ?_
  rintro _ _ ⟨rfl, ⟨n2, rfl⟩⟩
  rw [hw]
  go_wp2_with fail
  refine (HL.out _).mono ?_
  rintro _ _ ⟨rfl, ⟨n3, rfl⟩⟩
  go_wp2_with fail
  refine bodyPost_ret (results_ct rfl _ _ w.heap.size 48 #[.int .i64 1, .string (s.extract 0 m), .int .i64 0, .int .i64 0] (0, 0) _ rfl (by (with_reducible repeat (first | refine blk_drewN ?_ _ | refine blk_drew ?_)); refine blk_put (cs := #[.int .i64 1, .string (s.extract 0 m), .int .i64 0, .int .i64 0]) ?_ 3 _ rfl; (with_reducible repeat (first | refine blk_drewN ?_ _ | refine blk_drew ?_)); refine blk_put (cs := #[.int .i64 1, .string (s.extract 0 m), .int .i64 0, .int .i64 0]) ?_ 2 _ rfl; (with_reducible repeat (first | refine blk_drewN ?_ _ | refine blk_drew ?_)); refine blk_put (cs := #[.int .i64 1, .string (⟨#[]⟩ : ByteArray), .int .i64 0, .int .i64 0]) ?_ 1 _ rfl; (with_reducible repeat (first | refine blk_drewN ?_ _ | refine blk_drew ?_)); refine blk_put (cs := #[.int .i64 0, .string (⟨#[]⟩ : ByteArray), .int .i64 0, .int .i64 0]) ?_ 0 _ rfl; (with_reducible repeat (first | refine blk_drewN ?_ _ | refine blk_drew ?_)); exact blk_new w _) Tryd.underlying48 rfl (by kernel_rfl)) rfl ?_
  exact ⟨rfl, by repeat (first | (with_reducible first | apply below_alloc | apply pw_below_drewN | apply below_drew1 | refine below_set ?_ (Nat.le_refl _)) | exact Below.refl _ _)⟩
set_option maxHeartbeats 1000000 in
set_option maxRecDepth 100000 in
theorem first_long (s : ByteArray) (hs : s.size ≤ 1000000) (h1 : 1 ≤ s.size) (hd : isDig (bt s 0) = false) (hw : isWrd (bt s 0) = true) (hm : ¬ runl isWrd s s.size 0 ≤ 16) (w : World) :
    Calls Tryd.prog 41 #[.string s] w fun e w' => e = .returned (.tuple #[.agg #[.int .i64 0, .string (⟨#[]⟩ : ByteArray), .int .i64 0, .int .i64 0], .int .i64 6]) ∧ Below w.heap.size w w' := by
  have h0 : 0 < s.size := h1
  have e : ((s[0]'h0).toNat : Int) = bt s 0 := bt_at s 0 h0
  have hb0 := (bt_range s 0).1
  have hb1 := (bt_range s 0).2
  generalize bt s 0 = c at *
  have HE := Aside0.mk (show wrap32 ((s[0]'h0).toNat : Int) = c by rw [e]; unfold wrap32; omega)
  clear e
  have hr := runl_le isWrd s s.size 0
  have HL := Aside0.mk (length_65 s hs)
  generalize runl isWrd s s.size 0 = m at *
  have hm1 : m ≤ s.size := by omega
  have hm2 : decide ((16 : Int) < (m : Int)) = true := by simp; omega
  clear hr
  go_enter Tryd.func41, Tryd.ntmps41
  go_wp2_with fail
  rw [HE.out]
  refine (k63 c _).mono ?_
  rintro _ _ ⟨rfl, ⟨n1, rfl⟩⟩
  rw [hd]
  go_wp2_with fail
  rw [HE.out]
  refine (k65 c _).mono ?_
  rintro _ _ ⟨rfl, ⟨n2, rfl⟩⟩
  rw [hw]
  go_wp2_with fail
  refine (HL.out _).mono ?_
  rintro _ _ ⟨rfl, ⟨n3, rfl⟩⟩
  go_wp2_with fail
  refine bodyPost_ret (results_ct rfl _ _ w.heap.size 48 #[.int .i64 0, .string (⟨#[]⟩ : ByteArray), .int .i64 0, .int .i64 0] (0, 0) _ rfl (by (with_reducible repeat (first | refine blk_drewN ?_ _ | refine blk_drew ?_)); refine blk_put (cs := #[.int .i64 0, .string (⟨#[]⟩ : ByteArray), .int .i64 0, .int .i64 0]) ?_ 3 _ rfl; (with_reducible repeat (first | refine blk_drewN ?_ _ | refine blk_drew ?_)); refine blk_put (cs := #[.int .i64 0, .string (⟨#[]⟩ : ByteArray), .int .i64 0, .int .i64 0]) ?_ 2 _ rfl; (with_reducible repeat (first | refine blk_drewN ?_ _ | refine blk_drew ?_)); refine blk_put (cs := #[.int .i64 0, .string (⟨#[]⟩ : ByteArray), .int .i64 0, .int .i64 0]) ?_ 1 _ rfl; (with_reducible repeat (first | refine blk_drewN ?_ _ | refine blk_drew ?_)); refine blk_put (cs := #[.int .i64 0, .string (⟨#[]⟩ : ByteArray), .int .i64 0, .int .i64 0]) ?_ 0 _ rfl; (with_reducible repeat (first | refine blk_drewN ?_ _ | refine blk_drew ?_)); exact blk_new w _) Tryd.underlying48 rfl (by kernel_rfl)) rfl ?_
  exact ⟨rfl, by repeat (first | (with_reducible first | apply below_alloc | apply pw_below_drewN | apply below_drew1 | refine below_set ?_ (Nat.le_refl _)) | exact Below.refl _ _)⟩
set_option maxHeartbeats 1000000 in
set_option maxRecDepth 100000 in
theorem first_dig (s : ByteArray) (hs : s.size ≤ 1000000) (h1 : 1 ≤ s.size) (hd : isDig (bt s 0) = true) (k : Nat) (r1 : Int) (r2 : ByteArray) (r3 r4 r5 : Int) (hn : lexer_number.f k (s.extract 0 (runl isDig s s.size 0)) = some (r1, r2, r3, r4, r5)) (w : World) :
    Calls Tryd.prog 41 #[.string s] w fun e w' => e = .returned (.tuple #[.agg #[.int .i64 r1, .string r2, .int .i64 r3, .int .i64 r4], .int .i64 r5]) ∧ Below w.heap.size w w' := by
  have h0 : 0 < s.size := h1
  have e : ((s[0]'h0).toNat : Int) = bt s 0 := bt_at s 0 h0
  have hb0 := (bt_range s 0).1
  have hb1 := (bt_range s 0).2
  generalize bt s 0 = c at *
  have HE := Aside0.mk (show wrap32 ((s[0]'h0).toNat : Int) = c by rw [e]; unfold wrap32; omega)
  clear e
  have hr := runl_le isDig s s.size 0
  have HL := Aside0.mk (length_63 s hs)
  generalize runl isDig s s.size 0 = m at *
  have hm1 : m ≤ s.size := by omega
  have HN := Aside0.mk (fun w => lexer_number.calls k _ r1 r2 r3 r4 r5 w hn)
  clear hr hn
  go_enter Tryd.func41, Tryd.ntmps41
  go_wp2_with fail
  rw [HE.out]
  refine (k63 c _).mono ?_
  rintro _ _ ⟨rfl, ⟨n1, rfl⟩⟩
  rw [hd]
  go_wp2_with fail
  refine (HL.out _).mono ?_
  rintro _ _ ⟨rfl, ⟨n3, rfl⟩⟩
  go_wp2_with fail
  refine (HN.out _).mono ?_
  rintro _ w4 ⟨rfl, hb4⟩
  have BK : w4.heap[w.heap.size]? = some (.cells #[.int .i64 0, .string (⟨#[]⟩ : ByteArray), .int .i64 0, .int .i64 0] 48 (0, 0)) := blk_below (by (with_reducible repeat (first | refine blk_drewN ?_ _ | refine blk_drew ?_)); exact blk_new w _) hb4
  have B4 := Aside0.mk (below_step (by repeat (first | (with_reducible first | apply below_alloc | apply pw_below_drewN | apply below_drew1 | refine below_set ?_ (Nat.le_refl _)) | exact Below.refl _ _)) hb4)
  clear hb4
  have q0 := (blk_cell BK 0).trans rfl
  have q1 := (blk_cell BK 1).trans rfl
  have q2 := (blk_cell BK 2).trans rfl
  have q3 := (blk_cell BK 3).trans rfl
  have f0 := blk_frozen BK 0
  have f1 := blk_frozen BK 1
  have f2 := blk_frozen BK 2
  have f3 := blk_frozen BK 3
  have BK' := Aside0.mk BK
  clear BK
  go_wp2_with fail
  refine bodyPost_ret (results_ct rfl _ _ w.heap.size 48 #[.int .i64 r1, .string r2, .int .i64 r3, .int .i64 r4] (0, 0) _ rfl (by (with_reducible repeat (first | refine blk_drewN ?_ _ | refine blk_drew ?_)); refine blk_put (cs := #[.int .i64 r1, .string r2, .int .i64 r3, .int .i64 0]) ?_ 3 _ rfl; (with_reducible repeat (first | refine blk_drewN ?_ _ | refine blk_drew ?_)); refine blk_put (cs := #[.int .i64 r1, .string r2, .int .i64 0, .int .i64 0]) ?_ 2 _ rfl; (with_reducible repeat (first | refine blk_drewN ?_ _ | refine blk_drew ?_)); refine blk_put (cs := #[.int .i64 r1, .string (⟨#[]⟩ : ByteArray), .int .i64 0, .int .i64 0]) ?_ 1 _ rfl; (with_reducible repeat (first | refine blk_drewN ?_ _ | refine blk_drew ?_)); refine blk_put (cs := #[.int .i64 0, .string (⟨#[]⟩ : ByteArray), .int .i64 0, .int .i64 0]) ?_ 0 _ rfl; (with_reducible repeat (first | refine blk_drewN ?_ _ | refine blk_drew ?_)); exact BK'.out) Tryd.underlying48 rfl (by kernel_rfl)) rfl ?_
  exact ⟨rfl, by repeat (first | (with_reducible first | apply below_alloc | apply pw_below_drewN | apply below_drew1 | refine below_set ?_ (Nat.le_refl _)) | exact B4.out)⟩
set_option maxHeartbeats 1000000 in
set_option maxRecDepth 100000 in
theorem first_mark_two (s : ByteArray) (hs : s.size ≤ 1000000) (h1 : 1 ≤ s.size) (hz : (2 : Int) ≤ (s.size : Int)) (hd : isDig (bt s 0) = false) (hw : isWrd (bt s 0) = false) (x : Int) (y : ByteArray) (z : Int) (hR : mkl s 2 = (x, y, z)) (w : World) :
    Calls Tryd.prog 41 #[.string s] w fun e w' => e = .returned (.tuple #[.agg #[.int .i64 x, .string y, .int .i64 0, .int .i64 0], .int .i64 z]) ∧ Below w.heap.size w w' := by
  have h0 : 0 < s.size := h1
  have e : ((s[0]'h0).toNat : Int) = bt s 0 := bt_at s 0 h0
  have hb0 := (bt_range s 0).1
  have hb1 := (bt_range s 0).2
  generalize bt s 0 = c at *
  have HE := Aside0.mk (show wrap32 ((s[0]'h0).toNat : Int) = c by rw [e]; unfold wrap32; omega)
  clear e
  have HR := Aside0.mk hR
  clear hR
  go_enter Tryd.func41, Tryd.ntmps41
  go_wp2_with fail
  rw [HE.out]
  refine (k63 c _).mono ?_
  rintro _ _ ⟨rfl, ⟨n1, rfl⟩⟩
  rw [hd]
  go_wp2_with fail
  rw [HE.out]
  refine (k65 c _).mono ?_
  rintro _ _ ⟨rfl, ⟨n2, rfl⟩⟩
  rw [hw]
  go_wp2_with fail
  go_loopw [5] (fun n wr => ∃ j : Nat, j ≤ 2 ∧ j ≤ s.size ∧ n = .int .i64 j ∧ Aside0 (mkl s j = (x, y, z)) ∧ Aside0 (∃ q, wr = (w.alloc (.cells #[.int .i64 0, .string (⟨#[]⟩ : ByteArray), .int .i64 0, .int .i64 0] 48 (0, 0))).drewN q)) (fun n _ => (intOf n).toNat)
  case atStart => exact ⟨2, by omega, by omega, rfl, HR, ⟨_, rfl⟩⟩
  case round =>
    obtain ⟨j, hj2, hjs, rfl, HJ, HQ⟩ := hrel
    obtain ⟨q, rfl⟩ := HQ.out
    clear HQ
    by_cases hj : 0 < j
    · have HS := HJ.out
      rw [show j = (j - 1) + 1 by omega, mkl, show (j - 1) + 1 = j by omega] at HS
      clear HJ
      obtain ⟨b, hb⟩ : ∃ b, isMk (s.extract 0 j) = b := ⟨_, rfl⟩
      rw [hb] at HS
      have HB := Aside0.mk hb
      have HS := Aside0.mk HS
      clear hb
      go_wp2_with fail
      refine (k66 _ _).mono ?_
      rintro _ _ ⟨rfl, ⟨n4, rfl⟩⟩
      rw [HB.out]
      cases b with
      | true =>
        have hS := HS.out
        rw [if_pos rfl] at hS
        simp only [Prod.mk.injEq] at hS
        obtain ⟨rfl, rfl, rfl⟩ := hS
        go_wp2_with fail
        refine bodyPost_ret (results_ct rfl _ _ w.heap.size 48 #[.int .i64 3, .string (s.extract 0 j), .int .i64 0, .int .i64 0] (0, 0) _ rfl (by (with_reducible repeat (first | refine blk_drewN ?_ _ | refine blk_drew ?_)); refine blk_put (cs := #[.int .i64 3, .string (s.extract 0 j), .int .i64 0, .int .i64 0]) ?_ 3 _ rfl; (with_reducible repeat (first | refine blk_drewN ?_ _ | refine blk_drew ?_)); refine blk_put (cs := #[.int .i64 3, .string (s.extract 0 j), .int .i64 0, .int .i64 0]) ?_ 2 _ rfl; (with_reducible repeat (first | refine blk_drewN ?_ _ | refine blk_drew ?_)); refine blk_put (cs := #[.int .i64 3, .string (⟨#[]⟩ : ByteArray), .int .i64 0, .int .i64 0]) ?_ 1 _ rfl; (with_reducible repeat (first | refine blk_drewN ?_ _ | refine blk_drew ?_)); refine blk_put (cs := #[.int .i64 0, .string (⟨#[]⟩ : ByteArray), .int .i64 0, .int .i64 0]) ?_ 0 _ rfl; (with_reducible repeat (first | refine blk_drewN ?_ _ | refine blk_drew ?_)); exact blk_new w _) Tryd.underlying48 rfl (by kernel_rfl)) rfl ?_
        exact ⟨rfl, by repeat (first | (with_reducible first | apply below_alloc | apply pw_below_drewN | apply below_drew1 | refine below_set ?_ (Nat.le_refl _)) | exact Below.refl _ _)⟩
      | false =>
        have HK := HS.out
        rw [if_neg (by decide)] at HK
        have HK := Aside0.mk HK
        go_wp2_with fail
        exact ⟨⟨j - 1, by omega, by omega, by congr 1; omega, HK, ⟨_, rfl⟩⟩, by simp [intOf]; omega⟩
    · have hz0 : j = 0 := by omega
      subst hz0
      have hS := HJ.out
      rw [mkl] at hS
      simp only [Prod.mk.injEq] at hS
      obtain ⟨rfl, rfl, rfl⟩ := hS
      go_wp2_with fail
      refine bodyPost_ret (results_ct rfl _ _ w.heap.size 48 #[.int .i64 0, .string (⟨#[]⟩ : ByteArray), .int .i64 0, .int .i64 0] (0, 0) _ rfl (by (with_reducible repeat (first | refine blk_drewN ?_ _ | refine blk_drew ?_)); refine blk_put (cs := #[.int .i64 0, .string (⟨#[]⟩ : ByteArray), .int .i64 0, .int .i64 0]) ?_ 3 _ rfl; (with_reducible repeat (first | refine blk_drewN ?_ _ | refine blk_drew ?_)); refine blk_put (cs := #[.int .i64 0, .string (⟨#[]⟩ : ByteArray), .int .i64 0, .int .i64 0]) ?_ 2 _ rfl; (with_reducible repeat (first | refine blk_drewN ?_ _ | refine blk_drew ?_)); refine blk_put (cs := #[.int .i64 0, .string (⟨#[]⟩ : ByteArray), .int .i64 0, .int .i64 0]) ?_ 1 _ rfl; (with_reducible repeat (first | refine blk_drewN ?_ _ | refine blk_drew ?_)); refine blk_put (cs := #[.int .i64 0, .string (⟨#[]⟩ : ByteArray), .int .i64 0, .int .i64 0]) ?_ 0 _ rfl; (with_reducible repeat (first | refine blk_drewN ?_ _ | refine blk_drew ?_)); exact blk_new w _) Tryd.underlying48 rfl (by kernel_rfl)) rfl ?_
      exact ⟨rfl, by repeat (first | (with_reducible first | apply below_alloc | apply pw_below_drewN | apply below_drew1 | refine below_set ?_ (Nat.le_refl _)) | exact Below.refl _ _)⟩
set_option maxHeartbeats 1000000 in
set_option maxRecDepth 100000 in
theorem first_mark_one (s : ByteArray) (hs : s.size ≤ 1000000) (h1 : 1 ≤ s.size) (hz : ¬ (2 : Int) ≤ (s.size : Int)) (hd : isDig (bt s 0) = false) (hw : isWrd (bt s 0) = false) (x : Int) (y : ByteArray) (z : Int) (hR : mkl s s.size = (x, y, z)) (w : World) :
    Calls Tryd.prog 41 #[.string s] w fun e w' => e = .returned (.tuple #[.agg #[.int .i64 x, .string y, .int .i64 0, .int .i64 0], .int .i64 z]) ∧ Below w.heap.size w w' := by
  have h0 : 0 < s.size := h1
  have e : ((s[0]'h0).toNat : Int) = bt s 0 := bt_at s 0 h0
  have hb0 := (bt_range s 0).1
  have hb1 := (bt_range s 0).2
  generalize bt s 0 = c at *
  have HE := Aside0.mk (show wrap32 ((s[0]'h0).toNat : Int) = c by rw [e]; unfold wrap32; omega)
  clear e
  have HR := Aside0.mk hR
  clear hR
  go_enter Tryd.func41, Tryd.ntmps41
  go_wp2_with fail
  rw [HE.out]
  refine (k63 c _).mono ?_
  rintro _ _ ⟨rfl, ⟨n1, rfl⟩⟩
  rw [hd]
  go_wp2_with fail
  rw [HE.out]
  refine (k65 c _).mono ?_
  rintro _ _ ⟨rfl, ⟨n2, rfl⟩⟩
  rw [hw]
  go_wp2_with fail
  go_loopw [5] (fun n wr => ∃ j : Nat, j ≤ 2 ∧ j ≤ s.size ∧ n = .int .i64 j ∧ Aside0 (mkl s j = (x, y, z)) ∧ Aside0 (∃ q, wr = (w.alloc (.cells #[.int .i64 0, .string (⟨#[]⟩ : ByteArray), .int .i64 0, .int .i64 0] 48 (0, 0))).drewN q)) (fun n _ => (intOf n).toNat)
  case atStart => exact ⟨s.size, by omega, by omega, rfl, HR, ⟨_, rfl⟩⟩
  case round =>
    obtain ⟨j, hj2, hjs, rfl, HJ, HQ⟩ := hrel
    obtain ⟨q, rfl⟩ := HQ.out
    clear HQ
    by_cases hj : 0 < j
    · have HS := HJ.out
      rw [show j = (j - 1) + 1 by omega, mkl, show (j - 1) + 1 = j by omega] at HS
      clear HJ
      obtain ⟨b, hb⟩ : ∃ b, isMk (s.extract 0 j) = b := ⟨_, rfl⟩
      rw [hb] at HS
      have HB := Aside0.mk hb
      have HS := Aside0.mk HS
      clear hb
      go_wp2_with fail
      refine (k66 _ _).mono ?_
      rintro _ _ ⟨rfl, ⟨n4, rfl⟩⟩
      rw [HB.out]
      cases b with
      | true =>
        have hS := HS.out
        rw [if_pos rfl] at hS
        simp only [Prod.mk.injEq] at hS
        obtain ⟨rfl, rfl, rfl⟩ := hS
        go_wp2_with fail
        refine bodyPost_ret (results_ct rfl _ _ w.heap.size 48 #[.int .i64 3, .string (s.extract 0 j), .int .i64 0, .int .i64 0] (0, 0) _ rfl (by (with_reducible repeat (first | refine blk_drewN ?_ _ | refine blk_drew ?_)); refine blk_put (cs := #[.int .i64 3, .string (s.extract 0 j), .int .i64 0, .int .i64 0]) ?_ 3 _ rfl; (with_reducible repeat (first | refine blk_drewN ?_ _ | refine blk_drew ?_)); refine blk_put (cs := #[.int .i64 3, .string (s.extract 0 j), .int .i64 0, .int .i64 0]) ?_ 2 _ rfl; (with_reducible repeat (first | refine blk_drewN ?_ _ | refine blk_drew ?_)); refine blk_put (cs := #[.int .i64 3, .string (⟨#[]⟩ : ByteArray), .int .i64 0, .int .i64 0]) ?_ 1 _ rfl; (with_reducible repeat (first | refine blk_drewN ?_ _ | refine blk_drew ?_)); refine blk_put (cs := #[.int .i64 0, .string (⟨#[]⟩ : ByteArray), .int .i64 0, .int .i64 0]) ?_ 0 _ rfl; (with_reducible repeat (first | refine blk_drewN ?_ _ | refine blk_drew ?_)); exact blk_new w _) Tryd.underlying48 rfl (by kernel_rfl)) rfl ?_
        exact ⟨rfl, by repeat (first | (with_reducible first | apply below_alloc | apply pw_below_drewN | apply below_drew1 | refine below_set ?_ (Nat.le_refl _)) | exact Below.refl _ _)⟩
      | false =>
        have HK := HS.out
        rw [if_neg (by decide)] at HK
        have HK := Aside0.mk HK
        go_wp2_with fail
        exact ⟨⟨j - 1, by omega, by omega, by congr 1; omega, HK, ⟨_, rfl⟩⟩, by simp [intOf]; omega⟩
    · have hz0 : j = 0 := by omega
      subst hz0
      have hS := HJ.out
      rw [mkl] at hS
      simp only [Prod.mk.injEq] at hS
      obtain ⟨rfl, rfl, rfl⟩ := hS
      go_wp2_with fail
      refine bodyPost_ret (results_ct rfl _ _ w.heap.size 48 #[.int .i64 0, .string (⟨#[]⟩ : ByteArray), .int .i64 0, .int .i64 0] (0, 0) _ rfl (by (with_reducible repeat (first | refine blk_drewN ?_ _ | refine blk_drew ?_)); refine blk_put (cs := #[.int .i64 0, .string (⟨#[]⟩ : ByteArray), .int .i64 0, .int .i64 0]) ?_ 3 _ rfl; (with_reducible repeat (first | refine blk_drewN ?_ _ | refine blk_drew ?_)); refine blk_put (cs := #[.int .i64 0, .string (⟨#[]⟩ : ByteArray), .int .i64 0, .int .i64 0]) ?_ 2 _ rfl; (with_reducible repeat (first | refine blk_drewN ?_ _ | refine blk_drew ?_)); refine blk_put (cs := #[.int .i64 0, .string (⟨#[]⟩ : ByteArray), .int .i64 0, .int .i64 0]) ?_ 1 _ rfl; (with_reducible repeat (first | refine blk_drewN ?_ _ | refine blk_drew ?_)); refine blk_put (cs := #[.int .i64 0, .string (⟨#[]⟩ : ByteArray), .int .i64 0, .int .i64 0]) ?_ 0 _ rfl; (with_reducible repeat (first | refine blk_drewN ?_ _ | refine blk_drew ?_)); exact blk_new w _) Tryd.underlying48 rfl (by kernel_rfl)) rfl ?_
      exact ⟨rfl, by repeat (first | (with_reducible first | apply below_alloc | apply pw_below_drewN | apply below_drew1 | refine below_set ?_ (Nat.le_refl _)) | exact Below.refl _ _)⟩
theorem lexeme_first.calls (k : Nat) (a0 : ByteArray) (r1 : Int) (r2 : ByteArray) (r3 : Int) (r4 : Int) (r5 : Int) (w : World) (h : lexeme_first.f k a0 = some (r1, r2, r3, r4, r5)) :
    Calls Tryd.prog 41 #[.string a0] w fun e w' => e = .returned (.tuple #[.agg #[.int .i64 r1, .string r2, .int .i64 r3, .int .i64 r4], .int .i64 r5]) ∧ Below w.heap.size w w' := by
  unfold lexeme_first.f at h
  by_cases hg : a0.size ≤ 1000000 ∧ 1 ≤ a0.size
  · rw [if_pos hg] at h
    by_cases hd : isDig (bt a0 0) = true
    · rw [if_pos hd] at h
      exact first_dig a0 hg.1 hg.2 hd k r1 r2 r3 r4 r5 h w
    · rw [if_neg hd] at h
      replace hd := Bool.eq_false_iff.2 hd
      by_cases hw : isWrd (bt a0 0) = true
      · rw [if_pos hw] at h
        by_cases hm : runl isWrd a0 a0.size 0 ≤ 16
        · rw [if_pos hm] at h
          simp only [Option.some.injEq, Prod.mk.injEq] at h
          obtain ⟨rfl, rfl, rfl, rfl, rfl⟩ := h
          exact first_wrd a0 hg.1 hg.2 hd hw hm w
        · rw [if_neg hm] at h
          simp only [Option.some.injEq, Prod.mk.injEq] at h
          obtain ⟨rfl, rfl, rfl, rfl, rfl⟩ := h
          exact first_long a0 hg.1 hg.2 hd hw hm w
      · rw [if_neg hw] at h
        replace hw := Bool.eq_false_iff.2 hw
        simp only [Option.some.injEq, Prod.mk.injEq] at h
        obtain ⟨rfl, rfl, rfl, rfl, rfl⟩ := h
        by_cases hz : 2 ≤ a0.size
        · rw [Nat.min_eq_left hz]
          exact first_mark_two a0 hg.1 hg.2 (by omega) hd hw _ _ _ rfl w
        · rw [Nat.min_eq_right (by omega)]
          exact first_mark_one a0 hg.1 hg.2 (by omega) hd hw _ _ _ rfl w
  · rw [if_neg hg] at h
    cases h
theorem LeO_ite {α : Type} {c : Prop} [Decidable c] {a b a' b' : Option α} (h : LeO a a') (k : LeO b b') : LeO (if c then a else b) (if c then a' else b') := by
  by_cases hc : c
  · rw [if_pos hc, if_pos hc]; exact h
  · rw [if_neg hc, if_neg hc]; exact k
theorem lexeme_first.mono : ∀ a0 k, LeO (lexeme_first.f k a0) (lexeme_first.f (k + 1) a0) := by
  intro a0 k
  unfold lexeme_first.f
  exact LeO_ite (LeO_ite (lexer_number.mono _ _) (fun r h => h)) (fun r h => h)
def lexeme_skip.f (s : ByteArray) : Option Int := if s.size ≤ 1000000 then some ((skp s s.size 0 : Nat) : Int) else none
theorem lexeme_skip.calls (a0 : ByteArray) (r : Int) (w : World) (h : lexeme_skip.f a0 = some r) : Calls Tryd.prog 40 #[.string a0] w fun e w' => e = .returned (.int .i64 r) ∧ Drawn0 w w' := by
  unfold lexeme_skip.f at h
  by_cases hg : a0.size ≤ 1000000
  · rw [if_pos hg] at h
    cases h
    exact skip_any a0 hg w
  · rw [if_neg hg] at h
    cases h
end Go.Proofs.YtmnbbhieodcoeaaDoor.Rt
