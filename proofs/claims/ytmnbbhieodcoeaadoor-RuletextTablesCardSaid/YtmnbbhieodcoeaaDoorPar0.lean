/-
 The parser's state and what stays behind its calls; peek.
-/
import Derived.Test.YtmnbbhieodcoeaaDoorPScnx
import Derived.WalkLawsBesides
namespace Go.Proofs.YtmnbbhieodcoeaaDoor.Rt
open Go.RowKit Go.Proofs.YtmnbbhieodcoeaaDoorW.PrintWords Go.Proofs.YtmnbbhieodcoeaaDoorW.PrintLast Go.Proofs.YtmnbbhieodcoeaaDoorW.PrintMore
open Go.Proofs.YtmnbbhieodcoeaaDoor.PBase Go.Proofs.YtmnbbhieodcoeaaDoor.PScn
set_option linter.unusedVariables false
set_option linter.unusedSimpArgs false
structure Kp (w w' : World) (g : Nat) : Prop where
 os : w'.os = w.os
 tape : w'.tape = w.tape
 output : w'.output = w.output
 size : w.heap.size ≤ w'.heap.size
 block : ∀ k, k < w.heap.size → k ≠ g → w'.heap[k]? = w.heap[k]?
theorem Kp.refl (w : World) (g : Nat) : Kp w w g := ⟨rfl, rfl, rfl, Nat.le_refl _, fun _ _ _ => rfl⟩
theorem Kp.trans {a b c : World} {g : Nat} (h : Kp a b g) (k : Kp b c g) : Kp a c g :=
 ⟨k.os.trans h.os, k.tape.trans h.tape, k.output.trans h.output, Nat.le_trans h.size k.size, fun i hi hn => (k.block i (Nat.lt_of_lt_of_le hi h.size) hn).trans (h.block i hi hn)⟩
theorem Kp.of_below {w w' : World} (g : Nat) (h : Below w.heap.size w w') : Kp w w' g := ⟨h.os, h.tape, h.output, h.size, fun k hk _ => h.block k hk⟩
theorem Kp.then_below {a b c : World} {g : Nat} (h : Kp a b g) (k : Below b.heap.size b c) : Kp a c g := h.trans (Kp.of_below g k)
theorem Kp.set (w : World) (g j : Nat) (u : Value) : Kp w (w.setCell ⟨g, j, none⟩ u) g := by
 refine ⟨?_, ?_, ?_, ?_, fun k hk hn => Below.heap_setCell w ⟨g, j, none⟩ u k hn⟩
 ·unfold World.setCell; split <;> rfl
 ·unfold World.setCell; split <;> rfl
 ·unfold World.setCell; split <;> rfl
 ·unfold World.setCell; split <;> simp
theorem Kp.below {w w' : World} {g N : Nat} (h : Kp w w' g) (h1 : N ≤ g) (h2 : N ≤ w.heap.size) : Below N w w' :=
 ⟨h.os, h.tape, h.output, h.size, fun k hk => h.block k (Nat.lt_of_lt_of_le hk h2) (by omega)⟩
structure PS (w : World) (g : Nat) (ls : List S48) (i : Nat) (A : Option Addr) (c : Nat) : Prop where
 blk : w.heap[g]? = some (.cells #[.slice A ls.length c, .int .i64 i] 62 (0, 0))
 cap : ls.length ≤ c
 row : Kd.F k48 w (fun k => k < g) A ls.length ls
 few : ls.length ≤ 100000
 idx : i ≤ ls.length
theorem PS.kp {w w' : World} {g : Nat} {ls : List S48} {i : Nat} {A : Option Addr} {c : Nat} (h : PS w g ls i A c) (hb : Below w.heap.size w w') : PS w' g ls i A c :=
 ⟨blk_below h.blk hb, h.cap, Kd.F_below h.row hb, h.few, h.idx⟩
def Ex (w : World) (ok : Nat → Prop) (v : Value) (x : S24) : Prop := ∃ A c, v = .agg #[.int .i64 x.f0, .int .i64 x.f1, .string x.f2, .slice A x.f3.length c] ∧ x.f3.length ≤ c ∧ Kd.F k24 w ok A x.f3.length x.f3
theorem Ex.kp {w w' : World} {g : Nat} {ok : Nat → Prop} {v : Value} {x : S24} (h : Ex w ok v x) (hk : Kp w w' g) (hg : ∀ k, ok k → k ≠ g) : Ex w' ok v x := by
 obtain ⟨A, c, e, hl, hF⟩ := h
 exact ⟨A, c, e, hl, Kd.F_step hF (fun k hn hlt => hk.block k hlt (hg k hn))⟩
theorem Ex.mono {w : World} {ok ok' : Nat → Prop} {v : Value} {x : S24} (h : Ex w ok v x) (hg : ∀ k, ok k → ok' k) : Ex w ok' v x := by
 obtain ⟨A, c, e, hl, hF⟩ := h
 exact ⟨A, c, e, hl, Kd.F_mono hF hg⟩
def pk (ls : List S48) (i : Nat) : S48 := rd_T48 ls i
def lexV (x : S48) : Value := .agg #[.int .i64 x.f0, .string x.f1, .int .i64 x.f2, .int .i64 x.f3]
set_option maxHeartbeats 1000000 in
set_option maxRecDepth 100000 in
theorem peek_any {w : World} {g : Nat} {ls : List S48} {i : Nat} {A : Option Addr} {c : Nat} (h : PS w g ls i A c) :
  Calls Tryd.prog 34 #[.pointer (some ⟨g, 0, none⟩)] w fun e w' => e = .returned (lexV (pk ls i)) ∧ Below w.heap.size w w' := by
 have h1 := h.kp (below_alloc (Below.refl _ w) (.cells #[.int .i64 0, .string (⟨#[]⟩ : ByteArray), .int .i64 0, .int .i64 0] 48 (0, 0)))
 have hz := blk_new w (.cells #[.int .i64 0, .string (⟨#[]⟩ : ByteArray), .int .i64 0, .int .i64 0] 48 (0, 0))
 have hn1 := h.few
 have hn2 := h.idx
 have hg := Nat.ne_of_lt (blk_lt h.blk)
 have hgq0 : World.cell? _ ⟨g, 0, none⟩ = some (.slice A ls.length c) := (blk_cell h1.blk 0).trans rfl
 have hgq1 : World.cell? _ ⟨g, 1, none⟩ = some (.int .i64 i) := (blk_cell h1.blk 1).trans rfl
 have zq0 : World.cell? _ ⟨w.heap.size, 0, none⟩ = some (.int .i64 0) := (blk_cell hz 0).trans rfl
 have zf0 := blk_frozen hz 0
 have zq1 : World.cell? _ ⟨w.heap.size, 1, none⟩ = some (.string (⟨#[]⟩ : ByteArray)) := (blk_cell hz 1).trans rfl
 have zf1 := blk_frozen hz 1
 have zq2 : World.cell? _ ⟨w.heap.size, 2, none⟩ = some (.int .i64 0) := (blk_cell hz 2).trans rfl
 have zf2 := blk_frozen hz 2
 have zq3 : World.cell? _ ⟨w.heap.size, 3, none⟩ = some (.int .i64 0) := (blk_cell hz 3).trans rfl
 have zf3 := blk_frozen hz 3
 unfold lexV pk
 by_cases hi : i < ls.length
 ·obtain ⟨ad, rfl, a0, a1, a2, a3⟩ := at_T48 (Kd.F_now h1.row) (i : Int) (by omega) (by omega)
  rw [Int.toNat_natCast] at a0 a1 a2 a3
  generalize rd_T48 ls i = x at *
  have HP := Aside0.mk h1
  have HZ := Aside0.mk hz
  clear h h1 hz
  go_enter Tryd.func34, Tryd.ntmps34
  go_wp2_with fail
  go_quiet (fail)
  go_wp2_with fail
  go_region
  go_wp2_with fail
  refine bodyPost_ret (results_cell_row rfl _ _ w.heap.size 48 #[.int .i64 x.f0, .string x.f1, .int .i64 x.f2, .int .i64 x.f3] (0, 0) _ rfl (by (with_reducible repeat (first | refine blk_drewN ?_ _ | refine blk_drew ?_)); refine blk_put (cs := #[.int .i64 x.f0, .string x.f1, .int .i64 x.f2, .int .i64 0]) ?_ 3 _ rfl; (with_reducible repeat (first | refine blk_drewN ?_ _ | refine blk_drew ?_)); refine blk_put (cs := #[.int .i64 x.f0, .string x.f1, .int .i64 0, .int .i64 0]) ?_ 2 _ rfl; (with_reducible repeat (first | refine blk_drewN ?_ _ | refine blk_drew ?_)); refine blk_put (cs := #[.int .i64 x.f0, .string (⟨#[]⟩ : ByteArray), .int .i64 0, .int .i64 0]) ?_ 1 _ rfl; (with_reducible repeat (first | refine blk_drewN ?_ _ | refine blk_drew ?_)); refine blk_put (cs := #[.int .i64 0, .string (⟨#[]⟩ : ByteArray), .int .i64 0, .int .i64 0]) ?_ 0 _ rfl; (with_reducible repeat (first | refine blk_drewN ?_ _ | refine blk_drew ?_)); exact HZ.out) Tryd.underlying48 rfl (by kernel_rfl)) rfl ?_
  exact ⟨rfl, by repeat (first | (with_reducible first | apply below_alloc | apply pw_below_drewN | apply below_drew1 | refine below_set ?_ (Nat.le_refl _)) | exact Below.refl _ _)⟩
 ·have hx : rd_T48 ls i = z48 := by
   unfold rd_T48
   rw [Int.toNat_natCast, List.getD_eq_getElem?_getD, List.getElem?_eq_none (by omega)]
   rfl
  rw [hx]
  have HP := Aside0.mk h1
  have HZ := Aside0.mk hz
  clear h h1 hz hx
  go_enter Tryd.func34, Tryd.ntmps34
  go_wp2_with fail
  go_quiet (fail)
  go_wp2_with fail
  refine bodyPost_ret (results_cell_row rfl _ _ w.heap.size 48 #[.int .i64 0, .string (⟨#[]⟩ : ByteArray), .int .i64 0, .int .i64 0] (0, 0) _ rfl (by (with_reducible repeat (first | refine blk_drewN ?_ _ | refine blk_drew ?_)); refine blk_put (cs := #[.int .i64 0, .string (⟨#[]⟩ : ByteArray), .int .i64 0, .int .i64 0]) ?_ 3 _ rfl; (with_reducible repeat (first | refine blk_drewN ?_ _ | refine blk_drew ?_)); refine blk_put (cs := #[.int .i64 0, .string (⟨#[]⟩ : ByteArray), .int .i64 0, .int .i64 0]) ?_ 2 _ rfl; (with_reducible repeat (first | refine blk_drewN ?_ _ | refine blk_drew ?_)); refine blk_put (cs := #[.int .i64 0, .string (⟨#[]⟩ : ByteArray), .int .i64 0, .int .i64 0]) ?_ 1 _ rfl; (with_reducible repeat (first | refine blk_drewN ?_ _ | refine blk_drew ?_)); refine blk_put (cs := #[.int .i64 0, .string (⟨#[]⟩ : ByteArray), .int .i64 0, .int .i64 0]) ?_ 0 _ rfl; (with_reducible repeat (first | refine blk_drewN ?_ _ | refine blk_drew ?_)); exact HZ.out) Tryd.underlying48 rfl (by kernel_rfl)) rfl ?_
  exact ⟨rfl, by repeat (first | (with_reducible first | apply below_alloc | apply pw_below_drewN | apply below_drew1 | refine below_set ?_ (Nat.le_refl _)) | exact Below.refl _ _)⟩
def isW (x : S48) (s : ByteArray) : Bool := (x.f0 == 1 || x.f0 == 3) && (x.f1.toList == s.toList)
set_option maxHeartbeats 1000000 in
set_option maxRecDepth 100000 in
theorem is_any {w : World} {g : Nat} {ls : List S48} {i : Nat} {A : Option Addr} {c : Nat} (h : PS w g ls i A c) (s : ByteArray) :
  Calls Tryd.prog 58 #[.pointer (some ⟨g, 0, none⟩), .string s] w fun e w' => e = .returned (.bool (isW (pk ls i) s)) ∧ Below w.heap.size w w' := by
 have H := Aside0.mk (peek_any h)
 unfold isW
 generalize pk ls i = x at *
 unfold lexV at H
 obtain ⟨b1, h1⟩ : ∃ b, (x.f0 == 1) = b := ⟨_, rfl⟩
 obtain ⟨b3, h3⟩ : ∃ b, (x.f0 == 3) = b := ⟨_, rfl⟩
 obtain ⟨bs, hs⟩ : ∃ b, (x.f1.toList == s.toList) = b := ⟨_, rfl⟩
 rw [h1, h3, hs]
 clear h
 go_enter Tryd.func58, Tryd.ntmps58
 go_wp2_with fail
 refine H.out.mono ?_
 rintro _ w1 ⟨rfl, hb⟩
 have B := Aside0.mk hb
 have hw := hb.size
 clear hb
 cases b1 <;> cases b3 <;> cases bs <;> (go_wp2_with fail; go_ret; exact ⟨rfl, by repeat (first | (with_reducible first | apply below_alloc | apply pw_below_drewN | apply below_drew1 | refine below_set ?_ hw) | exact B.out)⟩)
theorem isW_lt {ls : List S48} {i : Nat} {s : ByteArray} (h : isW (pk ls i) s = true) : i < ls.length := by
 rcases Nat.lt_or_ge i ls.length with hi | hi
 ·exact hi
 ·exfalso
  have hx : pk ls i = z48 := by
   unfold pk rd_T48
   rw [Int.toNat_natCast, List.getD_eq_getElem?_getD, List.getElem?_eq_none hi]
   rfl
  rw [hx] at h
  unfold isW at h
  simp [z48] at h
theorem PS.next {w : World} {g : Nat} {ls : List S48} {i : Nat} {A : Option Addr} {c : Nat} (h : PS w g ls i A c) (hi : i < ls.length) : PS (w.setCell ⟨g, 1, none⟩ (.int .i64 ((i : Int) + 1))) g ls (i + 1) A c :=
 ⟨blk_put (cs := #[.slice A ls.length c, .int .i64 i]) h.blk 1 _ rfl, h.cap, Kd.F_far h.row (fun _ hk => Nat.ne_of_lt hk) _, h.few, hi⟩
theorem PS.drewN {w : World} {g : Nat} {ls : List S48} {i : Nat} {A : Option Addr} {c : Nat} (h : PS w g ls i A c) (n : Nat) : PS (w.drewN n) g ls i A c := h.kp (pw_below_drewN (Below.refl _ _) n)
theorem Kp.put {w W : World} {g G : Nat} (h : Kp w W g) (hG : w.heap.size ≤ G) (j : Nat) (u : Value) : Kp w (W.setCell ⟨G, j, none⟩ u) g := by
 have k := Kp.set W G j u
 exact ⟨k.os.trans h.os, k.tape.trans h.tape, k.output.trans h.output, Nat.le_trans h.size k.size, fun i hi hn => (k.block i (Nat.lt_of_lt_of_le hi h.size) (by omega)).trans (h.block i hi hn)⟩
theorem PS.put {w : World} {g G : Nat} {ls : List S48} {i : Nat} {A : Option Addr} {c : Nat} (h : PS w g ls i A c) (hG : g < G) (j : Nat) (u : Value) : PS (w.setCell ⟨G, j, none⟩ u) g ls i A c :=
 ⟨blk_far h.blk (by show g ≠ G; omega) u, h.cap, Kd.F_far h.row (fun k hk => by show k ≠ G; omega) u, h.few, h.idx⟩
theorem Kp.drewN {w W : World} {g : Nat} (h : Kp w W g) (n : Nat) : Kp w (W.drewN n) g := h.then_below (pw_below_drewN (Below.refl _ _) n)
def acc (ls : List S48) (i : Nat) (s : ByteArray) : Nat := if isW (pk ls i) s = true then i + 1 else i
set_option maxHeartbeats 1000000 in
set_option maxRecDepth 100000 in
theorem accept_any {w : World} {g : Nat} {ls : List S48} {i : Nat} {A : Option Addr} {c : Nat} (h : PS w g ls i A c) (s : ByteArray) :
  Calls Tryd.prog 77 #[.pointer (some ⟨g, 0, none⟩), .string s] w fun e w' => e = .returned (.bool (isW (pk ls i) s)) ∧ Kp w w' g ∧ PS w' g ls (acc ls i s) A c := by
 have H := Aside0.mk (is_any h s)
 have hn1 := h.few
 unfold acc
 by_cases hb : isW (pk ls i) s = true
 ·rw [hb, if_pos rfl]
  rw [hb] at H
  have hi := isW_lt hb
  have HP := Aside0.mk h
  clear h hb
  go_enter Tryd.func77, Tryd.ntmps77
  go_wp2_with fail
  refine H.out.mono ?_
  rintro _ w1 ⟨rfl, hb⟩
  have HP1 := Aside0.mk (HP.out.kp hb)
  have hgq1 : World.cell? _ ⟨g, 1, none⟩ = some (.int .i64 i) := (blk_cell HP1.out.blk 1).trans rfl
  have hgf1 := blk_frozen HP1.out.blk 1
  have B := Aside0.mk (Kp.of_below g hb)
  clear hb
  go_wp2_with fail
  go_ret
  exact ⟨rfl, B.out.trans (Kp.set _ _ _ _), HP1.out.next hi⟩
 ·rw [if_neg hb]
  replace hb := Bool.eq_false_iff.2 hb
  rw [hb]
  rw [hb] at H
  have HP := Aside0.mk h
  clear h hb
  go_enter Tryd.func77, Tryd.ntmps77
  go_wp2_with fail
  refine H.out.mono ?_
  rintro _ w1 ⟨rfl, hb⟩
  have HP1 := Aside0.mk (HP.out.kp hb)
  have B := Aside0.mk (Kp.of_below g hb)
  clear hb
  go_wp2_with fail
  go_ret
  exact ⟨rfl, B.out, HP1.out⟩
theorem field48_3 (a b c : Value) (d : Int) (w : World) : Sem.run Tryd.prog (Instr.field 48 (.agg #[a, b, c, .int .i64 d]) 3) w = .ok (.int .i64 d) w := by
 kernel_rfl
def failV (e at_ : Int) : Value := .iface 80 (.agg #[.int .i64 e, .int .i64 at_])
set_option maxHeartbeats 1000000 in
set_option maxRecDepth 100000 in
theorem fail_any {w : World} {g : Nat} {ls : List S48} {i : Nat} {A : Option Addr} {c : Nat} (h : PS w g ls i A c) (e : Int) :
  Calls Tryd.prog 35 #[.pointer (some ⟨g, 0, none⟩), .int .i64 e] w fun r w' => r = .panicked [{ v := failV e (pk ls i).f3, recovered := false }] ∧ Below w.heap.size w w' := by
 have H := Aside0.mk (peek_any h)
 generalize pk ls i = x at *
 unfold lexV at H
 unfold failV
 clear h
 have hfld := field48_3 (.int .i64 x.f0) (.string x.f1) (.int .i64 x.f2) x.f3
 go_enter Tryd.func35, Tryd.ntmps35
 go_wp2_with fail
 refine H.out.mono ?_
 rintro _ w1 ⟨rfl, hb⟩
 have B := Aside0.mk hb
 clear hb
 go_wp2_with fail
 exact ⟨rfl, rfl, B.out⟩
set_option maxHeartbeats 1000000 in
set_option maxRecDepth 100000 in
theorem expect_yes {w : World} {g : Nat} {ls : List S48} {i : Nat} {A : Option Addr} {c : Nat} (h : PS w g ls i A c) (s : ByteArray) (hs : isW (pk ls i) s = true) :
  Calls Tryd.prog 59 #[.pointer (some ⟨g, 0, none⟩), .string s] w fun r w' => r = .returned (.tuple #[]) ∧ Kp w w' g ∧ PS w' g ls (i + 1) A c := by
 have H := Aside0.mk (accept_any h s)
 unfold acc at H
 rw [hs, if_pos rfl] at H
 clear h
 go_enter Tryd.func59, Tryd.ntmps59
 go_wp2_with fail
 refine H.out.mono ?_
 rintro _ w1 ⟨rfl, hk, hp⟩
 have K := Aside0.mk hk
 have P := Aside0.mk hp
 clear hk hp
 go_wp2_with fail
 go_end0
 exact ⟨rfl, K.out, P.out⟩
set_option maxHeartbeats 1000000 in
set_option maxRecDepth 100000 in
theorem expect_no {w : World} {g : Nat} {ls : List S48} {i : Nat} {A : Option Addr} {c : Nat} (h : PS w g ls i A c) (s : ByteArray) (hs : isW (pk ls i) s = false) :
  Calls Tryd.prog 59 #[.pointer (some ⟨g, 0, none⟩), .string s] w fun r w' => r = .panicked [{ v := failV 5 (pk ls i).f3, recovered := false }] ∧ Kp w w' g := by
 have H := Aside0.mk (accept_any h s)
 have HF := Aside0.mk (fun w (h : PS w g ls i A c) => fail_any h 5)
 unfold acc at H
 rw [hs, if_neg (by decide)] at H
 generalize failV 5 (pk ls i).f3 = z at *
 clear h hs
 go_enter Tryd.func59, Tryd.ntmps59
 go_wp2_with fail
 refine H.out.mono ?_
 rintro _ w1 ⟨rfl, hk, hp⟩
 have K := Aside0.mk hk
 have P := Aside0.mk hp
 clear hk hp
 go_wp2_with fail
 refine (HF.out _ P.out).mono ?_
 rintro _ w2 ⟨rfl, hb⟩
 have B := Aside0.mk hb
 clear hb
 go_wp2_with fail
 exact ⟨rfl, rfl, K.out.then_below B.out⟩
theorem num_lt {ls : List S48} {i : Nat} {n : Int} (hn : n ≠ 0) (h : (pk ls i).f0 = n) : i < ls.length := by
 rcases Nat.lt_or_ge i ls.length with hi | hi
 ·exact hi
 ·exfalso
  have hx : pk ls i = z48 := by
   unfold pk rd_T48
   rw [Int.toNat_natCast, List.getD_eq_getElem?_getD, List.getElem?_eq_none hi]
   rfl
  rw [hx] at h
  exact hn h.symm
set_option maxHeartbeats 1000000 in
set_option maxRecDepth 100000 in
theorem number_yes {w : World} {g : Nat} {ls : List S48} {i : Nat} {A : Option Addr} {c : Nat} (h : PS w g ls i A c) (hs : (pk ls i).f0 = 2) :
  Calls Tryd.prog 60 #[.pointer (some ⟨g, 0, none⟩)] w fun r w' => r = .returned (.int .i64 (pk ls i).f2) ∧ Kp w w' g ∧ PS w' g ls (i + 1) A c := by
 have H := Aside0.mk (peek_any h)
 have hi := num_lt (by decide) hs
 have hn1 := h.few
 generalize pk ls i = x at *
 unfold lexV at H
 rw [hs] at H
 have HP := Aside0.mk h
 clear h hs
 go_enter Tryd.func60, Tryd.ntmps60
 go_wp2_with fail
 refine H.out.mono ?_
 rintro _ w1 ⟨rfl, hb⟩
 have HP1 := Aside0.mk (HP.out.kp (below_step hb (below_alloc (Below.refl _ w1) (.cells #[.int .i64 2, .string x.f1, .int .i64 x.f2, .int .i64 x.f3] 48 (0, 0)))))
 have hgq1 : World.cell? _ ⟨g, 1, none⟩ = some (.int .i64 i) := (blk_cell HP1.out.blk 1).trans rfl
 have hgf1 := blk_frozen HP1.out.blk 1
 have hg := blk_lt HP.out.blk
 have hg2 : g ≠ w1.heap.size := Nat.ne_of_lt (Nat.lt_of_lt_of_le hg hb.size)
 have B := Aside0.mk (Kp.of_below g hb)
 clear hb
 have B2 := Aside0.mk (Kp.of_below g (below_alloc (Below.refl _ w1) (.cells #[.int .i64 2, .string x.f1, .int .i64 x.f2, .int .i64 x.f3] 48 (0, 0))))
 go_wp2_with fail
 go_ret
 exact ⟨rfl, (B.out.trans B2.out).trans (Kp.set _ _ _ _), HP1.out.next hi⟩
set_option maxHeartbeats 1000000 in
set_option maxRecDepth 100000 in
theorem number_no {w : World} {g : Nat} {ls : List S48} {i : Nat} {A : Option Addr} {c : Nat} (h : PS w g ls i A c) (hs : (pk ls i).f0 ≠ 2) :
  Calls Tryd.prog 60 #[.pointer (some ⟨g, 0, none⟩)] w fun r w' => r = .panicked [{ v := failV 5 (pk ls i).f3, recovered := false }] ∧ Kp w w' g := by
 have H := Aside0.mk (peek_any h)
 have HF := Aside0.mk (fun w (h : PS w g ls i A c) => fail_any h 5)
 generalize failV 5 (pk ls i).f3 = z at *
 generalize pk ls i = x at *
 unfold lexV at H
 have HP := Aside0.mk h
 have s1 : (x.f0 == 2) = false := by simpa using hs
 have s2 : (x.f0 != 2) = true := by simpa using hs
 clear h hs
 go_enter Tryd.func60, Tryd.ntmps60
 go_wp2_with fail
 refine H.out.mono ?_
 rintro _ w1 ⟨rfl, hb⟩
 have hb' := below_step hb (below_alloc (Below.refl _ w1) (.cells #[.int .i64 x.f0, .string x.f1, .int .i64 x.f2, .int .i64 x.f3] 48 (0, 0)))
 have HP1 := Aside0.mk (HP.out.kp hb')
 have B := Aside0.mk (Kp.of_below g hb')
 clear hb hb'
 go_wp2_with fail
 refine (HF.out _ HP1.out).mono ?_
 rintro _ w2 ⟨rfl, hb⟩
 have B2 := Aside0.mk hb
 clear hb
 go_wp2_with fail
 exact ⟨rfl, rfl, B.out.then_below B2.out⟩
def two (op : Int) (a b : S24) : S24 := ⟨op, 0, ⟨#[]⟩, [a, b]⟩
def neg (a : S24) : S24 := ⟨9, 0, ⟨#[]⟩, [a]⟩
theorem size_alloc (W : World) (o : Obj) : (W.alloc o).heap.size = W.heap.size + 1 := by first | rfl | (simp; done) | (unfold World.alloc; simp)
theorem blk_top (W : World) (o : Obj) {k : Nat} (hk : k = W.heap.size) : (W.alloc o).heap[k]? = some o := hk ▸ blk_new W o
theorem F_one {W : World} {ok : Nat → Prop} {q : Nat} {A1 : Option Addr} {c1 : Nat} {a : S24} (hq : W.heap[q]? = some (.cells #[.int .i64 a.f0, .int .i64 a.f1, .string a.f2, .slice A1 a.f3.length c1] 24 (0, 0))) (hok : ok q) (l1 : a.f3.length ≤ c1) (F1 : Kd.F k24 W ok A1 a.f3.length a.f3) : Kd.F k24 W ok (some ⟨q, 0, none⟩) 1 [a] := by
 intro W' hW
 show ReadsRow (k24.K W') 4 W' _ _ _
 have hq' := (hW q hok (blk_lt hq)).trans hq
 refine ⟨rfl, by decide, fun _ => ⟨_, rfl, fun j p hj => ?_⟩⟩
 match j with
 | 0 =>
  cases hj
  refine ⟨[.int .i64 a.f0, .int .i64 a.f1, .string a.f2, .slice A1 a.f3.length c1], rfl, k24_mk W' a l1 (F1 W' hW), fun i u hu => ?_⟩
  rw [add_plain, blk_cell hq', ← hu, show 0 * 4 + i = i by omega]
  simp
 | n + 1 => simp at hj
theorem F_two {W : World} {ok : Nat → Prop} {q : Nat} {A1 A2 : Option Addr} {c1 c2 : Nat} {a b : S24} (hq : W.heap[q]? = some (.cells #[.int .i64 a.f0, .int .i64 a.f1, .string a.f2, .slice A1 a.f3.length c1, .int .i64 b.f0, .int .i64 b.f1, .string b.f2, .slice A2 b.f3.length c2] 24 (0, 0))) (hok : ok q) (l1 : a.f3.length ≤ c1) (F1 : Kd.F k24 W ok A1 a.f3.length a.f3) (l2 : b.f3.length ≤ c2) (F2 : Kd.F k24 W ok A2 b.f3.length b.f3) : Kd.F k24 W ok (some ⟨q, 0, none⟩) 2 [a, b] := by
 intro W' hW
 show ReadsRow (k24.K W') 4 W' _ _ _
 have hq' := (hW q hok (blk_lt hq)).trans hq
 refine ⟨rfl, by decide, fun _ => ⟨_, rfl, fun j p hj => ?_⟩⟩
 match j with
 | 0 =>
  cases hj
  refine ⟨[.int .i64 a.f0, .int .i64 a.f1, .string a.f2, .slice A1 a.f3.length c1], rfl, k24_mk W' a l1 (F1 W' hW), fun i u hu => ?_⟩
  rw [add_plain, blk_cell hq', ← hu, show 0 * 4 + i = i by omega]
  match i with
  | 0 => rfl
  | 1 => rfl
  | 2 => rfl
  | 3 => rfl
  | n + 4 => simp at hu
 | 1 =>
  cases hj
  refine ⟨[.int .i64 b.f0, .int .i64 b.f1, .string b.f2, .slice A2 b.f3.length c2], rfl, k24_mk W' b l2 (F2 W' hW), fun i u hu => ?_⟩
  rw [add_plain, blk_cell hq', ← hu, show 1 * 4 + i = i + 4 by omega]
  match i with
  | 0 => rfl
  | 1 => rfl
  | 2 => rfl
  | 3 => rfl
  | n + 4 => simp at hu
 | n + 2 => simp at hj
set_option maxHeartbeats 1000000 in
set_option maxRecDepth 100000 in
theorem two_any {w : World} {ok : Nat → Prop} (op : Int) (va vb : Value) (a b : S24) (ha : Ex w ok va a) (hb : Ex w ok vb b) :
  Calls Tryd.prog 78 #[.int .i64 op, va, vb] w fun r w' => (∃ v, r = .returned v ∧ Ex w' (fun k => ok k ∨ w.heap.size ≤ k) v (two op a b)) ∧ Below w.heap.size w w' := by
 obtain ⟨A1, c1, rfl, l1, F1⟩ := ha
 obtain ⟨A2, c2, rfl, l2, F2⟩ := hb
 have H1 := Aside0.mk F1
 have H2 := Aside0.mk F2
 clear F1 F2
 go_enter Tryd.func78, Tryd.ntmps78
 go_wp2_with fail
 have B : Below w.heap.size w ((((w.alloc (.cells #[.int .i64 a.f0, .int .i64 a.f1, .string a.f2, .slice A1 a.f3.length c1] 24 (0, 0))).alloc (.cells #[.int .i64 b.f0, .int .i64 b.f1, .string b.f2, .slice A2 b.f3.length c2] 24 (0, 0))).alloc (.cells #[.int .i64 op, .int .i64 0, .string (⟨#[]⟩ : ByteArray), .slice (some ⟨w.heap.size + 1 + 1 + 1, 0, none⟩) 2 2] 24 (0, 0))).alloc (.cells #[.int .i64 a.f0, .int .i64 a.f1, .string a.f2, .slice A1 a.f3.length c1, .int .i64 b.f0, .int .i64 b.f1, .string b.f2, .slice A2 b.f3.length c2] 24 (0, 0))) := below_alloc (below_alloc (below_alloc (below_alloc (Below.refl _ w) _) _) _) _
 have b2 := blk_alloc (blk_top ((w.alloc (.cells #[.int .i64 a.f0, .int .i64 a.f1, .string a.f2, .slice A1 a.f3.length c1] 24 (0, 0))).alloc (.cells #[.int .i64 b.f0, .int .i64 b.f1, .string b.f2, .slice A2 b.f3.length c2] 24 (0, 0))) (.cells #[.int .i64 op, .int .i64 0, .string (⟨#[]⟩ : ByteArray), .slice (some ⟨w.heap.size + 1 + 1 + 1, 0, none⟩) 2 2] 24 (0, 0)) (k := w.heap.size + 1 + 1) (by rw [size_alloc, size_alloc])) (.cells #[.int .i64 a.f0, .int .i64 a.f1, .string a.f2, .slice A1 a.f3.length c1, .int .i64 b.f0, .int .i64 b.f1, .string b.f2, .slice A2 b.f3.length c2] 24 (0, 0))
 have b3 := blk_top (((w.alloc (.cells #[.int .i64 a.f0, .int .i64 a.f1, .string a.f2, .slice A1 a.f3.length c1] 24 (0, 0))).alloc (.cells #[.int .i64 b.f0, .int .i64 b.f1, .string b.f2, .slice A2 b.f3.length c2] 24 (0, 0))).alloc (.cells #[.int .i64 op, .int .i64 0, .string (⟨#[]⟩ : ByteArray), .slice (some ⟨w.heap.size + 1 + 1 + 1, 0, none⟩) 2 2] 24 (0, 0))) (.cells #[.int .i64 a.f0, .int .i64 a.f1, .string a.f2, .slice A1 a.f3.length c1, .int .i64 b.f0, .int .i64 b.f1, .string b.f2, .slice A2 b.f3.length c2] 24 (0, 0)) (k := w.heap.size + 1 + 1 + 1) (by rw [size_alloc, size_alloc, size_alloc])
 refine bodyPost_ret (results_cell_row rfl _ _ (w.heap.size + 1 + 1) 24 #[.int .i64 op, .int .i64 0, .string (⟨#[]⟩ : ByteArray), .slice (some ⟨w.heap.size + 1 + 1 + 1, 0, none⟩) 2 2] (0, 0) _ rfl b2 Tryd.underlying24 rfl (by kernel_rfl)) rfl ?_
 exact ⟨⟨_, rfl, some ⟨w.heap.size + 1 + 1 + 1, 0, none⟩, 2, rfl, Nat.le_refl _, F_two b3 (.inr (by omega)) l1 (Kd.F_mono (Kd.F_below H1.out B) (fun _ h => .inl h)) l2 (Kd.F_mono (Kd.F_below H2.out B) (fun _ h => .inl h))⟩, B⟩
set_option maxHeartbeats 1000000 in
set_option maxRecDepth 100000 in
theorem neg_any {w : World} {ok : Nat → Prop} (va : Value) (a : S24) (ha : Ex w ok va a) :
  Calls Tryd.prog 89 #[va] w fun r w' => (∃ v, r = .returned v ∧ Ex w' (fun k => ok k ∨ w.heap.size ≤ k) v (neg a)) ∧ Below w.heap.size w w' := by
 obtain ⟨A1, c1, rfl, l1, F1⟩ := ha
 have H1 := Aside0.mk F1
 clear F1
 go_enter Tryd.func89, Tryd.ntmps89
 go_wp2_with fail
 have B : Below w.heap.size w (((w.alloc (.cells #[.int .i64 a.f0, .int .i64 a.f1, .string a.f2, .slice A1 a.f3.length c1] 24 (0, 0))).alloc (.cells #[.int .i64 9, .int .i64 0, .string (⟨#[]⟩ : ByteArray), .slice (some ⟨w.heap.size + 1 + 1, 0, none⟩) 1 1] 24 (0, 0))).alloc (.cells #[.int .i64 a.f0, .int .i64 a.f1, .string a.f2, .slice A1 a.f3.length c1] 24 (0, 0))) := below_alloc (below_alloc (below_alloc (Below.refl _ w) _) _) _
 have b2 := blk_alloc (blk_top (w.alloc (.cells #[.int .i64 a.f0, .int .i64 a.f1, .string a.f2, .slice A1 a.f3.length c1] 24 (0, 0))) (.cells #[.int .i64 9, .int .i64 0, .string (⟨#[]⟩ : ByteArray), .slice (some ⟨w.heap.size + 1 + 1, 0, none⟩) 1 1] 24 (0, 0)) (k := w.heap.size + 1) (by rw [size_alloc])) (.cells #[.int .i64 a.f0, .int .i64 a.f1, .string a.f2, .slice A1 a.f3.length c1] 24 (0, 0))
 have b3 := blk_top ((w.alloc (.cells #[.int .i64 a.f0, .int .i64 a.f1, .string a.f2, .slice A1 a.f3.length c1] 24 (0, 0))).alloc (.cells #[.int .i64 9, .int .i64 0, .string (⟨#[]⟩ : ByteArray), .slice (some ⟨w.heap.size + 1 + 1, 0, none⟩) 1 1] 24 (0, 0))) (.cells #[.int .i64 a.f0, .int .i64 a.f1, .string a.f2, .slice A1 a.f3.length c1] 24 (0, 0)) (k := w.heap.size + 1 + 1) (by rw [size_alloc, size_alloc])
 refine bodyPost_ret (results_cell_row rfl _ _ (w.heap.size + 1) 24 #[.int .i64 9, .int .i64 0, .string (⟨#[]⟩ : ByteArray), .slice (some ⟨w.heap.size + 1 + 1, 0, none⟩) 1 1] (0, 0) _ rfl b2 Tryd.underlying24 rfl (by kernel_rfl)) rfl ?_
 exact ⟨⟨_, rfl, some ⟨w.heap.size + 1 + 1, 0, none⟩, 1, rfl, Nat.le_refl _, F_one b3 (.inr (by omega)) l1 (Kd.F_mono (Kd.F_below H1.out B) (fun _ h => .inl h))⟩, B⟩
inductive Rz
 | ok (x : S24) (j : Nat)
 | bad (e at_ : Int)
def PP (w : World) (g : Nat) (ls : List S48) (A : Option Addr) (c : Nat) : Rz → Ending → World → Prop
 | .ok x j, e, w' => (∃ v, e = .returned v ∧ Ex w' (fun k => w.heap.size ≤ k) v x) ∧ Kp w w' g ∧ PS w' g ls j A c
 | .bad er at_, e, w' => e = .panicked [{ v := failV er at_, recovered := false }] ∧ Kp w w' g
def bindR (o : Option Rz) (f : S24 → Nat → Option Rz) : Option Rz :=
 match o with
 | some (.ok x j) => f x j
 | some (.bad e a) => some (.bad e a)
 | none => none
def bOr : ByteArray := ⟨#[111, 114]⟩
def bAnd : ByteArray := ⟨#[97, 110, 100]⟩
def bNot : ByteArray := ⟨#[110, 111, 116]⟩
def bEq : ByteArray := ⟨#[61]⟩
def bNe : ByteArray := ⟨#[33, 61]⟩
def bLt : ByteArray := ⟨#[60]⟩
def bLe : ByteArray := ⟨#[60, 61]⟩
def bGt : ByteArray := ⟨#[62]⟩
def bGe : ByteArray := ⟨#[62, 61]⟩
def bAdd : ByteArray := ⟨#[43]⟩
def bSub : ByteArray := ⟨#[45]⟩
def bMul : ByteArray := ⟨#[42]⟩
def bLp : ByteArray := ⟨#[40]⟩
def bRp : ByteArray := ⟨#[41]⟩
def num (n : Int) : S24 := ⟨1, n, ⟨#[]⟩, []⟩
def nam (s : ByteArray) : S24 := ⟨2, 0, s, []⟩
mutual
def pFac : Nat → List S48 → Nat → Option Rz
 | 0, _, _ => none
 | k + 1, ls, i =>
  if (pk ls i).f0 = 2 then some (.ok (num (pk ls i).f2) (i + 1))
  else if isW (pk ls i) bSub = true then
   (if (pk ls (i + 1)).f0 = 2 then (if (pk ls (i + 1)).f2 = 0 then some (.bad 5 (pk ls (i + 1)).f3) else some (.ok (num (wrap64 (-(pk ls (i + 1)).f2))) (i + 2))) else some (.bad 5 (pk ls (i + 1)).f3))
  else if isW (pk ls i) bLp = true then bindR (pExr k ls (i + 1)) fun x j => if isW (pk ls j) bRp = true then some (.ok x (j + 1)) else some (.bad 5 (pk ls j).f3)
  else if (pk ls i).f0 = 1 then
   (match ruletext_isName.f 100 (pk ls i).f1 with
   | some true => some (.ok (nam (pk ls i).f1) (i + 1))
   | some false => some (.bad 6 (pk ls i).f3)
   | none => none)
  else some (.bad 5 (pk ls i).f3)
def pTrm : Nat → List S48 → Nat → Option Rz
 | 0, _, _ => none
 | k + 1, ls, i => bindR (pFac k ls i) fun x j => pTrmL k ls j x
def pTrmL : Nat → List S48 → Nat → S24 → Option Rz
 | 0, _, _, _ => none
 | k + 1, ls, i, x => if isW (pk ls i) bMul = true then bindR (pFac k ls (i + 1)) fun y j => pTrmL k ls j (two 5 x y) else some (.ok x i)
def pSum : Nat → List S48 → Nat → Option Rz
 | 0, _, _ => none
 | k + 1, ls, i => bindR (pTrm k ls i) fun x j => pSumL k ls j x
def pSumL : Nat → List S48 → Nat → S24 → Option Rz
 | 0, _, _, _ => none
 | k + 1, ls, i, x =>
  if isW (pk ls i) bAdd = true then bindR (pTrm k ls (i + 1)) fun y j => pSumL k ls j (two 3 x y)
  else if isW (pk ls i) bSub = true then bindR (pTrm k ls (i + 1)) fun y j => pSumL k ls j (two 4 x y)
  else some (.ok x i)
def pCmp : Nat → List S48 → Nat → Option Rz
 | 0, _, _ => none
 | k + 1, ls, i => bindR (pSum k ls i) fun x j =>
  if isW (pk ls j) bEq = true then bindR (pSum k ls (j + 1)) fun y m => some (.ok (two 6 x y) m)
  else if isW (pk ls j) bNe = true then bindR (pSum k ls (j + 1)) fun y m => some (.ok (neg (two 6 x y)) m)
  else if isW (pk ls j) bLt = true then bindR (pSum k ls (j + 1)) fun y m => some (.ok (two 7 x y) m)
  else if isW (pk ls j) bLe = true then bindR (pSum k ls (j + 1)) fun y m => some (.ok (two 8 x y) m)
  else if isW (pk ls j) bGt = true then bindR (pSum k ls (j + 1)) fun y m => some (.ok (two 7 y x) m)
  else if isW (pk ls j) bGe = true then bindR (pSum k ls (j + 1)) fun y m => some (.ok (two 8 y x) m)
  else some (.ok x j)
def pNeg : Nat → List S48 → Nat → Option Rz
 | 0, _, _ => none
 | k + 1, ls, i => if isW (pk ls i) bNot = true then bindR (pNeg k ls (i + 1)) fun x j => some (.ok (neg x) j) else pCmp k ls i
def pCnj : Nat → List S48 → Nat → Option Rz
 | 0, _, _ => none
 | k + 1, ls, i => bindR (pNeg k ls i) fun x j => pCnjL k ls j x
def pCnjL : Nat → List S48 → Nat → S24 → Option Rz
 | 0, _, _, _ => none
 | k + 1, ls, i, x => if isW (pk ls i) bAnd = true then bindR (pNeg k ls (i + 1)) fun y j => pCnjL k ls j (two 10 x y) else some (.ok x i)
def pExr : Nat → List S48 → Nat → Option Rz
 | 0, _, _ => none
 | k + 1, ls, i => bindR (pCnj k ls i) fun x j => pExrL k ls j x
def pExrL : Nat → List S48 → Nat → S24 → Option Rz
 | 0, _, _, _ => none
 | k + 1, ls, i, x => if isW (pk ls i) bOr = true then bindR (pCnj k ls (i + 1)) fun y j => pExrL k ls j (two 11 x y) else some (.ok x i)
end
end Go.Proofs.YtmnbbhieodcoeaaDoor.Rt
