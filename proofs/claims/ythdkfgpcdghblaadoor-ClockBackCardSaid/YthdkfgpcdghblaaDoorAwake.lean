/-
  The examples that each law checks: they are met. Condition: the library's table of powers of ten holds what it holds at the start.
-/
import Derived.Test.YthdkfgpcdghblaaDoorCalc
import Derived.Test.YthdkfgpcdghblaaDoorText1
import Derived.Test.YthdkfgpcdghblaaDoorPFinx
namespace Go.Proofs.YthdkfgpcdghblaaDoor.Cal
open Go.RowKit Go.Proofs.YthdkfgpcdghblaaDoorW.PrintWords Go.Proofs.YthdkfgpcdghblaaDoorW.PrintLast Go.Proofs.YthdkfgpcdghblaaDoorW.PrintMore
open Go.Proofs.YthdkfgpcdghblaaDoor.PAll Go.Proofs.YthdkfgpcdghblaaDoor.CMath
set_option linter.unusedVariables false
set_option linter.unusedSimpArgs false

theorem awake_parse : Go.Proofs.YthdkfgpcdghblaaDoor.PFin.clock_Parse.f 100 ⟨#[100, 54, 57, 52, 52, 32, 49, 48, 58, 52, 48]⟩ = some (10000000, 0) := by kernel_rfl
theorem awake_fmt : fmtS 840 = ⟨#[100, 48, 32, 49, 52, 58, 48, 48]⟩ := by kernel_rfl
def one : List S47 := [⟨360, 840⟩]
theorem one_new : newE (prs one) = 0 := by decide
theorem one_add1 : addN (prs one) 0 480 = 840 ∧ addE (prs one) 0 480 = 0 ∧ addN (prs one) 0 481 = 10441 ∧ addE (prs one) 0 481 = 0 := by decide
theorem one_next : nextN (prs one) 840 = 10440 ∧ nextE (prs one) 840 = 0 := by decide
theorem one_open : openS (prs one) 360 = true ∧ openS (prs one) 840 = false ∧ workS (prs one) 0 10080 = 480 := by decide

/-- A row of shifts out of its cells. -/
theorem C_of_cells (w : World) (ad : Addr) (l : List S47) (hm : l.length ≤ 9223372036854775807)
    (hc : ∀ i, i < l.length → w.cell? (ad.add (i * 2)) = some (.int .i64 (rd_T47 l i).f0) ∧ w.cell? (ad.add (i * 2 + 1)) = some (.int .i64 (rd_T47 l i).f1)) : Kd.C k47 w (some ad) l.length l := by
  refine ⟨rfl, hm, fun _ => ⟨ad, rfl, fun j p hp => ?_⟩⟩
  have hj : j < l.length := (List.getElem?_eq_some_iff.1 hp).1
  have e : rd_T47 l j = p := by simp [rd_T47, hp]
  have h := hc j hj
  rw [e] at h
  have hz : k47.sz = 2 := rfl
  refine ⟨[.int .i64 p.f0, .int .i64 p.f1], rfl, k47_mk w p, fun i u hu => ?_⟩
  rw [hz]
  match i, hu with
  | 0, hu => simpa using h.1.trans hu
  | 1, hu => simpa using h.2.trans hu
theorem one_C (w : World) (b : Nat) (h0 : w.cell? ⟨b, 0, none⟩ = some (.int .i64 360)) (h1 : w.cell? ⟨b, 1, none⟩ = some (.int .i64 840)) : Kd.C k47 w (some ⟨b, 0, none⟩) one.length one := by
  refine C_of_cells w _ one (by decide) fun i hi => ?_
  obtain rfl : i = 0 := by simp [one] at hi; exact hi
  exact ⟨h0, h1⟩
theorem fmt_time (a : Int) (w : World) (hT : Tab w) (h : isT a = true) (r : ByteArray) (hr : fmtS a = r) : Calls Tryd.prog 28 #[.int .i64 a] w fun e w' => e = .returned (.string r) ∧ Below w.heap.size w w' := by
  rw [← hr]
  exact format_yes a w hT h
theorem tab_below {w w' : World} (h : Tab w) (hb : Below w.heap.size w w') : Tab w' := by
  unfold Tab Lib.TabIs at h ⊢
  have hg : Tryd.prog.globalNamed "internal/strconv.uint64pow10" = some 1 := by kernel_rfl
  have hlt : 1 < w.heap.size := by
    unfold World.var? at h
    simp only [hg, Option.bind_some] at h
    rcases Nat.lt_or_ge 1 w.heap.size with hl | hl
    · exact hl
    · rw [Array.getElem?_eq_none hl] at h
      cases h
  unfold World.var? at h ⊢
  simp only [hg, Option.bind_some] at h ⊢
  rw [hb.block 1 hlt]
  exact h

section
variable (g : Nat) (w : World)
theorem aw_add1 (hc : IsCal w g one) : Calls Tryd.prog 24 #[.pointer (some ⟨g, 0, none⟩), .int .i64 0, .int .i64 480] w fun e w' => e = .returned (.tuple #[.int .i64 840, .int .i64 0]) ∧ Below w.heap.size w w' := by
  have h := add_any g one 0 480 w hc
  rw [one_add1.1, one_add1.2.1] at h
  exact h
theorem aw_add2 (hc : IsCal w g one) : Calls Tryd.prog 24 #[.pointer (some ⟨g, 0, none⟩), .int .i64 0, .int .i64 481] w fun e w' => e = .returned (.tuple #[.int .i64 10441, .int .i64 0]) ∧ Below w.heap.size w w' := by
  have h := add_any g one 0 481 w hc
  rw [one_add1.2.2.1, one_add1.2.2.2] at h
  exact h
theorem aw_next (hc : IsCal w g one) : Calls Tryd.prog 18 #[.pointer (some ⟨g, 0, none⟩), .int .i64 840] w fun e w' => e = .returned (.tuple #[.int .i64 10440, .int .i64 0]) ∧ w = w' := by
  have h := next_any g one 840 w hc
  rw [one_next.1, one_next.2] at h
  exact h
theorem aw_open1 (hc : IsCal w g one) : Calls Tryd.prog 20 #[.pointer (some ⟨g, 0, none⟩), .int .i64 360] w fun e w' => e = .returned (.bool true) ∧ w = w' := by
  have h := open_any g one 360 w hc
  rw [one_open.1] at h
  exact h
theorem aw_open2 (hc : IsCal w g one) : Calls Tryd.prog 20 #[.pointer (some ⟨g, 0, none⟩), .int .i64 840] w fun e w' => e = .returned (.bool false) ∧ w = w' := by
  have h := open_any g one 840 w hc
  rw [one_open.2.1] at h
  exact h
theorem aw_work (hc : IsCal w g one) : Calls Tryd.prog 22 #[.pointer (some ⟨g, 0, none⟩), .int .i64 0, .int .i64 10080] w fun e w' => e = .returned (.int .i64 480) ∧ Below w.heap.size w w' := by
  have h := work_any g one 0 10080 w hc
  rw [one_open.2.2] at h
  exact h
theorem aw_parse : Calls Tryd.prog 26 #[.string ⟨#[100, 54, 57, 52, 52, 32, 49, 48, 58, 52, 48]⟩] w fun e w' => e = .returned (.tuple #[.int .i64 10000000, .int .i64 0]) ∧ Below w.heap.size w w' := by
  refine (Go.Proofs.YthdkfgpcdghblaaDoor.PFin.clock_Parse.calls 100 _ _ _ w awake_parse).mono ?_
  rintro e w' ⟨rfl, h⟩
  first | exact ⟨rfl, h⟩ | exact ⟨rfl, h.below⟩
theorem aw_fmt (hT : Tab w) : Calls Tryd.prog 28 #[.int .i64 840] w fun e w' => e = .returned (.string ⟨#[100, 48, 32, 49, 52, 58, 48, 48]⟩) ∧ Below w.heap.size w w' := fmt_time 840 w hT (by decide) _ awake_fmt
theorem aw_new (h0 : w.cell? ⟨g, 0, none⟩ = some (.int .i64 360)) (h1 : w.cell? ⟨g, 1, none⟩ = some (.int .i64 840)) :
    Calls Tryd.prog 15 #[.slice (some ⟨g, 0, none⟩) 1 1] w fun e w' => ∃ b, e = .returned (.tuple #[.pointer (some ⟨b, 0, none⟩), .int .i64 0]) ∧ IsCal w' b one ∧ Below w.heap.size w w' := by
  refine (new_any (some ⟨g, 0, none⟩) 1 one w (one_C w g h0 h1) (Nat.le_refl _)).mono ?_
  rintro e w' ⟨hb, ⟨_, b, rfl, _, hc⟩ | ⟨h, _⟩⟩
  · exact ⟨b, rfl, hc, hb⟩
  · exact absurd one_new h
end
set_option maxHeartbeats 2000000 in
theorem awake_any (w : World) (hT : Tab w) : Calls Tryd.prog 14 #[] w fun e w' => e = .returned (.bool true) ∧ Below w.heap.size w w' := by
  have HT := Aside0.mk hT
  clear hT
  go_enter Tryd.func14, Tryd.ntmps14
  go_wp2_with fail
  refine (aw_new w.heap.size _ (by go_simp) (by go_simp)).mono ?_
  rintro e w1 ⟨b, rfl, hc1, hb1⟩
  have B1 := Aside0.mk (below_step ((Below.refl w.heap.size w).alloc (Nat.le_refl _) _) hb1)
  have C1 := Aside0.mk hc1
  clear hc1 hb1
  go_wp2_with fail
  refine (aw_add1 b _ C1.out).mono ?_
  rintro e w2 ⟨rfl, hb⟩
  have B2 := Aside0.mk (below_step B1.out hb)
  have C2 := Aside0.mk (C1.out.below hb)
  clear hb C1 B1
  go_wp2_with fail
  refine (aw_add2 b _ C2.out).mono ?_
  rintro e w3 ⟨rfl, hb⟩
  have B3 := Aside0.mk (below_step B2.out hb)
  have C3 := Aside0.mk (C2.out.below hb)
  clear hb C2 B2
  go_wp2_with fail
  refine (aw_next b _ C3.out).mono ?_
  rintro e _ ⟨rfl, rfl⟩
  go_wp2_with fail
  refine (aw_parse _).mono ?_
  rintro e w4 ⟨rfl, hb⟩
  have B4 := Aside0.mk (below_step B3.out hb)
  have C4 := Aside0.mk (C3.out.below hb)
  clear hb C3 B3
  go_wp2_with fail
  refine (aw_open1 b _ C4.out).mono ?_
  rintro e _ ⟨rfl, rfl⟩
  go_wp2_with fail
  refine (aw_open2 b _ C4.out).mono ?_
  rintro e _ ⟨rfl, rfl⟩
  go_wp2_with fail
  refine (aw_work b _ C4.out).mono ?_
  rintro e w5 ⟨rfl, hb⟩
  have B5 := Aside0.mk (below_step B4.out hb)
  clear hb C4 B4
  go_wp2_with fail
  refine (aw_fmt _ (tab_below HT.out B5.out)).mono ?_
  rintro e w6 ⟨rfl, hb⟩
  have B6 := Aside0.mk (below_step B5.out hb)
  clear hb B5
  go_wp2_with fail
  go_ret
  exact ⟨rfl, B6.out⟩
end Go.Proofs.YthdkfgpcdghblaaDoor.Cal
