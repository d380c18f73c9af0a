/-
  strings.Cut at a separator of one blank. For every string of at most 1000000 bytes; any other separator is left open.
-/
import Derived.Test.YthdkfgpcdghblaaDoorPAllx
import Derived.Test.YthdkfgpcdghblaaDoorShelf
namespace Go.Proofs.YthdkfgpcdghblaaDoor.Cal
open Go.RowKit Go.Proofs.YthdkfgpcdghblaaDoorW.PrintWords Go.Proofs.YthdkfgpcdghblaaDoorW.PrintLast Go.Proofs.YthdkfgpcdghblaaDoorW.PrintMore
open Go.Proofs.YthdkfgpcdghblaaDoor.PAll
set_option linter.unusedVariables false
set_option linter.unusedSimpArgs false

/-- Where the first blank is; -1: there is none. -/
def blank (s : ByteArray) : Int := Lib.indexByte s.data.toList 32
def strings_Cut.f (s sep : ByteArray) : Option (ByteArray × ByteArray × Bool) :=
  if sep = ⟨#[32]⟩ ∧ s.size ≤ 1000000 then (if 0 ≤ blank s then some (s.extract 0 (blank s).toNat, s.extract ((blank s).toNat + 1) s.size, true) else some (s, ⟨#[]⟩, false)) else none
theorem blank_cases (s : ByteArray) : blank s = -1 ∨ ∃ n : Nat, blank s = n ∧ n < s.size := by
  have hge : -1 ≤ blank s := Lib.indexByte_ge _ _
  by_cases h : blank s = -1
  · exact .inl h
  · refine .inr ⟨(blank s).toNat, by omega, ?_⟩
    have h1 := (Lib.indexByte_some (l := s.data.toList) (c := 32) (o := (blank s).toNat) (by show blank s = _; omega)).1
    have := (List.getElem?_eq_some_iff.1 h1).1
    simpa using this
theorem inner_index (s : ByteArray) (w : World) : Calls Tryd.prog 50 #[.string s, .string ⟨#[32]⟩] w fun e w' => e = .returned (.int .i64 (blank s)) ∧ w = w' :=
  (Tryd.stringslite_Index_one s 32 w).mono fun _ _ ⟨h1, h2⟩ => ⟨h1, h2.symm⟩
theorem cut_inner_yes (s : ByteArray) (n : Nat) (w : World) (hb : blank s = n) (hn : n < s.size) (hs : s.size ≤ 1000000) :
    Calls Tryd.prog 45 #[.string s, .string ⟨#[32]⟩] w fun e w' => e = .returned (.tuple #[.string (s.extract 0 n), .string (s.extract (n + 1) s.size), .bool true]) ∧ Drawn0 w w' := by
  have HI := Aside0.mk (show ∀ w, Calls Tryd.prog 50 #[.string s, .string ⟨#[32]⟩] w fun e w' => e = .returned (.int .i64 (n : Int)) ∧ w = w' by intro w; rw [← hb]; exact inner_index s w)
  have hle : n ≤ s.size := by omega
  have hle1 : n + 1 ≤ s.size := by omega
  clear hb
  go_enter Tryd.func45, Tryd.ntmps45
  go_wp2_with (go_at_call 50; refine (HI.out _).mono ?_; rintro e w' ⟨rfl, rfl⟩)
  go_region
  go_wp2_with fail
  refine bodyPost_ret (results_tmp3 rfl _ _ _) rfl ?_
  exact ⟨rfl, by repeat (first | exact Drawn0.refl _ | apply Drawn0.step | exact ⟨⟨1, rfl⟩⟩)⟩
theorem cut_inner_no (s : ByteArray) (w : World) (hb : blank s = -1) :
    Calls Tryd.prog 45 #[.string s, .string ⟨#[32]⟩] w fun e w' => e = .returned (.tuple #[.string s, .string ⟨#[]⟩, .bool false]) ∧ Drawn0 w w' := by
  have HI := Aside0.mk (show ∀ w, Calls Tryd.prog 50 #[.string s, .string ⟨#[32]⟩] w fun e w' => e = .returned (.int .i64 (-1)) ∧ w = w' by intro w; rw [← hb]; exact inner_index s w)
  clear hb
  go_enter Tryd.func45, Tryd.ntmps45
  go_wp2_with (go_at_call 50; refine (HI.out _).mono ?_; rintro e w' ⟨rfl, rfl⟩)
  refine bodyPost_ret (results_tmp3 rfl _ _ _) rfl ?_
  exact ⟨rfl, Drawn0.refl _⟩
theorem strings_Cut.calls (a0 a1 : ByteArray) (r1 r2 : ByteArray) (r3 : Bool) (w : World) (h : strings_Cut.f a0 a1 = some (r1, r2, r3)) :
    Calls Tryd.prog 35 #[.string a0, .string a1] w fun e w' => e = .returned (.tuple #[.string r1, .string r2, .bool r3]) ∧ Drawn0 w w' := by
  unfold strings_Cut.f at h
  by_cases hg : a1 = ⟨#[32]⟩ ∧ a0.size ≤ 1000000
  · rw [if_pos hg] at h
    obtain ⟨rfl, hs⟩ := hg
    have inner : Calls Tryd.prog 45 #[.string a0, .string ⟨#[32]⟩] w fun e w' => e = .returned (.tuple #[.string r1, .string r2, .bool r3]) ∧ Drawn0 w w' := by
      rcases blank_cases a0 with hb | ⟨n, hb, hn⟩
      · rw [if_neg (by omega)] at h
        simp only [Option.some.injEq, Prod.mk.injEq] at h
        obtain ⟨rfl, rfl, rfl⟩ := h
        exact cut_inner_no a0 w hb
      · rw [if_pos (by omega), hb, Int.toNat_natCast] at h
        simp only [Option.some.injEq, Prod.mk.injEq] at h
        obtain ⟨rfl, rfl, rfl⟩ := h
        exact cut_inner_yes a0 n w hb hn hs
    have HI := Aside0.mk inner
    clear inner h hs
    go_enter Tryd.func35, Tryd.ntmps35
    go_wp2_with (go_at_call 45; refine HI.out.mono ?_; rintro e w' ⟨rfl, hd⟩)
    refine bodyPost_ret (results_tmp3 rfl _ _ _) rfl ?_
    exact ⟨rfl, hd⟩
  · rw [if_neg hg] at h
    cases h
end Go.Proofs.YthdkfgpcdghblaaDoor.Cal
