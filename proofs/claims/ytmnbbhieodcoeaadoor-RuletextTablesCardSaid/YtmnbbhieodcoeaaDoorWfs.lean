/-
  wellFormed says whether a tree is well-formed.
-/
import Derived.Test.YtmnbbhieodcoeaaDoorTok
import Derived.Test.YtmnbbhieodcoeaaDoorPWfx
namespace Go.Proofs.YtmnbbhieodcoeaaDoor.Rt
open Go.RowKit Go.Proofs.YtmnbbhieodcoeaaDoorW.PrintWords Go.Proofs.YtmnbbhieodcoeaaDoorW.PrintLast Go.Proofs.YtmnbbhieodcoeaaDoorW.PrintMore
open Go.Proofs.YtmnbbhieodcoeaaDoor.PBase Go.Proofs.YtmnbbhieodcoeaaDoor.PScn Go.Proofs.YtmnbbhieodcoeaaDoor.PWf
set_option linter.unusedVariables false
set_option linter.unusedSimpArgs false
def NodeOk (op n : Int) (s : ByteArray) (need : Nat) : Prop :=
  (op = 1 ∧ s = ⟨#[]⟩ ∧ -1099511627776 ≤ n ∧ n ≤ 1099511627776 ∧ need = 0) ∨ (op = 2 ∧ n = 0 ∧ isNm s ∧ need = 0) ∨ (op = 9 ∧ n = 0 ∧ s = ⟨#[]⟩ ∧ need = 1) ∨ ((3 ≤ op ∧ op ≤ 8 ∨ op = 10 ∨ op = 11) ∧ n = 0 ∧ s = ⟨#[]⟩ ∧ need = 2)
theorem wf_iff (d : Nat) (op n : Int) (s : ByteArray) (l : List S24) : WF (d + 1) ⟨op, n, s, l⟩ ↔ NodeOk op n s l.length ∧ ∀ c ∈ l, WF d c := by
  constructor
  · intro h
    cases h with
    | num d n h0 h1 => exact ⟨.inl ⟨rfl, rfl, h0, h1, rfl⟩, by simp⟩
    | nam d s h => exact ⟨.inr (.inl ⟨rfl, rfl, h, rfl⟩), by simp⟩
    | neg d a h => exact ⟨.inr (.inr (.inl ⟨rfl, rfl, rfl, rfl⟩)), by simpa using h⟩
    | two d op a b hop ha hb => exact ⟨.inr (.inr (.inr ⟨hop, rfl, rfl, rfl⟩)), by simpa using ⟨ha, hb⟩⟩
  · rintro ⟨h, hc⟩
    rcases h with ⟨rfl, rfl, h0, h1, hl⟩ | ⟨rfl, rfl, h, hl⟩ | ⟨rfl, rfl, rfl, hl⟩ | ⟨hop, rfl, rfl, hl⟩
    · rw [List.eq_nil_of_length_eq_zero hl]; exact .num d n h0 h1
    · rw [List.eq_nil_of_length_eq_zero hl]; exact .nam d s h
    · match l, hl with
      | [a], _ => exact .neg d a (hc a (by simp))
    · match l, hl with
      | [a, b], _ => exact .two d op a b hop (hc a (by simp)) (hc b (by simp))
theorem wf_zero (x : S24) : ¬ WF 0 x := by intro h; cases h
theorem wf_le {d : Nat} {x : S24} (h : WF d x) : ∀ d', d ≤ d' → WF d' x := by
  induction h with
  | num d n h0 h1 => intro d' hd; obtain ⟨e, rfl⟩ : ∃ e, d' = e + 1 := ⟨d' - 1, by omega⟩; exact .num e n h0 h1
  | nam d s h => intro d' hd; obtain ⟨e, rfl⟩ : ∃ e, d' = e + 1 := ⟨d' - 1, by omega⟩; exact .nam e s h
  | neg d a _ ih => intro d' hd; obtain ⟨e, rfl⟩ : ∃ e, d' = e + 1 := ⟨d' - 1, by omega⟩; exact .neg e a (ih e (by omega))
  | two d op a b hop _ _ iha ihb => intro d' hd; obtain ⟨e, rfl⟩ : ∃ e, d' = e + 1 := ⟨d' - 1, by omega⟩; exact .two e op a b hop (iha e (by omega)) (ihb e (by omega))
theorem toList_nil (s : ByteArray) : s.toList = [] ↔ s = ⟨#[]⟩ := by
  constructor
  · intro h
    rw [toList_bs] at h
    exact bs_ext h
  · rintro rfl
    rw [toList_bs]; rfl
theorem wfl_up {k k' : Nat} (h : k ≤ k') {a : Int} {l : List S24} {b c : Int} {r : Bool} (e : ruletext_wellFormed.l0 k a l b c = some r) : ruletext_wellFormed.l0 k' a l b c = some r :=
  up_le (g := fun k => ruletext_wellFormed.l0 k a l b c) (fun k => (ruletext_wellFormed.mono_l k).2.2.2 a l b c) h r e
theorem wff_up {k k' : Nat} (h : k ≤ k') {x : S24} {a : Int} {r : Bool} (e : ruletext_wellFormed.f k x.f0 x.f1 x.f2 x.f3 a = some r) : ruletext_wellFormed.f k' x.f0 x.f1 x.f2 x.f3 a = some r :=
  up_le (g := fun k => ruletext_wellFormed.f k x.f0 x.f1 x.f2 x.f3 a) (fun k => (ruletext_wellFormed.mono_l k).1 _ _ _ _ _) h r e
theorem wf_loop (L : Int) (P : S24 → Prop) (l : List S24) (hL : 1 ≤ L) (hL' : L ≤ 8) (hl : l.length ≤ 20) (IH : ∀ c ∈ l, ∃ k b, ruletext_wellFormed.f k c.f0 c.f1 c.f2 c.f3 (L + 1) = some b ∧ (b = true ↔ P c)) :
    ∀ (suf pre : List S24), pre ++ suf = l → ∃ k b, ruletext_wellFormed.l0 k L l (l.length : Int) (pre.length : Int) = some b ∧ (b = true ↔ ∀ c ∈ suf, P c) := by
  intro suf
  induction suf with
  | nil =>
    intro pre hp
    simp at hp
    subst hp
    exact ⟨1, true, by rw [ruletext_wellFormed.l0, if_neg (by omega)], by simp⟩
  | cons c suf ih =>
    intro pre hp
    have hlen : l.length = pre.length + 1 + suf.length := by rw [← hp]; simp; omega
    have hrd : rd_T24 l (pre.length : Int) = c := by rw [← hp]; exact rd_mid pre c suf
    obtain ⟨k1, b1, e1, g1⟩ := IH c (by rw [← hp]; simp)
    obtain ⟨k2, b2, e2, g2⟩ := ih (pre ++ [c]) (by rw [← hp]; simp)
    have hc : (((pre ++ [c]).length : Nat) : Int) = (pre.length : Int) + 1 := by simp
    rw [hc] at e2
    refine ⟨max k1 k2 + 1, (b1 && b2), ?_, by rw [Bool.and_eq_true, g1, g2, List.forall_mem_cons]⟩
    rw [ruletext_wellFormed.l0, if_pos (by omega), if_pos (by omega), if_pos (by omega), hrd, wrap_id (n := L + 1) (by omega) (by omega), wff_up (Nat.le_max_left k1 k2) e1, Option.bind_some, wrap_id (n := (pre.length : Int) + 1) (by omega) (by omega)]
    cases b1
    · rfl
    · rw [if_pos rfl, wfl_up (Nat.le_max_right k1 k2) e2]; rfl
theorem wf_f (x : S24) : ∀ m, wee m x → ∀ d : Nat, d ≤ 8 → ∃ k b, ruletext_wellFormed.f k x.f0 x.f1 x.f2 x.f3 (9 - (d : Int)) = some b ∧ (b = true ↔ WF d x) := by
  induction x using tree_ind with
  | h x ih =>
  intro m hm d hd
  obtain ⟨_, hl, _, hw⟩ := wee_open hm
  cases x with
  | mk op n s l =>
  simp only at hl hw ih
  show ∃ k b, ruletext_wellFormed.f k op n s l (9 - (d : Int)) = some b ∧ _
  cases d with
  | zero =>
    refine ⟨2, false, ?_, by simp; exact wf_zero _⟩
    rw [ruletext_wellFormed.f, if_pos (by omega), ruletext_wellFormed.j0, if_pos rfl]
  | succ d =>
  obtain ⟨k0, b0, e0, g0⟩ := wf_loop (9 - ((d + 1 : Nat) : Int)) (WF d) l (by omega) (by omega) (by omega)
    (fun c hc => by
      obtain ⟨k, b, e, g⟩ := ih c hc (m - 1) (wees_mem hw c hc) d (by omega)
      refine ⟨k, b, ?_, g⟩
      rw [show (9 - ((d + 1 : Nat) : Int) + 1) = 9 - (d : Int) by omega]; exact e) l [] rfl
  have e0' : ruletext_wellFormed.l0 k0 (9 - ((d + 1 : Nat) : Int)) l (l.length : Int) 0 = some b0 := e0
  clear e0
  generalize hL : (9 - ((d + 1 : Nat) : Int)) = L at *
  have hL8 : ¬ L > 8 := by omega
  clear hL ih
  -- the tail: how many arguments, and what they are
  have J1 : ∀ need : Nat, ∃ b, ruletext_wellFormed.j1 (max k0 20 + 1) L (need : Int) op n s l = some b ∧ (b = true ↔ l.length = need ∧ ∀ c ∈ l, WF d c) := by
    intro need
    rw [ruletext_wellFormed.j1]
    by_cases h : l.length = need
    · rw [if_pos (by omega), wfl_up (Nat.le_max_left k0 20) e0']
      exact ⟨b0, rfl, by rw [g0]; simp [h]⟩
    · rw [if_neg (by omega)]
      exact ⟨false, rfl, by simp [h]⟩
  rw [wf_iff]
  refine ⟨max k0 20 + 3, ?_⟩
  rw [ruletext_wellFormed.f, if_neg hL8]
  have fin : ∀ (need : Nat) (Q : Prop), (Q ↔ NodeOk op n s need) → (∀ k, NodeOk op n s k → k = need) → Q → ∃ b, ruletext_wellFormed.j1 (max k0 20 + 1) L (need : Int) op n s l = some b ∧ (b = true ↔ NodeOk op n s l.length ∧ ∀ c ∈ l, WF d c) := by
    intro need Q hQ hu hq
    obtain ⟨b, e, g⟩ := J1 need
    refine ⟨b, e, g.trans ⟨fun h => ⟨h.1 ▸ hQ.1 hq, h.2⟩, fun h => ⟨hu _ h.1, h.2⟩⟩⟩
  have bad : (∀ k, ¬ NodeOk op n s k) → ∃ b, (some false : Option Bool) = some b ∧ (b = true ↔ NodeOk op n s l.length ∧ ∀ c ∈ l, WF d c) :=
    fun h => ⟨false, rfl, by simp only [Bool.false_eq_true, false_iff]; exact fun hh => h _ hh.1⟩
  by_cases h1 : op = 1
  · subst h1
    rw [if_pos rfl, if_neg (by decide), ruletext_wellFormed.j0]
    by_cases hs : s = ⟨#[]⟩
    · rw [if_neg (by rw [(toList_nil s).2 hs]; decide), if_pos rfl]
      by_cases ha : n < -1099511627776
      · rw [if_pos ha]; exact bad (fun k h => by unfold NodeOk at h; omega)
      by_cases hb : n > 1099511627776
      · rw [if_neg ha, if_pos hb]; exact bad (fun k h => by unfold NodeOk at h; omega)
      rw [if_neg ha, if_neg hb]
      exact fin 0 True ⟨fun _ => .inl ⟨rfl, hs, by omega, by omega, rfl⟩, fun _ => trivial⟩ (fun k h => by unfold NodeOk at h; omega) trivial
    · rw [if_pos (by simp only [bne_iff_ne, ne_eq]; exact fun e => hs ((toList_nil s).1 e))]
      exact bad (fun k h => by
        unfold NodeOk at h
        rcases h with h | h | h | h
        · exact hs h.2.1
        · omega
        · omega
        · omega)
  rw [if_neg h1]
  by_cases hn : n = 0
  case neg =>
    rw [if_neg hn, ruletext_wellFormed.j0, if_pos rfl]
    exact bad (fun k h => by
      unfold NodeOk at h
      rcases h with h | h | h | h
      · exact h1 h.1
      · exact hn h.2.1
      · exact hn h.2.1
      · exact hn h.2.1)
  rw [if_pos hn]
  by_cases h2 : op = 2
  · subst h2
    rw [if_pos rfl, ruletext_wellFormed.j0, if_neg (by decide), if_neg h1, if_pos rfl, rname_eq s (max k0 20 + 1) (by omega), Option.bind_some]
    cases hb : nmB (bs s) with
    | true =>
      rw [if_pos rfl]
      exact fin 0 True ⟨fun _ => .inr (.inl ⟨rfl, hn, (isNm_iff s).2 hb, rfl⟩), fun _ => trivial⟩ (fun k h => by unfold NodeOk at h; omega) trivial
    | false =>
      rw [if_neg (by decide)]
      exact bad (fun k h => by
        unfold NodeOk at h
        rcases h with h | h | h | h
        · omega
        · have := (isNm_iff s).1 h.2.2.1; rw [hb] at this; cases this
        · omega
        · omega)
  rw [if_neg h2, ruletext_wellFormed.j0]
  by_cases hs : s = ⟨#[]⟩
  case neg =>
    rw [if_pos (by simp only [bne_iff_ne, ne_eq]; exact fun e => hs ((toList_nil s).1 e))]
    exact bad (fun k h => by
      unfold NodeOk at h
      rcases h with h | h | h | h
      · exact hs h.2.1
      · exact h2 h.1
      · exact hs h.2.2.1
      · exact hs h.2.2.1)
  rw [if_neg (by rw [(toList_nil s).2 hs]; decide), if_neg h1, if_neg h2]
  by_cases h9 : op = 9
  · rw [if_pos h9]
    exact fin 1 True ⟨fun _ => .inr (.inr (.inl ⟨h9, hn, hs, rfl⟩)), fun _ => trivial⟩ (fun k h => by unfold NodeOk at h; omega) trivial
  rw [if_neg h9]
  by_cases hop : 3 ≤ op ∧ op ≤ 8 ∨ op = 10 ∨ op = 11
  · have := fin 2 True ⟨fun _ => .inr (.inr (.inr ⟨hop, hn, hs, rfl⟩)), fun _ => trivial⟩ (fun k h => by unfold NodeOk at h; omega) trivial
    have hc : op = 3 ∨ op = 4 ∨ op = 5 ∨ op = 6 ∨ op = 7 ∨ op = 8 ∨ op = 10 ∨ op = 11 := by omega
    rcases hc with h | h | h | h | h | h | h | h <;> simp only [h] at this ⊢ <;> exact this
  · rw [if_neg (by omega), if_neg (by omega), if_neg (by omega), if_neg (by omega), if_neg (by omega), if_neg (by omega), if_neg (by omega), if_neg (by omega)]
    exact bad (fun k h => by
      unfold NodeOk at h
      rcases h with h | h | h | h
      · exact h1 h.1
      · exact h2 h.1
      · exact h9 h.1
      · exact hop h.1)
end Go.Proofs.YtmnbbhieodcoeaaDoor.Rt
