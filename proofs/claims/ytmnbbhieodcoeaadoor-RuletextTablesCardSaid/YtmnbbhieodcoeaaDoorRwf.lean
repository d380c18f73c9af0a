/-
  The document's WellFormed says whether a tree is well-formed.
-/
import Derived.Test.YtmnbbhieodcoeaaDoorWfs
import Derived.Test.YtmnbbhieodcoeaaDoorPRexx
namespace Go.Proofs.YtmnbbhieodcoeaaDoor.Rt
open Go.RowKit Go.Proofs.YtmnbbhieodcoeaaDoorW.PrintWords Go.Proofs.YtmnbbhieodcoeaaDoorW.PrintLast Go.Proofs.YtmnbbhieodcoeaaDoorW.PrintMore
open Go.Proofs.YtmnbbhieodcoeaaDoor.PBase Go.Proofs.YtmnbbhieodcoeaaDoor.PScn Go.Proofs.YtmnbbhieodcoeaaDoor.PRex
set_option linter.unusedVariables false
set_option linter.unusedSimpArgs false
theorem rdigit_f (c : UInt8) : sawmillref02_digit.f (c.toNat : Int) = some (digB c) := by
  unfold sawmillref02_digit.f digB
  by_cases h : 48 ≤ c.toNat
  · rw [if_pos (by omega), decide_eq_true h, Bool.true_and]
    congr 1
    apply decide_eq_decide.2
    omega
  · rw [if_neg (by omega), decide_eq_false h, Bool.false_and]
theorem rname_l0 (s : ByteArray) (hs : s.size ≤ 1000) : ∀ (t : List UInt8) (i k : Nat), (bs s).drop i = t → t.length + 1 ≤ k → 1 ≤ i → sawmillref02_IsName.l0 k s (i : Int) = some (t.all okc) := by
  intro t
  induction t with
  | nil =>
    intro i k h hk _
    obtain ⟨k, rfl⟩ : ∃ k', k = k' + 1 := ⟨k - 1, by omega⟩
    have hl := congrArg List.length h
    rw [List.length_drop, bs_len, List.length_nil] at hl
    rw [sawmillref02_IsName.l0, if_neg (by omega)]
    rfl
  | cons c r ih =>
    intro i k h hk h1
    obtain ⟨k, rfl⟩ : ∃ k', k = k' + 1 := ⟨k - 1, by omega⟩
    have hi := lt_of_drop h
    have IH := ih (i + 1) k (drop_succ h) (by rw [List.length_cons] at hk; omega) (by omega)
    rw [sawmillref02_IsName.l0, if_pos (by omega), if_pos (by omega), bt_bs h, rdigit_f, wrap_id (n := (i : Int) + 1) (by omega) (by omega)]
    rw [show ((i : Int) + 1) = ((i + 1 : Nat) : Int) by omega, IH, Option.bind_some, List.all_cons]
    unfold okc
    by_cases h97 : (c.toNat : Int) ≥ 97
    · rw [if_pos h97]
      by_cases h122 : (c.toNat : Int) ≤ 122
      · rw [if_pos h122]; simp [show 97 ≤ c.toNat by omega, show c.toNat ≤ 122 by omega]
      · rw [if_neg h122, if_neg (by omega), if_neg (by omega)]
        cases hd : digB c with
        | true => simp
        | false => simp [show ¬ c.toNat = 95 by omega, show ¬ c.toNat ≤ 122 by omega]
    · rw [if_neg h97, if_neg (by omega)]
      by_cases h95 : c.toNat = 95
      · rw [if_pos (by omega)]; simp [h95]
      · rw [if_neg (by omega)]
        cases hd : digB c with
        | true => simp
        | false => simp [h95, show ¬ 97 ≤ c.toNat by omega]
theorem rIsName_eq (s : ByteArray) (k : Nat) (hk : 20 ≤ k) : sawmillref02_IsName.f k s = some (nameB (bs s)) := by
  obtain ⟨k, rfl⟩ : ∃ k', k = k' + 2 := ⟨k - 2, by omega⟩
  have h0 := bs_len s
  unfold sawmillref02_IsName.f
  cases hb : bs s with
  | nil =>
    rw [hb, List.length_nil] at h0
    rw [if_pos (by omega), sawmillref02_IsName.j0, if_pos rfl]; rfl
  | cons c r =>
    rw [hb, List.length_cons] at h0
    rw [if_neg (by omega), sawmillref02_IsName.j0]
    by_cases hl : (s.size : Int) > 16
    · rw [if_pos (by simpa using hl)]
      rw [nameB, List.length_cons]
      simp [show ¬ r.length + 1 ≤ 16 by omega]
    · have hbt : bt s 0 = (c.toNat : Int) := bt_bs (i := 0) (by rw [hb]; rfl)
      have hl0 := rname_l0 s (by omega) r 1 k (by rw [hb]; rfl) (by omega) (by omega)
      have hl0' : sawmillref02_IsName.l0 k s 1 = some (r.all okc) := hl0
      rw [if_neg (by simpa using hl), sawmillref02_IsName.l0, if_pos (by omega), if_pos (by omega), hbt, wrap_id (n := 0 + 1) (by omega) (by omega)]
      show (if (c.toNat : Int) ≥ 97 then if (c.toNat : Int) ≤ 122 then sawmillref02_IsName.l0 k s 1 else _ else _) = _
      rw [hl0', nameB, List.length_cons, List.all_cons]
      have h16 : decide (r.length + 1 ≤ 16) = true := by simp; omega
      rw [h16]
      by_cases h97 : (c.toNat : Int) ≥ 97
      · rw [if_pos h97]
        by_cases h122 : (c.toNat : Int) ≤ 122
        · rw [if_pos h122]
          have hd : digB c = false := by unfold digB; simp; omega
          have ho : okc c = true := by unfold okc; simp; omega
          rw [hd, ho]
          simp [show ¬ c.toNat = 95 by omega]
        · rw [if_neg h122, if_pos rfl]
          have hd : digB c = false := by unfold digB; simp; omega
          have ho : okc c = false := by unfold okc; rw [hd]; simp; omega
          rw [ho]; simp
      · rw [if_neg h97, if_pos rfl]
        by_cases hd : digB c = true
        · rw [hd]; simp
        · by_cases h95 : c.toNat = 95
          · simp [h95]
          · have ho : okc c = false := by unfold okc; rw [Bool.not_eq_true] at hd; rw [hd]; simp; omega
            rw [ho]; simp
theorem named_eq (s : ByteArray) (k : Nat) (hk : 20 ≤ k) : sawmillref44_Named.f k s = some (nmB (bs s)) := by
  unfold sawmillref44_Named.f nmB resB
  rw [rIsName_eq s k hk, Option.bind_some, toList_bs]
  cases nameB (bs s) with
  | false => rfl
  | true =>
    rw [if_pos rfl]
    by_cases h1 : bs s = [97, 110, 100]
    · rw [if_pos h1]; simp [h1]
    rw [if_neg h1]
    by_cases h2 : bs s = [111, 114]
    · rw [if_pos h2]; simp [h2]
    rw [if_neg h2]
    by_cases h3 : bs s = [110, 111, 116]
    · rw [if_pos h3]; simp [h3]
    rw [if_neg h3]
    by_cases h4 : bs s = [119, 104, 101, 110]
    · rw [if_pos h4]; simp [h4]
    rw [if_neg h4]
    by_cases h5 : bs s = [103, 114, 97, 100, 101]
    · simp [h5]
    · simp [h1, h2, h3, h4, h5]
theorem fo_up {k k' : Nat} (h : k ≤ k') {x : S24} {r : Bool} (e : sawmillref44_formed.f k x.f0 x.f1 x.f2 x.f3 = some r) : sawmillref44_formed.f k' x.f0 x.f1 x.f2 x.f3 = some r :=
  up_le (g := fun k => sawmillref44_formed.f k x.f0 x.f1 x.f2 x.f3) (fun k => sawmillref44_formed.mono _ _ _ _ k) h r e
theorem fol_up {k k' : Nat} (h : k ≤ k') {i a b : Int} {s : ByteArray} {l : List S24} {r : Bool} (e : sawmillref44_formed.l0 k i a b s l = some r) : sawmillref44_formed.l0 k' i a b s l = some r := by
  refine up_le (g := fun k => sawmillref44_formed.l0 k i a b s l) (fun k => ?_) h r e
  obtain ⟨_, _, _, _, h5, _⟩ := sawmillref44_formed.mono_l k
  exact h5 _ _ _ _ _
theorem fo_loop (op n : Int) (s : ByteArray) (P : S24 → Prop) (l : List S24) (hl : l.length ≤ 20) (IH : ∀ c ∈ l, ∃ k b, sawmillref44_formed.f k c.f0 c.f1 c.f2 c.f3 = some b ∧ (b = true ↔ P c)) :
    ∀ (suf pre : List S24), pre ++ suf = l → ∃ k b, sawmillref44_formed.l0 k (pre.length : Int) op n s l = some b ∧ (b = true ↔ ∀ c ∈ suf, P c) := by
  intro suf
  induction suf with
  | nil =>
    intro pre hp
    simp at hp
    subst hp
    exact ⟨1, true, by rw [sawmillref44_formed.l0, if_neg (by omega)], by simp⟩
  | cons c suf ih =>
    intro pre hp
    have hlen : l.length = pre.length + 1 + suf.length := by rw [← hp]; simp; omega
    have hrd : rd_T24 l (pre.length : Int) = c := by rw [← hp]; exact rd_mid pre c suf
    obtain ⟨k1, b1, e1, g1⟩ := IH c (by rw [← hp]; simp)
    obtain ⟨k2, b2, e2, g2⟩ := ih (pre ++ [c]) (by rw [← hp]; simp)
    have hc : (((pre ++ [c]).length : Nat) : Int) = (pre.length : Int) + 1 := by simp
    rw [hc] at e2
    refine ⟨max k1 k2 + 1, (b1 && b2), ?_, by rw [Bool.and_eq_true, g1, g2, List.forall_mem_cons]⟩
    rw [sawmillref44_formed.l0, if_pos (by omega), if_pos (by omega), hrd, fo_up (Nat.le_max_left k1 k2) e1, Option.bind_some, wrap_id (n := (pre.length : Int) + 1) (by omega) (by omega)]
    cases b1
    · rfl
    · rw [if_pos rfl, fol_up (Nat.le_max_right k1 k2) e2]; rfl
theorem wf_all : ∀ l : List S24, (∀ c ∈ l, ∃ d, WF d c) → ∃ d, ∀ c ∈ l, WF d c
  | [], _ => ⟨0, by simp⟩
  | x :: xs, h => by
    obtain ⟨d1, h1⟩ := h x (List.mem_cons_self ..)
    obtain ⟨d2, h2⟩ := wf_all xs (fun c hc => h c (List.mem_cons_of_mem _ hc))
    exact ⟨max d1 d2, fun c hc => by
      rcases List.mem_cons.1 hc with rfl | hc
      · exact wf_le h1 _ (Nat.le_max_left _ _)
      · exact wf_le (h2 c hc) _ (Nat.le_max_right _ _)⟩
theorem wf_ex (op n : Int) (s : ByteArray) (l : List S24) : (∃ d, WF d ⟨op, n, s, l⟩) ↔ NodeOk op n s l.length ∧ ∀ c ∈ l, ∃ d, WF d c := by
  constructor
  · rintro ⟨d, h⟩
    cases d with
    | zero => exact absurd h (wf_zero _)
    | succ d =>
      rw [wf_iff] at h
      exact ⟨h.1, fun c hc => ⟨d, h.2 c hc⟩⟩
  · rintro ⟨h, hc⟩
    obtain ⟨d, hd⟩ := wf_all l hc
    exact ⟨d + 1, (wf_iff d op n s l).2 ⟨h, hd⟩⟩
theorem formed_any (x : S24) : ∀ m, wee m x → ∃ k b, sawmillref44_formed.f k x.f0 x.f1 x.f2 x.f3 = some b ∧ (b = true ↔ ∃ d, WF d x) := by
  induction x using tree_ind with
  | h x ih =>
  intro m hm
  obtain ⟨_, hl, _, hw⟩ := wee_open hm
  cases x with
  | mk op n s l =>
  simp only at hl hw ih
  obtain ⟨k0, b0, e0, g0⟩ := fo_loop op n s (fun c => ∃ d, WF d c) l (by omega) (fun c hc => ih c hc (m - 1) (wees_mem hw c hc)) l [] rfl
  have e0' : sawmillref44_formed.l0 k0 0 op n s l = some b0 := e0
  clear e0 ih
  refine ⟨max k0 20 + 5, ?_⟩
  show ∃ b, sawmillref44_formed.f (max k0 20 + 5) op n s l = some b ∧ _
  rw [wf_ex]
  have J3 : ∀ fl : Bool, ∃ b, sawmillref44_formed.j3 (max k0 20 + 1) fl op n s l = some b ∧ (b = true ↔ fl = false ∧ ∀ c ∈ l, ∃ d, WF d c) := by
    intro fl
    rw [sawmillref44_formed.j3]
    cases fl with
    | true => exact ⟨false, rfl, by simp⟩
    | false => rw [if_neg (by decide), fol_up (Nat.le_max_left k0 20) e0']; exact ⟨b0, rfl, by rw [g0]; simp⟩
  have J2 : ∀ fl : Bool, ∃ b, sawmillref44_formed.j2 (max k0 20 + 2) fl op n s l = some b ∧ (b = true ↔ (fl = false ∧ (if op = 2 then isNm s else s = ⟨#[]⟩)) ∧ ∀ c ∈ l, ∃ d, WF d c) := by
    intro fl
    rw [sawmillref44_formed.j2]
    cases fl with
    | true => exact ⟨false, rfl, by simp⟩
    | false =>
      rw [if_neg (by decide)]
      by_cases h2 : op = 2
      · rw [if_pos h2, named_eq s _ (by omega), Option.bind_some, if_pos h2]
        cases hb : nmB (bs s) with
        | true =>
          rw [if_pos rfl]
          obtain ⟨b, e, g⟩ := J3 false
          exact ⟨b, e, g.trans (by rw [isNm_iff, hb]; simp)⟩
        | false =>
          rw [if_neg (by decide)]
          obtain ⟨b, e, g⟩ := J3 true
          exact ⟨b, e, g.trans (by rw [isNm_iff, hb]; simp)⟩
      · rw [if_neg h2, if_neg h2]
        obtain ⟨b, e, g⟩ := J3 (s.toList != ([] : List UInt8))
        exact ⟨b, e, g.trans (by rw [← toList_nil]; simp)⟩
  have J1 : ∀ need : Nat, (∀ q, NodeOk op n s q → q = need) → (1 ≤ op → op ≤ 11 → -1099511627776 ≤ n → n ≤ 1099511627776 → (n = 0 ∨ op = 1) → (if op = 2 then isNm s else s = ⟨#[]⟩) → NodeOk op n s need) →
      ∃ b, sawmillref44_formed.j1 (max k0 20 + 3) (need : Int) op n s l = some b ∧ (b = true ↔ NodeOk op n s l.length ∧ ∀ c ∈ l, ∃ d, WF d c) := by
    intro need hu hk
    have bad : (∀ q, q = l.length → ¬ NodeOk op n s q) → ∃ b, sawmillref44_formed.j2 (max k0 20 + 2) true op n s l = some b ∧ (b = true ↔ NodeOk op n s l.length ∧ ∀ c ∈ l, ∃ d, WF d c) := by
      intro h
      obtain ⟨b, e, g⟩ := J2 true
      exact ⟨b, e, g.trans ⟨fun hh => (by cases hh.1.1), fun hh => absurd hh.1 (h _ rfl)⟩⟩
    have good : ∀ fl : Bool, l.length = need → 1 ≤ op → op ≤ 11 → -1099511627776 ≤ n → n ≤ 1099511627776 → (fl = false ↔ (n = 0 ∨ op = 1)) → ∃ b, sawmillref44_formed.j2 (max k0 20 + 2) fl op n s l = some b ∧ (b = true ↔ NodeOk op n s l.length ∧ ∀ c ∈ l, ∃ d, WF d c) := by
      intro fl hln h1 h11 ha hb hf
      obtain ⟨b, e, g⟩ := J2 fl
      refine ⟨b, e, g.trans ⟨fun hh => ⟨hln ▸ hk h1 h11 ha hb (hf.1 hh.1.1) hh.1.2, hh.2⟩, fun hh => ⟨⟨?_, ?_⟩, hh.2⟩⟩⟩
      · rw [hf]; have := hh.1; unfold NodeOk at this; rcases this with h | h | h | h <;> simp [h.1, h.2.1]
      · have := hh.1
        unfold NodeOk at this
        rcases this with h | h | h | h
        · rw [if_neg (by omega)]; exact h.2.1
        · rw [if_pos h.1]; exact h.2.2.1
        · rw [if_neg (by omega)]; exact h.2.2.1
        · rw [if_neg (by omega)]; exact h.2.2.1
    rw [sawmillref44_formed.j1]
    by_cases h1 : op < 1
    · rw [if_pos h1]; exact bad (fun q hq h => by unfold NodeOk at h; omega)
    by_cases h11 : op > 11
    · rw [if_neg h1, if_pos h11]; exact bad (fun q hq h => by unfold NodeOk at h; omega)
    rw [if_neg h1, if_neg h11]
    by_cases hln : l.length = need
    case neg => rw [if_neg (by omega)]; exact bad (fun q hq h => hln (hq ▸ hu q h))
    rw [if_pos (by omega)]
    by_cases ha : n < -1099511627776
    · rw [if_pos ha]; exact bad (fun q hq h => by unfold NodeOk at h; omega)
    by_cases hb : n > 1099511627776
    · rw [if_neg ha, if_pos hb]; exact bad (fun q hq h => by unfold NodeOk at h; omega)
    rw [if_neg ha, if_neg hb]
    by_cases h0 : n = 0
    · rw [if_pos h0]; exact good false hln (by omega) (by omega) (by omega) (by omega) (by simp [h0])
    · rw [if_neg h0]; exact good (op != 1) hln (by omega) (by omega) (by omega) (by omega) (by simp [h0])
  rw [sawmillref44_formed.f]
  by_cases h1 : op = 1
  · rw [if_pos h1, sawmillref44_formed.j0, if_pos (by simp [h1])]
    exact J1 0 (fun q h => by unfold NodeOk at h; omega) (fun _ _ ha hb _ hs => by rw [if_neg (by omega)] at hs; exact .inl ⟨h1, hs, ha, hb, rfl⟩)
  rw [if_neg h1, sawmillref44_formed.j0]
  by_cases h2 : op = 2
  · rw [if_pos (by simp [h2])]
    exact J1 0 (fun q h => by unfold NodeOk at h; omega) (fun _ _ ha hb hn hs => by rw [if_pos h2] at hs; exact .inr (.inl ⟨h2, by omega, hs, rfl⟩))
  rw [if_neg (by simp [h2])]
  by_cases h9 : op = 9
  · rw [if_pos h9]
    exact J1 1 (fun q h => by unfold NodeOk at h; omega) (fun _ _ ha hb hn hs => by rw [if_neg h2] at hs; exact .inr (.inr (.inl ⟨h9, by omega, hs, rfl⟩)))
  · rw [if_neg h9]
    exact J1 2 (fun q h => by unfold NodeOk at h; omega) (fun _ _ ha hb hn hs => by rw [if_neg h2] at hs; exact .inr (.inr (.inr ⟨by omega, by omega, hs, rfl⟩)))
theorem rdepth_up {k k' : Nat} (h : k ≤ k') {x : S24} {v : Int} (e : sawmillref44_Depth.f k x.f0 x.f1 x.f2 x.f3 = some v) : sawmillref44_Depth.f k' x.f0 x.f1 x.f2 x.f3 = some v :=
  up_le (g := fun k => sawmillref44_Depth.f k x.f0 x.f1 x.f2 x.f3) (fun k => (sawmillref44_Depth.mono_l k).1 x.f0 x.f1 x.f2 x.f3) h v e
theorem rdepth_leaf (a b : Int) (s : ByteArray) : sawmillref44_Depth.f 2 a b s [] = some 1 := by
  rw [sawmillref44_Depth.f, sawmillref44_Depth.l0, if_neg (by simp)]
  exact congrArg some (wrap_id (by omega) (by omega))
theorem rdepth_wf {d : Nat} {x : S24} (h : WF d x) (hd : d ≤ 100000) : ∃ k v, sawmillref44_Depth.f k x.f0 x.f1 x.f2 x.f3 = some v ∧ 1 ≤ v ∧ v ≤ d ∧ ∀ e : Nat, WF e x ↔ v ≤ e := by
  have w01 : wrap64 (0 + 1) = 1 := wrap_id (by omega) (by omega)
  have w11 : wrap64 (1 + 1) = 2 := wrap_id (by omega) (by omega)
  induction h with
  | num d n h0 h1 => exact ⟨2, 1, rdepth_leaf _ _ _, by omega, by omega, fun e => ⟨fun h => by cases h; omega, fun h => wf_le (WF.num 0 n h0 h1) _ (by omega)⟩⟩
  | nam d s h0 => exact ⟨2, 1, rdepth_leaf _ _ _, by omega, by omega, fun e => ⟨fun h => by cases h; omega, fun h => wf_le (WF.nam 0 s h0) _ (by omega)⟩⟩
  | neg d a _ ih =>
    obtain ⟨k, v, e, h1, h2, hv⟩ := ih (by omega)
    refine ⟨k + 3, v + 1, ?_, by omega, by omega, fun m => ⟨fun h => ?_, fun h => ?_⟩⟩
    · show sawmillref44_Depth.f (k + 3) 9 0 ⟨#[]⟩ [a] = _
      rw [sawmillref44_Depth.f, sawmillref44_Depth.l0, if_pos (show (0 : Int) < (([a] : List S24).length : Int) from Int.one_pos), if_pos (by decide)]
      show (sawmillref44_Depth.f (k + 1) a.f0 a.f1 a.f2 a.f3).bind _ = _
      rw [rdepth_up (Nat.le_succ k) e, Option.bind_some, w01, sawmillref44_Depth.l0, if_neg (show ¬ (1 : Int) < (([a] : List S24).length : Int) from Int.lt_irrefl 1)]
      unfold mx
      rw [if_pos (by omega), wrap_id (by omega) (by omega)]
    · cases h with
      | neg m' _ ha => have := (hv _).1 ha; omega
    · obtain ⟨m', rfl⟩ : ∃ m', m = m' + 1 := ⟨m - 1, by omega⟩
      exact WF.neg m' a ((hv m').2 (by omega))
  | two d op a b hop _ _ iha ihb =>
    obtain ⟨k, v, e, h1, h2, hv⟩ := iha (by omega)
    obtain ⟨k', v', e', h1', h2', hv'⟩ := ihb (by omega)
    refine ⟨max k k' + 4, (if v < v' then v' else v) + 1, ?_, by split <;> omega, by split <;> omega, fun m => ⟨fun h => ?_, fun h => ?_⟩⟩
    · show sawmillref44_Depth.f (max k k' + 4) op 0 ⟨#[]⟩ [a, b] = _
      have h2l : (([a, b] : List S24).length : Int) = 2 := rfl
      rw [sawmillref44_Depth.f, sawmillref44_Depth.l0, if_pos (by rw [h2l]; decide), if_pos (by decide)]
      show (sawmillref44_Depth.f (max k k' + 2) a.f0 a.f1 a.f2 a.f3).bind _ = _
      rw [rdepth_up (show k ≤ max k k' + 2 by omega) e, Option.bind_some, w01, sawmillref44_Depth.l0, if_pos (by rw [h2l]; decide), if_pos (by decide)]
      show (sawmillref44_Depth.f (max k k' + 1) b.f0 b.f1 b.f2 b.f3).bind _ = _
      rw [rdepth_up (show k' ≤ max k k' + 1 by omega) e', Option.bind_some, w11, sawmillref44_Depth.l0, if_neg (by rw [h2l]; decide)]
      unfold mx
      rw [if_pos (show (0:Int) < v by omega)]
      congr 1
      split
      · rw [wrap_id (by omega) (by omega)]
      · rw [wrap_id (by omega) (by omega)]
    · cases h with
      | two m' _ _ _ _ ha hb =>
        have := (hv _).1 ha
        have := (hv' _).1 hb
        split <;> omega
    · obtain ⟨m', rfl⟩ : ∃ m', m = m' + 1 := ⟨m - 1, by split at h <;> omega⟩
      exact WF.two m' op a b hop ((hv m').2 (by split at h <;> omega)) ((hv' m').2 (by split at h <;> omega))
theorem wee_wf (x : S24) : ∀ m, wee m x → ∀ d, WF d x → WF m x := by
  induction x using tree_ind with
  | h x ih =>
  intro m hm d hd
  obtain ⟨h0, _, _, hw⟩ := wee_open hm
  cases x with
  | mk op n s l =>
  obtain ⟨e, rfl⟩ : ∃ e, m = e + 1 := ⟨m - 1, by omega⟩
  cases d with
  | zero => exact absurd hd (wf_zero _)
  | succ d =>
    rw [wf_iff] at hd ⊢
    exact ⟨hd.1, fun c hc => ih c hc e (wees_mem hw c hc) d (hd.2 c hc)⟩
theorem rwf_any (x : S24) (m : Nat) (hm : wee m x) (hle : m ≤ 100000) : ∃ k b, sawmillref44_WellFormed.f k x.f0 x.f1 x.f2 x.f3 = some b ∧ (b = true ↔ WF 8 x) := by
  obtain ⟨k, b, e, g⟩ := formed_any x m hm
  cases b with
  | false =>
    refine ⟨k, false, ?_, ?_⟩
    · unfold sawmillref44_WellFormed.f
      rw [e, Option.bind_some, if_neg (by decide)]
    · exact ⟨fun h => (by cases h), fun h => absurd (g.2 ⟨8, h⟩) (by decide)⟩
  | true =>
    obtain ⟨d, hd⟩ := g.1 rfl
    have hdm := wee_wf x m hm d hd
    obtain ⟨k', v, e', h1, h2, hv⟩ := rdepth_wf hdm hle
    have E := fo_up (Nat.le_max_left k k') e
    have E' := rdepth_up (Nat.le_max_right k k') e'
    refine ⟨max k k', decide (v ≤ 8), ?_, ?_⟩
    · unfold sawmillref44_WellFormed.f
      rw [E, Option.bind_some, if_pos rfl, E', Option.bind_some]
    · rw [decide_eq_true_iff]
      exact (hv 8).symm
end Go.Proofs.YtmnbbhieodcoeaaDoor.Rt
