/-
  The plain arithmetic of a week of shifts: what the calendar and the reference compute, over lists of pairs of numbers; nothing of the program stands here. No condition but those of each lemma.
-/
namespace Go.Proofs.YthdkfgpcdghblaaDoor.CMath

abbrev Sh := Int × Int

/-- The error of a list of shifts behind a time. -/
def chk : Int → List Sh → Int
  | _, [] => 0
  | last, s :: t => if s.1 < 0 ∨ s.2 ≤ s.1 ∨ 10080 < s.2 then 9 else if s.1 < last then 11 else chk s.2 t
def newE (l : List Sh) : Int := if l.length = 0 then 3 else if 21 < l.length then 4 else chk 0 l
/-- The shifts lie behind a time, one behind the other, in the week. -/
def Val : Int → List Sh → Prop
  | _, [] => True
  | last, s :: t => last ≤ s.1 ∧ s.1 < s.2 ∧ s.2 ≤ 10080 ∧ Val s.2 t

theorem chk_val : ∀ (l : List Sh) (last : Int), 0 ≤ last → chk last l = 0 → Val last l
  | [], _, _, _ => trivial
  | s :: t, last, h0, h => by
    unfold chk at h
    split at h
    · omega
    · split at h
      · omega
      · refine ⟨by omega, by omega, by omega, chk_val t s.2 (by omega) h⟩
theorem chk_cases : ∀ (l : List Sh) (last : Int), chk last l = 0 ∨ chk last l = 9 ∨ chk last l = 11
  | [], _ => .inl rfl
  | s :: t, last => by
    unfold chk
    split
    · exact .inr (.inl rfl)
    · split
      · exact .inr (.inr rfl)
      · exact chk_cases t s.2
theorem newE_val {l : List Sh} (h : newE l = 0) : Val 0 l ∧ 0 < l.length ∧ l.length ≤ 21 := by
  unfold newE at h
  split at h
  · omega
  · split at h
    · omega
    · exact ⟨chk_val l 0 (by omega) h, by omega, by omega⟩

def opn (m : Int) : List Sh → Bool
  | [] => false
  | s :: t => if s.1 ≤ m ∧ m < s.2 then true else opn m t
def nxt (m d : Int) : List Sh → Int
  | [] => d
  | s :: t => if m < s.2 then (if m < s.1 then s.1 else m) else nxt m d t
def nxr (m d : Int) : List Sh → Int
  | [] => d
  | s :: t => if m < s.1 then s.1 else nxr m d t
def mpart (m : Int) (s : Sh) : Int := if (if s.2 < m then s.2 else m) - s.1 > 0 then (if s.2 < m then s.2 else m) - s.1 else 0
def bef (m : Int) : List Sh → Int
  | [] => 0
  | s :: t => mpart m s + bef m t
def tot : List Sh → Int
  | [] => 0
  | s :: t => (s.2 - s.1) + tot t
def fnd (r : Int) : List Sh → Int
  | [] => 0
  | s :: t => if r ≤ s.2 - s.1 then s.1 + r else fnd (r - (s.2 - s.1)) t

theorem val_le : ∀ (l : List Sh) (a b : Int), a ≤ b → Val b l → Val a l
  | [], _, _, _, _ => trivial
  | _ :: _, _, _, h, hv => ⟨by have := hv.1; omega, hv.2.1, hv.2.2.1, hv.2.2.2⟩
theorem val_drop : ∀ (l : List Sh) (a : Int) (i : Nat), Val a l → Val a (l.drop i)
  | [], a, i, _ => by simp [Val]
  | s :: t, a, 0, h => h
  | s :: t, a, i + 1, h => by
    rw [List.drop_succ_cons]
    exact val_drop t a i (val_le t a s.2 (by have := h.1; have := h.2.1; omega) h.2.2.2)
theorem opn_lt : ∀ (l : List Sh) (last m : Int), Val last l → m < last → opn m l = false
  | [], _, _, _, _ => rfl
  | s :: t, last, m, h, hm => by
    unfold opn
    rw [if_neg (by have := h.1; omega)]
    exact opn_lt t s.2 m h.2.2.2 (by have := h.1; have := h.2.1; omega)
theorem mpart_bd (m : Int) (s : Sh) (h : s.1 < s.2) : 0 ≤ mpart m s ∧ mpart m s ≤ s.2 - s.1 := by
  unfold mpart
  split <;> split <;> omega
theorem bef_bd : ∀ (l : List Sh) (last m : Int), Val last l → 0 ≤ bef m l ∧ bef m l ≤ tot l
  | [], _, _, _ => ⟨Int.le_refl _, Int.le_refl _⟩
  | s :: t, last, m, h => by
    have ih := bef_bd t s.2 m h.2.2.2
    have := mpart_bd m s h.2.1
    unfold bef tot
    omega
theorem tot_bd : ∀ (l : List Sh) (last : Int), last ≤ 10080 → Val last l → 0 ≤ tot l ∧ tot l ≤ 10080 - last
  | [], _, h, _ => ⟨Int.le_refl _, by unfold tot; omega⟩
  | s :: t, last, _, h => by
    have ih := tot_bd t s.2 h.2.2.1 h.2.2.2
    have := h.1
    have := h.2.1
    unfold tot
    omega
theorem tot_pos : ∀ (l : List Sh) (last : Int), Val last l → 0 < l.length → 1 ≤ tot l
  | [], _, _, h => by simp at h
  | s :: t, last, h, _ => by
    have := (bef_bd t s.2 0 h.2.2.2).1
    have := (bef_bd t s.2 0 h.2.2.2).2
    have := h.2.1
    unfold tot
    omega
theorem bef_le : ∀ (l : List Sh) (last m : Int), Val last l → m ≤ last → bef m l = 0
  | [], _, _, _, _ => rfl
  | s :: t, last, m, h, hm => by
    have := h.1
    have := h.2.1
    unfold bef
    rw [bef_le t s.2 m h.2.2.2 (by omega)]
    unfold mpart
    split <;> split <;> omega
theorem bef_full : ∀ (l : List Sh) (last : Int), Val last l → bef 10080 l = tot l
  | [], _, _ => rfl
  | s :: t, last, h => by
    have := h.2.1
    have := h.2.2.1
    unfold bef tot
    rw [bef_full t s.2 h.2.2.2]
    unfold mpart
    split <;> split <;> omega
theorem bef_step : ∀ (l : List Sh) (last m : Int), Val last l → bef (m + 1) l = bef m l + (if opn m l = true then 1 else 0)
  | [], _, _, _ => rfl
  | s :: t, last, m, h => by
    have ih := bef_step t s.2 m h.2.2.2
    have := h.2.1
    unfold bef opn
    rw [ih]
    by_cases c : s.1 ≤ m ∧ m < s.2
    · rw [if_pos c, opn_lt t s.2 m h.2.2.2 c.2]
      simp only [if_true]
      rw [if_neg (by simp)]
      have : mpart (m + 1) s = mpart m s + 1 := by
        unfold mpart
        (repeat' split) <;> omega
      omega
    · rw [if_neg c]
      have : mpart (m + 1) s = mpart m s := by
        unfold mpart
        (repeat' split) <;> omega
      omega

/-- The minutes that have passed up to a time. -/
def pas (l : List Sh) (a : Int) : Int := a / 10080 * tot l + bef (a % 10080) l
theorem pas_step (l : List Sh) (a : Int) (h : Val 0 l) : pas l (a + 1) = pas l a + (if opn (a % 10080) l = true then 1 else 0) := by
  unfold pas
  have hs := bef_step l 0 (a % 10080) h
  by_cases c : a % 10080 = 10079
  · rw [c] at hs ⊢
    have e1 : (a + 1) / 10080 = a / 10080 + 1 := by omega
    have e2 : (a + 1) % 10080 = 0 := by omega
    rw [e1, e2, bef_le l 0 0 h (by omega)]
    have hf := bef_full l 0 h
    have e3 : (10079 : Int) + 1 = 10080 := rfl
    rw [e3] at hs
    rw [hf] at hs
    rw [Int.add_mul]
    omega
  · have e1 : (a + 1) / 10080 = a / 10080 := by omega
    have e2 : (a + 1) % 10080 = a % 10080 + 1 := by omega
    rw [e1, e2, hs]
    omega
theorem pas_mono (l : List Sh) (h : Val 0 l) (a : Int) : ∀ n : Nat, pas l a ≤ pas l (a + n)
  | 0 => by simp
  | n + 1 => by
    have ih := pas_mono l h a n
    have := pas_step l (a + n) h
    have e : a + ((n + 1 : Nat) : Int) = a + n + 1 := by omega
    rw [e, this]
    split <;> omega
theorem pas_le (l : List Sh) (h : Val 0 l) {a b : Int} (hab : a ≤ b) : pas l a ≤ pas l b := by
  have := pas_mono l h a (b - a).toNat
  have e : a + ((b - a).toNat : Int) = b := by omega
  rwa [e] at this
/-- No minute of a stretch is worked: nothing passes. -/
theorem pas_idle (l : List Sh) (h : Val 0 l) (a : Int) : ∀ n : Nat, (∀ x, a ≤ x → x < a + n → opn (x % 10080) l = false) → pas l (a + n) = pas l a
  | 0, _ => by simp
  | n + 1, hx => by
    have ih := pas_idle l h a n fun x h1 h2 => hx x h1 (by omega)
    have e : a + ((n + 1 : Nat) : Int) = a + n + 1 := by omega
    rw [e, pas_step l (a + n) h, hx (a + n) (by omega) (by omega), ih]
    simp
theorem pas_idle_le (l : List Sh) (h : Val 0 l) {a b : Int} (hab : a ≤ b) (hx : ∀ x, a ≤ x → x < b → opn (x % 10080) l = false) : pas l b = pas l a := by
  have := pas_idle l h a (b - a).toNat fun x h1 h2 => hx x h1 (by omega)
  have e : a + ((b - a).toNat : Int) = b := by omega
  rwa [e] at this
theorem pas_week (l : List Sh) (a : Int) : pas l (a + 10080) = pas l a + tot l := by
  unfold pas
  have e1 : (a + 10080) / 10080 = a / 10080 + 1 := by omega
  have e2 : (a + 10080) % 10080 = a % 10080 := by omega
  rw [e1, e2, Int.add_mul]
  omega
theorem pas_at (l : List Sh) (h : Val 0 l) (q r : Int) (h0 : 0 ≤ r) (h1 : r ≤ 10080) : pas l (q * 10080 + r) = q * tot l + bef r l := by
  unfold pas
  by_cases c : r = 10080
  · subst c
    have e1 : (q * 10080 + 10080) / 10080 = q + 1 := by omega
    have e2 : (q * 10080 + 10080) % 10080 = 0 := by omega
    rw [e1, e2, bef_le l 0 0 h (by omega), bef_full l 0 h, Int.add_mul]
    omega
  · have e1 : (q * 10080 + r) / 10080 = q := by omega
    have e2 : (q * 10080 + r) % 10080 = r := by omega
    rw [e1, e2]

/-! ### The next time -/
theorem nxt_open : ∀ (l : List Sh) (last m d : Int), Val last l → opn m l = true → nxt m d l = m
  | [], _, _, _, _, h => by simp [opn] at h
  | s :: t, last, m, d, hv, h => by
    unfold nxt
    unfold opn at h
    by_cases c : s.1 ≤ m ∧ m < s.2
    · rw [if_pos c.2, if_neg (by omega)]
    · rw [if_neg c] at h
      by_cases c2 : m < s.2
      · rw [opn_lt t s.2 m hv.2.2.2 c2] at h
        cases h
      · rw [if_neg c2]
        exact nxt_open t s.2 m d hv.2.2.2 h
theorem nxt_shut : ∀ (l : List Sh) (last m d : Int), Val last l → opn m l = false → nxt m d l = nxr m d l
  | [], _, _, _, _, _ => rfl
  | s :: t, last, m, d, hv, h => by
    unfold nxt nxr
    unfold opn at h
    have := hv.2.1
    by_cases c : s.1 ≤ m ∧ m < s.2
    · rw [if_pos c] at h
      cases h
    · rw [if_neg c] at h
      by_cases c2 : m < s.2
      · rw [if_pos c2, if_pos (by omega), if_pos (by omega)]
      · rw [if_neg c2, if_neg (by omega)]
        exact nxt_shut t s.2 m d hv.2.2.2 h
/-- Where the next time lies in this week: it is worked then; and not before. -/
theorem nxt_cases : ∀ (l : List Sh) (last m d : Int), Val last l → (nxt m d l = d ∧ ∀ y, m ≤ y → opn y l = false) ∨ (m ≤ nxt m d l ∧ nxt m d l < 10080 ∧ opn (nxt m d l) l = true ∧ ∀ y, m ≤ y → y < nxt m d l → opn y l = false)
  | [], _, _, _, _ => .inl ⟨rfl, fun _ _ => rfl⟩
  | s :: t, last, m, d, hv => by
    have h1 := hv.2.1
    have h2 := hv.2.2.1
    by_cases c : m < s.2
    · refine .inr ?_
      have e : nxt m d (s :: t) = if m < s.1 then s.1 else m := by unfold nxt; rw [if_pos c]
      rw [e]
      by_cases c1 : m < s.1
      · rw [if_pos c1]
        refine ⟨by omega, by omega, ?_, fun y hy1 hy2 => opn_lt _ s.1 y ⟨Int.le_refl _, hv.2⟩ hy2⟩
        unfold opn
        rw [if_pos (by omega)]
      · rw [if_neg c1]
        refine ⟨by omega, by omega, ?_, fun y hy1 hy2 => by omega⟩
        unfold opn
        rw [if_pos (by omega)]
    · have e : nxt m d (s :: t) = nxt m d t := by unfold nxt; rw [if_neg c]; exact (by cases t <;> rfl)
      have eo : ∀ y, m ≤ y → opn y (s :: t) = opn y t := fun y hy => by
        have : opn y (s :: t) = if s.1 ≤ y ∧ y < s.2 then true else opn y t := rfl
        rw [this, if_neg (by omega)]
      rw [e]
      rcases nxt_cases t s.2 m d hv.2.2.2 with ⟨a, b⟩ | ⟨a, b, e1, e2⟩
      · exact .inl ⟨a, fun y hy => by rw [eo y hy]; exact b y hy⟩
      · exact .inr ⟨a, b, by rw [eo _ a]; exact e1, fun y h1 h2 => by rw [eo y h1]; exact e2 y h1 h2⟩
theorem opn_first (s : Sh) (t : List Sh) (h : s.1 < s.2) : opn s.1 (s :: t) = true := by
  unfold opn
  rw [if_pos (by omega)]

/-! ### The minute by which so many are worked -/
theorem fnd_tells : ∀ (l : List Sh) (last r : Int), last ≤ 10080 → Val last l → 1 ≤ r → r ≤ tot l → last < fnd r l ∧ fnd r l ≤ 10080 ∧ bef (fnd r l) l = r ∧ bef (fnd r l - 1) l = r - 1
  | [], _, r, _, _, h1, h2 => by unfold tot at h2; omega
  | s :: t, last, r, _, hv, h1, h2 => by
    have g0 := hv.1
    have g1 := hv.2.1
    have g2 := hv.2.2.1
    unfold tot at h2
    by_cases c : r ≤ s.2 - s.1
    · have e : fnd r (s :: t) = s.1 + r := by unfold fnd; rw [if_pos c]
      rw [e]
      have b1 := bef_le t s.2 (s.1 + r) hv.2.2.2 (by omega)
      have b2 := bef_le t s.2 (s.1 + r - 1) hv.2.2.2 (by omega)
      refine ⟨by omega, by omega, ?_, ?_⟩
      · unfold bef
        rw [b1]
        unfold mpart
        split <;> split <;> omega
      · unfold bef
        rw [b2]
        unfold mpart
        split <;> split <;> omega
    · have e : fnd r (s :: t) = fnd (r - (s.2 - s.1)) t := by
        have : fnd r (s :: t) = if r ≤ s.2 - s.1 then s.1 + r else fnd (r - (s.2 - s.1)) t := rfl
        rw [this, if_neg c]
      rw [e]
      obtain ⟨a1, a2, a3, a4⟩ := fnd_tells t s.2 (r - (s.2 - s.1)) g2 hv.2.2.2 (by omega) (by omega)
      refine ⟨by omega, by omega, ?_, ?_⟩
      · unfold bef
        rw [a3]
        unfold mpart
        split <;> split <;> omega
      · unfold bef
        rw [a4]
        unfold mpart
        split <;> split <;> omega

/-! ### What the calendar's methods answer -/
def isT (a : Int) : Bool := decide (0 ≤ a) && decide (a ≤ 10000000)
theorem isT_iff (a : Int) : isT a = true ↔ 0 ≤ a ∧ a ≤ 10000000 := by simp [isT]
def openS (l : List Sh) (a : Int) : Bool := if isT a = true then opn (a % 10080) l else false
def first (l : List Sh) : Int := (l.headD (0, 0)).1
def nextT (l : List Sh) (a : Int) : Int := a - a % 10080 + nxt (a % 10080) (10080 + first l) l
def nextN (l : List Sh) (a : Int) : Int := if isT a = true then (if 10000000 < nextT l a then 0 else nextT l a) else 0
def nextE (l : List Sh) (a : Int) : Int := if isT a = true then (if 10000000 < nextT l a then 15 else 0) else 15
def workS (l : List Sh) (a b : Int) : Int := if isT a = true ∧ isT b = true ∧ a ≤ b then pas l b - pas l a else 0
def goal (l : List Sh) (a m : Int) : Int := pas l a + m - 1
def addT (l : List Sh) (a m : Int) : Int := goal l a m / tot l * 10080 + fnd (goal l a m % tot l + 1) l
def addN (l : List Sh) (a m : Int) : Int := if isT a = true then (if m < 0 ∨ 10000000 < m then 0 else if m = 0 then a else if 10000000 < addT l a m then 0 else addT l a m) else 0
def addE (l : List Sh) (a m : Int) : Int := if isT a = true then (if m < 0 ∨ 10000000 < m then 9 else if m = 0 then 0 else if 10000000 < addT l a m then 15 else 0) else 15

theorem pas_bd (l : List Sh) (h : Val 0 l) (a : Int) (h0 : 0 ≤ a) (h1 : a ≤ 20000000) : 0 ≤ pas l a ∧ pas l a ≤ 20010080 := by
  have t := tot_bd l 0 (by omega) h
  have b := bef_bd l 0 (a % 10080) h
  unfold pas
  have q0 : 0 ≤ a / 10080 := by omega
  have m0 : 0 ≤ a / 10080 * tot l := Int.mul_nonneg q0 t.1
  have m1 : a / 10080 * tot l ≤ a / 10080 * 10080 := Int.mul_le_mul_of_nonneg_left (by omega) q0
  omega

/-- What Next returns, told by the worked minutes. -/
theorem next_tells (l : List Sh) (h : Val 0 l) (hl : 0 < l.length) (a : Int) :
    a ≤ nextT l a ∧ nextT l a ≤ a + 20160 ∧ opn (nextT l a % 10080) l = true ∧ ∀ x, a ≤ x → x < nextT l a → opn (x % 10080) l = false := by
  obtain ⟨s, t, rfl⟩ : ∃ s t, l = s :: t := by
    cases l with
    | nil => simp at hl
    | cons s t => exact ⟨s, t, rfl⟩
  have g0 := h.1
  have g1 := h.2.1
  have g2 := h.2.2.1
  have ef : first (s :: t) = s.1 := rfl
  unfold nextT
  rw [ef]
  rcases nxt_cases (s :: t) 0 (a % 10080) (10080 + s.1) h with ⟨e, hy⟩ | ⟨c1, c2, c3, c4⟩
  · rw [e]
    have em : (a - a % 10080 + (10080 + s.1)) % 10080 = s.1 := by omega
    refine ⟨by omega, by omega, by rw [em]; exact opn_first s t g1, fun x hx1 hx2 => ?_⟩
    by_cases c : x < a - a % 10080 + 10080
    · exact hy _ (by omega)
    · exact opn_lt _ s.1 _ ⟨Int.le_refl _, h.2⟩ (by omega)
  · have em : (a - a % 10080 + nxt (a % 10080) (10080 + s.1) (s :: t)) % 10080 = nxt (a % 10080) (10080 + s.1) (s :: t) := by omega
    refine ⟨by omega, by omega, by rw [em]; exact c3, fun x hx1 hx2 => c4 _ (by omega) (by omega)⟩

/-- What Add reckons, told by the worked minutes. -/
theorem add_tells (l : List Sh) (h : Val 0 l) (hl : 0 < l.length) (a m : Int) (h0 : 0 ≤ a) (h1 : a ≤ 10000000) (hm0 : 1 ≤ m) (hm1 : m ≤ 10000000) :
    pas l (addT l a m) = pas l a + m ∧ pas l (addT l a m - 1) = pas l a + m - 1 ∧ a < addT l a m := by
  have tp := tot_pos l 0 h hl
  have pb := pas_bd l h a h0 (by omega)
  have g0 : 0 ≤ goal l a m := by unfold goal; omega
  have r0 : 0 ≤ goal l a m % tot l := Int.emod_nonneg _ (by omega)
  have r1 : goal l a m % tot l < tot l := Int.emod_lt_of_pos _ (by omega)
  obtain ⟨f1, f2, f3, f4⟩ := fnd_tells l 0 (goal l a m % tot l + 1) (by omega) h (by omega) (by omega)
  have ed : goal l a m / tot l * tot l + goal l a m % tot l = goal l a m := by
    have := Int.mul_ediv_add_emod (goal l a m) (tot l)
    rw [Int.mul_comm] at this
    exact this
  have e1 : pas l (addT l a m) = pas l a + m := by
    unfold addT
    rw [pas_at l h _ _ (by omega) f2, f3]
    have : goal l a m = pas l a + m - 1 := rfl
    omega
  have e2 : pas l (addT l a m - 1) = pas l a + m - 1 := by
    unfold addT
    have : goal l a m / tot l * 10080 + fnd (goal l a m % tot l + 1) l - 1 = goal l a m / tot l * 10080 + (fnd (goal l a m % tot l + 1) l - 1) := by omega
    rw [this, pas_at l h _ _ (by omega) (by omega), f4]
    have : goal l a m = pas l a + m - 1 := rfl
    omega
  refine ⟨e1, e2, ?_⟩
  apply Classical.byContradiction
  intro c
  have := pas_le l h (a := addT l a m) (b := a) (by omega)
  omega
theorem addT_bd (l : List Sh) (h : Val 0 l) (hl : 0 < l.length) (a m : Int) (h0 : 0 ≤ a) (h1 : a ≤ 10000000) (hm0 : 1 ≤ m) (hm1 : m ≤ 10000000) :
    0 ≤ goal l a m ∧ goal l a m ≤ 40000000 ∧ 0 ≤ goal l a m / tot l ∧ goal l a m / tot l ≤ 40000000 ∧ 0 ≤ goal l a m % tot l ∧ goal l a m % tot l < tot l ∧ 1 ≤ tot l ∧ tot l ≤ 10080 := by
  have tp := tot_pos l 0 h hl
  have tb := tot_bd l 0 (by omega) h
  have pb := pas_bd l h a h0 (by omega)
  have g0 : 0 ≤ goal l a m := by unfold goal; omega
  have g1 : goal l a m ≤ 40000000 := by unfold goal; omega
  refine ⟨g0, g1, Int.ediv_nonneg g0 (by omega), ?_, Int.emod_nonneg _ (by omega), Int.emod_lt_of_pos _ (by omega), tp, by omega⟩
  have := Int.ediv_le_self (tot l) g0
  omega
end Go.Proofs.YthdkfgpcdghblaaDoor.CMath
