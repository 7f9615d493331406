import Derived.Test.YtgenkkejlggmnaaB23
set_option linter.unusedVariables false
set_option linter.unusedSimpArgs false
namespace Go.Proofs.Ytgenkkejlggmnaa
open Go.AM

/-! Plain laws, no program in sight: what a history is. -/
def VOK (pre : List V) (v : V) : Prop := 0 ≤ v.id ∧ v.id < 32 ∧ (∀ u, pre.getLast? = some u → u.id < v.id) ∧ ∀ k b, v.before[k]? = some b → hasL (pre.map (·.id)) b = true ∧ ∀ y, 0 < k → v.before[k - 1]? = some y → y < b
def OKH (l : List V) : Prop := ∀ i v, l[i]? = some v → VOK (l.take i) v

theorem hasL_iff {l : List Int} {n : Int} : hasL l n = true ↔ n ∈ l := by
  simp [hasL]
theorem findGo_iff : ∀ (p : List V) (x : Int) (k : Nat), 0 ≤ findGo p x k ↔ hasL (p.map (·.id)) x = true
  | [], x, k => by simp [findGo, hasL]
  | v :: p, x, k => by
    have ih := findGo_iff p x (k + 1)
    simp only [findGo, List.map_cons]
    split
    · rename_i h
      simp only [hasL, List.any_cons]
      have : (v.id == x) = true := by simpa using h
      rw [this, Bool.true_or]
      constructor
      · intro _; rfl
      · intro _; omega
    · rename_i h
      rw [ih]
      simp only [hasL, List.any_cons]
      have : (v.id == x) = false := by simpa using h
      rw [this, Bool.false_or]
theorem last_take {l : List V} {i : Nat} (h0 : 0 < i) (h : i ≤ l.length) : (l.take i).getLast? = l[i - 1]? := by
  rw [List.getLast?_eq_getElem?, List.length_take, Nat.min_eq_left h, List.getElem?_take, if_pos (by omega)]
theorem okB_iff (p : List V) (b : List Int) : (List.range b.length).all (okB p b) = true ↔ ∀ k x, b[k]? = some x → hasL (p.map (·.id)) x = true ∧ ∀ y, 0 < k → b[k - 1]? = some y → y < x := by
  rw [List.all_eq_true]
  constructor
  · intro h k x hx
    have hk := (List.getElem?_eq_some_iff.1 hx).1
    have := h k (List.mem_range.2 hk)
    unfold okB at this
    rw [hx] at this
    simp only [Bool.and_eq_true, Bool.or_eq_true, decide_eq_true_eq] at this
    refine ⟨(findGo_iff p x 0).1 this.1, fun y h0 hy => ?_⟩
    rcases this.2 with h1 | h1
    · omega
    · rw [hy] at h1; simpa using h1
  · intro h k hk
    have hk := List.mem_range.1 hk
    obtain ⟨x, hx⟩ : ∃ x, b[k]? = some x := ⟨_, List.getElem?_eq_getElem hk⟩
    obtain ⟨h1, h2⟩ := h k x hx
    unfold okB
    rw [hx]
    simp only [Bool.and_eq_true, Bool.or_eq_true, decide_eq_true_eq]
    refine ⟨(findGo_iff p x 0).2 h1, ?_⟩
    by_cases h0 : k = 0
    · exact .inl h0
    · obtain ⟨y, hy⟩ : ∃ y, b[k - 1]? = some y := ⟨_, List.getElem?_eq_getElem (by omega)⟩
      right
      rw [hy]
      simpa using h2 y (by omega) hy
theorem validL_iff (l : List V) : validL l = true ↔ OKH l := by
  unfold validL
  rw [List.all_eq_true]
  constructor
  · intro h i v hv
    have hi := (List.getElem?_eq_some_iff.1 hv).1
    have := h i (List.mem_range.2 hi)
    unfold okV at this
    rw [hv] at this
    simp only [Bool.and_eq_true, Bool.or_eq_true, decide_eq_true_eq] at this
    obtain ⟨⟨⟨h1, h2⟩, h3⟩, h4⟩ := this
    refine ⟨h1, by omega, fun u hu => ?_, (okB_iff _ _).1 h4⟩
    rcases h3 with h3 | h3
    · subst h3; simp at hu
    · by_cases h0 : i = 0
      · subst h0; simp at hu
      · rw [last_take (by omega) (by omega)] at hu
        rw [hu] at h3
        simpa using h3
  · intro h i hi
    have hi := List.mem_range.1 hi
    obtain ⟨v, hv⟩ : ∃ x, l[i]? = some x := ⟨_, List.getElem?_eq_getElem hi⟩
    obtain ⟨h1, h2, h3, h4⟩ := h i v hv
    unfold okV
    rw [hv]
    simp only [Bool.and_eq_true, Bool.or_eq_true, decide_eq_true_eq]
    refine ⟨⟨⟨h1, by omega⟩, ?_⟩, (okB_iff _ _).2 h4⟩
    by_cases h0 : i = 0
    · exact .inl h0
    · obtain ⟨u, hu⟩ : ∃ x, l[i - 1]? = some x := ⟨_, List.getElem?_eq_getElem (by omega)⟩
      right
      rw [hu]
      simpa using h3 u (by rw [last_take (by omega) (by omega)]; exact hu)

theorem strict_iff (b : List Int) : (sortedB b && strictB b) = true ↔ ∀ k x, b[k]? = some x → ∀ y, 0 < k → b[k - 1]? = some y → y < x := by
  rw [Bool.and_eq_true, sortedB_iff]
  unfold strictB
  rw [decide_eq_true_eq]
  by_cases hb : b.length = 0
  · have : b = [] := List.length_eq_zero_iff.1 hb
    subst this
    simp [SortedL, cmpOut]
  rw [cmpOut_len b.length (b.length - 1) b 1 (by omega)]
  constructor
  · rintro ⟨h1, h2⟩ k x hx y h0 hy
    have hk := (List.getElem?_eq_some_iff.1 hx).1
    have := h2 k (by omega) hk
    rw [List.getD_eq_getElem?_getD, List.getD_eq_getElem?_getD, hx, hy] at this
    have h3 := h1 (k - 1) y x hy (by rw [show k - 1 + 1 = k by omega]; exact hx)
    simp at this
    omega
  · intro h
    constructor
    · intro j y x hy hx
      have := h (j + 1) x hx y (by omega) (by simpa using hy)
      omega
    · intro i h1 h2
      obtain ⟨x, hx⟩ : ∃ x, b[i]? = some x := ⟨_, List.getElem?_eq_getElem h2⟩
      obtain ⟨y, hy⟩ : ∃ x, b[i - 1]? = some x := ⟨_, List.getElem?_eq_getElem (by omega)⟩
      have := h i x hx y (by omega) hy
      rw [List.getD_eq_getElem?_getD, List.getD_eq_getElem?_getD, hx, hy]
      simp
      omega
theorem vOK_iff (pre : List V) (last : Int) (v : V) (hl : (pre = [] ∧ last = -1) ∨ ∃ u, pre.getLast? = some u ∧ last = u.id) (hp : ∀ u ∈ pre, 0 ≤ u.id) : vOK last (pre.map (·.id)) v = true ↔ VOK pre v := by
  unfold vOK VOK
  have hs := strict_iff v.before
  constructor
  · intro h
    simp only [Bool.and_eq_true] at h hs
    obtain ⟨⟨⟨⟨h1, h2⟩, h3⟩, h4⟩, h5⟩ := h
    have hs := hs.1 ⟨h3, h4⟩
    simp at h1 h2
    refine ⟨h2.1, h2.2, fun u hu => ?_, fun k b hb => ⟨?_, hs k b hb⟩⟩
    · rcases hl with ⟨rfl, _⟩ | ⟨u', hu', rfl⟩
      · simp at hu
      · rw [hu'] at hu; injection hu with hu; subst hu; exact h1
    · rw [Bool.not_eq_true', List.any_eq_false] at h5
      have := h5 b (List.mem_of_getElem? hb)
      simpa using this
  · rintro ⟨h1, h2, h3, h4⟩
    simp only [Bool.and_eq_true] at hs ⊢
    have hs := hs.2 fun k x hx => (h4 k x hx).2
    refine ⟨⟨⟨⟨?_, ?_⟩, hs.1⟩, hs.2⟩, ?_⟩
    · rcases hl with ⟨rfl, rfl⟩ | ⟨u', hu', rfl⟩
      · simp; omega
      · simpa using h3 u' hu'
    · simp; omega
    · rw [Bool.not_eq_true', List.any_eq_false]
      intro x hx
      obtain ⟨k, hk⟩ := List.getElem?_of_mem hx
      simpa using (h4 k x hk).1
theorem valGo_iff : ∀ (rest pre : List V) (last : Int), ((pre = [] ∧ last = -1) ∨ ∃ u, pre.getLast? = some u ∧ last = u.id) → (∀ u ∈ pre, 0 ≤ u.id) → (valGo rest (pre.map (·.id)) last = true ↔ ∀ i v, rest[i]? = some v → VOK (pre ++ rest.take i) v)
  | [], pre, last, _, _ => by simp [valGo]
  | v :: rest, pre, last, hl, hp => by
    simp only [valGo, Bool.and_eq_true]
    rw [vOK_iff pre last v hl hp]
    have e : pre.map (·.id) ++ [v.id] = (pre ++ [v]).map (·.id) := by simp
    rw [e]
    constructor
    · rintro ⟨h1, h2⟩
      have hp2 : ∀ u ∈ pre ++ [v], 0 ≤ u.id := by
        intro u hu
        rcases List.mem_append.1 hu with hu | hu
        · exact hp u hu
        · simp only [List.mem_singleton] at hu; subst hu; exact h1.1
      rw [valGo_iff rest (pre ++ [v]) v.id (.inr ⟨v, by simp, rfl⟩) hp2] at h2
      intro i u hu
      cases i with
      | zero => simp at hu; subst hu; simpa using h1
      | succ i => have := h2 i u (by simpa using hu); simpa using this
    · intro h
      have h1 : VOK pre v := by simpa using h 0 v rfl
      have hp2 : ∀ u ∈ pre ++ [v], 0 ≤ u.id := by
        intro u hu
        rcases List.mem_append.1 hu with hu | hu
        · exact hp u hu
        · simp only [List.mem_singleton] at hu; subst hu; exact h1.1
      refine ⟨h1, ?_⟩
      rw [valGo_iff rest (pre ++ [v]) v.id (.inr ⟨v, by simp, rfl⟩) hp2]
      intro i u hu
      have := h (i + 1) u (by simpa using hu)
      simpa using this
theorem valGo_OKH (l : List V) : valGo l [] (-1) = true ↔ OKH l := by
  have := valGo_iff l [] (-1) (.inl ⟨rfl, rfl⟩) (by simp)
  simpa [OKH] using this
theorem val_eq (l : List V) : valGo l [] (-1) = validL l := by
  rw [Bool.eq_iff_iff, valGo_OKH, validL_iff]
theorem err_eq (l : List V) (id : Int) : errB l id = errL l id := by
  unfold errB errL
  rw [val_eq]
  split
  · by_cases h : hasL (l.map (·.id)) id = true
    · rw [if_pos h, if_neg (by have := (findGo_iff l id 0).2 h; omega)]
    · rw [if_neg h, if_pos (by have := mt (findGo_iff l id 0).1 h; omega)]
  · rfl

end Go.Proofs.Ytgenkkejlggmnaa
