import Derived.Test.YtgenkkejlggmnaaC4
set_option linter.unusedVariables false
set_option linter.unusedSimpArgs false
namespace Go.Proofs.Ytgenkkejlggmnaa
open Go.AM

/-! Plain laws: what is guilty (BisectGuilty). -/
theorem Hist.self {l : List V} (h : Hist l) {id : Int} (hi : id ∈ l.map (·.id)) : hasL (idsF (setB l id)) id = true :=
  hasL_iff.2 ((pastB_mem h hi id).2 (.refl _))
theorem past_trans {l : List V} (h : Hist l) {x y z : Int} (hx : x ∈ l.map (·.id)) (h1 : y ∈ idsF (setB l x)) (h2 : z ∈ idsF (setB l y)) : z ∈ idsF (setB l x) := by
  have r1 := (pastB_mem h hx y).1 h1
  have r2 := (pastB_mem h (r1.ids h hx) z).1 h2
  exact (pastB_mem h hx z).2 (r1.trans r2)
theorem past_in {l : List V} (h : Hist l) {x y : Int} (hx : x ∈ l.map (·.id)) (h1 : y ∈ idsF (setB l x)) : y ∈ l.map (·.id) := ((pastB_mem h hx y).1 h1).ids h hx
theorem past_le {l : List V} (h : Hist l) {x y : Int} (hx : x ∈ l.map (·.id)) (h1 : y ∈ idsF (setB l x)) : y ≤ x := ((pastB_mem h hx y).1 h1).le h
theorem past_bef {l : List V} (h : Hist l) {v : V} (hv : v ∈ l) {b : Int} (hb : b ∈ v.before) : ∀ y ∈ idsF (setB l b), hasL (idsF (setB l v.id)) y = true := by
  intro y hy
  have hi : v.id ∈ l.map (·.id) := List.mem_map.2 ⟨v, hv, rfl⟩
  have hb2 : b ∈ idsF (setB l v.id) := (pastB_mem h hi b).2 (.step (.refl _) hv hb)
  exact hasL_iff.2 (past_trans h hi hb2 hy)
theorem min_of {p : Int → Prop} [DecidablePred p] : ∀ (l : List Int), (∃ x ∈ l, p x) → ∃ x ∈ l, p x ∧ ∀ y ∈ l, p y → x ≤ y
  | [], h => by obtain ⟨x, hx, _⟩ := h; cases hx
  | a :: l, h => by
    by_cases hl : ∃ x ∈ l, p x
    · obtain ⟨x, h1, h2, h3⟩ := min_of l hl
      by_cases ha : p a ∧ a ≤ x
      · refine ⟨a, by simp, ha.1, fun y hy hp => ?_⟩
        rcases List.mem_cons.1 hy with rfl | hy
        · exact Int.le_refl _
        · have := h3 y hy hp; have := ha.2; omega
      · refine ⟨x, by simp [h1], h2, fun y hy hp => ?_⟩
        rcases List.mem_cons.1 hy with rfl | hy
        · by_cases hle : y ≤ x
          · exact absurd ⟨hp, hle⟩ ha
          · omega
        · exact h3 y hy hp
    · obtain ⟨x, hx, hp⟩ := h
      rcases List.mem_cons.1 hx with rfl | hx
      · refine ⟨x, by simp, hp, fun y hy hp2 => ?_⟩
        rcases List.mem_cons.1 hy with rfl | hy
        · exact Int.le_refl _
        · exact absurd ⟨y, hy, hp2⟩ hl
      · exact absurd ⟨x, hx, hp⟩ hl
/-- Each bad version in the past has a guilty one in its own past. -/
theorem guilty_found {l : List V} (h : Hist l) {id v : Int} (bad : List Int) (hi : id ∈ l.map (·.id)) (h1 : hasL (idsF (setB l id)) v = true) (h2 : hasL bad v = true) : (idsF (setB l v)).any (hasL (guiltyB l id bad)) = true := by
  have h1 := hasL_iff.1 h1
  have hv := past_in h hi h1
  obtain ⟨y, a1, a2, a3⟩ := min_of (p := fun y => hasL bad y = true) (idsF (setB l v)) ⟨v, hasL_iff.1 (h.self hv), h2⟩
  rw [List.any_eq_true]
  refine ⟨y, a1, hasL_iff.2 ?_⟩
  unfold guiltyB
  rw [List.mem_filter]
  refine ⟨past_trans h hi h1 a1, ?_⟩
  unfold isGuiltyB
  rw [a2, Bool.true_and, Bool.not_eq_true', List.any_eq_false]
  intro n hn hc
  simp only [Bool.and_eq_true, bne_iff_ne, ne_eq] at hc
  have hy := past_in h hv a1
  have := past_le h hy hn
  have := a3 n (past_trans h hv a1 hn) hc.2
  omega
/-- The versions that a culprit is in the past of. -/
def allOf (l : List V) (c : Int) : List Int := (l.map (·.id)).filter fun v => hasL (idsF (setB l v)) c
theorem allOf_iff {l : List V} {c v : Int} (hv : v ∈ l.map (·.id)) : hasL (allOf l c) v = hasL (idsF (setB l v)) c := by
  rw [Bool.eq_iff_iff, hasL_iff]
  unfold allOf
  rw [List.mem_filter]
  exact ⟨fun h => h.2, fun h => ⟨hv, h⟩⟩
theorem one_none {l : List V} (h : Hist l) {id c : Int} (hi : id ∈ l.map (·.id)) (hc : hasL (idsF (setB l id)) c = false) : guiltyB l id (allOf l c) = [] := by
  unfold guiltyB
  rw [List.filter_eq_nil_iff]
  intro y hy
  have hyi := past_in h hi hy
  unfold isGuiltyB
  rw [allOf_iff hyi]
  have : hasL (idsF (setB l y)) c = false := by
    rw [Bool.eq_false_iff]
    intro hcy
    rw [hasL_iff.2 (past_trans h hi hy (hasL_iff.1 hcy))] at hc
    cases hc
  rw [this]; simp
theorem one_culprit {l : List V} (h : Hist l) {id c : Int} (hi : id ∈ l.map (·.id)) (hc : hasL (idsF (setB l id)) c = true) : guiltyB l id (allOf l c) = [c] := by
  have hcm := hasL_iff.1 hc
  have hci := past_in h hi hcm
  refine sorted_ext _ _ ((idsF_srt _).filter _) (by simp) fun y => ?_
  unfold guiltyB
  rw [List.mem_filter, List.mem_singleton]
  unfold isGuiltyB
  constructor
  · rintro ⟨hy, hg⟩
    have hyi := past_in h hi hy
    rw [allOf_iff hyi, Bool.and_eq_true, Bool.not_eq_true', List.any_eq_false] at hg
    by_cases e : y = c
    · exact e
    · have := hg.2 c (hasL_iff.1 hg.1)
      rw [allOf_iff hci, h.self hci, Bool.and_true] at this
      exact absurd (by simpa using fun e2 : c = y => e e2.symm) this
  · rintro rfl
    refine ⟨hcm, ?_⟩
    rw [allOf_iff hci, h.self hci, Bool.true_and, Bool.not_eq_true', List.any_eq_false]
    intro n hn hc2
    have hni := past_in h hci hn
    rw [allOf_iff hni, Bool.and_eq_true, bne_iff_ne] at hc2
    have a := past_le h hci hn
    have b := past_le h hni (hasL_iff.1 hc2.2)
    exact hc2.1 (by omega)
theorem dfs_none {l : List V} {id c : Int} (hi : id ∈ l.map (·.id)) (hc : hasL (idsF (setB l id)) c = false) {n : Nat} {r : List Int} (hd : dfsV l (allOf l c) n id [] = some r) : r = [id] := by
  cases n with
  | zero => cases hd
  | succ n =>
    simp only [dfsV] at hd
    rw [if_neg (by simp [hasL]), allOf_iff hi, hc, if_neg (by simp)] at hd
    injection hd with hd
    exact hd.symm
theorem dfsL_sub {f : Int → List Int → Option (List Int)} (hf : ∀ x o o', f x o = some o' → ∀ y ∈ o, y ∈ o') : ∀ (xs o o' : List Int), dfsL f xs o = some o' → ∀ y ∈ o, y ∈ o'
  | [], o, o', h, y, hy => by simp only [dfsL, Option.some.injEq] at h; rw [← h]; exact hy
  | x :: xs, o, o', h, y, hy => by
    simp only [dfsL] at h
    cases hx : f x o with
    | none => rw [hx] at h; cases h
    | some o1 => rw [hx] at h; exact dfsL_sub hf xs o1 o' h y (hf _ _ _ hx y hy)
theorem dfsV_sub (l : List V) (bad : List Int) : ∀ (n : Nat) (v : Int) (o o' : List Int), dfsV l bad n v o = some o' → ∀ y ∈ o, y ∈ o'
  | 0, _, _, _, h, _, _ => by cases h
  | n + 1, v, o, o', h, y, hy => by
    simp only [dfsV] at h
    split at h
    · injection h with h; rw [← h]; exact hy
    · split at h
      · exact dfsL_sub (dfsV_sub l bad n) _ _ _ h y (by simp [hy])
      · injection h with h; rw [← h]; simp [hy]
/-- All that was met up to k and has the culprit in its past has led to it. -/
def Led (l : List V) (c : Int) (out : List Int) (k : Int) : Prop := ∀ w ∈ out, w ≤ k → hasL (idsF (setB l w)) c = true → c ∈ out
theorem ledL {l : List V} {c k : Int} {f : Int → List Int → Option (List Int)} (hsub : ∀ x o o', f x o = some o' → ∀ y ∈ o, y ∈ o')
    (hf : ∀ x o o', f x o = some o' → x ∈ l.map (·.id) → x ≤ k → Led l c o k → Led l c o' k ∧ (hasL (idsF (setB l x)) c = true → c ∈ o')) :
    ∀ (xs o o' : List Int), dfsL f xs o = some o' → (∀ x ∈ xs, x ∈ l.map (·.id) ∧ x ≤ k) → Led l c o k → Led l c o' k ∧ ((∃ x ∈ xs, hasL (idsF (setB l x)) c = true) → c ∈ o')
  | [], o, o', h, _, hl => by
    simp only [dfsL, Option.some.injEq] at h
    subst h
    exact ⟨hl, fun ⟨x, hx, _⟩ => by cases hx⟩
  | x :: xs, o, o', h, hx, hl => by
    simp only [dfsL] at h
    cases h1 : f x o with
    | none => rw [h1] at h; cases h
    | some o1 =>
      rw [h1] at h
      obtain ⟨a1, a2⟩ := hf x o o1 h1 (hx x (by simp)).1 (hx x (by simp)).2 hl
      obtain ⟨b1, b2⟩ := ledL hsub hf xs o1 o' h (fun y hy => hx y (by simp [hy])) a1
      refine ⟨b1, ?_⟩
      rintro ⟨y, hy, hc⟩
      rcases List.mem_cons.1 hy with rfl | hy
      · exact dfsL_sub hsub xs o1 o' h c (a2 hc)
      · exact b2 ⟨y, hy, hc⟩
theorem ledV {l : List V} (h : Hist l) (c : Int) (hci : c ∈ l.map (·.id)) : ∀ (n : Nat) (v : Int) (o o' : List Int) (k : Int), dfsV l (allOf l c) n v o = some o' → v ∈ l.map (·.id) → v ≤ k → Led l c o k → Led l c o' k ∧ (hasL (idsF (setB l v)) c = true → c ∈ o')
  | 0, _, _, _, _, hd, _, _, _ => by cases hd
  | n + 1, v, o, o', k, hd, hv, hk, hl => by
    simp only [dfsV] at hd
    by_cases h1 : hasL o v = true
    · rw [if_pos h1] at hd
      injection hd with hd
      subst hd
      exact ⟨hl, fun hc => hl v (hasL_iff.1 h1) hk hc⟩
    · rw [if_neg h1, allOf_iff hv] at hd
      by_cases h2 : hasL (idsF (setB l v)) c = true
      · rw [if_pos h2] at hd
        have key : c ∈ o' := by
          by_cases e : v = c
          · subst e
            exact dfsL_sub (dfsV_sub l _ n) _ _ _ hd v (by simp)
          · have hb := bef_ids h hv
            have hled : Led l c (o ++ [v]) (v - 1) := by
              intro w hw hwk hc
              rcases List.mem_append.1 hw with hw | hw
              · exact List.mem_append.2 (.inl (hl w hw (by omega) hc))
              · simp only [List.mem_singleton] at hw
                omega
            refine (ledL (dfsV_sub l _ n) (fun x o o' hx hxi hxk hlo => ledV h c hci n x o o' (v - 1) hx hxi hxk hlo) _ _ _ hd (fun x hx => ⟨(hb x hx).1, by have := (hb x hx).2; omega⟩) hled).2 ?_
            obtain ⟨i, w, _, a2, a3, a4⟩ := bef_node hv
            have hr := (pastB_mem h hv c).1 (hasL_iff.1 h2)
            rw [← a3] at hr
            rcases (Reach.cases h (List.mem_of_getElem? a2)).1 hr with h3 | ⟨b, hbw, h3⟩
            · exact absurd (a3.symm.trans h3.symm) e
            · rw [a4]
              have hbi : b ∈ l.map (·.id) := (hb b (by rw [a4]; exact hbw)).1
              exact ⟨b, hbw, hasL_iff.2 ((pastB_mem h hbi c).2 h3)⟩
        exact ⟨fun w _ _ _ => key, fun _ => key⟩
      · rw [if_neg h2] at hd
        injection hd with hd
        subst hd
        refine ⟨fun w hw hwk hc => ?_, fun hc => absurd hc h2⟩
        rcases List.mem_append.1 hw with hw | hw
        · exact List.mem_append.2 (.inl (hl w hw hwk hc))
        · simp only [List.mem_singleton] at hw
          subst hw
          exact absurd hc h2
theorem dfs_culprit {l : List V} (h : Hist l) {id c : Int} (hi : id ∈ l.map (·.id)) (hc : hasL (idsF (setB l id)) c = true) {n : Nat} {r : List Int} (hd : dfsV l (allOf l c) n id [] = some r) : hasL r c = true :=
  hasL_iff.2 ((ledV h c (past_in h hi (hasL_iff.1 hc)) n id [] r id hd hi (Int.le_refl _) (fun w hw => by cases hw)).2 hc)

end Go.Proofs.Ytgenkkejlggmnaa
