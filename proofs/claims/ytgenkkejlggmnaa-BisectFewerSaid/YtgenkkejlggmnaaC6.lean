import Derived.Test.YtgenkkejlggmnaaC5
set_option linter.unusedVariables false
set_option linter.unusedSimpArgs false
namespace Go.Proofs.Ytgenkkejlggmnaa
open Go.AM

/-! Plain laws: fewer suspects in each round (BisectFewer). -/
/-- What is known is true. -/
def Known (l : List V) (c : Int) (good bad : List Int) : Prop := (∀ v, hasL bad v = true → hasL (pastL l v) c = true) ∧ ∀ v, hasL good v = true → hasL (pastL l v) c = false
theorem filter_len_imp {α : Type} {p q : α → Bool} : ∀ (l : List α), (∀ x ∈ l, p x = true → q x = true) → (l.filter p).length ≤ (l.filter q).length
  | [], _ => Nat.le_refl _
  | x :: l, h => by
    have ih := filter_len_imp l fun y hy => h y (by simp [hy])
    simp only [List.filter_cons]
    by_cases hp : p x = true
    · rw [if_pos hp, if_pos (h x (by simp) hp)]
      simp only [List.length_cons]; omega
    · rw [if_neg hp]
      split
      · simp only [List.length_cons]; omega
      · exact ih
theorem fine_bad {l : List V} {c : Int} {good bad : List Int} (hk : Known l c good bad) {v : Int} (hv : hasL (pastL l v) c = true) {p : Int} {u : V} (h : fine l good (bad ++ [v]) p u = true) : fine l good bad p u = true := by
  unfold fine at h ⊢
  rw [hasL_snoc] at h
  by_cases e : v = u.id
  · subst e
    have hg : hasL good u.id = false := by
      rw [Bool.eq_false_iff]
      intro hc
      rw [hk.2 _ hc] at hv; cases hv
    rw [hg]
    simp only [beq_self_eq_true, Bool.or_true] at h
    cases hP : hasL (pastL l u.id) p
    · rw [hP] at h; simp at h
    · simp
  · have : (v == u.id) = false := by simpa using e
    rw [this, Bool.or_false] at h
    exact h
theorem fine_good {l : List V} {c : Int} {good bad : List Int} (hk : Known l c good bad) {v : Int} (hv : hasL (pastL l v) c = false) {p : Int} {u : V} (h : fine l (good ++ [v]) bad p u = true) : fine l good bad p u = true := by
  unfold fine at h ⊢
  rw [hasL_snoc] at h
  by_cases e : v = u.id
  · subst e
    have hb : hasL bad u.id = false := by
      rw [Bool.eq_false_iff]
      intro hc
      rw [hk.1 _ hc] at hv; cases hv
    rw [hb] at h ⊢
    simp only [beq_self_eq_true, Bool.or_true] at h
    cases hP : hasL (pastL l u.id) p
    · simp
    · rw [hP] at h; simp at h
  · have : (v == u.id) = false := by simpa using e
    rw [this, Bool.or_false] at h
    exact h
theorem susp_bad {l : List V} {c : Int} {good bad : List Int} (hk : Known l c good bad) {v : Int} (hvl : v ∈ l.map (·.id)) (hv : hasL (pastL l v) c = true) {p : Int} (h : isSusp l good (bad ++ [v]) p = true) : isSusp l good bad p = true ∧ hasL (pastL l v) p = true := by
  unfold isSusp at h ⊢
  rw [List.all_eq_true] at h ⊢
  refine ⟨fun u hu => fine_bad hk hv (h u hu), ?_⟩
  obtain ⟨u, hu, rfl⟩ := List.mem_map.1 hvl
  have := h u hu
  unfold fine at this
  rw [hasL_snoc] at this
  simp only [beq_self_eq_true, Bool.or_true] at this
  cases hp : hasL (pastL l u.id) p
  · rw [hp] at this; simp at this
  · rfl
theorem susp_good {l : List V} {c : Int} {good bad : List Int} (hk : Known l c good bad) {v : Int} (hvl : v ∈ l.map (·.id)) (hv : hasL (pastL l v) c = false) {p : Int} (h : isSusp l (good ++ [v]) bad p = true) : isSusp l good bad p = true ∧ hasL (pastL l v) p = false := by
  unfold isSusp at h ⊢
  rw [List.all_eq_true] at h ⊢
  refine ⟨fun u hu => fine_good hk hv (h u hu), ?_⟩
  obtain ⟨u, hu, rfl⟩ := List.mem_map.1 hvl
  have hb : hasL bad u.id = false := by
    rw [Bool.eq_false_iff]
    intro hc
    rw [hk.1 _ hc] at hv; cases hv
  have := h u hu
  unfold fine at this
  rw [hasL_snoc, hb] at this
  simp only [beq_self_eq_true, Bool.or_true] at this
  cases hp : hasL (pastL l u.id) p
  · rfl
  · rw [hp] at this; simp at this
theorem best_max (l : List V) (s : List Int) : ∀ (ps : List Int) (best most : Int),
    (bestGo l s ps best most = best ∧ ∀ p ∈ ps, score (pastL l p) s ≤ most) ∨ (bestGo l s ps best most ∈ ps ∧ most < score (pastL l (bestGo l s ps best most)) s ∧ ∀ p ∈ ps, score (pastL l p) s ≤ score (pastL l (bestGo l s ps best most)) s)
  | [], best, most => .inl ⟨rfl, fun p hp => by cases hp⟩
  | p :: ps, best, most => by
    simp only [bestGo]
    by_cases h : score (pastL l p) s > most
    · rw [if_pos h]
      rcases best_max l s ps p (score (pastL l p) s) with ⟨h1, h2⟩ | ⟨h1, h2, h3⟩
      · refine .inr ⟨by rw [h1]; simp, by rw [h1]; exact h, fun q hq => ?_⟩
        rw [h1]
        rcases List.mem_cons.1 hq with rfl | hq
        · exact Int.le_refl _
        · exact h2 q hq
      · refine .inr ⟨by simp [h1], by omega, fun q hq => ?_⟩
        rcases List.mem_cons.1 hq with rfl | hq
        · omega
        · exact h3 q hq
    · rw [if_neg h]
      rcases best_max l s ps best most with ⟨h1, h2⟩ | ⟨h1, h2, h3⟩
      · refine .inl ⟨h1, fun q hq => ?_⟩
        rcases List.mem_cons.1 hq with rfl | hq
        · omega
        · exact h2 q hq
      · refine .inr ⟨by simp [h1], h2, fun q hq => ?_⟩
        rcases List.mem_cons.1 hq with rfl | hq
        · omega
        · exact h3 q hq
/-- The version that is tried next. -/
def tryL (l : List V) (id : Int) (good bad : List Int) : Int := bestGo l (suspL l id good bad) (suspL l id good bad) 0 (-1)
theorem try_mem {l : List V} {id : Int} {good bad : List Int} (hne : suspL l id good bad ≠ []) : tryL l id good bad ∈ suspL l id good bad ∧ ∀ p ∈ suspL l id good bad, score (pastL l p) (suspL l id good bad) ≤ score (pastL l (tryL l id good bad)) (suspL l id good bad) := by
  rcases best_max l (suspL l id good bad) (suspL l id good bad) 0 (-1) with ⟨_, h2⟩ | ⟨h1, _, h3⟩
  · obtain ⟨x, hx⟩ := List.exists_mem_of_ne_nil _ hne
    have := h2 x hx
    have := score_nonneg (pastL l x) (suspL l id good bad)
    omega
  · exact ⟨h1, h3⟩
theorem susp_srt {l : List V} (hv : valGo l [] (-1) = true) (id : Int) (good bad : List Int) : (suspL l id good bad).Pairwise (· < ·) := by
  unfold suspL
  rw [past_ids hv]
  exact (idsF_srt _).filter _
theorem min_list : ∀ (s : List Int), s ≠ [] → ∃ w ∈ s, ∀ y ∈ s, w ≤ y := fun s hs => by
  obtain ⟨x, hx⟩ := List.exists_mem_of_ne_nil _ hs
  obtain ⟨w, h1, _, h3⟩ := min_of (p := fun _ => True) s ⟨x, hx, trivial⟩
  exact ⟨w, h1, fun y hy => h3 y hy trivial⟩
theorem susp_past {l : List V} (hv : valGo l [] (-1) = true) {id : Int} {good bad : List Int} {p : Int} (hp : p ∈ suspL l id good bad) : p ∈ idsF (setB l id) := by
  unfold suspL at hp
  rw [past_ids hv] at hp
  exact (List.mem_filter.1 hp).1
theorem try_score {l : List V} (hv : valGo l [] (-1) = true) {id : Int} (hi : id ∈ l.map (·.id)) {good bad : List Int} (h2 : 2 ≤ (suspL l id good bad).length) : 1 ≤ score (pastL l (tryL l id good bad)) (suspL l id good bad) := by
  have h := hist_of hv
  have hne : suspL l id good bad ≠ [] := by intro e; rw [e] at h2; simp at h2
  obtain ⟨w, hw, hmin⟩ := min_list _ hne
  have hwi := past_in h hi (susp_past hv hw)
  have hc : cnt (pastL l w) (suspL l id good bad) = 1 := by
    have e : (suspL l id good bad).filter (hasL (pastL l w)) = [w] := by
      refine sorted_ext _ _ ((susp_srt hv id good bad).filter _) (by simp) fun y => ?_
      rw [List.mem_filter, List.mem_singleton, past_ids hv, hasL_iff]
      constructor
      · rintro ⟨h1, h3⟩
        have a := past_le h hwi h3
        have b := hmin y h1
        omega
      · rintro rfl
        exact ⟨hw, hasL_iff.1 (h.self hwi)⟩
    rw [cnt, e]; rfl
  have hs : score (pastL l w) (suspL l id good bad) = 1 := by
    unfold score
    rw [hc]
    split <;> omega
  have := (try_mem hne).2 w hw
  omega
theorem susp_has {l : List V} (hv : valGo l [] (-1) = true) {id c : Int} {good bad : List Int} (hc : c ∈ idsF (setB l id)) (hk : Known l c good bad) : c ∈ suspL l id good bad := by
  unfold suspL
  rw [List.mem_filter, past_ids hv]
  refine ⟨hc, ?_⟩
  unfold isSusp
  rw [List.all_eq_true]
  intro u hu
  unfold fine
  cases hb : hasL bad u.id
  · cases hg : hasL good u.id
    · rfl
    · rw [hk.2 _ hg]; rfl
  · rw [hk.1 _ hb]; rfl
theorem known_bad {l : List V} {c : Int} {good bad : List Int} (hk : Known l c good bad) {v : Int} (hv : hasL (pastL l v) c = true) : Known l c good (bad ++ [v]) := by
  refine ⟨fun u hu => ?_, hk.2⟩
  rw [hasL_snoc, Bool.or_eq_true] at hu
  rcases hu with hu | hu
  · exact hk.1 u hu
  · have : v = u := by simpa using hu
    rw [← this]; exact hv
theorem known_good {l : List V} {c : Int} {good bad : List Int} (hk : Known l c good bad) {v : Int} (hv : hasL (pastL l v) c = false) : Known l c (good ++ [v]) bad := by
  refine ⟨hk.1, fun u hu => ?_⟩
  rw [hasL_snoc, Bool.or_eq_true] at hu
  rcases hu with hu | hu
  · exact hk.2 u hu
  · have : v = u := by simpa using hu
    rw [← this]; exact hv
/-- One round: a suspect fewer, if there were two. -/
theorem fewer_bad {l : List V} (hv : valGo l [] (-1) = true) {id c : Int} (hi : id ∈ l.map (·.id)) {good bad : List Int} (hk : Known l c good bad) (ht : tryL l id good bad ∈ l.map (·.id)) (hc : hasL (pastL l (tryL l id good bad)) c = true) :
    (suspL l id good (bad ++ [tryL l id good bad])).length ≤ (suspL l id good bad).length ∧ (2 ≤ (suspL l id good bad).length → (suspL l id good (bad ++ [tryL l id good bad])).length + 1 ≤ (suspL l id good bad).length) := by
  have hle : (suspL l id good (bad ++ [tryL l id good bad])).length ≤ cnt (pastL l (tryL l id good bad)) (suspL l id good bad) := by
    generalize hT : tryL l id good bad = T at ht hc ⊢
    unfold cnt suspL
    rw [List.filter_filter]
    refine filter_len_imp _ fun p _ hp => ?_
    obtain ⟨a1, a2⟩ := susp_bad hk ht hc hp
    rw [a1, a2]; rfl
  have h0 := cnt_le (pastL l (tryL l id good bad)) (suspL l id good bad)
  refine ⟨by omega, fun h2 => ?_⟩
  have hs := try_score hv hi h2
  unfold score at hs
  split at hs <;> omega
theorem fewer_good {l : List V} (hv : valGo l [] (-1) = true) {id c : Int} (hi : id ∈ l.map (·.id)) {good bad : List Int} (hk : Known l c good bad) (ht : tryL l id good bad ∈ l.map (·.id)) (hc : hasL (pastL l (tryL l id good bad)) c = false) :
    (suspL l id (good ++ [tryL l id good bad]) bad).length ≤ (suspL l id good bad).length ∧ (2 ≤ (suspL l id good bad).length → (suspL l id (good ++ [tryL l id good bad]) bad).length + 1 ≤ (suspL l id good bad).length) := by
  have hle : (suspL l id (good ++ [tryL l id good bad]) bad).length + cnt (pastL l (tryL l id good bad)) (suspL l id good bad) ≤ (suspL l id good bad).length := by
    generalize hT : tryL l id good bad = T at ht hc ⊢
    have h1 : (suspL l id (good ++ [T]) bad).length ≤ ((suspL l id good bad).filter fun p => !hasL (pastL l T) p).length := by
      unfold suspL
      rw [List.filter_filter]
      refine filter_len_imp _ fun p _ hp => ?_
      obtain ⟨a1, a2⟩ := susp_good hk ht hc hp
      rw [a1, a2]; rfl
    have h2 : ∀ (s : List Int) (q : Int → Bool), (s.filter fun p => !q p).length + (s.filter q).length = s.length := by
      intro s q
      induction s with
      | nil => rfl
      | cons x s ih =>
        simp only [List.filter_cons]
        cases q x <;> simp <;> omega
    have := h2 (suspL l id good bad) (hasL (pastL l T))
    unfold cnt
    omega
  have h0 := cnt_le (pastL l (tryL l id good bad)) (suspL l id good bad)
  refine ⟨by omega, fun h2 => ?_⟩
  have hs := try_score hv hi h2
  unfold score at hs
  split at hs <;> omega
theorem next_ok {l : List V} (hv : valGo l [] (-1) = true) {id c : Int} (hi : id ∈ l.map (·.id)) {good bad : List Int} (hc : c ∈ idsF (setB l id)) (hk : Known l c good bad) : nextL l id good bad = (tryL l id good bad, 0) ∧ tryL l id good bad ∈ idsF (setB l id) ∧ ((suspL l id good bad).length ≤ 1 → tryL l id good bad = c) := by
  have hcs := susp_has hv hc hk
  have hne : suspL l id good bad ≠ [] := fun e => by rw [e] at hcs; cases hcs
  have he : errL l id = 0 := by rw [← err_eq, errB, if_pos hv, if_pos (hasL_iff.2 hi)]
  have hm := (try_mem hne).1
  refine ⟨by rw [nextL, if_neg (by simpa using he), if_neg hne]; rfl, susp_past hv hm, fun h1 => ?_⟩
  match hS : suspL l id good bad, hcs, hm with
  | [y], hcs, hm =>
    rw [List.mem_singleton] at hcs hm
    rw [hcs, hm]
  | y :: z :: s, _, _ => rw [hS] at h1; simp at h1

end Go.Proofs.Ytgenkkejlggmnaa
