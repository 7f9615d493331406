import Derived.Test.YtgenkkejlggmnaaB11
import Derived.Test.YtgenkkejlggmnaaB21
import Derived.Test.YtgenkkejlggmnaaC3
set_option linter.unusedVariables false
set_option linter.unusedSimpArgs false
namespace Go.Proofs.Ytgenkkejlggmnaa
open Go.AM

/-! Plain laws: First and Next. -/
theorem past_ids {l : List V} (hv : valGo l [] (-1) = true) (x : Int) : pastL l x = idsF (setB l x) := by rw [← past_eq, pastB, if_pos hv]
theorem guilty_eq {l : List V} (hv : valGo l [] (-1) = true) (id : Int) (bad : List Int) : guiltyB l id bad = guiltyL l id bad := by
  unfold guiltyB guiltyL
  rw [past_ids hv]
  congr 1
  funext v
  unfold isGuiltyB isGuilty
  rw [past_ids hv, List.not_any_eq_all_not]
  rfl

/-! the search -/
theorem findGo_afind : ∀ (l : List V) (x : Int) (k : Nat), findGo l x k = match afindI (l.map (·.id)) x k with | some j => (j : Int) | none => -1
  | [], x, k => rfl
  | v :: l, x, k => by
    simp only [findGo, List.map_cons, afindI]
    by_cases h : v.id = x
    · rw [if_pos h, if_pos h.symm]
    · rw [if_neg h, if_neg (fun e => h e.symm), findGo_afind l x (k + 1)]
theorem afindI_some : ∀ (ks : List Int) (x : Int) (i : Nat), x ∈ ks → ∃ j, afindI ks x i = some (i + j) ∧ ks[j]? = some x
  | [], x, i, h => by cases h
  | k :: ks, x, i, h => by
    simp only [afindI]
    by_cases e : x = k
    · exact ⟨0, by rw [if_pos e]; rfl, by rw [e]; rfl⟩
    · obtain ⟨j, h1, h2⟩ := afindI_some ks x (i + 1) ((List.mem_cons.1 h).resolve_left e)
      exact ⟨j + 1, by rw [if_neg e, h1]; congr 1; omega, by simpa using h2⟩
theorem bef_node {l : List V} {v : Int} (hv : v ∈ l.map (·.id)) : ∃ (i : Nat) (w : V), findGo l v 0 = i ∧ l[i]? = some w ∧ w.id = v ∧ befOf l v = w.before := by
  obtain ⟨j, h1, h2⟩ := afindI_some _ _ 0 hv
  rw [Nat.zero_add] at h1
  rw [List.getElem?_map] at h2
  obtain ⟨w, hw, e⟩ := Option.map_eq_some_iff.1 h2
  refine ⟨j, w, by rw [findGo_afind, h1], hw, e, ?_⟩
  simp only [befOf, h1, hw, Option.elim]
theorem bef_ids {l : List V} (h : Hist l) {v : Int} (hv : v ∈ l.map (·.id)) : ∀ b ∈ befOf l v, b ∈ l.map (·.id) ∧ b < v := by
  obtain ⟨i, w, _, h2, h3, h4⟩ := bef_node hv
  rw [h4]
  intro b hb
  have := h.bef i w h2 b hb
  obtain ⟨u, hu, rfl⟩ := List.mem_map.1 this
  exact ⟨List.mem_map.2 ⟨u, List.mem_of_mem_take hu, rfl⟩, by rw [← h3]; exact h.lt w (List.mem_of_getElem? h2) _ hb⟩
theorem lookL_of {l : List V} {bad : List Int} {f : Int → List Int → Option (List Int)} (hf : ∀ v out out', f v out = some out' → v ∈ l.map (·.id) → ∀ m todo r, LookN l bad m todo out' r → ∃ m', LookN l bad m' (v :: todo) out r) :
    ∀ (xs o o' : List Int), dfsL f xs o = some o' → (∀ x ∈ xs, x ∈ l.map (·.id)) → ∀ m todo r, LookN l bad m todo o' r → ∃ m', LookN l bad m' (xs ++ todo) o r
  | [], o, o', h, _, m, todo, r, hl => by
    simp only [dfsL, Option.some.injEq] at h
    subst h
    exact ⟨m, hl⟩
  | x :: xs, o, o', h, hx, m, todo, r, hl => by
    simp only [dfsL] at h
    cases h1 : f x o with
    | none => rw [h1] at h; cases h
    | some o1 =>
      rw [h1] at h
      obtain ⟨m1, hm1⟩ := lookL_of hf xs o1 o' h (fun y hy => hx y (by simp [hy])) m todo r hl
      exact hf x o o1 h1 (hx x (by simp)) m1 _ r hm1
theorem look_of_dfs {l : List V} (h : Hist l) (bad : List Int) : ∀ (n : Nat) (v : Int) (out out' : List Int), dfsV l bad n v out = some out' → v ∈ l.map (·.id) → ∀ m todo r, LookN l bad m todo out' r → ∃ m', LookN l bad m' (v :: todo) out r
  | 0, v, out, out', hd, _, _, _, _, _ => by cases hd
  | n + 1, v, out, out', hd, hv, m, todo, r, hl => by
    simp only [dfsV] at hd
    by_cases h1 : hasL out v = true
    · rw [if_pos h1] at hd
      injection hd with hd
      subst hd
      exact ⟨m + 1, .seen h1 hl⟩
    · rw [if_neg h1] at hd
      have h1' : hasL out v = false := by simpa using h1
      by_cases h2 : hasL bad v = true
      · rw [if_pos h2] at hd
        obtain ⟨m', hm'⟩ := lookL_of (look_of_dfs h bad n) _ _ _ hd (fun x hx => (bef_ids h hv x hx).1) m todo r hl
        obtain ⟨i, w, a1, a2, _, a4⟩ := bef_node hv
        rw [a4] at hm'
        exact ⟨m' + 1, .node h1' h2 i w a1 a2 hm'⟩
      · rw [if_neg h2] at hd
        injection hd with hd
        subst hd
        exact ⟨m + 1, .leaf h1' (by simpa using h2) hl⟩
theorem dfsL_some {f : Int → List Int → Option (List Int)} : ∀ (xs o : List Int), (∀ x ∈ xs, ∀ o, ∃ o', f x o = some o') → ∃ o', dfsL f xs o = some o'
  | [], o, _ => ⟨o, rfl⟩
  | x :: xs, o, h => by
    obtain ⟨o1, h1⟩ := h x (by simp) o
    simp only [dfsL, h1]
    exact dfsL_some xs o1 fun y hy => h y (by simp [hy])
theorem dfs_some {l : List V} (h : Hist l) (bad : List Int) : ∀ (n : Nat) (v : Int) (out : List Int), v ∈ l.map (·.id) → v.toNat < n → ∃ out', dfsV l bad n v out = some out'
  | 0, v, out, _, hn => by omega
  | n + 1, v, out, hv, hn => by
    simp only [dfsV]
    split
    · exact ⟨_, rfl⟩
    · split
      · refine dfsL_some _ _ fun x hx o => ?_
        obtain ⟨h1, h2⟩ := bef_ids h hv x hx
        obtain ⟨u, hu, rfl⟩ := List.mem_map.1 h1
        have := h.rng u hu
        exact dfs_some h bad n u.id o h1 (by omega)
      · exact ⟨_, rfl⟩
def pot (out : List Int) : List V → Nat
  | [] => 0
  | v :: l => (if hasL out v.id = true then 0 else v.before.length) + pot out l
theorem hasL_snoc (out : List Int) (v x : Int) : hasL (out ++ [v]) x = (hasL out x || v == x) := by simp [hasL]
theorem pot_mono (out : List Int) (v : Int) : ∀ (l : List V), pot (out ++ [v]) l ≤ pot out l
  | [] => Nat.le_refl _
  | u :: l => by
    have := pot_mono out v l
    simp only [pot, hasL_snoc]
    by_cases h : hasL out u.id = true
    · simp only [h, Bool.true_or, if_true]; omega
    · simp only [h, Bool.false_or]
      split <;> simp <;> omega
theorem pot_node (out : List Int) (w : V) (hn : hasL out w.id = false) : ∀ (l : List V), w ∈ l → pot (out ++ [w.id]) l + w.before.length ≤ pot out l
  | [], h => by cases h
  | u :: l, h => by
    simp only [pot, hasL_snoc]
    rcases List.mem_cons.1 h with rfl | h
    · have := pot_mono out w.id l
      simp only [hn, Bool.false_or, beq_self_eq_true, if_true, Bool.false_eq_true, if_false]
      omega
    · have := pot_node out w hn l h
      by_cases h1 : hasL out u.id = true
      · simp only [h1, Bool.true_or, if_true]; omega
      · simp only [h1, Bool.false_or]
        split <;> simp <;> omega
theorem pot_le (out : List Int) (B : Nat) : ∀ (l : List V), (∀ v ∈ l, v.before.length ≤ B) → pot out l ≤ l.length * B
  | [], _ => by simp [pot]
  | u :: l, h => by
    have := pot_le out B l fun v hv => h v (by simp [hv])
    have := h u (by simp)
    simp only [pot, List.length_cons, Nat.add_mul]
    split <;> omega
theorem look_pot {l : List V} {bad : List Int} {n : Nat} {todo out r : List Int} (h : LookN l bad n todo out r) : n ≤ todo.length + pot out l := by
  induction h with
  | nil => simp
  | seen h hn ih => simp; omega
  | @leaf n v todo out r h hb hn ih =>
    have := pot_mono out v l
    simp; omega
  | @node n v todo out r h hb i w hf hw hn ih =>
    have hwv : w.id = v := by
      rw [findGo_afind] at hf
      cases hc : afindI (l.map (·.id)) v 0 with
      | none => rw [hc] at hf; simp at hf
      | some j =>
        rw [hc] at hf
        have hj : j = i := by simp only at hf; omega
        subst hj
        have hm : v ∈ l.map (·.id) := hasL_iff.1 (by rw [← afindI_has _ _ 0, hc]; rfl)
        obtain ⟨j', h1, h2⟩ := afindI_some _ _ 0 hm
        rw [hc, Nat.zero_add] at h1
        injection h1 with h1
        subst h1
        rw [List.getElem?_map, hw] at h2
        simpa using h2
    subst hwv
    have := pot_node out w h l (List.mem_of_getElem? hw)
    simp at ih ⊢
    omega
theorem search_ok {l : List V} (h : Hist l) (bad : List Int) (id : Int) (hi : id ∈ l.map (·.id)) (hl : l.length ≤ 100) (hb : ∀ v ∈ l, v.before.length ≤ 100) : ∃ (n m : Nat) (r : List Int), dfsV l bad n id [] = some r ∧ LookN l bad m [id] [] r ∧ m ≤ 1000000 ∧ r.length ≤ 1000000 := by
  obtain ⟨u, hu, rfl⟩ := List.mem_map.1 hi
  have hr := h.rng u hu
  obtain ⟨r, h1⟩ := dfs_some h bad 33 u.id [] hi (by omega)
  obtain ⟨m, h2⟩ := look_of_dfs h bad 33 u.id [] r h1 hi 0 [] r .nil
  have h3 := look_pot h2
  have h4 := pot_le [] 100 l hb
  have h5 := h2.r_len
  have h6 : l.length * 100 ≤ 100 * 100 := Nat.mul_le_mul_right _ hl
  simp at h3 h5
  exact ⟨33, m, r, h1, h2, by omega, by omega⟩

/-! suspects -/
theorem hasL_idsF {f : Nat → Bool} {x : Int} (h0 : 0 ≤ x) (h1 : x < 32) : hasL (idsF f) x = f x.toNat := by
  rw [Bool.eq_iff_iff, hasL_iff, idsF_iff]
  constructor
  · rintro ⟨j, _, h2, rfl⟩; simpa using h2
  · intro h; exact ⟨x.toNat, by omega, h, by omega⟩
theorem idsF_and (f g : Nat → Bool) : idsF (fun i => f i && g i) = (idsF f).filter fun x => g x.toNat := by
  refine sorted_ext _ _ (idsF_srt _) ((idsF_srt f).filter _) fun x => ?_
  rw [List.mem_filter, idsF_iff, idsF_iff]
  constructor
  · rintro ⟨j, h1, h2, rfl⟩
    simp only [Bool.and_eq_true] at h2
    exact ⟨⟨j, h1, h2.1, rfl⟩, by simpa using h2.2⟩
  · rintro ⟨⟨j, h1, h2, rfl⟩, h3⟩
    exact ⟨j, h1, by simp only [Bool.and_eq_true]; exact ⟨h2, by simpa using h3⟩, rfl⟩
theorem afindI_at : ∀ (ks : List Int) (x : Int) (i j : Nat), ks.Nodup → ks[j]? = some x → afindI ks x i = some (i + j)
  | [], _, _, j, _, h => by simp at h
  | k :: ks, x, i, j, hn, h => by
    have hn := List.nodup_cons.1 hn
    simp only [afindI]
    cases j with
    | zero => simp at h; rw [if_pos h.symm]; rfl
    | succ j =>
      simp at h
      have : x ≠ k := fun e => hn.1 (e ▸ List.mem_of_getElem? h)
      rw [if_neg this, afindI_at ks x (i + 1) j hn.2 h]
      congr 1; omega
theorem pasts_at {l : List V} (h : Hist l) {j : Nat} {v : V} (hj : l[j]? = some v) : (pastsGo l [] []).getD j noF = setB l v.id ∧ (l.map (·.id)).getD j 0 = v.id := by
  have hk : (l.map (·.id))[j]? = some v.id := by rw [List.getElem?_map, hj]; rfl
  have := afindI_at _ v.id 0 j h.nodup hk
  rw [Nat.zero_add] at this
  refine ⟨by simp only [setB, lookF, this], by rw [List.getD_eq_getElem?_getD, hk]; rfl⟩
theorem susp_eq {l : List V} (hv : valGo l [] (-1) = true) (id : Int) (good bad : List Int) : suspB l id good bad = suspL l id good bad := by
  have h := hist_of hv
  have e : suspF good bad (l.map (·.id)) (pastsGo l [] []) id = fun i => setB l id i && (List.range (l.map (·.id)).length).all (okJ good bad (l.map (·.id)) (pastsGo l [] []) i) := rfl
  unfold suspB suspL
  rw [e, idsF_and, past_ids hv]
  refine List.filter_congr fun x hx => ?_
  obtain ⟨hx0, hx1⟩ := idsF_mem hx
  unfold isSusp
  rw [Bool.eq_iff_iff, List.all_eq_true, List.all_eq_true]
  have key : ∀ j v, l[j]? = some v → okJ good bad (l.map (·.id)) (pastsGo l [] []) x.toNat j = fine l good bad x v := by
    intro j v hj
    obtain ⟨h1, h2⟩ := pasts_at h hj
    unfold okJ fine
    rw [h1, h2, past_ids hv, hasL_idsF hx0 hx1]
    unfold sOK
    cases hasL bad v.id <;> cases hasL good v.id <;> cases setB l v.id x.toNat <;> rfl
  constructor
  · intro hall v hvl
    obtain ⟨j, hj⟩ := List.getElem?_of_mem hvl
    rw [← key j v hj]
    exact hall j (List.mem_range.2 (by simpa using (List.getElem?_eq_some_iff.1 hj).1))
  · intro hall j hj
    have hj := List.mem_range.1 hj
    rw [List.length_map] at hj
    rw [key j l[j] (List.getElem?_eq_getElem hj)]
    exact hall _ (List.getElem_mem hj)
theorem score_eq {l : List V} (hv : valGo l [] (-1) = true) (s : List Int) (hs : ∀ x ∈ s, 0 ≤ x ∧ x < 32) (p : Int) : scoreB (lookF (l.map (·.id)) (pastsGo l [] []) p) s = score (pastL l p) s := by
  have : cntB (setB l p) s = cnt (pastL l p) s := by
    unfold cntB cnt
    rw [past_ids hv]
    congr 1
    exact List.filter_congr fun x hx => (hasL_idsF (hs x hx).1 (hs x hx).2).symm
  unfold scoreB score
  show (if (s.length : Int) - (cntB (setB l p) s : Int) < (cntB (setB l p) s : Int) then (s.length : Int) - (cntB (setB l p) s : Int) else (cntB (setB l p) s : Int)) = _
  rw [this]
theorem score_nonneg (own s : List Int) : 0 ≤ score own s := by
  have := cnt_le own s
  unfold score
  split <;> omega
theorem best_eq {l : List V} (hv : valGo l [] (-1) = true) (s : List Int) (hs : ∀ x ∈ s, 0 ≤ x ∧ x < 32) : ∀ (ps : List Int) (best most : Int),
    (bestB (l.map (·.id)) (pastsGo l [] []) s ps best most).1 = bestGo l s ps best most ∧ most ≤ (bestB (l.map (·.id)) (pastsGo l [] []) s ps best most).2 ∧ (ps ≠ [] → 0 ≤ (bestB (l.map (·.id)) (pastsGo l [] []) s ps best most).2)
  | [], best, most => ⟨rfl, Int.le_refl _, fun h => absurd rfl h⟩
  | p :: ps, best, most => by
    simp only [bestB, bestGo]
    rw [score_eq hv s hs]
    have h0 := score_nonneg (pastL l p) s
    split
    · obtain ⟨a1, a2, _⟩ := best_eq hv s hs ps p (score (pastL l p) s)
      exact ⟨a1, by omega, fun _ => by omega⟩
    · obtain ⟨a1, a2, _⟩ := best_eq hv s hs ps best most
      exact ⟨a1, a2, fun _ => by omega⟩
theorem err_valid {l : List V} {id : Int} (h : errB l id = 0) : valGo l [] (-1) = true := by
  unfold errB at h
  split at h
  · assumption
  · cases h
theorem next_eq (l : List V) (id : Int) (good bad : List Int) : nextB l id good bad = nextL l id good bad := by
  unfold nextB nextL
  rw [err_eq]
  by_cases he : errL l id = 0
  · have hc : ¬ (errL l id ≠ 0) := by simpa using he
    rw [if_neg hc, if_neg hc]
    have hv := err_valid (by rw [err_eq]; exact he)
    have hs : ∀ x ∈ suspB l id good bad, 0 ≤ x ∧ x < 32 := fun x hx => idsF_mem hx
    rw [susp_eq hv] at hs ⊢
    obtain ⟨a1, a2, a3⟩ := best_eq hv (suspL l id good bad) hs (suspL l id good bad) 0 (-1)
    by_cases hn : suspL l id good bad = []
    · rw [if_pos hn, hn]
      rfl
    · rw [if_neg hn, if_neg (by have := a3 hn; omega), a1]
  · rw [if_pos he, if_pos he]

end Go.Proofs.Ytgenkkejlggmnaa
