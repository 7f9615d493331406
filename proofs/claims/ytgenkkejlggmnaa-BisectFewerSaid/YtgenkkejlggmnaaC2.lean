import Derived.Test.YtgenkkejlggmnaaC1
set_option linter.unusedVariables false
set_option linter.unusedSimpArgs false
namespace Go.Proofs.Ytgenkkejlggmnaa
open Go.AM

/-! Plain laws: pasts. -/
/-- What a history gives: versions in order, with IDs in range, each behind what it follows. -/
structure Hist (l : List V) : Prop where
  rng : ∀ v ∈ l, 0 ≤ v.id ∧ v.id < 32
  ord : l.Pairwise fun u w => u.id < w.id
  bef : ∀ i v, l[i]? = some v → ∀ b ∈ v.before, b ∈ (l.take i).map (·.id)
  lt : ∀ v ∈ l, ∀ b ∈ v.before, b < v.id
  srt : ∀ v ∈ l, v.before.Pairwise (· < ·)

theorem pw_of_adj : ∀ (b : List Int), (∀ k x, b[k]? = some x → ∀ y, 0 < k → b[k - 1]? = some y → y < x) → b.Pairwise (· < ·)
  | [], _ => .nil
  | [x], _ => by simp
  | x :: y :: b, h => by
    have ih := pw_of_adj (y :: b) fun k z hz w h0 hw => h (k + 1) z (by simpa using hz) w (by omega) (by
      rw [show k + 1 - 1 = k - 1 + 1 by omega]
      simpa using hw)
    have hxy : x < y := h 1 y rfl x (by omega) rfl
    rw [List.pairwise_cons]
    refine ⟨fun z hz => ?_, ih⟩
    rcases List.mem_cons.1 hz with rfl | hz
    · exact hxy
    · have := (List.pairwise_cons.1 ih).1 z hz; omega
theorem hist_gen : ∀ (l : List V) (ks : List Int) (last : Int), (∀ x ∈ ks, x ≤ last) → valGo l ks last = true →
    (∀ v ∈ l, last < v.id ∧ 0 ≤ v.id ∧ v.id < 32) ∧ l.Pairwise (fun u w => u.id < w.id) ∧ (∀ i v, l[i]? = some v → ∀ b ∈ v.before, b ∈ ks ++ (l.take i).map (·.id)) ∧ (∀ v ∈ l, ∀ b ∈ v.before, b < v.id) ∧ (∀ v ∈ l, v.before.Pairwise (· < ·))
  | [], _, _, _, _ => by simp
  | v :: l, ks, last, hk, h => by
    simp only [valGo, Bool.and_eq_true] at h
    obtain ⟨h1, h2⟩ := h
    simp only [vOK, Bool.and_eq_true] at h1
    obtain ⟨⟨⟨⟨h5, h6⟩, h7⟩, h8⟩, h9⟩ := h1
    simp at h5 h6
    rw [Bool.not_eq_true', List.any_eq_false] at h9
    have hbk : ∀ b ∈ v.before, b ∈ ks := fun b hb => by
      have := h9 b hb
      simp at this
      exact hasL_iff.1 this
    obtain ⟨a1, a2, a3, a4, a5⟩ := hist_gen l (ks ++ [v.id]) v.id (by
      intro x hx
      rcases List.mem_append.1 hx with hx | hx
      · have := hk x hx; omega
      · simp at hx; omega) h2
    refine ⟨?_, ?_, ?_, ?_, ?_⟩
    · intro u hu
      rcases List.mem_cons.1 hu with rfl | hu
      · omega
      · have := a1 u hu; omega
    · exact List.pairwise_cons.2 ⟨fun u hu => (a1 u hu).1, a2⟩
    · intro i u hu b hb
      cases i with
      | zero => simp at hu; subst hu; simpa using hbk b hb
      | succ i =>
        have := a3 i u (by simpa using hu) b hb
        simpa using this
    · intro u hu b hb
      rcases List.mem_cons.1 hu with rfl | hu
      · have := hk b (hbk b hb); omega
      · exact a4 u hu b hb
    · intro u hu
      rcases List.mem_cons.1 hu with rfl | hu
      · exact pw_of_adj _ ((strict_iff u.before).1 (by rw [h7, h8]; rfl))
      · exact a5 u hu
theorem hist_of {l : List V} (h : valGo l [] (-1) = true) : Hist l := by
  obtain ⟨a1, a2, a3, a4, a5⟩ := hist_gen l [] (-1) (by simp) h
  exact ⟨fun v hv => (a1 v hv).2, a2, fun i v hv b hb => by simpa using a3 i v hv b hb, a4, a5⟩
theorem pw_uniq {u w : V} : ∀ (l : List V), l.Pairwise (fun u w => u.id < w.id) → u ∈ l → w ∈ l → u.id = w.id → u = w
  | [], _, h, _, _ => by cases h
  | y :: l, hp, hu, hw, e => by
    have hp := List.pairwise_cons.1 hp
    rcases List.mem_cons.1 hu with hu1 | hu1
    · rcases List.mem_cons.1 hw with hw1 | hw1
      · rw [hu1, hw1]
      · have := hp.1 w hw1; rw [← hu1] at this; omega
    · rcases List.mem_cons.1 hw with hw1 | hw1
      · have := hp.1 u hu1; rw [← hw1] at this; omega
      · exact pw_uniq l hp.2 hu1 hw1 e
theorem Hist.uniq {l : List V} (h : Hist l) {u w : V} (hu : u ∈ l) (hw : w ∈ l) (e : u.id = w.id) : u = w := pw_uniq l h.ord hu hw e

/-- A version follows another one, or is it. -/
inductive Reach (l : List V) : Int → Int → Prop
  | refl (x : Int) : Reach l x x
  | step {x b : Int} {v : V} (h : Reach l x v.id) (hv : v ∈ l) (hb : b ∈ v.before) : Reach l x b
theorem Reach.trans {l : List V} {x y z : Int} (h : Reach l x y) (g : Reach l y z) : Reach l x z := by
  induction g with
  | refl => exact h
  | step _ hv hb ih => exact .step ih hv hb
theorem Reach.le {l : List V} (hl : Hist l) {x y : Int} (h : Reach l x y) : y ≤ x := by
  induction h with
  | refl => exact Int.le_refl _
  | step _ hv hb ih => have := hl.lt _ hv _ hb; omega
theorem Reach.ids {l : List V} (hl : Hist l) {x y : Int} (h : Reach l x y) (hx : x ∈ l.map (·.id)) : y ∈ l.map (·.id) := by
  induction h with
  | refl => exact hx
  | step _ hv hb ih =>
    obtain ⟨i, hi⟩ := List.getElem?_of_mem hv
    have := hl.bef i _ hi _ hb
    obtain ⟨u, hu, rfl⟩ := List.mem_map.1 this
    exact List.mem_map.2 ⟨u, List.mem_of_mem_take hu, rfl⟩
theorem Reach.cases {l : List V} (hl : Hist l) {v : V} (hv : v ∈ l) {y : Int} : Reach l v.id y ↔ y = v.id ∨ ∃ b ∈ v.before, Reach l b y := by
  constructor
  · intro h
    generalize hx : v.id = x at h
    induction h with
    | refl => exact .inl rfl
    | step h1 hu hb ih =>
      rcases ih with ih | ⟨b', hb', h2⟩
      · have := hl.uniq hu hv (by rw [ih, hx])
        subst this
        exact .inr ⟨_, hb, .refl _⟩
      · exact .inr ⟨b', hb', .step h2 hu hb⟩
  · rintro (rfl | ⟨b, hb, h⟩)
    · exact .refl _
    · exact Reach.trans (.step (.refl _) hv hb) h

/-! the sets of the package -/
theorem goF_any (ks : List Int) (vs : List (Nat → Bool)) (j : Nat) : ∀ (bs : List Int) (f : Nat → Bool), goF ks vs bs f j = (f j || bs.any fun b => lookF ks vs b j)
  | [], f => by simp [goF]
  | b :: bs, f => by simp only [goF, goF_any ks vs j bs, orF, List.any_cons, Bool.or_assoc]
theorem afindI_app : ∀ (ks ks' : List Int) (b : Int) (i : Nat), b ∈ ks → afindI (ks ++ ks') b i = afindI ks b i
  | [], _, _, _, h => by cases h
  | x :: xs, ks', b, i, h => by
    simp only [List.cons_append, afindI]
    split
    · rfl
    · rename_i hne
      exact afindI_app xs ks' b (i + 1) ((List.mem_cons.1 h).resolve_left hne)
theorem afindI_new : ∀ (ks ks' : List Int) (b : Int) (i : Nat), b ∉ ks → afindI (ks ++ b :: ks') b i = some (i + ks.length)
  | [], ks', b, i, _ => by simp [afindI]
  | x :: xs, ks', b, i, h => by
    simp only [List.mem_cons, not_or] at h
    simp only [List.cons_append, afindI, if_neg h.1, afindI_new xs ks' b (i + 1) h.2, List.length_cons]
    congr 1
    omega
theorem lookF_app {ks ks' : List Int} {vs vs' : List (Nat → Bool)} (hl : vs.length = ks.length) {b : Int} (h : b ∈ ks) : lookF (ks ++ ks') (vs ++ vs') b = lookF ks vs b := by
  unfold lookF
  rw [afindI_app ks ks' b 0 h]
  cases hc : afindI ks b 0 with
  | none => rfl
  | some j =>
    have := afindI_lt ks b 0 j hc
    simp only [List.getD_eq_getElem?_getD]
    rw [List.getElem?_append_left (by omega)]
theorem lookF_new {ks ks' : List Int} {vs vs' : List (Nat → Bool)} (hl : vs.length = ks.length) {b : Int} (h : b ∉ ks) (f : Nat → Bool) : lookF (ks ++ b :: ks') (vs ++ f :: vs') b = f := by
  unfold lookF
  rw [afindI_new ks ks' b 0 h]
  simp only [List.getD_eq_getElem?_getD, Nat.zero_add]
  rw [← hl]
  simp
theorem pasts_gen : ∀ (l : List V) (ks : List Int) (vs : List (Nat → Bool)), vs.length = ks.length → (ks ++ l.map (·.id)).Nodup → (∀ i v, l[i]? = some v → ∀ b ∈ v.before, b ∈ ks ++ (l.take i).map (·.id)) →
    (∃ ext, pastsGo l ks vs = vs ++ ext) ∧ ∀ v ∈ l, ∀ j, lookF (ks ++ l.map (·.id)) (pastsGo l ks vs) v.id j = (decide (j = v.id.toNat) || v.before.any fun b => lookF (ks ++ l.map (·.id)) (pastsGo l ks vs) b j)
  | [], ks, vs, _, _, _ => ⟨⟨[], by simp [pastsGo]⟩, by simp⟩
  | v :: l, ks, vs, hl, hnd, hb => by
    have hnd' : ((ks ++ [v.id]) ++ l.map (·.id)).Nodup := by simpa using hnd
    obtain ⟨⟨ext, he⟩, ih⟩ := pasts_gen l (ks ++ [v.id]) (vs ++ [oneF ks vs v]) (by simp [hl]) hnd' fun i u hu b hb' => by
      have := hb (i + 1) u (by simpa using hu) b hb'
      simpa using this
    have hv : v.id ∉ ks := by
      rw [List.map_cons, List.nodup_append] at hnd
      intro hm
      exact hnd.2.2 _ hm _ (by simp) rfl
    have ek : ks ++ (v :: l).map (·.id) = (ks ++ [v.id]) ++ l.map (·.id) := by simp
    refine ⟨⟨oneF ks vs v :: ext, by simp only [pastsGo, he]; simp⟩, ?_⟩
    intro u hu j
    simp only [pastsGo]
    rcases List.mem_cons.1 hu with rfl | hu
    · have e1 : lookF (ks ++ (u :: l).map (·.id)) (pastsGo l (ks ++ [u.id]) (vs ++ [oneF ks vs u])) u.id = oneF ks vs u := by
        rw [he, List.map_cons, List.append_assoc]
        exact lookF_new hl hv _
      have e2 : ∀ b ∈ u.before, lookF (ks ++ (u :: l).map (·.id)) (pastsGo l (ks ++ [u.id]) (vs ++ [oneF ks vs u])) b = lookF ks vs b := by
        intro b hb'
        have := hb 0 u rfl b hb'
        simp at this
        rw [he, List.append_assoc]
        exact lookF_app hl this
      rw [e1]
      have ea : (if j = u.id.toNat then true else noF j) = decide (j = u.id.toNat) := by by_cases h : j = u.id.toNat <;> simp [h, noF]
      have eo : oneF ks vs u j = (decide (j = u.id.toNat) || u.before.any fun b => lookF ks vs b j) := by rw [oneF, goF_any, ea]
      rw [eo]
      congr 1
      · rw [Bool.eq_iff_iff, List.any_eq_true, List.any_eq_true]
        exact ⟨fun ⟨b, h1, h2⟩ => ⟨b, h1, by rw [e2 b h1]; exact h2⟩, fun ⟨b, h1, h2⟩ => ⟨b, h1, by rw [e2 b h1] at h2; exact h2⟩⟩
    · rw [ek]
      exact ih u hu j
theorem Hist.nodup {l : List V} (h : Hist l) : (l.map (·.id)).Nodup := by
  have := h.ord
  rw [List.Nodup, List.pairwise_map]
  exact this.imp fun hab => by omega
theorem setB_step {l : List V} (h : Hist l) {v : V} (hv : v ∈ l) (j : Nat) : setB l v.id j = (decide (j = v.id.toNat) || v.before.any fun b => setB l b j) := by
  have := (pasts_gen l [] [] rfl (by simpa using h.nodup) fun i v hv b hb => by simpa using h.bef i v hv b hb).2 v hv j
  simpa [setB] using this
theorem setB_reach {l : List V} (h : Hist l) : ∀ (n : Nat) (v : V), v ∈ l → v.id.toNat ≤ n → ∀ j : Nat, setB l v.id j = true ↔ Reach l v.id (j : Int)
  | n, v, hv, hn, j => by
    have hr := h.rng v hv
    rw [setB_step h hv, Reach.cases h hv, Bool.or_eq_true, decide_eq_true_eq, List.any_eq_true]
    have hb : ∀ b ∈ v.before, (setB l b j = true ↔ Reach l b (j : Int)) := by
      intro b hb
      obtain ⟨i, hi⟩ := List.getElem?_of_mem hv
      obtain ⟨u, hu, rfl⟩ := List.mem_map.1 (h.bef i v hi b hb)
      have hul := List.mem_of_mem_take hu
      have hlt := h.lt v hv _ hb
      have hur := h.rng u hul
      cases n with
      | zero => omega
      | succ n => exact setB_reach h n u hul (by omega) j
    constructor
    · rintro (h1 | ⟨b, h1, h2⟩)
      · exact .inl (by omega)
      · exact .inr ⟨b, h1, (hb b h1).1 h2⟩
    · rintro (h1 | ⟨b, h1, h2⟩)
      · exact .inl (by omega)
      · exact .inr ⟨b, h1, (hb b h1).2 h2⟩

/-! the sets of the reference -/
theorem inner_mem (id : Int) : ∀ (bs acc : List Int) (x : Int), x ∈ innerF id acc bs ↔ x ∈ acc ∨ (id ∈ acc ∧ x ∈ bs)
  | [], acc, x => by simp [innerF]
  | b :: bs, acc, x => by
    simp only [innerF]
    rw [inner_mem id bs]
    by_cases h : id ∈ acc
    · have h1 : hasL acc id = true := hasL_iff.2 h
      by_cases hb : b ∈ acc
      · have h2 : hasL acc b = true := hasL_iff.2 hb
        rw [h1, h2]
        simp only [Bool.not_true, Bool.and_false, Bool.false_eq_true, if_false, List.mem_cons]
        constructor
        · rintro (h3 | ⟨h3, h4⟩)
          · exact .inl h3
          · exact .inr ⟨h3, .inr h4⟩
        · rintro (h3 | ⟨h3, rfl | h4⟩)
          · exact .inl h3
          · exact .inl hb
          · exact .inr ⟨h3, h4⟩
      · have h2 : hasL acc b = false := by rw [Bool.eq_false_iff]; exact fun hc => hb (hasL_iff.1 hc)
        rw [h1, h2]
        simp only [Bool.not_false, Bool.and_true, if_true, List.mem_cons, List.mem_append, List.not_mem_nil, or_false]
        constructor
        · rintro ((h3 | rfl) | ⟨h3, h4⟩)
          · exact .inl h3
          · exact .inr ⟨h, .inl rfl⟩
          · exact .inr ⟨h, .inr h4⟩
        · rintro (h3 | ⟨h3, rfl | h4⟩)
          · exact .inl (.inl h3)
          · exact .inl (.inr rfl)
          · exact .inr ⟨.inl h, h4⟩
    · have h1 : hasL acc id = false := by rw [Bool.eq_false_iff]; exact fun hc => h (hasL_iff.1 hc)
      rw [h1]
      simp only [Bool.false_and, Bool.false_eq_true, if_false]
      constructor
      · rintro (h3 | ⟨h3, _⟩)
        · exact .inl h3
        · exact absurd h3 h
      · rintro (h3 | ⟨h3, _⟩)
        · exact .inl h3
        · exact absurd h3 h
theorem outer_mono : ∀ (vs : List V) (acc : List Int) (x : Int), x ∈ acc → x ∈ outerF vs acc
  | [], _, _, h => h
  | v :: vs, acc, x, h => outer_mono vs _ x ((inner_mem _ _ _ _).2 (.inl h))
theorem outer_small : ∀ (vs : List V) (acc : List Int) (x : Int), x ∈ outerF vs acc → x ∈ acc ∨ ∃ w ∈ vs, x ∈ w.before
  | [], _, _, h => .inl h
  | v :: vs, acc, x, h => by
    rcases outer_small vs _ x h with h1 | ⟨w, h1, h2⟩
    · rcases (inner_mem _ _ _ _).1 h1 with h2 | ⟨_, h2⟩
      · exact .inl h2
      · exact .inr ⟨v, by simp, h2⟩
    · exact .inr ⟨w, by simp [h1], h2⟩
theorem outer_closed : ∀ (vs : List V) (acc : List Int), vs.Pairwise (fun u w => w.id < u.id) → (∀ u ∈ vs, ∀ b ∈ u.before, b < u.id) → ∀ u ∈ vs, u.id ∈ outerF vs acc → ∀ b ∈ u.before, b ∈ outerF vs acc
  | [], _, _, _, u, hu, _, _, _ => by cases hu
  | v :: vs, acc, hp, hlt, u, hu, hm, b, hb => by
    have hp := List.pairwise_cons.1 hp
    simp only [outerF] at hm ⊢
    rcases List.mem_cons.1 hu with rfl | hu
    · have h1 : u.id ∈ innerF u.id acc u.before := by
        rcases outer_small vs _ _ hm with h1 | ⟨w, hw, h1⟩
        · exact h1
        · have a := hp.1 w hw
          have b := hlt w (by simp [hw]) _ h1
          omega
      have h2 : u.id ∈ acc := by
        rcases (inner_mem _ _ _ _).1 h1 with h2 | ⟨h2, _⟩ <;> exact h2
      exact outer_mono vs _ b ((inner_mem _ _ _ _).2 (.inr ⟨h2, hb⟩))
    · exact outer_closed vs _ hp.2 (fun w hw => hlt w (by simp [hw])) u hu hm b hb
theorem outer_sound {l : List V} {id : Int} : ∀ (vs : List V) (acc : List Int), (∀ v ∈ vs, v ∈ l) → (∀ x ∈ acc, Reach l id x) → ∀ x ∈ outerF vs acc, Reach l id x
  | [], _, _, h, x, hx => h x hx
  | v :: vs, acc, hv, h, x, hx => by
    refine outer_sound vs _ (fun w hw => hv w (by simp [hw])) (fun y hy => ?_) x hx
    rcases (inner_mem _ _ _ _).1 hy with h1 | ⟨h1, h2⟩
    · exact h y h1
    · exact .step (h _ h1) (hv v (by simp)) h2
theorem inSet_reach {l : List V} (h : Hist l) (id x : Int) : x ∈ inSet l id ↔ Reach l id x := by
  constructor
  · exact outer_sound l.reverse [id] (fun v hv => List.mem_reverse.1 hv) (fun y hy => by simp at hy; subst hy; exact .refl _) x
  · intro hr
    induction hr with
    | refl => exact outer_mono _ _ _ (by simp)
    | step _ hv hb ih =>
      exact outer_closed l.reverse [id] (List.pairwise_reverse.2 h.ord) (fun u hu => h.lt u (List.mem_reverse.1 hu)) _ (List.mem_reverse.2 hv) ih _ hb

/-! both -/
theorem sorted_ext : ∀ (a b : List Int), a.Pairwise (· < ·) → b.Pairwise (· < ·) → (∀ x, x ∈ a ↔ x ∈ b) → a = b
  | [], [], _, _, _ => rfl
  | [], y :: b, _, _, h => absurd ((h y).2 (by simp)) (by simp)
  | x :: a, [], _, _, h => absurd ((h x).1 (by simp)) (by simp)
  | x :: a, y :: b, ha, hb, h => by
    have ha' := List.pairwise_cons.1 ha
    have hb' := List.pairwise_cons.1 hb
    have e : x = y := by
      rcases List.mem_cons.1 ((h x).1 (by simp)) with h1 | h1
      · exact h1
      · rcases List.mem_cons.1 ((h y).2 (by simp)) with h2 | h2
        · exact h2.symm
        · have := hb'.1 x h1; have := ha'.1 y h2; omega
    subst e
    congr 1
    refine sorted_ext a b ha'.2 hb'.2 fun z => ?_
    constructor
    · intro hz
      rcases List.mem_cons.1 ((h z).1 (by simp [hz])) with h1 | h1
      · have := ha'.1 z hz; omega
      · exact h1
    · intro hz
      rcases List.mem_cons.1 ((h z).2 (by simp [hz])) with h1 | h1
      · have := hb'.1 z hz; omega
      · exact h1
theorem idsF_iff (f : Nat → Bool) (x : Int) : x ∈ idsF f ↔ ∃ j : Nat, j < 32 ∧ f j = true ∧ x = j := by
  unfold idsF idsOf idsK
  simp only [List.mem_map, List.mem_filter, List.mem_range]
  constructor
  · rintro ⟨j, ⟨h1, h2⟩, rfl⟩
    refine ⟨j, h1, ?_, rfl⟩
    simpa [fB, List.getD_eq_getElem?_getD, List.getElem?_range h1] using h2
  · rintro ⟨j, h1, h2, rfl⟩
    refine ⟨j, ⟨h1, ?_⟩, rfl⟩
    simpa [fB, List.getD_eq_getElem?_getD, List.getElem?_range h1] using h2
theorem idsF_srt (f : Nat → Bool) : (idsF f).Pairwise (· < ·) := by
  unfold idsF idsOf idsK
  rw [List.pairwise_map]
  refine List.Pairwise.filter _ ?_
  exact List.pairwise_lt_range.imp fun h => by omega
theorem keep_srt {l : List V} (h : Hist l) (s : List Int) : (keep s l).Pairwise (· < ·) := by
  unfold keep
  rw [List.pairwise_map]
  exact List.Pairwise.filter _ h.ord
theorem setB_none {l : List V} {id : Int} (h : id ∉ l.map (·.id)) : setB l id = noF := by
  simp only [setB, lookF, afindI_none _ _ _ h]
theorem pastB_mem {l : List V} (h : Hist l) {id : Int} (hi : id ∈ l.map (·.id)) (x : Int) : x ∈ idsF (setB l id) ↔ Reach l id x := by
  obtain ⟨v, hv, rfl⟩ := List.mem_map.1 hi
  rw [idsF_iff]
  constructor
  · rintro ⟨j, _, h2, rfl⟩
    exact (setB_reach h _ v hv (Nat.le_refl _) j).1 h2
  · intro hr
    obtain ⟨u, hu, rfl⟩ := List.mem_map.1 (hr.ids h hi)
    have := h.rng u hu
    refine ⟨u.id.toNat, by omega, (setB_reach h _ v hv (Nat.le_refl _) _).2 ?_, by omega⟩
    rw [show ((u.id.toNat : Nat) : Int) = u.id by omega]
    exact hr
theorem past_eq (l : List V) (id : Int) : pastB l id = pastL l id := by
  unfold pastB pastL
  rw [← val_eq]
  by_cases hv : valGo l [] (-1) = true
  · have h := hist_of hv
    rw [if_pos hv]
    by_cases hi : id ∈ l.map (·.id)
    · rw [if_pos ⟨hv, (findGo_iff l id 0).2 (hasL_iff.2 hi)⟩]
      refine sorted_ext _ _ (idsF_srt _) (keep_srt h _) fun x => ?_
      rw [pastB_mem h hi]
      simp only [keep, List.mem_map, List.mem_filter, hasL_iff]
      constructor
      · intro hr
        obtain ⟨u, hu, rfl⟩ := List.mem_map.1 (hr.ids h hi)
        exact ⟨u, ⟨hu, (inSet_reach h _ _).2 hr⟩, rfl⟩
      · rintro ⟨u, ⟨_, h2⟩, rfl⟩
        exact (inSet_reach h _ _).1 h2
    · rw [if_neg (fun hc => hi (hasL_iff.1 ((findGo_iff l id 0).1 hc.2))), setB_none hi]
      rfl
  · rw [if_neg hv, if_neg (fun hc => hv hc.1)]

end Go.Proofs.Ytgenkkejlggmnaa
