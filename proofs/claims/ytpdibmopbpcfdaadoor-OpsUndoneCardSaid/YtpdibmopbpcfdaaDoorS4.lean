import Derived.Test.YtpdibmopbpcfdaaDoorS3
set_option linter.unusedVariables false
set_option linter.unusedSimpArgs false
namespace Go.Proofs.YtpdibmopbpcfdaaDoor
open Go.AM
set_option maxRecDepth 100000
abbrev MP := List (Int × List AV)
def afindI : List Int → Int → Nat → Option Nat
  | [], _, _ => none
  | x :: xs, k, i => if k = x then some i else afindI xs k (i + 1)
theorem afind_int : ∀ (ks : List Int) (k : Int) (i : Nat), afind (.int .i64) (.int .i64 k) (cI ks) i = some (afindI ks k i)
  | [], k, i => rfl
  | x :: xs, k, i => by
    have e : cI (x :: xs) = .int .i64 x :: cI xs := rfl
    have ih := afind_int xs k (i + 1)
    rw [e, afind]
    by_cases h : k = x
    · have : asame (.int .i64) (.int .i64 k) (.int .i64 x) = some true := by simp [asame, h]
      simp only [this, afindI, if_pos h]
    · have : asame (.int .i64) (.int .i64 k) (.int .i64 x) = some false := by simp [asame, h]
      simp only [this, afindI, if_neg h, ih]
theorem afindI_lt : ∀ (ks : List Int) (k : Int) (i j : Nat), afindI ks k i = some j → j < i + ks.length
  | [], _, _, _, h => by simp [afindI] at h
  | x :: xs, k, i, j, h => by
    rw [afindI] at h
    split at h
    · injection h with h; subst h; simp
    · have := afindI_lt xs k (i + 1) j h
      simp; omega
def keysM (mp : MP) : List Int := mp.map (·.1)
def valsM (mp : MP) : List AV := mp.map fun x => .agg x.2
def mapRow (mp : MP) : ARow := .map (cI (keysM mp)) (valsM mp)
def goodM (E : Nat) (mp : MP) : Prop := ∀ x ∈ mp, NodeV E x.2
theorem mapRow_in {p : Nat → Bool} {E : Nat} {mp : MP} (h : goodM E mp) : rowIn p (mapRow mp) = true := by
  have : ∀ mp : MP, goodM E mp → inL noRef (valsM mp) = true := by
    intro mp
    induction mp with
    | nil => intro _; rfl
    | cons x mp ih =>
      intro h
      simp only [valsM, List.map_cons, inL, inR, Bool.and_eq_true]
      exact ⟨(h x (by simp)).tree, ih fun y hy => h y (by simp [hy])⟩
  simp only [mapRow, rowIn, Bool.and_eq_true]
  exact ⟨tree_cI _ _, inL_mono (p := noRef) (fun r hr => by cases hr) (this mp h)⟩
theorem mapRow_snoc (mp : MP) (k : Int) (c : List AV) : ARow.map (cI (keysM mp) ++ [.int .i64 k]) (valsM mp ++ [.agg c]) = mapRow (mp ++ [(k, c)]) := by simp [mapRow, keysM, valsM, cI]
def eqS (f : List AV → List AV → MP → Bool × MP) : List (List AV) → List (List AV) → MP → Bool × MP
  | p :: ps, e :: es, mp => match f p e mp with
    | (true, mp') => eqS f ps es mp'
    | (false, mp') => (false, mp')
  | _, _, mp => (true, mp)
def matchS (E : Nat) : Nat → List AV → List AV → Bool → MP → Bool × MP
  | D + 1, [.int _ pk, .int _ pn, .int _ pm, .sl _ ps], [.int k0 k, .int k1 n, .int k2 m, .sl b es], root, mp =>
    if pk = 28 then
      if pn < 0 ∨ 7 < pn then (false, mp) else match afindI (keysM mp) pn 0 with
        | some j => (match mp[j]? with
          | some x => (cmpT E x.2 [.int k0 k, .int k1 n, .int k2 m, .sl b es] == 0, mp)
          | none => (false, mp))
        | none => (true, mp ++ [(pn, [.int k0 k, .int k1 n, .int k2 m, .sl b es])])
    else if pk = k ∧ pm = m ∧ (pn = n ∨ (root = true ∧ pn = -100)) then
      if ps.length = es.length then eqS (fun p e mp => matchS E D p e false mp) ps es mp else (false, mp)
    else (false, mp)
  | _, _, _, _, mp => (false, mp)
theorem eqS_good {E D : Nat} {f : List AV → List AV → MP → Bool × MP} (hf : ∀ p e mp, NodeV D p → NodeV E e → goodM E mp → goodM E (f p e mp).2) : ∀ (ps es : List (List AV)) (mp : MP), (∀ e ∈ ps, NodeV D e) → (∀ e ∈ es, NodeV E e) → goodM E mp → goodM E (eqS f ps es mp).2
  | p :: ps, e :: es, mp, hp, he, hm => by
    have h1 := hf p e mp (hp p (by simp)) (he e (by simp)) hm
    simp only [eqS]
    split
    · rename_i mp' h
      rw [h] at h1
      exact eqS_good hf ps es mp' (fun e he' => hp e (by simp [he'])) (fun e he' => he e (by simp [he'])) h1
    · rename_i mp' h
      rw [h] at h1
      exact h1
  | [], _, mp, _, _, hm => by simpa [eqS] using hm
  | _ :: _, [], mp, _, _, hm => by simpa [eqS] using hm
theorem matchS_good {E : Nat} : ∀ (D : Nat) (p e : List AV) (root : Bool) (mp : MP), NodeV D p → NodeV E e → goodM E mp → goodM E (matchS E D p e root mp).2 := by
  intro D
  induction D with
  | zero => intro p e root mp _ _ hm; simpa [matchS] using hm
  | succ D ih =>
    intro p e root mp hp he hm
    have he2 := he
    cases hp with
    | @mk _ d1 hd1 k1 n1 m1 b1 es1 hl1 hh1 =>
    cases he with
    | @mk _ d2 hd2 k2 n2 m2 b2 es2 hl2 hh2 =>
    simp only [matchS]
    split
    · split
      · exact hm
      · split
        · split
          · exact hm
          · exact hm
        · intro x hx
          rcases List.mem_append.1 hx with hx | hx
          · exact hm x hx
          · rw [List.mem_singleton.1 hx]; exact he2
    · split
      · split
        · exact eqS_good (fun p e mp hp he hm => ih p e false mp hp he hm) _ _ _ (fun e he' => (hh1 e he').up (Nat.le_of_lt_succ hd1)) (fun e he' => (hh2 e he').up (Nat.le_of_lt hd2)) hm
        · exact hm
      · exact hm
def MatC (E D : Nat) : Prop := ∀ (p : List AV), NodeV D p → ∀ (e : List AV), NodeV E e → ∀ (root : Bool) (mp : MP), goodM E mp → ∀ rows : Nat → ARow, rows 3 = mapRow mp →
  CallC Tryd.prog G0 38 [.omp 3, .agg p, .agg e, .bool root] rows [3] ⟨.bool (matchS E D p e root mp).1, [(3, mapRow (matchS E D p e root mp).2)]⟩
theorem mat_59 {E D : Nat} (h : MatC E D) (p : List AV) (hp : NodeV D p) (e : List AV) (he : NodeV E e) (mp : MP) (hm : goodM E mp) (rows : Nat → ARow) (h3 : rows 3 = mapRow mp) (h4 : rows 4 = .cells 0 [.omp 3]) :
    CallC Tryd.prog G0 59 [.agg p, .agg e, .ptr 4 0 0] rows [3, 4] ⟨.bool (matchS E D p e false mp).1, [(3, mapRow (matchS E D p e false mp).2)]⟩ := by
  have hg := matchS_good D p e false mp hp he hm
  have hp2 := hp
  have he2 := he
  have tp := hp.tree
  have te := he.tree
  cases hp with
  | @mk _ d1 hd1 k1 n1 m1 b1 es1 hl1 hh1 =>
  cases he with
  | @mk _ d2 hd2 k2 n2 m2 b2 es2 hl2 hh2 =>
  generalize hres : matchS E D [.int .i64 k1, .int .i64 n1, .int .i64 m1, .sl b1 es1] [.int .i64 k2, .int .i64 n2, .int .i64 m2, .sl b2 es2] false mp = res at hg
  refine callC_of_body [.dead, .dead, .dead, mapRow mp, .cells 0 [.omp 3]] hG0 Tryd.func59 rfl (by kernel_rfl) (by simp [Tryd.ntmps59]) ?_ ?_ ?_ ?_ ?_ ?_ ?_
  · intro r hr
    simp only [List.mem_cons, List.not_mem_nil, or_false] at hr
    rcases hr with rfl | rfl
    · exact h3.symm
    · exact h4.symm
  · intro r hr
    match r, hr with
    | 0, _ => simp
    | 1, _ => simp
    | 2, _ => simp
    | 3, hr => exact absurd (by simp) hr
    | 4, hr => exact absurd (by simp) hr
    | r + 5, _ => simp
  · simp only [inL, inR, List.length_cons, List.length_nil, Nat.reduceAdd, Nat.reduceLT, decide_true, Bool.true_and, Bool.and_true, Bool.and_eq_true]
    exact ⟨inE_mono (p := noRef) (fun r hr => by cases hr) (nodes_tree hh1), inE_mono (p := noRef) (fun r hr => by cases hr) (nodes_tree hh2)⟩
  · intro r hr
    simp only [List.mem_cons, List.not_mem_nil, or_false] at hr
    rcases hr with rfl | rfl
    · rw [h3]; exact mapRow_in hm
    · rw [h4]; rfl
  · intro r hr h
    simp only [List.mem_cons, List.not_mem_nil, or_false] at hr
    simp only [List.length_cons, List.length_nil] at h
    omega
  · simp
  simp only [Tryd.ntmps59, enterF, Nat.reduceAdd, List.length_cons, List.length_nil]
  repeat' (first | refine u'1 fun _ _ => ?_ | refine u'2 ?_ | (first | refine u'3 ?_ | refine u'4 ?_ | refine u'5 fun _ _ _ _ => ?_ | (refine u'6 (fun hg => ?_) (fun hg => ?_) <;> try simp only [hg])) <;> simp only [wS, simprocAttr] | (refine u'7 ?_; try simp only [wE, simprocAttr]) | refine u'8 ?_ | refine u'9 ?_)
  have key := fun rows h3 => h _ hp2 _ he2 false mp hm rows h3
  rw [hres] at key
  refine ⟨_, _, key _ (by simp only [wS, simprocAttr]), ?_⟩
  simp only [wS, simprocAttr]
  repeat' (first | refine u'1 fun _ _ => ?_ | refine u'2 ?_ | (first | refine u'3 ?_ | refine u'4 ?_ | refine u'5 fun _ _ _ _ => ?_ | (refine u'6 (fun hg => ?_) (fun hg => ?_) <;> try simp only [hg])) <;> simp only [wS, simprocAttr] | (refine u'7 ?_; try simp only [wE, simprocAttr]) | refine u'8 ?_ | refine u'9 ?_)
  refine body_ret1 rfl ?_
  simp only [wS, simprocAttr, inR]
  intro r hr
  simp only [List.mem_cons, List.not_mem_nil, or_false] at hr
  rcases hr with rfl | rfl
  · exact ⟨rfl, mapRow_in hg⟩
  · exact ⟨h4.symm, rfl⟩
theorem eqS_drop {f : List AV → List AV → MP → Bool × MP} {ps es : List (List AV)} {i : Nat} {p e : List AV} (hp : ps[i]? = some p) (he : es[i]? = some e) (mp : MP) : eqS f (ps.drop i) (es.drop i) mp = match f p e mp with
    | (true, mp') => eqS f (ps.drop (i + 1)) (es.drop (i + 1)) mp'
    | (false, mp') => (false, mp') := by
  obtain ⟨h1, h2⟩ := List.getElem?_eq_some_iff.1 hp
  obtain ⟨h3, h4⟩ := List.getElem?_eq_some_iff.1 he
  rw [List.drop_eq_getElem_cons h1, List.drop_eq_getElem_cons h3, h2, h4, eqS]
def eqL (f : List AV → List AV → MP → Bool × MP) (ps es : List (List AV)) (mp : MP) : Bool × MP := if ps.length = es.length then eqS f ps es mp else (false, mp)
set_option maxHeartbeats 4000000 in
theorem equal_58 {E D : Nat} (hMat : MatC E D) (p q : Bool) (ps es : List (List AV)) (hp : ∀ e ∈ ps, NodeV D e) (he : ∀ e ∈ es, NodeV E e) (hlp : ps.length ≤ 6) (hle : es.length ≤ 6) (mp : MP) (hm : goodM E mp) (rows : Nat → ARow) (h3 : rows 3 = mapRow mp) (h4 : rows 4 = .cells 0 [.omp 3]) :
    CallC Tryd.prog G0 58 [.sl p ps, .sl q es, .fn (.func 59) [] [.ptr 4 0 0]] rows [3, 4] ⟨.bool (eqL (fun p e mp => matchS E D p e false mp) ps es mp).1, [(3, mapRow (eqL (fun p e mp => matchS E D p e false mp) ps es mp).2)]⟩ := by
  have hg : goodM E (eqL (fun p e mp => matchS E D p e false mp) ps es mp).2 := by
    unfold eqL
    split
    · exact eqS_good (fun p e mp => matchS_good D p e false mp) ps es mp hp he hm
    · exact hm
  have heq : ps.length = es.length → eqL (fun p e mp => matchS E D p e false mp) ps es mp = eqS (fun p e mp => matchS E D p e false mp) ps es mp := fun h => by rw [eqL, if_pos h]
  have hne : ps.length ≠ es.length → eqL (fun p e mp => matchS E D p e false mp) ps es mp = (false, mp) := fun h => by rw [eqL, if_neg h]
  generalize eqL (fun p e mp => matchS E D p e false mp) ps es mp = res at hg heq hne
  refine callC_of_body [.dead, .dead, .dead, mapRow mp, .cells 0 [.omp 3]] hG0 Tryd.func58 rfl (by kernel_rfl) (by simp [Tryd.ntmps58]) ?_ ?_ ?_ ?_ ?_ ?_ ?_
  · intro r hr
    simp only [List.mem_cons, List.not_mem_nil, or_false] at hr
    rcases hr with rfl | rfl
    · exact h3.symm
    · exact h4.symm
  · intro r hr
    match r, hr with
    | 0, _ => simp
    | 1, _ => simp
    | 2, _ => simp
    | 3, hr => exact absurd (by simp) hr
    | 4, hr => exact absurd (by simp) hr
    | r + 5, _ => simp
  · simp only [inL, inR, List.length_cons, List.length_nil, Nat.reduceAdd, Nat.reduceLT, decide_true, Bool.true_and, Bool.and_true, Bool.and_eq_true]
    exact ⟨inE_mono (p := noRef) (fun r hr => by cases hr) (nodes_tree hp), inE_mono (p := noRef) (fun r hr => by cases hr) (nodes_tree he)⟩
  · intro r hr
    simp only [List.mem_cons, List.not_mem_nil, or_false] at hr
    rcases hr with rfl | rfl
    · rw [h3]; exact mapRow_in hm
    · rw [h4]; rfl
  · intro r hr h
    simp only [List.mem_cons, List.not_mem_nil, or_false] at hr
    simp only [List.length_cons, List.length_nil] at h
    omega
  · simp
  simp only [Tryd.ntmps58, enterF, Nat.reduceAdd, List.length_cons, List.length_nil]
  have post : ∀ s : AS, s.row 3 = mapRow res.2 → s.row 4 = .cells 0 [.omp 3] → ∀ r ∈ [3, 4], s.row r = upd rows [(3, mapRow res.2)] r ∧ rowIn (fun r => [3, 4].contains r) (s.row r) = true := fun s a b r hr => by
    simp only [List.mem_cons, List.not_mem_nil, or_false] at hr
    rcases hr with rfl | rfl
    · rw [a]; exact ⟨rfl, mapRow_in hg⟩
    · rw [b]; exact ⟨h4.symm, rfl⟩
  repeat' (first | refine u'1 fun _ _ => ?_ | refine u'2 ?_ | (first | refine u'3 ?_ | refine u'4 ?_ | refine u'5 fun _ _ _ _ => ?_ | (refine u'6 (fun hg => ?_) (fun hg => ?_) <;> try simp only [hg])) <;> simp only [wS, simprocAttr] | (refine u'7 ?_; try simp only [wE, simprocAttr]) | refine u'8 ?_ | refine u'9 ?_)
  refine ⟨fun h => ?_, fun h => ?_⟩
  · have hne' : ps.length ≠ es.length := by intro e; rw [e] at h; simp at h
    have hres2 := hne hne'
    repeat' (first | refine u'1 fun _ _ => ?_ | refine u'2 ?_ | (first | refine u'3 ?_ | refine u'4 ?_ | refine u'5 fun _ _ _ _ => ?_ | (refine u'6 (fun hg => ?_) (fun hg => ?_) <;> try simp only [hg])) <;> simp only [wS, simprocAttr] | (refine u'7 ?_; try simp only [wE, simprocAttr]) | refine u'8 ?_ | refine u'9 ?_)
    refine body_ret1 rfl ⟨.inl ?_, ?_, post _ ?_ ?_⟩ <;> (try rw [hres2]) <;> (simp only [wS, simprocAttr, inR]; try exact rfl)
  · have heq' : ps.length = es.length := by simp at h; omega
    have hres := (heq heq').symm
    repeat' (first | refine u'1 fun _ _ => ?_ | refine u'2 ?_ | (first | refine u'3 ?_ | refine u'4 ?_ | refine u'5 fun _ _ _ _ => ?_ | (refine u'6 (fun hg => ?_) (fun hg => ?_) <;> try simp only [hg])) <;> simp only [wS, simprocAttr] | (refine u'7 ?_; try simp only [wE, simprocAttr]) | refine u'8 ?_ | refine u'9 ?_)
    refine awp_loop_k (α := {x : Nat × MP // x.1 ≤ ps.length ∧ goodM E x.2 ∧ eqS (fun p e mp => matchS E D p e false mp) (ps.drop x.1) (es.drop x.1) x.2 = res}) (fun x => [(0, .sl p ps), (1, .sl q es), (2, .fn (.func 59) [] [.ptr 4 0 0]), (15, .sl p ps), (16, .int .i64 (ps.length : Nat)), (17, .int .i64 (x.1.1 : Nat))]) (fun x => [.dead, .dead, .dead, mapRow x.1.2, .cells 0 [.omp 3]]) (fun x => ps.length - x.1.1) ⟨(0, mp), Nat.zero_le _, hm, hres⟩ ⟨?_, .inl ?_⟩ ?_
    · simp only [wS, simprocAttr]; try exact rfl
    · simp only [wS, simprocAttr]; try exact rfl
    · rintro ⟨⟨i, mi⟩, hi, hmi, hri⟩ K3 hK3
      simp only at hi hmi hri
      repeat' (first | refine u'1 fun _ _ => ?_ | refine u'2 ?_ | (first | refine u'3 ?_ | refine u'4 ?_ | refine u'5 fun _ _ _ _ => ?_ | (refine u'6 (fun hg => ?_) (fun hg => ?_) <;> try simp only [hg])) <;> simp only [wS, simprocAttr] | (refine u'7 ?_; try simp only [wE, simprocAttr]) | refine u'8 ?_ | refine u'9 ?_)
      refine ⟨fun h => ?_, fun h => ?_⟩
      · have hlt : i < ps.length := by simpa using h
        have hlt2 : i < es.length := by omega
        obtain ⟨x, hx⟩ : ∃ x, ps[i]? = some x := ⟨_, List.getElem?_eq_getElem hlt⟩
        obtain ⟨y, hy⟩ : ∃ y, es[i]? = some y := ⟨_, List.getElem?_eq_getElem hlt2⟩
        have hnx := hp x (List.mem_of_getElem? hx)
        have hny := he y (List.mem_of_getElem? hy)
        have hd := eqS_drop (f := fun p e mp => matchS E D p e false mp) hx hy mi
        have hgi := matchS_good D x y false mi hnx hny hmi
        have k59 := fun rows h3 h4 => mat_59 hMat x hnx y hny mi hmi rows h3 h4
        have e3 := wrap_succ (k := i) hlt (by omega)
        cases hnx with
        | @mk _ d1 hd1 k1 n1 m1 b1 es1 hl1 hh1 =>
        cases hny with
        | @mk _ d2 hd2 k2 n2 m2 b2 es2 hl2 hh2 =>
        generalize matchS E D [.int .i64 k1, .int .i64 n1, .int .i64 m1, .sl b1 es1] [.int .i64 k2, .int .i64 n2, .int .i64 m2, .sl b2 es2] false mi = r1 at hd hgi k59
        obtain ⟨ok, mj⟩ := r1
        repeat' (first | refine u'1 fun _ _ => ?_ | refine u'2 ?_ | (first | refine u'3 ?_ | refine u'4 ?_ | refine u'5 fun _ _ _ _ => ?_ | (refine u'6 (fun hg => ?_) (fun hg => ?_) <;> try simp only [hg])) <;> simp only [wS, simprocAttr, hx, hy, hlt, hlt2] | (refine u'7 ?_; try simp only [wE, simprocAttr]) | refine u'8 ?_ | refine u'9 ?_)
        refine ⟨_, _, k59 _ (by simp only [wS, simprocAttr]) (by simp only [wS, simprocAttr]), ?_⟩
        simp only [wS, simprocAttr]
        repeat' (first | refine u'1 fun _ _ => ?_ | refine u'2 ?_ | (first | refine u'3 ?_ | refine u'4 ?_ | refine u'5 fun _ _ _ _ => ?_ | (refine u'6 (fun hg => ?_) (fun hg => ?_) <;> try simp only [hg])) <;> simp only [wS, simprocAttr] | (refine u'7 ?_; try simp only [wE, simprocAttr]) | refine u'8 ?_ | refine u'9 ?_)
        cases ok with
        | true =>
          refine ⟨fun h => absurd h (by decide), fun _ => ?_⟩
          repeat' (first | refine u'1 fun _ _ => ?_ | refine u'2 ?_ | (first | refine u'3 ?_ | refine u'4 ?_ | refine u'5 fun _ _ _ _ => ?_ | (refine u'6 (fun hg => ?_) (fun hg => ?_) <;> try simp only [hg])) <;> simp only [wS, simprocAttr, e3] | (refine u'7 ?_; try simp only [wE, simprocAttr]) | refine u'8 ?_ | refine u'9 ?_)
          refine hK3.go ⟨(i + 1, mj), hlt, hgi, by rw [← hri, hd]⟩ ⟨?_, .inr ⟨Nat.le_refl _, ?_, ?_, ?_, ?_⟩⟩ (by simp only; omega)
          · simp only [wS, simprocAttr]; try exact rfl
          · simp only [wS, simprocAttr]; try exact rfl
          · exact fun g cs hg => inL_mono (p := noRef) (fun r hr => by cases hr) (hG0 g cs hg)
          · intro z hz
            simp only [List.mem_cons, List.not_mem_nil, or_false] at hz
            rcases hz with rfl | rfl | rfl | rfl | rfl | rfl <;> first | rfl | exact inE_mono (p := noRef) (fun r hr => by cases hr) (nodes_tree hp) | exact inE_mono (p := noRef) (fun r hr => by cases hr) (nodes_tree he)
          · simp only [List.all_cons, List.all_nil, Bool.and_true, Bool.and_eq_true]
            exact ⟨rfl, rfl, rfl, mapRow_in hgi, rfl⟩
        | false =>
          have hres2 : res = (false, mj) := by rw [← hri, hd]
          refine ⟨fun _ => ?_, fun h => absurd h (by decide)⟩
          repeat' (first | refine u'1 fun _ _ => ?_ | refine u'2 ?_ | (first | refine u'3 ?_ | refine u'4 ?_ | refine u'5 fun _ _ _ _ => ?_ | (refine u'6 (fun hg => ?_) (fun hg => ?_) <;> try simp only [hg])) <;> simp only [wS, simprocAttr] | (refine u'7 ?_; try simp only [wE, simprocAttr]) | refine u'8 ?_ | refine u'9 ?_)
          refine body_ret1 rfl ⟨.inl ?_, ?_, post _ ?_ ?_⟩ <;> (try rw [hres2]) <;> (simp only [wS, simprocAttr, inR]; try exact rfl)
      · have hge : i = ps.length := by simp at h; omega
        have hres2 : res = (true, mi) := by
          rw [← hri, hge, List.drop_length]
          cases List.drop ps.length es <;> rfl
        repeat' (first | refine u'1 fun _ _ => ?_ | refine u'2 ?_ | (first | refine u'3 ?_ | refine u'4 ?_ | refine u'5 fun _ _ _ _ => ?_ | (refine u'6 (fun hg => ?_) (fun hg => ?_) <;> try simp only [hg])) <;> simp only [wS, simprocAttr] | (refine u'7 ?_; try simp only [wE, simprocAttr]) | refine u'8 ?_ | refine u'9 ?_)
        refine body_ret1 rfl ⟨.inl ?_, ?_, post _ ?_ ?_⟩ <;> (try rw [hres2]) <;> (simp only [wS, simprocAttr, inR]; try exact rfl)
end Go.Proofs.YtpdibmopbpcfdaaDoor
