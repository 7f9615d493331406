import Derived.Test.YtijakngaipdncaaDoorF6
set_option linter.unusedVariables false
set_option linter.unusedSimpArgs false
namespace Go.Proofs.YtijakngaipdncaaDoor
open Go.AM
attribute [local irreducible] AWp rgnS callR callV effR valR guardR stepR nextR
set_option maxRecDepth 100000
mutual
theorem Mk.wk_enc : ∀ t : Mk, wkL (Mk.enc t) = Mk.enc t
  | .mk k n m i g es => by
    have h := Mk.wk_encs es
    simp only [Mk.enc, wkL, AM.wk, wkE_eq, h]
theorem Mk.wk_encs : ∀ es : List Mk, (Mk.encs es).map wkL = Mk.encs es
  | [] => rfl
  | e :: es => by rw [Mk.encs, List.map_cons, Mk.wk_enc e, Mk.wk_encs es]
end
theorem ref_kills7 [Rnd] {n k : Nat} {s : AS} (qs : List Nat) (l : List (Nat × AV)) {H H' : List ARow} (hh : s.h = H) (hlt : qs.all (fun q => decide (q < H.length)) = true) (hq : ∀ i, qs.contains i = true → H.getD i .none ≠ .none) (hl : holdsF l s.get) (he : deadH qs 0 H = H') : Ref G0 n k s ⟨mkF l, H'⟩ := by
  subst he hh
  exact ref_freeze qs l _ hlt (frzF_same hl) (frzH_dead 0 s.h fun i hi _ => hq i (by simpa using hi))
theorem Mk.marks_len : ∀ (es : List T) (i : Int), (Mk.marks es i).length = es.length
  | [], _ => rfl
  | e :: es, i => by rw [Mk.marks, List.length_cons, Mk.marks_len es, List.length_cons]
theorem Mk.marks_get : ∀ {es : List T} {i : Int} {j : Nat} {e : T}, es[j]? = some e → (Mk.marks es i)[j]? = some (Mk.mark e (i + (T.sizes (es.take j) : Nat)))
  | [], _, _, _, h => by simp at h
  | x :: es, i, 0, e, h => by
    obtain rfl : x = e := by simpa using h
    simp [Mk.marks, T.sizes]
  | x :: es, i, j + 1, e, h => by
    have := Mk.marks_get (es := es) (i := i + T.size x) (j := j) (e := e) (by simpa using h)
    rw [Mk.marks, List.getElem?_cons_succ, this]
    simp only [List.take_succ_cons, T.sizes, Int.natCast_add, Int.add_assoc]
set_option maxHeartbeats 4000000 in
theorem mark_17 : ∀ (N : Nat) (x : T) (i0 : Int), T.size x ≤ N → N ≤ 1000000000000 → 0 ≤ i0 → i0 + (T.size x : Nat) ≤ 2000000000000 → Pure Tryd.prog G0 17 [.agg (T.enc x), .int .i64 i0] (.tup [.agg (Mk.enc (Mk.mark x i0)), .int .i64 (i0 + (T.size x : Nat))]) := by
  intro N
  induction N with
  | zero => intro x _ h; have := T.size_pos x; omega
  | succ N ih =>
    intro x i0 hx hN hi0 hi1
    cases x with
    | mk k n m es =>
    have htr := T.enc_tree (.mk k n m es)
    have hto := Mk.enc_tree (Mk.mark (.mk k n m es) i0)
    have hls := T.len_sizes es
    simp only [T.size] at hx hi1
    have hpt : ∀ l : List Mk, inE noRef (l.map Mk.enc) = true := fun l => by
      have := Mk.encs_tree l
      rw [Mk.encs_map] at this
      exact this
    have hps : ∀ l : List Mk, ∀ e ∈ l.map Mk.enc, e.length = 6 := fun l e he => by
      obtain ⟨y, _, rfl⟩ := List.mem_map.1 he
      cases y; rfl
    have hout : Mk.enc (Mk.mark (.mk k n m es) i0) = [.int .i64 k, .int .i64 n, .int .i64 m, .int .i64 i0, .bool false, .sl false ((Mk.marks es (i0 + 1)).map Mk.enc)] := by
      rw [Mk.mark, Mk.enc, Mk.encs_map]
    rw [hout] at hto ⊢
    have hml := Mk.marks_len es (i0 + 1)
    have hmg := fun (j : Nat) (e : T) => Mk.marks_get (es := es) (i := i0 + 1) (j := j) (e := e)
    obtain ⟨ML, hML⟩ : ∃ x, x = Mk.marks es (i0 + 1) := ⟨_, rfl⟩
    rw [← hML] at hout hto hml hmg ⊢
    have hst : ∀ j, T.sizes (es.take j) ≤ T.sizes es := fun j => T.sizes_take_le es j
    refine pure_of_bodyW hG0 Tryd.func17 rfl (by kernel_rfl) (by simp [Tryd.ntmps17]) (by simp only [inL, inR, htr, Bool.and_self]) (by simp only [inR, inL, Bool.and_true] at hto ⊢; exact hto) ?_
    simp only [Tryd.ntmps17, enterF, Nat.reduceAdd, T.enc]
    have hgt := fun (i : Nat) (e : T) => T.encs_get (es := es) (i := i) (e := e)
    have hln := T.encs_len es
    have hte := T.encs_tree es
    generalize T.encs es = ME at hgt hln hte
    have e0 : IntKind.i64.wrap (i0 + 1) = i0 + 1 := wrap_id (by omega) (by omega)
    have hteq : ∀ q : Nat → Bool, inE q ME = true := fun q => inE_mono (p := noRef) (fun r hr => by cases hr) hte
    refine awp_end ?_
    repeat' (first | with_reducible (first | refine u'1 fun _ _ => ?_ | refine u'2 ?_ | (first | refine u'3 ?_ | refine u'4 ?_ | refine u'5 fun _ _ _ _ => ?_ | refine u'6 (fun hg => ?_) (fun hg => ?_) <;> try simp only [hg]) <;> simp only [wS, simprocAttr, e0] | (first | refine u's ?_ | refine u'e ?_ | refine u'r ?_) <;> try simp only [wE, simprocAttr] | refine u'8 ?_ | refine u'9 ?_))
    refine awp_loop_r (α := {i : Nat // i ≤ es.length}) (fun i => [(1, .int .i64 (i0 + 1 + (T.sizes (es.take i.1) : Nat))), (2, .ptr 0 0 0), (4, .ptr 1 0 0), (6, .ptr 2 0 0), (21, .sl false ME), (22, .int .i64 (es.length : Nat)), (23, .int .i64 (i.1 : Nat))]) (fun i => if i.1 = 0 then [.cells 0 [.int .i64 k, .int .i64 n, .int .i64 m, .sl false ME], .cells 0 [.int .i64 0, .int .i64 0, .int .i64 0, .int .i64 0, .bool false, .sl true []], .cells 0 [.int .i64 k, .int .i64 n, .int .i64 m, .int .i64 i0, .bool false, .sl true []]] else [.cells 0 [.int .i64 k, .int .i64 n, .int .i64 m, .sl false ME], .cells 0 [.int .i64 0, .int .i64 0, .int .i64 0, .int .i64 0, .bool false, .sl true []], .cells 0 [.int .i64 k, .int .i64 n, .int .i64 m, .int .i64 i0, .bool false, .osl 5 (i.1 - 1) 0 i.1 6 false], .dead, .dead, .cells (i.1 - 1) ((ML.take i.1).map Mk.enc).flatten]) (fun i => es.length - i.1) ⟨0, Nat.zero_le _⟩ (Weak.ref ⟨?_, .inl ?_⟩) ?_
    · simp only [wS, simprocAttr, hln, List.take_zero, T.sizes]; try exact rfl
      try (simp)
    · simp only [wS, simprocAttr, if_true]; try exact rfl
    · rintro ⟨i, hi⟩ K3 hK3
      have e3 : i < es.length → IntKind.i64.wrap ((i : Int) + 1) = ((i + 1 : Nat) : Int) := fun h => wrap_succ (k := i) h (by omega)
      rcases i with _ | q
      · simp only [if_true]
        repeat' (first | with_reducible (first | refine u'1 fun _ _ => ?_ | refine u'2 ?_ | (first | refine u'3 ?_ | refine u'4 ?_ | refine u'5 fun _ _ _ _ => ?_ | refine u'6 (fun hg => ?_) (fun hg => ?_) <;> try simp only [hg]) <;> simp only [wS, simprocAttr] | (first | refine u's ?_ | refine u'e ?_ | refine u'r ?_) <;> try simp only [wE, simprocAttr] | refine u'8 ?_ | refine u'9 ?_))
        refine ⟨fun h => ?_, fun h => ?_⟩
        · have hlt : 0 < es.length := by simpa using h
          have hltE : 0 < ME.length := by omega
          obtain ⟨e, he⟩ : ∃ e, es[0]? = some e := ⟨_, List.getElem?_eq_getElem hlt⟩
          have hg := hgt 0 e he
          have hce := ih e (i0 + 1 + (T.sizes (es.take 0) : Nat)) (by have := T.size_mem (List.mem_of_getElem? he); omega) (by omega) (by omega) (by have h1 := T.sizes_take he; have h2 := hst (0 + 1); omega)
          have htk := map_takeF (f := Mk.enc) (hmg 0 e he)
          have hsz := T.sizes_take he
          have hst2 := hst (0 + 1)
          have e4 : i0 + 1 + (T.sizes (es.take 0) : Nat) + (T.size e : Nat) = i0 + 1 + (T.sizes (es.take (0 + 1)) : Nat) := by omega
          have hee : ∃ a b c d, T.enc e = [.int .i64 a, .int .i64 b, .int .i64 c, .sl false d] := by cases e; exact ⟨_, _, _, _, rfl⟩
          obtain ⟨ea, eb, ec, ed, hee⟩ := hee
          have hpp : ∃ a b c d f h, Mk.enc (Mk.mark e (i0 + 1 + (T.sizes (es.take 0) : Nat))) = [.int .i64 a, .int .i64 b, .int .i64 c, .int .i64 d, .bool f, .sl false h] := by cases e; exact ⟨_, _, _, _, _, _, rfl⟩
          obtain ⟨pa, pb, pc, pd, pe, pf, hpp⟩ := hpp
          rw [hee] at hg hce
          rw [hpp, e4] at hce
          rw [hpp] at htk
          repeat' (first | with_reducible (first | refine u'1 fun _ _ => ?_ | refine u'2 ?_ | (first | refine u'3 ?_ | refine u'4 ?_ | refine u'5 fun _ _ _ _ => ?_ | refine u'6 (fun hg => ?_) (fun hg => ?_) <;> try simp only [hg]) <;> simp only [wS, simprocAttr, hg, hltE, hlt] | (first | refine u's ?_ | refine u'e ?_ | refine u'r ?_) <;> try simp only [wE, simprocAttr] | refine u'8 ?_ | refine u'9 ?_))
          refine callR_tree hG0 hce ?_
          simp only [wS, simprocAttr]
          repeat' (first | with_reducible (first | refine u'1 fun _ _ => ?_ | refine u'2 ?_ | (first | refine u'3 ?_ | refine u'4 ?_ | refine u'5 fun _ _ _ _ => ?_ | refine u'6 (fun hg => ?_) (fun hg => ?_) <;> try simp only [hg]) <;> simp only [wS, simprocAttr] | (first | refine u's ?_ | refine u'e ?_ | refine u'r ?_) <;> try simp only [wE, simprocAttr] | refine u'8 ?_ | refine u'9 ?_))
          refine eff_new (sz := 6) (by' := 64) (mm := 1) (new := [.int .i64 pa, .int .i64 pb, .int .i64 pc, .int .i64 pd, .bool pe, .sl false pf]) (es := []) (by kernel_rfl) ?hb (by simp) ?hc (by decide) (by simp) ?_
          case hb => simp only [wS, simprocAttr]; try exact rfl
          case hc => simp [srcA]
          simp only [wS, simprocAttr]
          repeat' (first | with_reducible (first | refine u'1 fun _ _ => ?_ | refine u'2 ?_ | (first | refine u'3 ?_ | refine u'4 ?_ | refine u'5 fun _ _ _ _ => ?_ | refine u'6 (fun hg => ?_) (fun hg => ?_) <;> try simp only [hg]) <;> simp only [wS, simprocAttr, e3 hlt] | (first | refine u's ?_ | refine u'e ?_ | refine u'r ?_) <;> try simp only [wE, simprocAttr] | refine u'8 ?_ | refine u'9 ?_))
          refine hK3.go ⟨1, hlt⟩ (ref_kills7 [3, 4] _ (H := [.cells 0 [.int .i64 k, .int .i64 n, .int .i64 m, .sl false ME], .cells 0 [.int .i64 0, .int .i64 0, .int .i64 0, .int .i64 0, .bool false, .sl true []], .cells 0 [.int .i64 k, .int .i64 n, .int .i64 m, .int .i64 i0, .bool false, .osl 5 0 0 1 6 false], .cells 0 [.int .i64 ea, .int .i64 eb, .int .i64 ec, .sl false ed], .cells 0 [.int .i64 pa, .int .i64 pb, .int .i64 pc, .int .i64 pd, .bool pe, .sl false pf], .cells 0 [.int .i64 pa, .int .i64 pb, .int .i64 pc, .int .i64 pd, .bool pe, .sl false pf]]) ?_ rfl ?_ ?_ ?_) (by simp only; omega)
          · simp only [wS, simprocAttr]; try exact rfl
          · intro i hi
            match i, hi with
            | 3, _ => simp
            | 4, _ => simp
          · simp only [wS, simprocAttr]; try exact rfl
          · simp only [htk, List.take_zero, List.map_nil, List.nil_append]; rfl
        · have hge : es = [] := by simpa using h
          subst hge
          repeat' (first | with_reducible (first | refine u'1 fun _ _ => ?_ | refine u'2 ?_ | (first | refine u'3 ?_ | refine u'4 ?_ | refine u'5 fun _ _ _ _ => ?_ | refine u'6 (fun hg => ?_) (fun hg => ?_) <;> try simp only [hg]) <;> simp only [wS, simprocAttr] | (first | refine u's ?_ | refine u'e ?_ | refine u'r ?_) <;> try simp only [wE, simprocAttr] | refine u'8 ?_ | refine u'9 ?_))
          have hM0 : ML = [] := hML
          refine ⟨_, ref_refl, body_retCT (v := .agg [.int .i64 k, .int .i64 n, .int .i64 m, .int .i64 i0, .bool false, .sl true []]) rfl ?_ ?_⟩
          · simp only [wS, simprocAttr]; try exact rfl
          · have hz : (i0 + 1 + ((T.sizes [] : Nat) : Int)) = i0 + ((T.size (.mk k n m []) : Nat) : Int) := by simp only [T.size, T.sizes]; omega
            simp only [wS, simprocAttr]
            rw [hz, hM0]; rfl
      · have hlm : ((ML.take (q + 1)).map Mk.enc).length = q + 1 := by rw [List.length_map, List.length_take]; omega
        simp only [Nat.succ_ne_zero, if_false, Nat.add_sub_cancel, Nat.add_eq_zero_iff, Nat.one_ne_zero, and_false]
        repeat' (first | with_reducible (first | refine u'1 fun _ _ => ?_ | refine u'2 ?_ | (first | refine u'3 ?_ | refine u'4 ?_ | refine u'5 fun _ _ _ _ => ?_ | refine u'6 (fun hg => ?_) (fun hg => ?_) <;> try simp only [hg]) <;> simp only [wS, simprocAttr] | (first | refine u's ?_ | refine u'e ?_ | refine u'r ?_) <;> try simp only [wE, simprocAttr] | refine u'8 ?_ | refine u'9 ?_))
        refine ⟨fun h => ?_, fun h => ?_⟩
        · have hlt : q + 1 < es.length := by simp at h; omega
          have hltE : q + 1 < ME.length := by omega
          obtain ⟨e, he⟩ : ∃ e, es[q + 1]? = some e := ⟨_, List.getElem?_eq_getElem hlt⟩
          have hg := hgt (q + 1) e he
          have hce := ih e (i0 + 1 + (T.sizes (es.take (q + 1)) : Nat)) (by have := T.size_mem (List.mem_of_getElem? he); omega) (by omega) (by omega) (by have h1 := T.sizes_take he; have h2 := hst (q + 1 + 1); omega)
          have htk := map_takeF (f := Mk.enc) (hmg (q + 1) e he)
          have hsz := T.sizes_take he
          have hst2 := hst ((q + 1) + 1)
          have e4 : i0 + 1 + (T.sizes (es.take (q + 1)) : Nat) + (T.size e : Nat) = i0 + 1 + (T.sizes (es.take ((q + 1) + 1)) : Nat) := by omega
          have hee : ∃ a b c d, T.enc e = [.int .i64 a, .int .i64 b, .int .i64 c, .sl false d] := by cases e; exact ⟨_, _, _, _, rfl⟩
          obtain ⟨ea, eb, ec, ed, hee⟩ := hee
          have hpp : ∃ a b c d f h, Mk.enc (Mk.mark e (i0 + 1 + (T.sizes (es.take (q + 1)) : Nat))) = [.int .i64 a, .int .i64 b, .int .i64 c, .int .i64 d, .bool f, .sl false h] := by cases e; exact ⟨_, _, _, _, _, _, rfl⟩
          obtain ⟨pa, pb, pc, pd, pe, pf, hpp⟩ := hpp
          rw [hee] at hg hce
          rw [hpp, e4] at hce
          rw [hpp] at htk
          repeat' (first | with_reducible (first | refine u'1 fun _ _ => ?_ | refine u'2 ?_ | (first | refine u'3 ?_ | refine u'4 ?_ | refine u'5 fun _ _ _ _ => ?_ | refine u'6 (fun hg => ?_) (fun hg => ?_) <;> try simp only [hg]) <;> simp only [wS, simprocAttr, hg, hltE, hlt] | (first | refine u's ?_ | refine u'e ?_ | refine u'r ?_) <;> try simp only [wE, simprocAttr] | refine u'8 ?_ | refine u'9 ?_))
          refine callR_tree hG0 hce ?_
          simp only [wS, simprocAttr]
          repeat' (first | with_reducible (first | refine u'1 fun _ _ => ?_ | refine u'2 ?_ | (first | refine u'3 ?_ | refine u'4 ?_ | refine u'5 fun _ _ _ _ => ?_ | refine u'6 (fun hg => ?_) (fun hg => ?_) <;> try simp only [hg]) <;> simp only [wS, simprocAttr] | (first | refine u's ?_ | refine u'e ?_ | refine u'r ?_) <;> try simp only [wE, simprocAttr] | refine u'8 ?_ | refine u'9 ?_))
          refine eff_own (cs := ((ML.take (q + 1)).map Mk.enc).flatten) (sz := 6) (by' := 64) (mm := 1) (new := [.int .i64 pa, .int .i64 pb, .int .i64 pc, .int .i64 pd, .bool pe, .sl false pf]) (by kernel_rfl) ?hb (by rw [flat_sz (hps _), hlm]) ?hd (by omega) ?_
          case hb => simp only [wS, simprocAttr]
          case hd => simp [srcA]
          simp only [wS, simprocAttr]
          repeat' (first | with_reducible (first | refine u'1 fun _ _ => ?_ | refine u'2 ?_ | (first | refine u'3 ?_ | refine u'4 ?_ | refine u'5 fun _ _ _ _ => ?_ | refine u'6 (fun hg => ?_) (fun hg => ?_) <;> try simp only [hg]) <;> simp only [wS, simprocAttr, e3 hlt] | (first | refine u's ?_ | refine u'e ?_ | refine u'r ?_) <;> try simp only [wE, simprocAttr] | refine u'8 ?_ | refine u'9 ?_))
          refine hK3.go ⟨q + 1 + 1, hlt⟩ (Weak.ref ⟨?_, .inr ⟨Nat.zero_le _, ?_, ?_, ?_, ?_⟩⟩) (by simp only; omega)
          · simp only [wS, simprocAttr]; try exact rfl
          · simp only [Nat.succ_ne_zero, if_false, Nat.add_sub_cancel, Nat.add_eq_zero_iff, Nat.one_ne_zero, and_false, htk, List.flatten_append, List.flatten_cons, List.flatten_nil, List.append_nil]
            simp only [wS, simprocAttr]; try exact rfl
          · exact fun g cs hg => inL_mono (p := noRef) (fun r hr => by cases hr) (hG0 g cs hg)
          · simp only [Nat.succ_ne_zero, if_false, Nat.add_eq_zero_iff, Nat.one_ne_zero, and_false]
            intro z hz
            simp only [List.mem_cons, List.not_mem_nil, or_false] at hz
            rcases hz with rfl | rfl | rfl | rfl | rfl | rfl | rfl <;> first | rfl | exact hteq _
          · simp only [Nat.succ_ne_zero, if_false, Nat.add_eq_zero_iff, Nat.one_ne_zero, and_false, List.all_cons, List.all_nil, Bool.and_true, Bool.and_eq_true]
            exact ⟨by simp only [rowIn, inL, inR, hteq, Bool.and_self], rfl, rfl, rfl, rfl, inL_flat (inE_mono (p := noRef) (fun r hr => by cases hr) (hpt _))⟩
        · have hge : es.length = q + 1 := by simp at h; omega
          have hta : es.take (q + 1) = es := by rw [← hge, List.take_length]
          have htb : ML.take (q + 1) = ML := by rw [← hge, ← hml, List.take_length]
          have hlm2 : (ML.map Mk.enc).length = q + 1 := by rw [List.length_map, hml, hge]
          repeat' (first | with_reducible (first | refine u'1 fun _ _ => ?_ | refine u'2 ?_ | (first | refine u'3 ?_ | refine u'4 ?_ | refine u'5 fun _ _ _ _ => ?_ | refine u'6 (fun hg => ?_) (fun hg => ?_) <;> try simp only [hg]) <;> simp only [wS, simprocAttr] | (first | refine u's ?_ | refine u'e ?_ | refine u'r ?_) <;> try simp only [wE, simprocAttr] | refine u'8 ?_ | refine u'9 ?_))
          rw [hta, htb] at *
          have hz : (i0 + 1 + ((T.sizes es : Nat) : Int)) = i0 + ((T.size (.mk k n m es) : Nat) : Int) := by simp only [T.size]; omega
          refine ⟨_, ref_freeze [5] [(4, .ptr 1 0 0), (5, .int .i64 (i0 + 1 + ((T.sizes es : Nat) : Int)))] [.cells 0 [.int .i64 k, .int .i64 n, .int .i64 m, .sl false ME], .cells 0 [.int .i64 k, .int .i64 n, .int .i64 m, .int .i64 i0, .bool false, .sl false (ML.map Mk.enc)], .cells 0 [.int .i64 k, .int .i64 n, .int .i64 m, .int .i64 i0, .bool false, .osl 5 q 0 (q + 1) 6 false], .dead, .dead, .dead] rfl ⟨.inl ?_, .inl ?_, trivial⟩ ?_, body_retCT (v := .agg [.int .i64 k, .int .i64 n, .int .i64 m, .int .i64 i0, .bool false, .sl false (ML.map Mk.enc)]) rfl ?_ ?_⟩
          · simp only [wS, simprocAttr]
          · simp only [wS, simprocAttr]
          · refine ⟨.inr ⟨by simp, .inl rfl⟩, .inr ⟨by simp, .inr ⟨0, _, _, rfl, rfl, .inl rfl, .inl rfl, .inl rfl, .inl rfl, .inl rfl, .inr (.osl (cs := (ML.map Mk.enc).flatten) (by simp) (by simp only [wS, simprocAttr]) hlm2 (hps ML) ?_ (hpt ML)), trivial⟩⟩, .inr ⟨by simp, .inl rfl⟩, .inr ⟨by simp, .inl rfl⟩, .inr ⟨by simp, .inl rfl⟩, .inl ⟨by simp, rfl, by simp⟩, trivial⟩
            rw [List.drop_zero, List.take_of_length_le (by rw [flat_sz (hps ML), hlm2]; exact Nat.le_refl _)]
          · simp only [wS, simprocAttr]
          · simp only [wS, simprocAttr]
            rw [hz, ← hout]
            exact congrArg (fun c => AV.tup [.agg c, .int .i64 (i0 + ((T.size (.mk k n m es) : Nat) : Int))]) (Mk.wk_enc _)
end Go.Proofs.YtijakngaipdncaaDoor
