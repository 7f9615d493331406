import Derived.Test.YtijakngaipdncaaDoorF5
set_option linter.unusedVariables false
set_option linter.unusedSimpArgs false
namespace Go.Proofs.YtijakngaipdncaaDoor
open Go.AM
attribute [local irreducible] AWp rgnS callR callV effR valR guardR stepR nextR
set_option maxRecDepth 100000
theorem body_retC {P : Program} {fn : Func} {Rp : AV → AS → Prop} {s : AS} {t : Tmp} {ty : TypeId} {v : AV} (h : fn.results = #[.cell t ty]) (hl : aLoad P ty (s.get t) s.row = some v) (hR : Rp v s) : bodyA P fn Rp .ret s := ⟨v, by simp [aResults, aResultL, aResult, h, hl], hR⟩
theorem ref_refl [Rnd] {n k : Nat} {s : AS} : Ref G0 n k s s := fun E a i => ⟨E, rfl, (Ext.refl E).toK k, i⟩
theorem ref_kill [Rnd] {n k : Nat} {s : AS} (q : Nat) (l : List (Nat × AV)) {H H' : List ARow} (hh : s.h = H) (hq : H.getD q .none ≠ .none) (hlt : q < H.length) (hl : holdsF l s.get) (he : deadH [q] 0 H = H') : Ref G0 n k s ⟨mkF l, H'⟩ := by
  subst he hh
  exact ref_freeze [q] l _ (by simpa using hlt) (frzF_same hl) (frzH_dead 0 s.h fun i hi _ => by
    have : i = q := by simpa using hi
    subst this
    exact hq)
mutual
theorem T.wk_enc : ∀ t : T, wkL (T.enc t) = T.enc t
  | .mk k n m es => by
    have h := T.wk_encs es
    simp only [T.enc, wkL, AM.wk, wkE_eq, h]
theorem T.wk_encs : ∀ es : List T, (T.encs es).map wkL = T.encs es
  | [] => rfl
  | e :: es => by rw [T.encs, List.map_cons, T.wk_enc e, T.wk_encs es]
end
theorem T.enc_len (t : T) : (T.enc t).length = 4 := by cases t; rfl
theorem Mk.size_mem : ∀ {es : List Mk} {e : Mk}, e ∈ es → Mk.size e ≤ Mk.sizes es
  | x :: es, e, h => by
    simp only [Mk.sizes]
    rcases List.mem_cons.1 h with rfl | h
    · omega
    · have := Mk.size_mem h; omega
theorem Mk.size_pos (t : Mk) : 1 ≤ Mk.size t := by cases t; simp only [Mk.size]; omega
theorem Mk.len_sizes : ∀ es : List Mk, es.length ≤ Mk.sizes es
  | [] => by simp
  | e :: es => by
    have h1 := Mk.len_sizes es
    have h2 := Mk.size_pos e
    simp only [List.length_cons, Mk.sizes]; omega
theorem map_takeF {α : Type} {f : α → List AV} {es : List α} {i : Nat} {e : α} (h : es[i]? = some e) : (es.take (i + 1)).map f = (es.take i).map f ++ [f e] := by
  rw [List.take_add_one, h, List.map_append]; rfl
set_option maxHeartbeats 4000000 in
theorem plain_19 : ∀ (N : Nat) (x : Mk), Mk.size x ≤ N → N ≤ 1000000000000 → Pure Tryd.prog G0 19 [.agg (Mk.enc x)] (.agg (T.enc (Mk.plain x))) := by
  intro N
  induction N with
  | zero => intro x h; have := Mk.size_pos x; omega
  | succ N ih =>
    intro x hx hN
    cases x with
    | mk k n m i0 g es =>
    have ih2 : ∀ e ∈ es, Pure Tryd.prog G0 19 [.agg (Mk.enc e)] (.agg (T.enc (Mk.plain e))) := fun e he => ih e (by have := Mk.size_mem he; simp only [Mk.size] at hx; omega) (by omega)
    have htr := Mk.enc_tree (.mk k n m i0 g es)
    have hto := T.enc_tree (Mk.plain (.mk k n m i0 g es))
    have hls := Mk.len_sizes es
    simp only [Mk.size] at hx
    have hpt : ∀ l : List Mk, inE noRef (l.map fun e => T.enc (Mk.plain e)) = true := fun l => by
      have := T.encs_tree (l.map Mk.plain)
      rw [T.encs_map, List.map_map] at this
      exact this
    have hps : ∀ l : List Mk, ∀ e ∈ l.map (fun e => T.enc (Mk.plain e)), e.length = 4 := fun l e he => by
      obtain ⟨y, _, rfl⟩ := List.mem_map.1 he
      exact T.enc_len _
    have hout : T.enc (Mk.plain (.mk k n m i0 g es)) = [.int .i64 k, .int .i64 n, .int .i64 m, .sl false (es.map fun e => T.enc (Mk.plain e))] := by
      rw [Mk.plain, T.enc, T.encs_map, Mk.plains_map, List.map_map]; rfl
    rw [hout] at hto ⊢
    refine pure_of_bodyW hG0 Tryd.func19 rfl (by kernel_rfl) (by simp [Tryd.ntmps19]) (by simp only [inL, inR, htr, Bool.and_self]) (by simp only [inR]; exact hto) ?_
    simp only [Tryd.ntmps19, enterF, Nat.reduceAdd, Mk.enc]
    have hgt := fun (i : Nat) (e : Mk) => Mk.encs_get (es := es) (i := i) (e := e)
    have hln := Mk.encs_len es
    have hte := Mk.encs_tree es
    generalize Mk.encs es = ME at hgt hln hte
    have hteq : ∀ q : Nat → Bool, inE q ME = true := fun q => inE_mono (p := noRef) (fun r hr => by cases hr) hte
    refine awp_end ?_
    repeat' (first | with_reducible (first | refine u'1 fun _ _ => ?_ | refine u'2 ?_ | (first | refine u'3 ?_ | refine u'4 ?_ | refine u'5 fun _ _ _ _ => ?_ | refine u'6 (fun hg => ?_) (fun hg => ?_) <;> try simp only [hg]) <;> simp only [wS, simprocAttr] | (first | refine u's ?_ | refine u'e ?_ | refine u'r ?_) <;> try simp only [wE, simprocAttr] | refine u'8 ?_ | refine u'9 ?_))
    refine awp_loop_r (α := {i : Nat // i ≤ es.length}) (fun i => [(1, .ptr 0 0 0), (2, .ptr 1 0 0), (3, .ptr 2 0 0), (14, .sl false ME), (15, .int .i64 (es.length : Nat)), (16, .int .i64 (i.1 : Nat))]) (fun i => if i.1 = 0 then [.cells 0 [.int .i64 k, .int .i64 n, .int .i64 m, .int .i64 i0, .bool g, .sl false ME], .cells 0 [.int .i64 0, .int .i64 0, .int .i64 0, .sl true []], .cells 0 [.int .i64 k, .int .i64 n, .int .i64 m, .sl true []]] else [.cells 0 [.int .i64 k, .int .i64 n, .int .i64 m, .int .i64 i0, .bool g, .sl false ME], .cells 0 [.int .i64 0, .int .i64 0, .int .i64 0, .sl true []], .cells 0 [.int .i64 k, .int .i64 n, .int .i64 m, .osl 4 (i.1 - 1) 0 i.1 4 false], .dead, .cells (i.1 - 1) ((es.take i.1).map fun e => T.enc (Mk.plain e)).flatten]) (fun i => es.length - i.1) ⟨0, Nat.zero_le _⟩ (Weak.ref ⟨?_, .inl ?_⟩) ?_
    · simp only [wS, simprocAttr, hln]; try exact rfl
    · simp only [wS, simprocAttr, if_true]; try exact rfl
    · rintro ⟨i, hi⟩ K3 hK3
      have e3 : i < es.length → IntKind.i64.wrap ((i : Int) + 1) = ((i + 1 : Nat) : Int) := fun h => wrap_succ (k := i) h (by omega)
      rcases i with _ | q
      · simp only [if_true]
        repeat' (first | with_reducible (first | refine u'1 fun _ _ => ?_ | refine u'2 ?_ | (first | refine u'3 ?_ | refine u'4 ?_ | refine u'5 fun _ _ _ _ => ?_ | refine u'6 (fun hg => ?_) (fun hg => ?_) <;> try simp only [hg]) <;> simp only [wS, simprocAttr] | (first | refine u's ?_ | refine u'e ?_ | refine u'r ?_) <;> try simp only [wE, simprocAttr] | refine u'8 ?_ | refine u'9 ?_))
        refine ⟨fun h => ?_, fun h => ?_⟩
        · have hlt : 0 < es.length := by simpa using h
          have hltE : 0 < ME.length := by omega
          obtain ⟨e, he⟩ : ∃ e, es[0]? = some e := ⟨_, List.getElem?_eq_getElem hlt⟩
          have hg := hgt 0 e he
          have hce := ih2 e (List.mem_of_getElem? he)
          have htk := map_takeF (f := fun e => T.enc (Mk.plain e)) he
          have hee : ∃ a b c d f h, Mk.enc e = [.int .i64 a, .int .i64 b, .int .i64 c, .int .i64 d, .bool f, .sl false h] := by cases e; exact ⟨_, _, _, _, _, _, rfl⟩
          obtain ⟨ea, eb, ec, ed, ef, eg, hee⟩ := hee
          have hpp : ∃ a b c d, T.enc (Mk.plain e) = [.int .i64 a, .int .i64 b, .int .i64 c, .sl false d] := by cases e; exact ⟨_, _, _, _, rfl⟩
          obtain ⟨pa, pb, pc, pd, hpp⟩ := hpp
          rw [hee] at hg hce
          rw [hpp] at hce htk
          repeat' (first | with_reducible (first | refine u'1 fun _ _ => ?_ | refine u'2 ?_ | (first | refine u'3 ?_ | refine u'4 ?_ | refine u'5 fun _ _ _ _ => ?_ | refine u'6 (fun hg => ?_) (fun hg => ?_) <;> try simp only [hg]) <;> simp only [wS, simprocAttr, hg, hltE, hlt] | (first | refine u's ?_ | refine u'e ?_ | refine u'r ?_) <;> try simp only [wE, simprocAttr] | refine u'8 ?_ | refine u'9 ?_))
          refine callR_tree hG0 hce ?_
          simp only [wS, simprocAttr]
          refine eff_new (sz := 4) (by' := 48) (mm := 1) (new := [.int .i64 pa, .int .i64 pb, .int .i64 pc, .sl false pd]) (es := []) (by kernel_rfl) ?hb (by simp) ?hc (by decide) (by simp) ?_
          case hb => simp only [wS, simprocAttr]; try exact rfl
          case hc => simp [srcA]
          simp only [wS, simprocAttr]
          refine ⟨by kernel_rfl, ?_⟩
          repeat' (first | with_reducible (first | refine u'1 fun _ _ => ?_ | refine u'2 ?_ | (first | refine u'3 ?_ | refine u'4 ?_ | refine u'5 fun _ _ _ _ => ?_ | refine u'6 (fun hg => ?_) (fun hg => ?_) <;> try simp only [hg]) <;> simp only [wS, simprocAttr, e3 hlt] | (first | refine u's ?_ | refine u'e ?_ | refine u'r ?_) <;> try simp only [wE, simprocAttr] | refine u'8 ?_ | refine u'9 ?_))
          refine hK3.go ⟨1, hlt⟩ (ref_kill 3 _ (H := [.cells 0 [.int .i64 k, .int .i64 n, .int .i64 m, .int .i64 i0, .bool g, .sl false ME], .cells 0 [.int .i64 0, .int .i64 0, .int .i64 0, .sl true []], .cells 0 [.int .i64 k, .int .i64 n, .int .i64 m, .osl 4 0 0 1 4 false], .cells 0 [.int .i64 ea, .int .i64 eb, .int .i64 ec, .int .i64 ed, .bool ef, .sl false eg], .cells 0 [.int .i64 pa, .int .i64 pb, .int .i64 pc, .sl false pd]]) ?_ (by simp) (by simp) ?_ ?_) (by simp only; omega)
          · simp only [wS, simprocAttr]; try exact rfl
          · simp only [wS, simprocAttr]; try exact rfl
          · simp only [htk, List.take_zero, List.map_nil, List.nil_append]; rfl
        · have hge : es = [] := by simpa using h
          subst hge
          repeat' (first | with_reducible (first | refine u'1 fun _ _ => ?_ | refine u'2 ?_ | (first | refine u'3 ?_ | refine u'4 ?_ | refine u'5 fun _ _ _ _ => ?_ | refine u'6 (fun hg => ?_) (fun hg => ?_) <;> try simp only [hg]) <;> simp only [wS, simprocAttr] | (first | refine u's ?_ | refine u'e ?_ | refine u'r ?_) <;> try simp only [wE, simprocAttr] | refine u'8 ?_ | refine u'9 ?_))
          refine ⟨_, ref_refl, body_retC (v := .agg [.int .i64 k, .int .i64 n, .int .i64 m, .sl true []]) rfl ?_ ?_⟩
          · simp only [wS, simprocAttr]; try exact rfl
          · rfl
      · have hlm : ((es.take (q + 1)).map fun e => T.enc (Mk.plain e)).length = q + 1 := by rw [List.length_map, List.length_take]; omega
        simp only [Nat.succ_ne_zero, if_false, Nat.add_sub_cancel, Nat.add_eq_zero_iff, Nat.one_ne_zero, and_false]
        repeat' (first | with_reducible (first | refine u'1 fun _ _ => ?_ | refine u'2 ?_ | (first | refine u'3 ?_ | refine u'4 ?_ | refine u'5 fun _ _ _ _ => ?_ | refine u'6 (fun hg => ?_) (fun hg => ?_) <;> try simp only [hg]) <;> simp only [wS, simprocAttr] | (first | refine u's ?_ | refine u'e ?_ | refine u'r ?_) <;> try simp only [wE, simprocAttr] | refine u'8 ?_ | refine u'9 ?_))
        refine ⟨fun h => ?_, fun h => ?_⟩
        · have hlt : q + 1 < es.length := by simp at h; omega
          have hltE : q + 1 < ME.length := by omega
          obtain ⟨e, he⟩ : ∃ e, es[q + 1]? = some e := ⟨_, List.getElem?_eq_getElem hlt⟩
          have hg := hgt (q + 1) e he
          have hce := ih2 e (List.mem_of_getElem? he)
          have htk := map_takeF (f := fun e => T.enc (Mk.plain e)) he
          have hee : ∃ a b c d f h, Mk.enc e = [.int .i64 a, .int .i64 b, .int .i64 c, .int .i64 d, .bool f, .sl false h] := by cases e; exact ⟨_, _, _, _, _, _, rfl⟩
          obtain ⟨ea, eb, ec, ed, ef, eg, hee⟩ := hee
          have hpp : ∃ a b c d, T.enc (Mk.plain e) = [.int .i64 a, .int .i64 b, .int .i64 c, .sl false d] := by cases e; exact ⟨_, _, _, _, rfl⟩
          obtain ⟨pa, pb, pc, pd, hpp⟩ := hpp
          rw [hee] at hg hce
          rw [hpp] at hce htk
          repeat' (first | with_reducible (first | refine u'1 fun _ _ => ?_ | refine u'2 ?_ | (first | refine u'3 ?_ | refine u'4 ?_ | refine u'5 fun _ _ _ _ => ?_ | refine u'6 (fun hg => ?_) (fun hg => ?_) <;> try simp only [hg]) <;> simp only [wS, simprocAttr, hg, hltE, hlt] | (first | refine u's ?_ | refine u'e ?_ | refine u'r ?_) <;> try simp only [wE, simprocAttr] | refine u'8 ?_ | refine u'9 ?_))
          refine callR_tree hG0 hce ?_
          simp only [wS, simprocAttr]
          refine eff_own (cs := ((es.take (q + 1)).map fun e => T.enc (Mk.plain e)).flatten) (sz := 4) (by' := 48) (mm := 1) (new := [.int .i64 pa, .int .i64 pb, .int .i64 pc, .sl false pd]) (by kernel_rfl) ?hb (by rw [flat_sz (hps _), hlm]) ?hd (by omega) ?_
          case hb => simp only [wS, simprocAttr]
          case hd => simp [srcA]
          simp only [wS, simprocAttr]
          refine ⟨by kernel_rfl, ?_⟩
          repeat' (first | with_reducible (first | refine u'1 fun _ _ => ?_ | refine u'2 ?_ | (first | refine u'3 ?_ | refine u'4 ?_ | refine u'5 fun _ _ _ _ => ?_ | refine u'6 (fun hg => ?_) (fun hg => ?_) <;> try simp only [hg]) <;> simp only [wS, simprocAttr, e3 hlt] | (first | refine u's ?_ | refine u'e ?_ | refine u'r ?_) <;> try simp only [wE, simprocAttr] | refine u'8 ?_ | refine u'9 ?_))
          refine hK3.go ⟨q + 1 + 1, hlt⟩ (Weak.ref ⟨?_, .inr ⟨Nat.zero_le _, ?_, ?_, ?_, ?_⟩⟩) (by simp only; omega)
          · simp only [wS, simprocAttr]; try exact rfl
          · simp only [Nat.succ_ne_zero, if_false, Nat.add_sub_cancel, Nat.add_eq_zero_iff, Nat.one_ne_zero, and_false, htk, List.flatten_append, List.flatten_cons, List.flatten_nil, List.append_nil]
            simp only [wS, simprocAttr]; try exact rfl
          · exact fun g cs hg => inL_mono (p := noRef) (fun r hr => by cases hr) (hG0 g cs hg)
          · simp only [Nat.succ_ne_zero, if_false, Nat.add_eq_zero_iff, Nat.one_ne_zero, and_false]
            intro z hz
            simp only [List.mem_cons, List.not_mem_nil, or_false] at hz
            rcases hz with rfl | rfl | rfl | rfl | rfl | rfl <;> first | rfl | exact hteq _
          · simp only [Nat.succ_ne_zero, if_false, Nat.add_eq_zero_iff, Nat.one_ne_zero, and_false, List.all_cons, List.all_nil, Bool.and_true, Bool.and_eq_true]
            exact ⟨by simp only [rowIn, inL, inR, hteq, Bool.and_self], rfl, rfl, rfl, inL_flat (inE_mono (p := noRef) (fun r hr => by cases hr) (hpt _))⟩
        · have hge : es.length = q + 1 := by simp at h; omega
          have hta : es.take (q + 1) = es := by rw [← hge, List.take_length]
          have hlm2 : (es.map fun e => T.enc (Mk.plain e)).length = q + 1 := by rw [List.length_map, hge]
          repeat' (first | with_reducible (first | refine u'1 fun _ _ => ?_ | refine u'2 ?_ | (first | refine u'3 ?_ | refine u'4 ?_ | refine u'5 fun _ _ _ _ => ?_ | refine u'6 (fun hg => ?_) (fun hg => ?_) <;> try simp only [hg]) <;> simp only [wS, simprocAttr] | (first | refine u's ?_ | refine u'e ?_ | refine u'r ?_) <;> try simp only [wE, simprocAttr] | refine u'8 ?_ | refine u'9 ?_))
          rw [hta] at *
          refine ⟨_, ref_freeze [4] [(2, .ptr 1 0 0)] [.cells 0 [.int .i64 k, .int .i64 n, .int .i64 m, .int .i64 i0, .bool g, .sl false ME], .cells 0 [.int .i64 k, .int .i64 n, .int .i64 m, .sl false (es.map fun e => T.enc (Mk.plain e))], .cells 0 [.int .i64 k, .int .i64 n, .int .i64 m, .osl 4 q 0 (q + 1) 4 false], .dead, .dead] rfl ⟨.inl ?_, trivial⟩ ?_, body_retC (v := .agg [.int .i64 k, .int .i64 n, .int .i64 m, .sl false (es.map fun e => T.enc (Mk.plain e))]) rfl ?_ ?_⟩
          · simp only [wS, simprocAttr]
          · refine ⟨.inr ⟨by simp, .inl rfl⟩, .inr ⟨by simp, .inr ⟨0, _, _, rfl, rfl, .inl rfl, .inl rfl, .inl rfl, .inr (.osl (cs := (es.map fun e => T.enc (Mk.plain e)).flatten) (by simp) (by simp only [wS, simprocAttr]) hlm2 (hps es) ?_ (hpt es)), trivial⟩⟩, .inr ⟨by simp, .inl rfl⟩, .inr ⟨by simp, .inl rfl⟩, .inl ⟨by simp, rfl, by simp⟩, trivial⟩
            rw [List.drop_zero, List.take_of_length_le (by rw [flat_sz (hps es), hlm2]; exact Nat.le_refl _)]
          · simp only [wS, simprocAttr]
          · rw [← hout]
            exact congrArg AV.agg (T.wk_enc _)
end Go.Proofs.YtijakngaipdncaaDoor
