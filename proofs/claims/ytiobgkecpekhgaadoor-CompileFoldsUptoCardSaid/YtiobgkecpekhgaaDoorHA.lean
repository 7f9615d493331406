import Derived.Test.YtiobgkecpekhgaaDoorAE
import Derived.Test.YtiobgkecpekhgaaDoorF3
import Derived.Test.YtiobgkecpekhgaaDoorN1
set_option linter.unusedVariables false
set_option linter.unusedSimpArgs false
namespace Go.Proofs.YtiobgkecpekhgaaDoor
open Go.AM
attribute [local irreducible] AWp rgnS callR callV effR valR guardR stepR nextR
theorem heads_rv1 {r v sz : Nat} {app : List (List AV)} : heads (rv r v sz app) = [r] := by
  unfold rv; split <;> rfl
theorem toCells_rv1 {r v sz : Nat} {app : List (List AV)} : AV.toCells (rv r v sz app) = some [rv r v sz app] := by
  unfold rv; split <;> rfl
theorem ref_plain : ∀ (N : Nat) (x : Mk), Mk.size x ≤ N → N ≤ 1000000000000 → Pure Tryd.prog G0 27 [.agg (Mk.enc x)] (.agg (T.enc (Mk.plain x))) := by
  intro N
  induction N with
  | zero => intro x h; have := Mk.size_pos x; omega
  | succ N ih =>
    intro x hx hN
    cases x with
    | mk k n m i0 g es =>
    have ih2 : ∀ e ∈ es, Pure Tryd.prog G0 27 [.agg (Mk.enc e)] (.agg (T.enc (Mk.plain e))) := fun e he => ih e (by have := Mk.size_mem he; simp only [Mk.size] at hx; omega) (by omega)
    have htr := Mk.enc_tree (.mk k n m i0 g es)
    have hto := T.enc_tree (Mk.plain (.mk k n m i0 g es))
    have hls := Mk.len_sizes es
    simp only [Mk.size] at hx
    have hpt : ∀ l : List Mk, inE noRef (l.map fun e => T.enc (Mk.plain e)) = true := fun l => by
      have := T.encs_tree (l.map Mk.plain)
      rw [T.encs_map, List.map_map] at this
      exact this
    have hps : ∀ l : List Mk, ∀ e ∈ l.map (fun e => T.enc (Mk.plain e)), e.length = 4 := fun l e he => by
      obtain ⟨y, _, rfl⟩ := List.mem_map.1 he
      exact T.enc_len _
    have hout : T.enc (Mk.plain (.mk k n m i0 g es)) = [.int .i64 k, .int .i64 n, .int .i64 m, .sl false (es.map fun e => T.enc (Mk.plain e))] := by
      rw [Mk.plain, T.enc, T.encs_map, Mk.plains_map, List.map_map]; rfl
    rw [hout] at hto ⊢
    refine pure_of_bodyW hG0 Tryd.func27 rfl (by kernel_rfl) (by simp [Tryd.ntmps27]) (by simp only [inL, inR, htr, Bool.and_self]) (by simp only [inR]; exact hto) ?_
    simp only [Tryd.ntmps27, enterF, Nat.reduceAdd, Mk.enc]
    have hgt := fun (i : Nat) (e : Mk) => Mk.encs_get (es := es) (i := i) (e := e)
    have hln := Mk.encs_len es
    have hte := Mk.encs_tree es
    generalize Mk.encs es = ME at hgt hln hte
    repeat' (first | with_reducible (first | refine u'1 fun _ _ => ?_ | refine u'2 ?_ | (first | refine u'3 ?_ | refine u'4 ?_ | refine u'5 fun _ _ _ _ => ?_ | refine u'6 (fun hg => ?_) (fun hg => ?_) <;> try simp only [hg]) <;> simp only [wS, simprocAttr] | (first | refine u's ?_ | refine u'e ?_ | refine u'r ?_) <;> try simp only [wE, simprocAttr] | refine u'8 ?_ | refine u'9 ?_))
    refine awp_loop_r (α := {i : Nat // i ≤ es.length}) (fun i => [(1, .ptr 0 0 0), (2, .ptr 1 0 0), (3, .ptr 2 0 0), (4, .int .i64 (i.1 : Nat))]) (fun i => [.cells 0 [.int .i64 k, .int .i64 n, .int .i64 m, .int .i64 i0, .bool g, .sl false ME], .cells 0 [.int .i64 0, .int .i64 0, .int .i64 0, .sl true []], .cells 0 [.int .i64 k, .int .i64 n, .int .i64 m, rv 3 (i.1 - 1) 4 ((es.take i.1).map fun e => T.enc (Mk.plain e))], rvR (i.1 - 1) ((es.take i.1).map fun e => T.enc (Mk.plain e))]) (fun i => es.length - i.1) ⟨0, Nat.zero_le _⟩ (ref_to [] (kp [0, 1, 2, 3]) hG0 (fun r hr => absurd hr (Nat.not_lt_zero r)) ?_ ?_ ?_) ?_
    · simp only [wS, simprocAttr, FrzF, Frz, and_true, true_or]
    · rfl
    · simp only [wS, simprocAttr, List.take_zero, List.map_nil, rv_nil, rvR_nil]
      simp only [ToH, and_true]
      exact ⟨.inr ⟨rfl, by simp only [rowIn, inL, inR, inE_no hte, Bool.and_self], .inr ⟨.inl (by simp), .inl rfl⟩⟩, .inr ⟨rfl, rfl, .inr ⟨.inl (by simp), .inl rfl⟩⟩, .inr ⟨rfl, rfl, .inr ⟨.inl (by simp), .inr ⟨0, _, _, rfl, rfl, .inl rfl, .inl rfl, .inl rfl, .inr .toRsv, trivial⟩⟩⟩⟩
    · rintro ⟨i, hi⟩ K3 hK3
      try simp only at hi
      have hal : ((es.take i).map fun e => T.enc (Mk.plain e)).length = i := by rw [List.length_map, List.length_take]; omega
      repeat' (first | with_reducible (first | refine u'1 fun _ _ => ?_ | refine u'2 ?_ | (first | refine u'3 ?_ | refine u'4 ?_ | refine u'5 fun _ _ _ _ => ?_ | refine u'6 (fun hg => ?_) (fun hg => ?_) <;> try simp only [hg]) <;> simp only [wS, simprocAttr, ↓heads_rv1, ↓toCells_rv1] | (first | refine u's ?_ | refine u'e ?_ | refine u'r ?_) <;> try simp only [wE, simprocAttr] | refine u'8 ?_ | refine u'9 ?_))
      refine ⟨fun h => ?_, fun h => ?_⟩
      · have hlt : i < es.length := by simpa [hln] using h
        have hltE : i < ME.length := by omega
        obtain ⟨e, he⟩ : ∃ e, es[i]? = some e := ⟨_, List.getElem?_eq_getElem hlt⟩
        have hg := hgt i e he
        have hce := ih2 e (List.mem_of_getElem? he)
        have htk := map_takeF (f := fun e => T.enc (Mk.plain e)) he
        have e3 := wrap_succ (k := i) hlt (by omega)
        have hge : decide (((i : Nat) : Int) ≥ ((ME.length : Nat) : Int)) = false := by simp; omega
        have hee : ∃ a b c d f h, Mk.enc e = [.int .i64 a, .int .i64 b, .int .i64 c, .int .i64 d, .bool f, .sl false h] := by cases e; exact ⟨_, _, _, _, _, _, rfl⟩
        obtain ⟨ea, eb, ec, ed, ef, eg, hee⟩ := hee
        have hpp : ∃ a b c d, T.enc (Mk.plain e) = [.int .i64 a, .int .i64 b, .int .i64 c, .sl false d] := by cases e; exact ⟨_, _, _, _, rfl⟩
        obtain ⟨pa, pb, pc, pd, hpp⟩ := hpp
        rw [hee] at hg hce
        rw [hpp] at hce htk
        have hps' := hps (es.take i)
        have hpn := hpt (es.take (i + 1))
        have hvv : i = if ((es.take i).map fun e => T.enc (Mk.plain e)) = [] then 0 else i - 1 + 1 := by
          by_cases h0 : ((es.take i).map fun e => T.enc (Mk.plain e)) = []
          · rw [if_pos h0]; rw [h0] at hal; simpa using hal.symm
          · rw [if_neg h0]
            have : i ≠ 0 := fun hz => h0 (by rw [hz]; rfl)
            omega
        repeat' (first | with_reducible (first | refine u'1 fun _ _ => ?_ | refine u'2 ?_ | (first | refine u'3 ?_ | refine u'4 ?_ | refine u'5 fun _ _ _ _ => ?_ | refine u'6 (fun hg => ?_) (fun hg => ?_) <;> try simp only [hg]) <;> simp only [wS, simprocAttr, hg, hltE, hlt, hge, ↓heads_rv1, ↓toCells_rv1] | (first | refine u's ?_ | refine u'e ?_ | refine u'r ?_) <;> try simp only [wE, simprocAttr] | refine u'8 ?_ | refine u'9 ?_))
        refine callR_tree hG0 hce ?_
        simp only [wS, simprocAttr, ↓heads_rv1, ↓toCells_rv1]
        refine eff_rvs (v' := i) (es := [[.int .i64 pa, .int .i64 pb, .int .i64 pc, .sl false pd]]) (by' := 48) (by kernel_rfl) (by (simp only [wS, simprocAttr]; try exact rfl)) hvv hps' (by simp [srcA]) (by simp) (by rw [hal]; simp only [List.length_singleton]; omega) ?_
        simp only [wS, simprocAttr, ↓heads_rv1, ↓toCells_rv1]
        repeat' (first | with_reducible (first | refine u'1 fun _ _ => ?_ | refine u'2 ?_ | (first | refine u'3 ?_ | refine u'4 ?_ | refine u'5 fun _ _ _ _ => ?_ | refine u'6 (fun hg => ?_) (fun hg => ?_) <;> try simp only [hg]) <;> simp only [wS, simprocAttr, e3, ↓heads_rv1, ↓toCells_rv1] | (first | refine u's ?_ | refine u'e ?_ | refine u'r ?_) <;> try simp only [wE, simprocAttr] | refine u'8 ?_ | refine u'9 ?_))
        try refine ⟨by kernel_rfl, ?_⟩
        repeat' (first | with_reducible (first | refine u'1 fun _ _ => ?_ | refine u'2 ?_ | (first | refine u'3 ?_ | refine u'4 ?_ | refine u'5 fun _ _ _ _ => ?_ | refine u'6 (fun hg => ?_) (fun hg => ?_) <;> try simp only [hg]) <;> simp only [wS, simprocAttr, e3, ↓heads_rv1, ↓toCells_rv1] | (first | refine u's ?_ | refine u'e ?_ | refine u'r ?_) <;> try simp only [wE, simprocAttr] | refine u'8 ?_ | refine u'9 ?_))
        refine hK3.go ⟨i + 1, hlt⟩ (Weak.ref ⟨?_, .inr ⟨Nat.zero_le _, ?_, fun g cs hg => inL_no (hG0 g cs hg), ?_, ?_⟩⟩) (by simp only; omega)
        · simp only [wS, simprocAttr]; try exact rfl
        · simp only [wS, simprocAttr, Nat.add_sub_cancel, htk]; try exact rfl
        · intro z hz
          simp only [List.mem_cons, List.not_mem_nil, or_false] at hz
          rcases hz with rfl | rfl | rfl | rfl <;> rfl
        · simp only [List.all_cons, List.all_nil, Bool.and_true, Bool.and_eq_true]
          exact ⟨by simp only [rowIn, inL, inR, inE_no hte, Bool.and_self], rfl, by simp only [rowIn, inL, inR, Bool.true_and, Bool.and_true]; exact inR_rv rfl, rowIn_rv (inE_no (hpt _))⟩
      · have hge : i = es.length := by simp [hln] at h; omega
        subst hge
        rw [List.take_length] at hal
        repeat' (first | with_reducible (first | refine u'1 fun _ _ => ?_ | refine u'2 ?_ | (first | refine u'3 ?_ | refine u'4 ?_ | refine u'5 fun _ _ _ _ => ?_ | refine u'6 (fun hg => ?_) (fun hg => ?_) <;> try simp only [hg]) <;> simp only [wS, simprocAttr, List.take_length] | (first | refine u's ?_ | refine u'e ?_ | refine u'r ?_) <;> try simp only [wE, simprocAttr] | refine u'9 ?_))
        refine Cont.go (by assumption) (awp_ref (ref_to [3] (kp [0, 1, 2]) (l := [(1, .ptr 0 0 0), (2, .ptr 1 0 0), (3, .ptr 2 0 0)]) (h := [.cells 0 [.int .i64 k, .int .i64 n, .int .i64 m, .int .i64 i0, .bool g, .sl false ME], .cells 0 [.int .i64 0, .int .i64 0, .int .i64 0, .sl true []], .cells 0 [.int .i64 k, .int .i64 n, .int .i64 m, .sl false (es.map fun e => T.enc (Mk.plain e))]]) hG0 (fun r hr => absurd hr (Nat.not_lt_zero r)) ?_ ?_ ?_) ?_)
        · simp only [wS, simprocAttr, FrzF, Frz, and_true, true_or]
        · rfl
        · simp only [wS, simprocAttr, List.take_length]
          simp only [ToH, and_true]
          exact ⟨.inr ⟨rfl, by simp only [rowIn, inL, inR, inE_no hte, Bool.and_self], .inr ⟨.inl (by simp), .inl rfl⟩⟩, .inr ⟨rfl, rfl, .inr ⟨.inl (by simp), .inl rfl⟩⟩, .inr ⟨rfl, by simp only [rowIn, inL, inR, Bool.true_and, Bool.and_true]; exact inE_no (hpt es), .inr ⟨.inl (by simp), .inr ⟨0, _, _, rfl, rfl, .inl rfl, .inl rfl, .inl rfl, .inr (lend_rv (v := es.length - 1) rfl (by simp) (hps es) (hpt es)), trivial⟩⟩⟩, rfl⟩
        repeat' (first | with_reducible (first | refine u'1 fun _ _ => ?_ | refine u'2 ?_ | (first | refine u'3 ?_ | refine u'4 ?_ | refine u'5 fun _ _ _ _ => ?_ | refine u'6 (fun hg => ?_) (fun hg => ?_) <;> try simp only [hg]) <;> simp only [wS, simprocAttr] | (first | refine u's ?_ | refine u'e ?_ | refine u'r ?_) <;> try simp only [wE, simprocAttr] | refine u'8 ?_ | refine u'9 ?_))
        exact body_retC (v := .agg [.int .i64 k, .int .i64 n, .int .i64 m, .sl false (es.map fun e => T.enc (Mk.plain e))]) rfl (by simp only [wS, simprocAttr]; try exact rfl) (by
          have hw := T.wk_enc (Mk.plain (.mk k n m i0 g es))
          rw [hout] at hw
          rw [AM.wk, hw])
end Go.Proofs.YtiobgkecpekhgaaDoor
set_option linter.unusedVariables false
set_option linter.unusedSimpArgs false
namespace Go.Proofs.YtiobgkecpekhgaaDoor
open Go.AM
attribute [local irreducible] AWp rgnS callR callV effR valR guardR stepR nextR
set_option maxRecDepth 100000
theorem enc_ex (t : T) : ∃ a b c d, T.enc t = [.int .i64 a, .int .i64 b, .int .i64 c, .sl false d] := by cases t; exact ⟨_, _, _, _, rfl⟩
theorem size_ref : ∀ (N : Nat) (t : T), T.size t ≤ N → N ≤ 1000000000000 → Pure Tryd.prog G0 11 [.agg (T.enc t)] (.int .i64 (T.size t : Nat)) := by
  intro N
  induction N with
  | zero => intro t h; have := T.size_pos t; omega
  | succ N ih =>
    intro t ht hN
    cases t with
    | mk k n m es =>
    have ih2 : ∀ e ∈ es, Pure Tryd.prog G0 11 [.agg (T.enc e)] (.int .i64 (T.size e : Nat)) := fun e he => ih e (by have := T.size_mem he; simp only [T.size] at ht; omega) (by omega)
    have htr := T.enc_tree (.mk k n m es)
    have hls := T.len_sizes es
    simp only [T.size] at ht
    refine pure_of_body hG0 Tryd.func11 rfl (by kernel_rfl) (by simp [Tryd.ntmps11]) (by simp only [inL, inR, htr, Bool.and_self]) rfl ?_
    simp only [Tryd.ntmps11, enterF, Nat.reduceAdd, T.enc]
    have hgt := fun (i : Nat) (e : T) => T.encs_get (es := es) (i := i) (e := e)
    have hln := T.encs_len es
    have hte := T.encs_tree es
    generalize T.encs es = EE at hgt hln hte
    repeat' (first | with_reducible (first | refine u'1 fun _ _ => ?_ | refine u'2 ?_ | (first | refine u'3 ?_ | refine u'4 ?_ | refine u'5 fun _ _ _ _ => ?_ | refine u'6 (fun hg => ?_) (fun hg => ?_) <;> try simp only [hg]) <;> simp only [wS, simprocAttr] | (first | refine u's ?_ | refine u'e ?_ | refine u'r ?_) <;> try simp only [wE, simprocAttr] | refine u'8 ?_ | refine u'9 ?_))
    refine awp_loop_r (α := {i : Nat // i ≤ es.length}) (fun i => [(1, .ptr 0 0 0), (3, .int .i64 ((1 + T.sizes (es.take i.1) : Nat))), (4, .int .i64 (i.1 : Nat))]) (fun i => [.cells 0 [.int .i64 k, .int .i64 n, .int .i64 m, .sl false EE]]) (fun i => es.length - i.1) ⟨0, Nat.zero_le _⟩ (Weak.ref ⟨?_, .inl ?_⟩) ?_
    · simp only [wS, simprocAttr, hln, T.sizes, List.take_zero]; try exact rfl
    · simp only [wS, simprocAttr]; try exact rfl
    · rintro ⟨i, hi⟩ K2 hK2
      repeat' (first | with_reducible (first | refine u'1 fun _ _ => ?_ | refine u'2 ?_ | (first | refine u'3 ?_ | refine u'4 ?_ | refine u'5 fun _ _ _ _ => ?_ | refine u'6 (fun hg => ?_) (fun hg => ?_) <;> try simp only [hg]) <;> simp only [wS, simprocAttr] | (first | refine u's ?_ | refine u'e ?_ | refine u'r ?_) <;> try simp only [wE, simprocAttr] | refine u'8 ?_ | refine u'9 ?_))
      refine ⟨fun h => ?_, fun h => ?_⟩
      · have hlt : i < es.length := by simpa [hln] using h
        have hltE : i < EE.length := by omega
        obtain ⟨e, he⟩ : ∃ e, es[i]? = some e := ⟨_, List.getElem?_eq_getElem hlt⟩
        have hg := hgt i e he
        have hs := T.sizes_take he
        have hsl := T.sizes_take_le es (i + 1)
        have ke := ih2 e (List.mem_of_getElem? he)
        have e1 := wrap_succ (k := i) hlt (by omega)
        have e2 : IntKind.i64.wrap (((1 + T.sizes (es.take i) : Nat) : Int) + ((T.size e : Nat) : Int)) = ((1 + T.sizes (es.take (i + 1)) : Nat) : Int) := by rw [wrap_id (by omega) (by omega)]; omega
        obtain ⟨ek, en, em, ees, hee⟩ := enc_ex e
        rw [hee] at hg ke
        repeat' (first | with_reducible (first | refine u'1 fun _ _ => ?_ | refine u'2 ?_ | (first | refine u'3 ?_ | refine u'4 ?_ | refine u'5 fun _ _ _ _ => ?_ | refine u'6 (fun hg => ?_) (fun hg => ?_) <;> try simp only [hg]) <;> simp only [wS, simprocAttr, hg, hltE, hlt] | (first | refine u's ?_ | refine u'e ?_ | refine u'r ?_) <;> try simp only [wE, simprocAttr] | refine u'8 ?_ | refine u'9 ?_))
        refine callR_tree hG0 ke ?_
        simp only [wS, simprocAttr, e2]
        repeat' (first | with_reducible (first | refine u'1 fun _ _ => ?_ | refine u'2 ?_ | (first | refine u'3 ?_ | refine u'4 ?_ | refine u'5 fun _ _ _ _ => ?_ | refine u'6 (fun hg => ?_) (fun hg => ?_) <;> try simp only [hg]) <;> simp only [wS, simprocAttr, e1, e2] | (first | refine u's ?_ | refine u'e ?_ | refine u'r ?_) <;> try simp only [wE, simprocAttr] | refine u'8 ?_ | refine u'9 ?_))
        refine hK2.go ⟨i + 1, hlt⟩ (Weak.ref ⟨?_, .inr ⟨Nat.zero_le _, ?_, fun g cs hg => inL_no (hG0 g cs hg), ?_, ?_⟩⟩) (by simp only; omega)
        · simp only [wS, simprocAttr]; try exact rfl
        · simp only [wS, simprocAttr]; try exact rfl
        · intro z hz
          simp only [List.mem_cons, List.not_mem_nil, or_false] at hz
          rcases hz with rfl | rfl | rfl <;> rfl
        · simp only [List.all_cons, List.all_nil, Bool.and_true, rowIn, inL, inR, Bool.true_and]
          exact inE_no hte
      · have hge : i = es.length := by simp [hln] at h; omega
        repeat' (first | with_reducible (first | refine u'1 fun _ _ => ?_ | refine u'2 ?_ | (first | refine u'3 ?_ | refine u'4 ?_ | refine u'5 fun _ _ _ _ => ?_ | refine u'6 (fun hg => ?_) (fun hg => ?_) <;> try simp only [hg]) <;> simp only [wS, simprocAttr] | (first | refine u's ?_ | refine u'e ?_ | refine u'r ?_) <;> try simp only [wE, simprocAttr] | refine u'8 ?_ | refine u'9 ?_))
        refine body_ret1 rfl ?_
        simp only [wS, simprocAttr]
        rw [hge, List.take_length]; simp only [T.size]
theorem sign_self (x : Int) : Pure Tryd.prog G0 41 [.int .i64 x, .int .i64 x] (.int .i64 0) := by
  have e1 : decide (x < x) = false := by simp
  have e2 : decide (x > x) = false := by simp
  refine pure_of_body hG0 Tryd.func41 rfl (by kernel_rfl) (by simp [Tryd.ntmps41]) (by simp [inL, inR]) (by simp [inR]) ?_
  simp only [Tryd.ntmps41, enterF, Nat.reduceAdd]
  repeat' (first | with_reducible (first | refine u'1 fun _ _ => ?_ | refine u'2 ?_ | (first | refine u'3 ?_ | refine u'4 ?_ | refine u'5 fun _ _ _ _ => ?_ | refine u'6 (fun hg => ?_) (fun hg => ?_) <;> try simp only [hg]) <;> simp only [wS, simprocAttr, e1, e2] | (first | refine u's ?_ | refine u'e ?_ | refine u'r ?_) <;> try simp only [wE, simprocAttr] | refine u'8 ?_ | refine u'9 ?_))
  exact body_ret1 rfl (by simp only [wS, simprocAttr])
theorem self_ref : ∀ (N : Nat) (t : T), T.size t ≤ N → N ≤ 1000000000000 → Pure Tryd.prog G0 23 [.agg (T.enc t), .agg (T.enc t)] (.int .i64 0) := by
  intro N
  induction N with
  | zero => intro t h; have := T.size_pos t; omega
  | succ N ih =>
    intro t ht hN
    cases t with
    | mk k n m es =>
    have ih2 : ∀ e ∈ es, Pure Tryd.prog G0 23 [.agg (T.enc e), .agg (T.enc e)] (.int .i64 0) := fun e he => ih e (by have := T.size_mem he; simp only [T.size] at ht; omega) (by omega)
    have htr := T.enc_tree (.mk k n m es)
    have hls := T.len_sizes es
    simp only [T.size] at ht
    have hsg := sign_self (es.length : Nat)
    refine pure_of_body hG0 Tryd.func23 rfl (by kernel_rfl) (by simp [Tryd.ntmps23]) (by simp only [inL, inR, htr, Bool.and_self]) rfl ?_
    simp only [Tryd.ntmps23, enterF, Nat.reduceAdd, T.enc]
    have hgt := fun (i : Nat) (e : T) => T.encs_get (es := es) (i := i) (e := e)
    have hln := T.encs_len es
    have hte := T.encs_tree es
    generalize T.encs es = EE at hgt hln hte
    repeat' (first | with_reducible (first | refine u'1 fun _ _ => ?_ | refine u'2 ?_ | (first | refine u'3 ?_ | refine u'4 ?_ | refine u'5 fun _ _ _ _ => ?_ | refine u'6 (fun hg => ?_) (fun hg => ?_) <;> try simp only [hg]) <;> simp only [wS, simprocAttr] | (first | refine u's ?_ | refine u'e ?_ | refine u'r ?_) <;> try simp only [wE, simprocAttr] | refine u'8 ?_ | refine u'9 ?_))
    obtain ⟨XX, hXX⟩ : ∃ x : List (List AV), x = [[.int .i64 k], [.int .i64 n], [.int .i64 m]] := ⟨_, rfl⟩
    have hXl : XX.length = 3 := by rw [hXX]; rfl
    have hXt : inE noRef XX = true := by rw [hXX]; rfl
    have hXg : ∀ i, i < 3 → ∃ z, XX[i]? = some [AV.int .i64 z] := fun i hi => by
      have : i = 0 ∨ i = 1 ∨ i = 2 := by omega
      rw [hXX]
      rcases this with rfl | rfl | rfl <;> exact ⟨_, rfl⟩
    refine awp_loop_r (α := {i : Nat // i ≤ 3}) (fun i => [(2, .ptr 0 0 0), (3, .ptr 1 0 0), (5, .sl true XX), (6, .sl true XX), (7, .int .i64 (i.1 : Nat))]) (fun i => [.cells 0 [.int .i64 k, .int .i64 n, .int .i64 m, .sl false EE], .cells 0 [.int .i64 k, .int .i64 n, .int .i64 m, .sl false EE]]) (fun i => 3 - i.1) ⟨0, Nat.zero_le _⟩ (Weak.ref ⟨?_, .inl ?_⟩) ?_
    · simp only [wS, simprocAttr, hXX]; try exact rfl
    · simp only [wS, simprocAttr]; try exact rfl
    · rintro ⟨i, hi⟩ K2 hK2
      repeat' (first | with_reducible (first | refine u'1 fun _ _ => ?_ | refine u'2 ?_ | (first | refine u'3 ?_ | refine u'4 ?_ | refine u'5 fun _ _ _ _ => ?_ | refine u'6 (fun hg => ?_) (fun hg => ?_) <;> try simp only [hg]) <;> simp only [wS, simprocAttr] | (first | refine u's ?_ | refine u'e ?_ | refine u'r ?_) <;> try simp only [wE, simprocAttr] | refine u'8 ?_ | refine u'9 ?_))
      refine ⟨fun h => ?_, fun h => ?_⟩
      · have hlt : i < 3 := by simp at h; omega
        obtain ⟨z, hz⟩ := hXg i hlt
        have e0 : (z != z) = false := by simp
        have e1 := wrap_succ (k := i) hlt (by omega)
        have hlt' : i < XX.length := by omega
        repeat' (first | with_reducible (first | refine u'1 fun _ _ => ?_ | refine u'2 ?_ | (first | refine u'3 ?_ | refine u'4 ?_ | refine u'5 fun _ _ _ _ => ?_ | refine u'6 (fun hg => ?_) (fun hg => ?_) <;> try simp only [hg]) <;> simp only [wS, simprocAttr, hz, hlt, hlt', hXl, e0, e1] | (first | refine u's ?_ | refine u'e ?_ | refine u'r ?_) <;> try simp only [wE, simprocAttr] | refine u'8 ?_ | refine u'9 ?_))
        refine hK2.go ⟨i + 1, hlt⟩ (Weak.ref ⟨?_, .inr ⟨Nat.zero_le _, ?_, fun g cs hg => inL_no (hG0 g cs hg), ?_, ?_⟩⟩) (by simp only; omega)
        · simp only [wS, simprocAttr]; try exact rfl
        · simp only [wS, simprocAttr]; try exact rfl
        · intro z hz
          simp only [List.mem_cons, List.not_mem_nil, or_false] at hz
          rcases hz with rfl | rfl | rfl | rfl | rfl <;> first | rfl | exact inE_no hXt
        · simp only [List.all_cons, List.all_nil, Bool.and_true, rowIn, inL, inR, Bool.true_and, inE_no hte, Bool.and_self]
      · repeat' (first | with_reducible (first | refine u'1 fun _ _ => ?_ | refine u'2 ?_ | (first | refine u'3 ?_ | refine u'4 ?_ | refine u'5 fun _ _ _ _ => ?_ | refine u'6 (fun hg => ?_) (fun hg => ?_) <;> try simp only [hg]) <;> simp only [wS, simprocAttr] | (first | refine u's ?_ | refine u'e ?_ | refine u'r ?_) <;> try simp only [wE, simprocAttr] | refine u'8 ?_ | refine u'9 ?_))
        refine awp_loop_r (α := {i : Nat // i ≤ es.length}) (fun i => [(2, .ptr 0 0 0), (3, .ptr 1 0 0), (8, .int .i64 (i.1 : Nat))]) (fun i => [.cells 0 [.int .i64 k, .int .i64 n, .int .i64 m, .sl false EE], .cells 0 [.int .i64 k, .int .i64 n, .int .i64 m, .sl false EE]]) (fun i => es.length - i.1) ⟨0, Nat.zero_le _⟩ (Weak.ref ⟨?_, .inl ?_⟩) ?_
        · simp only [wS, simprocAttr]; try exact rfl
        · simp only [wS, simprocAttr]; try exact rfl
        · clear hK2 hXg hXX hi h
          rintro ⟨i, hi⟩ K3 hK3
          by_cases hlt : i < es.length
          · have hltE : i < EE.length := by omega
            have hltd : decide (((i : Nat) : Int) < ((EE.length : Nat) : Int)) = true := by simp; omega
            obtain ⟨e, he⟩ : ∃ e, es[i]? = some e := ⟨_, List.getElem?_eq_getElem hlt⟩
            have hg := hgt i e he
            have ke := ih2 e (List.mem_of_getElem? he)
            have e1 := wrap_succ (k := i) hlt (by omega)
            have e0 : ((0 : Int) != 0) = false := rfl
            obtain ⟨ek, en, em, ees, hee⟩ := enc_ex e
            rw [hee] at hg ke
            repeat' (first | with_reducible (first | refine u'1 fun _ _ => ?_ | refine u'2 ?_ | (first | refine u'3 ?_ | refine u'4 ?_ | refine u'5 fun _ _ _ _ => ?_ | refine u'6 (fun hg => ?_) (fun hg => ?_) <;> try simp only [hg]) <;> simp only [wS, simprocAttr, hg, hltE, hltd, e0] | (first | refine u's ?_ | refine u'e ?_ | refine u'r ?_) <;> try simp only [wE, simprocAttr] | refine u'8 ?_ | refine u'9 ?_))
            refine callR_tree hG0 ke ?_
            simp only [wS, simprocAttr]
            repeat' (first | with_reducible (first | refine u'1 fun _ _ => ?_ | refine u'2 ?_ | (first | refine u'3 ?_ | refine u'4 ?_ | refine u'5 fun _ _ _ _ => ?_ | refine u'6 (fun hg => ?_) (fun hg => ?_) <;> try simp only [hg]) <;> simp only [wS, simprocAttr, e1, e0] | (first | refine u's ?_ | refine u'e ?_ | refine u'r ?_) <;> try simp only [wE, simprocAttr] | refine u'8 ?_ | refine u'9 ?_))
            refine hK3.go ⟨i + 1, hlt⟩ (Weak.ref ⟨?_, .inr ⟨Nat.zero_le _, ?_, fun g cs hg => inL_no (hG0 g cs hg), ?_, ?_⟩⟩) (by simp only; omega)
            · simp only [wS, simprocAttr]; try exact rfl
            · simp only [wS, simprocAttr]; try exact rfl
            · intro z hz
              simp only [List.mem_cons, List.not_mem_nil, or_false] at hz
              rcases hz with rfl | rfl | rfl <;> rfl
            · simp only [List.all_cons, List.all_nil, Bool.and_true, rowIn, inL, inR, Bool.true_and, inE_no hte, Bool.and_self]
          · have hltd : decide (((i : Nat) : Int) < ((EE.length : Nat) : Int)) = false := by simp; omega
            rw [← hln] at hsg
            repeat' (first | with_reducible (first | refine u'1 fun _ _ => ?_ | refine u'2 ?_ | (first | refine u'3 ?_ | refine u'4 ?_ | refine u'5 fun _ _ _ _ => ?_ | refine u'6 (fun hg => ?_) (fun hg => ?_) <;> try simp only [hg]) <;> simp only [wS, simprocAttr, hltd] | (first | refine u's ?_ | refine u'e ?_ | refine u'r ?_) <;> try simp only [wE, simprocAttr] | refine u'8 ?_ | refine u'9 ?_))
            refine callR_tree hG0 hsg ?_
            simp only [wS, simprocAttr]
            repeat' (first | with_reducible (first | refine u'1 fun _ _ => ?_ | refine u'2 ?_ | (first | refine u'3 ?_ | refine u'4 ?_ | refine u'5 fun _ _ _ _ => ?_ | refine u'6 (fun hg => ?_) (fun hg => ?_) <;> try simp only [hg]) <;> simp only [wS, simprocAttr] | (first | refine u's ?_ | refine u'e ?_ | refine u'r ?_) <;> try simp only [wE, simprocAttr] | refine u'8 ?_ | refine u'9 ?_))
            exact body_ret1 rfl (by simp only [wS, simprocAttr])
theorem same_ref (t : T) (h : T.size t ≤ 1000000000000) : Pure Tryd.prog G0 12 [.agg (T.enc t), .agg (T.enc t)] (.bool true) := by
  have htr := T.enc_tree t
  have hc := self_ref _ t (Nat.le_refl _) h
  obtain ⟨a, b, c, d, he⟩ := enc_ex t
  rw [he] at hc htr ⊢
  have e0 : ((0 : Int) == 0) = true := rfl
  refine pure_of_body hG0 Tryd.func12 rfl (by kernel_rfl) (by simp [Tryd.ntmps12]) (by simp only [inL, inR, Bool.and_true, Bool.true_and] at htr ⊢; rw [htr]; rfl) rfl ?_
  simp only [Tryd.ntmps12, enterF, Nat.reduceAdd]
  repeat' (first | with_reducible (first | refine u'1 fun _ _ => ?_ | refine u'2 ?_ | (first | refine u'3 ?_ | refine u'4 ?_ | refine u'5 fun _ _ _ _ => ?_ | refine u'6 (fun hg => ?_) (fun hg => ?_) <;> try simp only [hg]) <;> simp only [wS, simprocAttr, e0] | (first | refine u's ?_ | refine u'e ?_ | refine u'r ?_) <;> try simp only [wE, simprocAttr] | refine u'8 ?_ | refine u'9 ?_) | (refine callR_tree hG0 (hc) ?_; simp only [wS, simprocAttr, e0]) | with_reducible refine And.intro (fun _ => ?_) (fun _ => ?_) | with_reducible refine And.intro (by kernel_rfl) ?_)
  exact body_ret1 rfl (by simp only [wS, simprocAttr])
end Go.Proofs.YtiobgkecpekhgaaDoor
set_option linter.unusedVariables false
set_option linter.unusedSimpArgs false
namespace Go.Proofs.YtiobgkecpekhgaaDoor
open Go.AM
attribute [local irreducible] AWp rgnS callR callV effR valR guardR stepR nextR
theorem ref_mark : ∀ (N : Nat) (x : T) (i0 : Int), T.size x ≤ N → N ≤ 1000000000000 → 0 ≤ i0 → i0 + (T.size x : Nat) ≤ 2000000000000 → Pure Tryd.prog G0 29 [.agg (T.enc x), .int .i64 i0] (.agg (Mk.enc (Mk.mark x i0))) := by
  intro N
  induction N with
  | zero => intro x _ h; have := T.size_pos x; omega
  | succ N ih =>
    intro x i0 hx hN hi0 hi1
    cases x with
    | mk k n m es =>
    have htr := T.enc_tree (.mk k n m es)
    have hto := Mk.enc_tree (Mk.mark (.mk k n m es) i0)
    have hls := T.len_sizes es
    simp only [T.size] at hx hi1
    have hpt : ∀ l : List Mk, inE noRef (l.map Mk.enc) = true := fun l => by
      have := Mk.encs_tree l
      rw [Mk.encs_map] at this
      exact this
    have hps : ∀ l : List Mk, ∀ e ∈ l.map Mk.enc, e.length = 6 := fun l e he => by
      obtain ⟨y, _, rfl⟩ := List.mem_map.1 he
      cases y; rfl
    have hout : Mk.enc (Mk.mark (.mk k n m es) i0) = [.int .i64 k, .int .i64 n, .int .i64 m, .int .i64 i0, .bool false, .sl false ((Mk.marks es (i0 + 1)).map Mk.enc)] := by
      rw [Mk.mark, Mk.enc, Mk.encs_map]
    have hwk := Mk.wk_enc (Mk.mark (.mk k n m es) i0)
    rw [hout] at hto hwk ⊢
    have hml := Mk.marks_len es (i0 + 1)
    have hmg := fun (j : Nat) (e : T) => Mk.marks_get (es := es) (i := i0 + 1) (j := j) (e := e)
    obtain ⟨ML, hML⟩ : ∃ x, x = Mk.marks es (i0 + 1) := ⟨_, rfl⟩
    rw [← hML] at hout hto hml hmg hwk ⊢
    have hst : ∀ j, T.sizes (es.take j) ≤ T.sizes es := fun j => T.sizes_take_le es j
    have ks : ∀ e ∈ es, Pure Tryd.prog G0 11 [.agg (T.enc e)] (.int .i64 (T.size e : Nat)) := fun e he => size_ref _ e (Nat.le_refl _) (by have := T.size_mem he; omega)
    refine pure_of_bodyW hG0 Tryd.func29 rfl (by kernel_rfl) (by simp [Tryd.ntmps29]) (by simp only [inL, inR, htr, Bool.and_self]) (by simp only [inR]; exact hto) ?_
    simp only [Tryd.ntmps29, enterF, Nat.reduceAdd, T.enc]
    have hgt := fun (i : Nat) (e : T) => T.encs_get (es := es) (i := i) (e := e)
    have hln := T.encs_len es
    have hte := T.encs_tree es
    generalize T.encs es = ME at hgt hln hte
    have e0 : IntKind.i64.wrap (i0 + 1) = i0 + 1 := wrap_id (by omega) (by omega)
    repeat' (first | with_reducible (first | refine u'1 fun _ _ => ?_ | refine u'2 ?_ | (first | refine u'3 ?_ | refine u'4 ?_ | refine u'5 fun _ _ _ _ => ?_ | refine u'6 (fun hg => ?_) (fun hg => ?_) <;> try simp only [hg]) <;> simp only [wS, simprocAttr, e0] | (first | refine u's ?_ | refine u'e ?_ | refine u'r ?_) <;> try simp only [wE, simprocAttr] | refine u'8 ?_ | refine u'9 ?_))
    refine awp_loop_r (α := {i : Nat // i ≤ es.length}) (fun i => [(2, .ptr 0 0 0), (4, .ptr 1 0 0), (5, .ptr 2 0 0), (6, .int .i64 (i0 + 1 + (T.sizes (es.take i.1) : Nat))), (7, .int .i64 (i.1 : Nat))]) (fun i => [.cells 0 [.int .i64 k, .int .i64 n, .int .i64 m, .sl false ME], .cells 0 [.int .i64 0, .int .i64 0, .int .i64 0, .int .i64 0, .bool false, .sl true []], .cells 0 [.int .i64 k, .int .i64 n, .int .i64 m, .int .i64 i0, .bool false, rv 3 (i.1 - 1) 6 ((ML.take i.1).map Mk.enc)], rvR (i.1 - 1) ((ML.take i.1).map Mk.enc)]) (fun i => es.length - i.1) ⟨0, Nat.zero_le _⟩ (ref_to [] (kp [0, 1, 2, 3]) hG0 (fun r hr => absurd hr (Nat.not_lt_zero r)) ?_ ?_ ?_) ?_
    · simp only [wS, simprocAttr, FrzF, Frz, and_true, true_or, List.take_zero, T.sizes, Int.natCast_zero, Int.add_zero]
    · rfl
    · simp only [wS, simprocAttr, List.take_zero, List.map_nil, rv_nil, rvR_nil]
      simp only [ToH, and_true]
      exact ⟨.inr ⟨rfl, by simp only [rowIn, inL, inR, inE_no hte, Bool.and_self], .inr ⟨.inl (by simp), .inl rfl⟩⟩, .inr ⟨rfl, rfl, .inr ⟨.inl (by simp), .inl rfl⟩⟩, .inr ⟨rfl, rfl, .inr ⟨.inl (by simp), .inr ⟨0, _, _, rfl, rfl, .inl rfl, .inl rfl, .inl rfl, .inl rfl, .inl rfl, .inr .toRsv, trivial⟩⟩⟩⟩
    · rintro ⟨i, hi⟩ K3 hK3
      try simp only at hi
      have hal : ((ML.take i).map Mk.enc).length = i := by rw [List.length_map, List.length_take]; omega
      repeat' (first | with_reducible (first | refine u'1 fun _ _ => ?_ | refine u'2 ?_ | (first | refine u'3 ?_ | refine u'4 ?_ | refine u'5 fun _ _ _ _ => ?_ | refine u'6 (fun hg => ?_) (fun hg => ?_) <;> try simp only [hg]) <;> simp only [wS, simprocAttr, ↓heads_rv1, ↓toCells_rv1] | (first | refine u's ?_ | refine u'e ?_ | refine u'r ?_) <;> try simp only [wE, simprocAttr] | refine u'8 ?_ | refine u'9 ?_))
      refine ⟨fun h => ?_, fun h => ?_⟩
      · have hlt : i < es.length := by simpa [hln] using h
        have hltE : i < ME.length := by omega
        obtain ⟨e, he⟩ : ∃ e, es[i]? = some e := ⟨_, List.getElem?_eq_getElem hlt⟩
        have hg := hgt i e he
        have hsz := T.sizes_take he
        have hst2 := hst (i + 1)
        have hce := ih e (i0 + 1 + (T.sizes (es.take i) : Nat)) (by have := T.size_mem (List.mem_of_getElem? he); omega) (by omega) (by omega) (by omega)
        have hks := ks e (List.mem_of_getElem? he)
        have htk := map_takeF (f := Mk.enc) (hmg i e he)
        have e4 : IntKind.i64.wrap (i0 + 1 + (T.sizes (es.take i) : Nat) + (T.size e : Nat)) = i0 + 1 + (T.sizes (es.take (i + 1)) : Nat) := by rw [wrap_id (by omega) (by omega)]; omega
        have e3 := wrap_succ (k := i) hlt (by omega)
        have hge : decide (((i : Nat) : Int) ≥ ((ME.length : Nat) : Int)) = false := by simp; omega
        obtain ⟨ea, eb, ec, ed, hee⟩ := enc_ex e
        have hpp : ∃ a b c d f h, Mk.enc (Mk.mark e (i0 + 1 + (T.sizes (es.take i) : Nat))) = [.int .i64 a, .int .i64 b, .int .i64 c, .int .i64 d, .bool f, .sl false h] := by cases e; exact ⟨_, _, _, _, _, _, rfl⟩
        obtain ⟨pa, pb, pc, pd, pe, pf, hpp⟩ := hpp
        rw [hee] at hg hce hks
        rw [hpp] at hce htk
        have hps' := hps (ML.take i)
        have hpn := hpt (ML.take (i + 1))
        have hvv : i = if ((ML.take i).map Mk.enc) = [] then 0 else i - 1 + 1 := by
          by_cases h0 : ((ML.take i).map Mk.enc) = []
          · rw [if_pos h0]; rw [h0] at hal; simpa using hal.symm
          · rw [if_neg h0]
            have : i ≠ 0 := fun hz => h0 (by rw [hz]; rfl)
            omega
        repeat' (first | with_reducible (first | refine u'1 fun _ _ => ?_ | refine u'2 ?_ | (first | refine u'3 ?_ | refine u'4 ?_ | refine u'5 fun _ _ _ _ => ?_ | refine u'6 (fun hg => ?_) (fun hg => ?_) <;> try simp only [hg]) <;> simp only [wS, simprocAttr, hg, hltE, hlt, hge, ↓heads_rv1, ↓toCells_rv1] | (first | refine u's ?_ | refine u'e ?_ | refine u'r ?_) <;> try simp only [wE, simprocAttr] | refine u'8 ?_ | refine u'9 ?_))
        refine callR_tree hG0 hce ?_
        simp only [wS, simprocAttr, ↓heads_rv1, ↓toCells_rv1]
        refine eff_rvs (v' := i) (es := [[.int .i64 pa, .int .i64 pb, .int .i64 pc, .int .i64 pd, .bool pe, .sl false pf]]) (by' := 64) (by kernel_rfl) (by (simp only [wS, simprocAttr]; try exact rfl)) hvv hps' (by simp [srcA]) (by simp) (by rw [hal]; simp only [List.length_singleton]; omega) ?_
        simp only [wS, simprocAttr, ↓heads_rv1, ↓toCells_rv1]
        try refine ⟨by kernel_rfl, ?_⟩
        repeat' (first | with_reducible (first | refine u'1 fun _ _ => ?_ | refine u'2 ?_ | (first | refine u'3 ?_ | refine u'4 ?_ | refine u'5 fun _ _ _ _ => ?_ | refine u'6 (fun hg => ?_) (fun hg => ?_) <;> try simp only [hg]) <;> simp only [wS, simprocAttr, hg, hltE, hlt, ↓heads_rv1, ↓toCells_rv1] | (first | refine u's ?_ | refine u'e ?_ | refine u'r ?_) <;> try simp only [wE, simprocAttr] | refine u'8 ?_ | refine u'9 ?_))
        refine callR_tree hG0 hks ?_
        simp only [wS, simprocAttr, e4, ↓heads_rv1, ↓toCells_rv1]
        repeat' (first | with_reducible (first | refine u'1 fun _ _ => ?_ | refine u'2 ?_ | (first | refine u'3 ?_ | refine u'4 ?_ | refine u'5 fun _ _ _ _ => ?_ | refine u'6 (fun hg => ?_) (fun hg => ?_) <;> try simp only [hg]) <;> simp only [wS, simprocAttr, e3, e4, ↓heads_rv1, ↓toCells_rv1] | (first | refine u's ?_ | refine u'e ?_ | refine u'r ?_) <;> try simp only [wE, simprocAttr] | refine u'8 ?_ | refine u'9 ?_))
        refine hK3.go ⟨i + 1, hlt⟩ (Weak.ref ⟨?_, .inr ⟨Nat.zero_le _, ?_, fun g cs hg => inL_no (hG0 g cs hg), ?_, ?_⟩⟩) (by simp only; omega)
        · simp only [wS, simprocAttr]; try exact rfl
        · simp only [wS, simprocAttr, Nat.add_sub_cancel, htk]; try exact rfl
        · intro z hz
          simp only [List.mem_cons, List.not_mem_nil, or_false] at hz
          rcases hz with rfl | rfl | rfl | rfl | rfl <;> rfl
        · simp only [List.all_cons, List.all_nil, Bool.and_true, Bool.and_eq_true]
          exact ⟨by simp only [rowIn, inL, inR, inE_no hte, Bool.and_self], rfl, by simp only [rowIn, inL, inR, Bool.true_and, Bool.and_true]; exact inR_rv rfl, rowIn_rv (inE_no (hpt _))⟩
      · have hge : i = es.length := by simp [hln] at h; omega
        subst hge
        have hta : ML.take es.length = ML := List.take_of_length_le (by omega)
        rw [hta] at hal
        repeat' (first | with_reducible (first | refine u'1 fun _ _ => ?_ | refine u'2 ?_ | (first | refine u'3 ?_ | refine u'4 ?_ | refine u'5 fun _ _ _ _ => ?_ | refine u'6 (fun hg => ?_) (fun hg => ?_) <;> try simp only [hg]) <;> simp only [wS, simprocAttr, hta] | (first | refine u's ?_ | refine u'e ?_ | refine u'r ?_) <;> try simp only [wE, simprocAttr] | refine u'9 ?_))
        refine Cont.go (by assumption) (awp_ref (ref_to [3] (kp [0, 1, 2]) (l := [(2, .ptr 0 0 0), (4, .ptr 1 0 0), (5, .ptr 2 0 0)]) (h := [.cells 0 [.int .i64 k, .int .i64 n, .int .i64 m, .sl false ME], .cells 0 [.int .i64 0, .int .i64 0, .int .i64 0, .int .i64 0, .bool false, .sl true []], .cells 0 [.int .i64 k, .int .i64 n, .int .i64 m, .int .i64 i0, .bool false, .sl false (ML.map Mk.enc)]]) hG0 (fun r hr => absurd hr (Nat.not_lt_zero r)) ?_ ?_ ?_) ?_)
        · simp only [wS, simprocAttr, FrzF, Frz, and_true, true_or]
        · rfl
        · simp only [wS, simprocAttr, hta]
          simp only [ToH, and_true]
          exact ⟨.inr ⟨rfl, by simp only [rowIn, inL, inR, inE_no hte, Bool.and_self], .inr ⟨.inl (by simp), .inl rfl⟩⟩, .inr ⟨rfl, rfl, .inr ⟨.inl (by simp), .inl rfl⟩⟩, .inr ⟨rfl, by simp only [rowIn, inL, inR, Bool.true_and, Bool.and_true]; exact inE_no (hpt ML), .inr ⟨.inl (by simp), .inr ⟨0, _, _, rfl, rfl, .inl rfl, .inl rfl, .inl rfl, .inl rfl, .inl rfl, .inr (lend_rv (v := es.length - 1) rfl (by simp) (hps ML) (hpt ML)), trivial⟩⟩⟩, rfl⟩
        repeat' (first | with_reducible (first | refine u'1 fun _ _ => ?_ | refine u'2 ?_ | (first | refine u'3 ?_ | refine u'4 ?_ | refine u'5 fun _ _ _ _ => ?_ | refine u'6 (fun hg => ?_) (fun hg => ?_) <;> try simp only [hg]) <;> simp only [wS, simprocAttr] | (first | refine u's ?_ | refine u'e ?_ | refine u'r ?_) <;> try simp only [wE, simprocAttr] | refine u'8 ?_ | refine u'9 ?_))
        exact body_retC (v := .agg [.int .i64 k, .int .i64 n, .int .i64 m, .int .i64 i0, .bool false, .sl false (ML.map Mk.enc)]) rfl (by simp only [wS, simprocAttr]; try exact rfl) (by rw [AM.wk, hwk])
end Go.Proofs.YtiobgkecpekhgaaDoor
