import Derived.Test.YtiobgkecpekhgaaDoorFE
import Derived.Test.YtiobgkecpekhgaaDoorHB
import Derived.Test.YtiobgkecpekhgaaDoorHA
import Derived.Test.YtiobgkecpekhgaaDoorHC
set_option linter.unusedVariables false
set_option linter.unusedSimpArgs false
namespace Go.Proofs.YtiobgkecpekhgaaDoor
open Go.AM
attribute [local irreducible] AWp rgnS callR callV effR valR guardR stepR nextR
set_option maxRecDepth 100000
set_option maxHeartbeats 8000000 in
theorem ref_fold : ∀ (N : Nat) (t : T) (i0 : Int), T.size t ≤ N → N ≤ 100000000000 → Pure Tryd.prog G0 28 [.agg (Mk.enc (Mk.mark t i0))] (.agg (Mk.enc (Mk.fold oC oV (Mk.mark t i0)))) := by
  intro N
  induction N with
  | zero => intro t _ h; have := T.size_pos t; omega
  | succ N ih =>
    intro t i0 ht hN
    obtain ⟨k, n, m, es⟩ := t
    have hls := T.len_sizes es
    simp only [T.size] at ht
    have hmg := fun (j : Nat) (e : T) => Mk.marks_get (es := es) (i := i0 + 1) (j := j) (e := e)
    have hml := Mk.marks_len es (i0 + 1)
    have hsz := Mk.sizes_marks es (i0 + 1)
    have htr := Mk.enc_tree (Mk.mark (.mk k n m es) i0)
    rw [Mk.mark, Mk.fold, Mk.folds_map]
    rw [Mk.mark] at htr
    obtain ⟨ms, hms⟩ : ∃ x, x = Mk.marks es (i0 + 1) := ⟨_, rfl⟩
    rw [← hms] at hmg hml htr hsz ⊢
    have hkl : (ms.map (Mk.fold oC oV)).length = ms.length := List.length_map ..
    have hkg : ∀ (j : Nat) (e : Mk), ms[j]? = some e → (ms.map (Mk.fold oC oV))[j]? = some (Mk.fold oC oV e) := fun j e h => by rw [List.getElem?_map, h]; rfl
    have hks : Mk.sizes (ms.map (Mk.fold oC oV)) ≤ 100000000000 := by
      have h1 : ∀ l : List Mk, (∀ e ∈ l, Mk.size (Mk.fold oC oV e) ≤ Mk.size e) → Mk.sizes (l.map (Mk.fold oC oV)) ≤ Mk.sizes l := by
        intro l
        induction l with
        | nil => intro _; simp [Mk.sizes]
        | cons x l ihl =>
          intro hx
          have := hx x (by simp)
          have := ihl fun e he => hx e (by simp [he])
          simp only [List.map_cons, Mk.sizes]; omega
      have := h1 ms fun e he => by
        obtain ⟨j, hj⟩ := List.getElem?_of_mem he
        have hj2 : j < es.length := by rw [← hml]; exact (List.getElem?_eq_some_iff.1 hj).1
        have := hmg j es[j] (List.getElem?_eq_getElem hj2)
        rw [this] at hj
        injection hj with hj
        subst hj
        rw [← Mk.size_plain, Mk.plain_fold, Mk.size_mark]
        exact T.size_fold _ _ _
      omega
    obtain ⟨ks, hks0⟩ : ∃ x, x = ms.map (Mk.fold oC oV) := ⟨_, rfl⟩
    rw [← hks0] at hkl hkg hks ⊢
    have hih : ∀ (j : Nat) (e : Mk), ms[j]? = some e → Pure Tryd.prog G0 28 [.agg (Mk.enc e)] (.agg (Mk.enc (Mk.fold oC oV e))) := fun j e h => by
      have hj : j < es.length := by rw [← hml]; exact (List.getElem?_eq_some_iff.1 h).1
      have h2 := hmg j es[j] (List.getElem?_eq_getElem hj)
      rw [h2] at h
      injection h with h
      subst h
      exact ih _ _ (by have := T.size_mem (List.getElem_mem hj); omega) (by omega)
    have hto := Mk.enc_tree (Mk.top oC oV k n m i0 ks)
    refine pure_of_bodyW hG0 Tryd.func28 rfl (by kernel_rfl) (by simp [Tryd.ntmps28]) (by simp only [inL, inR, htr, Bool.and_self]) (by simpa only [inR] using hto) ?_
    simp only [Tryd.ntmps28, enterF, Nat.reduceAdd, Mk.enc]
    have hgt := fun (i : Nat) (e : Mk) => Mk.encs_get (es := ms) (i := i) (e := e)
    have hln := Mk.encs_len ms
    have hte := Mk.encs_tree ms
    generalize Mk.encs ms = ME at hgt hln hte
    repeat' (first | with_reducible (first | refine u'1 fun _ _ => ?_ | refine u'2 ?_ | (first | refine u'3 ?_ | refine u'4 ?_ | refine u'5 fun _ _ _ _ => ?_ | refine u'6 (fun hg => ?_) (fun hg => ?_) <;> try simp only [hg]) <;> simp only [wS, simprocAttr] | (first | refine u's ?_ | refine u'e ?_ | refine u'r ?_) <;> try simp only [wE, simprocAttr] | refine u'8 ?_ | refine u'9 ?_))
    refine awp_loop_r (α := {i : Nat // i ≤ ms.length}) (fun i => [(1, .ptr 0 0 0), (2, .ptr 1 0 0), (3, rv 2 (i.1 - 1) 6 (Mk.encs (ks.take i.1))), (4, .int .i64 (i.1 : Nat))]) (fun i => [.cells 0 [.int .i64 k, .int .i64 n, .int .i64 m, .int .i64 i0, .bool false, .sl false ME], .cells 0 [AV.int .i64 0, AV.int .i64 0, AV.int .i64 0, AV.int .i64 0, AV.bool false, AV.sl true []], rvR (i.1 - 1) (Mk.encs (ks.take i.1))]) (fun i => ms.length - i.1) ⟨0, Nat.zero_le _⟩ (ref_to [] (kp [0, 1, 2]) hG0 (by simp) ?_ ?_ ?_) ?_
    · simp only [wS, simprocAttr, FrzF, Frz, List.take_zero, Mk.encs, rv_nil, true_or, and_true]
      exact .toRsv
    · rfl
    · simp only [wS, simprocAttr, List.take_zero, Mk.encs, rvR_nil]; simp only [ToH, and_true]
      exact ⟨.inr ⟨rfl, by simp only [rowIn, inL, inR, inE_no hte, Bool.and_self], .inr ⟨.inl (by simp), .inl rfl⟩⟩, .inr ⟨rfl, rfl, .inr ⟨.inl (by simp), .inl rfl⟩⟩⟩
    · rintro ⟨i, hi⟩ K3 hK3
      try simp only at hi
      have hal : (Mk.encs (ks.take i)).length = i := by rw [Mk.encs_len, List.length_take, hkl]; omega
      repeat' (first | with_reducible (first | refine u'1 fun _ _ => ?_ | refine u'2 ?_ | (first | refine u'3 ?_ | refine u'4 ?_ | refine u'5 fun _ _ _ _ => ?_ | refine u'6 (fun hg => ?_) (fun hg => ?_) <;> try simp only [hg]) <;> simp only [wS, simprocAttr] | (first | refine u's ?_ | refine u'e ?_ | refine u'r ?_) <;> try simp only [wE, simprocAttr] | refine u'8 ?_ | refine u'9 ?_))
      refine ⟨fun h => ?_, fun h => ?_⟩
      · have hlt : i < ms.length := by simpa [hln] using h
        have hltE : i < ME.length := by omega
        obtain ⟨e, he⟩ : ∃ e, ms[i]? = some e := ⟨_, List.getElem?_eq_getElem hlt⟩
        have hg := hgt i e he
        have hce := hih i e he
        have e3 := wrap_succ (k := i) hlt (by omega)
        have htk : Mk.encs (ks.take (i + 1)) = Mk.encs (ks.take i) ++ [Mk.enc (Mk.fold oC oV e)] := by
          rw [List.take_add_one, hkg i e he, encs_app]; rfl
        have hvv : i = if Mk.encs (ks.take i) = [] then 0 else i - 1 + 1 := by
          by_cases h0 : Mk.encs (ks.take i) = []
          · rw [if_pos h0]; rw [h0] at hal; simpa using hal.symm
          · rw [if_neg h0]
            have : i ≠ 0 := fun hz => h0 (by rw [hz]; rfl)
            omega
        have hps := encs_sz (ks.take i)
        rw [enc_mk e] at hg hce
        have hpp : ∃ a b c d f h, Mk.enc (Mk.fold oC oV e) = [.int .i64 a, .int .i64 b, .int .i64 c, .int .i64 d, .bool f, .sl false h] := by rw [enc_mk (Mk.fold oC oV e)]; exact ⟨_, _, _, _, _, _, rfl⟩
        obtain ⟨pa, pb, pc, pd, pe, pf, hpp⟩ := hpp
        rw [hpp] at hce htk
        repeat' (first | with_reducible (first | refine u'1 fun _ _ => ?_ | refine u'2 ?_ | (first | refine u'3 ?_ | refine u'4 ?_ | refine u'5 fun _ _ _ _ => ?_ | refine u'6 (fun hg => ?_) (fun hg => ?_) <;> try simp only [hg]) <;> simp only [wS, simprocAttr, hg, hltE, hlt] | (first | refine u's ?_ | refine u'e ?_ | refine u'r ?_) <;> try simp only [wE, simprocAttr] | refine u'8 ?_ | refine u'9 ?_))
        refine callR_tree hG0 hce ?_
        simp only [wS, simprocAttr]
        refine eff_rvs (v' := i) (es := [[.int .i64 pa, .int .i64 pb, .int .i64 pc, .int .i64 pd, .bool pe, .sl false pf]]) (by' := 64) (by kernel_rfl) (by (simp only [wS, simprocAttr]; try exact rfl)) hvv hps (by simp [srcA]) (by simp) (by rw [hal]; simp only [List.length_singleton]; omega) ?_
        rw [← htk]
        simp only [wS, simprocAttr]
        repeat' (first | with_reducible (first | refine u'1 fun _ _ => ?_ | refine u'2 ?_ | (first | refine u'3 ?_ | refine u'4 ?_ | refine u'5 fun _ _ _ _ => ?_ | refine u'6 (fun hg => ?_) (fun hg => ?_) <;> try simp only [hg]) <;> simp only [wS, simprocAttr, e3] | (first | refine u's ?_ | refine u'e ?_ | refine u'r ?_) <;> try simp only [wE, simprocAttr] | refine u'8 ?_ | refine u'9 ?_))
        refine hK3.go ⟨i + 1, hlt⟩ (Weak.ref ⟨?_, .inr ⟨Nat.zero_le _, ?_, fun g cs hg => inL_no (hG0 g cs hg), ?_, ?_⟩⟩) (by simp only; omega)
        · simp only [wS, simprocAttr, Nat.add_sub_cancel]; try exact rfl
        · simp only [wS, simprocAttr, Nat.add_sub_cancel]; try exact rfl
        · simp only [List.mem_cons, List.not_mem_nil, or_false, forall_eq_or_imp, forall_eq, inR]
          exact ⟨rfl, rfl, inR_rv rfl, trivial⟩
        · simp only [List.all_cons, List.all_nil, Bool.and_true, Bool.and_eq_true]
          exact ⟨by simp only [rowIn, inL, inR, inE_no hte, Bool.and_self], rfl, rowIn_rv (inE_no (Mk.encs_tree _))⟩
      · have hge : i = ms.length := by simp [hln] at h; omega
        have hta : ks.take i = ks := List.take_of_length_le (by omega)
        rw [hta] at hal
        repeat' (first | with_reducible (first | refine u'1 fun _ _ => ?_ | refine u'2 ?_ | (first | refine u'3 ?_ | refine u'4 ?_ | refine u'5 fun _ _ _ _ => ?_ | refine u'6 (fun hg => ?_) (fun hg => ?_) <;> try simp only [hg]) <;> simp only [wS, simprocAttr, hta] | (first | refine u's ?_ | refine u'e ?_ | refine u'r ?_) <;> try simp only [wE, simprocAttr] | refine u'9 ?_))
        refine Cont.go (by assumption) (awp_ref (ref_to [2] (kp [0, 1]) (l := [(1, .ptr 0 0 0), (2, .ptr 1 0 0), (3, .sl false (Mk.encs ks))]) (h := [.cells 0 [.int .i64 k, .int .i64 n, .int .i64 m, .int .i64 i0, .bool false, .sl false ME], .cells 0 [AV.int .i64 0, AV.int .i64 0, AV.int .i64 0, AV.int .i64 0, AV.bool false, AV.sl true []]]) hG0 (fun r hr => absurd hr (Nat.not_lt_zero r)) ?_ ?_ ?_) ?_)
        · simp only [wS, simprocAttr, hta, FrzF, Frz, true_and, and_true, true_or]
          exact .inr (lend_rv (v := i - 1) rfl (by simp) (encs_sz ks) (Mk.encs_tree ks))
        · simp only [List.all_cons, List.all_nil, Bool.and_true, Bool.and_eq_true, inR]
          exact ⟨rfl, rfl, inE_no (Mk.encs_tree ks)⟩
        · simp only [wS, simprocAttr]
          simp only [ToH]
          refine ⟨.inr ⟨rfl, by simp only [rowIn, inL, inR, inE_no hte, Bool.and_self], .inr ⟨.inl (by simp), .inl rfl⟩⟩, .inr ⟨rfl, rfl, .inr ⟨.inl (by simp), .inl rfl⟩⟩, rfl, trivial⟩
        clear hK3 hge hal
        obtain ⟨bo, hop, hbo⟩ := ref_op n m i0 ks
        rw [enc_mk (Mk.op oC oV n m i0 ks)] at hop
        have hfl := ref_block false ks (by omega)
        have hk : k = 9 ∨ k = 10 ∨ k = 17 ∨ k = 18 ∨ k = 13 ∨ (k ≠ 9 ∧ k ≠ 10 ∧ k ≠ 17 ∧ k ≠ 18 ∧ k ≠ 13) := by omega
        clear hih hkg hmg hgt hks0 hms hml hsz hkl hto htr ih hte hln hi hta
        have e9 : True := trivial
        have e10 : True := trivial
        have e17 : True := trivial
        have e18 : True := trivial
        have e13 : True := trivial
        have hp : True := trivial
        have hL : True := trivial
        have hv1 : True := trivial
        have w0 : IntKind.i64.wrap 0 = 0 := by kernel_rfl
        have w1 : IntKind.i64.wrap 1 = 1 := by kernel_rfl
        have w2 : IntKind.i64.wrap 2 = 2 := by kernel_rfl
        cases ks with
        | nil =>
          simp only [Mk.encs] at hop hfl ⊢
          rcases hk with rfl | rfl | rfl | rfl | rfl | hk
          rotate_left 5
          have e9 : (k == 9) = false := by simp; omega
          have e10 : (k == 10) = false := by simp; omega
          have e17 : (k == 17) = false := by simp; omega
          have e18 : (k == 18) = false := by simp; omega
          have e13 : (k == 13) = false := by simp; omega
          all_goals
            repeat' (first | with_reducible (first | refine u'1 fun _ _ => ?_ | refine u'2 ?_ | (first | refine u'3 ?_ | refine u'4 ?_ | refine u'5 fun _ _ _ _ => ?_ | refine u'6 (fun hg => ?_) (fun hg => ?_) <;> try simp only [hg]) <;> simp only [wS, simprocAttr, e9, e10, e17, e18, e13, hp, hL, hv1, w0, w1, w2] | (first | refine u's ?_ | refine u'e ?_ | refine u'r ?_) <;> try simp only [wE, simprocAttr] | refine u'8 ?_ | refine u'9 ?_) | (refine callR_tree hG0 (hop) ?_; simp only [wS, simprocAttr, e9, e10, e17, e18, e13, hp, hL, hv1, w0, w1, w2]) | (refine callR_tree hG0 (hfl) ?_; simp only [wS, simprocAttr, e9, e10, e17, e18, e13, hp, hL, hv1, w0, w1, w2]) | (refine callR_tree hG0 (hca) ?_; simp only [wS, simprocAttr, e9, e10, e17, e18, e13, hp, hL, hv1, w0, w1, w2]) | with_reducible refine And.intro (fun _ => ?_) (fun _ => ?_) | with_reducible refine And.intro (by kernel_rfl) ?_)
            all_goals (refine body_retC rfl (by simp only [wS, simprocAttr]; exact rfl) ?_; simp_all [Mk.top, Mk.enc, Mk.encs, enc_mk, Mk.known, Mk.hd, Mk.num, Mk.kind, Mk.low, Mk.gone, Mk.kids, wkL, AM.wk, wkE, wkE_eq, Mk.wk_encs]; done)
        | cons a r =>
          cases hc : Mk.cst 5 a with
          | false =>
            have hca := ref_const 5 (.inr rfl) a
            rw [hc] at hca
            have hp : decide ((((Mk.encs r).length + 1 : Nat) : Int) > 0) = true := by first | (simp; done) | (simp; omega)
            simp only [Mk.encs, Mk.enc] at hop hfl ⊢
            rw [enc_mk a] at hop hfl hca ⊢
            rcases hk with rfl | rfl | rfl | rfl | rfl | hk
            rotate_left 5
            have e9 : (k == 9) = false := by simp; omega
            have e10 : (k == 10) = false := by simp; omega
            have e17 : (k == 17) = false := by simp; omega
            have e18 : (k == 18) = false := by simp; omega
            have e13 : (k == 13) = false := by simp; omega
            all_goals
              repeat' (first | with_reducible (first | refine u'1 fun _ _ => ?_ | refine u'2 ?_ | (first | refine u'3 ?_ | refine u'4 ?_ | refine u'5 fun _ _ _ _ => ?_ | refine u'6 (fun hg => ?_) (fun hg => ?_) <;> try simp only [hg]) <;> simp only [wS, simprocAttr, e9, e10, e17, e18, e13, hp, hL, hv1, w0, w1, w2] | (first | refine u's ?_ | refine u'e ?_ | refine u'r ?_) <;> try simp only [wE, simprocAttr] | refine u'8 ?_ | refine u'9 ?_) | (refine callR_tree hG0 (hop) ?_; simp only [wS, simprocAttr, e9, e10, e17, e18, e13, hp, hL, hv1, w0, w1, w2]) | (refine callR_tree hG0 (hfl) ?_; simp only [wS, simprocAttr, e9, e10, e17, e18, e13, hp, hL, hv1, w0, w1, w2]) | (refine callR_tree hG0 (hca) ?_; simp only [wS, simprocAttr, e9, e10, e17, e18, e13, hp, hL, hv1, w0, w1, w2]) | with_reducible refine And.intro (fun _ => ?_) (fun _ => ?_) | with_reducible refine And.intro (by kernel_rfl) ?_)
              all_goals (refine body_retC rfl (by simp only [wS, simprocAttr]; exact rfl) ?_; simp_all [Mk.top, Mk.enc, Mk.encs, enc_mk, Mk.known, Mk.hd, Mk.num, Mk.kind, Mk.low, Mk.gone, Mk.kids, wkL, AM.wk, wkE, wkE_eq, Mk.wk_encs]; done)
          | true =>
            obtain ⟨v, ia, ga, hv, rfl⟩ := cst5 hc
            have hca := ref_const 5 (.inr rfl) (.mk 5 v 0 ia ga [])
            rw [hc] at hca
            have hp : decide ((((Mk.encs r).length + 1 : Nat) : Int) > 0) = true := by first | (simp; done) | (simp; omega)
            simp only [Mk.encs, Mk.enc] at hop hfl hca ⊢
            rcases hv with rfl | rfl
            all_goals
              rcases hk with rfl | rfl | rfl | rfl | rfl | hk
              · repeat' (first | with_reducible (first | refine u'1 fun _ _ => ?_ | refine u'2 ?_ | (first | refine u'3 ?_ | refine u'4 ?_ | refine u'5 fun _ _ _ _ => ?_ | refine u'6 (fun hg => ?_) (fun hg => ?_) <;> try simp only [hg]) <;> simp only [wS, simprocAttr, e9, e10, e17, e18, e13, hp, hL, hv1, w0, w1, w2] | (first | refine u's ?_ | refine u'e ?_ | refine u'r ?_) <;> try simp only [wE, simprocAttr] | refine u'8 ?_ | refine u'9 ?_) | (refine callR_tree hG0 (hop) ?_; simp only [wS, simprocAttr, e9, e10, e17, e18, e13, hp, hL, hv1, w0, w1, w2]) | (refine callR_tree hG0 (hfl) ?_; simp only [wS, simprocAttr, e9, e10, e17, e18, e13, hp, hL, hv1, w0, w1, w2]) | (refine callR_tree hG0 (hca) ?_; simp only [wS, simprocAttr, e9, e10, e17, e18, e13, hp, hL, hv1, w0, w1, w2]) | with_reducible refine And.intro (fun _ => ?_) (fun _ => ?_) | with_reducible refine And.intro (by kernel_rfl) ?_)
                all_goals (refine body_retC rfl (by simp only [wS, simprocAttr]; exact rfl) ?_; simp_all [Mk.top, Mk.enc, Mk.encs, enc_mk, Mk.known, Mk.hd, Mk.num, Mk.kind, Mk.low, Mk.gone, Mk.kids, wkL, AM.wk, wkE, wkE_eq, Mk.wk_encs]; done)
              · cases r with
                | nil =>
                  simp only [Mk.encs] at hop hfl ⊢
                  repeat' (first | with_reducible (first | refine u'1 fun _ _ => ?_ | refine u'2 ?_ | (first | refine u'3 ?_ | refine u'4 ?_ | refine u'5 fun _ _ _ _ => ?_ | refine u'6 (fun hg => ?_) (fun hg => ?_) <;> try simp only [hg]) <;> simp only [wS, simprocAttr, e9, e10, e17, e18, e13, hp, hL, hv1, w0, w1, w2] | (first | refine u's ?_ | refine u'e ?_ | refine u'r ?_) <;> try simp only [wE, simprocAttr] | refine u'8 ?_ | refine u'9 ?_) | (refine callR_tree hG0 (hop) ?_; simp only [wS, simprocAttr, e9, e10, e17, e18, e13, hp, hL, hv1, w0, w1, w2]) | (refine callR_tree hG0 (hfl) ?_; simp only [wS, simprocAttr, e9, e10, e17, e18, e13, hp, hL, hv1, w0, w1, w2]) | (refine callR_tree hG0 (hca) ?_; simp only [wS, simprocAttr, e9, e10, e17, e18, e13, hp, hL, hv1, w0, w1, w2]) | with_reducible refine And.intro (fun _ => ?_) (fun _ => ?_) | with_reducible refine And.intro (by kernel_rfl) ?_)
                  all_goals (refine body_retC rfl (by simp only [wS, simprocAttr]; exact rfl) ?_; simp_all [Mk.top, Mk.enc, Mk.encs, enc_mk, Mk.known, Mk.hd, Mk.num, Mk.kind, Mk.low, Mk.gone, Mk.kids, wkL, AM.wk, wkE, wkE_eq, Mk.wk_encs]; done)
                | cons b q =>
                  have hL : ((((Mk.encs q).length + 1 + 1 : Nat) : Int) == 1) = false := by first | (simp; done) | (simp; omega)
                  simp only [Mk.encs] at hop hfl ⊢
                  rw [enc_mk b] at hop hfl ⊢
                  repeat' (first | with_reducible (first | refine u'1 fun _ _ => ?_ | refine u'2 ?_ | (first | refine u'3 ?_ | refine u'4 ?_ | refine u'5 fun _ _ _ _ => ?_ | refine u'6 (fun hg => ?_) (fun hg => ?_) <;> try simp only [hg]) <;> simp only [wS, simprocAttr, e9, e10, e17, e18, e13, hp, hL, hv1, w0, w1, w2] | (first | refine u's ?_ | refine u'e ?_ | refine u'r ?_) <;> try simp only [wE, simprocAttr] | refine u'8 ?_ | refine u'9 ?_) | (refine callR_tree hG0 (hop) ?_; simp only [wS, simprocAttr, e9, e10, e17, e18, e13, hp, hL, hv1, w0, w1, w2]) | (refine callR_tree hG0 (hfl) ?_; simp only [wS, simprocAttr, e9, e10, e17, e18, e13, hp, hL, hv1, w0, w1, w2]) | (refine callR_tree hG0 (hca) ?_; simp only [wS, simprocAttr, e9, e10, e17, e18, e13, hp, hL, hv1, w0, w1, w2]) | with_reducible refine And.intro (fun _ => ?_) (fun _ => ?_) | with_reducible refine And.intro (by kernel_rfl) ?_)
                  all_goals (refine body_retC rfl (by simp only [wS, simprocAttr]; exact rfl) ?_; simp_all [Mk.top, Mk.enc, Mk.encs, enc_mk, Mk.known, Mk.hd, Mk.num, Mk.kind, Mk.low, Mk.gone, Mk.kids, wkL, AM.wk, wkE, wkE_eq, Mk.wk_encs]; done)
              · cases r with
                | nil =>
                  simp only [Mk.encs] at hop hfl ⊢
                  repeat' (first | with_reducible (first | refine u'1 fun _ _ => ?_ | refine u'2 ?_ | (first | refine u'3 ?_ | refine u'4 ?_ | refine u'5 fun _ _ _ _ => ?_ | refine u'6 (fun hg => ?_) (fun hg => ?_) <;> try simp only [hg]) <;> simp only [wS, simprocAttr, e9, e10, e17, e18, e13, hp, hL, hv1, w0, w1, w2] | (first | refine u's ?_ | refine u'e ?_ | refine u'r ?_) <;> try simp only [wE, simprocAttr] | refine u'8 ?_ | refine u'9 ?_) | (refine callR_tree hG0 (hop) ?_; simp only [wS, simprocAttr, e9, e10, e17, e18, e13, hp, hL, hv1, w0, w1, w2]) | (refine callR_tree hG0 (hfl) ?_; simp only [wS, simprocAttr, e9, e10, e17, e18, e13, hp, hL, hv1, w0, w1, w2]) | (refine callR_tree hG0 (hca) ?_; simp only [wS, simprocAttr, e9, e10, e17, e18, e13, hp, hL, hv1, w0, w1, w2]) | with_reducible refine And.intro (fun _ => ?_) (fun _ => ?_) | with_reducible refine And.intro (by kernel_rfl) ?_)
                  all_goals (refine body_retC rfl (by simp only [wS, simprocAttr]; exact rfl) ?_; simp_all [Mk.top, Mk.enc, Mk.encs, enc_mk, Mk.known, Mk.hd, Mk.num, Mk.kind, Mk.low, Mk.gone, Mk.kids, wkL, AM.wk, wkE, wkE_eq, Mk.wk_encs]; done)
                | cons b q =>
                  rw [Mk.encs, enc_mk b] at hop hfl ⊢
                  cases q with
                  | nil =>
                    simp only [Mk.encs] at hop hfl ⊢
                    repeat' (first | with_reducible (first | refine u'1 fun _ _ => ?_ | refine u'2 ?_ | (first | refine u'3 ?_ | refine u'4 ?_ | refine u'5 fun _ _ _ _ => ?_ | refine u'6 (fun hg => ?_) (fun hg => ?_) <;> try simp only [hg]) <;> simp only [wS, simprocAttr, e9, e10, e17, e18, e13, hp, hL, hv1, w0, w1, w2] | (first | refine u's ?_ | refine u'e ?_ | refine u'r ?_) <;> try simp only [wE, simprocAttr] | refine u'8 ?_ | refine u'9 ?_) | (refine callR_tree hG0 (hop) ?_; simp only [wS, simprocAttr, e9, e10, e17, e18, e13, hp, hL, hv1, w0, w1, w2]) | (refine callR_tree hG0 (hfl) ?_; simp only [wS, simprocAttr, e9, e10, e17, e18, e13, hp, hL, hv1, w0, w1, w2]) | (refine callR_tree hG0 (hca) ?_; simp only [wS, simprocAttr, e9, e10, e17, e18, e13, hp, hL, hv1, w0, w1, w2]) | with_reducible refine And.intro (fun _ => ?_) (fun _ => ?_) | with_reducible refine And.intro (by kernel_rfl) ?_)
                    all_goals (refine body_retC rfl (by simp only [wS, simprocAttr]; exact rfl) ?_; simp_all [Mk.top, Mk.enc, Mk.encs, enc_mk, Mk.known, Mk.hd, Mk.num, Mk.kind, Mk.low, Mk.gone, Mk.kids, wkL, AM.wk, wkE, wkE_eq, Mk.wk_encs]; done)
                  | cons c q =>
                    rw [Mk.encs, enc_mk c] at hop hfl ⊢
                    cases q with
                    | nil =>
                      simp only [Mk.encs] at hop hfl ⊢
                      repeat' (first | with_reducible (first | refine u'1 fun _ _ => ?_ | refine u'2 ?_ | (first | refine u'3 ?_ | refine u'4 ?_ | refine u'5 fun _ _ _ _ => ?_ | refine u'6 (fun hg => ?_) (fun hg => ?_) <;> try simp only [hg]) <;> simp only [wS, simprocAttr, e9, e10, e17, e18, e13, hp, hL, hv1, w0, w1, w2] | (first | refine u's ?_ | refine u'e ?_ | refine u'r ?_) <;> try simp only [wE, simprocAttr] | refine u'8 ?_ | refine u'9 ?_) | (refine callR_tree hG0 (hop) ?_; simp only [wS, simprocAttr, e9, e10, e17, e18, e13, hp, hL, hv1, w0, w1, w2]) | (refine callR_tree hG0 (hfl) ?_; simp only [wS, simprocAttr, e9, e10, e17, e18, e13, hp, hL, hv1, w0, w1, w2]) | (refine callR_tree hG0 (hca) ?_; simp only [wS, simprocAttr, e9, e10, e17, e18, e13, hp, hL, hv1, w0, w1, w2]) | with_reducible refine And.intro (fun _ => ?_) (fun _ => ?_) | with_reducible refine And.intro (by kernel_rfl) ?_)
                      all_goals (refine body_retC rfl (by simp only [wS, simprocAttr]; exact rfl) ?_; simp_all [Mk.top, Mk.enc, Mk.encs, enc_mk, Mk.known, Mk.hd, Mk.num, Mk.kind, Mk.low, Mk.gone, Mk.kids, wkL, AM.wk, wkE, wkE_eq, Mk.wk_encs]; done)
                    | cons d q =>
                      have hL : ((((Mk.encs q).length + 1 + 1 + 1 + 1 : Nat) : Int) == 3) = false := by first | (simp; done) | (simp; omega)
                      simp only [Mk.encs] at hop hfl ⊢
                      rw [enc_mk d] at hop hfl ⊢
                      repeat' (first | with_reducible (first | refine u'1 fun _ _ => ?_ | refine u'2 ?_ | (first | refine u'3 ?_ | refine u'4 ?_ | refine u'5 fun _ _ _ _ => ?_ | refine u'6 (fun hg => ?_) (fun hg => ?_) <;> try simp only [hg]) <;> simp only [wS, simprocAttr, e9, e10, e17, e18, e13, hp, hL, hv1, w0, w1, w2] | (first | refine u's ?_ | refine u'e ?_ | refine u'r ?_) <;> try simp only [wE, simprocAttr] | refine u'8 ?_ | refine u'9 ?_) | (refine callR_tree hG0 (hop) ?_; simp only [wS, simprocAttr, e9, e10, e17, e18, e13, hp, hL, hv1, w0, w1, w2]) | (refine callR_tree hG0 (hfl) ?_; simp only [wS, simprocAttr, e9, e10, e17, e18, e13, hp, hL, hv1, w0, w1, w2]) | (refine callR_tree hG0 (hca) ?_; simp only [wS, simprocAttr, e9, e10, e17, e18, e13, hp, hL, hv1, w0, w1, w2]) | with_reducible refine And.intro (fun _ => ?_) (fun _ => ?_) | with_reducible refine And.intro (by kernel_rfl) ?_)
                      all_goals (refine body_retC rfl (by simp only [wS, simprocAttr]; exact rfl) ?_; simp_all [Mk.top, Mk.enc, Mk.encs, enc_mk, Mk.known, Mk.hd, Mk.num, Mk.kind, Mk.low, Mk.gone, Mk.kids, wkL, AM.wk, wkE, wkE_eq, Mk.wk_encs]; done)
              · cases r with
                | nil =>
                  simp only [Mk.encs] at hop hfl ⊢
                  repeat' (first | with_reducible (first | refine u'1 fun _ _ => ?_ | refine u'2 ?_ | (first | refine u'3 ?_ | refine u'4 ?_ | refine u'5 fun _ _ _ _ => ?_ | refine u'6 (fun hg => ?_) (fun hg => ?_) <;> try simp only [hg]) <;> simp only [wS, simprocAttr, e9, e10, e17, e18, e13, hp, hL, hv1, w0, w1, w2] | (first | refine u's ?_ | refine u'e ?_ | refine u'r ?_) <;> try simp only [wE, simprocAttr] | refine u'8 ?_ | refine u'9 ?_) | (refine callR_tree hG0 (hop) ?_; simp only [wS, simprocAttr, e9, e10, e17, e18, e13, hp, hL, hv1, w0, w1, w2]) | (refine callR_tree hG0 (hfl) ?_; simp only [wS, simprocAttr, e9, e10, e17, e18, e13, hp, hL, hv1, w0, w1, w2]) | (refine callR_tree hG0 (hca) ?_; simp only [wS, simprocAttr, e9, e10, e17, e18, e13, hp, hL, hv1, w0, w1, w2]) | with_reducible refine And.intro (fun _ => ?_) (fun _ => ?_) | with_reducible refine And.intro (by kernel_rfl) ?_)
                  all_goals (refine body_retC rfl (by simp only [wS, simprocAttr]; exact rfl) ?_; simp_all [Mk.top, Mk.enc, Mk.encs, enc_mk, Mk.known, Mk.hd, Mk.num, Mk.kind, Mk.low, Mk.gone, Mk.kids, wkL, AM.wk, wkE, wkE_eq, Mk.wk_encs]; done)
                | cons b q =>
                  rw [Mk.encs, enc_mk b] at hop hfl ⊢
                  cases q with
                  | nil =>
                    simp only [Mk.encs] at hop hfl ⊢
                    repeat' (first | with_reducible (first | refine u'1 fun _ _ => ?_ | refine u'2 ?_ | (first | refine u'3 ?_ | refine u'4 ?_ | refine u'5 fun _ _ _ _ => ?_ | refine u'6 (fun hg => ?_) (fun hg => ?_) <;> try simp only [hg]) <;> simp only [wS, simprocAttr, e9, e10, e17, e18, e13, hp, hL, hv1, w0, w1, w2] | (first | refine u's ?_ | refine u'e ?_ | refine u'r ?_) <;> try simp only [wE, simprocAttr] | refine u'8 ?_ | refine u'9 ?_) | (refine callR_tree hG0 (hop) ?_; simp only [wS, simprocAttr, e9, e10, e17, e18, e13, hp, hL, hv1, w0, w1, w2]) | (refine callR_tree hG0 (hfl) ?_; simp only [wS, simprocAttr, e9, e10, e17, e18, e13, hp, hL, hv1, w0, w1, w2]) | (refine callR_tree hG0 (hca) ?_; simp only [wS, simprocAttr, e9, e10, e17, e18, e13, hp, hL, hv1, w0, w1, w2]) | with_reducible refine And.intro (fun _ => ?_) (fun _ => ?_) | with_reducible refine And.intro (by kernel_rfl) ?_)
                    all_goals (refine body_retC rfl (by simp only [wS, simprocAttr]; exact rfl) ?_; simp_all [Mk.top, Mk.enc, Mk.encs, enc_mk, Mk.known, Mk.hd, Mk.num, Mk.kind, Mk.low, Mk.gone, Mk.kids, wkL, AM.wk, wkE, wkE_eq, Mk.wk_encs]; done)
                  | cons c q =>
                    have hL : ((((Mk.encs q).length + 1 + 1 + 1 : Nat) : Int) == 2) = false := by first | (simp; done) | (simp; omega)
                    simp only [Mk.encs] at hop hfl ⊢
                    rw [enc_mk c] at hop hfl ⊢
                    repeat' (first | with_reducible (first | refine u'1 fun _ _ => ?_ | refine u'2 ?_ | (first | refine u'3 ?_ | refine u'4 ?_ | refine u'5 fun _ _ _ _ => ?_ | refine u'6 (fun hg => ?_) (fun hg => ?_) <;> try simp only [hg]) <;> simp only [wS, simprocAttr, e9, e10, e17, e18, e13, hp, hL, hv1, w0, w1, w2] | (first | refine u's ?_ | refine u'e ?_ | refine u'r ?_) <;> try simp only [wE, simprocAttr] | refine u'8 ?_ | refine u'9 ?_) | (refine callR_tree hG0 (hop) ?_; simp only [wS, simprocAttr, e9, e10, e17, e18, e13, hp, hL, hv1, w0, w1, w2]) | (refine callR_tree hG0 (hfl) ?_; simp only [wS, simprocAttr, e9, e10, e17, e18, e13, hp, hL, hv1, w0, w1, w2]) | (refine callR_tree hG0 (hca) ?_; simp only [wS, simprocAttr, e9, e10, e17, e18, e13, hp, hL, hv1, w0, w1, w2]) | with_reducible refine And.intro (fun _ => ?_) (fun _ => ?_) | with_reducible refine And.intro (by kernel_rfl) ?_)
                    all_goals (refine body_retC rfl (by simp only [wS, simprocAttr]; exact rfl) ?_; simp_all [Mk.top, Mk.enc, Mk.encs, enc_mk, Mk.known, Mk.hd, Mk.num, Mk.kind, Mk.low, Mk.gone, Mk.kids, wkL, AM.wk, wkE, wkE_eq, Mk.wk_encs]; done)
              · repeat' (first | with_reducible (first | refine u'1 fun _ _ => ?_ | refine u'2 ?_ | (first | refine u'3 ?_ | refine u'4 ?_ | refine u'5 fun _ _ _ _ => ?_ | refine u'6 (fun hg => ?_) (fun hg => ?_) <;> try simp only [hg]) <;> simp only [wS, simprocAttr, e9, e10, e17, e18, e13, hp, hL, hv1, w0, w1, w2] | (first | refine u's ?_ | refine u'e ?_ | refine u'r ?_) <;> try simp only [wE, simprocAttr] | refine u'8 ?_ | refine u'9 ?_) | (refine callR_tree hG0 (hop) ?_; simp only [wS, simprocAttr, e9, e10, e17, e18, e13, hp, hL, hv1, w0, w1, w2]) | (refine callR_tree hG0 (hfl) ?_; simp only [wS, simprocAttr, e9, e10, e17, e18, e13, hp, hL, hv1, w0, w1, w2]) | (refine callR_tree hG0 (hca) ?_; simp only [wS, simprocAttr, e9, e10, e17, e18, e13, hp, hL, hv1, w0, w1, w2]) | with_reducible refine And.intro (fun _ => ?_) (fun _ => ?_) | with_reducible refine And.intro (by kernel_rfl) ?_)
                all_goals (refine body_retC rfl (by simp only [wS, simprocAttr]; exact rfl) ?_; simp_all [Mk.top, Mk.enc, Mk.encs, enc_mk, Mk.known, Mk.hd, Mk.num, Mk.kind, Mk.low, Mk.gone, Mk.kids, wkL, AM.wk, wkE, wkE_eq, Mk.wk_encs]; done)
              · have e9 : (k == 9) = false := by simp; omega
                have e10 : (k == 10) = false := by simp; omega
                have e17 : (k == 17) = false := by simp; omega
                have e18 : (k == 18) = false := by simp; omega
                have e13 : (k == 13) = false := by simp; omega
                repeat' (first | with_reducible (first | refine u'1 fun _ _ => ?_ | refine u'2 ?_ | (first | refine u'3 ?_ | refine u'4 ?_ | refine u'5 fun _ _ _ _ => ?_ | refine u'6 (fun hg => ?_) (fun hg => ?_) <;> try simp only [hg]) <;> simp only [wS, simprocAttr, e9, e10, e17, e18, e13, hp, hL, hv1, w0, w1, w2] | (first | refine u's ?_ | refine u'e ?_ | refine u'r ?_) <;> try simp only [wE, simprocAttr] | refine u'8 ?_ | refine u'9 ?_) | (refine callR_tree hG0 (hop) ?_; simp only [wS, simprocAttr, e9, e10, e17, e18, e13, hp, hL, hv1, w0, w1, w2]) | (refine callR_tree hG0 (hfl) ?_; simp only [wS, simprocAttr, e9, e10, e17, e18, e13, hp, hL, hv1, w0, w1, w2]) | (refine callR_tree hG0 (hca) ?_; simp only [wS, simprocAttr, e9, e10, e17, e18, e13, hp, hL, hv1, w0, w1, w2]) | with_reducible refine And.intro (fun _ => ?_) (fun _ => ?_) | with_reducible refine And.intro (by kernel_rfl) ?_)
                all_goals (refine body_retC rfl (by simp only [wS, simprocAttr]; exact rfl) ?_; simp_all [Mk.top, Mk.enc, Mk.encs, enc_mk, Mk.known, Mk.hd, Mk.num, Mk.kind, Mk.low, Mk.gone, Mk.kids, wkL, AM.wk, wkE, wkE_eq, Mk.wk_encs]; done)
theorem ref_Fold (t : T) (h : T.size t ≤ 100000000000) : Pure Tryd.prog G0 14 [.agg (T.enc t)] (.agg (T.enc (T.fold oC oV t).1)) := by
  have htr := T.enc_tree t
  have hto := T.enc_tree (T.fold oC oV t).1
  have h1 := ref_mark 100000000000 t 0 h (by decide) (by decide) (by omega)
  have h2 := ref_fold 100000000000 t 0 h (by decide)
  have hz : Mk.size (Mk.fold oC oV (Mk.mark t 0)) ≤ 100000000000 := by
    rw [← Mk.size_plain, Mk.plain_fold]
    have := T.size_fold oC oV t
    omega
  have h3 := ref_plain 100000000000 _ hz (by decide)
  rw [Mk.plain_fold] at h3
  rw [enc_mk (Mk.mark t 0)] at h1 h2
  rw [enc_mk (Mk.fold oC oV (Mk.mark t 0))] at h2 h3
  obtain ⟨a, b, c, d, he⟩ := enc_ex t
  obtain ⟨a', b', c', d', he'⟩ := enc_ex (T.fold oC oV t).1
  rw [he] at h1 htr ⊢
  rw [he'] at h3 hto ⊢
  refine pure_of_body hG0 Tryd.func14 rfl (by kernel_rfl) (by simp [Tryd.ntmps14]) (by simpa only [inL, inR, Bool.and_true] using htr) (by simpa only [inR] using hto) ?_
  simp only [Tryd.ntmps14, enterF, Nat.reduceAdd]
  repeat' (first | with_reducible (first | refine u'1 fun _ _ => ?_ | refine u'2 ?_ | (first | refine u'3 ?_ | refine u'4 ?_ | refine u'5 fun _ _ _ _ => ?_ | refine u'6 (fun hg => ?_) (fun hg => ?_) <;> try simp only [hg]) <;> simp only [wS, simprocAttr] | (first | refine u's ?_ | refine u'e ?_ | refine u'r ?_) <;> try simp only [wE, simprocAttr] | refine u'8 ?_ | refine u'9 ?_) | (refine callR_tree hG0 (h1) ?_; simp only [wS, simprocAttr]) | (refine callR_tree hG0 (h2) ?_; simp only [wS, simprocAttr]) | (refine callR_tree hG0 (h3) ?_; simp only [wS, simprocAttr]) | with_reducible refine And.intro (fun _ => ?_) (fun _ => ?_) | with_reducible refine And.intro (by kernel_rfl) ?_)
  exact body_retC rfl (by simp only [wS, simprocAttr]; try exact rfl) rfl
end Go.Proofs.YtiobgkecpekhgaaDoor
