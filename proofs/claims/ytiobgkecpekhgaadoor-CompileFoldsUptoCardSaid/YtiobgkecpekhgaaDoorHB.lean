import Derived.Test.YtiobgkecpekhgaaDoorFD
set_option linter.unusedVariables false
set_option linter.unusedSimpArgs false
namespace Go.Proofs.YtiobgkecpekhgaaDoor
open Go.AM
attribute [local irreducible] AWp rgnS callR callV effR valR guardR stepR nextR
set_option maxRecDepth 100000
set_option maxHeartbeats 4000000 in
theorem ref_block (b : Bool) (ks : List Mk) (hl : Mk.sizes ks ≤ 100000000000) : Pure Tryd.prog G0 47 [.sl b (Mk.encs ks)] (.sl false (Mk.encs (Mk.flat ks))) := by
  have hgt := fun (i : Nat) (e : Mk) => Mk.encs_get (es := ks) (i := i) (e := e)
  have hln := Mk.encs_len ks
  have hte := Mk.encs_tree ks
  have hls := Mk.len_sizes ks
  generalize Mk.encs ks = ME at hgt hln hte
  refine pure_of_bodyW hG0 Tryd.func47 rfl (by kernel_rfl) (by simp [Tryd.ntmps47]) (by simp only [inL, inR, hte, Bool.and_self]) (by simp only [inR]; exact Mk.encs_tree _) ?_
  simp only [Tryd.ntmps47, enterF, Nat.reduceAdd]
  repeat' (first | with_reducible (first | refine u'1 fun _ _ => ?_ | refine u'2 ?_ | (first | refine u'3 ?_ | refine u'4 ?_ | refine u'5 fun _ _ _ _ => ?_ | refine u'6 (fun hg => ?_) (fun hg => ?_) <;> try simp only [hg]) <;> simp only [wS, simprocAttr] | (first | refine u's ?_ | refine u'e ?_ | refine u'r ?_) <;> try simp only [wE, simprocAttr] | refine u'8 ?_ | refine u'9 ?_))
  refine awp_loop_r (α := {p : Nat × Nat // p.1 ≤ ks.length}) (fun p => [(0, .sl b ME), (3, rv 0 p.1.2 6 (Mk.encs ((ks.take p.1.1).flatMap Mk.part))), (4, .int .i64 (p.1.1 : Nat))]) (fun p => [rvR p.1.2 (Mk.encs ((ks.take p.1.1).flatMap Mk.part))]) (fun p => ks.length - p.1.1) ⟨(0, 0), Nat.zero_le _⟩ (ref_to [] (kp [0]) hG0 (by simp) ?_ ?_ ?_) ?_
  · simp only [wS, simprocAttr, FrzF, Frz, List.take_zero, List.flatMap_nil, Mk.encs, rv_nil]
    exact .toRsv
  · simp only [List.all_cons, List.all_nil, Bool.and_true, Bool.and_eq_true, List.take_zero, List.flatMap_nil, Mk.encs, rv_nil, inR]
    exact inE_no hte
  · simp only [wS, simprocAttr, List.take_zero, List.flatMap_nil, Mk.encs, rvR_nil]; simp only [ToH, and_self]
  · rintro ⟨⟨i, v⟩, hi⟩ K3 hK3
    simp only at hi
    have hpl := parts_len (ks.take i)
    have hst := sizes_take_m ks i
    obtain ⟨app, happ⟩ : ∃ x, x = (ks.take i).flatMap Mk.part := ⟨_, rfl⟩
    rw [← happ] at hpl ⊢
    repeat' (first | with_reducible (first | refine u'1 fun _ _ => ?_ | refine u'2 ?_ | (first | refine u'3 ?_ | refine u'4 ?_ | refine u'5 fun _ _ _ _ => ?_ | refine u'6 (fun hg => ?_) (fun hg => ?_) <;> try simp only [hg]) <;> simp only [wS, simprocAttr] | (first | refine u's ?_ | refine u'e ?_ | refine u'r ?_) <;> try simp only [wE, simprocAttr] | refine u'8 ?_ | refine u'9 ?_))
    refine ⟨fun h => ?_, fun h => ?_⟩
    · have hlt : i < ks.length := by simpa [hln] using h
      have hltE : i < ME.length := by omega
      obtain ⟨e, he⟩ : ∃ e, ks[i]? = some e := ⟨_, List.getElem?_eq_getElem hlt⟩
      have hg := hgt i e he
      have e3 := wrap_succ (k := i) hlt (by omega)
      have hpt := parts_take he
      rw [← happ] at hpt
      have hsz := Mk.size_mem (List.mem_of_getElem? he)
      have hme := Mk.enc_tree e
      obtain ⟨k, n, m, i0, g, es⟩ := e
      have hle := Mk.len_sizes es
      simp only [Mk.size] at hsz
      simp only [Mk.enc] at hg hme
      have hal := encs_sz app
      have hel := Mk.encs_len app
      have hep := Mk.encs_len es
      repeat' (first | with_reducible (first | refine u'1 fun _ _ => ?_ | refine u'2 ?_ | (first | refine u'3 ?_ | refine u'4 ?_ | refine u'5 fun _ _ _ _ => ?_ | refine u'6 (fun hg => ?_) (fun hg => ?_) <;> try simp only [hg]) <;> simp only [wS, simprocAttr, hg, hltE, hlt] | (first | refine u's ?_ | refine u'e ?_ | refine u'r ?_) <;> try simp only [wE, simprocAttr] | refine u'8 ?_ | refine u'9 ?_))
      refine ⟨fun h2 => ?_, fun h2 => ?_⟩
      · have hk : k = 13 := by simpa using h2
        have hpe : Mk.part (.mk k n m i0 g es) = es := by rw [Mk.part]; simp [Mk.kind, Mk.kids, hk]
        rw [hpe] at hpt
        repeat' (first | with_reducible (first | refine u'1 fun _ _ => ?_ | refine u'2 ?_ | (first | refine u'3 ?_ | refine u'4 ?_ | refine u'5 fun _ _ _ _ => ?_ | refine u'6 (fun hg => ?_) (fun hg => ?_) <;> try simp only [hg]) <;> simp only [wS, simprocAttr, hg, hltE, hlt] | (first | refine u's ?_ | refine u'e ?_ | refine u'r ?_) <;> try simp only [wE, simprocAttr] | refine u'8 ?_ | refine u'9 ?_))
        refine eff_rvN (by' := 64) (es := Mk.encs es) (by kernel_rfl) (by simp only [wS, simprocAttr]) (by simp only [wS, simprocAttr]) (by simp only [wS, simprocAttr]; try simp) hal (src_sl (encs_all es)) (by rw [hel, hep]; omega) ?_
        rw [← encs_app]
        simp only [wS, simprocAttr]
        repeat' (first | with_reducible (first | refine u'1 fun _ _ => ?_ | refine u'2 ?_ | (first | refine u'3 ?_ | refine u'4 ?_ | refine u'5 fun _ _ _ _ => ?_ | refine u'6 (fun hg => ?_) (fun hg => ?_) <;> try simp only [hg]) <;> simp only [wS, simprocAttr, e3] | (first | refine u's ?_ | refine u'e ?_ | refine u'r ?_) <;> try simp only [wE, simprocAttr] | refine u'8 ?_ | refine u'9 ?_))
        refine hK3.go ⟨(i + 1, rvN v (Mk.encs app)), hlt⟩ (Weak.ref ⟨?_, .inr ⟨Nat.zero_le _, ?_, fun g cs hg => inL_no (hG0 g cs hg), ?_, ?_⟩⟩) (by simp only; omega)
        · simp only [wS, simprocAttr, hpt]; try exact rfl
        · simp only [wS, simprocAttr, hpt]; try exact rfl
        · simp only [List.mem_cons, List.not_mem_nil, or_false, forall_eq_or_imp, forall_eq, inR]
          exact ⟨inE_no hte, inR_rv rfl, trivial⟩
        · simp only [List.all_cons, List.all_nil, Bool.and_true]; exact rowIn_rv (inE_no (Mk.encs_tree _))
      · have hk : ¬ k = 13 := by simpa using h2
        repeat' (first | with_reducible (first | refine u'1 fun _ _ => ?_ | refine u'2 ?_ | (first | refine u'3 ?_ | refine u'4 ?_ | refine u'5 fun _ _ _ _ => ?_ | refine u'6 (fun hg => ?_) (fun hg => ?_) <;> try simp only [hg]) <;> simp only [wS, simprocAttr, hg, hltE, hlt] | (first | refine u's ?_ | refine u'e ?_ | refine u'r ?_) <;> try simp only [wE, simprocAttr] | refine u'8 ?_ | refine u'9 ?_))
        refine ⟨fun h3 => ?_, fun h3 => ?_⟩
        · have hg0 : g = false := by simpa using h3
          have hpe : Mk.part (.mk k n m i0 g es) = [.mk k n m i0 g es] := by rw [Mk.part]; simp [Mk.kind, Mk.kids, Mk.gone, hk, hg0]
          rw [hpe] at hpt
          repeat' (first | with_reducible (first | refine u'1 fun _ _ => ?_ | refine u'2 ?_ | (first | refine u'3 ?_ | refine u'4 ?_ | refine u'5 fun _ _ _ _ => ?_ | refine u'6 (fun hg => ?_) (fun hg => ?_) <;> try simp only [hg]) <;> simp only [wS, simprocAttr, hg, hltE, hlt] | (first | refine u's ?_ | refine u'e ?_ | refine u'r ?_) <;> try simp only [wE, simprocAttr] | refine u'8 ?_ | refine u'9 ?_))
          refine eff_rvN (by' := 64) (es := Mk.encs [.mk k n m i0 g es]) (by kernel_rfl) (by simp only [wS, simprocAttr]) (by simp only [wS, simprocAttr]) (by simp only [wS, simprocAttr]; try simp) hal (by simp [srcA, Mk.encs, Mk.enc]) (by rw [hel, Mk.encs_len]; simp only [List.length_cons, List.length_nil]; omega) ?_
          rw [← encs_app]
          simp only [wS, simprocAttr]
          repeat' (first | with_reducible (first | refine u'1 fun _ _ => ?_ | refine u'2 ?_ | (first | refine u'3 ?_ | refine u'4 ?_ | refine u'5 fun _ _ _ _ => ?_ | refine u'6 (fun hg => ?_) (fun hg => ?_) <;> try simp only [hg]) <;> simp only [wS, simprocAttr, e3] | (first | refine u's ?_ | refine u'e ?_ | refine u'r ?_) <;> try simp only [wE, simprocAttr] | refine u'8 ?_ | refine u'9 ?_))
          refine hK3.go ⟨(i + 1, rvN v (Mk.encs app)), hlt⟩ (Weak.ref ⟨?_, .inr ⟨Nat.zero_le _, ?_, fun g cs hg => inL_no (hG0 g cs hg), ?_, ?_⟩⟩) (by simp only; omega)
          · simp only [wS, simprocAttr, hpt]; try exact rfl
          · simp only [wS, simprocAttr, hpt]; try exact rfl
          · simp only [List.mem_cons, List.not_mem_nil, or_false, forall_eq_or_imp, forall_eq, inR]
            exact ⟨inE_no hte, inR_rv rfl, trivial⟩
          · simp only [List.all_cons, List.all_nil, Bool.and_true]; exact rowIn_rv (inE_no (Mk.encs_tree _))
        · have hg0 : g = true := by simpa using h3
          have hpe : Mk.part (.mk k n m i0 g es) = [] := by rw [Mk.part]; simp [Mk.kind, Mk.kids, Mk.gone, hk, hg0]
          rw [hpe, List.append_nil] at hpt
          repeat' (first | with_reducible (first | refine u'1 fun _ _ => ?_ | refine u'2 ?_ | (first | refine u'3 ?_ | refine u'4 ?_ | refine u'5 fun _ _ _ _ => ?_ | refine u'6 (fun hg => ?_) (fun hg => ?_) <;> try simp only [hg]) <;> simp only [wS, simprocAttr, e3] | (first | refine u's ?_ | refine u'e ?_ | refine u'r ?_) <;> try simp only [wE, simprocAttr] | refine u'8 ?_ | refine u'9 ?_))
          refine hK3.go ⟨(i + 1, v), hlt⟩ (Weak.ref ⟨?_, .inr ⟨Nat.zero_le _, ?_, fun g cs hg => inL_no (hG0 g cs hg), ?_, ?_⟩⟩) (by simp only; omega)
          · simp only [wS, simprocAttr, hpt]; try exact rfl
          · simp only [wS, simprocAttr, hpt]; try exact rfl
          · simp only [List.mem_cons, List.not_mem_nil, or_false, forall_eq_or_imp, forall_eq, inR]
            exact ⟨inE_no hte, inR_rv rfl, trivial⟩
          · simp only [List.all_cons, List.all_nil, Bool.and_true]; exact rowIn_rv (inE_no (Mk.encs_tree _))
    · have hge : i = ks.length := by simp [hln] at h; omega
      have hta : ks.take i = ks := by rw [hge, List.take_length]
      rw [hta] at happ
      have hfl : Mk.flat ks = Mk.cut app := by rw [Mk.flat, happ]
      rw [hta] at hpl
      repeat' (first | with_reducible (first | refine u'1 fun _ _ => ?_ | refine u'2 ?_ | (first | refine u'3 ?_ | refine u'4 ?_ | refine u'5 fun _ _ _ _ => ?_ | refine u'6 (fun hg => ?_) (fun hg => ?_) <;> try simp only [hg]) <;> simp only [wS, simprocAttr] | (first | refine u's ?_ | refine u'e ?_ | refine u'r ?_) <;> try simp only [wE, simprocAttr] | refine u'9 ?_))
      refine Cont.go (by assumption) (awp_ref (ref_to [0] (kp []) (l := [(3, .sl false (Mk.encs app))]) (h := []) hG0 (fun r hr => absurd hr (Nat.not_lt_zero r)) ?_ ?_ ?_) ?_)
      · simp only [wS, simprocAttr, FrzF]
        exact .inr (lend_rv (v := v) rfl (by simp) (encs_sz _) (Mk.encs_tree _))
      · simp only [List.all_cons, List.all_nil, Bool.and_true, inR]; exact inE_no (Mk.encs_tree _)
      · simp only [wS, simprocAttr]; simp only [ToH, and_true]; rfl
      clear hK3 h hgt hln hte hls
      have hal := encs_sz app
      have hgt := fun (i : Nat) (e : Mk) => Mk.encs_get (es := app) (i := i) (e := e)
      have hln := Mk.encs_len app
      have hte := Mk.encs_tree app
      obtain ⟨AE, hAE⟩ : ∃ x, x = Mk.encs app := ⟨_, rfl⟩
      rw [← hAE] at hgt hln hte ⊢
      repeat' (first | with_reducible (first | refine u'1 fun _ _ => ?_ | refine u'2 ?_ | (first | refine u'3 ?_ | refine u'4 ?_ | refine u'5 fun _ _ _ _ => ?_ | refine u'6 (fun hg => ?_) (fun hg => ?_) <;> try simp only [hg]) <;> simp only [wS, simprocAttr] | (first | refine u's ?_ | refine u'e ?_ | refine u'r ?_) <;> try simp only [wE, simprocAttr] | refine u'8 ?_ | refine u'9 ?_))
      refine awp_loop_r (α := {j : Nat // j ≤ app.length ∧ Mk.cut app = app.take j ++ Mk.cut (app.drop j)}) (fun j => [(3, .sl false AE), (5, rv 0 (j.1 - 1) 6 (Mk.encs (app.take j.1))), (6, .int .i64 (j.1 : Nat))]) (fun j => [rvR (j.1 - 1) (Mk.encs (app.take j.1))]) (fun j => app.length - j.1) ⟨0, Nat.zero_le _, by simp⟩ (ref_to [] (kp [0]) hG0 (by simp) ?_ ?_ ?_) ?_
      · simp only [wS, simprocAttr, hAE, FrzF, Frz, List.take_zero, Mk.encs, rv_nil]
        exact .toRsv
      · simp only [List.all_cons, List.all_nil, Bool.and_true, Bool.and_eq_true, List.take_zero, Mk.encs, rv_nil, inR]
        exact inE_no hte
      · simp only [wS, simprocAttr, List.take_zero, Mk.encs, rvR_nil]; simp only [ToH, and_self]
      · rintro ⟨j, hj, hcut⟩ K4 hK4
        try simp only at hj
        have hjl : (Mk.encs (app.take j)).length = j := by rw [Mk.encs_len, List.length_take]; omega
        repeat' (first | with_reducible (first | refine u'1 fun _ _ => ?_ | refine u'2 ?_ | (first | refine u'3 ?_ | refine u'4 ?_ | refine u'5 fun _ _ _ _ => ?_ | refine u'6 (fun hg => ?_) (fun hg => ?_) <;> try simp only [hg]) <;> simp only [wS, simprocAttr] | (first | refine u's ?_ | refine u'e ?_ | refine u'r ?_) <;> try simp only [wE, simprocAttr] | refine u'8 ?_ | refine u'9 ?_))
        refine ⟨fun h => ?_, fun h => ?_⟩
        · have hlt : j < app.length := by simpa [hln] using h
          have hltE : j < AE.length := by omega
          obtain ⟨e, he⟩ : ∃ e, app[j]? = some e := ⟨_, List.getElem?_eq_getElem hlt⟩
          have hg := hgt j e he
          have e3 := wrap_succ (k := j) hlt (by omega)
          have htk : app.take (j + 1) = app.take j ++ [e] := by rw [List.take_add_one, he]; rfl
          have htE : Mk.encs (app.take (j + 1)) = Mk.encs (app.take j) ++ [Mk.enc e] := by rw [htk, encs_app]; rfl
          have hdr : app.drop j = e :: app.drop (j + 1) := by
            rw [List.drop_eq_getElem_cons hlt]
            have := List.getElem?_eq_getElem hlt
            rw [he] at this
            injection this with this
            rw [← this]
          have hce : Mk.cut app = if Mk.ends e = true then app.take (j + 1) else app.take (j + 1) ++ Mk.cut (app.drop (j + 1)) := by
            rw [hcut, hdr, Mk.cut, htk]
            split <;> simp
          have hvv : j = if Mk.encs (app.take j) = [] then 0 else j - 1 + 1 := by
            by_cases h0 : Mk.encs (app.take j) = []
            · rw [if_pos h0]; rw [h0] at hjl; simpa using hjl.symm
            · rw [if_neg h0]
              have : j ≠ 0 := fun hz => h0 (by rw [hz]; rfl)
              omega
          have hps := encs_sz (app.take j)
          have hen : Mk.ends e = (decide (e.kind = 19) || decide (e.kind = 20)) := rfl
          obtain ⟨k, n, m, i0, g, es⟩ := e
          simp only [Mk.enc, Mk.kind] at hg htE hen
          repeat' (first | with_reducible (first | refine u'1 fun _ _ => ?_ | refine u'2 ?_ | (first | refine u'3 ?_ | refine u'4 ?_ | refine u'5 fun _ _ _ _ => ?_ | refine u'6 (fun hg => ?_) (fun hg => ?_) <;> try simp only [hg]) <;> simp only [wS, simprocAttr, hg, hltE, hlt] | (first | refine u's ?_ | refine u'e ?_ | refine u'r ?_) <;> try simp only [wE, simprocAttr] | refine u'8 ?_ | refine u'9 ?_))
          refine eff_rvs (v' := j) (es := [[.int .i64 k, .int .i64 n, .int .i64 m, .int .i64 i0, .bool g, .sl false (Mk.encs es)]]) (by' := 64) (by kernel_rfl) (by (simp only [wS, simprocAttr]; try exact rfl)) hvv hps (by simp [srcA]) (by simp) (by rw [hjl]; simp only [List.length_singleton]; omega) ?_
          rw [← htE]
          by_cases hE : Mk.ends (.mk k n m i0 g es) = true
          · rw [if_pos hE] at hce
            rw [hen] at hE
            have hres : Mk.cut app = app.take (j + 1) := hce
            have d19 : (k == 19) = decide (k = 19) := by by_cases h : k = 19 <;> simp [h]
            by_cases k19 : k = 19
            · have e19 : (k == 19) = true := by simp [k19]
              simp only [wS, simprocAttr]
              repeat' (first | with_reducible (first | refine u'1 fun _ _ => ?_ | refine u'2 ?_ | (first | refine u'3 ?_ | refine u'4 ?_ | refine u'5 fun _ _ _ _ => ?_ | refine u'6 (fun hg => ?_) (fun hg => ?_) <;> try simp only [hg]) <;> simp only [wS, simprocAttr, hg, hltE, hlt, e19] | (first | refine u's ?_ | refine u'e ?_ | refine u'r ?_) <;> try simp only [wE, simprocAttr] | refine u'9 ?_))
              refine Cont.go (by assumption) ?_
              repeat' (first | with_reducible (first | refine u'1 fun _ _ => ?_ | refine u'2 ?_ | (first | refine u'3 ?_ | refine u'4 ?_ | refine u'5 fun _ _ _ _ => ?_ | refine u'6 (fun hg => ?_) (fun hg => ?_) <;> try simp only [hg]) <;> simp only [wS, simprocAttr, hg, hltE, hlt, e19] | (first | refine u's ?_ | refine u'e ?_ | refine u'r ?_) <;> try simp only [wE, simprocAttr] | refine u'9 ?_))
              refine Cont.go (by assumption) ?_
              repeat' (first | with_reducible (first | refine u'1 fun _ _ => ?_ | refine u'2 ?_ | (first | refine u'3 ?_ | refine u'4 ?_ | refine u'5 fun _ _ _ _ => ?_ | refine u'6 (fun hg => ?_) (fun hg => ?_) <;> try simp only [hg]) <;> simp only [wS, simprocAttr, hg, hltE, hlt, e19] | (first | refine u's ?_ | refine u'e ?_ | refine u'r ?_) <;> try simp only [wE, simprocAttr] | refine u'9 ?_))
              refine Cont.go (by assumption) (awp_ref (ref_to [0] (kp []) (l := [(5, .sl false (Mk.encs (app.take (j + 1))))]) (h := []) hG0 (fun r hr => absurd hr (Nat.not_lt_zero r)) ?_ ?_ ?_) ?_)
              · simp only [wS, simprocAttr, FrzF]
                exact .inr (lend_rv (v := j) rfl (by simp) (encs_sz _) (Mk.encs_tree _))
              · simp only [List.all_cons, List.all_nil, Bool.and_true, inR]; exact inE_no (Mk.encs_tree _)
              · simp only [wS, simprocAttr]; simp only [ToH, and_true]; rfl
              repeat' (first | with_reducible (first | refine u'1 fun _ _ => ?_ | refine u'2 ?_ | (first | refine u'3 ?_ | refine u'4 ?_ | refine u'5 fun _ _ _ _ => ?_ | refine u'6 (fun hg => ?_) (fun hg => ?_) <;> try simp only [hg]) <;> simp only [wS, simprocAttr] | (first | refine u's ?_ | refine u'e ?_ | refine u'r ?_) <;> try simp only [wE, simprocAttr] | refine u'8 ?_ | refine u'9 ?_))
              refine body_ret1 rfl ?_
              simp only [wS, simprocAttr]
              rw [wk_sl, hfl, hres]
            · have e19 : (k == 19) = false := by simp [k19]
              have e20 : (k == 20) = true := by rw [Bool.or_eq_true] at hE; rcases hE with h | h; exact absurd (of_decide_eq_true h) k19; rw [of_decide_eq_true h]; rfl
              simp only [wS, simprocAttr]
              repeat' (first | with_reducible (first | refine u'1 fun _ _ => ?_ | refine u'2 ?_ | (first | refine u'3 ?_ | refine u'4 ?_ | refine u'5 fun _ _ _ _ => ?_ | refine u'6 (fun hg => ?_) (fun hg => ?_) <;> try simp only [hg]) <;> simp only [wS, simprocAttr, hg, hltE, hlt, e19, e20] | (first | refine u's ?_ | refine u'e ?_ | refine u'r ?_) <;> try simp only [wE, simprocAttr] | refine u'9 ?_))
              refine Cont.go (by assumption) ?_
              repeat' (first | with_reducible (first | refine u'1 fun _ _ => ?_ | refine u'2 ?_ | (first | refine u'3 ?_ | refine u'4 ?_ | refine u'5 fun _ _ _ _ => ?_ | refine u'6 (fun hg => ?_) (fun hg => ?_) <;> try simp only [hg]) <;> simp only [wS, simprocAttr, hg, hltE, hlt, e19, e20] | (first | refine u's ?_ | refine u'e ?_ | refine u'r ?_) <;> try simp only [wE, simprocAttr] | refine u'9 ?_))
              refine Cont.go (by assumption) ?_
              repeat' (first | with_reducible (first | refine u'1 fun _ _ => ?_ | refine u'2 ?_ | (first | refine u'3 ?_ | refine u'4 ?_ | refine u'5 fun _ _ _ _ => ?_ | refine u'6 (fun hg => ?_) (fun hg => ?_) <;> try simp only [hg]) <;> simp only [wS, simprocAttr, hg, hltE, hlt, e19, e20] | (first | refine u's ?_ | refine u'e ?_ | refine u'r ?_) <;> try simp only [wE, simprocAttr] | refine u'9 ?_))
              refine Cont.go (by assumption) (awp_ref (ref_to [0] (kp []) (l := [(5, .sl false (Mk.encs (app.take (j + 1))))]) (h := []) hG0 (fun r hr => absurd hr (Nat.not_lt_zero r)) ?_ ?_ ?_) ?_)
              · simp only [wS, simprocAttr, FrzF]
                exact .inr (lend_rv (v := j) rfl (by simp) (encs_sz _) (Mk.encs_tree _))
              · simp only [List.all_cons, List.all_nil, Bool.and_true, inR]; exact inE_no (Mk.encs_tree _)
              · simp only [wS, simprocAttr]; simp only [ToH, and_true]; rfl
              repeat' (first | with_reducible (first | refine u'1 fun _ _ => ?_ | refine u'2 ?_ | (first | refine u'3 ?_ | refine u'4 ?_ | refine u'5 fun _ _ _ _ => ?_ | refine u'6 (fun hg => ?_) (fun hg => ?_) <;> try simp only [hg]) <;> simp only [wS, simprocAttr] | (first | refine u's ?_ | refine u'e ?_ | refine u'r ?_) <;> try simp only [wE, simprocAttr] | refine u'8 ?_ | refine u'9 ?_))
              refine body_ret1 rfl ?_
              simp only [wS, simprocAttr]
              rw [wk_sl, hfl, hres]
          · rw [if_neg hE] at hce
            rw [hen] at hE
            have e19 : (k == 19) = false := by by_cases h : k = 19 <;> simp [h] at hE ⊢
            have e20 : (k == 20) = false := by by_cases h : k = 20 <;> simp [h] at hE ⊢
            simp only [wS, simprocAttr]
            repeat' (first | with_reducible (first | refine u'1 fun _ _ => ?_ | refine u'2 ?_ | (first | refine u'3 ?_ | refine u'4 ?_ | refine u'5 fun _ _ _ _ => ?_ | refine u'6 (fun hg => ?_) (fun hg => ?_) <;> try simp only [hg]) <;> simp only [wS, simprocAttr, hg, hltE, hlt, e19, e20, e3] | (first | refine u's ?_ | refine u'e ?_ | refine u'r ?_) <;> try simp only [wE, simprocAttr] | refine u'8 ?_ | refine u'9 ?_))
            refine hK4.go ⟨j + 1, hlt, hce⟩ (Weak.ref ⟨?_, .inr ⟨Nat.zero_le _, ?_, fun g cs hg => inL_no (hG0 g cs hg), ?_, ?_⟩⟩) (by simp only; omega)
            · simp only [wS, simprocAttr, Nat.add_sub_cancel]; try exact rfl
            · simp only [wS, simprocAttr, Nat.add_sub_cancel]; try exact rfl
            · simp only [List.mem_cons, List.not_mem_nil, or_false, forall_eq_or_imp, forall_eq, inR]
              exact ⟨inE_no hte, inR_rv rfl, trivial⟩
            · simp only [List.all_cons, List.all_nil, Bool.and_true]; exact rowIn_rv (inE_no (Mk.encs_tree _))
        · have hge : j = app.length := by simp [hln] at h; omega
          subst hge
          have hres : Mk.cut app = app.take app.length := by rw [hcut]; simp [Mk.cut]
          repeat' (first | with_reducible (first | refine u'1 fun _ _ => ?_ | refine u'2 ?_ | (first | refine u'3 ?_ | refine u'4 ?_ | refine u'5 fun _ _ _ _ => ?_ | refine u'6 (fun hg => ?_) (fun hg => ?_) <;> try simp only [hg]) <;> simp only [wS, simprocAttr] | (first | refine u's ?_ | refine u'e ?_ | refine u'r ?_) <;> try simp only [wE, simprocAttr] | refine u'9 ?_))
          refine Cont.go (by assumption) (awp_ref (ref_to [0] (kp []) (l := [(5, .sl false (Mk.encs (app.take app.length)))]) (h := []) hG0 (fun r hr => absurd hr (Nat.not_lt_zero r)) ?_ ?_ ?_) ?_)
          · simp only [wS, simprocAttr, FrzF]
            exact .inr (lend_rv (v := app.length - 1) rfl (by simp) (encs_sz _) (Mk.encs_tree _))
          · simp only [List.all_cons, List.all_nil, Bool.and_true, inR]; exact inE_no (Mk.encs_tree _)
          · simp only [wS, simprocAttr]; simp only [ToH, and_true]; rfl
          repeat' (first | with_reducible (first | refine u'1 fun _ _ => ?_ | refine u'2 ?_ | (first | refine u'3 ?_ | refine u'4 ?_ | refine u'5 fun _ _ _ _ => ?_ | refine u'6 (fun hg => ?_) (fun hg => ?_) <;> try simp only [hg]) <;> simp only [wS, simprocAttr] | (first | refine u's ?_ | refine u'e ?_ | refine u'r ?_) <;> try simp only [wE, simprocAttr] | refine u'8 ?_ | refine u'9 ?_))
          refine body_ret1 rfl ?_
          simp only [wS, simprocAttr]
          rw [wk_sl, hfl, hres]
end Go.Proofs.YtiobgkecpekhgaaDoor
