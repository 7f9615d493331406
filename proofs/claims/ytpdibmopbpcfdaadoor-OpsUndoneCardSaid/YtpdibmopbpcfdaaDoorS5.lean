import Derived.Test.YtpdibmopbpcfdaaDoorS4
set_option linter.unusedVariables false
set_option linter.unusedSimpArgs false
namespace Go.Proofs.YtpdibmopbpcfdaaDoor
open Go.AM
set_option maxRecDepth 100000
theorem matchS_eq (E D : Nat) (pk pn pm k n m : Int) (b1 b2 : Bool) (ps es : List (List AV)) (root : Bool) (mp : MP) : matchS E (D + 1) [.int .i64 pk, .int .i64 pn, .int .i64 pm, .sl b1 ps] [.int .i64 k, .int .i64 n, .int .i64 m, .sl b2 es] root mp =
    if pk = 28 then
      if pn < 0 ∨ 7 < pn then (false, mp) else match afindI (keysM mp) pn 0 with
        | some j => (match mp[j]? with
          | some x => (cmpT E x.2 [.int .i64 k, .int .i64 n, .int .i64 m, .sl b2 es] == 0, mp)
          | none => (false, mp))
        | none => (true, mp ++ [(pn, [.int .i64 k, .int .i64 n, .int .i64 m, .sl b2 es])])
    else if pk = k ∧ pm = m ∧ (pn = n ∨ (root = true ∧ pn = -100)) then
      if ps.length = es.length then eqS (fun p e mp => matchS E D p e false mp) ps es mp else (false, mp)
    else (false, mp) := by rw [matchS]; rfl
theorem valsM_get {mp : MP} {j : Nat} {x : Int × List AV} (h : mp[j]? = some x) : (valsM mp)[j]? = some (.agg x.2) := by simp [valsM, h]
set_option maxHeartbeats 4000000 in
theorem mat_38 {E : Nat} : ∀ D : Nat, MatC E D
  | 0 => fun p hp => by
    cases hp with
    | @mk _ d hd => exact absurd hd (Nat.not_lt_zero _)
  | D + 1 => by
    intro p hp e he root mp hm rows h3
    have ih := mat_38 (E := E) D
    have hg := matchS_good (D + 1) p e root mp hp he hm
    have he2 := he
    cases hp with
    | @mk _ d1 hd1 pk pn pm b1 ps hl1 hh1 =>
    cases he with
    | @mk _ d2 hd2 k n m b2 es hl2 hh2 =>
    have hps : ∀ e ∈ ps, NodeV D e := fun e he' => (hh1 e he').up (Nat.le_of_lt_succ hd1)
    have hes : ∀ e ∈ es, NodeV E e := fun e he' => (hh2 e he').up (Nat.le_of_lt hd2)
    have hdef : matchS E (D + 1) [.int .i64 pk, .int .i64 pn, .int .i64 pm, .sl b1 ps] [.int .i64 k, .int .i64 n, .int .i64 m, .sl b2 es] root mp = _ := matchS_eq E D pk pn pm k n m b1 b2 ps es root mp
    generalize matchS E (D + 1) [.int .i64 pk, .int .i64 pn, .int .i64 pm, .sl b1 ps] [.int .i64 k, .int .i64 n, .int .i64 m, .sl b2 es] root mp = res at hg hdef
    refine callC_of_body [.dead, .dead, .dead, mapRow mp] hG0 Tryd.func38 rfl (by kernel_rfl) (by simp [Tryd.ntmps38]) ?_ ?_ ?_ ?_ ?_ ?_ ?_
    · intro r hr
      rw [List.mem_singleton.1 hr]
      exact h3.symm
    · intro r hr
      match r, hr with
      | 0, _ => simp
      | 1, _ => simp
      | 2, _ => simp
      | 3, hr => exact absurd (by simp) hr
      | r + 4, _ => simp
    · simp only [inL, inR, List.length_cons, List.length_nil, Nat.reduceAdd, Nat.reduceLT, decide_true, Bool.true_and, Bool.and_true, Bool.and_eq_true]
      exact ⟨inE_mono (p := noRef) (fun r hr => by cases hr) (nodes_tree hh1), inE_mono (p := noRef) (fun r hr => by cases hr) (nodes_tree hh2)⟩
    · intro r hr
      rw [List.mem_singleton.1 hr, h3]
      exact mapRow_in hm
    · intro r hr h
      have := List.mem_singleton.1 hr
      simp only [List.length_cons, List.length_nil] at h
      omega
    · simp
    simp only [Tryd.ntmps38, enterF, Nat.reduceAdd, List.length_cons, List.length_nil]
    have post : ∀ s : AS, s.row 3 = mapRow res.2 → ∀ r ∈ [3], s.row r = upd rows [(3, mapRow res.2)] r ∧ rowIn (fun r => [3].contains r) (s.row r) = true := fun s a r hr => by
      rw [List.mem_singleton.1 hr, a]
      exact ⟨rfl, mapRow_in hg⟩
    by_cases hk : pk = 28
    · have e28 : (pk == 28) = true := by simp [hk]
      rw [if_pos hk] at hdef
      by_cases h0 : pn < 0
      · have hres : res = (false, mp) := by rw [hdef, if_pos (.inl h0)]
        have c1 : decide (pn < 0) = true := by simpa using h0
        repeat' (first | refine u'1 fun _ _ => ?_ | refine u'2 ?_ | (first | refine u'3 ?_ | refine u'4 ?_ | refine u'5 fun _ _ _ _ => ?_ | (refine u'6 (fun hg => ?_) (fun hg => ?_) <;> try simp only [hg])) <;> simp only [wS, simprocAttr, e28, c1] | (refine u'7 ?_; try simp only [wE, simprocAttr]) | refine u'8 ?_ | refine u'9 ?_)
        refine body_ret1 rfl ⟨.inl ?_, ?_, post _ ?_⟩ <;> (try rw [hres]) <;> (simp only [wS, simprocAttr, inR]; try exact rfl)
      · have c1 : decide (pn < 0) = false := by simpa using h0
        by_cases h7 : 7 < pn
        · have hres : res = (false, mp) := by rw [hdef, if_pos (.inr h7)]
          have c2 : decide (pn > 7) = true := by simpa using h7
          repeat' (first | refine u'1 fun _ _ => ?_ | refine u'2 ?_ | (first | refine u'3 ?_ | refine u'4 ?_ | refine u'5 fun _ _ _ _ => ?_ | (refine u'6 (fun hg => ?_) (fun hg => ?_) <;> try simp only [hg])) <;> simp only [wS, simprocAttr, e28, c1, c2] | (refine u'7 ?_; try simp only [wE, simprocAttr]) | refine u'8 ?_ | refine u'9 ?_)
          refine body_ret1 rfl ⟨.inl ?_, ?_, post _ ?_⟩ <;> (try rw [hres]) <;> (simp only [wS, simprocAttr, inR]; try exact rfl)
        · have c2 : decide (pn > 7) = false := by simpa using h7
          rw [if_neg (by omega)] at hdef
          cases hf : afindI (keysM mp) pn 0 with
          | some j =>
            have hj := afindI_lt _ _ _ _ hf
            rw [Nat.zero_add, keysM, List.length_map] at hj
            obtain ⟨x, hx⟩ : ∃ x, mp[j]? = some x := ⟨_, List.getElem?_eq_getElem hj⟩
            have hv := valsM_get hx
            have hnx := hm x (List.mem_of_getElem? hx)
            have hc := cmp_15 E x.2 _ hnx he2
            have hres : res = (cmpT E x.2 [.int .i64 k, .int .i64 n, .int .i64 m, .sl b2 es] == 0, mp) := by rw [hdef, hf]; simp only [hx]
            obtain ⟨xk, xc⟩ := x
            simp only at hv hnx hc hres
            cases hnx with
            | @mk _ d3 hd3 k3 n3 m3 b3 es3 hl3 hh3 =>
            repeat' (first | refine u'1 fun _ _ => ?_ | refine u'2 ?_ | (first | refine u'3 ?_ | refine u'4 ?_ | refine u'5 fun _ _ _ _ => ?_ | (refine u'6 (fun hg => ?_) (fun hg => ?_) <;> try simp only [hg])) <;> simp only [wS, simprocAttr, e28, c1, c2, mapRow, afind_int, hf, hv] | (refine u'7 ?_; try simp only [wE, simprocAttr]) | refine u'8 ?_ | refine u'9 ?_)
            refine callR_tree hG0 hc ?_
            simp only [wS, simprocAttr, mapRow, afind_int, hf, hv]
            repeat' (first | refine u'1 fun _ _ => ?_ | refine u'2 ?_ | (first | refine u'3 ?_ | refine u'4 ?_ | refine u'5 fun _ _ _ _ => ?_ | (refine u'6 (fun hg => ?_) (fun hg => ?_) <;> try simp only [hg])) <;> simp only [wS, simprocAttr, mapRow, afind_int, hf, hv] | (refine u'7 ?_; try simp only [wE, simprocAttr]) | refine u'8 ?_ | refine u'9 ?_)
            refine body_ret1 rfl ⟨.inl ?_, ?_, post _ ?_⟩ <;> (try rw [hres]) <;> (simp only [wS, simprocAttr, inR, mapRow]; try exact rfl)
          | none =>
            have hres : res = (true, mp ++ [(pn, [.int .i64 k, .int .i64 n, .int .i64 m, .sl b2 es])]) := by rw [hdef, hf]
            repeat' (first | refine u'1 fun _ _ => ?_ | refine u'2 ?_ | (first | refine u'3 ?_ | refine u'4 ?_ | refine u'5 fun _ _ _ _ => ?_ | (refine u'6 (fun hg => ?_) (fun hg => ?_) <;> try simp only [hg])) <;> simp only [wS, simprocAttr, e28, c1, c2, mapRow, afind_int, hf] | (refine u'7 ?_; try simp only [wE, simprocAttr]) | refine u'8 ?_ | refine u'9 ?_)
            refine body_ret1 rfl ⟨.inl ?_, ?_, post _ ?_⟩
            · rw [hres]; simp only [wS, simprocAttr]
            · simp only [wS, simprocAttr, inR]
            · rw [hres]
              simp only [wS, simprocAttr, mapRow]
              exact mapRow_snoc mp pn _
    · have e28 : (pk == 28) = false := by simp [hk]
      rw [if_neg hk] at hdef
      have fin : pk = k → pm = m → (pn = n ∨ (root = true ∧ pn = -100)) → res = eqL (fun p e mp => matchS E D p e false mp) ps es mp := fun a b c => by rw [hdef, if_pos ⟨a, b, c⟩, eqL]
      have no : ¬ (pk = k ∧ pm = m ∧ (pn = n ∨ (root = true ∧ pn = -100))) → res = (false, mp) := fun a => by rw [hdef, if_neg a]
      have k58 := fun rows h3 h4 => equal_58 ih b1 b2 ps es hps hes hl1 hl2 mp hm rows h3 h4
      by_cases hkk : pk = k
      · have f1 : (pk != k) = false := by simp [hkk]
        by_cases hmm : pm = m
        · have f2 : (pm != m) = false := by simp [hmm]
          by_cases hnn : pn = n
          · have f3 : (pn != n) = false := by simp [hnn]
            have hres := fin hkk hmm (.inl hnn)
            rw [← hres] at k58
            repeat' (first | refine u'1 fun _ _ => ?_ | refine u'2 ?_ | (first | refine u'3 ?_ | refine u'4 ?_ | refine u'5 fun _ _ _ _ => ?_ | (refine u'6 (fun hg => ?_) (fun hg => ?_) <;> try simp only [hg])) <;> simp only [wS, simprocAttr, e28, f1, f2, f3, Bool.not_true, Bool.not_false] | (refine u'7 ?_; try simp only [wE, simprocAttr]) | refine u'8 ?_ | refine u'9 ?_)
            refine ⟨_, _, k58 _ (by simp only [wS, simprocAttr]) (by simp only [wS, simprocAttr]), ?_⟩
            simp only [wS, simprocAttr]
            repeat' (first | refine u'1 fun _ _ => ?_ | refine u'2 ?_ | (first | refine u'3 ?_ | refine u'4 ?_ | refine u'5 fun _ _ _ _ => ?_ | (refine u'6 (fun hg => ?_) (fun hg => ?_) <;> try simp only [hg])) <;> simp only [wS, simprocAttr] | (refine u'7 ?_; try simp only [wE, simprocAttr]) | refine u'8 ?_ | refine u'9 ?_)
            refine body_ret1 rfl ⟨.inl ?_, ?_, post _ ?_⟩ <;> (simp only [wS, simprocAttr, inR]; try exact rfl)
          · have f3 : (pn != n) = true := by simpa using hnn
            cases root with
            | false =>
              have hres := no (by simp [hnn])
              repeat' (first | refine u'1 fun _ _ => ?_ | refine u'2 ?_ | (first | refine u'3 ?_ | refine u'4 ?_ | refine u'5 fun _ _ _ _ => ?_ | (refine u'6 (fun hg => ?_) (fun hg => ?_) <;> try simp only [hg])) <;> simp only [wS, simprocAttr, e28, f1, f2, f3, Bool.not_true, Bool.not_false] | (refine u'7 ?_; try simp only [wE, simprocAttr]) | refine u'8 ?_ | refine u'9 ?_)
              refine body_ret1 rfl ⟨.inl ?_, ?_, post _ ?_⟩ <;> (try rw [hres]) <;> (simp only [wS, simprocAttr, inR]; try exact rfl)
            | true =>
              by_cases h100 : pn = -100
              · have f4 : (pn == -100) = true := by simpa using h100
                have hres := fin hkk hmm (.inr ⟨rfl, h100⟩)
                rw [← hres] at k58
                repeat' (first | refine u'1 fun _ _ => ?_ | refine u'2 ?_ | (first | refine u'3 ?_ | refine u'4 ?_ | refine u'5 fun _ _ _ _ => ?_ | (refine u'6 (fun hg => ?_) (fun hg => ?_) <;> try simp only [hg])) <;> simp only [wS, simprocAttr, e28, f1, f2, f3, f4, Bool.not_true, Bool.not_false] | (refine u'7 ?_; try simp only [wE, simprocAttr]) | refine u'8 ?_ | refine u'9 ?_)
                refine ⟨_, _, k58 _ (by simp only [wS, simprocAttr]) (by simp only [wS, simprocAttr]), ?_⟩
                simp only [wS, simprocAttr]
                repeat' (first | refine u'1 fun _ _ => ?_ | refine u'2 ?_ | (first | refine u'3 ?_ | refine u'4 ?_ | refine u'5 fun _ _ _ _ => ?_ | (refine u'6 (fun hg => ?_) (fun hg => ?_) <;> try simp only [hg])) <;> simp only [wS, simprocAttr] | (refine u'7 ?_; try simp only [wE, simprocAttr]) | refine u'8 ?_ | refine u'9 ?_)
                refine body_ret1 rfl ⟨.inl ?_, ?_, post _ ?_⟩ <;> (simp only [wS, simprocAttr, inR]; try exact rfl)
              · have f4 : (pn == -100) = false := by simpa using h100
                have hres := no (by simp [hnn, h100])
                repeat' (first | refine u'1 fun _ _ => ?_ | refine u'2 ?_ | (first | refine u'3 ?_ | refine u'4 ?_ | refine u'5 fun _ _ _ _ => ?_ | (refine u'6 (fun hg => ?_) (fun hg => ?_) <;> try simp only [hg])) <;> simp only [wS, simprocAttr, e28, f1, f2, f3, f4, Bool.not_true, Bool.not_false] | (refine u'7 ?_; try simp only [wE, simprocAttr]) | refine u'8 ?_ | refine u'9 ?_)
                refine body_ret1 rfl ⟨.inl ?_, ?_, post _ ?_⟩ <;> (try rw [hres]) <;> (simp only [wS, simprocAttr, inR]; try exact rfl)
        · have f2 : (pm != m) = true := by simpa using hmm
          have hres := no (by simp [hmm])
          repeat' (first | refine u'1 fun _ _ => ?_ | refine u'2 ?_ | (first | refine u'3 ?_ | refine u'4 ?_ | refine u'5 fun _ _ _ _ => ?_ | (refine u'6 (fun hg => ?_) (fun hg => ?_) <;> try simp only [hg])) <;> simp only [wS, simprocAttr, e28, f1, f2, Bool.not_true, Bool.not_false] | (refine u'7 ?_; try simp only [wE, simprocAttr]) | refine u'8 ?_ | refine u'9 ?_)
          refine body_ret1 rfl ⟨.inl ?_, ?_, post _ ?_⟩ <;> (try rw [hres]) <;> (simp only [wS, simprocAttr, inR]; try exact rfl)
      · have f1 : (pk != k) = true := by simpa using hkk
        have hres := no (by simp [hkk])
        repeat' (first | refine u'1 fun _ _ => ?_ | refine u'2 ?_ | (first | refine u'3 ?_ | refine u'4 ?_ | refine u'5 fun _ _ _ _ => ?_ | (refine u'6 (fun hg => ?_) (fun hg => ?_) <;> try simp only [hg])) <;> simp only [wS, simprocAttr, e28, f1, Bool.not_true, Bool.not_false] | (refine u'7 ?_; try simp only [wE, simprocAttr]) | refine u'8 ?_ | refine u'9 ?_)
        refine body_ret1 rfl ⟨.inl ?_, ?_, post _ ?_⟩ <;> (try rw [hres]) <;> (simp only [wS, simprocAttr, inR]; try exact rfl)
end Go.Proofs.YtpdibmopbpcfdaaDoor
