import Derived.Test.YtpdibmopbpcfdaaDoorSB
import Derived.Test.YtpdibmopbpcfdaaDoorM19
set_option linter.unusedVariables false
set_option linter.unusedSimpArgs false
namespace Go.Proofs.YtpdibmopbpcfdaaDoor
open Go.AM
set_option maxRecDepth 100000
theorem site_fact {c : List AV} (hc : NodeV 14 c) {k : Nat} {x : List Int × Nat} (h : (sitesS 14 c stdL (visL 14 [] c))[k]? = some x) :
    ∃ (p : List Int) (j : Nat) (cw o y : List AV), x = (p, j) ∧ NodeV 14 cw ∧ Pure Tryd.prog G0 13 [.agg c, encI p] (.tup [.agg cw, .bool true]) ∧ stdL[j]? = some o ∧ OpC o ∧ NodeV 22 y ∧ Pure Tryd.prog G0 14 [.agg o, .agg cw] (.tup [.agg y, .bool true]) ∧
      (¬ bkOf o < 0 → ∃ o', stdL[(bkOf o).toNat]? = some o' ∧ OpC o' ∧ bkOf o < 24 ∧ Pure Tryd.prog G0 14 [.agg o', .agg y] (.tup [.agg cw, .bool true])) ∧ Pure Tryd.prog G0 15 [.agg cw, .agg cw] (.int .i64 0) := by
  obtain ⟨p, j⟩ := x
  obtain ⟨hp, c', o, h1, h2, y, h3⟩ := sitesS_mem (List.mem_of_getElem? h)
  obtain ⟨hpl, _⟩ := visL_ats (by decide) p hp
  have hn := at_node hc h1
  have hcw := nodeV_wk hn
  have ho := std_ok o (List.mem_of_getElem? h2)
  have hy := applyO_node (by decide) ho hcw y h3
  have ha := applyO_ok (by decide) ho hcw
  rw [h3] at ha
  refine ⟨p, j, wkL c', o, y, rfl, hcw, at_13 14 c hc p hpl c' h1, h2, ho, hy.1, ha, fun hb => ?_, ?_⟩
  · obtain ⟨o', h4, h5, h6⟩ := std_undo (by decide) hcw (wk_idem hn) j o h2 h3 hb
    have ho' := std_ok o' (List.mem_of_getElem? h4)
    have hb := applyO_ok (by decide) ho' hy.1
    rw [h6] at hb
    exact ⟨o', h4, ho', h5, hb⟩
  · have := cmp_15 14 _ _ hcw hcw
    rw [cmpT_self] at this
    exact this
theorem node_eq {D : Nat} {c : List AV} (h : NodeV D c) : ∃ k n m b es, c = [.int .i64 k, .int .i64 n, .int .i64 m, .sl b es] ∧ inE noRef es = true := by
  have ht := h.tree
  cases h with
  | @mk _ d hd k n m b es hl hh =>
  simp only [inL, inR, Bool.true_and, Bool.and_true] at ht
  exact ⟨_, _, _, _, _, rfl, ht⟩
set_option maxHeartbeats 8000000 in
theorem law_4 (hprog : ∀ l : List Int, (∀ x ∈ l, Small64 x) → EP Tryd.prog G0 8 [encI l] (VN 14)) (hprocs : ∀ l : List Int, (∀ x ∈ l, Small64 x) → EP Tryd.prog G0 11 [encI l] (VN 14)) (hlives : Pure Tryd.prog G0 9 [] (.bool true)) (l m : List Int) (hl : ∀ x ∈ l, Small64 x) (hm : ∀ x ∈ m, Small64 x) :
    Pure Tryd.prog G0 4 [encI l, encI m] (.bool true) := by
  obtain ⟨_, ⟨cp, rfl, hcp⟩, hpr⟩ := hprog l hl
  obtain ⟨_, ⟨cq, rfl, hcq⟩, hqr⟩ := hprocs m hm
  have hstd : Pure Tryd.prog G0 10 [] (.sl true stdL) := r0
  have hs1 := sites_std hcp
  have hs2 := sites_std hcq
  have hf := fun (c : List AV) (hc : NodeV 14 c) (k : Nat) (x : List Int × Nat) => site_fact (x := x) (k := k) hc
  have hB : ∀ c, NodeV 14 c → (SE (sitesS 14 c stdL (visL 14 [] c))).length ≤ 480000000000 := fun c hc => by
    have h1 := sitesS_len 14 c stdL (visL 14 [] c)
    have h2 := visL_14b hc
    have h3 : (visL 14 [] c).length * stdL.length ≤ 20000000000 * 24 := Nat.mul_le_mul h2 (by decide)
    rw [SE, List.length_map]; omega
  have hSS : ∀ c, NodeV 14 c → Pure Tryd.prog G0 12 [.agg c, .sl true stdL] (.sl false (SE (sitesS 14 c stdL (visL 14 [] c)))) := fun c hc => sites_std hc
  have hst : inE noRef stdL = true := by kernel_rfl
  have hLn : stdL.length = 24 := rfl
  generalize stdL = LL at hstd hf hB hSS hst hLn
  have tt : ∀ {x : List (List AV)} {q : Nat → Bool}, inE noRef x = true → inE q x = true := fun h => inE_mono (p := noRef) (fun r hr => by cases hr) h
  refine pure_of_body hG0 Tryd.func4 rfl (by kernel_rfl) (by simp [Tryd.ntmps4]) (by simp [inL, tree_encI, inR]) (by simp [inR]) ?_
  simp only [Tryd.ntmps4, enterF, Nat.reduceAdd]
  obtain ⟨el, hel⟩ : ∃ es, encI l = .sl false es := ⟨_, rfl⟩
  obtain ⟨em, hem⟩ : ∃ es, encI m = .sl false es := ⟨_, rfl⟩
  rw [hel, hem]
  rw [hel] at hpr
  rw [hem] at hqr
  obtain ⟨PG, hPG⟩ : ∃ A : List (List AV), A = [cp, cq] := ⟨_, rfl⟩
  have hPn : PG.length = 2 := by rw [hPG]; rfl
  have hat : ∀ i : Nat, i < 2 → ∃ c, PG[i]? = some c ∧ NodeV 14 c := by
    intro i hi
    have : i = 0 ∨ i = 1 := by omega
    rw [hPG]
    rcases this with rfl | rfl
    · exact ⟨cp, rfl, hcp⟩
    · exact ⟨cq, rfl, hcq⟩
  have hPt : inE noRef PG = true := by rw [hPG]; simp only [inE, hcp.tree, hcq.tree, Bool.and_self]
  obtain ⟨pk, pn, pm, pb, pes, rfl, -⟩ := node_eq hcp
  obtain ⟨qk, qn, qm, qb, qes, rfl, -⟩ := node_eq hcq
  repeat' (first | refine u'1 fun _ _ => ?_ | refine u'2 ?_ | (first | refine u'3 ?_ | refine u'4 ?_ | refine u'5 fun _ _ _ _ => ?_ | (refine u'6 (fun hg => ?_) (fun hg => ?_) <;> try simp only [hg])) <;> simp only [wS, simprocAttr] | (refine u'7 ?_; try simp only [wE, simprocAttr]) | refine u'8 ?_ | refine u'9 ?_)
  refine callR_tree hG0 hstd ?_
  simp only [wS, simprocAttr]
  repeat' (first | refine u'1 fun _ _ => ?_ | refine u'2 ?_ | (first | refine u'3 ?_ | refine u'4 ?_ | refine u'5 fun _ _ _ _ => ?_ | (refine u'6 (fun hg => ?_) (fun hg => ?_) <;> try simp only [hg])) <;> simp only [wS, simprocAttr] | (refine u'7 ?_; try simp only [wE, simprocAttr]) | refine u'8 ?_ | refine u'9 ?_)
  refine callR_tree hG0 hpr ?_
  simp only [wS, simprocAttr]
  refine callR_tree hG0 hqr ?_
  simp only [wS, simprocAttr]
  repeat' (first | refine u'1 fun _ _ => ?_ | refine u'2 ?_ | (first | refine u'3 ?_ | refine u'4 ?_ | refine u'5 fun _ _ _ _ => ?_ | (refine u'6 (fun hg => ?_) (fun hg => ?_) <;> try simp only [hg])) <;> simp only [wS, simprocAttr] | (refine u'7 ?_; try simp only [wE, simprocAttr]) | refine u'8 ?_ | refine u'9 ?_)
  have w1 : ∀ i : Nat, i < 2 → IntKind.i64.wrap ((i : Int) + 1) = ((i + 1 : Nat) : Int) := fun i hi => wrap_succ hi (by decide)
  have hlt2 : ∀ i : Nat, decide ((i : Int) < 2) = true → i < 2 := fun i h => by simp at h; omega
  refine awp_loop_r (α := {i : Nat // i ≤ 2}) (fun i => [(5, .sl true LL), (6, .sl true PG), (7, .int .i64 (i.1 : Nat))]) (fun i => []) (fun i => 2 - i.1) ⟨0, Nat.zero_le _⟩ (Weak.ref ⟨?_, .inl ?_⟩) ?_
  · simp only [wS, simprocAttr, hPG]; try exact rfl
  · simp only [wS, simprocAttr]; try exact rfl
  · rintro ⟨i, hi⟩ K1 hK1
    repeat' (first | refine u'1 fun _ _ => ?_ | refine u'2 ?_ | (first | refine u'3 ?_ | refine u'4 ?_ | refine u'5 fun _ _ _ _ => ?_ | (refine u'6 (fun hg => ?_) (fun hg => ?_) <;> try simp only [hg])) <;> simp only [wS, simprocAttr] | (refine u'7 ?_; try simp only [wE, simprocAttr]) | refine u'8 ?_ | refine u'9 ?_)
    refine ⟨fun h => ?_, fun h => ?_⟩
    · have hi2 := hlt2 i h
      obtain ⟨c, hgc, hc⟩ := hat i hi2
      have hcS := hSS c hc
      have hcB := hB c hc
      have hcf := hf c hc
      have hcg := fun (k : Nat) (x : List Int × Nat) => SE_get (i := k) (x := x) (l := sitesS 14 c LL (visL 14 [] c))
      have hcl : (SE (sitesS 14 c LL (visL 14 [] c))).length = (sitesS 14 c LL (visL 14 [] c)).length := by simp [SE]
      have hctr := SE_tree (sitesS 14 c LL (visL 14 [] c))
      generalize sitesS 14 c LL (visL 14 [] c) = SS at hcS hcB hcf hcg hcl hctr
      generalize hSE : SE SS = SEs at hcS hcB hcg hcl hctr
      obtain ⟨ck, cn, cm, cb, ces, rfl, hcest⟩ := node_eq hc
      repeat' (first | refine u'1 fun _ _ => ?_ | refine u'2 ?_ | (first | refine u'3 ?_ | refine u'4 ?_ | refine u'5 fun _ _ _ _ => ?_ | (refine u'6 (fun hg => ?_) (fun hg => ?_) <;> try simp only [hg])) <;> simp only [wS, simprocAttr, hgc, hi2, hPn] | (refine u'7 ?_; try simp only [wE, simprocAttr]) | refine u'8 ?_ | refine u'9 ?_)
      refine callR_tree hG0 hcS ?_
      simp only [wS, simprocAttr]
      repeat' (first | refine u'1 fun _ _ => ?_ | refine u'2 ?_ | (first | refine u'3 ?_ | refine u'4 ?_ | refine u'5 fun _ _ _ _ => ?_ | (refine u'6 (fun hg => ?_) (fun hg => ?_) <;> try simp only [hg])) <;> simp only [wS, simprocAttr] | (refine u'7 ?_; try simp only [wE, simprocAttr]) | refine u'8 ?_ | refine u'9 ?_)
      obtain ⟨N, hN⟩ : ∃ N, N = SEs.length := ⟨_, rfl⟩
      refine awp_loop_r (α := {k : Nat // k ≤ SS.length}) (fun k => [(5, .sl true LL), (6, .sl true PG), (7, .int .i64 (i : Nat)), (8, .sl false SEs), (9, .int .i64 (k.1 : Nat))]) (fun k => []) (fun k => SS.length - k.1) ⟨0, Nat.zero_le _⟩ (Weak.ref ⟨?_, .inl ?_⟩) ?_
      · simp only [wS, simprocAttr]; try exact rfl
      · simp only [wS, simprocAttr]; try exact rfl
      · rintro ⟨k, hk⟩ K2 hK2
        repeat' (first | refine u'1 fun _ _ => ?_ | refine u'2 ?_ | (first | refine u'3 ?_ | refine u'4 ?_ | refine u'5 fun _ _ _ _ => ?_ | (refine u'6 (fun hg => ?_) (fun hg => ?_) <;> try simp only [hg])) <;> simp only [wS, simprocAttr] | (refine u'7 ?_; try simp only [wE, simprocAttr]) | refine u'8 ?_ | refine u'9 ?_)
        refine ⟨fun h => ?_, fun h => ?_⟩
        · have hlt : k < SS.length := by simpa [hcl] using h
          have hlt' : k < SEs.length := by omega
          have e1 := wrap_succ (k := k) hlt (by omega)
          obtain ⟨x, hx⟩ : ∃ x, SS[k]? = some x := ⟨_, List.getElem?_eq_getElem hlt⟩
          obtain ⟨p, j, cw, o, y, rfl, hcw, k13, hgo, hoc, hyn, ka, hback, kc⟩ := hcf k x hx
          have hgs := hcg k _ hx
          obtain ⟨ep, hep⟩ : ∃ es, encI p = .sl false es := ⟨_, rfl⟩
          have hpt := tree_encI p
          simp only [hep] at hgs k13 hpt
          simp only [inR] at hpt
          obtain ⟨wk', wn, wm, wb, wes, rfl, hwt⟩ := node_eq hcw
          obtain ⟨yk, yn, ym, yb, yes, rfl, hyt⟩ := node_eq hyn
          obtain ⟨nm, fk, fn, fm, fb, fes, ok, on, om, ob, oes, bk, rfl, hof, hop, -⟩ := hoc
          have hjl : j < LL.length := (List.getElem?_eq_some_iff.1 hgo).1
          have hj1 : decide ((j : Int) < 0) = false := by simp
          have hj2 : decide ((j : Int) ≥ (LL.length : Int)) = false := by simp; omega
          have hft := hof.tree
          have hopt := hop.tree
          simp only [inL, inR, Bool.true_and, Bool.and_true] at hft hopt
          repeat' (first | refine u'1 fun _ _ => ?_ | refine u'2 ?_ | (first | refine u'3 ?_ | refine u'4 ?_ | refine u'5 fun _ _ _ _ => ?_ | (refine u'6 (fun hg => ?_) (fun hg => ?_) <;> try simp only [hg])) <;> simp only [wS, simprocAttr, Bool.not_true, hgs, hgc, hlt', hi2, hPn, hj1, hj2, hgo, hjl] | (refine u'7 ?_; try simp only [wE, simprocAttr]) | refine u'8 ?_ | refine u'9 ?_)
          refine callR_tree hG0 k13 ?_
          simp only [wS, simprocAttr, Bool.not_true, hgs, hgc, hlt', hi2, hPn, hj1, hj2, hgo, hjl]
          repeat' (first | refine u'1 fun _ _ => ?_ | refine u'2 ?_ | (first | refine u'3 ?_ | refine u'4 ?_ | refine u'5 fun _ _ _ _ => ?_ | (refine u'6 (fun hg => ?_) (fun hg => ?_) <;> try simp only [hg])) <;> simp only [wS, simprocAttr, Bool.not_true, hgs, hgc, hlt', hi2, hPn, hj1, hj2, hgo, hjl] | (refine u'7 ?_; try simp only [wE, simprocAttr]) | refine u'8 ?_ | refine u'9 ?_)
          refine ⟨by kernel_rfl, ?_⟩
          repeat' (first | refine u'1 fun _ _ => ?_ | refine u'2 ?_ | (first | refine u'3 ?_ | refine u'4 ?_ | refine u'5 fun _ _ _ _ => ?_ | (refine u'6 (fun hg => ?_) (fun hg => ?_) <;> try simp only [hg])) <;> simp only [wS, simprocAttr, Bool.not_true, hgs, hgc, hlt', hi2, hPn, hj1, hj2, hgo, hjl] | (refine u'7 ?_; try simp only [wE, simprocAttr]) | refine u'8 ?_ | refine u'9 ?_)
          refine callR_tree hG0 ka ?_
          simp only [wS, simprocAttr, Bool.not_true, hgs, hgc, hlt', hi2, hPn, hj1, hj2, hgo, hjl]
          by_cases hb : bk < 0
          · have hb1 : decide (bk < 0) = true := by simpa using hb
            repeat' (first | refine u'1 fun _ _ => ?_ | refine u'2 ?_ | (first | refine u'3 ?_ | refine u'4 ?_ | refine u'5 fun _ _ _ _ => ?_ | (refine u'6 (fun hg => ?_) (fun hg => ?_) <;> try simp only [hg])) <;> simp only [wS, simprocAttr, Bool.not_true, hgs, hgc, hlt', hi2, hPn, hj1, hj2, hgo, hjl, hb1, e1] | (refine u'7 ?_; try simp only [wE, simprocAttr]) | refine u'8 ?_ | refine u'9 ?_)
            refine hK2.go ⟨k + 1, hlt⟩ (Weak.ref ⟨?_, .inr ⟨Nat.zero_le _, ?_, ?_, ?_, ?_⟩⟩) (by simp only; omega)
            · simp only [wS, simprocAttr]; try exact rfl
            · simp only [wS, simprocAttr]; try exact rfl
            · exact fun g cs hg => inL_mono (p := noRef) (fun r hr => by cases hr) (hG0 g cs hg)
            · intro z hz
              simp only [List.mem_cons, List.not_mem_nil, or_false] at hz
              rcases hz with rfl | rfl | rfl | rfl | rfl <;> first | rfl | (simp only [inR]; first | exact tt hst | exact tt hPt | exact tt hctr)
            · rfl
          · obtain ⟨o', hgo', hoc', hb24, kb⟩ := hback hb
            obtain ⟨b, rfl⟩ := Int.eq_ofNat_of_zero_le (Int.not_lt.1 hb)
            obtain ⟨nm', fk', fn', fm', fb', fes', ok', on', om', ob', oes', bk', rfl, hof', hop', -⟩ := hoc'
            have hb1 : decide (((b : Nat) : Int) < 0) = false := by simp
            have hb2 : decide (((b : Nat) : Int) ≥ (LL.length : Int)) = false := by simp only [bkOf] at hb24; simp; omega
            have hbl : b < LL.length := (List.getElem?_eq_some_iff.1 hgo').1
            replace hgo' : LL[b]? = _ := hgo'
            repeat' (first | refine u'1 fun _ _ => ?_ | refine u'2 ?_ | (first | refine u'3 ?_ | refine u'4 ?_ | refine u'5 fun _ _ _ _ => ?_ | (refine u'6 (fun hg => ?_) (fun hg => ?_) <;> try simp only [hg])) <;> simp only [wS, simprocAttr, Bool.not_true, hgs, hgc, hlt', hi2, hPn, hj1, hj2, hgo, hjl, hb1, hb2, hbl, hgo', e1] | (refine u'7 ?_; try simp only [wE, simprocAttr]) | refine u'8 ?_ | refine u'9 ?_)
            refine callR_tree hG0 kb ?_
            simp only [wS, simprocAttr, Bool.not_true, hgs, hgc, hlt', hi2, hPn, hj1, hj2, hgo, hjl, hb1, hb2, hbl, hgo', e1]
            repeat' (first | refine u'1 fun _ _ => ?_ | refine u'2 ?_ | (first | refine u'3 ?_ | refine u'4 ?_ | refine u'5 fun _ _ _ _ => ?_ | (refine u'6 (fun hg => ?_) (fun hg => ?_) <;> try simp only [hg])) <;> simp only [wS, simprocAttr, Bool.not_true, hgs, hgc, hlt', hi2, hPn, hj1, hj2, hgo, hjl, hb1, hb2, hbl, hgo', e1] | (refine u'7 ?_; try simp only [wE, simprocAttr]) | refine u'8 ?_ | refine u'9 ?_)
            refine ⟨by kernel_rfl, ?_⟩
            repeat' (first | refine u'1 fun _ _ => ?_ | refine u'2 ?_ | (first | refine u'3 ?_ | refine u'4 ?_ | refine u'5 fun _ _ _ _ => ?_ | (refine u'6 (fun hg => ?_) (fun hg => ?_) <;> try simp only [hg])) <;> simp only [wS, simprocAttr, Bool.not_true, hgs, hgc, hlt', hi2, hPn, hj1, hj2, hgo, hjl, e1] | (refine u'7 ?_; try simp only [wE, simprocAttr]) | refine u'8 ?_ | refine u'9 ?_)
            refine callR_tree hG0 kc ?_
            simp only [wS, simprocAttr, Bool.not_true, hgs, hgc, hlt', hi2, hPn, hj1, hj2, hgo, hjl, bne_self_eq_false]
            repeat' (first | refine u'1 fun _ _ => ?_ | refine u'2 ?_ | (first | refine u'3 ?_ | refine u'4 ?_ | refine u'5 fun _ _ _ _ => ?_ | (refine u'6 (fun hg => ?_) (fun hg => ?_) <;> try simp only [hg])) <;> simp only [wS, simprocAttr, e1] | (refine u'7 ?_; try simp only [wE, simprocAttr]) | refine u'8 ?_ | refine u'9 ?_)
            refine hK2.go ⟨k + 1, hlt⟩ (Weak.ref ⟨?_, .inr ⟨Nat.zero_le _, ?_, ?_, ?_, ?_⟩⟩) (by simp only; omega)
            · simp only [wS, simprocAttr]; try exact rfl
            · simp only [wS, simprocAttr]; try exact rfl
            · exact fun g cs hg => inL_mono (p := noRef) (fun r hr => by cases hr) (hG0 g cs hg)
            · intro z hz
              simp only [List.mem_cons, List.not_mem_nil, or_false] at hz
              rcases hz with rfl | rfl | rfl | rfl | rfl <;> first | rfl | (simp only [inR]; first | exact tt hst | exact tt hPt | exact tt hctr)
            · rfl
        · repeat' (first | refine u'1 fun _ _ => ?_ | refine u'2 ?_ | (first | refine u'3 ?_ | refine u'4 ?_ | refine u'5 fun _ _ _ _ => ?_ | (refine u'6 (fun hg => ?_) (fun hg => ?_) <;> try simp only [hg])) <;> simp only [wS, simprocAttr, w1 i hi2] | (refine u'7 ?_; try simp only [wE, simprocAttr]) | refine u'8 ?_ | refine u'9 ?_)
          refine hK1.go ⟨i + 1, hi2⟩ (Weak.ref ⟨?_, .inl ?_⟩) (by simp only; omega)
          · simp only [wS, simprocAttr]; try exact rfl
          · simp only [wS, simprocAttr]; try exact rfl
    · repeat' (first | refine u'1 fun _ _ => ?_ | refine u'2 ?_ | (first | refine u'3 ?_ | refine u'4 ?_ | refine u'5 fun _ _ _ _ => ?_ | (refine u'6 (fun hg => ?_) (fun hg => ?_) <;> try simp only [hg])) <;> simp only [wS, simprocAttr] | (refine u'7 ?_; try simp only [wE, simprocAttr]) | refine u'8 ?_ | refine u'9 ?_)
      refine callR_tree hG0 hlives ?_
      simp only [wS, simprocAttr]
      repeat' (first | refine u'1 fun _ _ => ?_ | refine u'2 ?_ | (first | refine u'3 ?_ | refine u'4 ?_ | refine u'5 fun _ _ _ _ => ?_ | (refine u'6 (fun hg => ?_) (fun hg => ?_) <;> try simp only [hg])) <;> simp only [wS, simprocAttr] | (refine u'7 ?_; try simp only [wE, simprocAttr]) | refine u'8 ?_ | refine u'9 ?_)
      refine body_ret1 rfl ?_
      simp only [wS, simprocAttr]
end Go.Proofs.YtpdibmopbpcfdaaDoor
set_option linter.unusedVariables false
set_option linter.unusedSimpArgs false
namespace Go.Proofs.YtpdibmopbpcfdaaDoor
open Go.AM
theorem opsUndone_law (l m : List Int) (hl : ∀ x ∈ l, Small64 x) (hm : ∀ x ∈ m, Small64 x) : AM.Pure Tryd.prog G0 4 [encI l, encI m] (.bool true) := law_4 prog_ok procs_ok r259 l m hl hm
end Go.Proofs.YtpdibmopbpcfdaaDoor
