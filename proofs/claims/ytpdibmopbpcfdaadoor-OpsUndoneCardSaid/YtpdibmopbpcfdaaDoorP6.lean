import Derived.Test.YtpdibmopbpcfdaaDoorP5
set_option linter.unusedVariables false
set_option linter.unusedSimpArgs false
namespace Go.Proofs.YtpdibmopbpcfdaaDoor
open Go.AM
set_option maxRecDepth 100000
theorem places1_ok {D : Nat} (c0 : List AV) (hc0 : inL noRef c0 = true) (c : List AV) (hc : NodeV (D + 1) c) (hD : D + 1 ≤ 100000) (hlen : (visL (D + 1) [] c).length ≤ 4398046511104) (rows : Nat → ARow)
    (h0 : rows 0 = R0 []) (h1 : rows 1 = LP c0) (h6 : rows 6 = .none) : CallC Tryd.prog G0 44 [.yld 1, .imm c] rows [0, 1, 6] ⟨.tup [], [(0, R0 (visL (D + 1) [] c)), (6, R6 (visL (D + 1) [] c))]⟩ := by
  have hc' := hc
  have hctree := hc.tree
  cases hc with
  | @mk _ d hd kk nn mm bb es hl hh =>
  generalize hvis : visL (D + 1) [] [.int .i64 kk, .int .i64 nn, .int .i64 mm, .sl bb es] = qs at hlen ⊢
  refine callC_of_body [R0 [], LP c0] hG0 Tryd.func44 rfl (by kernel_rfl) (by simp [Tryd.ntmps44]) ?_ ?_ ?_ ?_ ?_ ?_ ?_
  · intro r hr
    simp only [List.mem_cons, List.not_mem_nil, or_false] at hr
    rcases hr with rfl | rfl | rfl
    · exact h0.symm
    · exact h1.symm
    · exact h6.symm
  · intro r hr
    match r, hr with
    | 0, hr => exact absurd (by simp) hr
    | 1, hr => exact absurd (by simp) hr
    | r + 2, _ => simp
  · simp only [inL, inR, inE, List.length_cons, List.length_nil, Nat.reduceAdd, Nat.reduceLT, decide_true, Bool.true_and, Bool.and_true]
    exact inE_mono (p := noRef) (fun r hr => by cases hr) (nodes_tree hh)
  · intro r hr
    simp only [List.mem_cons, List.not_mem_nil, or_false] at hr
    rcases hr with rfl | rfl | rfl
    · rw [h0]; rfl
    · rw [h1]; exact LP_in hc0 rfl
    · rw [h6]; rfl
  · intro r hr h
    simp only [List.mem_cons, List.not_mem_nil, or_false] at hr
    simp only [List.length_cons, List.length_nil] at h
    rcases hr with rfl | rfl | rfl
    · omega
    · omega
    · exact h6
  · simp
  simp only [Tryd.ntmps44, enterF, Nat.reduceAdd, List.length_cons, List.length_nil]
  repeat' (first | refine u'1 fun _ _ => ?_ | refine u'2 ?_ | (first | refine u'3 ?_ | refine u'4 ?_ | refine u'5 fun _ _ _ _ => ?_ | (refine u'6 (fun hg => ?_) (fun hg => ?_) <;> try simp only [hg])) <;> simp only [wS, simprocAttr] | (refine u'7 ?_; try simp only [wE, simprocAttr]) | refine u'8 ?_ | refine u'9 ?_)
  have key := fun rows a b c d e => vs_root c0 hc0 _ hc' hD (by rw [hvis]; exact hlen) rows a b c d e
  rw [hvis] at key
  refine ⟨_, _, key _ (by simp only [wS, simprocAttr]) (by simp only [wS, simprocAttr]) (by simp only [wS, simprocAttr]) (by simp only [wS, simprocAttr]) (by simp only [wS, simprocAttr]; try exact rfl), ?_⟩
  simp only [wS, simprocAttr]
  repeat' (first | refine u'1 fun _ _ => ?_ | refine u'2 ?_ | (first | refine u'3 ?_ | refine u'4 ?_ | refine u'5 fun _ _ _ _ => ?_ | (refine u'6 (fun hg => ?_) (fun hg => ?_) <;> try simp only [hg])) <;> simp only [wS, simprocAttr] | (refine u'7 ?_; try simp only [wE, simprocAttr]) | refine u'8 ?_ | refine u'9 ?_)
  refine body_end0 rfl ?_
  simp only [wS, simprocAttr, inR, inL]
  intro r hr
  simp only [List.mem_cons, List.not_mem_nil, or_false] at hr
  rcases hr with rfl | rfl | rfl
  · exact ⟨rfl, R0_in (ps := qs) rfl⟩
  · exact ⟨h1.symm, LP_in hc0 rfl⟩
  · exact ⟨rfl, R6_in (ps := qs)⟩
theorem body43 [rd : Rnd] {b : Nat} (hround : rd.round = none) (hbase : rd.base = some b) {D : Nat} (c : List AV) (hc : NodeV (D + 1) c) (hD : D + 1 ≤ 100000) (hlen : (visL (D + 1) [] c).length ≤ 4398046511104) {cd : Code} (hcd : Tryd.f43.body = some cd) (Q : Exit → AS → Prop)
    (hQ : ∀ s, s.get 4 = .sl false (PE (visL (D + 1) [] c)) → s.h = [] → Q .ret s) : AWp Tryd.prog G0 13 0 cd (fun e s => ∃ s', Ref G0 13 0 s s' ∧ Q e s') ⟨mkF (enterF 0 [.sl true [], .fn (.func 44) [] [.imm c]]), []⟩ := by
  simp only [Tryd.f43, Option.some.injEq] at hcd
  subst hcd
  have hct := hc.tree
  simp only [enterF, Nat.reduceAdd]
  repeat' (first | refine u'1 fun _ _ => ?_ | refine u'2 ?_ | (first | refine u'3 ?_ | refine u'4 ?_ | refine u'5 fun _ _ _ _ => ?_ | (refine u'6 (fun hg => ?_) (fun hg => ?_) <;> try simp only [hg])) <;> simp only [wS, simprocAttr] | (refine u'7 ?_; try simp only [wE, simprocAttr]) | refine u'8 ?_ | refine u'9 ?_)
  obtain ⟨q0, qs, hqs⟩ : ∃ q0 qs, visL (D + 1) [] c = q0 :: qs := by
    cases hc with
    | @mk _ d hd kk nn mm bb es hl hh => exact ⟨_, _, rfl⟩
  have key := places1_ok c hct c hc hD hlen
  rw [hqs] at key hQ
  have hav : accV [] 6 1 (PE (q0 :: qs)) = .osl 6 qs.length 0 (qs.length + 1) 1 false := by simp [accV, PE]
  have har : R6 (q0 :: qs) = .cells qs.length (PE (q0 :: qs)).flatten := by simp [R6, accRow, PE]
  refine awp_rangeFunc (gf := 44) (first := []) (cap := [.imm c]) (fp := [0, 1, 6]) (eff := ⟨.tup [], [(0, R0 (q0 :: qs)), (6, R6 (q0 :: qs))]⟩) hround hbase ?hg (key _ ?h0 ?h1 ?h6) (.inl ⟨FR c, rf43.1, rf43.2.1, rf43.2.2, ?hl, ?hk⟩)
  case hg => simp only [wS, simprocAttr]
  case h0 => rfl
  case h1 => rfl
  case h6 => rfl
  case hl => rfl
  case hk =>
  simp only [wS, simprocAttr]
  repeat' (first | refine u'1 fun _ _ => ?_ | refine u'2 ?_ | (first | refine u'3 ?_ | refine u'4 ?_ | refine u'5 fun _ _ _ _ => ?_ | (refine u'6 (fun hg => ?_) (fun hg => ?_) <;> try simp only [hg])) <;> simp only [wS, simprocAttr, R0, hav] | (refine u'7 ?_; try simp only [wE, simprocAttr]) | refine u'8 ?_ | refine u'9 ?_)
  refine ⟨_, ref_end [] hG0 (t := 4) (r := 6) (ver := qs.length) (m := qs.length + 1) (sz := 1) (full := false) (es := PE (q0 :: qs)) (cs := (PE (q0 :: qs)).flatten) (by simp only [wS, simprocAttr]) (by simp only [wS, simprocAttr]; exact har) ?_ (by simp [PE]) (PE_sz _) (PE_tree _) trivial (by simp), hQ _ ?_ rfl⟩
  · rw [List.take_of_length_le (by rw [flat_sz (PE_sz _)]; simp [PE])]
  · simp only [wS, simprocAttr]
theorem seq43 {D : Nat} (c : List AV) (hc : NodeV (D + 1) c) (hD : D + 1 ≤ 100000) (hlen : (visL (D + 1) [] c).length ≤ 4398046511104) : Pure Tryd.prog G0 43 [.sl true [], .fn (.func 44) [] [.imm c]] (.sl false (PE (visL (D + 1) [] c))) := by
  refine ⟨by simp only [inR]; exact PE_tree _, fun rows => ?_⟩
  refine callC_of_bodyM (H := []) ⟨hG0, by simp, fun r _ => by simp, by simp, by simp⟩ Tryd.func43 rfl (by kernel_rfl) (by simp [Tryd.ntmps43]) ?_ (by simp) fun b => ?_
  · simp only [inL, inR, inE, Bool.true_and, Bool.and_true]
    exact inL_mono (p := noRef) (fun r hr => by cases hr) hc.tree
  refine @awp_end ⟨none, some b⟩ _ _ _ _ _ _ _ ?_
  refine @body43 ⟨none, some b⟩ b rfl rfl D c hc hD hlen _ rfl _ fun s h4 hh => ?_
  refine body_ret1 rfl ?_
  rw [h4]
  refine ⟨rfl, ?_, fun r hr => by cases hr⟩
  simp only [inR]
  exact inE_mono (p := noRef) (fun r hr => by cases hr) (PE_tree _)
theorem collect_ok {D : Nat} (c : List AV) (hc : NodeV (D + 1) c) (hD : D + 1 ≤ 100000) (hlen : (visL (D + 1) [] c).length ≤ 4398046511104) : Pure Tryd.prog G0 19 [.fn (.func 44) [] [.imm c]] (.sl false (PE (visL (D + 1) [] c))) := by
  refine pure_of_body hG0 Tryd.func19 rfl (by kernel_rfl) (by simp [Tryd.ntmps19]) (by simp [inL, inR, hc.tree]) (by simp only [inR]; exact PE_tree _) ?_
  simp only [Tryd.ntmps19, enterF, Nat.reduceAdd]
  repeat' (first | refine u'1 fun _ _ => ?_ | refine u'2 ?_ | (first | refine u'3 ?_ | refine u'4 ?_ | refine u'5 fun _ _ _ _ => ?_ | (refine u'6 (fun hg => ?_) (fun hg => ?_) <;> try simp only [hg])) <;> simp only [wS, simprocAttr] | (refine u'7 ?_; try simp only [wE, simprocAttr]) | refine u'8 ?_ | refine u'9 ?_)
  refine callR_tree hG0 (seq43 c hc hD hlen) ?_
  simp only [wS, simprocAttr]
  repeat' (first | refine u'1 fun _ _ => ?_ | refine u'2 ?_ | (first | refine u'3 ?_ | refine u'4 ?_ | refine u'5 fun _ _ _ _ => ?_ | (refine u'6 (fun hg => ?_) (fun hg => ?_) <;> try simp only [hg])) <;> simp only [wS, simprocAttr] | (refine u'7 ?_; try simp only [wE, simprocAttr]) | refine u'8 ?_ | refine u'9 ?_)
  refine body_ret1 rfl ?_
  simp only [wS, simprocAttr]
theorem places_ok (c : List AV) (hc : inL noRef c = true) (h4 : ∃ k n m b es, c = [.int .i64 k, .int .i64 n, .int .i64 m, .sl b es]) (rows : Nat → ARow) (h1 : rows 1 = .none) : CallC Tryd.prog G0 20 [.agg c] rows [1] ⟨.fn (.func 44) [] [.ptr 1 0 0], [(1, .cells 0 c)]⟩ := by
  obtain ⟨k, n, m, b, es, rfl⟩ := h4
  have hm : ∀ q : Nat → Bool, inL q [.int .i64 k, .int .i64 n, .int .i64 m, .sl b es] = true := fun q => inL_mono (p := noRef) (fun r hr => by cases hr) hc
  refine callC_of_body [.dead] hG0 Tryd.func20 rfl (by kernel_rfl) (by simp [Tryd.ntmps20]) ?_ ?_ ?_ ?_ ?_ ?_ ?_
  · intro r hr
    rw [List.mem_singleton.1 hr]; exact h1.symm
  · intro r hr
    match r, hr with
    | 0, _ => simp
    | 1, hr => exact absurd (by simp) hr
    | r + 2, _ => simp
  · have := hm (fun r => decide (r < [ARow.dead].length))
    simp only [inL, inR, Bool.and_true] at this ⊢
    exact this
  · intro r hr
    rw [List.mem_singleton.1 hr, h1]; rfl
  · intro r hr _
    rw [List.mem_singleton.1 hr]; exact h1
  · simp
  simp only [Tryd.ntmps20, enterF, Nat.reduceAdd, List.length_cons, List.length_nil]
  repeat' (first | refine u'1 fun _ _ => ?_ | refine u'2 ?_ | (first | refine u'3 ?_ | refine u'4 ?_ | refine u'5 fun _ _ _ _ => ?_ | (refine u'6 (fun hg => ?_) (fun hg => ?_) <;> try simp only [hg])) <;> simp only [wS, simprocAttr] | (refine u'7 ?_; try simp only [wE, simprocAttr]) | refine u'8 ?_ | refine u'9 ?_)
  refine body_ret1 rfl ?_
  simp only [wS, simprocAttr, inR, inL]
  refine ⟨rfl, fun r hr => ?_⟩
  rw [List.mem_singleton.1 hr]
  exact ⟨rfl, hm _⟩
theorem paths_ok {D : Nat} (c : List AV) (hc : NodeV (D + 1) c) (hD : D + 1 ≤ 100000) (hlen : (visL (D + 1) [] c).length ≤ 4398046511104) : Pure Tryd.prog G0 7 [.agg c] (.sl false (PE (visL (D + 1) [] c))) := by
  have hct := hc.tree
  have hc4 : ∃ k n m b es, c = [.int .i64 k, .int .i64 n, .int .i64 m, .sl b es] := by
    cases hc with
    | @mk _ d hd kk nn mm bb es hl hh => exact ⟨_, _, _, _, _, rfl⟩
  have k20 := places_ok c hct hc4
  have k19 := collect_ok c hc hD hlen
  refine pure_of_body hG0 Tryd.func7 rfl (by kernel_rfl) (by simp [Tryd.ntmps7]) (by simp only [inL, inR, Bool.and_true]; exact hct) (by simp only [inR]; exact PE_tree _) ?_
  simp only [Tryd.ntmps7, enterF, Nat.reduceAdd]
  obtain ⟨k, n, m, b, es, rfl⟩ := hc4
  repeat' (first | refine u'1 fun _ _ => ?_ | refine u'2 ?_ | (first | refine u'3 ?_ | refine u'4 ?_ | refine u'5 fun _ _ _ _ => ?_ | (refine u'6 (fun hg => ?_) (fun hg => ?_) <;> try simp only [hg])) <;> simp only [wS, simprocAttr] | (refine u'7 ?_; try simp only [wE, simprocAttr]) | refine u'8 ?_ | refine u'9 ?_)
  refine ⟨_, _, k20 _ (by simp only [wS, simprocAttr]; try exact rfl), ?_⟩
  simp only [wS, simprocAttr]
  refine ⟨_, _, callC_give [1] (k19.2 _) ⟨.inr (.fn .nil (.cons (.ptr (by simp) (by simp only [wS, simprocAttr]; try exact rfl) (.cons (.same rfl) (.cons (.same rfl) (.cons (.same rfl) (.cons (.same ?_) .nil))))) .nil)), trivial⟩ (by simp), ?_⟩
  · simp only [inL, inR, Bool.true_and, Bool.and_true] at hct ⊢
    exact hct
  simp only [wS, simprocAttr]
  repeat' (first | refine u'1 fun _ _ => ?_ | refine u'2 ?_ | (first | refine u'3 ?_ | refine u'4 ?_ | refine u'5 fun _ _ _ _ => ?_ | (refine u'6 (fun hg => ?_) (fun hg => ?_) <;> try simp only [hg])) <;> simp only [wS, simprocAttr] | (refine u'7 ?_; try simp only [wE, simprocAttr]) | refine u'8 ?_ | refine u'9 ?_)
  refine body_ret1 rfl ?_
  simp only [wS, simprocAttr]
end Go.Proofs.YtpdibmopbpcfdaaDoor
