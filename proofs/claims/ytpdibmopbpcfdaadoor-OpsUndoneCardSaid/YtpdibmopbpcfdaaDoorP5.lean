import Derived.Test.YtpdibmopbpcfdaaDoorP4
set_option linter.unusedVariables false
set_option linter.unusedSimpArgs false
namespace Go.Proofs.YtpdibmopbpcfdaaDoor
open Go.AM
set_option maxRecDepth 100000
theorem hin7 (c0 : List AV) (hc0 : inL noRef c0 = true) (c : List AV) (hc : inL noRef c = true) (qs : List (List Int)) : ([R0 qs, LP c0, .cells 0 [.yld 1], .cells 0 [.fn (.func 45) [] [.ptr 2 0 0, .ptr 3 0 0]], .dead, .cells 0 c, R6 qs] : List ARow).all (rowIn fun r => decide (r < 7)) = true := by
  have m : ∀ x : List AV, inL noRef x = true → inL (fun r => decide (r < 7)) x = true := fun x => inL_mono (p := noRef) (fun r hr => by cases hr)
  simp only [List.all_cons, List.all_nil, Bool.and_true, Bool.and_eq_true]
  exact ⟨R0_in rfl, LP_in hc0 rfl, rfl, rfl, rfl, m _ hc, R6_in⟩
set_option maxHeartbeats 4000000 in
theorem vs_root {D : Nat} (c0 : List AV) (hc0 : inL noRef c0 = true) (c : List AV) (hc : NodeV (D + 1) c) (hD : D + 1 ≤ 100000) (hlen : (visL (D + 1) [] c).length ≤ 4398046511104) (rows : Nat → ARow)
    (h0 : rows 0 = R0 []) (h1 : rows 1 = LP c0) (h2 : rows 2 = .cells 0 [.yld 1]) (h3 : rows 3 = .cells 0 [.fn (.func 45) [] [.ptr 2 0 0, .ptr 3 0 0]]) (h6 : rows 6 = .none) :
    CallC Tryd.prog G0 45 [.agg c, .sl true [], .ptr 2 0 0, .ptr 3 0 0] rows [0, 1, 2, 3, 6] ⟨.bool true, [(0, R0 (visL (D + 1) [] c)), (6, R6 (visL (D + 1) [] c))]⟩ := by
  have hctree := hc.tree
  cases hc with
  | @mk _ d hd kk nn mm bb es hl hh =>
  have hvis : visL (D + 1) [] [.int .i64 kk, .int .i64 nn, .int .i64 mm, .sl bb es] = [] :: visE (visL D) [] 0 es := rfl
  rw [hvis] at hlen ⊢
  simp only [List.length_cons] at hlen
  refine callC_of_body [R0 [], LP c0, .cells 0 [.yld 1], .cells 0 [.fn (.func 45) [] [.ptr 2 0 0, .ptr 3 0 0]], .dead] hG0 Tryd.func45 rfl (by kernel_rfl) (by simp [Tryd.ntmps45]) ?_ ?_ ?_ ?_ ?_ ?_ ?_
  · intro r hr
    simp only [List.mem_cons, List.not_mem_nil, or_false] at hr
    rcases hr with rfl | rfl | rfl | rfl | rfl
    · exact h0.symm
    · exact h1.symm
    · exact h2.symm
    · exact h3.symm
    · exact h6.symm
  · intro r hr
    match r, hr with
    | 0, hr => exact absurd (by simp) hr
    | 1, hr => exact absurd (by simp) hr
    | 2, hr => exact absurd (by simp) hr
    | 3, hr => exact absurd (by simp) hr
    | 4, _ => simp
    | 5, _ => simp
    | 6, hr => exact absurd (by simp) hr
    | r + 7, _ => simp
  · simp only [inL, inR, inE, List.length_cons, List.length_nil, Nat.reduceAdd, Nat.reduceLT, decide_true, Bool.true_and, Bool.and_true]
    exact inE_mono (p := noRef) (fun r hr => by cases hr) (nodes_tree hh)
  · intro r hr
    simp only [List.mem_cons, List.not_mem_nil, or_false] at hr
    rcases hr with rfl | rfl | rfl | rfl | rfl
    · rw [h0]; rfl
    · rw [h1]; exact LP_in hc0 rfl
    · rw [h2]; rfl
    · rw [h3]; rfl
    · rw [h6]; rfl
  · intro r hr h
    simp only [List.mem_cons, List.not_mem_nil, or_false] at hr
    simp only [List.length_cons, List.length_nil] at h
    rcases hr with rfl | rfl | rfl | rfl | rfl
    · omega
    · omega
    · omega
    · omega
    · exact h6
  · simp
  simp only [Tryd.ntmps45, enterF, Nat.reduceAdd, List.length_cons, List.length_nil]
  repeat' (first | refine u'1 fun _ _ => ?_ | refine u'2 ?_ | (first | refine u'3 ?_ | refine u'4 ?_ | refine u'5 fun _ _ _ _ => ?_ | (refine u'6 (fun hg => ?_) (fun hg => ?_) <;> try simp only [hg])) <;> simp only [wS, simprocAttr] | (refine u'7 ?_; try simp only [wE, simprocAttr]) | refine u'8 ?_ | refine u'9 ?_)
  refine callR_tree hG0 (Pure.lend hG0 clone_nil (.cons (.full rfl) .nil)) ?_
  simp only [wS, simprocAttr, callV_yld]
  refine ⟨_, _, yld_ok c0 hc0 [] (by simp) [] _ (by simp only [wS, simprocAttr]) (by simp only [wS, simprocAttr]) (by simp only [wS, simprocAttr]; try exact rfl), ?_⟩
  simp only [wS, simprocAttr]
  repeat' (first | refine u'1 fun _ _ => ?_ | refine u'2 ?_ | (first | refine u'3 ?_ | refine u'4 ?_ | refine u'5 fun _ _ _ _ => ?_ | (refine u'6 (fun hg => ?_) (fun hg => ?_) <;> try simp only [hg])) <;> simp only [wS, simprocAttr] | (refine u'7 ?_; try simp only [wE, simprocAttr]) | refine u'8 ?_ | refine u'9 ?_)
  refine ⟨by kernel_rfl, ?_⟩
  repeat' (first | refine u'1 fun _ _ => ?_ | refine u'2 ?_ | (first | refine u'3 ?_ | refine u'4 ?_ | refine u'5 fun _ _ _ _ => ?_ | (refine u'6 (fun hg => ?_) (fun hg => ?_) <;> try simp only [hg])) <;> simp only [wS, simprocAttr, Bool.not_true, Bool.not_false, upd_three, h_wr3] | (refine u'7 ?_; try simp only [wE, simprocAttr]) | refine u'8 ?_ | refine u'9 ?_)
  refine awp_loop_k (α := {i : Nat // i ≤ es.length}) (fun i => [(1, .sl true []), (2, .ptr 2 0 0), (3, .ptr 3 0 0), (15, .sl bb es), (16, .int .i64 (es.length : Nat)), (17, .int .i64 (i.1 : Nat))]) (fun i => [R0 ([] :: visE (visL D) [] 0 (es.take i.1)), LP c0, .cells 0 [.yld 1], .cells 0 [.fn (.func 45) [] [.ptr 2 0 0, .ptr 3 0 0]], .dead, .cells 0 [.int .i64 kk, .int .i64 nn, .int .i64 mm, .sl bb es], R6 ([] :: visE (visL D) [] 0 (es.take i.1))]) (fun i => es.length - i.1) ⟨0, Nat.zero_le _⟩ ⟨?_, .inl ?_⟩ ?_
  · simp only [wS, simprocAttr]; try exact rfl
  · simp only [wS, simprocAttr, visE]; try exact rfl
  · rintro ⟨i, hi⟩ K3 hK3
    repeat' (first | refine u'1 fun _ _ => ?_ | refine u'2 ?_ | (first | refine u'3 ?_ | refine u'4 ?_ | refine u'5 fun _ _ _ _ => ?_ | (refine u'6 (fun hg => ?_) (fun hg => ?_) <;> try simp only [hg])) <;> simp only [wS, simprocAttr] | (refine u'7 ?_; try simp only [wE, simprocAttr]) | refine u'8 ?_ | refine u'9 ?_)
    refine ⟨fun h => ?_, fun h => ?_⟩
    · have hlt : i < es.length := by simpa using h
      obtain ⟨e, he⟩ : ∃ e, es[i]? = some e := ⟨_, List.getElem?_eq_getElem hlt⟩
      have hne := (hh e (List.mem_of_getElem? he)).up (Nat.le_of_lt_succ hd)
      have hne2 := hne
      have htk := visE_take (f := visL D) (p := []) he
      have hle := visE_le (visL D) [] es (i + 1)
      rw [htk, List.length_append] at hle
      have e3 := wrap_succ (k := i) hlt (by omega)
      cases hne with
      | @mk _ d2 hd2 k2 n2 m2 b2 es2 hl2 hh2 =>
      repeat' (first | refine u'1 fun _ _ => ?_ | refine u'2 ?_ | (first | refine u'3 ?_ | refine u'4 ?_ | refine u'5 fun _ _ _ _ => ?_ | (refine u'6 (fun hg => ?_) (fun hg => ?_) <;> try simp only [hg])) <;> simp only [wS, simprocAttr, he, hlt] | (refine u'7 ?_; try simp only [wE, simprocAttr]) | refine u'8 ?_ | refine u'9 ?_)
      refine eff_new (sz := 1) (by' := 8) (mm := 1) (new := [.int .i64 (i : Int)]) (es := []) (by kernel_rfl) ?hb (by simp) ?hc (by decide) (by simp) ?_
      case hb => simp only [wS, simprocAttr]; try exact rfl
      case hc => simp [srcA]
      simp only [wS, simprocAttr]
      refine ⟨_, _, vs_snoc (p := []) (vs_ren (b := 8) (by decide) (vs_ok D)) hc0 hne2 i (by simpa using hD) (ps := [] :: visE (visL D) [] 0 (es.take i)) (by simp) (by simp only [List.length_cons]; omega) 0 _ (by simp only [wS, simprocAttr]) (by simp only [wS, simprocAttr]) (by simp only [wS, simprocAttr]) (by simp only [wS, simprocAttr]) (by simp only [wS, simprocAttr]; try exact rfl) (by simp only [wS, simprocAttr]), ?_⟩
      simp only [wS, simprocAttr]
      refine ⟨by kernel_rfl, ?_⟩
      repeat' (first | refine u'1 fun _ _ => ?_ | refine u'2 ?_ | (first | refine u'3 ?_ | refine u'4 ?_ | refine u'5 fun _ _ _ _ => ?_ | (refine u'6 (fun hg => ?_) (fun hg => ?_) <;> try simp only [hg])) <;> simp only [wS, simprocAttr, Bool.not_true, Bool.not_false, e3] | (refine u'7 ?_; try simp only [wE, simprocAttr]) | refine u'8 ?_ | refine u'9 ?_)
      refine hK3.go ⟨i + 1, hlt⟩ ⟨?_, .inr ⟨?_, ?_, ?_, ?_, ?_⟩⟩ (by simp only; omega)
      · simp only [wS, simprocAttr]; try exact rfl
      · simp only [wS, simprocAttr]; try exact rfl
      · simp only [wS, simprocAttr, htk, List.append_assoc]; try exact rfl
      · exact fun g cs hg => inL_mono (p := noRef) (fun r hr => by cases hr) (hG0 g cs hg)
      · intro q hq
        simp only [List.mem_cons, List.not_mem_nil, or_false] at hq
        rcases hq with rfl | rfl | rfl | rfl | rfl | rfl <;> first | rfl | exact inE_mono (p := noRef) (fun r hr => by cases hr) (nodes_tree hh)
      · exact hin7 c0 hc0 [.int .i64 kk, .int .i64 nn, .int .i64 mm, .sl bb es] hctree _
    · have hge : i = es.length := by simp at h; omega
      repeat' (first | refine u'1 fun _ _ => ?_ | refine u'2 ?_ | (first | refine u'3 ?_ | refine u'4 ?_ | refine u'5 fun _ _ _ _ => ?_ | (refine u'6 (fun hg => ?_) (fun hg => ?_) <;> try simp only [hg])) <;> simp only [wS, simprocAttr] | (refine u'7 ?_; try simp only [wE, simprocAttr]) | refine u'8 ?_ | refine u'9 ?_)
      refine body_ret1 rfl ?_
      simp only [wS, simprocAttr, inR, hge, List.take_length, upd_three]
      intro r hr
      simp only [List.mem_cons, List.not_mem_nil, or_false] at hr
      rcases hr with rfl | rfl | rfl | rfl | rfl
      · exact ⟨rfl, R0_in rfl⟩
      · exact ⟨h1.symm, LP_in hc0 rfl⟩
      · exact ⟨h2.symm, rfl⟩
      · exact ⟨h3.symm, rfl⟩
      · exact ⟨rfl, R6_in (ps := [] :: visE (visL D) [] 0 es)⟩
end Go.Proofs.YtpdibmopbpcfdaaDoor
