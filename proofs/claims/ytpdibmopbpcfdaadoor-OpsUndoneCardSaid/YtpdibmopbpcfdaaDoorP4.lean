import Derived.Test.YtpdibmopbpcfdaaDoorP3
set_option linter.unusedVariables false
set_option linter.unusedSimpArgs false
namespace Go.Proofs.YtpdibmopbpcfdaaDoor
open Go.AM
set_option maxRecDepth 100000
theorem hin8 {ver : Nat} {row4 : List AV} (c0 : List AV) (hc0 : inL noRef c0 = true) (c : List AV) (hc : inL noRef c = true) (qs : List (List Int)) (h4 : inL noRef row4 = true) : ([R0 qs, LP c0, .cells 0 [.yld 1], .cells 0 [.fn (.func 45) [] [.ptr 2 0 0, .ptr 3 0 0]], .cells ver row4, .dead, R6 qs, .cells 0 c] : List ARow).all (rowIn fun r => decide (r < 8)) = true := by
  have m : ∀ x : List AV, inL noRef x = true → inL (fun r => decide (r < 8)) x = true := fun x => inL_mono (p := noRef) (fun r hr => by cases hr)
  simp only [List.all_cons, List.all_nil, Bool.and_true, Bool.and_eq_true]
  exact ⟨R0_in rfl, LP_in hc0 rfl, rfl, rfl, m _ h4, rfl, R6_in, m _ hc⟩
def kidsC : List AV → List (List AV)
  | [_, _, _, .sl _ es] => es
  | _ => []
def lastI : Nat → List AV
  | 0 => []
  | i + 1 => [.int .i64 (i : Nat)]
theorem lastI_tree {q : Nat → Bool} (i : Nat) : inL q (lastI i) = true := by cases i <;> rfl
theorem last_cut {p : List Int} {i : Nat} {x : List AV} : List.take (p.length * 1) (cI p ++ lastI i) ++ x ++ List.drop ((p.length + 1) * 1) (cI p ++ lastI i) = cI p ++ x := by
  have hl := cI_len p
  have h2 : (lastI i).length ≤ 1 := by cases i <;> simp [lastI]
  rw [Nat.mul_one, Nat.mul_one, List.take_append_of_le_length (by omega), List.take_of_length_le (by omega), List.drop_eq_nil_of_le (by rw [List.length_append]; omega), List.append_nil]
set_option maxHeartbeats 4000000 in
theorem vs_full {D : Nat} (ih : VSat 4 D) (c0 : List AV) (hc0 : inL noRef c0 = true) (c : List AV) (hc : NodeV (D + 1) c) (p : List Int) (hp : p ≠ []) (hpl : p.length + (D + 1) ≤ 100000) (ps : List (List Int)) (hps : ps ≠ []) (hlen : ps.length + (visL (D + 1) p c).length ≤ 4398046511104) (ver : Nat) (rows : Nat → ARow)
    (h0 : rows 0 = R0 ps) (h1 : rows 1 = LP c0) (h2 : rows 2 = .cells 0 [.yld 1]) (h3 : rows 3 = .cells 0 [.fn (.func 45) [] [.ptr 2 0 0, .ptr 3 0 0]]) (h4 : rows 4 = .cells ver (cI p)) (h6 : rows 6 = R6 ps) :
    CallC Tryd.prog G0 45 [.agg c, .osl 4 ver 0 p.length 1 true, .ptr 2 0 0, .ptr 3 0 0] rows [4, 0, 1, 2, 3, 6] ⟨.bool true, [(0, R0 (ps ++ visL (D + 1) p c)), (6, R6 (ps ++ visL (D + 1) p c))]⟩ := by
  have hnode := hc
  have hctree := hc.tree
  cases hc with
  | @mk _ d hd kk nn mm bb es hl hh =>
  have hPne : PE ps ≠ [] := fun e => hps ((PE_nil ps).1 e)
  have hvis : visL (D + 1) p [.int .i64 kk, .int .i64 nn, .int .i64 mm, .sl bb es] = p :: visE (visL D) p 0 es := rfl
  rw [hvis] at hlen ⊢
  simp only [List.length_cons] at hlen
  have hcl := cI_len p
  have hpos : 0 < p.length := List.length_pos_iff.2 hp
  refine callC_of_body [R0 ps, LP c0, .cells 0 [.yld 1], .cells 0 [.fn (.func 45) [] [.ptr 2 0 0, .ptr 3 0 0]], .cells ver (cI p), .dead, R6 ps] hG0 Tryd.func45 rfl (by kernel_rfl) (by simp [Tryd.ntmps45]) ?_ ?_ ?_ ?_ ?_ ?_ ?_
  · intro r hr
    simp only [List.mem_cons, List.not_mem_nil, or_false] at hr
    rcases hr with rfl | rfl | rfl | rfl | rfl | rfl
    · exact h4.symm
    · exact h0.symm
    · exact h1.symm
    · exact h2.symm
    · exact h3.symm
    · exact h6.symm
  · intro r hr
    match r, hr with
    | 0, hr => exact absurd (by simp) hr
    | 1, hr => exact absurd (by simp) hr
    | 2, hr => exact absurd (by simp) hr
    | 3, hr => exact absurd (by simp) hr
    | 4, hr => exact absurd (by simp) hr
    | 5, _ => simp
    | 6, hr => exact absurd (by simp) hr
    | r + 7, _ => simp
  · simp only [inL, inR, List.length_cons, List.length_nil, Nat.reduceAdd, Nat.reduceLT, decide_true, Bool.true_and, Bool.and_true]
    exact inE_mono (p := noRef) (fun r hr => by cases hr) (nodes_tree hh)
  · intro r hr
    simp only [List.mem_cons, List.not_mem_nil, or_false] at hr
    rcases hr with rfl | rfl | rfl | rfl | rfl | rfl
    · rw [h4]; exact tree_cI _ p
    · rw [h0]; exact R0_in rfl
    · rw [h1]; exact LP_in hc0 rfl
    · rw [h2]; rfl
    · rw [h3]; rfl
    · rw [h6]; exact R6_in
  · intro r hr h
    simp only [List.mem_cons, List.not_mem_nil, or_false] at hr
    simp only [List.length_cons, List.length_nil] at h
    omega
  · simp
  simp only [Tryd.ntmps45, enterF, Nat.reduceAdd, List.length_cons, List.length_nil]
  repeat' (first | refine u'1 fun _ _ => ?_ | refine u'2 ?_ | (first | refine u'3 ?_ | refine u'4 ?_ | refine u'5 fun _ _ _ _ => ?_ | (refine u'6 (fun hg => ?_) (fun hg => ?_) <;> try simp only [hg])) <;> simp only [wS, simprocAttr] | (refine u'7 ?_; try simp only [wE, simprocAttr]) | refine u'8 ?_ | refine u'9 ?_)
  refine ⟨_, _, clone_48 p hp (by omega) ver true _ (by simp only [wS, simprocAttr]) (by simp only [wS, simprocAttr]; try exact rfl), ?_⟩
  simp only [wS, simprocAttr, callV_yld]
  refine ⟨_, _, yldC_give [8] (yld_ok c0 hc0 ps (by omega) p _ (by simp only [wS, simprocAttr]) (by simp only [wS, simprocAttr]) (by simp only [wS, simprocAttr])) ⟨.inr (.osl (cs := cI p) (by simp) (by simp only [wS, simprocAttr]; try exact rfl) (by simp) (by intro e he; obtain ⟨x, _, rfl⟩ := List.mem_map.1 he; rfl) (by rw [List.drop_zero, List.take_of_length_le (by omega), cI_flat]) (tree_ints p)), trivial⟩ (by decide), ?_⟩
  simp only [wS, simprocAttr]
  repeat' (first | refine u'1 fun _ _ => ?_ | refine u'2 ?_ | (first | refine u'3 ?_ | refine u'4 ?_ | refine u'5 fun _ _ _ _ => ?_ | (refine u'6 (fun hg => ?_) (fun hg => ?_) <;> try simp only [hg])) <;> simp only [wS, simprocAttr] | (refine u'7 ?_; try simp only [wE, simprocAttr]) | refine u'8 ?_ | refine u'9 ?_)
  refine ⟨by kernel_rfl, ?_⟩
  repeat' (first | refine u'1 fun _ _ => ?_ | refine u'2 ?_ | (first | refine u'3 ?_ | refine u'4 ?_ | refine u'5 fun _ _ _ _ => ?_ | (refine u'6 (fun hg => ?_) (fun hg => ?_) <;> try simp only [hg])) <;> simp only [wS, simprocAttr, Bool.not_true, Bool.not_false, upd_three, h_wr3] | (refine u'7 ?_; try simp only [wE, simprocAttr]) | refine u'8 ?_ | refine u'9 ?_)
  have hll : es.length ≤ 6 := hl
  refine awp_loop_k (α := {i : Nat // i ≤ es.length}) (fun i => [(1, .osl 4 ver 0 p.length 1 true), (2, .ptr 2 0 0), (3, .ptr 3 0 0), (15, .sl bb es), (16, .int .i64 (es.length : Nat)), (17, .int .i64 (i.1 : Nat))]) (fun i => [R0 (ps ++ p :: visE (visL D) p 0 (es.take i.1)), LP c0, .cells 0 [.yld 1], .cells 0 [.fn (.func 45) [] [.ptr 2 0 0, .ptr 3 0 0]], .cells ver (cI p), .dead, R6 (ps ++ p :: visE (visL D) p 0 (es.take i.1)), .cells 0 [.int .i64 kk, .int .i64 nn, .int .i64 mm, .sl bb es]]) (fun i => es.length - i.1) ⟨0, Nat.zero_le _⟩ ⟨?_, .inr ⟨?_, ?_, ?_, ?_, ?_⟩⟩ ?_
  · simp only [wS, simprocAttr]; try exact rfl
  · simp only [wS, simprocAttr]; try exact rfl
  · simp only [wS, simprocAttr, visE, lastI, upd_three, h_wr3]; try exact rfl
  · exact fun g cs hg => inL_mono (p := noRef) (fun r hr => by cases hr) (hG0 g cs hg)
  · intro q hq
    simp only [List.mem_cons, List.not_mem_nil, or_false] at hq
    rcases hq with rfl | rfl | rfl | rfl | rfl | rfl <;> first | rfl | exact inE_mono (p := noRef) (fun r hr => by cases hr) (nodes_tree hh)
  · exact hin8 (ver := ver) (row4 := cI p) c0 hc0 [.int .i64 kk, .int .i64 nn, .int .i64 mm, .sl bb es] hctree _ (by exact tree_cI _ _)
  · rintro ⟨i, hi⟩ K3 hK3
    repeat' (first | refine u'1 fun _ _ => ?_ | refine u'2 ?_ | (first | refine u'3 ?_ | refine u'4 ?_ | refine u'5 fun _ _ _ _ => ?_ | (refine u'6 (fun hg => ?_) (fun hg => ?_) <;> try simp only [hg])) <;> simp only [wS, simprocAttr] | (refine u'7 ?_; try simp only [wE, simprocAttr]) | refine u'8 ?_ | refine u'9 ?_)
    refine ⟨fun h => ?_, fun h => ?_⟩
    · have hlt : i < es.length := by simpa using h
      obtain ⟨e, he⟩ : ∃ e, es[i]? = some e := ⟨_, List.getElem?_eq_getElem hlt⟩
      have hne := (hh e (List.mem_of_getElem? he)).up (Nat.le_of_lt_succ hd)
      have hne2 := hne
      have htk := visE_take (f := visL D) (p := p) he
      have hle := visE_le (visL D) p es (i + 1)
      rw [htk, List.length_append] at hle
      have e3 := wrap_succ (k := i) hlt (by omega)
      cases hne with
      | @mk _ d2 hd2 k2 n2 m2 b2 es2 hl2 hh2 =>
      repeat' (first | refine u'1 fun _ _ => ?_ | refine u'2 ?_ | (first | refine u'3 ?_ | refine u'4 ?_ | refine u'5 fun _ _ _ _ => ?_ | (refine u'6 (fun hg => ?_) (fun hg => ?_) <;> try simp only [hg])) <;> simp only [wS, simprocAttr, he, hlt] | (refine u'7 ?_; try simp only [wE, simprocAttr]) | refine u'8 ?_ | refine u'9 ?_)
      refine eff_full (sz := 1) (by' := 8) (mm := 1) (new := [.int .i64 (i : Int)]) (cs := cI p) (by kernel_rfl) ?ha (by omega) ?hb ?hc (by decide) (by omega) ?_
      case ha => simp only [wS, simprocAttr]
      case hb => simp only [wS, simprocAttr]; try exact rfl
      case hc => simp [srcA]
      have hcut : List.take (p.length * 1) (List.drop 0 (cI p)) = cI p := by rw [List.drop_zero, List.take_of_length_le (by omega)]
      rw [hcut]
      simp only [wS, simprocAttr]
      refine ⟨_, _, vs_snoc (vs_ren (b := 9) (by decide) ih) hc0 hne2 i (by omega) (ps := ps ++ p :: visE (visL D) p 0 (es.take i)) (by simp) (by simp only [List.length_append, List.length_cons]; omega) 0 _ (by simp only [wS, simprocAttr]) (by simp only [wS, simprocAttr]) (by simp only [wS, simprocAttr]) (by simp only [wS, simprocAttr]) (by simp only [wS, simprocAttr]; try exact rfl) (by simp only [wS, simprocAttr]), ?_⟩
      simp only [wS, simprocAttr]
      refine ⟨by kernel_rfl, ?_⟩
      repeat' (first | refine u'1 fun _ _ => ?_ | refine u'2 ?_ | (first | refine u'3 ?_ | refine u'4 ?_ | refine u'5 fun _ _ _ _ => ?_ | (refine u'6 (fun hg => ?_) (fun hg => ?_) <;> try simp only [hg])) <;> simp only [wS, simprocAttr, Bool.not_true, Bool.not_false, e3] | (refine u'7 ?_; try simp only [wE, simprocAttr]) | refine u'8 ?_ | refine u'9 ?_)
      refine hK3.go ⟨i + 1, hlt⟩ ⟨?_, .inr ⟨?_, ?_, ?_, ?_, ?_⟩⟩ (by simp only; omega)
      · simp only [wS, simprocAttr]; try exact rfl
      · simp only [wS, simprocAttr]; try exact rfl
      · simp only [wS, simprocAttr, htk, List.append_assoc, lastI]; try exact rfl
      · exact fun g cs hg => inL_mono (p := noRef) (fun r hr => by cases hr) (hG0 g cs hg)
      · intro q hq
        simp only [List.mem_cons, List.not_mem_nil, or_false] at hq
        rcases hq with rfl | rfl | rfl | rfl | rfl | rfl <;> first | rfl | exact inE_mono (p := noRef) (fun r hr => by cases hr) (nodes_tree hh)
      · exact hin8 (ver := ver) (row4 := cI p) c0 hc0 [.int .i64 kk, .int .i64 nn, .int .i64 mm, .sl bb es] hctree _ (by exact tree_cI _ _)
    · have hge : i = es.length := by simp at h; omega
      repeat' (first | refine u'1 fun _ _ => ?_ | refine u'2 ?_ | (first | refine u'3 ?_ | refine u'4 ?_ | refine u'5 fun _ _ _ _ => ?_ | (refine u'6 (fun hg => ?_) (fun hg => ?_) <;> try simp only [hg])) <;> simp only [wS, simprocAttr] | (refine u'7 ?_; try simp only [wE, simprocAttr]) | refine u'8 ?_ | refine u'9 ?_)
      refine body_ret1 rfl ?_
      simp only [wS, simprocAttr, inR, hge, List.take_length, upd_three, kidsC]
      intro r hr
      simp only [List.mem_cons, List.not_mem_nil, or_false] at hr
      rcases hr with rfl | rfl | rfl | rfl | rfl | rfl
      · exact ⟨h4.symm, by exact tree_cI _ p⟩
      · exact ⟨rfl, R0_in rfl⟩
      · exact ⟨h1.symm, LP_in hc0 rfl⟩
      · exact ⟨h2.symm, rfl⟩
      · exact ⟨h3.symm, rfl⟩
      · exact ⟨rfl, R6_in⟩
set_option maxHeartbeats 4000000 in
theorem vs_room {D : Nat} (ih : VSat 4 D) (c0 : List AV) (hc0 : inL noRef c0 = true) (c : List AV) (hc : NodeV (D + 1) c) (p : List Int) (hp : p ≠ []) (hpl : p.length + (D + 1) ≤ 100000) (ps : List (List Int)) (hps : ps ≠ []) (hlen : ps.length + (visL (D + 1) p c).length ≤ 4398046511104) (ver : Nat) (rows : Nat → ARow)
    (h0 : rows 0 = R0 ps) (h1 : rows 1 = LP c0) (h2 : rows 2 = .cells 0 [.yld 1]) (h3 : rows 3 = .cells 0 [.fn (.func 45) [] [.ptr 2 0 0, .ptr 3 0 0]]) (h4 : rows 4 = .cells ver (cI p)) (h6 : rows 6 = R6 ps) :
    CallC Tryd.prog G0 45 [.agg c, .rsl 4 ver 0 p.length 1, .ptr 2 0 0, .ptr 3 0 0] rows [4, 0, 1, 2, 3, 6] ⟨.bool true, [(0, R0 (ps ++ visL (D + 1) p c)), (6, R6 (ps ++ visL (D + 1) p c)), (4, .cells ver (cI p ++ lastI (kidsC c).length))]⟩ := by
  have hnode := hc
  have hctree := hc.tree
  cases hc with
  | @mk _ d hd kk nn mm bb es hl hh =>
  have hPne : PE ps ≠ [] := fun e => hps ((PE_nil ps).1 e)
  have hvis : visL (D + 1) p [.int .i64 kk, .int .i64 nn, .int .i64 mm, .sl bb es] = p :: visE (visL D) p 0 es := rfl
  rw [hvis] at hlen ⊢
  simp only [List.length_cons] at hlen
  have hcl := cI_len p
  have hpos : 0 < p.length := List.length_pos_iff.2 hp
  refine callC_of_body [R0 ps, LP c0, .cells 0 [.yld 1], .cells 0 [.fn (.func 45) [] [.ptr 2 0 0, .ptr 3 0 0]], .cells ver (cI p), .dead, R6 ps] hG0 Tryd.func45 rfl (by kernel_rfl) (by simp [Tryd.ntmps45]) ?_ ?_ ?_ ?_ ?_ ?_ ?_
  · intro r hr
    simp only [List.mem_cons, List.not_mem_nil, or_false] at hr
    rcases hr with rfl | rfl | rfl | rfl | rfl | rfl
    · exact h4.symm
    · exact h0.symm
    · exact h1.symm
    · exact h2.symm
    · exact h3.symm
    · exact h6.symm
  · intro r hr
    match r, hr with
    | 0, hr => exact absurd (by simp) hr
    | 1, hr => exact absurd (by simp) hr
    | 2, hr => exact absurd (by simp) hr
    | 3, hr => exact absurd (by simp) hr
    | 4, hr => exact absurd (by simp) hr
    | 5, _ => simp
    | 6, hr => exact absurd (by simp) hr
    | r + 7, _ => simp
  · simp only [inL, inR, List.length_cons, List.length_nil, Nat.reduceAdd, Nat.reduceLT, decide_true, Bool.true_and, Bool.and_true]
    exact inE_mono (p := noRef) (fun r hr => by cases hr) (nodes_tree hh)
  · intro r hr
    simp only [List.mem_cons, List.not_mem_nil, or_false] at hr
    rcases hr with rfl | rfl | rfl | rfl | rfl | rfl
    · rw [h4]; exact tree_cI _ p
    · rw [h0]; exact R0_in rfl
    · rw [h1]; exact LP_in hc0 rfl
    · rw [h2]; rfl
    · rw [h3]; rfl
    · rw [h6]; exact R6_in
  · intro r hr h
    simp only [List.mem_cons, List.not_mem_nil, or_false] at hr
    simp only [List.length_cons, List.length_nil] at h
    omega
  · simp
  simp only [Tryd.ntmps45, enterF, Nat.reduceAdd, List.length_cons, List.length_nil]
  repeat' (first | refine u'1 fun _ _ => ?_ | refine u'2 ?_ | (first | refine u'3 ?_ | refine u'4 ?_ | refine u'5 fun _ _ _ _ => ?_ | (refine u'6 (fun hg => ?_) (fun hg => ?_) <;> try simp only [hg])) <;> simp only [wS, simprocAttr] | (refine u'7 ?_; try simp only [wE, simprocAttr]) | refine u'8 ?_ | refine u'9 ?_)
  refine ⟨_, _, callC_soft (clone_48 p hp (by omega) ver false _ (by simp only [wS, simprocAttr]) (by simp only [wS, simprocAttr]; try exact rfl)), ?_⟩
  simp only [wS, simprocAttr, callV_yld]
  refine ⟨_, _, yldC_give [8] (yld_ok c0 hc0 ps (by omega) p _ (by simp only [wS, simprocAttr]) (by simp only [wS, simprocAttr]) (by simp only [wS, simprocAttr])) ⟨.inr (.osl (cs := cI p) (by simp) (by simp only [wS, simprocAttr]; try exact rfl) (by simp) (by intro e he; obtain ⟨x, _, rfl⟩ := List.mem_map.1 he; rfl) (by rw [List.drop_zero, List.take_of_length_le (by omega), cI_flat]) (tree_ints p)), trivial⟩ (by decide), ?_⟩
  simp only [wS, simprocAttr]
  repeat' (first | refine u'1 fun _ _ => ?_ | refine u'2 ?_ | (first | refine u'3 ?_ | refine u'4 ?_ | refine u'5 fun _ _ _ _ => ?_ | (refine u'6 (fun hg => ?_) (fun hg => ?_) <;> try simp only [hg])) <;> simp only [wS, simprocAttr] | (refine u'7 ?_; try simp only [wE, simprocAttr]) | refine u'8 ?_ | refine u'9 ?_)
  refine ⟨by kernel_rfl, ?_⟩
  repeat' (first | refine u'1 fun _ _ => ?_ | refine u'2 ?_ | (first | refine u'3 ?_ | refine u'4 ?_ | refine u'5 fun _ _ _ _ => ?_ | (refine u'6 (fun hg => ?_) (fun hg => ?_) <;> try simp only [hg])) <;> simp only [wS, simprocAttr, Bool.not_true, Bool.not_false, upd_three, h_wr3] | (refine u'7 ?_; try simp only [wE, simprocAttr]) | refine u'8 ?_ | refine u'9 ?_)
  have hll : es.length ≤ 6 := hl
  refine awp_loop_k (α := {i : Nat // i ≤ es.length}) (fun i => [(1, .rsl 4 ver 0 p.length 1), (2, .ptr 2 0 0), (3, .ptr 3 0 0), (15, .sl bb es), (16, .int .i64 (es.length : Nat)), (17, .int .i64 (i.1 : Nat))]) (fun i => [R0 (ps ++ p :: visE (visL D) p 0 (es.take i.1)), LP c0, .cells 0 [.yld 1], .cells 0 [.fn (.func 45) [] [.ptr 2 0 0, .ptr 3 0 0]], .cells ver (cI p ++ lastI i.1), .dead, R6 (ps ++ p :: visE (visL D) p 0 (es.take i.1)), .cells 0 [.int .i64 kk, .int .i64 nn, .int .i64 mm, .sl bb es]]) (fun i => es.length - i.1) ⟨0, Nat.zero_le _⟩ ⟨?_, .inr ⟨?_, ?_, ?_, ?_, ?_⟩⟩ ?_
  · simp only [wS, simprocAttr]; try exact rfl
  · simp only [wS, simprocAttr]; try exact rfl
  · simp only [wS, simprocAttr, visE, lastI, upd_three, h_wr3]; try exact rfl
  · exact fun g cs hg => inL_mono (p := noRef) (fun r hr => by cases hr) (hG0 g cs hg)
  · intro q hq
    simp only [List.mem_cons, List.not_mem_nil, or_false] at hq
    rcases hq with rfl | rfl | rfl | rfl | rfl | rfl <;> first | rfl | exact inE_mono (p := noRef) (fun r hr => by cases hr) (nodes_tree hh)
  · exact hin8 (ver := ver) (row4 := cI p ++ lastI 0) c0 hc0 [.int .i64 kk, .int .i64 nn, .int .i64 mm, .sl bb es] hctree _ (by exact inL_append (tree_cI _ _) (lastI_tree _))
  · rintro ⟨i, hi⟩ K3 hK3
    repeat' (first | refine u'1 fun _ _ => ?_ | refine u'2 ?_ | (first | refine u'3 ?_ | refine u'4 ?_ | refine u'5 fun _ _ _ _ => ?_ | (refine u'6 (fun hg => ?_) (fun hg => ?_) <;> try simp only [hg])) <;> simp only [wS, simprocAttr] | (refine u'7 ?_; try simp only [wE, simprocAttr]) | refine u'8 ?_ | refine u'9 ?_)
    refine ⟨fun h => ?_, fun h => ?_⟩
    · have hlt : i < es.length := by simpa using h
      obtain ⟨e, he⟩ : ∃ e, es[i]? = some e := ⟨_, List.getElem?_eq_getElem hlt⟩
      have hne := (hh e (List.mem_of_getElem? he)).up (Nat.le_of_lt_succ hd)
      have hne2 := hne
      have htk := visE_take (f := visL D) (p := p) he
      have hle := visE_le (visL D) p es (i + 1)
      rw [htk, List.length_append] at hle
      have e3 := wrap_succ (k := i) hlt (by omega)
      cases hne with
      | @mk _ d2 hd2 k2 n2 m2 b2 es2 hl2 hh2 =>
      repeat' (first | refine u'1 fun _ _ => ?_ | refine u'2 ?_ | (first | refine u'3 ?_ | refine u'4 ?_ | refine u'5 fun _ _ _ _ => ?_ | (refine u'6 (fun hg => ?_) (fun hg => ?_) <;> try simp only [hg])) <;> simp only [wS, simprocAttr, he, hlt] | (refine u'7 ?_; try simp only [wE, simprocAttr]) | refine u'8 ?_ | refine u'9 ?_)
      refine eff_room (sz := 1) (by' := 8) (new := [.int .i64 (i : Int)]) (cs := cI p ++ lastI i) (by kernel_rfl) ?ha (by rw [List.length_append]; omega) ?hc ?_
      case ha => simp only [wS, simprocAttr]
      case hc => simp [srcA]
      rw [last_cut]
      simp only [wS, simprocAttr]
      refine ⟨_, _, vs_snoc ih hc0 hne2 i (by omega) (ps := ps ++ p :: visE (visL D) p 0 (es.take i)) (by simp) (by simp only [List.length_append, List.length_cons]; omega) ver _ (by simp only [wS, simprocAttr]) (by simp only [wS, simprocAttr]) (by simp only [wS, simprocAttr]) (by simp only [wS, simprocAttr]) (by simp only [wS, simprocAttr]; try exact rfl) (by simp only [wS, simprocAttr]), ?_⟩
      simp only [wS, simprocAttr]
      refine ⟨by kernel_rfl, ?_⟩
      repeat' (first | refine u'1 fun _ _ => ?_ | refine u'2 ?_ | (first | refine u'3 ?_ | refine u'4 ?_ | refine u'5 fun _ _ _ _ => ?_ | (refine u'6 (fun hg => ?_) (fun hg => ?_) <;> try simp only [hg])) <;> simp only [wS, simprocAttr, Bool.not_true, Bool.not_false, e3] | (refine u'7 ?_; try simp only [wE, simprocAttr]) | refine u'8 ?_ | refine u'9 ?_)
      refine hK3.go ⟨i + 1, hlt⟩ ⟨?_, .inr ⟨?_, ?_, ?_, ?_, ?_⟩⟩ (by simp only; omega)
      · simp only [wS, simprocAttr]; try exact rfl
      · simp only [wS, simprocAttr]; try exact rfl
      · simp only [wS, simprocAttr, htk, List.append_assoc, lastI]; try exact rfl
      · exact fun g cs hg => inL_mono (p := noRef) (fun r hr => by cases hr) (hG0 g cs hg)
      · intro q hq
        simp only [List.mem_cons, List.not_mem_nil, or_false] at hq
        rcases hq with rfl | rfl | rfl | rfl | rfl | rfl <;> first | rfl | exact inE_mono (p := noRef) (fun r hr => by cases hr) (nodes_tree hh)
      · exact hin8 (ver := ver) (row4 := cI p ++ lastI (i + 1)) c0 hc0 [.int .i64 kk, .int .i64 nn, .int .i64 mm, .sl bb es] hctree _ (by exact inL_append (tree_cI _ _) (lastI_tree _))
    · have hge : i = es.length := by simp at h; omega
      repeat' (first | refine u'1 fun _ _ => ?_ | refine u'2 ?_ | (first | refine u'3 ?_ | refine u'4 ?_ | refine u'5 fun _ _ _ _ => ?_ | (refine u'6 (fun hg => ?_) (fun hg => ?_) <;> try simp only [hg])) <;> simp only [wS, simprocAttr] | (refine u'7 ?_; try simp only [wE, simprocAttr]) | refine u'8 ?_ | refine u'9 ?_)
      refine body_ret1 rfl ?_
      simp only [wS, simprocAttr, inR, hge, List.take_length, upd_three, kidsC]
      intro r hr
      simp only [List.mem_cons, List.not_mem_nil, or_false] at hr
      rcases hr with rfl | rfl | rfl | rfl | rfl | rfl
      · exact ⟨rfl, by show inL _ (cI p ++ lastI es.length) = true; exact inL_append (tree_cI _ _) (lastI_tree _)⟩
      · exact ⟨rfl, R0_in rfl⟩
      · exact ⟨h1.symm, LP_in hc0 rfl⟩
      · exact ⟨h2.symm, rfl⟩
      · exact ⟨h3.symm, rfl⟩
      · exact ⟨rfl, R6_in⟩
theorem vs_step {D : Nat} (ih : VSat 4 D) : VSat 4 (D + 1) := by
  intro c0 hc0 c hc p hp hpl ps hps hlen ver rows h0 h1 h2 h3 h4 h6
  have hl := cI_len p
  have m0 : ∀ (w : List (Nat × ARow)) q, q ≠ 0 → q ≠ 6 → upd rows [(0, R0 (ps ++ visL (D + 1) p c)), (6, R6 (ps ++ visL (D + 1) p c))] q = rows q := fun _ q a b => by rw [upd_two, if_neg b, if_neg a]
  refine callC_split (pre := [.agg c]) (post := [.ptr 2 0 0, .ptr 3 0 0]) (r := 4) (cs := cI p) (vs_full ih c0 hc0 c hc p hp hpl ps hps hlen ver rows h0 h1 h2 h3 h4 h6) (vs_room ih c0 hc0 c hc p hp hpl ps hps hlen ver rows h0 h1 h2 h3 h4 h6) (by simp) h4 ?_ ?_ ?_ ?_ ?_ ?_
  · intro q hq
    simp only [List.mem_cons, List.not_mem_nil, or_false] at hq
    rcases hq with rfl | rfl <;> simp
  · exact ⟨cI p, by rw [upd_two]; exact h4, by rw [List.take_length]⟩
  · exact ⟨_, by rw [upd_three, if_pos rfl], by rw [List.take_append_of_le_length (Nat.le_refl _), List.take_length]⟩
  · intro q _ _; rfl
  · intro q _ hq
    rw [upd_three, if_neg hq, upd_two]
  · rw [upd_two]; exact h4
theorem vs_ok : ∀ D, VSat 4 D
  | 0 => fun c0 hc0 c hc => by
    cases hc with
    | @mk _ d hd => exact absurd hd (Nat.not_lt_zero _)
  | D + 1 => vs_step (vs_ok D)
end Go.Proofs.YtpdibmopbpcfdaaDoor
