import Derived.Test.YtpdibmopbpcfdaaDoorS5
set_option linter.unusedVariables false
set_option linter.unusedSimpArgs false
namespace Go.Proofs.YtpdibmopbpcfdaaDoor
open Go.AM
set_option maxRecDepth 100000
theorem nodes_all {D : Nat} {es : List (List AV)} (h : ∀ e ∈ es, NodeV D e) : es.all (fun e => decide (e.length = 4)) = true := by
  rw [List.all_eq_true]
  intro e he
  simpa using (h e he).len
theorem clone60_nil (b : Bool) : Pure Tryd.prog G0 60 [.sl b []] (.sl false []) := by
  refine pure_of_bodyW hG0 Tryd.func60 rfl (by kernel_rfl) (by simp [Tryd.ntmps60]) (by simp [inL, inR, inE]) (by simp [inR, inE]) ?_
  simp only [Tryd.ntmps60, enterF, Nat.reduceAdd]
  repeat' (first | refine u'1 fun _ _ => ?_ | refine u'2 ?_ | (first | refine u'3 ?_ | refine u'4 ?_ | refine u'5 fun _ _ _ _ => ?_ | (refine u'6 (fun hg => ?_) (fun hg => ?_) <;> try simp only [hg])) <;> simp only [wS, simprocAttr, List.isEmpty_nil, Bool.not_true] | (refine u'7 ?_; try simp only [wE, simprocAttr]) | refine u'8 ?_ | refine u'9 ?_)
  refine ⟨?_, ?_⟩ <;> repeat' (first | refine u'1 fun _ _ => ?_ | refine u'2 ?_ | (first | refine u'3 ?_ | refine u'4 ?_ | refine u'5 fun _ _ _ _ => ?_ | (refine u'6 (fun hg => ?_) (fun hg => ?_) <;> try simp only [hg])) <;> simp only [wS, simprocAttr] | (refine u'7 ?_; try simp only [wE, simprocAttr]) | refine u'8 ?_ | refine u'9 ?_)
  · refine body_ret1 rfl ?_
    simp only [wS, simprocAttr]
    rfl
  · refine eff_none (sz := 4) (by' := 48) (new := []) (by kernel_rfl) (by simp) (by simp [srcA]) (by simp) ?_
    simp only [wS, simprocAttr]
    repeat' (first | refine u'1 fun _ _ => ?_ | refine u'2 ?_ | (first | refine u'3 ?_ | refine u'4 ?_ | refine u'5 fun _ _ _ _ => ?_ | (refine u'6 (fun hg => ?_) (fun hg => ?_) <;> try simp only [hg])) <;> simp only [wS, simprocAttr] | (refine u'7 ?_; try simp only [wE, simprocAttr]) | refine u'8 ?_ | refine u'9 ?_)
    refine body_ret1 rfl ?_
    simp only [wS, simprocAttr]
    rfl
theorem clone60_own {D : Nat} (b : Bool) (es : List (List AV)) (hne : es ≠ []) (h : ∀ e ∈ es, NodeV D e) (hl : es.length ≤ 6) : OwnR Tryd.prog G0 60 [.sl b es] es.length 4 false es.flatten := by
  refine own_of_body hG0 Tryd.func60 rfl (by kernel_rfl) (by simp [Tryd.ntmps60]) (by simp only [inL, inR, nodes_tree h, Bool.and_self]) (inL_flat (nodes_tree h)) ?_
  simp only [Tryd.ntmps60, enterF, Nat.reduceAdd]
  have hem : es.isEmpty = false := by simpa using hne
  have hpos : 0 < es.length := List.length_pos_iff.2 hne
  repeat' (first | refine u'1 fun _ _ => ?_ | refine u'2 ?_ | (first | refine u'3 ?_ | refine u'4 ?_ | refine u'5 fun _ _ _ _ => ?_ | (refine u'6 (fun hg => ?_) (fun hg => ?_) <;> try simp only [hg])) <;> simp only [wS, simprocAttr, hem, Bool.not_false] | (refine u'7 ?_; try simp only [wE, simprocAttr]) | refine u'8 ?_ | refine u'9 ?_)
  refine eff_new (sz := 4) (by' := 48) (mm := es.length) (new := es.flatten) (es := []) (by kernel_rfl) ?hb (by simp) (src_sl (nodes_all h)) (by omega) (by simp; omega) ?_
  case hb => simp only [wS, simprocAttr]; try exact rfl
  simp only [wS, simprocAttr]
  repeat' (first | refine u'1 fun _ _ => ?_ | refine u'2 ?_ | (first | refine u'3 ?_ | refine u'4 ?_ | refine u'5 fun _ _ _ _ => ?_ | (refine u'6 (fun hg => ?_) (fun hg => ?_) <;> try simp only [hg])) <;> simp only [wS, simprocAttr] | (refine u'7 ?_; try simp only [wE, simprocAttr]) | refine u'8 ?_ | refine u'9 ?_)
  refine body_ret1 rfl ?_
  simp only [wS, simprocAttr]
  exact ⟨0, 0, rfl, rfl⟩
theorem flat_set {L : List (List AV)} (h : ∀ e ∈ L, e.length = 4) {i : Nat} (hi : i < L.length) {x : List AV} (hx : x.length = 4) : List.take (i * 4) L.flatten ++ x ++ List.drop (i * 4 + 4) L.flatten = (L.set i x).flatten := by
  induction L generalizing i with
  | nil => simp at hi
  | cons a L ih =>
    have ha : a.length = 4 := h a (by simp)
    cases i with
    | zero => simp only [List.set_cons_zero, List.flatten_cons, Nat.zero_mul, List.take_zero, List.nil_append, Nat.zero_add]; rw [List.drop_left' ha]
    | succ i =>
      have := ih (fun e he => h e (by simp [he])) (by simpa using hi)
      simp only [List.set_cons_succ, List.flatten_cons]
      rw [← this, show (i + 1) * 4 = a.length + i * 4 by omega, show a.length + i * 4 + 4 = a.length + (i * 4 + 4) by omega, List.take_length_add_append, List.drop_length_add_append]
      simp only [List.append_assoc]
def clL (es : List (List AV)) (i : Nat) : List (List AV) := (es.take i).map wkL ++ es.drop i
theorem clL_len (es : List (List AV)) {i : Nat} (h : i ≤ es.length) : (clL es i).length = es.length := by simp [clL]; omega
theorem clL_get {es : List (List AV)} {i : Nat} {e : List AV} (h : es[i]? = some e) : (clL es i)[i]? = some e := by
  have hi := (List.getElem?_eq_some_iff.1 h).1
  have hl : ((es.take i).map wkL).length = i := by simp; omega
  rw [clL, List.getElem?_append_right (by omega), hl, Nat.sub_self, List.getElem?_drop, Nat.add_zero, h]
theorem clL_set {es : List (List AV)} {i : Nat} {e : List AV} (h : es[i]? = some e) : (clL es i).set i (wkL e) = clL es (i + 1) := by
  have hi := (List.getElem?_eq_some_iff.1 h).1
  have hl : ((es.take i).map wkL).length = i := by simp; omega
  have hd : es.drop i = e :: es.drop (i + 1) := by
    obtain ⟨q1, q2⟩ := List.getElem?_eq_some_iff.1 h
    rw [List.drop_eq_getElem_cons q1, q2]
  rw [clL, clL, List.set_append_right _ _ (by omega), hl, Nat.sub_self, hd, List.set_cons_zero, map_take h, List.append_assoc]
  rfl
theorem clL_nodes {D : Nat} {es : List (List AV)} (h : ∀ e ∈ es, NodeV D e) (i : Nat) : ∀ e ∈ clL es i, NodeV D e := fun e he => by
  rcases List.mem_append.1 he with he | he
  · obtain ⟨x, hx, rfl⟩ := List.mem_map.1 he
    exact nodeV_wk (h x (List.mem_of_mem_take hx))
  · exact h e (List.mem_of_mem_drop he)
set_option maxHeartbeats 4000000 in
theorem clone_40 : ∀ (D : Nat) (c : List AV), NodeV D c → Pure Tryd.prog G0 40 [.agg c] (.agg (wkL c))
  | 0, c, hc => by
    cases hc with
    | @mk _ d hd => exact absurd hd (Nat.not_lt_zero _)
  | D + 1, c, hc => by
    have hwt := (nodeV_wk hc).tree
    have ih := clone_40 D
    cases hc with
    | @mk _ d hd kk nn mm bb es hl hh =>
    have hes : ∀ e ∈ es, NodeV D e := fun e he => (hh e he).up (Nat.le_of_lt_succ hd)
    have ew1 : IntKind.i64.wrap 1 = 1 := rfl
    refine pure_of_bodyW hG0 Tryd.func40 rfl (by kernel_rfl) (by simp [Tryd.ntmps40]) (by simp only [inL, inR, nodes_tree hh, Bool.and_self]) (by simp only [inR]; exact hwt) ?_
    simp only [Tryd.ntmps40, enterF, Nat.reduceAdd]
    refine awp_end ?_
    by_cases hne : es = []
    · subst hne
      repeat' (first | refine u'1 fun _ _ => ?_ | refine u'2 ?_ | (first | refine u'3 ?_ | refine u'4 ?_ | refine u'5 fun _ _ _ _ => ?_ | (refine u'6 (fun hg => ?_) (fun hg => ?_) <;> try simp only [hg])) <;> simp only [wS, simprocAttr] | (refine u'7 ?_; try simp only [wE, simprocAttr]) | refine u'8 ?_ | refine u'9 ?_)
      refine callR_tree hG0 (clone60_nil bb) ?_
      simp only [wS, simprocAttr]
      repeat' (first | refine u'1 fun _ _ => ?_ | refine u'2 ?_ | (first | refine u'3 ?_ | refine u'4 ?_ | refine u'5 fun _ _ _ _ => ?_ | (refine u'6 (fun hg => ?_) (fun hg => ?_) <;> try simp only [hg])) <;> simp only [wS, simprocAttr] | (refine u'7 ?_; try simp only [wE, simprocAttr]) | refine u'8 ?_ | refine u'9 ?_)
      refine awp_loop_k (α := Unit) (fun _ => [(1, .ptr 0 0 0), (2, .ptr 1 0 0), (11, .int .i64 0), (12, .int .i64 0)]) (fun _ => [.cells 0 [.int .i64 kk, .int .i64 nn, .int .i64 mm, .sl false []], .cells 0 [.int .i64 0, .int .i64 0, .int .i64 0, .sl true []]]) (fun _ => 0) () ⟨?_, .inl ?_⟩ ?_
      · simp only [wS, simprocAttr]; try exact rfl
      · simp only [wS, simprocAttr]; try exact rfl
      · rintro _ K3 hK3
        repeat' (first | refine u'1 fun _ _ => ?_ | refine u'2 ?_ | (first | refine u'3 ?_ | refine u'4 ?_ | refine u'5 fun _ _ _ _ => ?_ | (refine u'6 (fun hg => ?_) (fun hg => ?_) <;> try simp only [hg])) <;> simp only [wS, simprocAttr] | (refine u'7 ?_; try simp only [wE, simprocAttr]) | refine u'8 ?_ | refine u'9 ?_)
        refine ⟨_, ref_refl, body_retC (v := .agg [.int .i64 kk, .int .i64 nn, .int .i64 mm, .sl false []]) rfl ?_ ?_⟩
        · simp only [wS, simprocAttr]
        · rw [wk_node]; rfl
    · repeat' (first | refine u'1 fun _ _ => ?_ | refine u'2 ?_ | (first | refine u'3 ?_ | refine u'4 ?_ | refine u'5 fun _ _ _ _ => ?_ | (refine u'6 (fun hg => ?_) (fun hg => ?_) <;> try simp only [hg])) <;> simp only [wS, simprocAttr] | (refine u'7 ?_; try simp only [wE, simprocAttr]) | refine u'8 ?_ | refine u'9 ?_)
      refine ⟨_, _, clone60_own bb es hne hes hl _ 2 (by simp only [wS, simprocAttr]; try exact rfl), ?_⟩
      simp only [wS, simprocAttr]
      repeat' (first | refine u'1 fun _ _ => ?_ | refine u'2 ?_ | (first | refine u'3 ?_ | refine u'4 ?_ | refine u'5 fun _ _ _ _ => ?_ | (refine u'6 (fun hg => ?_) (fun hg => ?_) <;> try simp only [hg])) <;> simp only [wS, simprocAttr] | (refine u'7 ?_; try simp only [wE, simprocAttr]) | refine u'8 ?_ | refine u'9 ?_)
      refine awp_loop_k (α := {i : Nat // i ≤ es.length}) (fun i => [(1, .ptr 0 0 0), (2, .ptr 1 0 0), (10, .osl 2 0 0 es.length 4 false), (11, .int .i64 (es.length : Nat)), (12, .int .i64 (i.1 : Nat))]) (fun i => [.cells 0 [.int .i64 kk, .int .i64 nn, .int .i64 mm, .osl 2 0 0 es.length 4 false], .cells 0 [.int .i64 0, .int .i64 0, .int .i64 0, .sl true []], .cells 0 (clL es i.1).flatten]) (fun i => es.length - i.1) ⟨0, Nat.zero_le _⟩ ⟨?_, .inl ?_⟩ ?_
      · simp only [wS, simprocAttr]; try exact rfl
      · simp only [wS, simprocAttr, clL]; try exact rfl
      · rintro ⟨i, hi⟩ K3 hK3
        repeat' (first | refine u'1 fun _ _ => ?_ | refine u'2 ?_ | (first | refine u'3 ?_ | refine u'4 ?_ | refine u'5 fun _ _ _ _ => ?_ | (refine u'6 (fun hg => ?_) (fun hg => ?_) <;> try simp only [hg])) <;> simp only [wS, simprocAttr] | (refine u'7 ?_; try simp only [wE, simprocAttr]) | refine u'8 ?_ | refine u'9 ?_)
        refine ⟨fun h => ?_, fun h => ?_⟩
        · have hlt : i < es.length := by simpa using h
          obtain ⟨e, he⟩ : ∃ e, es[i]? = some e := ⟨_, List.getElem?_eq_getElem hlt⟩
          have hne2 := hes e (List.mem_of_getElem? he)
          have hce := ih e hne2
          have hLn := clL_nodes hes i
          have hL4 : ∀ e ∈ clL es i, e.length = 4 := fun e he => (hLn e he).len
          have hfl := flat_at hL4 (clL_get he)
          have hfll : (clL es i).flatten.length = es.length * 4 := by rw [flat_sz hL4, clL_len es hi]
          have hset := flat_set hL4 (i := i) (by rw [clL_len es hi]; exact hlt) (nodeV_wk hne2).len
          rw [clL_set he] at hset
          have e3 := wrap_succ (k := i) hlt (by omega)
          cases hne2 with
          | @mk _ d2 hd2 k2 n2 m2 b2 es2 hl2 hh2 =>
          rw [wk_node] at hce hset
          rw [List.cons_append, List.cons_append, List.cons_append, List.cons_append, List.nil_append] at hfl
          have hb1 : i * 4 + 4 ≤ es.length * 4 := by omega
          repeat' (first | refine u'1 fun _ _ => ?_ | refine u'2 ?_ | (first | refine u'3 ?_ | refine u'4 ?_ | refine u'5 fun _ _ _ _ => ?_ | (refine u'6 (fun hg => ?_) (fun hg => ?_) <;> try simp only [hg])) <;> simp only [wS, simprocAttr, hfl, hlt, hfll] | (refine u'7 ?_; try simp only [wE, simprocAttr]) | refine u'8 ?_ | refine u'9 ?_)
          refine callR_tree hG0 hce ?_
          simp only [wS, simprocAttr, hfll, hlt, hb1, hfl]
          repeat' (first | refine u'1 fun _ _ => ?_ | refine u'2 ?_ | (first | refine u'3 ?_ | refine u'4 ?_ | refine u'5 fun _ _ _ _ => ?_ | (refine u'6 (fun hg => ?_) (fun hg => ?_) <;> try simp only [hg])) <;> simp only [wS, simprocAttr, hfll, hlt, hb1, hfl] | (refine u'7 ?_; try simp only [wE, simprocAttr]) | refine u'8 ?_ | refine u'9 ?_)
          refine ⟨by kernel_rfl, ?_⟩
          repeat' (first | refine u'1 fun _ _ => ?_ | refine u'2 ?_ | (first | refine u'3 ?_ | refine u'4 ?_ | refine u'5 fun _ _ _ _ => ?_ | (refine u'6 (fun hg => ?_) (fun hg => ?_) <;> try simp only [hg])) <;> simp only [wS, simprocAttr, e3] | (refine u'7 ?_; try simp only [wE, simprocAttr]) | refine u'8 ?_ | refine u'9 ?_)
          refine hK3.go ⟨i + 1, hlt⟩ ⟨?_, .inr ⟨Nat.zero_le _, ?_, ?_, ?_, ?_⟩⟩ (by simp only; omega)
          · simp only [wS, simprocAttr]; try exact rfl
          · simp only [wS, simprocAttr, hset]; try exact rfl
          · exact fun g cs hg => inL_mono (p := noRef) (fun r hr => by cases hr) (hG0 g cs hg)
          · intro z hz
            simp only [List.mem_cons, List.not_mem_nil, or_false] at hz
            rcases hz with rfl | rfl | rfl | rfl | rfl <;> rfl
          · simp only [List.all_cons, List.all_nil, Bool.and_true, Bool.and_eq_true]
            exact ⟨rfl, rfl, inL_flat (inE_mono (p := noRef) (fun r hr => by cases hr) (nodes_tree (clL_nodes hes (i + 1))))⟩
        · have hge : i = es.length := by simp at h; omega
          have hcl : clL es es.length = es.map wkL := by rw [clL, List.take_length, List.drop_length, List.append_nil]
          repeat' (first | refine u'1 fun _ _ => ?_ | refine u'2 ?_ | (first | refine u'3 ?_ | refine u'4 ?_ | refine u'5 fun _ _ _ _ => ?_ | (refine u'6 (fun hg => ?_) (fun hg => ?_) <;> try simp only [hg])) <;> simp only [wS, simprocAttr] | (refine u'7 ?_; try simp only [wE, simprocAttr]) | refine u'8 ?_ | refine u'9 ?_)
          refine ⟨_, ref_freeze [2] [(2, .ptr 1 0 0)] [.cells 0 [.int .i64 kk, .int .i64 nn, .int .i64 mm, .osl 2 0 0 es.length 4 false], .cells 0 [.int .i64 kk, .int .i64 nn, .int .i64 mm, .sl false (es.map wkL)], .dead] rfl ⟨.inl ?_, trivial⟩ ?_, body_retC (v := .agg [.int .i64 kk, .int .i64 nn, .int .i64 mm, .sl false (es.map wkL)]) rfl ?_ ?_⟩
          · simp only [wS, simprocAttr]
          · refine ⟨.inr ⟨by simp, .inl rfl⟩, .inr ⟨by simp, .inr ⟨0, _, _, rfl, rfl, .inl rfl, .inl rfl, .inl rfl, .inr (.osl (cs := (es.map wkL).flatten) (by simp) (by simp only [wS, simprocAttr, hge, hcl]) (by rw [List.length_map]) (fun e he => (nodes_wk hes e he).len) ?_ (nodes_tree (nodes_wk hes))), trivial⟩⟩, .inl ⟨by simp, rfl, by simp⟩, trivial⟩
            rw [List.drop_zero, List.take_of_length_le (by rw [flat_sz (sz := 4) fun e he => (nodes_wk hes e he).len, List.length_map]; omega)]
          · simp only [wS, simprocAttr]
          · show AV.agg (wkL [.int .i64 kk, .int .i64 nn, .int .i64 mm, .sl false (es.map wkL)]) = _
            rw [wk_node, wk_node, wk_idems hes]
end Go.Proofs.YtpdibmopbpcfdaaDoor
