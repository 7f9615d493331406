import Derived.Test.YtgenkkejlggmnaaB26
set_option linter.unusedVariables false
set_option linter.unusedSimpArgs false
namespace Go.Proofs.Ytgenkkejlggmnaa
open Go.AM

theorem hbef_len14 (l : List Int) (acc : List V) (i : Nat) : (hbef l acc i i).length ≤ i := hbef_len l acc i i
theorem histN_b (l : List Int) : ∀ n, ∀ v ∈ (histN l n).1, v.before.length ≤ n
  | 0, v, h => by cases h
  | n + 1, v, h => by
    simp only [histN, List.mem_append, List.mem_singleton] at h
    rcases h with h | rfl
    · have := histN_b l n v h; omega
    · have := hbef_len l (histN l n).1 n n
      simp only
      omega
theorem histL_len (l : List Int) : (histL l).length ≤ 14 := by
  rw [histL, histN_len]; exact Nat.min_le_left _ _
theorem histL_b (l : List Int) : ∀ v ∈ histL l, v.before.length ≤ 14 := fun v h => Nat.le_trans (histN_b l _ v h) (Nat.min_le_left _ _)
theorem spoiltL_len (l : List V) (a h b : Int) : (spoiltL l a h b).length ≤ l.length + 1 := by
  unfold spoiltL
  split
  · simp
  · split
    · omega
    · split
      · simp
      · split
        · simp
        · split
          · simp; omega
          · split
            · simp
            · split <;> simp
theorem mem_set_b {l : List V} {k : Nat} {u : V} {m : Nat} (h : ∀ v ∈ l, v.before.length ≤ m) (hu : u.before.length ≤ m + 1) : ∀ v ∈ l.set k u, v.before.length ≤ m + 1 := by
  intro v hv
  rcases List.mem_or_eq_of_mem_set hv with h1 | rfl
  · have := h v h1; omega
  · exact hu
theorem spoiltL_b (l : List V) (a h b : Int) (m : Nat) (hm : ∀ v ∈ l, v.before.length ≤ m) : ∀ v ∈ spoiltL l a h b, v.before.length ≤ m + 1 := by
  have hm1 : ∀ v ∈ l, v.before.length ≤ m + 1 := fun v hv => by have := hm v hv; omega
  unfold spoiltL
  split
  · intro v hv; simp only [List.mem_singleton] at hv; subst hv; simp
  · split
    · exact hm1
    · rename_i v hv
      have hvm := hm v (List.mem_of_getElem? hv)
      split
      · exact mem_set_b hm (by simp only; omega)
      · split
        · exact mem_set_b hm (by simp; omega)
        · split
          · intro u hu
            rcases List.mem_append.1 hu with h1 | h1
            · exact hm1 u (List.mem_of_mem_take h1)
            · exact hm1 u (List.mem_of_mem_drop h1)
          · split
            · intro u hu
              rcases List.mem_append.1 hu with h1 | h1
              · exact hm1 u h1
              · simp only [List.mem_singleton] at h1; subst h1; omega
            · split
              · exact mem_set_b hm (by simp only [List.length_take]; omega)
              · exact mem_set_b hm (by simp; omega)

def cLs (L : List (List V)) : List (List AV) := L.map fun l => [encVs l]
theorem cLs_all (L : List (List V)) : (cLs L).all (fun e => decide (e.length = 1)) = true := by
  rw [List.all_eq_true]
  intro e he
  obtain ⟨v, _, rfl⟩ := List.mem_map.1 he
  rfl
theorem tree_cLs : ∀ (L : List (List V)), inE noRef (cLs L) = true
  | [] => rfl
  | l :: L => by
    have := tree_cLs L
    simp only [cLs, List.map_cons, inE, inL, tree_encVs, Bool.true_and] at this ⊢
    exact this
theorem cLs_get {L : List (List V)} {i : Nat} {w : List V} (h : L[i]? = some w) : (cLs L)[i]? = some [encVs w] := by simp [cLs, h]

set_option maxHeartbeats 4000000 in
theorem law_3 (l : List Int) (at' how by' id : Int) (hs : ∀ x ∈ l, Small64 x) (hl : Small l.length) (ha : Small64 at') (hh : Small64 how) (hy : Small64 by') (hi : Small64 id)
    (hval : ∀ l : List V, valGo l [] (-1) = validL l) (hpast : ∀ (l : List V) (id : Int), pastB l id = pastL l id) (hhist : ∀ l : List Int, valGo (histL l) [] (-1) = true) :
    Pure Try.prog G0 3 [encI l, .int .i64 at', .int .i64 how, .int .i64 by', .int .i64 id] (.bool true) := by
  refine pure_of_body hG0 Try.func3 rfl (by kernel_rfl) (by simp [Try.ntmps3]) (by simp [inL, inR, tree_encI]) (by simp [inR]) ?_
  simp only [Try.ntmps3, enterF, Nat.reduceAdd]
  repeat' (first | (refine awp_seq_k fun _ _ => ?_) | (refine awp_block ?_) | ((first | (refine awp_rgn ?_) | (refine awp_any (by kernel_rfl) (by kernel_rfl) ?_) | (refine awp_cond_k fun _ _ _ _ => ?_)) <;> simp only [amS, amL, tyS, amB, Nat.reduceLT, Nat.reduceEqDiff, Nat.reduceAdd, Nat.reduceMul, Nat.reduceSub, Nat.reduceLeDiff, reduceCtorEq]) | (refine guard_split (fun hg => ?_) (fun hg => ?_) <;> simp only [hg, amS, amL, tyS, amB, Nat.reduceLT, Nat.reduceEqDiff, Nat.reduceAdd, Nat.reduceMul, Nat.reduceSub, Nat.reduceLeDiff, reduceCtorEq]) | (refine awp_skip ?_; simp only [amS]) | (refine awp_exit ?_; simp only [amS, if_true, if_false, Nat.reduceEqDiff]) | (refine awp_ret ?_; try simp only [amS]) | (refine Cont.go (by assumption) ?_) | (refine Arm.go (by assumption) ?_))
  refine callR_tree hG0 (history_7 l hs hl) ?_
  have hx1 := histL_len l
  have hx2 := histL_b l
  have hxv := hhist l
  generalize histL l = x at hx1 hx2 hxv ⊢
  simp only [amS, amL, tyS, amB, Nat.reduceLT, Nat.reduceEqDiff, Nat.reduceAdd, Nat.reduceMul, Nat.reduceSub, Nat.reduceLeDiff, reduceCtorEq]
  repeat' (first | (refine awp_seq_k fun _ _ => ?_) | (refine awp_block ?_) | ((first | (refine awp_rgn ?_) | (refine awp_any (by kernel_rfl) (by kernel_rfl) ?_) | (refine awp_cond_k fun _ _ _ _ => ?_)) <;> simp only [amS, amL, tyS, amB, Nat.reduceLT, Nat.reduceEqDiff, Nat.reduceAdd, Nat.reduceMul, Nat.reduceSub, Nat.reduceLeDiff, reduceCtorEq]) | (refine guard_split (fun hg => ?_) (fun hg => ?_) <;> simp only [hg, amS, amL, tyS, amB, Nat.reduceLT, Nat.reduceEqDiff, Nat.reduceAdd, Nat.reduceMul, Nat.reduceSub, Nat.reduceLeDiff, reduceCtorEq]) | (refine awp_skip ?_; simp only [amS]) | (refine awp_exit ?_; simp only [amS, if_true, if_false, Nat.reduceEqDiff]) | (refine awp_ret ?_; try simp only [amS]) | (refine Cont.go (by assumption) ?_) | (refine Arm.go (by assumption) ?_))
  refine callR_tree hG0 (spoilt_8 x at' how by' (by omega) (fun v hv => by have := hx2 v hv; omega) ha hh hy) ?_
  have hy1 := spoiltL_len x at' how by'
  have hy2 := spoiltL_b x at' how by' 14 hx2
  generalize spoiltL x at' how by' = y at hy1 hy2 ⊢
  simp only [amS, amL, tyS, amB, Nat.reduceLT, Nat.reduceEqDiff, Nat.reduceAdd, Nat.reduceMul, Nat.reduceSub, Nat.reduceLeDiff, reduceCtorEq]
  repeat' (first | (refine awp_seq_k fun _ _ => ?_) | (refine awp_block ?_) | ((first | (refine awp_rgn ?_) | (refine awp_any (by kernel_rfl) (by kernel_rfl) ?_) | (refine awp_cond_k fun _ _ _ _ => ?_)) <;> simp only [amS, amL, tyS, amB, Nat.reduceLT, Nat.reduceEqDiff, Nat.reduceAdd, Nat.reduceMul, Nat.reduceSub, Nat.reduceLeDiff, reduceCtorEq]) | (refine guard_split (fun hg => ?_) (fun hg => ?_) <;> simp only [hg, amS, amL, tyS, amB, Nat.reduceLT, Nat.reduceEqDiff, Nat.reduceAdd, Nat.reduceMul, Nat.reduceSub, Nat.reduceLeDiff, reduceCtorEq]) | (refine awp_skip ?_; simp only [amS]) | (refine awp_exit ?_; simp only [amS, if_true, if_false, Nat.reduceEqDiff]) | (refine awp_ret ?_; try simp only [amS]) | (refine Cont.go (by assumption) ?_) | (refine Arm.go (by assumption) ?_))
  refine callR_tree hG0 (spoilt_8 y by' at' how (by omega) (fun v hv => by have := hy2 v hv; omega) hy ha hh) ?_
  have hz1 := spoiltL_len y by' at' how
  have hz2 := spoiltL_b y by' at' how 15 hy2
  generalize spoiltL y by' at' how = z at hz1 hz2 ⊢
  have hL : ∀ w ∈ [x, y, z], w.length ≤ 1000 ∧ ∀ v ∈ w, v.before.length ≤ 1000 := by
    intro w hw
    simp only [List.mem_cons, List.not_mem_nil, or_false] at hw
    rcases hw with rfl | rfl | rfl
    · exact ⟨by omega, fun v hv => by have := hx2 v hv; omega⟩
    · exact ⟨by omega, fun v hv => by have := hy2 v hv; omega⟩
    · exact ⟨by omega, fun v hv => by have := hz2 v hv; omega⟩
  have hLl : [x, y, z].length = 3 := rfl
  have hLc : [[encVs x], [encVs y], [encVs z]] = cLs [x, y, z] := rfl
  simp only [amS, amL, tyS, amB, Nat.reduceLT, Nat.reduceEqDiff, Nat.reduceAdd, Nat.reduceMul, Nat.reduceSub, Nat.reduceLeDiff, reduceCtorEq, encVs]
  refine Cont.go (by assumption) ?_
  generalize hLd : [x, y, z] = L at hL hLl hLc
  refine awp_weak (l := [(1, .int .i64 at'), (4, .int .i64 id), (11, encVs x), (13, .sl true (cLs L))]) (h := []) ⟨?_, .inl ?_⟩ ?_
  · simp only [amS, amL, tyS, amB, Nat.reduceLT, Nat.reduceEqDiff, Nat.reduceAdd, Nat.reduceMul, Nat.reduceSub, Nat.reduceLeDiff, reduceCtorEq, encVs, ← hLc] <;> rfl
  · simp only [amS, amL, tyS, amB, Nat.reduceLT, Nat.reduceEqDiff, Nat.reduceAdd, Nat.reduceMul, Nat.reduceSub, Nat.reduceLeDiff, reduceCtorEq]
  repeat' (first | (refine awp_seq_k fun _ _ => ?_) | (refine awp_block ?_) | ((first | (refine awp_rgn ?_) | (refine awp_any (by kernel_rfl) (by kernel_rfl) ?_) | (refine awp_cond_k fun _ _ _ _ => ?_)) <;> simp only [amS, amL, tyS, amB, Nat.reduceLT, Nat.reduceEqDiff, Nat.reduceAdd, Nat.reduceMul, Nat.reduceSub, Nat.reduceLeDiff, reduceCtorEq]) | (refine guard_split (fun hg => ?_) (fun hg => ?_) <;> simp only [hg, amS, amL, tyS, amB, Nat.reduceLT, Nat.reduceEqDiff, Nat.reduceAdd, Nat.reduceMul, Nat.reduceSub, Nat.reduceLeDiff, reduceCtorEq]) | (refine awp_skip ?_; simp only [amS]) | (refine awp_exit ?_; simp only [amS, if_true, if_false, Nat.reduceEqDiff]) | (refine awp_ret ?_; try simp only [amS]) | (refine Cont.go (by assumption) ?_) | (refine Arm.go (by assumption) ?_))
  refine awp_loop_k (α := {i : Nat // i ≤ 3}) (fun i => [(4, .int .i64 id), (11, encVs x), (13, .sl true (cLs L)), (14, .int .i64 i.1)]) (fun _ => []) (fun i => 3 - i.1) ⟨0, by omega⟩ ⟨?_, .inl ?_⟩ ?_
  · simp only [amS, amL, tyS, amB, Nat.reduceLT, Nat.reduceEqDiff, Nat.reduceAdd, Nat.reduceMul, Nat.reduceSub, Nat.reduceLeDiff, reduceCtorEq] <;> rfl
  · simp only [amS, amL, tyS, amB, Nat.reduceLT, Nat.reduceEqDiff, Nat.reduceAdd, Nat.reduceMul, Nat.reduceSub, Nat.reduceLeDiff, reduceCtorEq]
  · rintro ⟨i, hi⟩ K2 hK2
    repeat' (first | (refine awp_seq_k fun _ _ => ?_) | (refine awp_block ?_) | ((first | (refine awp_rgn ?_) | (refine awp_any (by kernel_rfl) (by kernel_rfl) ?_) | (refine awp_cond_k fun _ _ _ _ => ?_)) <;> simp only [amS, amL, tyS, amB, Nat.reduceLT, Nat.reduceEqDiff, Nat.reduceAdd, Nat.reduceMul, Nat.reduceSub, Nat.reduceLeDiff, reduceCtorEq]) | (refine guard_split (fun hg => ?_) (fun hg => ?_) <;> simp only [hg, amS, amL, tyS, amB, Nat.reduceLT, Nat.reduceEqDiff, Nat.reduceAdd, Nat.reduceMul, Nat.reduceSub, Nat.reduceLeDiff, reduceCtorEq]) | (refine awp_skip ?_; simp only [amS]) | (refine awp_ret ?_; try simp only [amS]) | (refine Cont.go (by assumption) ?_) | (refine Arm.go (by assumption) ?_))
    refine ⟨fun h => ?_, fun h => ?_⟩
    · have hlt : i < 3 := by simp at h; omega
      obtain ⟨w, hw⟩ : ∃ w, L[i]? = some w := ⟨_, List.getElem?_eq_getElem (by omega)⟩
      obtain ⟨hw1, hw2⟩ := hL w (List.mem_of_getElem? hw)
      have hcw := cLs_get hw
      have hws := wrap_succ (k := i) hlt (by omega)
      have g10 := given_10 w (by unfold Small40; omega)
      have v9 := valid_9 w hw1 hw2
      have v11 := valid_11 w (by unfold Small; omega) (fun v hv => by have := hw2 v hv; unfold Small; omega)
      rw [← hval w] at v11
      have p13 := fun k => past_13 w k hw1 hw2
      have p14 := fun k => past_14 w k hw1 hw2
      have hpl := fun k => pastL_len w k
      have hsame := fun k => sameInts_12 (pastL w k) (pastL w k) (by have := hpl k; unfold Small; omega)
      simp only [hpast] at p13
      simp only [decide_true] at hsame
      repeat' (first | (refine awp_seq_k fun _ _ => ?_) | (refine awp_block ?_) | ((first | (refine awp_rgn ?_) | (refine awp_any (by kernel_rfl) (by kernel_rfl) ?_) | (refine awp_cond_k fun _ _ _ _ => ?_)) <;> simp only [amS, amL, tyS, amB, Nat.reduceLT, Nat.reduceEqDiff, Nat.reduceAdd, Nat.reduceMul, Nat.reduceSub, Nat.reduceLeDiff, reduceCtorEq, hcw]) | (refine guard_split (fun hg => ?_) (fun hg => ?_) <;> simp only [hg, amS, amL, tyS, amB, Nat.reduceLT, Nat.reduceEqDiff, Nat.reduceAdd, Nat.reduceMul, Nat.reduceSub, Nat.reduceLeDiff, reduceCtorEq, hcw]) | (refine awp_skip ?_; simp only [amS]) | (refine awp_exit ?_; simp only [amS, if_true, if_false, Nat.reduceEqDiff]) | (refine awp_ret ?_; try simp only [amS]) | (refine Cont.go (by assumption) ?_) | (refine Arm.go (by assumption) ?_))
      refine callR_tree hG0 g10 ?_
      simp only [amS, amL, tyS, amB, Nat.reduceLT, Nat.reduceEqDiff, Nat.reduceAdd, Nat.reduceMul, Nat.reduceSub, Nat.reduceLeDiff, reduceCtorEq]
      refine callR_tree hG0 v9 ?_
      simp only [amS, amL, tyS, amB, Nat.reduceLT, Nat.reduceEqDiff, Nat.reduceAdd, Nat.reduceMul, Nat.reduceSub, Nat.reduceLeDiff, reduceCtorEq, hcw]
      refine callR_tree hG0 v11 ?_
      simp only [amS, amL, tyS, amB, Nat.reduceLT, Nat.reduceEqDiff, Nat.reduceAdd, Nat.reduceMul, Nat.reduceSub, Nat.reduceLeDiff, reduceCtorEq, hcw, beq_self_eq_true, Bool.not_true]
      refine callR_tree hG0 g10 ?_
      simp only [amS, amL, tyS, amB, Nat.reduceLT, Nat.reduceEqDiff, Nat.reduceAdd, Nat.reduceMul, Nat.reduceSub, Nat.reduceLeDiff, reduceCtorEq]
      refine callR_tree hG0 (p13 id) ?_
      simp only [amS, amL, tyS, amB, Nat.reduceLT, Nat.reduceEqDiff, Nat.reduceAdd, Nat.reduceMul, Nat.reduceSub, Nat.reduceLeDiff, reduceCtorEq, hcw]
      refine callR_tree hG0 (p14 id) ?_
      simp only [amS, amL, tyS, amB, Nat.reduceLT, Nat.reduceEqDiff, Nat.reduceAdd, Nat.reduceMul, Nat.reduceSub, Nat.reduceLeDiff, reduceCtorEq]
      refine callR_tree hG0 (hsame id) ?_
      simp only [amS, amL, tyS, amB, Nat.reduceLT, Nat.reduceEqDiff, Nat.reduceAdd, Nat.reduceMul, Nat.reduceSub, Nat.reduceLeDiff, reduceCtorEq, Bool.not_true]
      repeat' (first | (refine awp_seq_k fun _ _ => ?_) | (refine awp_block ?_) | ((first | (refine awp_rgn ?_) | (refine awp_any (by kernel_rfl) (by kernel_rfl) ?_) | (refine awp_cond_k fun _ _ _ _ => ?_)) <;> simp only [amS, amL, tyS, amB, Nat.reduceLT, Nat.reduceEqDiff, Nat.reduceAdd, Nat.reduceMul, Nat.reduceSub, Nat.reduceLeDiff, reduceCtorEq]) | (refine guard_split (fun hg => ?_) (fun hg => ?_) <;> simp only [hg, amS, amL, tyS, amB, Nat.reduceLT, Nat.reduceEqDiff, Nat.reduceAdd, Nat.reduceMul, Nat.reduceSub, Nat.reduceLeDiff, reduceCtorEq]) | (refine awp_skip ?_; simp only [amS]) | (refine awp_exit ?_; simp only [amS, if_true, if_false, Nat.reduceEqDiff]) | (refine awp_ret ?_; try simp only [amS]) | (refine Cont.go (by assumption) ?_) | (refine Arm.go (by assumption) ?_))
      refine awp_loop_k (α := {k : Int // -1 ≤ k ∧ k ≤ 18}) (fun k => [(4, .int .i64 id), (11, encVs x), (13, .sl true (cLs L)), (14, .int .i64 i), (15, .int .i64 k.1)]) (fun _ => []) (fun k => (18 - k.1).toNat) ⟨-1, by omega⟩ ⟨?_, .inl ?_⟩ ?_
      · simp only [amS, amL, tyS, amB, Nat.reduceLT, Nat.reduceEqDiff, Nat.reduceAdd, Nat.reduceMul, Nat.reduceSub, Nat.reduceLeDiff, reduceCtorEq]
      · simp only [amS, amL, tyS, amB, Nat.reduceLT, Nat.reduceEqDiff, Nat.reduceAdd, Nat.reduceMul, Nat.reduceSub, Nat.reduceLeDiff, reduceCtorEq]
      · rintro ⟨k, hk1, hk2⟩ K3 hK3
        repeat' (first | (refine awp_seq_k fun _ _ => ?_) | (refine awp_block ?_) | ((first | (refine awp_rgn ?_) | (refine awp_any (by kernel_rfl) (by kernel_rfl) ?_) | (refine awp_cond_k fun _ _ _ _ => ?_)) <;> simp only [amS, amL, tyS, amB, Nat.reduceLT, Nat.reduceEqDiff, Nat.reduceAdd, Nat.reduceMul, Nat.reduceSub, Nat.reduceLeDiff, reduceCtorEq]) | (refine guard_split (fun hg => ?_) (fun hg => ?_) <;> simp only [hg, amS, amL, tyS, amB, Nat.reduceLT, Nat.reduceEqDiff, Nat.reduceAdd, Nat.reduceMul, Nat.reduceSub, Nat.reduceLeDiff, reduceCtorEq]) | (refine awp_skip ?_; simp only [amS]) | (refine awp_ret ?_; try simp only [amS]) | (refine Cont.go (by assumption) ?_) | (refine Arm.go (by assumption) ?_))
        refine ⟨fun h3 => ?_, fun h3 => ?_⟩
        · have hkl : k < 18 := by simpa using h3
          have hwk : IntKind.i64.wrap (k + 1) = k + 1 := wrap_id (by omega) (by omega)
          repeat' (first | (refine awp_seq_k fun _ _ => ?_) | (refine awp_block ?_) | ((first | (refine awp_rgn ?_) | (refine awp_any (by kernel_rfl) (by kernel_rfl) ?_) | (refine awp_cond_k fun _ _ _ _ => ?_)) <;> simp only [amS, amL, tyS, amB, Nat.reduceLT, Nat.reduceEqDiff, Nat.reduceAdd, Nat.reduceMul, Nat.reduceSub, Nat.reduceLeDiff, reduceCtorEq, hcw]) | (refine guard_split (fun hg => ?_) (fun hg => ?_) <;> simp only [hg, amS, amL, tyS, amB, Nat.reduceLT, Nat.reduceEqDiff, Nat.reduceAdd, Nat.reduceMul, Nat.reduceSub, Nat.reduceLeDiff, reduceCtorEq, hcw]) | (refine awp_skip ?_; simp only [amS]) | (refine awp_exit ?_; simp only [amS, if_true, if_false, Nat.reduceEqDiff]) | (refine awp_ret ?_; try simp only [amS]) | (refine Cont.go (by assumption) ?_) | (refine Arm.go (by assumption) ?_))
          refine callR_tree hG0 g10 ?_
          simp only [amS, amL, tyS, amB, Nat.reduceLT, Nat.reduceEqDiff, Nat.reduceAdd, Nat.reduceMul, Nat.reduceSub, Nat.reduceLeDiff, reduceCtorEq]
          refine callR_tree hG0 (p13 k) ?_
          simp only [amS, amL, tyS, amB, Nat.reduceLT, Nat.reduceEqDiff, Nat.reduceAdd, Nat.reduceMul, Nat.reduceSub, Nat.reduceLeDiff, reduceCtorEq, hcw]
          refine callR_tree hG0 (p14 k) ?_
          simp only [amS, amL, tyS, amB, Nat.reduceLT, Nat.reduceEqDiff, Nat.reduceAdd, Nat.reduceMul, Nat.reduceSub, Nat.reduceLeDiff, reduceCtorEq]
          refine callR_tree hG0 (hsame k) ?_
          simp only [amS, amL, tyS, amB, Nat.reduceLT, Nat.reduceEqDiff, Nat.reduceAdd, Nat.reduceMul, Nat.reduceSub, Nat.reduceLeDiff, reduceCtorEq, Bool.not_true]
          repeat' (first | (refine awp_seq_k fun _ _ => ?_) | (refine awp_block ?_) | ((first | (refine awp_rgn ?_) | (refine awp_any (by kernel_rfl) (by kernel_rfl) ?_) | (refine awp_cond_k fun _ _ _ _ => ?_)) <;> simp only [amS, amL, tyS, amB, Nat.reduceLT, Nat.reduceEqDiff, Nat.reduceAdd, Nat.reduceMul, Nat.reduceSub, Nat.reduceLeDiff, reduceCtorEq, hwk]) | (refine guard_split (fun hg => ?_) (fun hg => ?_) <;> simp only [hg, amS, amL, tyS, amB, Nat.reduceLT, Nat.reduceEqDiff, Nat.reduceAdd, Nat.reduceMul, Nat.reduceSub, Nat.reduceLeDiff, reduceCtorEq, hwk]) | (refine awp_skip ?_; simp only [amS]) | (refine awp_exit ?_; simp only [amS, if_true, if_false, Nat.reduceEqDiff]) | (refine awp_ret ?_; try simp only [amS]) | (refine Cont.go (by assumption) ?_) | (refine Arm.go (by assumption) ?_))
          refine Again.go hK3 ⟨k + 1, by omega, by omega⟩ ⟨?_, .inl ?_⟩ (by simp only; omega)
          · simp only [amS, amL, tyS, amB, Nat.reduceLT, Nat.reduceEqDiff, Nat.reduceAdd, Nat.reduceMul, Nat.reduceSub, Nat.reduceLeDiff, reduceCtorEq]
          · simp only [amS, amL, tyS, amB, Nat.reduceLT, Nat.reduceEqDiff, Nat.reduceAdd, Nat.reduceMul, Nat.reduceSub, Nat.reduceLeDiff, reduceCtorEq]
        · repeat' (first | (refine awp_seq_k fun _ _ => ?_) | (refine awp_block ?_) | ((first | (refine awp_rgn ?_) | (refine awp_any (by kernel_rfl) (by kernel_rfl) ?_) | (refine awp_cond_k fun _ _ _ _ => ?_)) <;> simp only [amS, amL, tyS, amB, Nat.reduceLT, Nat.reduceEqDiff, Nat.reduceAdd, Nat.reduceMul, Nat.reduceSub, Nat.reduceLeDiff, reduceCtorEq, hws]) | (refine guard_split (fun hg => ?_) (fun hg => ?_) <;> simp only [hg, amS, amL, tyS, amB, Nat.reduceLT, Nat.reduceEqDiff, Nat.reduceAdd, Nat.reduceMul, Nat.reduceSub, Nat.reduceLeDiff, reduceCtorEq, hws]) | (refine awp_skip ?_; simp only [amS]) | (refine awp_exit ?_; simp only [amS, if_true, if_false, Nat.reduceEqDiff]) | (refine awp_ret ?_; try simp only [amS]) | (refine Cont.go (by assumption) ?_) | (refine Arm.go (by assumption) ?_))
          refine Again.go hK2 ⟨i + 1, by omega⟩ ⟨?_, .inl ?_⟩ (by simp; omega)
          · simp only [amS, amL, tyS, amB, Nat.reduceLT, Nat.reduceEqDiff, Nat.reduceAdd, Nat.reduceMul, Nat.reduceSub, Nat.reduceLeDiff, reduceCtorEq]
          · simp only [amS, amL, tyS, amB, Nat.reduceLT, Nat.reduceEqDiff, Nat.reduceAdd, Nat.reduceMul, Nat.reduceSub, Nat.reduceLeDiff, reduceCtorEq]
    · repeat' (first | (refine awp_seq_k fun _ _ => ?_) | (refine awp_block ?_) | ((first | (refine awp_rgn ?_) | (refine awp_any (by kernel_rfl) (by kernel_rfl) ?_) | (refine awp_cond_k fun _ _ _ _ => ?_)) <;> simp only [amS, amL, tyS, amB, Nat.reduceLT, Nat.reduceEqDiff, Nat.reduceAdd, Nat.reduceMul, Nat.reduceSub, Nat.reduceLeDiff, reduceCtorEq]) | (refine guard_split (fun hg => ?_) (fun hg => ?_) <;> simp only [hg, amS, amL, tyS, amB, Nat.reduceLT, Nat.reduceEqDiff, Nat.reduceAdd, Nat.reduceMul, Nat.reduceSub, Nat.reduceLeDiff, reduceCtorEq]) | (refine awp_skip ?_; simp only [amS]) | (refine awp_exit ?_; simp only [amS, if_true, if_false, Nat.reduceEqDiff]) | (refine awp_ret ?_; try simp only [amS]) | (refine Cont.go (by assumption) ?_) | (refine Arm.go (by assumption) ?_))
      refine callR_tree hG0 (given_10 x (by unfold Small40; omega)) ?_
      simp only [amS, amL, tyS, amB, Nat.reduceLT, Nat.reduceEqDiff, Nat.reduceAdd, Nat.reduceMul, Nat.reduceSub, Nat.reduceLeDiff, reduceCtorEq]
      refine callR_tree hG0 (valid_9 x (by omega) (fun v hv => by have := hx2 v hv; omega)) ?_
      rw [hxv]
      simp only [amS, amL, tyS, amB, Nat.reduceLT, Nat.reduceEqDiff, Nat.reduceAdd, Nat.reduceMul, Nat.reduceSub, Nat.reduceLeDiff, reduceCtorEq]
      refine callR_tree hG0 lives_15 ?_
      simp only [amS, amL, tyS, amB, Nat.reduceLT, Nat.reduceEqDiff, Nat.reduceAdd, Nat.reduceMul, Nat.reduceSub, Nat.reduceLeDiff, reduceCtorEq]
      repeat' (first | (refine awp_seq_k fun _ _ => ?_) | (refine awp_block ?_) | ((first | (refine awp_rgn ?_) | (refine awp_any (by kernel_rfl) (by kernel_rfl) ?_) | (refine awp_cond_k fun _ _ _ _ => ?_)) <;> simp only [amS, amL, tyS, amB, Nat.reduceLT, Nat.reduceEqDiff, Nat.reduceAdd, Nat.reduceMul, Nat.reduceSub, Nat.reduceLeDiff, reduceCtorEq]) | (refine guard_split (fun hg => ?_) (fun hg => ?_) <;> simp only [hg, amS, amL, tyS, amB, Nat.reduceLT, Nat.reduceEqDiff, Nat.reduceAdd, Nat.reduceMul, Nat.reduceSub, Nat.reduceLeDiff, reduceCtorEq]) | (refine awp_skip ?_; simp only [amS]) | (refine awp_exit ?_; simp only [amS, if_true, if_false, Nat.reduceEqDiff]) | (refine awp_ret ?_; try simp only [amS]) | (refine Cont.go (by assumption) ?_) | (refine Arm.go (by assumption) ?_))
      refine body_ret1 rfl ?_
      simp only [amS, if_true, if_false]

end Go.Proofs.Ytgenkkejlggmnaa
