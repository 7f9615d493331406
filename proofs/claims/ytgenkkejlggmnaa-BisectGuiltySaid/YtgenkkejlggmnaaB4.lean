import Derived.Test.YtgenkkejlggmnaaB3
set_option linter.unusedVariables false
set_option linter.unusedSimpArgs false
namespace Go.Proofs.Ytgenkkejlggmnaa
open Go.AM

theorem all6 (l : List V) : (l.map encV).all (fun e => decide (e.length = 6)) = true := by
  rw [List.all_eq_true]
  intro e he
  obtain ⟨v, _, rfl⟩ := List.mem_map.1 he
  simp [encV]
theorem all1 (l : List Int) : (l.map fun n => [AV.int .i64 n]).all (fun e => decide (e.length = 1)) = true := by
  rw [List.all_eq_true]
  intro e he
  obtain ⟨v, _, rfl⟩ := List.mem_map.1 he
  simp

def okB (p : List V) (b : List Int) (k : Nat) : Bool :=
  match b[k]? with
  | none => true
  | some x => decide (0 ≤ findGo p x 0) && (decide (k = 0) || match b[k - 1]? with | some y => decide (y < x) | none => true)
def okV (l : List V) (i : Nat) : Bool :=
  match l[i]? with
  | none => true
  | some v => decide (0 ≤ v.id) && decide (v.id ≤ 31) && (decide (i = 0) || match l[i - 1]? with | some u => decide (u.id < v.id) | none => true) && (List.range v.before.length).all (okB (l.take i) v.before)
def validL (l : List V) : Bool := (List.range l.length).all (okV l)

theorem take_map (l : List V) (i : Nat) : (l.map encV).take i = (l.take i).map encV := List.map_take.symm

set_option maxHeartbeats 2000000 in
theorem valid_11 (l : List V) (hl : Small l.length) (hb : ∀ v ∈ l, Small v.before.length) : Pure Try.prog G0 11 [encVs l] (.bool (validL l)) := by
  unfold Small at hl
  refine pure_of_body hG0 Try.func11 rfl (by kernel_rfl) (by simp [Try.ntmps11]) (by simp [inL, inR, encVs, tree_vs]) (by simp [inR]) ?_
  simp only [Try.ntmps11, enterF, encVs, Nat.reduceAdd]
  repeat' (first | (refine awp_seq_k fun _ _ => ?_) | (refine awp_block ?_) | ((first | (refine awp_rgn ?_) | (refine awp_any (by kernel_rfl) (by kernel_rfl) ?_) | (refine awp_cond_k fun _ _ _ _ => ?_)) <;> simp only [amS, amL, tyS, amB, Nat.reduceLT, Nat.reduceEqDiff, Nat.reduceAdd, Nat.reduceMul, Nat.reduceSub, Nat.reduceLeDiff, reduceCtorEq]) | (refine guard_split (fun hg => ?_) (fun hg => ?_) <;> simp only [hg, amS, amL, tyS, amB, Nat.reduceLT, Nat.reduceEqDiff, Nat.reduceAdd, Nat.reduceMul, Nat.reduceSub, Nat.reduceLeDiff, reduceCtorEq]) | (refine awp_skip ?_; simp only [amS]) | (refine awp_exit ?_; simp only [amS, if_true, if_false, Nat.reduceEqDiff]) | (refine awp_ret ?_; try simp only [amS]) | (refine Cont.go (by assumption) ?_) | (refine Arm.go (by assumption) ?_))
  refine awp_loop_k (α := {k : Nat // k ≤ l.length ∧ ∀ j, j < k → okV l j = true}) (fun k => [(0, .sl false (l.map encV)), (3, .int .i64 k.1)]) (fun _ => []) (fun k => l.length - k.1) ⟨0, by simp, by simp⟩ ⟨?_, .inl ?_⟩ ?_
  · simp [amS]
  · simp only [amS]
  · rintro ⟨i, hi, hn⟩ K2 hK2
    repeat' (first | (refine awp_seq_k fun _ _ => ?_) | (refine awp_block ?_) | ((first | (refine awp_rgn ?_) | (refine awp_any (by kernel_rfl) (by kernel_rfl) ?_) | (refine awp_cond_k fun _ _ _ _ => ?_)) <;> simp only [amS, amL, tyS, amB, Nat.reduceLT, Nat.reduceEqDiff, Nat.reduceAdd, Nat.reduceMul, Nat.reduceSub, Nat.reduceLeDiff, reduceCtorEq]) | (refine guard_split (fun hg => ?_) (fun hg => ?_) <;> simp only [hg, amS, amL, tyS, amB, Nat.reduceLT, Nat.reduceEqDiff, Nat.reduceAdd, Nat.reduceMul, Nat.reduceSub, Nat.reduceLeDiff, reduceCtorEq]) | (refine awp_skip ?_; simp only [amS]) | (refine awp_exit ?_; simp only [amS, if_true, if_false, Nat.reduceEqDiff]) | (refine awp_ret ?_; try simp only [amS]) | (refine Cont.go (by assumption) ?_) | (refine Arm.go (by assumption) ?_))
    refine ⟨fun h => ?_, fun h => ?_⟩
    · have hlt : i < l.length := by simpa using h
      obtain ⟨v, hv⟩ : ∃ v, l[i]? = some v := ⟨_, List.getElem?_eq_getElem hlt⟩
      obtain ⟨u, hu⟩ : ∃ u, l[((i : Int) - 1).toNat]? = some u := ⟨_, List.getElem?_eq_getElem (by omega)⟩
      have hwi : IntKind.i64.wrap ((i : Int) - 1) = (i : Int) - 1 := wrap_id (by omega) (by omega)
      have hpi : (0 ≤ (i : Int) - 1) = (decide ((i : Int) > 0) = true) := by simp; omega
      have hu' : l[i - 1]? = some u := by rw [← hu]; congr 1; omega
      have hsb : Small v.before.length := hb v (List.mem_of_getElem? hv)
      unfold Small at hsb
      have bad : okV l i = false → false = validL l := fun e => by
        unfold validL
        rw [eq_comm, List.all_eq_false]
        exact ⟨i, by simpa using hlt, by simp [e]⟩
      have hok : okV l i = (decide (0 ≤ v.id) && decide (v.id ≤ 31) && (decide (i = 0) || decide (u.id < v.id)) && (List.range v.before.length).all (okB (l.take i) v.before)) := by
        unfold okV
        rw [hv, hu']
      repeat' (first | (refine awp_seq_k fun _ _ => ?_) | (refine awp_block ?_) | ((first | (refine awp_rgn ?_) | (refine awp_any (by kernel_rfl) (by kernel_rfl) ?_) | (refine awp_cond_k fun _ _ _ _ => ?_)) <;> simp only [amS, amL, tyS, amB, Nat.reduceLT, Nat.reduceEqDiff, Nat.reduceAdd, Nat.reduceMul, Nat.reduceSub, Nat.reduceLeDiff, reduceCtorEq, hv, encV, encI, hu, hwi, hpi]) | (refine guard_split (fun hg => ?_) (fun hg => ?_) <;> simp only [hg, amS, amL, tyS, amB, Nat.reduceLT, Nat.reduceEqDiff, Nat.reduceAdd, Nat.reduceMul, Nat.reduceSub, Nat.reduceLeDiff, reduceCtorEq, hv, encV, encI, hu, hwi, hpi]) | (refine awp_skip ?_; simp only [amS]) | (refine awp_exit ?_; simp only [amS, if_true, if_false, Nat.reduceEqDiff]) | (refine awp_ret ?_; try simp only [amS]) | (refine Cont.go (by assumption) ?_) | (refine Arm.go (by assumption) ?_))
      · refine body_ret1 rfl ?_
        simp only [amS, if_true, if_false]
        rw [AV.bool.injEq]
        simp at hg
        exact bad (by rw [hok]; simp; omega)
      · refine body_ret1 rfl ?_
        simp only [amS, if_true, if_false]
        rw [AV.bool.injEq]
        rename_i hg0 _ 
        simp at hg
        exact bad (by rw [hok]; simp; omega)
      · refine ⟨fun h2 => ?_, fun h2 => ?_⟩
        · repeat' (first | (refine awp_seq_k fun _ _ => ?_) | (refine awp_block ?_) | ((first | (refine awp_rgn ?_) | (refine awp_any (by kernel_rfl) (by kernel_rfl) ?_) | (refine awp_cond_k fun _ _ _ _ => ?_)) <;> simp only [amS, amL, tyS, amB, Nat.reduceLT, Nat.reduceEqDiff, Nat.reduceAdd, Nat.reduceMul, Nat.reduceSub, Nat.reduceLeDiff, reduceCtorEq]) | (refine guard_split (fun hg => ?_) (fun hg => ?_) <;> simp only [hg, amS, amL, tyS, amB, Nat.reduceLT, Nat.reduceEqDiff, Nat.reduceAdd, Nat.reduceMul, Nat.reduceSub, Nat.reduceLeDiff, reduceCtorEq]) | (refine awp_skip ?_; simp only [amS]) | (refine awp_exit ?_; simp only [amS, if_true, if_false, Nat.reduceEqDiff]) | (refine awp_ret ?_; try simp only [amS]) | (refine Cont.go (by assumption) ?_) | (refine Arm.go (by assumption) ?_))
          refine body_ret1 rfl ?_
          simp only [amS, if_true, if_false]
          rw [AV.bool.injEq]
          simp at hg h2
          exact bad (by rw [hok]; simp; omega)
        · have hg1 : decide (v.id < 0) = false := by assumption
          have hg2 : decide (v.id > 31) = false := by assumption
          have hg3 : decide ((i : Int) > 0) = true := by assumption
          simp at hg1 hg2 hg3 h2
          repeat' (first | (refine awp_seq_k fun _ _ => ?_) | (refine awp_block ?_) | ((first | (refine awp_rgn ?_) | (refine awp_any (by kernel_rfl) (by kernel_rfl) ?_) | (refine awp_cond_k fun _ _ _ _ => ?_)) <;> simp only [amS, amL, tyS, amB, Nat.reduceLT, Nat.reduceEqDiff, Nat.reduceAdd, Nat.reduceMul, Nat.reduceSub, Nat.reduceLeDiff, reduceCtorEq]) | (refine guard_split (fun hg => ?_) (fun hg => ?_) <;> simp only [hg, amS, amL, tyS, amB, Nat.reduceLT, Nat.reduceEqDiff, Nat.reduceAdd, Nat.reduceMul, Nat.reduceSub, Nat.reduceLeDiff, reduceCtorEq]) | (refine awp_skip ?_; simp only [amS]) | (refine awp_exit ?_; simp only [amS, if_true, if_false, Nat.reduceEqDiff]) | (refine awp_ret ?_; try simp only [amS]) | (refine Cont.go (by assumption) ?_) | (refine Arm.go (by assumption) ?_))
          refine awp_loop_k (α := {k : Nat // k ≤ v.before.length ∧ ∀ j, j < k → okB (l.take i) v.before j = true}) (fun k => [(0, .sl false (l.map encV)), (3, .int .i64 i), (4, .int .i64 k.1)]) (fun _ => []) (fun k => v.before.length - k.1) ⟨0, by simp, by simp⟩ ⟨?_, .inl ?_⟩ ?_
          · simp [amS]
          · simp only [amS]
          · rintro ⟨k, hk, hkn⟩ K3 hK3
            repeat' (first | (refine awp_seq_k fun _ _ => ?_) | (refine awp_block ?_) | ((first | (refine awp_rgn ?_) | (refine awp_any (by kernel_rfl) (by kernel_rfl) ?_) | (refine awp_cond_k fun _ _ _ _ => ?_)) <;> simp only [amS, amL, tyS, amB, Nat.reduceLT, Nat.reduceEqDiff, Nat.reduceAdd, Nat.reduceMul, Nat.reduceSub, Nat.reduceLeDiff, reduceCtorEq, hv, encV, encI]) | (refine guard_split (fun hg => ?_) (fun hg => ?_) <;> simp only [hg, amS, amL, tyS, amB, Nat.reduceLT, Nat.reduceEqDiff, Nat.reduceAdd, Nat.reduceMul, Nat.reduceSub, Nat.reduceLeDiff, reduceCtorEq, hv, encV, encI]) | (refine awp_skip ?_; simp only [amS]) | (refine awp_exit ?_; simp only [amS, if_true, if_false, Nat.reduceEqDiff]) | (refine awp_ret ?_; try simp only [amS]) | (refine Cont.go (by assumption) ?_) | (refine Arm.go (by assumption) ?_))
            refine ⟨fun h3 => ?_, fun h3 => ?_⟩
            · have hkl : k < v.before.length := by simpa using h3
              obtain ⟨x, hx⟩ : ∃ x, v.before[k]? = some x := ⟨_, List.getElem?_eq_getElem hkl⟩
              obtain ⟨y, hy⟩ : ∃ y, v.before[((k : Int) - 1).toNat]? = some y := ⟨_, List.getElem?_eq_getElem (by omega)⟩
              have hwk : IntKind.i64.wrap ((k : Int) - 1) = (k : Int) - 1 := wrap_id (by omega) (by omega)
              have hpk : (0 ≤ (k : Int) - 1) = (decide ((k : Int) > 0) = true) := by simp; omega
              have hy' : v.before[k - 1]? = some y := by rw [← hy]; congr 1; omega
              have hwk1 := wrap_succ (k := k) hkl (by omega)
              have hokb : okB (l.take i) v.before k = (decide (0 ≤ findGo (l.take i) x 0) && (decide (k = 0) || decide (y < x))) := by
                unfold okB
                rw [hx, hy']
              have badb : okB (l.take i) v.before k = false → okV l i = false := fun e => by
                rw [hok]
                have : (List.range v.before.length).all (okB (l.take i) v.before) = false := by
                  rw [List.all_eq_false]
                  exact ⟨k, by simpa using hkl, by simp [e]⟩
                rw [this, Bool.and_false]
              repeat' (first | (refine awp_seq_k fun _ _ => ?_) | (refine awp_block ?_) | ((first | (refine awp_rgn ?_) | (refine awp_any (by kernel_rfl) (by kernel_rfl) ?_) | (refine awp_cond_k fun _ _ _ _ => ?_)) <;> simp only [amS, amL, tyS, amB, Nat.reduceLT, Nat.reduceEqDiff, Nat.reduceAdd, Nat.reduceMul, Nat.reduceSub, Nat.reduceLeDiff, reduceCtorEq, hv, encV, encI, hi, hx, all6, take_map]) | (refine guard_split (fun hg => ?_) (fun hg => ?_) <;> simp only [hg, amS, amL, tyS, amB, Nat.reduceLT, Nat.reduceEqDiff, Nat.reduceAdd, Nat.reduceMul, Nat.reduceSub, Nat.reduceLeDiff, reduceCtorEq, hv, encV, encI, hi, hx, all6, take_map]) | (refine awp_skip ?_; simp only [amS]) | (refine awp_exit ?_; simp only [amS, if_true, if_false, Nat.reduceEqDiff]) | (refine awp_ret ?_; try simp only [amS]) | (refine Cont.go (by assumption) ?_) | (refine Arm.go (by assumption) ?_))
              refine callR_tree hG0 (findGo_30 (l.take i) x (by unfold Small; rw [List.length_take]; omega)) ?_
              simp only [amS, amL, tyS, amB, Nat.reduceLT, Nat.reduceEqDiff, Nat.reduceAdd, Nat.reduceMul, Nat.reduceSub, Nat.reduceLeDiff, reduceCtorEq, hv, encV, encI, hx, hy, hwk, hpk, hwk1]
              repeat' (first | (refine awp_seq_k fun _ _ => ?_) | (refine awp_block ?_) | ((first | (refine awp_rgn ?_) | (refine awp_any (by kernel_rfl) (by kernel_rfl) ?_) | (refine awp_cond_k fun _ _ _ _ => ?_)) <;> simp only [amS, amL, tyS, amB, Nat.reduceLT, Nat.reduceEqDiff, Nat.reduceAdd, Nat.reduceMul, Nat.reduceSub, Nat.reduceLeDiff, reduceCtorEq, hv, encV, encI, hx, hy, hwk, hpk, hwk1]) | (refine guard_split (fun hg => ?_) (fun hg => ?_) <;> simp only [hg, amS, amL, tyS, amB, Nat.reduceLT, Nat.reduceEqDiff, Nat.reduceAdd, Nat.reduceMul, Nat.reduceSub, Nat.reduceLeDiff, reduceCtorEq, hv, encV, encI, hx, hy, hwk, hpk, hwk1]) | (refine awp_skip ?_; simp only [amS]) | (refine awp_exit ?_; simp only [amS, if_true, if_false, Nat.reduceEqDiff]) | (refine awp_ret ?_; try simp only [amS]) | (refine Cont.go (by assumption) ?_) | (refine Arm.go (by assumption) ?_))
              · refine body_ret1 rfl ?_
                simp only [amS, if_true, if_false]
                rw [AV.bool.injEq]
                simp at hg
                exact bad (badb (by rw [hokb]; simp; omega))
              · have hg1 : decide (findGo (l.take i) x 0 < 0) = false := by assumption
                have hg2 : decide ((k : Int) > 0) = true := by assumption
                refine ⟨fun h4 => ?_, fun h4 => ?_⟩
                · repeat' (first | (refine awp_seq_k fun _ _ => ?_) | (refine awp_block ?_) | ((first | (refine awp_rgn ?_) | (refine awp_any (by kernel_rfl) (by kernel_rfl) ?_) | (refine awp_cond_k fun _ _ _ _ => ?_)) <;> simp only [amS, amL, tyS, amB, Nat.reduceLT, Nat.reduceEqDiff, Nat.reduceAdd, Nat.reduceMul, Nat.reduceSub, Nat.reduceLeDiff, reduceCtorEq]) | (refine guard_split (fun hg => ?_) (fun hg => ?_) <;> simp only [hg, amS, amL, tyS, amB, Nat.reduceLT, Nat.reduceEqDiff, Nat.reduceAdd, Nat.reduceMul, Nat.reduceSub, Nat.reduceLeDiff, reduceCtorEq]) | (refine awp_skip ?_; simp only [amS]) | (refine awp_exit ?_; simp only [amS, if_true, if_false, Nat.reduceEqDiff]) | (refine awp_ret ?_; try simp only [amS]) | (refine Cont.go (by assumption) ?_) | (refine Arm.go (by assumption) ?_))
                  refine body_ret1 rfl ?_
                  simp only [amS, if_true, if_false]
                  rw [AV.bool.injEq]
                  simp at hg1 hg2 h4
                  exact bad (badb (by rw [hokb]; simp; omega))
                · repeat' (first | (refine awp_seq_k fun _ _ => ?_) | (refine awp_block ?_) | ((first | (refine awp_rgn ?_) | (refine awp_any (by kernel_rfl) (by kernel_rfl) ?_) | (refine awp_cond_k fun _ _ _ _ => ?_)) <;> simp only [amS, amL, tyS, amB, Nat.reduceLT, Nat.reduceEqDiff, Nat.reduceAdd, Nat.reduceMul, Nat.reduceSub, Nat.reduceLeDiff, reduceCtorEq, hwk1]) | (refine guard_split (fun hg => ?_) (fun hg => ?_) <;> simp only [hg, amS, amL, tyS, amB, Nat.reduceLT, Nat.reduceEqDiff, Nat.reduceAdd, Nat.reduceMul, Nat.reduceSub, Nat.reduceLeDiff, reduceCtorEq, hwk1]) | (refine awp_skip ?_; simp only [amS]) | (refine awp_exit ?_; simp only [amS, if_true, if_false, Nat.reduceEqDiff]) | (refine awp_ret ?_; try simp only [amS]) | (refine Cont.go (by assumption) ?_) | (refine Arm.go (by assumption) ?_))
                  refine Again.go hK3 ⟨k + 1, hkl, ?_⟩ ⟨?_, .inl ?_⟩ ?_
                  · intro j hj
                    rcases Nat.lt_succ_iff_lt_or_eq.1 hj with hj | rfl
                    · exact hkn j hj
                    · rw [hokb]
                      simp at hg1 hg2 h4 ⊢
                      omega
                  · simp only [amS, if_true, if_false, Nat.reduceEqDiff, and_self]
                  · simp only [amS]
                  · simp; omega
              · repeat' (first | (refine awp_seq_k fun _ _ => ?_) | (refine awp_block ?_) | ((first | (refine awp_rgn ?_) | (refine awp_any (by kernel_rfl) (by kernel_rfl) ?_) | (refine awp_cond_k fun _ _ _ _ => ?_)) <;> simp only [amS, amL, tyS, amB, Nat.reduceLT, Nat.reduceEqDiff, Nat.reduceAdd, Nat.reduceMul, Nat.reduceSub, Nat.reduceLeDiff, reduceCtorEq, hwk1]) | (refine guard_split (fun hg => ?_) (fun hg => ?_) <;> simp only [hg, amS, amL, tyS, amB, Nat.reduceLT, Nat.reduceEqDiff, Nat.reduceAdd, Nat.reduceMul, Nat.reduceSub, Nat.reduceLeDiff, reduceCtorEq, hwk1]) | (refine awp_skip ?_; simp only [amS]) | (refine awp_exit ?_; simp only [amS, if_true, if_false, Nat.reduceEqDiff]) | (refine awp_ret ?_; try simp only [amS]) | (refine Cont.go (by assumption) ?_) | (refine Arm.go (by assumption) ?_))
                refine Again.go hK3 ⟨k + 1, hkl, ?_⟩ ⟨?_, .inl ?_⟩ ?_
                · intro j hj
                  rcases Nat.lt_succ_iff_lt_or_eq.1 hj with hj | rfl
                  · exact hkn j hj
                  · rw [hokb]
                    have hg1 : decide (findGo (l.take i) x 0 < 0) = false := by assumption
                    have hg2 : decide ((j : Int) > 0) = false := by assumption
                    simp at hg1 hg2 ⊢
                    omega
                · simp only [amS, if_true, if_false, Nat.reduceEqDiff, and_self]
                · simp only [amS]
                · simp; omega
            · have hw1 := wrap_succ (k := i) hlt (by omega)
              repeat' (first | (refine awp_seq_k fun _ _ => ?_) | (refine awp_block ?_) | ((first | (refine awp_rgn ?_) | (refine awp_any (by kernel_rfl) (by kernel_rfl) ?_) | (refine awp_cond_k fun _ _ _ _ => ?_)) <;> simp only [amS, amL, tyS, amB, Nat.reduceLT, Nat.reduceEqDiff, Nat.reduceAdd, Nat.reduceMul, Nat.reduceSub, Nat.reduceLeDiff, reduceCtorEq, hw1]) | (refine guard_split (fun hg => ?_) (fun hg => ?_) <;> simp only [hg, amS, amL, tyS, amB, Nat.reduceLT, Nat.reduceEqDiff, Nat.reduceAdd, Nat.reduceMul, Nat.reduceSub, Nat.reduceLeDiff, reduceCtorEq, hw1]) | (refine awp_skip ?_; simp only [amS]) | (refine awp_exit ?_; simp only [amS, if_true, if_false, Nat.reduceEqDiff]) | (refine awp_ret ?_; try simp only [amS]) | (refine Cont.go (by assumption) ?_) | (refine Arm.go (by assumption) ?_))
              refine Again.go hK2 ⟨i + 1, hlt, ?_⟩ ⟨?_, .inl ?_⟩ ?_
              · intro j hj
                rcases Nat.lt_succ_iff_lt_or_eq.1 hj with hj | rfl
                · exact hn j hj
                · rw [hok]
                  have : (List.range v.before.length).all (okB (l.take j) v.before) = true := by
                    rw [List.all_eq_true]
                    intro q hq
                    exact hkn q (by simp at hq h3; omega)
                  rw [this]
                  simp; omega
              · simp only [amS, if_true, if_false, Nat.reduceEqDiff, and_self]
              · simp only [amS]
              · simp; omega
      · have hg1 : decide (v.id < 0) = false := by assumption
        have hg2 : decide (v.id > 31) = false := by assumption
        have hg3 : decide ((i : Int) > 0) = false := by assumption
        simp at hg1 hg2 hg3
        repeat' (first | (refine awp_seq_k fun _ _ => ?_) | (refine awp_block ?_) | ((first | (refine awp_rgn ?_) | (refine awp_any (by kernel_rfl) (by kernel_rfl) ?_) | (refine awp_cond_k fun _ _ _ _ => ?_)) <;> simp only [amS, amL, tyS, amB, Nat.reduceLT, Nat.reduceEqDiff, Nat.reduceAdd, Nat.reduceMul, Nat.reduceSub, Nat.reduceLeDiff, reduceCtorEq]) | (refine guard_split (fun hg => ?_) (fun hg => ?_) <;> simp only [hg, amS, amL, tyS, amB, Nat.reduceLT, Nat.reduceEqDiff, Nat.reduceAdd, Nat.reduceMul, Nat.reduceSub, Nat.reduceLeDiff, reduceCtorEq]) | (refine awp_skip ?_; simp only [amS]) | (refine awp_exit ?_; simp only [amS, if_true, if_false, Nat.reduceEqDiff]) | (refine awp_ret ?_; try simp only [amS]) | (refine Cont.go (by assumption) ?_) | (refine Arm.go (by assumption) ?_))
        refine awp_loop_k (α := {k : Nat // k ≤ v.before.length ∧ ∀ j, j < k → okB (l.take i) v.before j = true}) (fun k => [(0, .sl false (l.map encV)), (3, .int .i64 i), (4, .int .i64 k.1)]) (fun _ => []) (fun k => v.before.length - k.1) ⟨0, by simp, by simp⟩ ⟨?_, .inl ?_⟩ ?_
        · simp [amS]
        · simp only [amS]
        · rintro ⟨k, hk, hkn⟩ K3 hK3
          repeat' (first | (refine awp_seq_k fun _ _ => ?_) | (refine awp_block ?_) | ((first | (refine awp_rgn ?_) | (refine awp_any (by kernel_rfl) (by kernel_rfl) ?_) | (refine awp_cond_k fun _ _ _ _ => ?_)) <;> simp only [amS, amL, tyS, amB, Nat.reduceLT, Nat.reduceEqDiff, Nat.reduceAdd, Nat.reduceMul, Nat.reduceSub, Nat.reduceLeDiff, reduceCtorEq, hv, encV, encI]) | (refine guard_split (fun hg => ?_) (fun hg => ?_) <;> simp only [hg, amS, amL, tyS, amB, Nat.reduceLT, Nat.reduceEqDiff, Nat.reduceAdd, Nat.reduceMul, Nat.reduceSub, Nat.reduceLeDiff, reduceCtorEq, hv, encV, encI]) | (refine awp_skip ?_; simp only [amS]) | (refine awp_exit ?_; simp only [amS, if_true, if_false, Nat.reduceEqDiff]) | (refine awp_ret ?_; try simp only [amS]) | (refine Cont.go (by assumption) ?_) | (refine Arm.go (by assumption) ?_))
          refine ⟨fun h3 => ?_, fun h3 => ?_⟩
          · have hkl : k < v.before.length := by simpa using h3
            obtain ⟨x, hx⟩ : ∃ x, v.before[k]? = some x := ⟨_, List.getElem?_eq_getElem hkl⟩
            obtain ⟨y, hy⟩ : ∃ y, v.before[((k : Int) - 1).toNat]? = some y := ⟨_, List.getElem?_eq_getElem (by omega)⟩
            have hwk : IntKind.i64.wrap ((k : Int) - 1) = (k : Int) - 1 := wrap_id (by omega) (by omega)
            have hpk : (0 ≤ (k : Int) - 1) = (decide ((k : Int) > 0) = true) := by simp; omega
            have hy' : v.before[k - 1]? = some y := by rw [← hy]; congr 1; omega
            have hwk1 := wrap_succ (k := k) hkl (by omega)
            have hokb : okB (l.take i) v.before k = (decide (0 ≤ findGo (l.take i) x 0) && (decide (k = 0) || decide (y < x))) := by
              unfold okB
              rw [hx, hy']
            have badb : okB (l.take i) v.before k = false → okV l i = false := fun e => by
              rw [hok]
              have : (List.range v.before.length).all (okB (l.take i) v.before) = false := by
                rw [List.all_eq_false]
                exact ⟨k, by simpa using hkl, by simp [e]⟩
              rw [this, Bool.and_false]
            repeat' (first | (refine awp_seq_k fun _ _ => ?_) | (refine awp_block ?_) | ((first | (refine awp_rgn ?_) | (refine awp_any (by kernel_rfl) (by kernel_rfl) ?_) | (refine awp_cond_k fun _ _ _ _ => ?_)) <;> simp only [amS, amL, tyS, amB, Nat.reduceLT, Nat.reduceEqDiff, Nat.reduceAdd, Nat.reduceMul, Nat.reduceSub, Nat.reduceLeDiff, reduceCtorEq, hv, encV, encI, hi, hx, all6, take_map]) | (refine guard_split (fun hg => ?_) (fun hg => ?_) <;> simp only [hg, amS, amL, tyS, amB, Nat.reduceLT, Nat.reduceEqDiff, Nat.reduceAdd, Nat.reduceMul, Nat.reduceSub, Nat.reduceLeDiff, reduceCtorEq, hv, encV, encI, hi, hx, all6, take_map]) | (refine awp_skip ?_; simp only [amS]) | (refine awp_exit ?_; simp only [amS, if_true, if_false, Nat.reduceEqDiff]) | (refine awp_ret ?_; try simp only [amS]) | (refine Cont.go (by assumption) ?_) | (refine Arm.go (by assumption) ?_))
            refine callR_tree hG0 (findGo_30 (l.take i) x (by unfold Small; rw [List.length_take]; omega)) ?_
            simp only [amS, amL, tyS, amB, Nat.reduceLT, Nat.reduceEqDiff, Nat.reduceAdd, Nat.reduceMul, Nat.reduceSub, Nat.reduceLeDiff, reduceCtorEq, hv, encV, encI, hx, hy, hwk, hpk, hwk1]
            repeat' (first | (refine awp_seq_k fun _ _ => ?_) | (refine awp_block ?_) | ((first | (refine awp_rgn ?_) | (refine awp_any (by kernel_rfl) (by kernel_rfl) ?_) | (refine awp_cond_k fun _ _ _ _ => ?_)) <;> simp only [amS, amL, tyS, amB, Nat.reduceLT, Nat.reduceEqDiff, Nat.reduceAdd, Nat.reduceMul, Nat.reduceSub, Nat.reduceLeDiff, reduceCtorEq, hv, encV, encI, hx, hy, hwk, hpk, hwk1]) | (refine guard_split (fun hg => ?_) (fun hg => ?_) <;> simp only [hg, amS, amL, tyS, amB, Nat.reduceLT, Nat.reduceEqDiff, Nat.reduceAdd, Nat.reduceMul, Nat.reduceSub, Nat.reduceLeDiff, reduceCtorEq, hv, encV, encI, hx, hy, hwk, hpk, hwk1]) | (refine awp_skip ?_; simp only [amS]) | (refine awp_exit ?_; simp only [amS, if_true, if_false, Nat.reduceEqDiff]) | (refine awp_ret ?_; try simp only [amS]) | (refine Cont.go (by assumption) ?_) | (refine Arm.go (by assumption) ?_))
            · refine body_ret1 rfl ?_
              simp only [amS, if_true, if_false]
              rw [AV.bool.injEq]
              simp at hg
              exact bad (badb (by rw [hokb]; simp; omega))
            · have hg1 : decide (findGo (l.take i) x 0 < 0) = false := by assumption
              have hg2 : decide ((k : Int) > 0) = true := by assumption
              refine ⟨fun h4 => ?_, fun h4 => ?_⟩
              · repeat' (first | (refine awp_seq_k fun _ _ => ?_) | (refine awp_block ?_) | ((first | (refine awp_rgn ?_) | (refine awp_any (by kernel_rfl) (by kernel_rfl) ?_) | (refine awp_cond_k fun _ _ _ _ => ?_)) <;> simp only [amS, amL, tyS, amB, Nat.reduceLT, Nat.reduceEqDiff, Nat.reduceAdd, Nat.reduceMul, Nat.reduceSub, Nat.reduceLeDiff, reduceCtorEq]) | (refine guard_split (fun hg => ?_) (fun hg => ?_) <;> simp only [hg, amS, amL, tyS, amB, Nat.reduceLT, Nat.reduceEqDiff, Nat.reduceAdd, Nat.reduceMul, Nat.reduceSub, Nat.reduceLeDiff, reduceCtorEq]) | (refine awp_skip ?_; simp only [amS]) | (refine awp_exit ?_; simp only [amS, if_true, if_false, Nat.reduceEqDiff]) | (refine awp_ret ?_; try simp only [amS]) | (refine Cont.go (by assumption) ?_) | (refine Arm.go (by assumption) ?_))
                refine body_ret1 rfl ?_
                simp only [amS, if_true, if_false]
                rw [AV.bool.injEq]
                simp at hg1 hg2 h4
                exact bad (badb (by rw [hokb]; simp; omega))
              · repeat' (first | (refine awp_seq_k fun _ _ => ?_) | (refine awp_block ?_) | ((first | (refine awp_rgn ?_) | (refine awp_any (by kernel_rfl) (by kernel_rfl) ?_) | (refine awp_cond_k fun _ _ _ _ => ?_)) <;> simp only [amS, amL, tyS, amB, Nat.reduceLT, Nat.reduceEqDiff, Nat.reduceAdd, Nat.reduceMul, Nat.reduceSub, Nat.reduceLeDiff, reduceCtorEq, hwk1]) | (refine guard_split (fun hg => ?_) (fun hg => ?_) <;> simp only [hg, amS, amL, tyS, amB, Nat.reduceLT, Nat.reduceEqDiff, Nat.reduceAdd, Nat.reduceMul, Nat.reduceSub, Nat.reduceLeDiff, reduceCtorEq, hwk1]) | (refine awp_skip ?_; simp only [amS]) | (refine awp_exit ?_; simp only [amS, if_true, if_false, Nat.reduceEqDiff]) | (refine awp_ret ?_; try simp only [amS]) | (refine Cont.go (by assumption) ?_) | (refine Arm.go (by assumption) ?_))
                refine Again.go hK3 ⟨k + 1, hkl, ?_⟩ ⟨?_, .inl ?_⟩ ?_
                · intro j hj
                  rcases Nat.lt_succ_iff_lt_or_eq.1 hj with hj | rfl
                  · exact hkn j hj
                  · rw [hokb]
                    simp at hg1 hg2 h4 ⊢
                    omega
                · simp only [amS, if_true, if_false, Nat.reduceEqDiff, and_self]
                · simp only [amS]
                · simp; omega
            · repeat' (first | (refine awp_seq_k fun _ _ => ?_) | (refine awp_block ?_) | ((first | (refine awp_rgn ?_) | (refine awp_any (by kernel_rfl) (by kernel_rfl) ?_) | (refine awp_cond_k fun _ _ _ _ => ?_)) <;> simp only [amS, amL, tyS, amB, Nat.reduceLT, Nat.reduceEqDiff, Nat.reduceAdd, Nat.reduceMul, Nat.reduceSub, Nat.reduceLeDiff, reduceCtorEq, hwk1]) | (refine guard_split (fun hg => ?_) (fun hg => ?_) <;> simp only [hg, amS, amL, tyS, amB, Nat.reduceLT, Nat.reduceEqDiff, Nat.reduceAdd, Nat.reduceMul, Nat.reduceSub, Nat.reduceLeDiff, reduceCtorEq, hwk1]) | (refine awp_skip ?_; simp only [amS]) | (refine awp_exit ?_; simp only [amS, if_true, if_false, Nat.reduceEqDiff]) | (refine awp_ret ?_; try simp only [amS]) | (refine Cont.go (by assumption) ?_) | (refine Arm.go (by assumption) ?_))
              refine Again.go hK3 ⟨k + 1, hkl, ?_⟩ ⟨?_, .inl ?_⟩ ?_
              · intro j hj
                rcases Nat.lt_succ_iff_lt_or_eq.1 hj with hj | rfl
                · exact hkn j hj
                · rw [hokb]
                  have hg1 : decide (findGo (l.take i) x 0 < 0) = false := by assumption
                  have hg2 : decide ((j : Int) > 0) = false := by assumption
                  simp at hg1 hg2 ⊢
                  omega
              · simp only [amS, if_true, if_false, Nat.reduceEqDiff, and_self]
              · simp only [amS]
              · simp; omega
          · have hw1 := wrap_succ (k := i) hlt (by omega)
            repeat' (first | (refine awp_seq_k fun _ _ => ?_) | (refine awp_block ?_) | ((first | (refine awp_rgn ?_) | (refine awp_any (by kernel_rfl) (by kernel_rfl) ?_) | (refine awp_cond_k fun _ _ _ _ => ?_)) <;> simp only [amS, amL, tyS, amB, Nat.reduceLT, Nat.reduceEqDiff, Nat.reduceAdd, Nat.reduceMul, Nat.reduceSub, Nat.reduceLeDiff, reduceCtorEq, hw1]) | (refine guard_split (fun hg => ?_) (fun hg => ?_) <;> simp only [hg, amS, amL, tyS, amB, Nat.reduceLT, Nat.reduceEqDiff, Nat.reduceAdd, Nat.reduceMul, Nat.reduceSub, Nat.reduceLeDiff, reduceCtorEq, hw1]) | (refine awp_skip ?_; simp only [amS]) | (refine awp_exit ?_; simp only [amS, if_true, if_false, Nat.reduceEqDiff]) | (refine awp_ret ?_; try simp only [amS]) | (refine Cont.go (by assumption) ?_) | (refine Arm.go (by assumption) ?_))
            refine Again.go hK2 ⟨i + 1, hlt, ?_⟩ ⟨?_, .inl ?_⟩ ?_
            · intro j hj
              rcases Nat.lt_succ_iff_lt_or_eq.1 hj with hj | rfl
              · exact hn j hj
              · rw [hok]
                have : (List.range v.before.length).all (okB (l.take j) v.before) = true := by
                  rw [List.all_eq_true]
                  intro q hq
                  exact hkn q (by simp at hq h3; omega)
                rw [this]
                simp; omega
            · simp only [amS, if_true, if_false, Nat.reduceEqDiff, and_self]
            · simp only [amS]
            · simp; omega
    · repeat' (first | (refine awp_seq_k fun _ _ => ?_) | (refine awp_block ?_) | ((first | (refine awp_rgn ?_) | (refine awp_any (by kernel_rfl) (by kernel_rfl) ?_) | (refine awp_cond_k fun _ _ _ _ => ?_)) <;> simp only [amS, amL, tyS, amB, Nat.reduceLT, Nat.reduceEqDiff, Nat.reduceAdd, Nat.reduceMul, Nat.reduceSub, Nat.reduceLeDiff, reduceCtorEq]) | (refine guard_split (fun hg => ?_) (fun hg => ?_) <;> simp only [hg, amS, amL, tyS, amB, Nat.reduceLT, Nat.reduceEqDiff, Nat.reduceAdd, Nat.reduceMul, Nat.reduceSub, Nat.reduceLeDiff, reduceCtorEq]) | (refine awp_skip ?_; simp only [amS]) | (refine awp_exit ?_; simp only [amS, if_true, if_false, Nat.reduceEqDiff]) | (refine awp_ret ?_; try simp only [amS]) | (refine Cont.go (by assumption) ?_) | (refine Arm.go (by assumption) ?_))
      refine body_ret1 rfl ?_
      simp only [amS, if_true, if_false]
      rw [AV.bool.injEq, eq_comm, validL, List.all_eq_true]
      intro j hj
      exact hn j (by simp at h hj; omega)

end Go.Proofs.Ytgenkkejlggmnaa
