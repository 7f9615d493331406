import Derived.Test.YtgenkkejlggmnaaB22
set_option linter.unusedVariables false
set_option linter.unusedSimpArgs false
namespace Go.Proofs.Ytgenkkejlggmnaa
open Go.AM

theorem nRef {p : Nat → Bool} : ∀ r, noRef r = true → p r = true := fun r hr => by cases hr
theorem tV {p : Nat → Bool} (l : List V) : inE p (l.map encV) = true := inE_mono nRef (tree_vs l)
theorem tI {p : Nat → Bool} (l : List Int) : inE p (l.map fun n => [AV.int .i64 n]) = true := inE_mono nRef (tree_ints l)
theorem tK {p : Nat → Bool} (l : List Int) : inL p (cK l) = true := inL_mono nRef (tree_cK l)
theorem tP {p : Nat → Bool} (l : List (Nat → Bool)) : inL p (cP l) = true := inL_mono nRef (tree_cP l)
theorem tE {p : Nat → Bool} (l : List V) : inL p (cE l) = true := inL_mono nRef (tree_cE l)
theorem tF {p : Nat → Bool} (f : Nat → Bool) : inL p (cF f) = true := inL_mono nRef (tree_cF f)
/-- The guilty ones so far: nothing, or a list in a row of its own. -/
def gV (app : List Int) : AV := if app = [] then .sl true [] else .osl 2 (app.length - 1) 0 app.length 1 false
def gH (bad app : List Int) : List ARow := if app = [] then [.cells 0 [encI bad]] else [.cells 0 [encI bad], .dead, .cells (app.length - 1) (cK app)]

def isGuiltyB (l : List V) (bad : List Int) (v : Int) : Bool := hasL bad v && !((idsF (setB l v)).any fun n => n != v && hasL bad n)
def guiltyB (l : List V) (id : Int) (bad : List Int) : List Int := (idsF (setB l id)).filter (isGuiltyB l bad)

theorem first_18e (l : List V) (id : Int) (bad : List Int) (hl : l.length ≤ 1000) (hb : ∀ v ∈ l, v.before.length ≤ 1000) (he : errB l id ≠ 0) : Pure Try.prog G0 18 [encVs l, .int .i64 id, encI bad] (.tup [encI [], encI [], .int .i64 (errB l id)]) := by
  refine pure_of_bodyW hG0 Try.func18 rfl (by kernel_rfl) (by simp [Try.ntmps18]) (by simp [inL, inR, tree_encVs, tree_encI]) (by simp [inR, inL, tree_encI]) ?_
  simp only [Try.ntmps18, enterF, Nat.reduceAdd]
  repeat' (first | (refine awp_seq_k fun _ _ => ?_) | (refine awp_block ?_) | ((first | (refine awp_rgn ?_) | (refine awp_any (by kernel_rfl) (by kernel_rfl) ?_) | (refine awp_cond_k fun _ _ _ _ => ?_)) <;> simp only [amS, amL, tyS, amB, Nat.reduceLT, Nat.reduceEqDiff, Nat.reduceAdd, Nat.reduceMul, Nat.reduceSub, Nat.reduceLeDiff, reduceCtorEq, encI]) | (refine guard_split (fun hg => ?_) (fun hg => ?_) <;> simp only [hg, amS, amL, tyS, amB, Nat.reduceLT, Nat.reduceEqDiff, Nat.reduceAdd, Nat.reduceMul, Nat.reduceSub, Nat.reduceLeDiff, reduceCtorEq, encI]) | (refine awp_skip ?_; simp only [amS]) | (refine awp_exit ?_; simp only [amS, if_true, if_false, Nat.reduceEqDiff]) | (refine awp_ret ?_; try simp only [amS]) | (refine Cont.go (by assumption) ?_) | (refine Arm.go (by assumption) ?_))
  refine callR_tree hG0 (begin_34e l id hl hb he) ?_
  simp only [amS, amL, tyS, amB, Nat.reduceLT, Nat.reduceEqDiff, Nat.reduceAdd, Nat.reduceMul, Nat.reduceSub, Nat.reduceLeDiff, reduceCtorEq]
  repeat' (first | (refine awp_seq_k fun _ _ => ?_) | (refine awp_block ?_) | ((first | (refine awp_rgn ?_) | (refine awp_any (by kernel_rfl) (by kernel_rfl) ?_) | (refine awp_cond_k fun _ _ _ _ => ?_)) <;> simp only [amS, amL, tyS, amB, Nat.reduceLT, Nat.reduceEqDiff, Nat.reduceAdd, Nat.reduceMul, Nat.reduceSub, Nat.reduceLeDiff, reduceCtorEq]) | (refine guard_split (fun hg => ?_) (fun hg => ?_) <;> simp only [hg, amS, amL, tyS, amB, Nat.reduceLT, Nat.reduceEqDiff, Nat.reduceAdd, Nat.reduceMul, Nat.reduceSub, Nat.reduceLeDiff, reduceCtorEq]) | (refine awp_skip ?_; simp only [amS]) | (refine awp_exit ?_; simp only [amS, if_true, if_false, Nat.reduceEqDiff]) | (refine awp_ret ?_; try simp only [amS]) | (refine Cont.go (by assumption) ?_) | (refine Arm.go (by assumption) ?_))
  refine ⟨fun h => ?_, fun h => ?_⟩
  · repeat' (first | (refine awp_seq_k fun _ _ => ?_) | (refine awp_block ?_) | ((first | (refine awp_rgn ?_) | (refine awp_any (by kernel_rfl) (by kernel_rfl) ?_) | (refine awp_cond_k fun _ _ _ _ => ?_)) <;> simp only [amS, amL, tyS, amB, Nat.reduceLT, Nat.reduceEqDiff, Nat.reduceAdd, Nat.reduceMul, Nat.reduceSub, Nat.reduceLeDiff, reduceCtorEq]) | (refine guard_split (fun hg => ?_) (fun hg => ?_) <;> simp only [hg, amS, amL, tyS, amB, Nat.reduceLT, Nat.reduceEqDiff, Nat.reduceAdd, Nat.reduceMul, Nat.reduceSub, Nat.reduceLeDiff, reduceCtorEq]) | (refine awp_skip ?_; simp only [amS]) | (refine awp_exit ?_; simp only [amS, if_true, if_false, Nat.reduceEqDiff]) | (refine awp_ret ?_; try simp only [amS]) | (refine Cont.go (by assumption) ?_) | (refine Arm.go (by assumption) ?_))
    refine body_ret3 rfl ?_
    simp only [amS, if_true, if_false, Nat.reduceEqDiff]
    simp [wk, wkL, wkE, encI]
  · exact absurd (by simpa using h) he

set_option maxHeartbeats 4000000 in
theorem first_18 (l : List V) (id : Int) (bad : List Int) (n : Nat) (r : List Int) (h0 : dfsV l bad n id [] = some r) (hr : r.length ≤ 1000000) (hl : l.length ≤ 1000) (hb : ∀ v ∈ l, v.before.length ≤ 1000) (hbad : Small bad.length) (he : errB l id = 0)
    (hids : ∀ v ∈ l, ∀ b ∈ v.before, hasL (l.map (·.id)) b = true) (hS : ∀ x ∈ idsF (setB l id), hasL (l.map (·.id)) x = true) : Pure Try.prog G0 18 [encVs l, .int .i64 id, encI bad] (.tup [encI (guiltyB l id bad), encI r, .int .i64 0]) := by
  have hv : valGo l [] (-1) = true := by
    unfold errB at he
    split at he
    · assumption
    · cases he
  have hhas := errB_has he
  have hnd := (valGo_ids l _ _ hv).2
  refine pure_of_bodyW hG0 Try.func18 rfl (by kernel_rfl) (by simp [Try.ntmps18]) (by simp [inL, inR, tree_encVs, tree_encI]) (by simp [inR, inL, tree_encI]) ?_
  simp only [Try.ntmps18, enterF, Nat.reduceAdd]
  repeat' (first | (refine awp_seq_k fun _ _ => ?_) | (refine awp_block ?_) | ((first | (refine awp_rgn ?_) | (refine awp_any (by kernel_rfl) (by kernel_rfl) ?_) | (refine awp_cond_k fun _ _ _ _ => ?_)) <;> simp only [amS, amL, tyS, amB, Nat.reduceLT, Nat.reduceEqDiff, Nat.reduceAdd, Nat.reduceMul, Nat.reduceSub, Nat.reduceLeDiff, reduceCtorEq, encI]) | (refine guard_split (fun hg => ?_) (fun hg => ?_) <;> simp only [hg, amS, amL, tyS, amB, Nat.reduceLT, Nat.reduceEqDiff, Nat.reduceAdd, Nat.reduceMul, Nat.reduceSub, Nat.reduceLeDiff, reduceCtorEq, encI]) | (refine awp_skip ?_; simp only [amS]) | (refine awp_exit ?_; simp only [amS, if_true, if_false, Nat.reduceEqDiff]) | (refine awp_ret ?_; try simp only [amS]) | (refine Cont.go (by assumption) ?_) | (refine Arm.go (by assumption) ?_))
  refine callR_tree hG0 (begin_34 l id hl hb he) ?_
  have hlook : ∀ x, hasL (l.map (·.id)) x = true → ∃ j, afind (.int .i64) (.int .i64 x) (cK (l.map (·.id))) 0 = some (some j) ∧ (cP (pastsGo l [] []))[j]? = some (.agg (cF (setB l x))) := by
    intro x hx
    have hfi := afind_int (l.map (·.id)) x 0
    have hha := afindI_has (l.map (·.id)) x 0
    cases hc : afindI (l.map (·.id)) x 0 with
    | none => rw [hc, hx] at hha; cases hha
    | some j =>
      rw [hc] at hfi
      have hj := afindI_lt _ _ _ _ hc
      have hs : setB l x = (pastsGo l [] []).getD j noF := by simp only [setB, lookF, hc]
      exact ⟨j, hfi, by rw [hs]; exact cP_get (by rw [pastsGo_len]; simpa using hj)⟩
  have hgl : guiltyB l id bad = (idsF (setB l id)).filter (isGuiltyB l bad) := rfl
  obtain ⟨j0, hfi0, hpg0⟩ := hlook id hhas
  simp only [amS, amL, tyS, amB, Nat.reduceLT, Nat.reduceEqDiff, Nat.reduceAdd, Nat.reduceMul, Nat.reduceSub, Nat.reduceLeDiff, reduceCtorEq]
  repeat' (first | (refine awp_seq_k fun _ _ => ?_) | (refine awp_block ?_) | ((first | (refine awp_rgn ?_) | (refine awp_any (by kernel_rfl) (by kernel_rfl) ?_) | (refine awp_cond_k fun _ _ _ _ => ?_)) <;> simp only [amS, amL, tyS, amB, Nat.reduceLT, Nat.reduceEqDiff, Nat.reduceAdd, Nat.reduceMul, Nat.reduceSub, Nat.reduceLeDiff, reduceCtorEq, bne_self_eq_false, hfi0, hpg0]) | (refine guard_split (fun hg => ?_) (fun hg => ?_) <;> simp only [hg, amS, amL, tyS, amB, Nat.reduceLT, Nat.reduceEqDiff, Nat.reduceAdd, Nat.reduceMul, Nat.reduceSub, Nat.reduceLeDiff, reduceCtorEq, bne_self_eq_false, hfi0, hpg0]) | (refine awp_skip ?_; simp only [amS]) | (refine awp_exit ?_; simp only [amS, if_true, if_false, Nat.reduceEqDiff]) | (refine awp_ret ?_; try simp only [amS]) | (refine Cont.go (by assumption) ?_) | (refine Arm.go (by assumption) ?_))
  refine callR_tree hG0 (ids_f _) ?_
  have hSl := idsF_len (setB l id)
  generalize idsF (setB l id) = S at hS hgl hSl ⊢
  simp only [amS, amL, tyS, amB, Nat.reduceLT, Nat.reduceEqDiff, Nat.reduceAdd, Nat.reduceMul, Nat.reduceSub, Nat.reduceLeDiff, reduceCtorEq, encI]
  repeat' (first | (refine awp_seq_k fun _ _ => ?_) | (refine awp_block ?_) | ((first | (refine awp_rgn ?_) | (refine awp_any (by kernel_rfl) (by kernel_rfl) ?_) | (refine awp_cond_k fun _ _ _ _ => ?_)) <;> simp only [amS, amL, tyS, amB, Nat.reduceLT, Nat.reduceEqDiff, Nat.reduceAdd, Nat.reduceMul, Nat.reduceSub, Nat.reduceLeDiff, reduceCtorEq, encI]) | (refine guard_split (fun hg => ?_) (fun hg => ?_) <;> simp only [hg, amS, amL, tyS, amB, Nat.reduceLT, Nat.reduceEqDiff, Nat.reduceAdd, Nat.reduceMul, Nat.reduceSub, Nat.reduceLeDiff, reduceCtorEq, encI]) | (refine awp_skip ?_; simp only [amS]) | (refine awp_exit ?_; simp only [amS, if_true, if_false, Nat.reduceEqDiff]) | (refine awp_ret ?_; try simp only [amS]) | (refine Cont.go (by assumption) ?_) | (refine Arm.go (by assumption) ?_))
  refine awp_loop_r (α := {k : Nat // k ≤ S.length}) (fun k => [(0, encVs l), (1, .int .i64 id), (5, .ptr 0 0 0), (9, .mp (cK (l.map (·.id))) (cP (pastsGo l [] []))), (11, gV ((S.take k.1).filter (isGuiltyB l bad))), (31, encI S), (32, .int .i64 S.length), (33, .int .i64 k.1)]) (fun k => gH bad ((S.take k.1).filter (isGuiltyB l bad))) (fun k => S.length - k.1) ⟨0, Nat.zero_le _⟩ (Weak.ref ⟨?_, .inl ?_⟩) ?_
  · simp only [amS, amL, tyS, amB, Nat.reduceLT, Nat.reduceEqDiff, Nat.reduceAdd, Nat.reduceMul, Nat.reduceSub, Nat.reduceLeDiff, reduceCtorEq, encI, encVs]
    exact ⟨rfl, rfl⟩
  · simp only [amS, amL, tyS, amB, Nat.reduceLT, Nat.reduceEqDiff, Nat.reduceAdd, Nat.reduceMul, Nat.reduceSub, Nat.reduceLeDiff, reduceCtorEq, encI] <;> rfl
  · rintro ⟨k, hk⟩ K2 hK2
    repeat' (first | (refine awp_seq_k fun _ _ => ?_) | (refine awp_block ?_) | ((first | (refine awp_rgn ?_) | (refine awp_any (by kernel_rfl) (by kernel_rfl) ?_) | (refine awp_cond_k fun _ _ _ _ => ?_)) <;> simp only [amS, amL, tyS, amB, Nat.reduceLT, Nat.reduceEqDiff, Nat.reduceAdd, Nat.reduceMul, Nat.reduceSub, Nat.reduceLeDiff, reduceCtorEq, encI]) | (refine guard_split (fun hg => ?_) (fun hg => ?_) <;> simp only [hg, amS, amL, tyS, amB, Nat.reduceLT, Nat.reduceEqDiff, Nat.reduceAdd, Nat.reduceMul, Nat.reduceSub, Nat.reduceLeDiff, reduceCtorEq, encI]) | (refine awp_skip ?_; simp only [amS]) | (refine awp_ret ?_; try simp only [amS]) | (refine Cont.go (by assumption) ?_) | (refine Arm.go (by assumption) ?_))
    refine ⟨fun h => ?_, fun h => ?_⟩
    · have hlt : k < S.length := by simpa using h
      obtain ⟨x, hx⟩ : ∃ v, S[k]? = some v := ⟨_, List.getElem?_eq_getElem hlt⟩
      have hw := wrap_succ (k := k) hlt (by omega)
      obtain ⟨jx, hfi, hpg⟩ := hlook x (hS x (List.mem_of_getElem? hx))
      have hft := filter_take (p := isGuiltyB l bad) hx
      have hal := filter_take_len (p := isGuiltyB l bad) (l := S) (k := k)
      generalize hap : (S.take k).filter (isGuiltyB l bad) = app at hft hal ⊢
      cases app with
      | nil =>
        repeat' (first | (refine awp_seq_k fun _ _ => ?_) | (refine awp_block ?_) | ((first | (refine awp_rgn ?_) | (refine awp_any (by kernel_rfl) (by kernel_rfl) ?_) | (refine awp_cond_k fun _ _ _ _ => ?_)) <;> simp only [amS, amL, tyS, amB, Nat.reduceLT, Nat.reduceEqDiff, Nat.reduceAdd, Nat.reduceMul, Nat.reduceSub, Nat.reduceLeDiff, reduceCtorEq, hx, encI, hap, gV, gH, eq_self]) | (refine guard_split (fun hg => ?_) (fun hg => ?_) <;> simp only [hg, amS, amL, tyS, amB, Nat.reduceLT, Nat.reduceEqDiff, Nat.reduceAdd, Nat.reduceMul, Nat.reduceSub, Nat.reduceLeDiff, reduceCtorEq, hx, encI, hap, gV, gH, eq_self]) | (refine awp_skip ?_; simp only [amS]) | (refine awp_exit ?_; simp only [amS, if_true, if_false, Nat.reduceEqDiff]) | (refine awp_ret ?_; try simp only [amS]) | (refine Cont.go (by assumption) ?_) | (refine Arm.go (by assumption) ?_))
        refine callR_tree hG0 (contains_35 bad x hbad) ?_
        simp only [amS, amL, tyS, amB, Nat.reduceLT, Nat.reduceEqDiff, Nat.reduceAdd, Nat.reduceMul, Nat.reduceSub, Nat.reduceLeDiff, reduceCtorEq]
        repeat' (first | (refine awp_seq_k fun _ _ => ?_) | (refine awp_block ?_) | ((first | (refine awp_rgn ?_) | (refine awp_any (by kernel_rfl) (by kernel_rfl) ?_) | (refine awp_cond_k fun _ _ _ _ => ?_)) <;> simp only [amS, amL, tyS, amB, Nat.reduceLT, Nat.reduceEqDiff, Nat.reduceAdd, Nat.reduceMul, Nat.reduceSub, Nat.reduceLeDiff, reduceCtorEq, hfi, hpg, hw]) | (refine guard_split (fun hg => ?_) (fun hg => ?_) <;> simp only [hg, amS, amL, tyS, amB, Nat.reduceLT, Nat.reduceEqDiff, Nat.reduceAdd, Nat.reduceMul, Nat.reduceSub, Nat.reduceLeDiff, reduceCtorEq, hfi, hpg, hw]) | (refine awp_skip ?_; simp only [amS]) | (refine awp_exit ?_; simp only [amS, if_true, if_false, Nat.reduceEqDiff]) | (refine awp_ret ?_; try simp only [amS]) | (refine Cont.go (by assumption) ?_) | (refine Arm.go (by assumption) ?_))
        · have hg1 := hg
          refine callR_tree hG0 (ids_f _) ?_
          simp only [amS, amL, tyS, amB, Nat.reduceLT, Nat.reduceEqDiff, Nat.reduceAdd, Nat.reduceMul, Nat.reduceSub, Nat.reduceLeDiff, reduceCtorEq]
          refine callR_pure (fp := [0, 1]) hG0 (containsFunc_28 36 [.imm [.int .i64 x], .imm [encI bad]] (fun n => n != x && hasL bad n) (by simp only [inL, inR, tree_encI, Bool.and_self]) (idsF (setB l x)) (fun y _ => first1_36 y x bad hbad) (by have := idsF_len (setB l x); unfold Small; omega)) (.cons (.same (tree_encI _)) (.cons (.fn .nil (.cons (.ptr (cs := [.int .i64 x]) (by simp) ?_ (.cons (.same rfl) .nil)) (.cons (.ptr (cs := [encI bad]) (by simp) ?_ (.cons (.same (tree_encI _)) .nil)) .nil))) .nil)) (.inr rfl) ?_
          · simp only [amS, amL, tyS, amB, Nat.reduceLT, Nat.reduceEqDiff, Nat.reduceAdd, Nat.reduceMul, Nat.reduceSub, Nat.reduceLeDiff, reduceCtorEq]
          · simp only [amS, amL, tyS, amB, Nat.reduceLT, Nat.reduceEqDiff, Nat.reduceAdd, Nat.reduceMul, Nat.reduceSub, Nat.reduceLeDiff, reduceCtorEq, encI]
          have hgu : isGuiltyB l bad x = !((idsF (setB l x)).any fun n => n != x && hasL bad n) := by rw [isGuiltyB, hg1, Bool.true_and]
          simp only [amS, amL, tyS, amB, Nat.reduceLT, Nat.reduceEqDiff, Nat.reduceAdd, Nat.reduceMul, Nat.reduceSub, Nat.reduceLeDiff, reduceCtorEq]
          repeat' (first | (refine awp_seq_k fun _ _ => ?_) | (refine awp_block ?_) | ((first | (refine awp_rgn ?_) | (refine awp_any (by kernel_rfl) (by kernel_rfl) ?_) | (refine awp_cond_k fun _ _ _ _ => ?_)) <;> simp only [amS, amL, tyS, amB, Nat.reduceLT, Nat.reduceEqDiff, Nat.reduceAdd, Nat.reduceMul, Nat.reduceSub, Nat.reduceLeDiff, reduceCtorEq]) | (refine guard_split (fun hg => ?_) (fun hg => ?_) <;> simp only [hg, amS, amL, tyS, amB, Nat.reduceLT, Nat.reduceEqDiff, Nat.reduceAdd, Nat.reduceMul, Nat.reduceSub, Nat.reduceLeDiff, reduceCtorEq]) | (refine awp_skip ?_; simp only [amS]) | (refine awp_exit ?_; simp only [amS, if_true, if_false, Nat.reduceEqDiff]) | (refine awp_ret ?_; try simp only [amS]) | (refine Cont.go (by assumption) ?_) | (refine Arm.go (by assumption) ?_))
          refine ⟨fun h4 => ?_, fun h4 => ?_⟩
          · rw [h4] at hgu
            rw [hgu, if_pos rfl] at hft
            repeat' (first | (refine awp_seq_k fun _ _ => ?_) | (refine awp_block ?_) | ((first | (refine awp_rgn ?_) | (refine awp_any (by kernel_rfl) (by kernel_rfl) ?_) | (refine awp_cond_k fun _ _ _ _ => ?_)) <;> simp only [amS, amL, tyS, amB, Nat.reduceLT, Nat.reduceEqDiff, Nat.reduceAdd, Nat.reduceMul, Nat.reduceSub, Nat.reduceLeDiff, reduceCtorEq]) | (refine guard_split (fun hg => ?_) (fun hg => ?_) <;> simp only [hg, amS, amL, tyS, amB, Nat.reduceLT, Nat.reduceEqDiff, Nat.reduceAdd, Nat.reduceMul, Nat.reduceSub, Nat.reduceLeDiff, reduceCtorEq]) | (refine awp_skip ?_; simp only [amS]) | (refine awp_exit ?_; simp only [amS, if_true, if_false, Nat.reduceEqDiff]) | (refine awp_ret ?_; try simp only [amS]) | (refine Cont.go (by assumption) ?_) | (refine Arm.go (by assumption) ?_))
            have hnx : [] ++ [x] ≠ [] := by simp
            refine eff_new (sz := 1) (by' := 8) (mm := 1) (new := [.int .i64 x]) (by kernel_rfl) (by simp only [amS, amL, tyS, amB, Nat.reduceLT, Nat.reduceEqDiff, Nat.reduceAdd, Nat.reduceMul, Nat.reduceSub, Nat.reduceLeDiff, reduceCtorEq]) (by simp) (by simp [srcA]) (by simp) (by simp) ?_
            simp only [amS, amL, tyS, amB, Nat.reduceLT, Nat.reduceEqDiff, Nat.reduceAdd, Nat.reduceMul, Nat.reduceSub, Nat.reduceLeDiff, reduceCtorEq]
            repeat' (first | (refine awp_seq_k fun _ _ => ?_) | (refine awp_block ?_) | ((first | (refine awp_rgn ?_) | (refine awp_any (by kernel_rfl) (by kernel_rfl) ?_) | (refine awp_cond_k fun _ _ _ _ => ?_)) <;> simp only [amS, amL, tyS, amB, Nat.reduceLT, Nat.reduceEqDiff, Nat.reduceAdd, Nat.reduceMul, Nat.reduceSub, Nat.reduceLeDiff, reduceCtorEq, hw]) | (refine guard_split (fun hg => ?_) (fun hg => ?_) <;> simp only [hg, amS, amL, tyS, amB, Nat.reduceLT, Nat.reduceEqDiff, Nat.reduceAdd, Nat.reduceMul, Nat.reduceSub, Nat.reduceLeDiff, reduceCtorEq, hw]) | (refine awp_skip ?_; simp only [amS]) | (refine awp_exit ?_; simp only [amS, if_true, if_false, Nat.reduceEqDiff]) | (refine awp_ret ?_; try simp only [amS]) | (refine Cont.go (by assumption) ?_) | (refine Arm.go (by assumption) ?_))
            refine AgainR.go hK2 ⟨k + 1, hlt⟩ ?_ (by simp; omega)
            refine ref_freeze [1] _ _ ?_ ?_ ?_
            · simp only [amS, amL, tyS, amB, Nat.reduceLT, Nat.reduceEqDiff, Nat.reduceAdd, Nat.reduceMul, Nat.reduceSub, Nat.reduceLeDiff, reduceCtorEq]
            · simp only [amS, amL, tyS, amB, Nat.reduceLT, Nat.reduceEqDiff, Nat.reduceAdd, Nat.reduceMul, Nat.reduceSub, Nat.reduceLeDiff, reduceCtorEq, hft, gV, FrzF, encI, hnx, Frz, eq_self, true_or, List.length_append]
            · simp only [amS, amL, tyS, amB, Nat.reduceLT, Nat.reduceEqDiff, Nat.reduceAdd, Nat.reduceMul, Nat.reduceSub, Nat.reduceLeDiff, reduceCtorEq, hft, gH, FrzH, encI, hnx]
              simp [FrzRow, cK_one]
          · rw [h4] at hgu
            rw [hgu, if_neg (by simp), List.append_nil] at hft
            repeat' (first | (refine awp_seq_k fun _ _ => ?_) | (refine awp_block ?_) | ((first | (refine awp_rgn ?_) | (refine awp_any (by kernel_rfl) (by kernel_rfl) ?_) | (refine awp_cond_k fun _ _ _ _ => ?_)) <;> simp only [amS, amL, tyS, amB, Nat.reduceLT, Nat.reduceEqDiff, Nat.reduceAdd, Nat.reduceMul, Nat.reduceSub, Nat.reduceLeDiff, reduceCtorEq, hw]) | (refine guard_split (fun hg => ?_) (fun hg => ?_) <;> simp only [hg, amS, amL, tyS, amB, Nat.reduceLT, Nat.reduceEqDiff, Nat.reduceAdd, Nat.reduceMul, Nat.reduceSub, Nat.reduceLeDiff, reduceCtorEq, hw]) | (refine awp_skip ?_; simp only [amS]) | (refine awp_exit ?_; simp only [amS, if_true, if_false, Nat.reduceEqDiff]) | (refine awp_ret ?_; try simp only [amS]) | (refine Cont.go (by assumption) ?_) | (refine Arm.go (by assumption) ?_))
            refine AgainR.go hK2 ⟨k + 1, hlt⟩ (Weak.ref ⟨?_, .inr ⟨Nat.zero_le _, ?_, fun g cs hg => (by cases hg), ?_, ?_⟩⟩) (by simp; omega)
            · simp only [amS, amL, tyS, amB, Nat.reduceLT, Nat.reduceEqDiff, Nat.reduceAdd, Nat.reduceMul, Nat.reduceSub, Nat.reduceLeDiff, reduceCtorEq, hft, gV, encI, eq_self]
            · simp only [amS, amL, tyS, amB, Nat.reduceLT, Nat.reduceEqDiff, Nat.reduceAdd, Nat.reduceMul, Nat.reduceSub, Nat.reduceLeDiff, reduceCtorEq, hft, gH, encI, eq_self]
            · simp only [amS, amL, tyS, amB, Nat.reduceLT, Nat.reduceEqDiff, Nat.reduceAdd, Nat.reduceMul, Nat.reduceSub, Nat.reduceLeDiff, reduceCtorEq, hft, gV, gH, eq_self, List.mem_cons, List.not_mem_nil, or_false, forall_eq_or_imp, forall_eq, inR, inL, inE, encI, encVs, rowIn, List.all_cons, List.all_nil, tV, tI, tK, tP, tE, tF, Bool.and_self]
            · simp only [amS, amL, tyS, amB, Nat.reduceLT, Nat.reduceEqDiff, Nat.reduceAdd, Nat.reduceMul, Nat.reduceSub, Nat.reduceLeDiff, reduceCtorEq, hft, gH, eq_self, List.mem_cons, List.not_mem_nil, or_false, forall_eq_or_imp, forall_eq, inR, inL, inE, encI, encVs, rowIn, List.all_cons, List.all_nil, tV, tI, tK, tP, tE, tF, Bool.and_self]
        · have hgu : isGuiltyB l bad x = false := by rw [isGuiltyB, hg, Bool.false_and]
          rw [hgu, if_neg (by simp), List.append_nil] at hft
          repeat' (first | (refine awp_seq_k fun _ _ => ?_) | (refine awp_block ?_) | ((first | (refine awp_rgn ?_) | (refine awp_any (by kernel_rfl) (by kernel_rfl) ?_) | (refine awp_cond_k fun _ _ _ _ => ?_)) <;> simp only [amS, amL, tyS, amB, Nat.reduceLT, Nat.reduceEqDiff, Nat.reduceAdd, Nat.reduceMul, Nat.reduceSub, Nat.reduceLeDiff, reduceCtorEq, hw]) | (refine guard_split (fun hg => ?_) (fun hg => ?_) <;> simp only [hg, amS, amL, tyS, amB, Nat.reduceLT, Nat.reduceEqDiff, Nat.reduceAdd, Nat.reduceMul, Nat.reduceSub, Nat.reduceLeDiff, reduceCtorEq, hw]) | (refine awp_skip ?_; simp only [amS]) | (refine awp_exit ?_; simp only [amS, if_true, if_false, Nat.reduceEqDiff]) | (refine awp_ret ?_; try simp only [amS]) | (refine Cont.go (by assumption) ?_) | (refine Arm.go (by assumption) ?_))
          refine AgainR.go hK2 ⟨k + 1, hlt⟩ (Weak.ref ⟨?_, .inr ⟨Nat.zero_le _, ?_, fun g cs hg => (by cases hg), ?_, ?_⟩⟩) (by simp; omega)
          · simp only [amS, amL, tyS, amB, Nat.reduceLT, Nat.reduceEqDiff, Nat.reduceAdd, Nat.reduceMul, Nat.reduceSub, Nat.reduceLeDiff, reduceCtorEq, hft, gV, encI, eq_self]
          · simp only [amS, amL, tyS, amB, Nat.reduceLT, Nat.reduceEqDiff, Nat.reduceAdd, Nat.reduceMul, Nat.reduceSub, Nat.reduceLeDiff, reduceCtorEq, hft, gH, encI, eq_self]
          · simp only [amS, amL, tyS, amB, Nat.reduceLT, Nat.reduceEqDiff, Nat.reduceAdd, Nat.reduceMul, Nat.reduceSub, Nat.reduceLeDiff, reduceCtorEq, hft, gV, gH, eq_self, List.mem_cons, List.not_mem_nil, or_false, forall_eq_or_imp, forall_eq, inR, inL, inE, encI, encVs, rowIn, List.all_cons, List.all_nil, tV, tI, tK, tP, tE, tF, Bool.and_self]
          · simp only [amS, amL, tyS, amB, Nat.reduceLT, Nat.reduceEqDiff, Nat.reduceAdd, Nat.reduceMul, Nat.reduceSub, Nat.reduceLeDiff, reduceCtorEq, hft, gH, eq_self, List.mem_cons, List.not_mem_nil, or_false, forall_eq_or_imp, forall_eq, inR, inL, inE, encI, encVs, rowIn, List.all_cons, List.all_nil, tV, tI, tK, tP, tE, tF, Bool.and_self]
      | cons a at' =>
        generalize hap2 : a :: at' = app at *
        have hne : app ≠ [] := by rw [← hap2]; simp
        have hpos : 0 < app.length := List.length_pos_iff.2 hne
        repeat' (first | (refine awp_seq_k fun _ _ => ?_) | (refine awp_block ?_) | ((first | (refine awp_rgn ?_) | (refine awp_any (by kernel_rfl) (by kernel_rfl) ?_) | (refine awp_cond_k fun _ _ _ _ => ?_)) <;> simp only [amS, amL, tyS, amB, Nat.reduceLT, Nat.reduceEqDiff, Nat.reduceAdd, Nat.reduceMul, Nat.reduceSub, Nat.reduceLeDiff, reduceCtorEq, hx, encI, hap, gV, gH, hne]) | (refine guard_split (fun hg => ?_) (fun hg => ?_) <;> simp only [hg, amS, amL, tyS, amB, Nat.reduceLT, Nat.reduceEqDiff, Nat.reduceAdd, Nat.reduceMul, Nat.reduceSub, Nat.reduceLeDiff, reduceCtorEq, hx, encI, hap, gV, gH, hne]) | (refine awp_skip ?_; simp only [amS]) | (refine awp_exit ?_; simp only [amS, if_true, if_false, Nat.reduceEqDiff]) | (refine awp_ret ?_; try simp only [amS]) | (refine Cont.go (by assumption) ?_) | (refine Arm.go (by assumption) ?_))
        refine callR_tree hG0 (contains_35 bad x hbad) ?_
        simp only [amS, amL, tyS, amB, Nat.reduceLT, Nat.reduceEqDiff, Nat.reduceAdd, Nat.reduceMul, Nat.reduceSub, Nat.reduceLeDiff, reduceCtorEq]
        repeat' (first | (refine awp_seq_k fun _ _ => ?_) | (refine awp_block ?_) | ((first | (refine awp_rgn ?_) | (refine awp_any (by kernel_rfl) (by kernel_rfl) ?_) | (refine awp_cond_k fun _ _ _ _ => ?_)) <;> simp only [amS, amL, tyS, amB, Nat.reduceLT, Nat.reduceEqDiff, Nat.reduceAdd, Nat.reduceMul, Nat.reduceSub, Nat.reduceLeDiff, reduceCtorEq, hfi, hpg, hw]) | (refine guard_split (fun hg => ?_) (fun hg => ?_) <;> simp only [hg, amS, amL, tyS, amB, Nat.reduceLT, Nat.reduceEqDiff, Nat.reduceAdd, Nat.reduceMul, Nat.reduceSub, Nat.reduceLeDiff, reduceCtorEq, hfi, hpg, hw]) | (refine awp_skip ?_; simp only [amS]) | (refine awp_exit ?_; simp only [amS, if_true, if_false, Nat.reduceEqDiff]) | (refine awp_ret ?_; try simp only [amS]) | (refine Cont.go (by assumption) ?_) | (refine Arm.go (by assumption) ?_))
        · have hg1 := hg
          refine callR_tree hG0 (ids_f _) ?_
          simp only [amS, amL, tyS, amB, Nat.reduceLT, Nat.reduceEqDiff, Nat.reduceAdd, Nat.reduceMul, Nat.reduceSub, Nat.reduceLeDiff, reduceCtorEq]
          refine callR_pure (fp := [0, 3]) hG0 (containsFunc_28 36 [.imm [.int .i64 x], .imm [encI bad]] (fun n => n != x && hasL bad n) (by simp only [inL, inR, tree_encI, Bool.and_self]) (idsF (setB l x)) (fun y _ => first1_36 y x bad hbad) (by have := idsF_len (setB l x); unfold Small; omega)) (.cons (.same (tree_encI _)) (.cons (.fn .nil (.cons (.ptr (cs := [.int .i64 x]) (by simp) ?_ (.cons (.same rfl) .nil)) (.cons (.ptr (cs := [encI bad]) (by simp) ?_ (.cons (.same (tree_encI _)) .nil)) .nil))) .nil)) (.inr rfl) ?_
          · simp only [amS, amL, tyS, amB, Nat.reduceLT, Nat.reduceEqDiff, Nat.reduceAdd, Nat.reduceMul, Nat.reduceSub, Nat.reduceLeDiff, reduceCtorEq]
          · simp only [amS, amL, tyS, amB, Nat.reduceLT, Nat.reduceEqDiff, Nat.reduceAdd, Nat.reduceMul, Nat.reduceSub, Nat.reduceLeDiff, reduceCtorEq, encI]
          have hgu : isGuiltyB l bad x = !((idsF (setB l x)).any fun n => n != x && hasL bad n) := by rw [isGuiltyB, hg1, Bool.true_and]
          simp only [amS, amL, tyS, amB, Nat.reduceLT, Nat.reduceEqDiff, Nat.reduceAdd, Nat.reduceMul, Nat.reduceSub, Nat.reduceLeDiff, reduceCtorEq]
          repeat' (first | (refine awp_seq_k fun _ _ => ?_) | (refine awp_block ?_) | ((first | (refine awp_rgn ?_) | (refine awp_any (by kernel_rfl) (by kernel_rfl) ?_) | (refine awp_cond_k fun _ _ _ _ => ?_)) <;> simp only [amS, amL, tyS, amB, Nat.reduceLT, Nat.reduceEqDiff, Nat.reduceAdd, Nat.reduceMul, Nat.reduceSub, Nat.reduceLeDiff, reduceCtorEq]) | (refine guard_split (fun hg => ?_) (fun hg => ?_) <;> simp only [hg, amS, amL, tyS, amB, Nat.reduceLT, Nat.reduceEqDiff, Nat.reduceAdd, Nat.reduceMul, Nat.reduceSub, Nat.reduceLeDiff, reduceCtorEq]) | (refine awp_skip ?_; simp only [amS]) | (refine awp_exit ?_; simp only [amS, if_true, if_false, Nat.reduceEqDiff]) | (refine awp_ret ?_; try simp only [amS]) | (refine Cont.go (by assumption) ?_) | (refine Arm.go (by assumption) ?_))
          refine ⟨fun h4 => ?_, fun h4 => ?_⟩
          · rw [h4] at hgu
            rw [hgu, if_pos rfl] at hft
            repeat' (first | (refine awp_seq_k fun _ _ => ?_) | (refine awp_block ?_) | ((first | (refine awp_rgn ?_) | (refine awp_any (by kernel_rfl) (by kernel_rfl) ?_) | (refine awp_cond_k fun _ _ _ _ => ?_)) <;> simp only [amS, amL, tyS, amB, Nat.reduceLT, Nat.reduceEqDiff, Nat.reduceAdd, Nat.reduceMul, Nat.reduceSub, Nat.reduceLeDiff, reduceCtorEq]) | (refine guard_split (fun hg => ?_) (fun hg => ?_) <;> simp only [hg, amS, amL, tyS, amB, Nat.reduceLT, Nat.reduceEqDiff, Nat.reduceAdd, Nat.reduceMul, Nat.reduceSub, Nat.reduceLeDiff, reduceCtorEq]) | (refine awp_skip ?_; simp only [amS]) | (refine awp_exit ?_; simp only [amS, if_true, if_false, Nat.reduceEqDiff]) | (refine awp_ret ?_; try simp only [amS]) | (refine Cont.go (by assumption) ?_) | (refine Arm.go (by assumption) ?_))
            have hnx : app ++ [x] ≠ [] := by simp
            have hp1 : app.length - 1 + 1 = app.length := by omega
            refine eff_own (sz := 1) (by' := 8) (mm := 1) (new := [.int .i64 x]) (cs := cK app) (by kernel_rfl) (by simp only [amS, amL, tyS, amB, Nat.reduceLT, Nat.reduceEqDiff, Nat.reduceAdd, Nat.reduceMul, Nat.reduceSub, Nat.reduceLeDiff, reduceCtorEq]) (by rw [cK_len, Nat.mul_one]) (by simp [srcA]) (by omega) ?_
            simp only [amS, amL, tyS, amB, Nat.reduceLT, Nat.reduceEqDiff, Nat.reduceAdd, Nat.reduceMul, Nat.reduceSub, Nat.reduceLeDiff, reduceCtorEq]
            repeat' (first | (refine awp_seq_k fun _ _ => ?_) | (refine awp_block ?_) | ((first | (refine awp_rgn ?_) | (refine awp_any (by kernel_rfl) (by kernel_rfl) ?_) | (refine awp_cond_k fun _ _ _ _ => ?_)) <;> simp only [amS, amL, tyS, amB, Nat.reduceLT, Nat.reduceEqDiff, Nat.reduceAdd, Nat.reduceMul, Nat.reduceSub, Nat.reduceLeDiff, reduceCtorEq, hw]) | (refine guard_split (fun hg => ?_) (fun hg => ?_) <;> simp only [hg, amS, amL, tyS, amB, Nat.reduceLT, Nat.reduceEqDiff, Nat.reduceAdd, Nat.reduceMul, Nat.reduceSub, Nat.reduceLeDiff, reduceCtorEq, hw]) | (refine awp_skip ?_; simp only [amS]) | (refine awp_exit ?_; simp only [amS, if_true, if_false, Nat.reduceEqDiff]) | (refine awp_ret ?_; try simp only [amS]) | (refine Cont.go (by assumption) ?_) | (refine Arm.go (by assumption) ?_))
            refine AgainR.go hK2 ⟨k + 1, hlt⟩ (Weak.ref ⟨?_, .inr ⟨Nat.zero_le _, ?_, fun g cs hg => (by cases hg), ?_, ?_⟩⟩) (by simp; omega)
            · simp only [amS, amL, tyS, amB, Nat.reduceLT, Nat.reduceEqDiff, Nat.reduceAdd, Nat.reduceMul, Nat.reduceSub, Nat.reduceLeDiff, reduceCtorEq, hft, gV, encI, hnx, List.length_append, Nat.add_sub_cancel, hp1]
            · simp only [amS, amL, tyS, amB, Nat.reduceLT, Nat.reduceEqDiff, Nat.reduceAdd, Nat.reduceMul, Nat.reduceSub, Nat.reduceLeDiff, reduceCtorEq, hft, gH, encI, hnx, List.length_append, Nat.add_sub_cancel, hp1, cK_snoc]
            · simp only [amS, amL, tyS, amB, Nat.reduceLT, Nat.reduceEqDiff, Nat.reduceAdd, Nat.reduceMul, Nat.reduceSub, Nat.reduceLeDiff, reduceCtorEq, hft, gV, gH, hnx, List.mem_cons, List.not_mem_nil, or_false, forall_eq_or_imp, forall_eq, inR, inL, inE, encI, encVs, rowIn, List.all_cons, List.all_nil, tV, tI, tK, tP, tE, tF, Bool.and_self]
            · simp only [amS, amL, tyS, amB, Nat.reduceLT, Nat.reduceEqDiff, Nat.reduceAdd, Nat.reduceMul, Nat.reduceSub, Nat.reduceLeDiff, reduceCtorEq, hft, gH, hnx, List.mem_cons, List.not_mem_nil, or_false, forall_eq_or_imp, forall_eq, inR, inL, inE, encI, encVs, rowIn, List.all_cons, List.all_nil, tV, tI, tK, tP, tE, tF, Bool.and_self]
          · rw [h4] at hgu
            rw [hgu, if_neg (by simp), List.append_nil] at hft
            repeat' (first | (refine awp_seq_k fun _ _ => ?_) | (refine awp_block ?_) | ((first | (refine awp_rgn ?_) | (refine awp_any (by kernel_rfl) (by kernel_rfl) ?_) | (refine awp_cond_k fun _ _ _ _ => ?_)) <;> simp only [amS, amL, tyS, amB, Nat.reduceLT, Nat.reduceEqDiff, Nat.reduceAdd, Nat.reduceMul, Nat.reduceSub, Nat.reduceLeDiff, reduceCtorEq, hw]) | (refine guard_split (fun hg => ?_) (fun hg => ?_) <;> simp only [hg, amS, amL, tyS, amB, Nat.reduceLT, Nat.reduceEqDiff, Nat.reduceAdd, Nat.reduceMul, Nat.reduceSub, Nat.reduceLeDiff, reduceCtorEq, hw]) | (refine awp_skip ?_; simp only [amS]) | (refine awp_exit ?_; simp only [amS, if_true, if_false, Nat.reduceEqDiff]) | (refine awp_ret ?_; try simp only [amS]) | (refine Cont.go (by assumption) ?_) | (refine Arm.go (by assumption) ?_))
            refine AgainR.go hK2 ⟨k + 1, hlt⟩ (Weak.ref ⟨?_, .inr ⟨Nat.zero_le _, ?_, fun g cs hg => (by cases hg), ?_, ?_⟩⟩) (by simp; omega)
            · simp only [amS, amL, tyS, amB, Nat.reduceLT, Nat.reduceEqDiff, Nat.reduceAdd, Nat.reduceMul, Nat.reduceSub, Nat.reduceLeDiff, reduceCtorEq, hft, gV, encI, hne]
            · simp only [amS, amL, tyS, amB, Nat.reduceLT, Nat.reduceEqDiff, Nat.reduceAdd, Nat.reduceMul, Nat.reduceSub, Nat.reduceLeDiff, reduceCtorEq, hft, gH, encI, hne]
            · simp only [amS, amL, tyS, amB, Nat.reduceLT, Nat.reduceEqDiff, Nat.reduceAdd, Nat.reduceMul, Nat.reduceSub, Nat.reduceLeDiff, reduceCtorEq, hft, gV, gH, hne, List.mem_cons, List.not_mem_nil, or_false, forall_eq_or_imp, forall_eq, inR, inL, inE, encI, encVs, rowIn, List.all_cons, List.all_nil, tV, tI, tK, tP, tE, tF, Bool.and_self]
            · simp only [amS, amL, tyS, amB, Nat.reduceLT, Nat.reduceEqDiff, Nat.reduceAdd, Nat.reduceMul, Nat.reduceSub, Nat.reduceLeDiff, reduceCtorEq, hft, gH, hne, List.mem_cons, List.not_mem_nil, or_false, forall_eq_or_imp, forall_eq, inR, inL, inE, encI, encVs, rowIn, List.all_cons, List.all_nil, tV, tI, tK, tP, tE, tF, Bool.and_self]
        · have hgu : isGuiltyB l bad x = false := by rw [isGuiltyB, hg, Bool.false_and]
          rw [hgu, if_neg (by simp), List.append_nil] at hft
          repeat' (first | (refine awp_seq_k fun _ _ => ?_) | (refine awp_block ?_) | ((first | (refine awp_rgn ?_) | (refine awp_any (by kernel_rfl) (by kernel_rfl) ?_) | (refine awp_cond_k fun _ _ _ _ => ?_)) <;> simp only [amS, amL, tyS, amB, Nat.reduceLT, Nat.reduceEqDiff, Nat.reduceAdd, Nat.reduceMul, Nat.reduceSub, Nat.reduceLeDiff, reduceCtorEq, hw]) | (refine guard_split (fun hg => ?_) (fun hg => ?_) <;> simp only [hg, amS, amL, tyS, amB, Nat.reduceLT, Nat.reduceEqDiff, Nat.reduceAdd, Nat.reduceMul, Nat.reduceSub, Nat.reduceLeDiff, reduceCtorEq, hw]) | (refine awp_skip ?_; simp only [amS]) | (refine awp_exit ?_; simp only [amS, if_true, if_false, Nat.reduceEqDiff]) | (refine awp_ret ?_; try simp only [amS]) | (refine Cont.go (by assumption) ?_) | (refine Arm.go (by assumption) ?_))
          refine AgainR.go hK2 ⟨k + 1, hlt⟩ (Weak.ref ⟨?_, .inr ⟨Nat.zero_le _, ?_, fun g cs hg => (by cases hg), ?_, ?_⟩⟩) (by simp; omega)
          · simp only [amS, amL, tyS, amB, Nat.reduceLT, Nat.reduceEqDiff, Nat.reduceAdd, Nat.reduceMul, Nat.reduceSub, Nat.reduceLeDiff, reduceCtorEq, hft, gV, encI, hne]
          · simp only [amS, amL, tyS, amB, Nat.reduceLT, Nat.reduceEqDiff, Nat.reduceAdd, Nat.reduceMul, Nat.reduceSub, Nat.reduceLeDiff, reduceCtorEq, hft, gH, encI, hne]
          · simp only [amS, amL, tyS, amB, Nat.reduceLT, Nat.reduceEqDiff, Nat.reduceAdd, Nat.reduceMul, Nat.reduceSub, Nat.reduceLeDiff, reduceCtorEq, hft, gV, gH, hne, List.mem_cons, List.not_mem_nil, or_false, forall_eq_or_imp, forall_eq, inR, inL, inE, encI, encVs, rowIn, List.all_cons, List.all_nil, tV, tI, tK, tP, tE, tF, Bool.and_self]
          · simp only [amS, amL, tyS, amB, Nat.reduceLT, Nat.reduceEqDiff, Nat.reduceAdd, Nat.reduceMul, Nat.reduceSub, Nat.reduceLeDiff, reduceCtorEq, hft, gH, hne, List.mem_cons, List.not_mem_nil, or_false, forall_eq_or_imp, forall_eq, inR, inL, inE, encI, encVs, rowIn, List.all_cons, List.all_nil, tV, tI, tK, tP, tE, tF, Bool.and_self]
    · have hkl : k = S.length := by simp at h; omega
      subst hkl
      have htl : S.take S.length = S := List.take_length
      repeat' (first | (refine awp_seq_k fun _ _ => ?_) | (refine awp_block ?_) | (refine awp_cond_k fun _ _ _ _ => ?_; simp only [amS, amL, tyS, amB, Nat.reduceLT, Nat.reduceEqDiff, Nat.reduceAdd, Nat.reduceMul, Nat.reduceSub, Nat.reduceLeDiff, reduceCtorEq]) | (refine awp_skip ?_; simp only [amS]) | (refine awp_exit ?_; simp only [amS, if_true, if_false, Nat.reduceEqDiff]) | (refine awp_ret ?_; try simp only [amS]) | (refine Cont.go (by assumption) ?_) | (refine Arm.go (by assumption) ?_))
      refine awp_ref (s' := ⟨mkF [(0, encVs l), (1, .int .i64 id), (5, .ptr 0 0 0), (11, encI (S.filter (isGuiltyB l bad)))], [.cells 0 [encI bad]]⟩) ?_ ?_
      · generalize hap : S.filter (isGuiltyB l bad) = app at *
        cases app with
        | nil =>
          refine ref_freeze [] _ _ ?_ ?_ ?_
          · rfl
          · simp only [amS, amL, tyS, amB, Nat.reduceLT, Nat.reduceEqDiff, Nat.reduceAdd, Nat.reduceMul, Nat.reduceSub, Nat.reduceLeDiff, reduceCtorEq, htl, hap, gV, FrzF, Frz, eq_self, true_or, encI]
            exact .inr (.full rfl)
          · simp only [amS, amL, tyS, amB, Nat.reduceLT, Nat.reduceEqDiff, Nat.reduceAdd, Nat.reduceMul, Nat.reduceSub, Nat.reduceLeDiff, reduceCtorEq, htl, hap, gH, FrzH, eq_self]
            simp [FrzRow]
        | cons a at' =>
          generalize hap2 : a :: at' = app at *
          have hne : app ≠ [] := by rw [← hap2]; simp
          refine Ref.trans (ref_freeze [2] [(0, encVs l), (1, .int .i64 id), (5, .ptr 0 0 0), (11, encI app)] [.cells 0 [encI bad], .dead, .dead] ?_ ?_ ?_) (ref_gc 1 (Nat.zero_le _) hG0 ?_ ?_)
          · simp only [amS, amL, tyS, amB, Nat.reduceLT, Nat.reduceEqDiff, Nat.reduceAdd, Nat.reduceMul, Nat.reduceSub, Nat.reduceLeDiff, reduceCtorEq, htl, hap, gH, hne]
          · simp only [amS, amL, tyS, amB, Nat.reduceLT, Nat.reduceEqDiff, Nat.reduceAdd, Nat.reduceMul, Nat.reduceSub, Nat.reduceLeDiff, reduceCtorEq, htl, hap, gV, hne, FrzF, Frz, eq_self, true_or, encI]
            refine .osl (cs := cK app) (by simp) ?_ (by simp) (sz1 app) (by rw [List.drop_zero, ← encI_flat, Nat.mul_one, ← cI_flat_len app]; exact List.take_length) (tree_ints app)
            simp only [amS, amL, tyS, amB, Nat.reduceLT, Nat.reduceEqDiff, Nat.reduceAdd, Nat.reduceMul, Nat.reduceSub, Nat.reduceLeDiff, reduceCtorEq, htl, hap, gH, hne]
          · simp only [amS, amL, tyS, amB, Nat.reduceLT, Nat.reduceEqDiff, Nat.reduceAdd, Nat.reduceMul, Nat.reduceSub, Nat.reduceLeDiff, reduceCtorEq, htl, hap, gH, hne, FrzH, encI]
            simp [FrzRow]
          · simp only [amS, amL, tyS, amB, Nat.reduceLT, Nat.reduceEqDiff, Nat.reduceAdd, Nat.reduceMul, Nat.reduceSub, Nat.reduceLeDiff, reduceCtorEq, List.mem_cons, List.not_mem_nil, or_false, forall_eq_or_imp, forall_eq, inR, inL, inE, encI, encVs, rowIn, List.all_cons, List.all_nil, tV, tI, tK, tP, tE, tF, Bool.and_self]
          · simp only [amS, amL, tyS, amB, Nat.reduceLT, Nat.reduceEqDiff, Nat.reduceAdd, Nat.reduceMul, Nat.reduceSub, Nat.reduceLeDiff, reduceCtorEq, List.mem_cons, List.not_mem_nil, or_false, forall_eq_or_imp, forall_eq, inR, inL, inE, encI, encVs, rowIn, List.all_cons, List.all_nil, tV, tI, tK, tP, tE, tF, Bool.and_self]
      generalize S.filter (isGuiltyB l bad) = gl at hgl ⊢
      repeat' (first | (refine awp_seq_k fun _ _ => ?_) | (refine awp_block ?_) | ((first | (refine awp_rgn ?_) | (refine awp_any (by kernel_rfl) (by kernel_rfl) ?_) | (refine awp_cond_k fun _ _ _ _ => ?_)) <;> simp only [amS, amL, tyS, amB, Nat.reduceLT, Nat.reduceEqDiff, Nat.reduceAdd, Nat.reduceMul, Nat.reduceSub, Nat.reduceLeDiff, reduceCtorEq, encVs]) | (refine guard_split (fun hg => ?_) (fun hg => ?_) <;> simp only [hg, amS, amL, tyS, amB, Nat.reduceLT, Nat.reduceEqDiff, Nat.reduceAdd, Nat.reduceMul, Nat.reduceSub, Nat.reduceLeDiff, reduceCtorEq, encVs]) | (refine awp_skip ?_; simp only [amS]) | (refine awp_exit ?_; simp only [amS, if_true, if_false, Nat.reduceEqDiff]) | (refine awp_ret ?_; try simp only [amS]) | (refine Cont.go (by assumption) ?_) | (refine Arm.go (by assumption) ?_))
      refine awp_loop_k (α := {k : Nat // k ≤ l.length}) (fun k => [(1, .int .i64 id), (5, .ptr 0 0 0), (11, encI gl), (14, .ptr 2 0 0), (55, encVs l), (56, .int .i64 l.length), (57, .int .i64 k.1)]) (fun k => [.cells 0 [encI bad], .map (cK ((l.take k.1).map (·.id))) (cE (l.take k.1)), .cells 0 [.omp 1]]) (fun k => l.length - k.1) ⟨0, Nat.zero_le _⟩ ⟨?_, .inl ?_⟩ ?_
      · simp only [amS, amL, tyS, amB, Nat.reduceLT, Nat.reduceEqDiff, Nat.reduceAdd, Nat.reduceMul, Nat.reduceSub, Nat.reduceLeDiff, reduceCtorEq, encVs] <;> rfl
      · simp only [amS, amL, tyS, amB, Nat.reduceLT, Nat.reduceEqDiff, Nat.reduceAdd, Nat.reduceMul, Nat.reduceSub, Nat.reduceLeDiff, reduceCtorEq] <;> rfl
      · rintro ⟨k, hk⟩ K2 hK2
        repeat' (first | (refine awp_seq_k fun _ _ => ?_) | (refine awp_block ?_) | ((first | (refine awp_rgn ?_) | (refine awp_any (by kernel_rfl) (by kernel_rfl) ?_) | (refine awp_cond_k fun _ _ _ _ => ?_)) <;> simp only [amS, amL, tyS, amB, Nat.reduceLT, Nat.reduceEqDiff, Nat.reduceAdd, Nat.reduceMul, Nat.reduceSub, Nat.reduceLeDiff, reduceCtorEq, encVs]) | (refine guard_split (fun hg => ?_) (fun hg => ?_) <;> simp only [hg, amS, amL, tyS, amB, Nat.reduceLT, Nat.reduceEqDiff, Nat.reduceAdd, Nat.reduceMul, Nat.reduceSub, Nat.reduceLeDiff, reduceCtorEq, encVs]) | (refine awp_skip ?_; simp only [amS]) | (refine awp_ret ?_; try simp only [amS]) | (refine Cont.go (by assumption) ?_) | (refine Arm.go (by assumption) ?_))
        refine ⟨fun h2 => ?_, fun h2 => ?_⟩
        · have hlt : k < l.length := by simpa using h2
          obtain ⟨v, hv2⟩ : ∃ v, l[k]? = some v := ⟨_, List.getElem?_eq_getElem hlt⟩
          have hw := wrap_succ (k := k) hlt (by omega)
          have hnew := nodup_new hnd hv2
          have hks2 : (l.take (k + 1)).map (·.id) = (l.take k).map (·.id) ++ [v.id] := by rw [take_succ_some hv2]; simp
          have hce : cE (l.take (k + 1)) = cE (l.take k) ++ [encI v.before] := by rw [take_succ_some hv2]; simp [cE]
          have hfi := afind_int ((l.take k).map (·.id)) v.id 0
          rw [afindI_none _ v.id 0 hnew] at hfi
          repeat' (first | (refine awp_seq_k fun _ _ => ?_) | (refine awp_block ?_) | ((first | (refine awp_rgn ?_) | (refine awp_any (by kernel_rfl) (by kernel_rfl) ?_) | (refine awp_cond_k fun _ _ _ _ => ?_)) <;> simp only [amS, amL, tyS, amB, Nat.reduceLT, Nat.reduceEqDiff, Nat.reduceAdd, Nat.reduceMul, Nat.reduceSub, Nat.reduceLeDiff, reduceCtorEq, hv2, encVs, encV, hfi, hw]) | (refine guard_split (fun hg => ?_) (fun hg => ?_) <;> simp only [hg, amS, amL, tyS, amB, Nat.reduceLT, Nat.reduceEqDiff, Nat.reduceAdd, Nat.reduceMul, Nat.reduceSub, Nat.reduceLeDiff, reduceCtorEq, hv2, encVs, encV, hfi, hw]) | (refine awp_skip ?_; simp only [amS]) | (refine awp_exit ?_; simp only [amS, if_true, if_false, Nat.reduceEqDiff]) | (refine awp_ret ?_; try simp only [amS]) | (refine Cont.go (by assumption) ?_) | (refine Arm.go (by assumption) ?_))
          refine Again.go hK2 ⟨k + 1, hlt⟩ ⟨?_, .inr ⟨Nat.zero_le _, ?_, fun g cs hg => (by cases hg), ?_, ?_⟩⟩ (by simp; omega)
          · simp only [amS, amL, tyS, amB, Nat.reduceLT, Nat.reduceEqDiff, Nat.reduceAdd, Nat.reduceMul, Nat.reduceSub, Nat.reduceLeDiff, reduceCtorEq, encVs]
          · simp only [amS, amL, tyS, amB, Nat.reduceLT, Nat.reduceEqDiff, Nat.reduceAdd, Nat.reduceMul, Nat.reduceSub, Nat.reduceLeDiff, reduceCtorEq, hks2, hce, cK_snoc]
          · simp only [amS, amL, tyS, amB, Nat.reduceLT, Nat.reduceEqDiff, Nat.reduceAdd, Nat.reduceMul, Nat.reduceSub, Nat.reduceLeDiff, reduceCtorEq, List.mem_cons, List.not_mem_nil, or_false, forall_eq_or_imp, forall_eq, inR, inL, inE, encI, encVs, rowIn, List.all_cons, List.all_nil, tV, tI, tK, tP, tE, tF, Bool.and_self]
          · simp only [amS, amL, tyS, amB, Nat.reduceLT, Nat.reduceEqDiff, Nat.reduceAdd, Nat.reduceMul, Nat.reduceSub, Nat.reduceLeDiff, reduceCtorEq, List.mem_cons, List.not_mem_nil, or_false, forall_eq_or_imp, forall_eq, inR, inL, inE, encI, encVs, rowIn, List.all_cons, List.all_nil, tV, tI, tK, tP, tE, tF, Bool.and_self]
        · have hkl2 : k = l.length := by simp at h2; omega
          subst hkl2
          have htl : l.take l.length = l := List.take_length
          repeat' (first | (refine awp_seq_k fun _ _ => ?_) | (refine awp_block ?_) | ((first | (refine awp_rgn ?_) | (refine awp_any (by kernel_rfl) (by kernel_rfl) ?_) | (refine awp_cond_k fun _ _ _ _ => ?_)) <;> simp only [amS, amL, tyS, amB, Nat.reduceLT, Nat.reduceEqDiff, Nat.reduceAdd, Nat.reduceMul, Nat.reduceSub, Nat.reduceLeDiff, reduceCtorEq, htl]) | (refine guard_split (fun hg => ?_) (fun hg => ?_) <;> simp only [hg, amS, amL, tyS, amB, Nat.reduceLT, Nat.reduceEqDiff, Nat.reduceAdd, Nat.reduceMul, Nat.reduceSub, Nat.reduceLeDiff, reduceCtorEq, htl]) | (refine awp_skip ?_; simp only [amS]) | (refine awp_exit ?_; simp only [amS, if_true, if_false, Nat.reduceEqDiff]) | (refine awp_ret ?_; try simp only [amS]) | (refine Cont.go (by assumption) ?_) | (refine Arm.go (by assumption) ?_))
          refine ⟨_, _, look_5 l bad hbad hb hids n id r h0 hhas hr _ fun q hq => ?_, ?_⟩
          · match q, hq with
            | 0, _ => simp only [amS, amL, tyS, amB, Nat.reduceLT, Nat.reduceEqDiff, Nat.reduceAdd, Nat.reduceMul, Nat.reduceSub, Nat.reduceLeDiff, reduceCtorEq, H5]
            | 1, _ => simp only [amS, amL, tyS, amB, Nat.reduceLT, Nat.reduceEqDiff, Nat.reduceAdd, Nat.reduceMul, Nat.reduceSub, Nat.reduceLeDiff, reduceCtorEq, H5, htl]
            | 2, _ => simp only [amS, amL, tyS, amB, Nat.reduceLT, Nat.reduceEqDiff, Nat.reduceAdd, Nat.reduceMul, Nat.reduceSub, Nat.reduceLeDiff, reduceCtorEq, H5]
            | 3, _ => simp only [amS, amL, tyS, amB, Nat.reduceLT, Nat.reduceEqDiff, Nat.reduceAdd, Nat.reduceMul, Nat.reduceSub, Nat.reduceLeDiff, reduceCtorEq, H5]
            | 4, _ => simp only [amS, amL, tyS, amB, Nat.reduceLT, Nat.reduceEqDiff, Nat.reduceAdd, Nat.reduceMul, Nat.reduceSub, Nat.reduceLeDiff, reduceCtorEq, H5]
            | 5, _ => simp only [amS, amL, tyS, amB, Nat.reduceLT, Nat.reduceEqDiff, Nat.reduceAdd, Nat.reduceMul, Nat.reduceSub, Nat.reduceLeDiff, reduceCtorEq, H5]
          simp only [amS, amL, tyS, amB, Nat.reduceLT, Nat.reduceEqDiff, Nat.reduceAdd, Nat.reduceMul, Nat.reduceSub, Nat.reduceLeDiff, reduceCtorEq]
          repeat' (first | (refine awp_seq_k fun _ _ => ?_) | (refine awp_block ?_) | (refine awp_cond_k fun _ _ _ _ => ?_; simp only [amS, amL, tyS, amB, Nat.reduceLT, Nat.reduceEqDiff, Nat.reduceAdd, Nat.reduceMul, Nat.reduceSub, Nat.reduceLeDiff, reduceCtorEq]) | (refine awp_skip ?_; simp only [amS]) | (refine awp_exit ?_; simp only [amS, if_true, if_false, Nat.reduceEqDiff]) | (refine awp_ret ?_; try simp only [amS]) | (refine Cont.go (by assumption) ?_) | (refine Arm.go (by assumption) ?_))
          refine awp_freeze [5] [(11, encI gl), (17, .ptr 3 0 0)] [.cells 0 [encI bad], .map (cK (l.map (·.id))) (cE l), .cells 0 [.omp 1], .cells 0 [encI r], .cells 0 [.fn (.func 37) [] [.ptr 3 0 0, .ptr 0 0 0, .ptr 2 0 0, .ptr 4 0 0]], .dead] ?_ ?_ ?_ ?_
          · simp only [amS, amL, tyS, amB, Nat.reduceLT, Nat.reduceEqDiff, Nat.reduceAdd, Nat.reduceMul, Nat.reduceSub, Nat.reduceLeDiff, reduceCtorEq]
          · simp only [amS, amL, tyS, amB, Nat.reduceLT, Nat.reduceEqDiff, Nat.reduceAdd, Nat.reduceMul, Nat.reduceSub, Nat.reduceLeDiff, reduceCtorEq, FrzF, Frz, eq_self, true_or]
          · simp only [amS, amL, tyS, amB, Nat.reduceLT, Nat.reduceEqDiff, Nat.reduceAdd, Nat.reduceMul, Nat.reduceSub, Nat.reduceLeDiff, reduceCtorEq, FrzH]
            simp only [FrzRow, List.mem_cons, List.not_mem_nil, or_false, Nat.reduceEqDiff, not_false_eq_true, true_and, true_or, or_true, false_and, eq_self, false_or]
            refine ⟨.inr ⟨_, _, _, rfl, rfl, .inr (.osl (cs := cK r) (by simp) ?_ (cI_len r) (sz1 r) (by rw [List.drop_zero, ← encI_flat, Nat.mul_one, ← cI_flat_len r]; exact List.take_length) (tree_ints r)), trivial⟩, ?_⟩
            · simp only [amS, amL, tyS, amB, Nat.reduceLT, Nat.reduceEqDiff, Nat.reduceAdd, Nat.reduceMul, Nat.reduceSub, Nat.reduceLeDiff, reduceCtorEq]
            · simp
          · repeat' (first | (refine awp_seq_k fun _ _ => ?_) | (refine awp_block ?_) | ((first | (refine awp_rgn ?_) | (refine awp_any (by kernel_rfl) (by kernel_rfl) ?_) | (refine awp_cond_k fun _ _ _ _ => ?_)) <;> simp only [amS, amL, tyS, amB, Nat.reduceLT, Nat.reduceEqDiff, Nat.reduceAdd, Nat.reduceMul, Nat.reduceSub, Nat.reduceLeDiff, reduceCtorEq]) | (refine guard_split (fun hg => ?_) (fun hg => ?_) <;> simp only [hg, amS, amL, tyS, amB, Nat.reduceLT, Nat.reduceEqDiff, Nat.reduceAdd, Nat.reduceMul, Nat.reduceSub, Nat.reduceLeDiff, reduceCtorEq]) | (refine awp_skip ?_; simp only [amS]) | (refine awp_exit ?_; simp only [amS, if_true, if_false, Nat.reduceEqDiff]) | (refine awp_ret ?_; try simp only [amS]) | (refine Cont.go (by assumption) ?_) | (refine Arm.go (by assumption) ?_))
            refine body_ret3 rfl ?_
            simp only [amS, if_true, if_false, Nat.reduceEqDiff]
            rw [hgl]
            simp only [wk, wkL, encI_cI, wk_cI]

end Go.Proofs.Ytgenkkejlggmnaa
