import Derived.Test.YtgenkkejlggmnaaB23
set_option linter.unusedVariables false
set_option linter.unusedSimpArgs false
namespace Go.Proofs.Ytgenkkejlggmnaa
open Go.AM

def hcond (l : List Int) (i k : Nat) : Bool := (Int.fdiv (atL l ((2 : Int) * i) 16384) (2 ^ (min k 64))).tmod 2 == 1 || ((k : Int) == (i : Int) - 1 && decide (atL l ((2 : Int) * i + 1) 4 > 0))
def hbef (l : List Int) (acc : List V) (i k : Nat) : List Int := ((List.range k).filter fun j => decide (i - 4 ≤ j) && hcond l i j).map fun j => (acc.getD j ⟨0, []⟩).id
def hnext (l : List Int) (i : Nat) (id : Int) : Int := id + 1 + (if atL l ((2 : Int) * i + 1) 16 - 14 > 0 then atL l ((2 : Int) * i + 1) 16 - 14 else 0)
def histN (l : List Int) : Nat → List V × Int
  | 0 => ([], 0)
  | n + 1 => ((histN l n).1 ++ [⟨(histN l n).2, hbef l (histN l n).1 n n⟩], hnext l n (histN l n).2)
def histM (l : List Int) : Nat := min 14 ((l.length + 1) / 2)
def histL (l : List Int) : List V := (histN l (histM l)).1

theorem histN_len (l : List Int) : ∀ n, (histN l n).1.length = n
  | 0 => rfl
  | n + 1 => by simp [histN, histN_len l n]
theorem atL_bd (l : List Int) (k m : Int) (hm : 0 < m) : 0 ≤ atL l k m ∧ atL l k m < m := by
  unfold atL
  split
  · omega
  · split
    · exact around_nonneg _ _ hm
    · omega
theorem histN_id (l : List Int) : ∀ n : Nat, (n : Int) ≤ (histN l n).2 ∧ (histN l n).2 ≤ 2 * n
  | 0 => by simp [histN]
  | n + 1 => by
    have := histN_id l n
    have hb := atL_bd l ((2 : Int) * n + 1) 16 (by omega)
    simp only [histN, hnext]
    split <;> omega
theorem hbef_0 (l : List Int) (acc : List V) (i : Nat) : hbef l acc i (i - 4) = [] := by
  have : (List.range (i - 4)).filter (fun j => decide (i - 4 ≤ j) && hcond l i j) = [] := by
    rw [List.filter_eq_nil_iff]
    intro j hj
    have := List.mem_range.1 hj
    have : decide (i - 4 ≤ j) = false := by simp; omega
    rw [this]; simp
  rw [hbef, this]; rfl
theorem hbef_succ (l : List Int) (acc : List V) (i k : Nat) (hk : i - 4 ≤ k) {v : V} (hv : acc[k]? = some v) : hbef l acc i (k + 1) = hbef l acc i k ++ (if hcond l i k = true then [v.id] else []) := by
  unfold hbef
  rw [List.range_succ, List.filter_append, List.map_append]
  congr 1
  have h1 : decide (i - 4 ≤ k) = true := by simpa using hk
  simp only [List.filter_cons, List.filter_nil, h1, Bool.true_and]
  split
  · simp [List.getD_eq_getElem?_getD, hv]
  · rfl
theorem hbef_len (l : List Int) (acc : List V) (i k : Nat) : (hbef l acc i k).length ≤ k := by
  unfold hbef
  rw [List.length_map]
  exact Nat.le_trans (List.length_filter_le _ _) (by simp)

theorem wrapU {x : Int} (h1 : 0 ≤ x) (h2 : x ≤ 9223372036854775807) : IntKind.u64.wrap x = x := by
  simp only [IntKind.wrap, IntKind.bits, IntKind.signed, Nat.reducePow, Bool.false_and, Bool.false_eq_true, if_false]
  omega
theorem tFl {p : Nat → Bool} (l : List V) : inL p (l.map encV).flatten = true := inL_mono nRef (inL_flat (tree_vs l))
/-- The list so far. -/
def oV (acc : List V) : AV := if acc = [] then .sl true [] else .osl 1 (acc.length - 1) 0 acc.length 6 false
def oH (acc : List V) : List ARow := if acc = [] then [] else [.dead, .cells (acc.length - 1) (acc.map encV).flatten]
def bV (bs : List Int) : AV := if bs = [] then .sl true [] else .osl 3 (bs.length - 1) 0 bs.length 1 false
def bH (acc : List V) (id : Int) (bs : List Int) : List ARow := if bs = [] then [.dead, .cells (acc.length - 1) (acc.map encV).flatten, .cells 0 [.int .i64 id, .sl true [], .int .i64 0, .int .i64 0, .int .i64 0, .sl true []]]
  else [.dead, .cells (acc.length - 1) (acc.map encV).flatten, .cells 0 [.int .i64 id, .osl 3 (bs.length - 1) 0 bs.length 1 false, .int .i64 0, .int .i64 0, .int .i64 0, .sl true []], .cells (bs.length - 1) (cK bs)]

theorem flat_get {acc : List V} {k : Nat} {v : V} (h : acc[k]? = some v) : ((acc.map encV).flatten.drop (k * 6)).head? = some (.int .i64 v.id) := by
  have e : acc = acc.take k ++ v :: acc.drop (k + 1) := by rw [← drop_cons h, List.take_append_drop]
  have hk : k ≤ acc.length := by
    have := (List.getElem?_eq_some_iff.1 h).1
    omega
  have hl : ((acc.take k).map encV).flatten.length = k * 6 := by rw [flat_len, List.length_take, Nat.min_eq_left hk]
  conv => lhs; rw [e]
  rw [List.map_append, List.flatten_append, ← hl, List.drop_left]
  rfl

set_option maxHeartbeats 4000000 in
theorem history_7 (l : List Int) (hs : ∀ x ∈ l, Small64 x) (hl : Small l.length) : Pure Try.prog G0 7 [encI l] (encVs (histL l)) := by
  unfold Small at hl
  refine pure_of_body hG0 Try.func7 rfl (by kernel_rfl) (by simp [Try.ntmps7]) (by simp [inL, tree_encI]) (tree_encVs _) ?_
  simp only [Try.ntmps7, enterF, Nat.reduceAdd]
  repeat' (first | (refine awp_seq_k fun _ _ => ?_) | (refine awp_block ?_) | ((first | (refine awp_rgn ?_) | (refine awp_any (by kernel_rfl) (by kernel_rfl) ?_) | (refine awp_cond_k fun _ _ _ _ => ?_)) <;> simp only [amS, amL, tyS, amB, Nat.reduceLT, Nat.reduceEqDiff, Nat.reduceAdd, Nat.reduceMul, Nat.reduceSub, Nat.reduceLeDiff, reduceCtorEq]) | (refine guard_split (fun hg => ?_) (fun hg => ?_) <;> simp only [hg, amS, amL, tyS, amB, Nat.reduceLT, Nat.reduceEqDiff, Nat.reduceAdd, Nat.reduceMul, Nat.reduceSub, Nat.reduceLeDiff, reduceCtorEq]) | (refine awp_skip ?_; simp only [amS]) | (refine awp_exit ?_; simp only [amS, if_true, if_false, Nat.reduceEqDiff]) | (refine awp_ret ?_; try simp only [amS]) | (refine Cont.go (by assumption) ?_) | (refine Arm.go (by assumption) ?_))
  refine awp_loop_r (α := {n : Nat // n ≤ histM l}) (fun n => [(0, encI l), (3, oV (histN l n.1).1), (4, .int .i64 (histN l n.1).2), (5, .int .i64 n.1)]) (fun n => oH (histN l n.1).1) (fun n => 14 - n.1) ⟨0, Nat.zero_le _⟩ (Weak.ref ⟨?_, .inl ?_⟩) ?_
  · simp only [amS, amL, tyS, amB, Nat.reduceLT, Nat.reduceEqDiff, Nat.reduceAdd, Nat.reduceMul, Nat.reduceSub, Nat.reduceLeDiff, reduceCtorEq, histN, oV, eq_self]
    exact rfl
  · simp only [amS, amL, tyS, amB, Nat.reduceLT, Nat.reduceEqDiff, Nat.reduceAdd, Nat.reduceMul, Nat.reduceSub, Nat.reduceLeDiff, reduceCtorEq, histN, oH, eq_self]
  · rintro ⟨i, hi⟩ K2 hK2
    have hiM : i ≤ 14 := Nat.le_trans hi (Nat.min_le_left _ _)
    have e1 : IntKind.i64.wrap (2 * (i : Int)) = 2 * i := wrap_id (by omega) (by omega)
    have hidb := histN_id l i
    have hacl := histN_len l i
    repeat' (first | (refine awp_seq_k fun _ _ => ?_) | (refine awp_block ?_) | ((first | (refine awp_rgn ?_) | (refine awp_any (by kernel_rfl) (by kernel_rfl) ?_) | (refine awp_cond_k fun _ _ _ _ => ?_)) <;> simp only [amS, amL, tyS, amB, Nat.reduceLT, Nat.reduceEqDiff, Nat.reduceAdd, Nat.reduceMul, Nat.reduceSub, Nat.reduceLeDiff, reduceCtorEq, e1, encI]) | (refine guard_split (fun hg => ?_) (fun hg => ?_) <;> simp only [hg, amS, amL, tyS, amB, Nat.reduceLT, Nat.reduceEqDiff, Nat.reduceAdd, Nat.reduceMul, Nat.reduceSub, Nat.reduceLeDiff, reduceCtorEq, e1, encI]) | (refine awp_skip ?_; simp only [amS]) | (refine awp_ret ?_; try simp only [amS]) | (refine Cont.go (by assumption) ?_) | (refine Arm.go (by assumption) ?_))
    · refine ⟨fun h => ?_, fun h => ?_⟩
      · have hi14 : i < 14 := by simp at h; omega
        have hlt : i < histM l := by
          simp at hg
          unfold histM
          omega
        have hstep : histN l (i + 1) = ((histN l i).1 ++ [⟨(histN l i).2, hbef l (histN l i).1 i i⟩], hnext l i (histN l i).2) := rfl
        generalize hac : (histN l i).1 = acc at hacl hstep
        generalize hidn : (histN l i).2 = id at hidb hstep
        cases acc with
        | nil =>
          have hi0 : i = 0 := by simpa using hacl.symm
          subst hi0
          have hb0 : hbef l [] 0 0 = [] := rfl
          have hid0 : id = 0 := by omega
          have e2 : IntKind.i64.wrap (0 - 4) = -4 := wrap_id (by omega) (by omega)
          have e3 : IntKind.i64.wrap (2 * ((0 : Nat) : Int)) = 2 * ((0 : Nat) : Int) := wrap_id (by omega) (by omega)
          have hw := wrap_succ (k := 0) (m := 14) (by omega) (by omega)
          have w0 : IntKind.i64.wrap (2 * ((0 : Nat) : Int) + 1) = 2 * ((0 : Nat) : Int) + 1 := wrap_id (by omega) (by omega)
          repeat' (first | (refine awp_seq_k fun _ _ => ?_) | (refine awp_block ?_) | ((first | (refine awp_rgn ?_) | (refine awp_any (by kernel_rfl) (by kernel_rfl) ?_) | (refine awp_cond_k fun _ _ _ _ => ?_)) <;> simp only [amS, amL, tyS, amB, Nat.reduceLT, Nat.reduceEqDiff, Nat.reduceAdd, Nat.reduceMul, Nat.reduceSub, Nat.reduceLeDiff, reduceCtorEq, hac, hidn, oV, oH, eq_self, e3, encI]) | (refine guard_split (fun hg => ?_) (fun hg => ?_) <;> simp only [hg, amS, amL, tyS, amB, Nat.reduceLT, Nat.reduceEqDiff, Nat.reduceAdd, Nat.reduceMul, Nat.reduceSub, Nat.reduceLeDiff, reduceCtorEq, hac, hidn, oV, oH, eq_self, e3, encI]) | (refine awp_skip ?_; simp only [amS]) | (refine awp_exit ?_; simp only [amS, if_true, if_false, Nat.reduceEqDiff]) | (refine awp_ret ?_; try simp only [amS]) | (refine Cont.go (by assumption) ?_) | (refine Arm.go (by assumption) ?_))
          refine callR_tree hG0 (at_23 l ((2 : Int) * (0 : Nat)) 16384 hs (by omega)) ?_
          simp only [amS, amL, tyS, amB, Nat.reduceLT, Nat.reduceEqDiff, Nat.reduceAdd, Nat.reduceMul, Nat.reduceSub, Nat.reduceLeDiff, reduceCtorEq]
          have e4 : IntKind.i64.wrap (((0 : Nat) : Int) - 4) = -4 := wrap_id (by omega) (by omega)
          have e5 : (if (-4 : Int) > 0 then (-4 : Int) else 0) = 0 := by rw [if_neg (by omega)]
          repeat' (first | (refine awp_seq_k fun _ _ => ?_) | (refine awp_block ?_) | ((first | (refine awp_rgn ?_) | (refine awp_any (by kernel_rfl) (by kernel_rfl) ?_) | (refine awp_cond_k fun _ _ _ _ => ?_)) <;> simp only [amS, amL, tyS, amB, Nat.reduceLT, Nat.reduceEqDiff, Nat.reduceAdd, Nat.reduceMul, Nat.reduceSub, Nat.reduceLeDiff, reduceCtorEq, e4, e5]) | (refine guard_split (fun hg => ?_) (fun hg => ?_) <;> simp only [hg, amS, amL, tyS, amB, Nat.reduceLT, Nat.reduceEqDiff, Nat.reduceAdd, Nat.reduceMul, Nat.reduceSub, Nat.reduceLeDiff, reduceCtorEq, e4, e5]) | (refine awp_skip ?_; simp only [amS]) | (refine awp_exit ?_; simp only [amS, if_true, if_false, Nat.reduceEqDiff]) | (refine awp_ret ?_; try simp only [amS]) | (refine Cont.go (by assumption) ?_) | (refine Arm.go (by assumption) ?_))
          refine awp_loop_k (α := Unit) (fun _ => [(0, encI l), (3, .sl true []), (4, .int .i64 id), (5, .int .i64 (0 : Nat)), (6, .ptr 0 0 0), (8, .int .i64 0)]) (fun _ => [.cells 0 [.int .i64 id, .sl true [], .int .i64 0, .int .i64 0, .int .i64 0, .sl true []]]) (fun _ => 0) () ⟨?_, .inl ?_⟩ ?_
          · simp only [amS, amL, tyS, amB, Nat.reduceLT, Nat.reduceEqDiff, Nat.reduceAdd, Nat.reduceMul, Nat.reduceSub, Nat.reduceLeDiff, reduceCtorEq, encI]
          · simp only [amS, amL, tyS, amB, Nat.reduceLT, Nat.reduceEqDiff, Nat.reduceAdd, Nat.reduceMul, Nat.reduceSub, Nat.reduceLeDiff, reduceCtorEq]
          rintro ⟨⟩ K3 hK3
          repeat' (first | (refine awp_seq_k fun _ _ => ?_) | (refine awp_block ?_) | ((first | (refine awp_rgn ?_) | (refine awp_any (by kernel_rfl) (by kernel_rfl) ?_) | (refine awp_cond_k fun _ _ _ _ => ?_)) <;> simp only [amS, amL, tyS, amB, Nat.reduceLT, Nat.reduceEqDiff, Nat.reduceAdd, Nat.reduceMul, Nat.reduceSub, Nat.reduceLeDiff, reduceCtorEq]) | (refine guard_split (fun hg => ?_) (fun hg => ?_) <;> simp only [hg, amS, amL, tyS, amB, Nat.reduceLT, Nat.reduceEqDiff, Nat.reduceAdd, Nat.reduceMul, Nat.reduceSub, Nat.reduceLeDiff, reduceCtorEq]) | (refine awp_skip ?_; simp only [amS]) | (refine awp_ret ?_; try simp only [amS]) | (refine Cont.go (by assumption) ?_) | (refine Arm.go (by assumption) ?_))
          refine ⟨fun h => absurd h (by simp), fun h => ?_⟩
          repeat' (first | (refine awp_seq_k fun _ _ => ?_) | (refine awp_block ?_) | (refine awp_cond_k fun _ _ _ _ => ?_; simp only [amS, amL, tyS, amB, Nat.reduceLT, Nat.reduceEqDiff, Nat.reduceAdd, Nat.reduceMul, Nat.reduceSub, Nat.reduceLeDiff, reduceCtorEq]) | (refine awp_skip ?_; simp only [amS]) | (refine awp_exit ?_; simp only [amS, if_true, if_false, Nat.reduceEqDiff]) | (refine awp_ret ?_; try simp only [amS]) | (refine Cont.go (by assumption) ?_) | (refine Arm.go (by assumption) ?_))
          refine awp_freeze [] [(0, encI l), (3, .sl true []), (4, .int .i64 id), (5, .int .i64 (0 : Nat)), (6, .ptr 0 0 0)] [.cells 0 (encV ⟨id, []⟩)] rfl ?_ ?_ ?_
          · simp only [amS, amL, tyS, amB, Nat.reduceLT, Nat.reduceEqDiff, Nat.reduceAdd, Nat.reduceMul, Nat.reduceSub, Nat.reduceLeDiff, reduceCtorEq, FrzF, Frz, eq_self, true_or]
          · simp only [amS, amL, tyS, amB, Nat.reduceLT, Nat.reduceEqDiff, Nat.reduceAdd, Nat.reduceMul, Nat.reduceSub, Nat.reduceLeDiff, reduceCtorEq, FrzH]
            exact .inr ⟨by simp, .inr ⟨_, _, _, rfl, rfl, .inl rfl, .inr (.full rfl), .inl rfl, .inl rfl, .inl rfl, .inr (.full rfl), trivial⟩⟩
          repeat' (first | (refine awp_seq_k fun _ _ => ?_) | (refine awp_block ?_) | ((first | (refine awp_rgn ?_) | (refine awp_any (by kernel_rfl) (by kernel_rfl) ?_) | (refine awp_cond_k fun _ _ _ _ => ?_)) <;> simp only [amS, amL, tyS, amB, Nat.reduceLT, Nat.reduceEqDiff, Nat.reduceAdd, Nat.reduceMul, Nat.reduceSub, Nat.reduceLeDiff, reduceCtorEq, encV]) | (refine guard_split (fun hg => ?_) (fun hg => ?_) <;> simp only [hg, amS, amL, tyS, amB, Nat.reduceLT, Nat.reduceEqDiff, Nat.reduceAdd, Nat.reduceMul, Nat.reduceSub, Nat.reduceLeDiff, reduceCtorEq, encV]) | (refine awp_skip ?_; simp only [amS]) | (refine awp_exit ?_; simp only [amS, if_true, if_false, Nat.reduceEqDiff]) | (refine awp_ret ?_; try simp only [amS]) | (refine Cont.go (by assumption) ?_) | (refine Arm.go (by assumption) ?_))
          refine eff_new (sz := 6) (by' := 80) (mm := 1) (new := encV ⟨id, []⟩) (by kernel_rfl) (by simp only [amS, amL, tyS, amB, Nat.reduceLT, Nat.reduceEqDiff, Nat.reduceAdd, Nat.reduceMul, Nat.reduceSub, Nat.reduceLeDiff, reduceCtorEq]) (by simp) (by simp [srcA, encV]) (by simp) (by simp) ?_
          simp only [amS, amL, tyS, amB, Nat.reduceLT, Nat.reduceEqDiff, Nat.reduceAdd, Nat.reduceMul, Nat.reduceSub, Nat.reduceLeDiff, reduceCtorEq]
          repeat' (first | (refine awp_seq_k fun _ _ => ?_) | (refine awp_block ?_) | ((first | (refine awp_rgn ?_) | (refine awp_any (by kernel_rfl) (by kernel_rfl) ?_) | (refine awp_cond_k fun _ _ _ _ => ?_)) <;> simp only [amS, amL, tyS, amB, Nat.reduceLT, Nat.reduceEqDiff, Nat.reduceAdd, Nat.reduceMul, Nat.reduceSub, Nat.reduceLeDiff, reduceCtorEq, w0, e3, encI]) | (refine guard_split (fun hg => ?_) (fun hg => ?_) <;> simp only [hg, amS, amL, tyS, amB, Nat.reduceLT, Nat.reduceEqDiff, Nat.reduceAdd, Nat.reduceMul, Nat.reduceSub, Nat.reduceLeDiff, reduceCtorEq, w0, e3, encI]) | (refine awp_skip ?_; simp only [amS]) | (refine awp_exit ?_; simp only [amS, if_true, if_false, Nat.reduceEqDiff]) | (refine awp_ret ?_; try simp only [amS]) | (refine Cont.go (by assumption) ?_) | (refine Arm.go (by assumption) ?_))
          refine callR_tree hG0 (at_23 l ((2 : Int) * (0 : Nat) + 1) 16 hs (by omega)) ?_
          have hnx : hnext l 0 id = id + 1 + (if atL l ((2 : Int) * (0 : Nat) + 1) 16 - 14 > 0 then atL l ((2 : Int) * (0 : Nat) + 1) 16 - 14 else 0) := rfl
          have hb16 := atL_bd l ((2 : Int) * (0 : Nat) + 1) 16 (by omega)
          generalize atL l ((2 : Int) * (0 : Nat) + 1) 16 = a16 at hnx hb16 ⊢
          have w1 : IntKind.i64.wrap (a16 - 14) = a16 - 14 := wrap_id (by omega) (by omega)
          have w2 : IntKind.i64.wrap (id + 1) = id + 1 := wrap_id (by omega) (by omega)
          have w3 : IntKind.i64.wrap (id + 1 + (if a16 - 14 > 0 then a16 - 14 else 0)) = hnext l 0 id := by rw [hnx]; split <;> exact wrap_id (by omega) (by omega)
          simp only [amS, amL, tyS, amB, Nat.reduceLT, Nat.reduceEqDiff, Nat.reduceAdd, Nat.reduceMul, Nat.reduceSub, Nat.reduceLeDiff, reduceCtorEq, w1, w2, w3]
          repeat' (first | (refine awp_seq_k fun _ _ => ?_) | (refine awp_block ?_) | ((first | (refine awp_rgn ?_) | (refine awp_any (by kernel_rfl) (by kernel_rfl) ?_) | (refine awp_cond_k fun _ _ _ _ => ?_)) <;> simp only [amS, amL, tyS, amB, Nat.reduceLT, Nat.reduceEqDiff, Nat.reduceAdd, Nat.reduceMul, Nat.reduceSub, Nat.reduceLeDiff, reduceCtorEq, hw]) | (refine guard_split (fun hg => ?_) (fun hg => ?_) <;> simp only [hg, amS, amL, tyS, amB, Nat.reduceLT, Nat.reduceEqDiff, Nat.reduceAdd, Nat.reduceMul, Nat.reduceSub, Nat.reduceLeDiff, reduceCtorEq, hw]) | (refine awp_skip ?_; simp only [amS]) | (refine awp_exit ?_; simp only [amS, if_true, if_false, Nat.reduceEqDiff]) | (refine awp_ret ?_; try simp only [amS]) | (refine Cont.go (by assumption) ?_) | (refine Arm.go (by assumption) ?_))
          refine AgainR.go hK2 ⟨1, hlt⟩ ?_ (by simp)
          refine ref_freeze [0] _ _ ?_ ?_ ?_
          · simp only [amS, amL, tyS, amB, Nat.reduceLT, Nat.reduceEqDiff, Nat.reduceAdd, Nat.reduceMul, Nat.reduceSub, Nat.reduceLeDiff, reduceCtorEq]
          · simp only [amS, amL, tyS, amB, Nat.reduceLT, Nat.reduceEqDiff, Nat.reduceAdd, Nat.reduceMul, Nat.reduceSub, Nat.reduceLeDiff, reduceCtorEq, hstep, hb0, oV, encI, List.cons_ne_nil, FrzF, Frz, eq_self, true_or]
          · simp only [amS, amL, tyS, amB, Nat.reduceLT, Nat.reduceEqDiff, Nat.reduceAdd, Nat.reduceMul, Nat.reduceSub, Nat.reduceLeDiff, reduceCtorEq, hstep, hb0, oH, List.cons_ne_nil, FrzH]
            simp [FrzRow]
        | cons a at' =>
          generalize hap2 : a :: at' = acc at *
          have hne : acc ≠ [] := by rw [← hap2]; simp
          have hi0 : 0 < i := by rw [← hacl]; exact List.length_pos_iff.2 hne
          have hw := wrap_succ (k := i) (m := 14) hi14 (by omega)
          have w0 : IntKind.i64.wrap (2 * (i : Int) + 1) = 2 * (i : Int) + 1 := wrap_id (by omega) (by omega)
          have e4 : IntKind.i64.wrap ((i : Int) - 4) = (i : Int) - 4 := wrap_id (by omega) (by omega)
          have e5 : (if (i : Int) - 4 > 0 then (i : Int) - 4 else 0) = ((i - 4 : Nat) : Int) := by split <;> omega
          repeat' (first | (refine awp_seq_k fun _ _ => ?_) | (refine awp_block ?_) | ((first | (refine awp_rgn ?_) | (refine awp_any (by kernel_rfl) (by kernel_rfl) ?_) | (refine awp_cond_k fun _ _ _ _ => ?_)) <;> simp only [amS, amL, tyS, amB, Nat.reduceLT, Nat.reduceEqDiff, Nat.reduceAdd, Nat.reduceMul, Nat.reduceSub, Nat.reduceLeDiff, reduceCtorEq, hac, hidn, oV, oH, hne, e1, encI]) | (refine guard_split (fun hg => ?_) (fun hg => ?_) <;> simp only [hg, amS, amL, tyS, amB, Nat.reduceLT, Nat.reduceEqDiff, Nat.reduceAdd, Nat.reduceMul, Nat.reduceSub, Nat.reduceLeDiff, reduceCtorEq, hac, hidn, oV, oH, hne, e1, encI]) | (refine awp_skip ?_; simp only [amS]) | (refine awp_exit ?_; simp only [amS, if_true, if_false, Nat.reduceEqDiff]) | (refine awp_ret ?_; try simp only [amS]) | (refine Cont.go (by assumption) ?_) | (refine Arm.go (by assumption) ?_))
          refine callR_tree hG0 (at_23 l ((2 : Int) * i) 16384 hs (by omega)) ?_
          simp only [amS, amL, tyS, amB, Nat.reduceLT, Nat.reduceEqDiff, Nat.reduceAdd, Nat.reduceMul, Nat.reduceSub, Nat.reduceLeDiff, reduceCtorEq]
          repeat' (first | (refine awp_seq_k fun _ _ => ?_) | (refine awp_block ?_) | ((first | (refine awp_rgn ?_) | (refine awp_any (by kernel_rfl) (by kernel_rfl) ?_) | (refine awp_cond_k fun _ _ _ _ => ?_)) <;> simp only [amS, amL, tyS, amB, Nat.reduceLT, Nat.reduceEqDiff, Nat.reduceAdd, Nat.reduceMul, Nat.reduceSub, Nat.reduceLeDiff, reduceCtorEq, e4, e5]) | (refine guard_split (fun hg => ?_) (fun hg => ?_) <;> simp only [hg, amS, amL, tyS, amB, Nat.reduceLT, Nat.reduceEqDiff, Nat.reduceAdd, Nat.reduceMul, Nat.reduceSub, Nat.reduceLeDiff, reduceCtorEq, e4, e5]) | (refine awp_skip ?_; simp only [amS]) | (refine awp_exit ?_; simp only [amS, if_true, if_false, Nat.reduceEqDiff]) | (refine awp_ret ?_; try simp only [amS]) | (refine Cont.go (by assumption) ?_) | (refine Arm.go (by assumption) ?_))
          refine awp_loop_k (α := {k : Nat // i - 4 ≤ k ∧ k ≤ i}) (fun k => [(0, encI l), (3, .osl 1 (acc.length - 1) 0 acc.length 6 false), (4, .int .i64 id), (5, .int .i64 i), (6, .ptr 2 0 0), (7, .int .i64 (atL l ((2 : Int) * i) 16384)), (8, .int .i64 k.1)]) (fun k => bH acc id (hbef l acc i k.1)) (fun k => i - k.1) ⟨i - 4, Nat.le_refl _, by omega⟩ ⟨?_, .inl ?_⟩ ?_
          · simp only [amS, amL, tyS, amB, Nat.reduceLT, Nat.reduceEqDiff, Nat.reduceAdd, Nat.reduceMul, Nat.reduceSub, Nat.reduceLeDiff, reduceCtorEq, encI]
          · simp only [amS, amL, tyS, amB, Nat.reduceLT, Nat.reduceEqDiff, Nat.reduceAdd, Nat.reduceMul, Nat.reduceSub, Nat.reduceLeDiff, reduceCtorEq, hbef_0, bH, eq_self]
          rintro ⟨k, hk1, hk2⟩ K3 hK3
          repeat' (first | (refine awp_seq_k fun _ _ => ?_) | (refine awp_block ?_) | ((first | (refine awp_rgn ?_) | (refine awp_any (by kernel_rfl) (by kernel_rfl) ?_) | (refine awp_cond_k fun _ _ _ _ => ?_)) <;> simp only [amS, amL, tyS, amB, Nat.reduceLT, Nat.reduceEqDiff, Nat.reduceAdd, Nat.reduceMul, Nat.reduceSub, Nat.reduceLeDiff, reduceCtorEq]) | (refine guard_split (fun hg => ?_) (fun hg => ?_) <;> simp only [hg, amS, amL, tyS, amB, Nat.reduceLT, Nat.reduceEqDiff, Nat.reduceAdd, Nat.reduceMul, Nat.reduceSub, Nat.reduceLeDiff, reduceCtorEq]) | (refine awp_skip ?_; simp only [amS]) | (refine awp_ret ?_; try simp only [amS]) | (refine Cont.go (by assumption) ?_) | (refine Arm.go (by assumption) ?_))
          refine ⟨fun h2 => ?_, fun h2 => ?_⟩
          · have hkl : k < i := by simpa using h2
            have c5 : IntKind.u64.wrap (k : Int) = k := wrapU (by omega) (by omega)
            have c6 : IntKind.i64.wrap ((i : Int) - 1) = i - 1 := wrap_id (by omega) (by omega)
            have hwk := wrap_succ (k := k) (m := 14) (by omega) (by omega)
            have hk0 : ¬ ((k : Int) < 0) := by omega
            have n2 : ¬ ((2 : Int) = 0) := by omega
            have hbits : IntKind.i64.bits = 64 := rfl
            have hcd : hcond l i k = (((atL l ((2 : Int) * i) 16384).fdiv (2 ^ min k 64)).tmod 2 == 1 || ((k : Int) == (i : Int) - 1 && decide (atL l ((2 : Int) * i + 1) 4 > 0))) := rfl
            obtain ⟨vk, hvk⟩ : ∃ v, acc[k]? = some v := ⟨_, List.getElem?_eq_getElem (by omega)⟩
            have hsu := hbef_succ l acc i k hk1 hvk
            have hfg := flat_get hvk
            have hbl := hbef_len l acc i k
            generalize hbs : hbef l acc i k = bs at hsu hbl
            have hka : k < acc.length := by omega
            cases bs with
            | nil =>
              have hone : ¬ ([] ++ [vk.id] = []) := by simp
              repeat' (first | (refine awp_seq_k fun _ _ => ?_) | (refine awp_block ?_) | ((first | (refine awp_rgn ?_) | (refine awp_any (by kernel_rfl) (by kernel_rfl) ?_) | (refine awp_cond_k fun _ _ _ _ => ?_)) <;> simp only [amS, amL, tyS, amB, Nat.reduceLT, Nat.reduceEqDiff, Nat.reduceAdd, Nat.reduceMul, Nat.reduceSub, Nat.reduceLeDiff, reduceCtorEq, c5, c6, hk0, n2, hbits, hbs, bH, eq_self, hka, hfg, Nat.zero_add, hwk]) | (refine guard_split (fun hg => ?_) (fun hg => ?_) <;> simp only [hg, amS, amL, tyS, amB, Nat.reduceLT, Nat.reduceEqDiff, Nat.reduceAdd, Nat.reduceMul, Nat.reduceSub, Nat.reduceLeDiff, reduceCtorEq, c5, c6, hk0, n2, hbits, hbs, bH, eq_self, hka, hfg, Nat.zero_add, hwk]) | (refine awp_skip ?_; simp only [amS]) | (refine awp_exit ?_; simp only [amS, if_true, if_false, Nat.reduceEqDiff]) | (refine awp_ret ?_; try simp only [amS]) | (refine Cont.go (by assumption) ?_) | (refine Arm.go (by assumption) ?_))
              · rw [hg, Bool.true_or] at hcd
                rw [hcd, if_pos rfl] at hsu
                refine eff_new (sz := 1) (by' := 8) (mm := 1) (new := [.int .i64 vk.id]) (by kernel_rfl) (by simp only [amS, amL, tyS, amB, Nat.reduceLT, Nat.reduceEqDiff, Nat.reduceAdd, Nat.reduceMul, Nat.reduceSub, Nat.reduceLeDiff, reduceCtorEq]) (by simp) (by simp [srcA]) (by simp) (by simp) ?_
                simp only [amS, amL, tyS, amB, Nat.reduceLT, Nat.reduceEqDiff, Nat.reduceAdd, Nat.reduceMul, Nat.reduceSub, Nat.reduceLeDiff, reduceCtorEq]
                refine ⟨by kernel_rfl, ?_⟩
                repeat' (first | (refine awp_seq_k fun _ _ => ?_) | (refine awp_block ?_) | ((first | (refine awp_rgn ?_) | (refine awp_any (by kernel_rfl) (by kernel_rfl) ?_) | (refine awp_cond_k fun _ _ _ _ => ?_)) <;> simp only [amS, amL, tyS, amB, Nat.reduceLT, Nat.reduceEqDiff, Nat.reduceAdd, Nat.reduceMul, Nat.reduceSub, Nat.reduceLeDiff, reduceCtorEq, hwk]) | (refine guard_split (fun hg => ?_) (fun hg => ?_) <;> simp only [hg, amS, amL, tyS, amB, Nat.reduceLT, Nat.reduceEqDiff, Nat.reduceAdd, Nat.reduceMul, Nat.reduceSub, Nat.reduceLeDiff, reduceCtorEq, hwk]) | (refine awp_skip ?_; simp only [amS]) | (refine awp_exit ?_; simp only [amS, if_true, if_false, Nat.reduceEqDiff]) | (refine awp_ret ?_; try simp only [amS]) | (refine Cont.go (by assumption) ?_) | (refine Arm.go (by assumption) ?_))
                refine Again.go hK3 ⟨k + 1, by omega, hkl⟩ ⟨?_, .inl ?_⟩ (by simp; omega)
                · simp only [amS, amL, tyS, amB, Nat.reduceLT, Nat.reduceEqDiff, Nat.reduceAdd, Nat.reduceMul, Nat.reduceSub, Nat.reduceLeDiff, reduceCtorEq, encI]
                · simp only [amS, amL, tyS, amB, Nat.reduceLT, Nat.reduceEqDiff, Nat.reduceAdd, Nat.reduceMul, Nat.reduceSub, Nat.reduceLeDiff, reduceCtorEq, hsu, bH, List.nil_append, List.length_singleton, cK_one, Nat.sub_self, hone]
              · have hg1 : (((atL l ((2 : Int) * i) 16384).fdiv (2 ^ min k 64)).tmod 2 == 1) = false := by assumption
                rw [hg1, Bool.false_or, hg, Bool.true_and] at hcd
                simp only [amS, amL, tyS, amB, Nat.reduceLT, Nat.reduceEqDiff, Nat.reduceAdd, Nat.reduceMul, Nat.reduceSub, Nat.reduceLeDiff, reduceCtorEq, w0, e1, encI]
                refine callR_tree hG0 (at_23 l ((2 : Int) * i + 1) 4 hs (by omega)) ?_
                simp only [amS, amL, tyS, amB, Nat.reduceLT, Nat.reduceEqDiff, Nat.reduceAdd, Nat.reduceMul, Nat.reduceSub, Nat.reduceLeDiff, reduceCtorEq]
                repeat' (first | (refine awp_seq_k fun _ _ => ?_) | (refine awp_block ?_) | ((first | (refine awp_rgn ?_) | (refine awp_any (by kernel_rfl) (by kernel_rfl) ?_) | (refine awp_cond_k fun _ _ _ _ => ?_)) <;> simp only [amS, amL, tyS, amB, Nat.reduceLT, Nat.reduceEqDiff, Nat.reduceAdd, Nat.reduceMul, Nat.reduceSub, Nat.reduceLeDiff, reduceCtorEq]) | (refine guard_split (fun hg => ?_) (fun hg => ?_) <;> simp only [hg, amS, amL, tyS, amB, Nat.reduceLT, Nat.reduceEqDiff, Nat.reduceAdd, Nat.reduceMul, Nat.reduceSub, Nat.reduceLeDiff, reduceCtorEq]) | (refine awp_skip ?_; simp only [amS]) | (refine awp_exit ?_; simp only [amS, if_true, if_false, Nat.reduceEqDiff]) | (refine awp_ret ?_; try simp only [amS]) | (refine Cont.go (by assumption) ?_) | (refine Arm.go (by assumption) ?_))
                refine ⟨fun h3 => ?_, fun h3 => ?_⟩
                · rw [h3] at hcd
                  repeat' (first | (refine awp_seq_k fun _ _ => ?_) | (refine awp_block ?_) | ((first | (refine awp_rgn ?_) | (refine awp_any (by kernel_rfl) (by kernel_rfl) ?_) | (refine awp_cond_k fun _ _ _ _ => ?_)) <;> simp only [amS, amL, tyS, amB, Nat.reduceLT, Nat.reduceEqDiff, Nat.reduceAdd, Nat.reduceMul, Nat.reduceSub, Nat.reduceLeDiff, reduceCtorEq, hbs, bH, eq_self, hka, hfg, Nat.zero_add]) | (refine guard_split (fun hg => ?_) (fun hg => ?_) <;> simp only [hg, amS, amL, tyS, amB, Nat.reduceLT, Nat.reduceEqDiff, Nat.reduceAdd, Nat.reduceMul, Nat.reduceSub, Nat.reduceLeDiff, reduceCtorEq, hbs, bH, eq_self, hka, hfg, Nat.zero_add]) | (refine awp_skip ?_; simp only [amS]) | (refine awp_exit ?_; simp only [amS, if_true, if_false, Nat.reduceEqDiff]) | (refine awp_ret ?_; try simp only [amS]) | (refine Cont.go (by assumption) ?_) | (refine Arm.go (by assumption) ?_))
                  rw [hcd, if_pos rfl] at hsu
                  refine eff_new (sz := 1) (by' := 8) (mm := 1) (new := [.int .i64 vk.id]) (by kernel_rfl) (by simp only [amS, amL, tyS, amB, Nat.reduceLT, Nat.reduceEqDiff, Nat.reduceAdd, Nat.reduceMul, Nat.reduceSub, Nat.reduceLeDiff, reduceCtorEq]) (by simp) (by simp [srcA]) (by simp) (by simp) ?_
                  simp only [amS, amL, tyS, amB, Nat.reduceLT, Nat.reduceEqDiff, Nat.reduceAdd, Nat.reduceMul, Nat.reduceSub, Nat.reduceLeDiff, reduceCtorEq]
                  refine ⟨by kernel_rfl, ?_⟩
                  repeat' (first | (refine awp_seq_k fun _ _ => ?_) | (refine awp_block ?_) | ((first | (refine awp_rgn ?_) | (refine awp_any (by kernel_rfl) (by kernel_rfl) ?_) | (refine awp_cond_k fun _ _ _ _ => ?_)) <;> simp only [amS, amL, tyS, amB, Nat.reduceLT, Nat.reduceEqDiff, Nat.reduceAdd, Nat.reduceMul, Nat.reduceSub, Nat.reduceLeDiff, reduceCtorEq, hwk]) | (refine guard_split (fun hg => ?_) (fun hg => ?_) <;> simp only [hg, amS, amL, tyS, amB, Nat.reduceLT, Nat.reduceEqDiff, Nat.reduceAdd, Nat.reduceMul, Nat.reduceSub, Nat.reduceLeDiff, reduceCtorEq, hwk]) | (refine awp_skip ?_; simp only [amS]) | (refine awp_exit ?_; simp only [amS, if_true, if_false, Nat.reduceEqDiff]) | (refine awp_ret ?_; try simp only [amS]) | (refine Cont.go (by assumption) ?_) | (refine Arm.go (by assumption) ?_))
                  refine Again.go hK3 ⟨k + 1, by omega, hkl⟩ ⟨?_, .inl ?_⟩ (by simp; omega)
                  · simp only [amS, amL, tyS, amB, Nat.reduceLT, Nat.reduceEqDiff, Nat.reduceAdd, Nat.reduceMul, Nat.reduceSub, Nat.reduceLeDiff, reduceCtorEq, encI]
                  · simp only [amS, amL, tyS, amB, Nat.reduceLT, Nat.reduceEqDiff, Nat.reduceAdd, Nat.reduceMul, Nat.reduceSub, Nat.reduceLeDiff, reduceCtorEq, hsu, bH, List.nil_append, List.length_singleton, cK_one, Nat.sub_self, hone]
                · rw [h3] at hcd
                  repeat' (first | (refine awp_seq_k fun _ _ => ?_) | (refine awp_block ?_) | ((first | (refine awp_rgn ?_) | (refine awp_any (by kernel_rfl) (by kernel_rfl) ?_) | (refine awp_cond_k fun _ _ _ _ => ?_)) <;> simp only [amS, amL, tyS, amB, Nat.reduceLT, Nat.reduceEqDiff, Nat.reduceAdd, Nat.reduceMul, Nat.reduceSub, Nat.reduceLeDiff, reduceCtorEq, hwk]) | (refine guard_split (fun hg => ?_) (fun hg => ?_) <;> simp only [hg, amS, amL, tyS, amB, Nat.reduceLT, Nat.reduceEqDiff, Nat.reduceAdd, Nat.reduceMul, Nat.reduceSub, Nat.reduceLeDiff, reduceCtorEq, hwk]) | (refine awp_skip ?_; simp only [amS]) | (refine awp_exit ?_; simp only [amS, if_true, if_false, Nat.reduceEqDiff]) | (refine awp_ret ?_; try simp only [amS]) | (refine Cont.go (by assumption) ?_) | (refine Arm.go (by assumption) ?_))
                  rw [hcd, if_neg (by simp), List.append_nil] at hsu
                  refine Again.go hK3 ⟨k + 1, by omega, hkl⟩ ⟨?_, .inl ?_⟩ (by simp; omega)
                  · simp only [amS, amL, tyS, amB, Nat.reduceLT, Nat.reduceEqDiff, Nat.reduceAdd, Nat.reduceMul, Nat.reduceSub, Nat.reduceLeDiff, reduceCtorEq, encI]
                  · simp only [amS, amL, tyS, amB, Nat.reduceLT, Nat.reduceEqDiff, Nat.reduceAdd, Nat.reduceMul, Nat.reduceSub, Nat.reduceLeDiff, reduceCtorEq, hsu, hbs, bH, eq_self]
              · have hg1 : (((atL l ((2 : Int) * i) 16384).fdiv (2 ^ min k 64)).tmod 2 == 1) = false := by assumption
                rw [hg1, Bool.false_or, hg, Bool.false_and] at hcd
                rw [hcd, if_neg (by simp), List.append_nil] at hsu
                refine Again.go hK3 ⟨k + 1, by omega, hkl⟩ ⟨?_, .inl ?_⟩ (by simp; omega)
                · simp only [amS, amL, tyS, amB, Nat.reduceLT, Nat.reduceEqDiff, Nat.reduceAdd, Nat.reduceMul, Nat.reduceSub, Nat.reduceLeDiff, reduceCtorEq, encI]
                · simp only [amS, amL, tyS, amB, Nat.reduceLT, Nat.reduceEqDiff, Nat.reduceAdd, Nat.reduceMul, Nat.reduceSub, Nat.reduceLeDiff, reduceCtorEq, hsu, hbs, bH, eq_self]
            | cons b0 bt =>
              generalize hbs2 : b0 :: bt = bs at *
              have hbne : bs ≠ [] := by rw [← hbs2]; simp
              have hbp : 0 < bs.length := List.length_pos_iff.2 hbne
              have hone : ¬ (bs ++ [vk.id] = []) := by simp
              have hbp1 : bs.length - 1 + 1 = bs.length := by omega
              repeat' (first | (refine awp_seq_k fun _ _ => ?_) | (refine awp_block ?_) | ((first | (refine awp_rgn ?_) | (refine awp_any (by kernel_rfl) (by kernel_rfl) ?_) | (refine awp_cond_k fun _ _ _ _ => ?_)) <;> simp only [amS, amL, tyS, amB, Nat.reduceLT, Nat.reduceEqDiff, Nat.reduceAdd, Nat.reduceMul, Nat.reduceSub, Nat.reduceLeDiff, reduceCtorEq, c5, c6, hk0, n2, hbits, hbs, bH, hbne, hka, hfg, Nat.zero_add, hwk]) | (refine guard_split (fun hg => ?_) (fun hg => ?_) <;> simp only [hg, amS, amL, tyS, amB, Nat.reduceLT, Nat.reduceEqDiff, Nat.reduceAdd, Nat.reduceMul, Nat.reduceSub, Nat.reduceLeDiff, reduceCtorEq, c5, c6, hk0, n2, hbits, hbs, bH, hbne, hka, hfg, Nat.zero_add, hwk]) | (refine awp_skip ?_; simp only [amS]) | (refine awp_exit ?_; simp only [amS, if_true, if_false, Nat.reduceEqDiff]) | (refine awp_ret ?_; try simp only [amS]) | (refine Cont.go (by assumption) ?_) | (refine Arm.go (by assumption) ?_))
              · rw [hg, Bool.true_or] at hcd
                rw [hcd, if_pos rfl] at hsu
                refine eff_own (sz := 1) (by' := 8) (mm := 1) (new := [.int .i64 vk.id]) (cs := cK bs) (by kernel_rfl) (by simp only [amS, amL, tyS, amB, Nat.reduceLT, Nat.reduceEqDiff, Nat.reduceAdd, Nat.reduceMul, Nat.reduceSub, Nat.reduceLeDiff, reduceCtorEq]) (by rw [cK_len, Nat.mul_one]) (by simp [srcA]) (by omega) ?_
                simp only [amS, amL, tyS, amB, Nat.reduceLT, Nat.reduceEqDiff, Nat.reduceAdd, Nat.reduceMul, Nat.reduceSub, Nat.reduceLeDiff, reduceCtorEq]
                refine ⟨by kernel_rfl, ?_⟩
                repeat' (first | (refine awp_seq_k fun _ _ => ?_) | (refine awp_block ?_) | ((first | (refine awp_rgn ?_) | (refine awp_any (by kernel_rfl) (by kernel_rfl) ?_) | (refine awp_cond_k fun _ _ _ _ => ?_)) <;> simp only [amS, amL, tyS, amB, Nat.reduceLT, Nat.reduceEqDiff, Nat.reduceAdd, Nat.reduceMul, Nat.reduceSub, Nat.reduceLeDiff, reduceCtorEq, hwk]) | (refine guard_split (fun hg => ?_) (fun hg => ?_) <;> simp only [hg, amS, amL, tyS, amB, Nat.reduceLT, Nat.reduceEqDiff, Nat.reduceAdd, Nat.reduceMul, Nat.reduceSub, Nat.reduceLeDiff, reduceCtorEq, hwk]) | (refine awp_skip ?_; simp only [amS]) | (refine awp_exit ?_; simp only [amS, if_true, if_false, Nat.reduceEqDiff]) | (refine awp_ret ?_; try simp only [amS]) | (refine Cont.go (by assumption) ?_) | (refine Arm.go (by assumption) ?_))
                refine Again.go hK3 ⟨k + 1, by omega, hkl⟩ ⟨?_, .inl ?_⟩ (by simp; omega)
                · simp only [amS, amL, tyS, amB, Nat.reduceLT, Nat.reduceEqDiff, Nat.reduceAdd, Nat.reduceMul, Nat.reduceSub, Nat.reduceLeDiff, reduceCtorEq, encI]
                · simp only [amS, amL, tyS, amB, Nat.reduceLT, Nat.reduceEqDiff, Nat.reduceAdd, Nat.reduceMul, Nat.reduceSub, Nat.reduceLeDiff, reduceCtorEq, hsu, bH, List.length_append, Nat.add_sub_cancel, cK_snoc, hone, hbp1]
              · have hg1 : (((atL l ((2 : Int) * i) 16384).fdiv (2 ^ min k 64)).tmod 2 == 1) = false := by assumption
                rw [hg1, Bool.false_or, hg, Bool.true_and] at hcd
                simp only [amS, amL, tyS, amB, Nat.reduceLT, Nat.reduceEqDiff, Nat.reduceAdd, Nat.reduceMul, Nat.reduceSub, Nat.reduceLeDiff, reduceCtorEq, w0, e1, encI]
                refine callR_tree hG0 (at_23 l ((2 : Int) * i + 1) 4 hs (by omega)) ?_
                simp only [amS, amL, tyS, amB, Nat.reduceLT, Nat.reduceEqDiff, Nat.reduceAdd, Nat.reduceMul, Nat.reduceSub, Nat.reduceLeDiff, reduceCtorEq]
                repeat' (first | (refine awp_seq_k fun _ _ => ?_) | (refine awp_block ?_) | ((first | (refine awp_rgn ?_) | (refine awp_any (by kernel_rfl) (by kernel_rfl) ?_) | (refine awp_cond_k fun _ _ _ _ => ?_)) <;> simp only [amS, amL, tyS, amB, Nat.reduceLT, Nat.reduceEqDiff, Nat.reduceAdd, Nat.reduceMul, Nat.reduceSub, Nat.reduceLeDiff, reduceCtorEq]) | (refine guard_split (fun hg => ?_) (fun hg => ?_) <;> simp only [hg, amS, amL, tyS, amB, Nat.reduceLT, Nat.reduceEqDiff, Nat.reduceAdd, Nat.reduceMul, Nat.reduceSub, Nat.reduceLeDiff, reduceCtorEq]) | (refine awp_skip ?_; simp only [amS]) | (refine awp_exit ?_; simp only [amS, if_true, if_false, Nat.reduceEqDiff]) | (refine awp_ret ?_; try simp only [amS]) | (refine Cont.go (by assumption) ?_) | (refine Arm.go (by assumption) ?_))
                refine ⟨fun h3 => ?_, fun h3 => ?_⟩
                · rw [h3] at hcd
                  repeat' (first | (refine awp_seq_k fun _ _ => ?_) | (refine awp_block ?_) | ((first | (refine awp_rgn ?_) | (refine awp_any (by kernel_rfl) (by kernel_rfl) ?_) | (refine awp_cond_k fun _ _ _ _ => ?_)) <;> simp only [amS, amL, tyS, amB, Nat.reduceLT, Nat.reduceEqDiff, Nat.reduceAdd, Nat.reduceMul, Nat.reduceSub, Nat.reduceLeDiff, reduceCtorEq, hbs, bH, hbne, hka, hfg, Nat.zero_add]) | (refine guard_split (fun hg => ?_) (fun hg => ?_) <;> simp only [hg, amS, amL, tyS, amB, Nat.reduceLT, Nat.reduceEqDiff, Nat.reduceAdd, Nat.reduceMul, Nat.reduceSub, Nat.reduceLeDiff, reduceCtorEq, hbs, bH, hbne, hka, hfg, Nat.zero_add]) | (refine awp_skip ?_; simp only [amS]) | (refine awp_exit ?_; simp only [amS, if_true, if_false, Nat.reduceEqDiff]) | (refine awp_ret ?_; try simp only [amS]) | (refine Cont.go (by assumption) ?_) | (refine Arm.go (by assumption) ?_))
                  rw [hcd, if_pos rfl] at hsu
                  refine eff_own (sz := 1) (by' := 8) (mm := 1) (new := [.int .i64 vk.id]) (cs := cK bs) (by kernel_rfl) (by simp only [amS, amL, tyS, amB, Nat.reduceLT, Nat.reduceEqDiff, Nat.reduceAdd, Nat.reduceMul, Nat.reduceSub, Nat.reduceLeDiff, reduceCtorEq]) (by rw [cK_len, Nat.mul_one]) (by simp [srcA]) (by omega) ?_
                  simp only [amS, amL, tyS, amB, Nat.reduceLT, Nat.reduceEqDiff, Nat.reduceAdd, Nat.reduceMul, Nat.reduceSub, Nat.reduceLeDiff, reduceCtorEq]
                  refine ⟨by kernel_rfl, ?_⟩
                  repeat' (first | (refine awp_seq_k fun _ _ => ?_) | (refine awp_block ?_) | ((first | (refine awp_rgn ?_) | (refine awp_any (by kernel_rfl) (by kernel_rfl) ?_) | (refine awp_cond_k fun _ _ _ _ => ?_)) <;> simp only [amS, amL, tyS, amB, Nat.reduceLT, Nat.reduceEqDiff, Nat.reduceAdd, Nat.reduceMul, Nat.reduceSub, Nat.reduceLeDiff, reduceCtorEq, hwk]) | (refine guard_split (fun hg => ?_) (fun hg => ?_) <;> simp only [hg, amS, amL, tyS, amB, Nat.reduceLT, Nat.reduceEqDiff, Nat.reduceAdd, Nat.reduceMul, Nat.reduceSub, Nat.reduceLeDiff, reduceCtorEq, hwk]) | (refine awp_skip ?_; simp only [amS]) | (refine awp_exit ?_; simp only [amS, if_true, if_false, Nat.reduceEqDiff]) | (refine awp_ret ?_; try simp only [amS]) | (refine Cont.go (by assumption) ?_) | (refine Arm.go (by assumption) ?_))
                  refine Again.go hK3 ⟨k + 1, by omega, hkl⟩ ⟨?_, .inl ?_⟩ (by simp; omega)
                  · simp only [amS, amL, tyS, amB, Nat.reduceLT, Nat.reduceEqDiff, Nat.reduceAdd, Nat.reduceMul, Nat.reduceSub, Nat.reduceLeDiff, reduceCtorEq, encI]
                  · simp only [amS, amL, tyS, amB, Nat.reduceLT, Nat.reduceEqDiff, Nat.reduceAdd, Nat.reduceMul, Nat.reduceSub, Nat.reduceLeDiff, reduceCtorEq, hsu, bH, List.length_append, Nat.add_sub_cancel, cK_snoc, hone, hbp1]
                · rw [h3] at hcd
                  repeat' (first | (refine awp_seq_k fun _ _ => ?_) | (refine awp_block ?_) | ((first | (refine awp_rgn ?_) | (refine awp_any (by kernel_rfl) (by kernel_rfl) ?_) | (refine awp_cond_k fun _ _ _ _ => ?_)) <;> simp only [amS, amL, tyS, amB, Nat.reduceLT, Nat.reduceEqDiff, Nat.reduceAdd, Nat.reduceMul, Nat.reduceSub, Nat.reduceLeDiff, reduceCtorEq, hwk]) | (refine guard_split (fun hg => ?_) (fun hg => ?_) <;> simp only [hg, amS, amL, tyS, amB, Nat.reduceLT, Nat.reduceEqDiff, Nat.reduceAdd, Nat.reduceMul, Nat.reduceSub, Nat.reduceLeDiff, reduceCtorEq, hwk]) | (refine awp_skip ?_; simp only [amS]) | (refine awp_exit ?_; simp only [amS, if_true, if_false, Nat.reduceEqDiff]) | (refine awp_ret ?_; try simp only [amS]) | (refine Cont.go (by assumption) ?_) | (refine Arm.go (by assumption) ?_))
                  rw [hcd, if_neg (by simp), List.append_nil] at hsu
                  refine Again.go hK3 ⟨k + 1, by omega, hkl⟩ ⟨?_, .inl ?_⟩ (by simp; omega)
                  · simp only [amS, amL, tyS, amB, Nat.reduceLT, Nat.reduceEqDiff, Nat.reduceAdd, Nat.reduceMul, Nat.reduceSub, Nat.reduceLeDiff, reduceCtorEq, encI]
                  · simp only [amS, amL, tyS, amB, Nat.reduceLT, Nat.reduceEqDiff, Nat.reduceAdd, Nat.reduceMul, Nat.reduceSub, Nat.reduceLeDiff, reduceCtorEq, hsu, hbs, bH, hbne]
              · have hg1 : (((atL l ((2 : Int) * i) 16384).fdiv (2 ^ min k 64)).tmod 2 == 1) = false := by assumption
                rw [hg1, Bool.false_or, hg, Bool.false_and] at hcd
                rw [hcd, if_neg (by simp), List.append_nil] at hsu
                refine Again.go hK3 ⟨k + 1, by omega, hkl⟩ ⟨?_, .inl ?_⟩ (by simp; omega)
                · simp only [amS, amL, tyS, amB, Nat.reduceLT, Nat.reduceEqDiff, Nat.reduceAdd, Nat.reduceMul, Nat.reduceSub, Nat.reduceLeDiff, reduceCtorEq, encI]
                · simp only [amS, amL, tyS, amB, Nat.reduceLT, Nat.reduceEqDiff, Nat.reduceAdd, Nat.reduceMul, Nat.reduceSub, Nat.reduceLeDiff, reduceCtorEq, hsu, hbs, bH, hbne]
          · have hki : k = i := by simp at h2; omega
            subst hki
            generalize hbs : hbef l acc k k = bs at hstep
            repeat' (first | (refine awp_seq_k fun _ _ => ?_) | (refine awp_block ?_) | (refine awp_cond_k fun _ _ _ _ => ?_; simp only [amS, amL, tyS, amB, Nat.reduceLT, Nat.reduceEqDiff, Nat.reduceAdd, Nat.reduceMul, Nat.reduceSub, Nat.reduceLeDiff, reduceCtorEq]) | (refine awp_skip ?_; simp only [amS]) | (refine awp_exit ?_; simp only [amS, if_true, if_false, Nat.reduceEqDiff]) | (refine awp_ret ?_; try simp only [amS]) | (refine Cont.go (by assumption) ?_) | (refine Arm.go (by assumption) ?_))
            refine awp_ref (s' := ⟨mkF [(0, encI l), (3, .osl 1 (acc.length - 1) 0 acc.length 6 false), (4, .int .i64 id), (5, .int .i64 k), (6, .ptr 2 0 0)], [.dead, .cells (acc.length - 1) (acc.map encV).flatten, .cells 0 (encV ⟨id, bs⟩)]⟩) ?_ ?_
            · cases bs with
              | nil =>
                refine ref_freeze [] _ _ ?_ ?_ ?_
                · rfl
                · simp only [amS, amL, tyS, amB, Nat.reduceLT, Nat.reduceEqDiff, Nat.reduceAdd, Nat.reduceMul, Nat.reduceSub, Nat.reduceLeDiff, reduceCtorEq, FrzF, Frz, eq_self, true_or, encI]
                · simp only [amS, amL, tyS, amB, Nat.reduceLT, Nat.reduceEqDiff, Nat.reduceAdd, Nat.reduceMul, Nat.reduceSub, Nat.reduceLeDiff, reduceCtorEq, hbs, bH, eq_self, FrzH]
                  refine ⟨.inr ⟨by simp, .inl rfl⟩, .inr ⟨by simp, .inl rfl⟩, .inr ⟨by simp, .inr ⟨_, _, _, rfl, rfl, .inl rfl, .inr (.full rfl), .inl rfl, .inl rfl, .inl rfl, .inr (.full rfl), trivial⟩⟩⟩
              | cons b0 bt =>
                generalize hbs2 : b0 :: bt = bs at *
                have hbne : bs ≠ [] := by rw [← hbs2]; simp
                refine Ref.trans (ref_freeze [3] [(0, encI l), (3, .osl 1 (acc.length - 1) 0 acc.length 6 false), (4, .int .i64 id), (5, .int .i64 k), (6, .ptr 2 0 0)] [.dead, .cells (acc.length - 1) (acc.map encV).flatten, .cells 0 (encV ⟨id, bs⟩), .dead] ?_ ?_ ?_) (ref_gc 3 (Nat.zero_le _) hG0 ?_ ?_)
                · simp only [amS, amL, tyS, amB, Nat.reduceLT, Nat.reduceEqDiff, Nat.reduceAdd, Nat.reduceMul, Nat.reduceSub, Nat.reduceLeDiff, reduceCtorEq, hbs, bH, hbne]
                · simp only [amS, amL, tyS, amB, Nat.reduceLT, Nat.reduceEqDiff, Nat.reduceAdd, Nat.reduceMul, Nat.reduceSub, Nat.reduceLeDiff, reduceCtorEq, FrzF, Frz, eq_self, true_or, encI]
                · simp only [amS, amL, tyS, amB, Nat.reduceLT, Nat.reduceEqDiff, Nat.reduceAdd, Nat.reduceMul, Nat.reduceSub, Nat.reduceLeDiff, reduceCtorEq, hbs, bH, hbne, FrzH]
                  refine ⟨.inr ⟨by simp, .inl rfl⟩, .inr ⟨by simp, .inl rfl⟩, .inr ⟨by simp, .inr ⟨_, _, _, rfl, rfl, .inl rfl, .inr ?_, .inl rfl, .inl rfl, .inl rfl, .inr (.full rfl), trivial⟩⟩, ?_⟩
                  · refine .osl (cs := cK bs) (by simp) ?_ (cI_len bs) (sz1 bs) (by rw [List.drop_zero, ← encI_flat, Nat.mul_one, ← cI_flat_len bs]; exact List.take_length) (tree_ints bs)
                    simp only [amS, amL, tyS, amB, Nat.reduceLT, Nat.reduceEqDiff, Nat.reduceAdd, Nat.reduceMul, Nat.reduceSub, Nat.reduceLeDiff, reduceCtorEq, hbs, bH, hbne]
                  · simp [FrzRow]
                · simp only [amS, amL, tyS, amB, Nat.reduceLT, Nat.reduceEqDiff, Nat.reduceAdd, Nat.reduceMul, Nat.reduceSub, Nat.reduceLeDiff, reduceCtorEq, List.mem_cons, List.not_mem_nil, or_false, forall_eq_or_imp, forall_eq, inR, inL, inE, encI, encVs, rowIn, List.all_cons, List.all_nil, tV, tI, tK, tP, tE, tF, Bool.and_self]
                · simp only [amS, amL, tyS, amB, Nat.reduceLT, Nat.reduceEqDiff, Nat.reduceAdd, Nat.reduceMul, Nat.reduceSub, Nat.reduceLeDiff, reduceCtorEq, List.mem_cons, List.not_mem_nil, or_false, forall_eq_or_imp, forall_eq, inR, inL, inE, encI, encVs, rowIn, List.all_cons, List.all_nil, tV, tI, tK, tP, tE, tF, Bool.and_self, encV, tFl]
            have hfa : ((acc ++ [(⟨id, bs⟩ : V)]).map encV).flatten = (acc.map encV).flatten ++ [.int .i64 id, encI bs, .int .i64 0, .int .i64 0, .int .i64 0, .sl false []] := by simp [encV]
            have hap1 : acc.length - 1 + 1 = acc.length := by have := List.length_pos_iff.2 hne; omega
            have hone : ¬ (acc ++ [(⟨id, bs⟩ : V)] = []) := by simp
            repeat' (first | (refine awp_seq_k fun _ _ => ?_) | (refine awp_block ?_) | ((first | (refine awp_rgn ?_) | (refine awp_any (by kernel_rfl) (by kernel_rfl) ?_) | (refine awp_cond_k fun _ _ _ _ => ?_)) <;> simp only [amS, amL, tyS, amB, Nat.reduceLT, Nat.reduceEqDiff, Nat.reduceAdd, Nat.reduceMul, Nat.reduceSub, Nat.reduceLeDiff, reduceCtorEq, encV]) | (refine guard_split (fun hg => ?_) (fun hg => ?_) <;> simp only [hg, amS, amL, tyS, amB, Nat.reduceLT, Nat.reduceEqDiff, Nat.reduceAdd, Nat.reduceMul, Nat.reduceSub, Nat.reduceLeDiff, reduceCtorEq, encV]) | (refine awp_skip ?_; simp only [amS]) | (refine awp_exit ?_; simp only [amS, if_true, if_false, Nat.reduceEqDiff]) | (refine awp_ret ?_; try simp only [amS]) | (refine Cont.go (by assumption) ?_) | (refine Arm.go (by assumption) ?_))
            refine eff_own (sz := 6) (by' := 80) (mm := 1) (new := encV ⟨id, bs⟩) (cs := (acc.map encV).flatten) (by kernel_rfl) (by simp only [amS, amL, tyS, amB, Nat.reduceLT, Nat.reduceEqDiff, Nat.reduceAdd, Nat.reduceMul, Nat.reduceSub, Nat.reduceLeDiff, reduceCtorEq]) (by rw [flat_len]) (by simp [srcA, encV]) (by omega) ?_
            simp only [amS, amL, tyS, amB, Nat.reduceLT, Nat.reduceEqDiff, Nat.reduceAdd, Nat.reduceMul, Nat.reduceSub, Nat.reduceLeDiff, reduceCtorEq, encV]
            repeat' (first | (refine awp_seq_k fun _ _ => ?_) | (refine awp_block ?_) | ((first | (refine awp_rgn ?_) | (refine awp_any (by kernel_rfl) (by kernel_rfl) ?_) | (refine awp_cond_k fun _ _ _ _ => ?_)) <;> simp only [amS, amL, tyS, amB, Nat.reduceLT, Nat.reduceEqDiff, Nat.reduceAdd, Nat.reduceMul, Nat.reduceSub, Nat.reduceLeDiff, reduceCtorEq, w0, e1, encI]) | (refine guard_split (fun hg => ?_) (fun hg => ?_) <;> simp only [hg, amS, amL, tyS, amB, Nat.reduceLT, Nat.reduceEqDiff, Nat.reduceAdd, Nat.reduceMul, Nat.reduceSub, Nat.reduceLeDiff, reduceCtorEq, w0, e1, encI]) | (refine awp_skip ?_; simp only [amS]) | (refine awp_exit ?_; simp only [amS, if_true, if_false, Nat.reduceEqDiff]) | (refine awp_ret ?_; try simp only [amS]) | (refine Cont.go (by assumption) ?_) | (refine Arm.go (by assumption) ?_))
            refine callR_tree hG0 (at_23 l ((2 : Int) * k + 1) 16 hs (by omega)) ?_
            have hnx : hnext l k id = id + 1 + (if atL l ((2 : Int) * k + 1) 16 - 14 > 0 then atL l ((2 : Int) * k + 1) 16 - 14 else 0) := rfl
            have hb16 := atL_bd l ((2 : Int) * k + 1) 16 (by omega)
            generalize atL l ((2 : Int) * k + 1) 16 = a16 at hnx hb16 ⊢
            have w1 : IntKind.i64.wrap (a16 - 14) = a16 - 14 := wrap_id (by omega) (by omega)
            have w2 : IntKind.i64.wrap (id + 1) = id + 1 := wrap_id (by omega) (by omega)
            have w3 : IntKind.i64.wrap (id + 1 + (if a16 - 14 > 0 then a16 - 14 else 0)) = hnext l k id := by rw [hnx]; split <;> exact wrap_id (by omega) (by omega)
            simp only [amS, amL, tyS, amB, Nat.reduceLT, Nat.reduceEqDiff, Nat.reduceAdd, Nat.reduceMul, Nat.reduceSub, Nat.reduceLeDiff, reduceCtorEq, w1, w2, w3]
            repeat' (first | (refine awp_seq_k fun _ _ => ?_) | (refine awp_block ?_) | ((first | (refine awp_rgn ?_) | (refine awp_any (by kernel_rfl) (by kernel_rfl) ?_) | (refine awp_cond_k fun _ _ _ _ => ?_)) <;> simp only [amS, amL, tyS, amB, Nat.reduceLT, Nat.reduceEqDiff, Nat.reduceAdd, Nat.reduceMul, Nat.reduceSub, Nat.reduceLeDiff, reduceCtorEq, hw]) | (refine guard_split (fun hg => ?_) (fun hg => ?_) <;> simp only [hg, amS, amL, tyS, amB, Nat.reduceLT, Nat.reduceEqDiff, Nat.reduceAdd, Nat.reduceMul, Nat.reduceSub, Nat.reduceLeDiff, reduceCtorEq, hw]) | (refine awp_skip ?_; simp only [amS]) | (refine awp_exit ?_; simp only [amS, if_true, if_false, Nat.reduceEqDiff]) | (refine awp_ret ?_; try simp only [amS]) | (refine Cont.go (by assumption) ?_) | (refine Arm.go (by assumption) ?_))
            refine AgainR.go hK2 ⟨k + 1, hlt⟩ (Weak.ref ⟨?_, .inr ⟨Nat.zero_le _, ?_, fun g cs hg => (by cases hg), ?_, ?_⟩⟩) (by simp; omega)
            · simp only [amS, amL, tyS, amB, Nat.reduceLT, Nat.reduceEqDiff, Nat.reduceAdd, Nat.reduceMul, Nat.reduceSub, Nat.reduceLeDiff, reduceCtorEq, hstep, oV, hone, List.length_append, Nat.add_sub_cancel, hap1, encI]
            · simp only [amS, amL, tyS, amB, Nat.reduceLT, Nat.reduceEqDiff, Nat.reduceAdd, Nat.reduceMul, Nat.reduceSub, Nat.reduceLeDiff, reduceCtorEq, hstep, oH, hone, List.length_append, Nat.add_sub_cancel, hap1, hfa, encI]
            · simp only [amS, amL, tyS, amB, Nat.reduceLT, Nat.reduceEqDiff, Nat.reduceAdd, Nat.reduceMul, Nat.reduceSub, Nat.reduceLeDiff, reduceCtorEq, hstep, oV, oH, hone, List.mem_cons, List.not_mem_nil, or_false, forall_eq_or_imp, forall_eq, inR, inL, inE, encI, encVs, rowIn, List.all_cons, List.all_nil, tV, tI, tK, tP, tE, tF, Bool.and_self]
            · simp only [amS, amL, tyS, amB, Nat.reduceLT, Nat.reduceEqDiff, Nat.reduceAdd, Nat.reduceMul, Nat.reduceSub, Nat.reduceLeDiff, reduceCtorEq, hstep, oH, hone, List.mem_cons, List.not_mem_nil, or_false, forall_eq_or_imp, forall_eq, inR, inL, inE, encI, encVs, rowIn, List.all_cons, List.all_nil, tV, tI, tK, tP, tE, tF, Bool.and_self, tFl]
      · have hiE : i = histM l := by
          simp at hg h
          unfold histM at hi ⊢
          omega
        repeat' (first | (refine awp_seq_k fun _ _ => ?_) | (refine awp_block ?_) | (refine awp_cond_k fun _ _ _ _ => ?_; simp only [amS, amL, tyS, amB, Nat.reduceLT, Nat.reduceEqDiff, Nat.reduceAdd, Nat.reduceMul, Nat.reduceSub, Nat.reduceLeDiff, reduceCtorEq]) | (refine awp_skip ?_; simp only [amS]) | (refine awp_exit ?_; simp only [amS, if_true, if_false, Nat.reduceEqDiff]) | (refine awp_ret ?_; try simp only [amS]) | (refine Cont.go (by assumption) ?_) | (refine Arm.go (by assumption) ?_))
        refine awp_ref (s' := ⟨mkF [(3, encVs (histL l))], []⟩) ?_ ?_
        · have hL : histL l = (histN l i).1 := by rw [histL, ← hiE]
          rw [hL]
          generalize (histN l i).1 = acc
          cases acc with
          | nil =>
            refine ref_freeze [] _ _ rfl ?_ ?_
            · simp only [amS, amL, tyS, amB, Nat.reduceLT, Nat.reduceEqDiff, Nat.reduceAdd, Nat.reduceMul, Nat.reduceSub, Nat.reduceLeDiff, reduceCtorEq, oV, FrzF, Frz, eq_self, true_or, encVs]
              exact .inr (.full rfl)
            · simp only [amS, amL, tyS, amB, Nat.reduceLT, Nat.reduceEqDiff, Nat.reduceAdd, Nat.reduceMul, Nat.reduceSub, Nat.reduceLeDiff, reduceCtorEq, oH, FrzH, eq_self]
          | cons a at' =>
            generalize hap2 : a :: at' = acc at *
            have hne : acc ≠ [] := by rw [← hap2]; simp
            refine Ref.trans (ref_freeze [1] [(3, encVs acc)] [.dead, .dead] ?_ ?_ ?_) (ref_gc 0 (Nat.zero_le _) hG0 ?_ ?_)
            · simp only [amS, amL, tyS, amB, Nat.reduceLT, Nat.reduceEqDiff, Nat.reduceAdd, Nat.reduceMul, Nat.reduceSub, Nat.reduceLeDiff, reduceCtorEq, oH, hne]
            · simp only [amS, amL, tyS, amB, Nat.reduceLT, Nat.reduceEqDiff, Nat.reduceAdd, Nat.reduceMul, Nat.reduceSub, Nat.reduceLeDiff, reduceCtorEq, oV, hne, FrzF, Frz, encVs]
              refine .osl (cs := (acc.map encV).flatten) (by simp) ?_ (by simp) ?_ (by rw [List.drop_zero, ← flat_len]; exact List.take_length) (tree_vs acc)
              · simp only [amS, amL, tyS, amB, Nat.reduceLT, Nat.reduceEqDiff, Nat.reduceAdd, Nat.reduceMul, Nat.reduceSub, Nat.reduceLeDiff, reduceCtorEq, oH, hne]
              · intro e he; obtain ⟨v, _, rfl⟩ := List.mem_map.1 he; rfl
            · simp only [amS, amL, tyS, amB, Nat.reduceLT, Nat.reduceEqDiff, Nat.reduceAdd, Nat.reduceMul, Nat.reduceSub, Nat.reduceLeDiff, reduceCtorEq, oH, hne, FrzH]
              simp [FrzRow]
            · simp only [amS, amL, tyS, amB, Nat.reduceLT, Nat.reduceEqDiff, Nat.reduceAdd, Nat.reduceMul, Nat.reduceSub, Nat.reduceLeDiff, reduceCtorEq, List.mem_cons, List.not_mem_nil, or_false, forall_eq_or_imp, forall_eq, inR, inL, inE, encI, encVs, rowIn, List.all_cons, List.all_nil, tV, tI, tK, tP, tE, tF, Bool.and_self]
            · rfl
        repeat' (first | (refine awp_seq_k fun _ _ => ?_) | (refine awp_block ?_) | ((first | (refine awp_rgn ?_) | (refine awp_any (by kernel_rfl) (by kernel_rfl) ?_) | (refine awp_cond_k fun _ _ _ _ => ?_)) <;> simp only [amS, amL, tyS, amB, Nat.reduceLT, Nat.reduceEqDiff, Nat.reduceAdd, Nat.reduceMul, Nat.reduceSub, Nat.reduceLeDiff, reduceCtorEq]) | (refine guard_split (fun hg => ?_) (fun hg => ?_) <;> simp only [hg, amS, amL, tyS, amB, Nat.reduceLT, Nat.reduceEqDiff, Nat.reduceAdd, Nat.reduceMul, Nat.reduceSub, Nat.reduceLeDiff, reduceCtorEq]) | (refine awp_skip ?_; simp only [amS]) | (refine awp_exit ?_; simp only [amS, if_true, if_false, Nat.reduceEqDiff]) | (refine awp_ret ?_; try simp only [amS]) | (refine Cont.go (by assumption) ?_) | (refine Arm.go (by assumption) ?_))
        refine body_ret1 rfl ?_
        simp only [amS, if_true, if_false]
    · have hiE : i = histM l := by
        simp at hg
        unfold histM at hi ⊢
        omega
      repeat' (first | (refine awp_seq_k fun _ _ => ?_) | (refine awp_block ?_) | (refine awp_cond_k fun _ _ _ _ => ?_; simp only [amS, amL, tyS, amB, Nat.reduceLT, Nat.reduceEqDiff, Nat.reduceAdd, Nat.reduceMul, Nat.reduceSub, Nat.reduceLeDiff, reduceCtorEq]) | (refine awp_skip ?_; simp only [amS]) | (refine awp_exit ?_; simp only [amS, if_true, if_false, Nat.reduceEqDiff]) | (refine awp_ret ?_; try simp only [amS]) | (refine Cont.go (by assumption) ?_) | (refine Arm.go (by assumption) ?_))
      refine awp_ref (s' := ⟨mkF [(3, encVs (histL l))], []⟩) ?_ ?_
      · have hL : histL l = (histN l i).1 := by rw [histL, ← hiE]
        rw [hL]
        generalize (histN l i).1 = acc
        cases acc with
        | nil =>
          refine ref_freeze [] _ _ rfl ?_ ?_
          · simp only [amS, amL, tyS, amB, Nat.reduceLT, Nat.reduceEqDiff, Nat.reduceAdd, Nat.reduceMul, Nat.reduceSub, Nat.reduceLeDiff, reduceCtorEq, oV, FrzF, Frz, eq_self, true_or, encVs]
            exact .inr (.full rfl)
          · simp only [amS, amL, tyS, amB, Nat.reduceLT, Nat.reduceEqDiff, Nat.reduceAdd, Nat.reduceMul, Nat.reduceSub, Nat.reduceLeDiff, reduceCtorEq, oH, FrzH, eq_self]
        | cons a at' =>
          generalize hap2 : a :: at' = acc at *
          have hne : acc ≠ [] := by rw [← hap2]; simp
          refine Ref.trans (ref_freeze [1] [(3, encVs acc)] [.dead, .dead] ?_ ?_ ?_) (ref_gc 0 (Nat.zero_le _) hG0 ?_ ?_)
          · simp only [amS, amL, tyS, amB, Nat.reduceLT, Nat.reduceEqDiff, Nat.reduceAdd, Nat.reduceMul, Nat.reduceSub, Nat.reduceLeDiff, reduceCtorEq, oH, hne]
          · simp only [amS, amL, tyS, amB, Nat.reduceLT, Nat.reduceEqDiff, Nat.reduceAdd, Nat.reduceMul, Nat.reduceSub, Nat.reduceLeDiff, reduceCtorEq, oV, hne, FrzF, Frz, encVs]
            refine .osl (cs := (acc.map encV).flatten) (by simp) ?_ (by simp) ?_ (by rw [List.drop_zero, ← flat_len]; exact List.take_length) (tree_vs acc)
            · simp only [amS, amL, tyS, amB, Nat.reduceLT, Nat.reduceEqDiff, Nat.reduceAdd, Nat.reduceMul, Nat.reduceSub, Nat.reduceLeDiff, reduceCtorEq, oH, hne]
            · intro e he; obtain ⟨v, _, rfl⟩ := List.mem_map.1 he; rfl
          · simp only [amS, amL, tyS, amB, Nat.reduceLT, Nat.reduceEqDiff, Nat.reduceAdd, Nat.reduceMul, Nat.reduceSub, Nat.reduceLeDiff, reduceCtorEq, oH, hne, FrzH]
            simp [FrzRow]
          · simp only [amS, amL, tyS, amB, Nat.reduceLT, Nat.reduceEqDiff, Nat.reduceAdd, Nat.reduceMul, Nat.reduceSub, Nat.reduceLeDiff, reduceCtorEq, List.mem_cons, List.not_mem_nil, or_false, forall_eq_or_imp, forall_eq, inR, inL, inE, encI, encVs, rowIn, List.all_cons, List.all_nil, tV, tI, tK, tP, tE, tF, Bool.and_self]
          · rfl
      repeat' (first | (refine awp_seq_k fun _ _ => ?_) | (refine awp_block ?_) | ((first | (refine awp_rgn ?_) | (refine awp_any (by kernel_rfl) (by kernel_rfl) ?_) | (refine awp_cond_k fun _ _ _ _ => ?_)) <;> simp only [amS, amL, tyS, amB, Nat.reduceLT, Nat.reduceEqDiff, Nat.reduceAdd, Nat.reduceMul, Nat.reduceSub, Nat.reduceLeDiff, reduceCtorEq]) | (refine guard_split (fun hg => ?_) (fun hg => ?_) <;> simp only [hg, amS, amL, tyS, amB, Nat.reduceLT, Nat.reduceEqDiff, Nat.reduceAdd, Nat.reduceMul, Nat.reduceSub, Nat.reduceLeDiff, reduceCtorEq]) | (refine awp_skip ?_; simp only [amS]) | (refine awp_exit ?_; simp only [amS, if_true, if_false, Nat.reduceEqDiff]) | (refine awp_ret ?_; try simp only [amS]) | (refine Cont.go (by assumption) ?_) | (refine Arm.go (by assumption) ?_))
      refine body_ret1 rfl ?_
      simp only [amS, if_true, if_false]

end Go.Proofs.Ytgenkkejlggmnaa
