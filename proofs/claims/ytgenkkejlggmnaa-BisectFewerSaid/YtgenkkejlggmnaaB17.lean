import Derived.Test.YtgenkkejlggmnaaAB
import Derived.Test.YtgenkkejlggmnaaB16
set_option linter.unusedVariables false
set_option linter.unusedSimpArgs false
namespace Go.Proofs.Ytgenkkejlggmnaa
open Go.AM

theorem encI_all (l : List Int) : (l.map fun n => [AV.int .i64 n]).all (fun e => decide (e.length = 1)) = true := by
  induction l with
  | nil => rfl
  | cons x l ih => simp only [List.map_cons, List.all_cons, ih]; rfl
theorem encI_flat (l : List Int) : (l.map fun n => [AV.int .i64 n]).flatten = cK l := by
  induction l with
  | nil => rfl
  | cons x l ih => simp only [List.map_cons, List.flatten_cons, ih]; rfl

theorem clone_nil : Pure Try.prog G0 27 [encI []] (.sl true []) := by
  refine pure_of_body hG0 Try.func27 rfl (by kernel_rfl) (by simp [Try.ntmps27]) (by simp [inL, inR, tree_encI]) (by simp [inR, inE]) ?_
  simp only [Try.ntmps27, enterF, Nat.reduceAdd]
  repeat' (first | (refine awp_seq_k fun _ _ => ?_) | (refine awp_block ?_) | ((first | (refine awp_rgn ?_) | (refine awp_any (by kernel_rfl) (by kernel_rfl) ?_) | (refine awp_cond_k fun _ _ _ _ => ?_)) <;> simp only [amS, amL, tyS, amB, Nat.reduceLT, Nat.reduceEqDiff, Nat.reduceAdd, Nat.reduceMul, Nat.reduceSub, Nat.reduceLeDiff, reduceCtorEq, encI, List.map_nil, List.isEmpty_nil, Bool.not_true]) | (refine guard_split (fun hg => ?_) (fun hg => ?_) <;> simp only [hg, amS, amL, tyS, amB, Nat.reduceLT, Nat.reduceEqDiff, Nat.reduceAdd, Nat.reduceMul, Nat.reduceSub, Nat.reduceLeDiff, reduceCtorEq, encI, List.map_nil, List.isEmpty_nil, Bool.not_true]) | (refine awp_skip ?_; simp only [amS]) | (refine awp_exit ?_; simp only [amS, if_true, if_false, Nat.reduceEqDiff]) | (refine awp_ret ?_; try simp only [amS]) | (refine Cont.go (by assumption) ?_) | (refine Arm.go (by assumption) ?_))
  refine ⟨?_, ?_⟩ <;> repeat' (first | (refine awp_seq_k fun _ _ => ?_) | (refine awp_block ?_) | ((first | (refine awp_rgn ?_) | (refine awp_any (by kernel_rfl) (by kernel_rfl) ?_) | (refine awp_cond_k fun _ _ _ _ => ?_)) <;> simp only [amS, amL, tyS, amB, Nat.reduceLT, Nat.reduceEqDiff, Nat.reduceAdd, Nat.reduceMul, Nat.reduceSub, Nat.reduceLeDiff, reduceCtorEq]) | (refine guard_split (fun hg => ?_) (fun hg => ?_) <;> simp only [hg, amS, amL, tyS, amB, Nat.reduceLT, Nat.reduceEqDiff, Nat.reduceAdd, Nat.reduceMul, Nat.reduceSub, Nat.reduceLeDiff, reduceCtorEq]) | (refine awp_skip ?_; simp only [amS]) | (refine awp_exit ?_; simp only [amS, if_true, if_false, Nat.reduceEqDiff]) | (refine awp_ret ?_; try simp only [amS]) | (refine Cont.go (by assumption) ?_) | (refine Arm.go (by assumption) ?_))
  · refine body_ret1 rfl ?_
    simp only [amS, if_true, if_false]
  · refine eff_none (sz := 1) (by' := 8) (new := []) (by kernel_rfl) (by simp) (by simp [srcA]) (by simp) ?_
    simp only [amS, amL, tyS, amB, Nat.reduceLT, Nat.reduceEqDiff, Nat.reduceAdd, Nat.reduceMul, Nat.reduceSub, Nat.reduceLeDiff, reduceCtorEq]
    repeat' (first | (refine awp_seq_k fun _ _ => ?_) | (refine awp_block ?_) | ((first | (refine awp_rgn ?_) | (refine awp_any (by kernel_rfl) (by kernel_rfl) ?_) | (refine awp_cond_k fun _ _ _ _ => ?_)) <;> simp only [amS, amL, tyS, amB, Nat.reduceLT, Nat.reduceEqDiff, Nat.reduceAdd, Nat.reduceMul, Nat.reduceSub, Nat.reduceLeDiff, reduceCtorEq]) | (refine guard_split (fun hg => ?_) (fun hg => ?_) <;> simp only [hg, amS, amL, tyS, amB, Nat.reduceLT, Nat.reduceEqDiff, Nat.reduceAdd, Nat.reduceMul, Nat.reduceSub, Nat.reduceLeDiff, reduceCtorEq]) | (refine awp_skip ?_; simp only [amS]) | (refine awp_exit ?_; simp only [amS, if_true, if_false, Nat.reduceEqDiff]) | (refine awp_ret ?_; try simp only [amS]) | (refine Cont.go (by assumption) ?_) | (refine Arm.go (by assumption) ?_))
    refine body_ret1 rfl ?_
    simp only [amS, if_true, if_false]

theorem clone_own (x : Int) (xs : List Int) (hl : xs.length < 1099511627776) : OwnR Try.prog G0 27 [encI (x :: xs)] (x :: xs).length 1 false (cK (x :: xs)) := by
  refine own_of_body hG0 Try.func27 rfl (by kernel_rfl) (by simp [Try.ntmps27]) (by simp [inL, inR, tree_encI]) (tree_cK _) ?_
  simp only [Try.ntmps27, enterF, Nat.reduceAdd]
  repeat' (first | (refine awp_seq_k fun _ _ => ?_) | (refine awp_block ?_) | ((first | (refine awp_rgn ?_) | (refine awp_any (by kernel_rfl) (by kernel_rfl) ?_) | (refine awp_cond_k fun _ _ _ _ => ?_)) <;> simp only [amS, amL, tyS, amB, Nat.reduceLT, Nat.reduceEqDiff, Nat.reduceAdd, Nat.reduceMul, Nat.reduceSub, Nat.reduceLeDiff, reduceCtorEq, encI, List.map_cons, List.isEmpty_cons, Bool.not_false]) | (refine guard_split (fun hg => ?_) (fun hg => ?_) <;> simp only [hg, amS, amL, tyS, amB, Nat.reduceLT, Nat.reduceEqDiff, Nat.reduceAdd, Nat.reduceMul, Nat.reduceSub, Nat.reduceLeDiff, reduceCtorEq, encI, List.map_cons, List.isEmpty_cons, Bool.not_false]) | (refine awp_skip ?_; simp only [amS]) | (refine awp_exit ?_; simp only [amS, if_true, if_false, Nat.reduceEqDiff]) | (refine awp_ret ?_; try simp only [amS]) | (refine Cont.go (by assumption) ?_) | (refine Arm.go (by assumption) ?_))
  refine eff_new (sz := 1) (by' := 8) (mm := (x :: xs).length) (new := cK (x :: xs)) (by kernel_rfl) (by simp [amS]) (by simp) ?_ (by simp) (by simp; omega) ?_
  · have := src_sl (b := false) (rows := fun r => ARow.none) (encI_all (x :: xs))
    rw [encI_flat, List.length_map] at this
    exact this
  simp only [amS, amL, tyS, amB, Nat.reduceLT, Nat.reduceEqDiff, Nat.reduceAdd, Nat.reduceMul, Nat.reduceSub, Nat.reduceLeDiff, reduceCtorEq]
  repeat' (first | (refine awp_seq_k fun _ _ => ?_) | (refine awp_block ?_) | ((first | (refine awp_rgn ?_) | (refine awp_any (by kernel_rfl) (by kernel_rfl) ?_) | (refine awp_cond_k fun _ _ _ _ => ?_)) <;> simp only [amS, amL, tyS, amB, Nat.reduceLT, Nat.reduceEqDiff, Nat.reduceAdd, Nat.reduceMul, Nat.reduceSub, Nat.reduceLeDiff, reduceCtorEq]) | (refine guard_split (fun hg => ?_) (fun hg => ?_) <;> simp only [hg, amS, amL, tyS, amB, Nat.reduceLT, Nat.reduceEqDiff, Nat.reduceAdd, Nat.reduceMul, Nat.reduceSub, Nat.reduceLeDiff, reduceCtorEq]) | (refine awp_skip ?_; simp only [amS]) | (refine awp_exit ?_; simp only [amS, if_true, if_false, Nat.reduceEqDiff]) | (refine awp_ret ?_; try simp only [amS]) | (refine Cont.go (by assumption) ?_) | (refine Arm.go (by assumption) ?_))
  refine body_ret1 rfl ?_
  simp only [amS, if_true, if_false]
  exact ⟨0, 0, by simp, by simp [amS]⟩

def cmpIn (k0 : Nat) : Nat → List Int → Nat → Nat → List Int × Nat
  | 0, cs, k, _ => (cs, k)
  | m + 1, cs, k, j => if cs.getD (k0 + j) 0 ≠ cs.getD (k0 + j - 1) 0 then cmpIn k0 m (cs.set k (cs.getD (k0 + j) 0)) (k + 1) (j + 1) else cmpIn k0 m cs k (j + 1)
def cmpOut (n : Nat) : Nat → List Int → Nat → List AV × Nat
  | 0, cs, k => (cK cs, n)
  | m + 1, cs, k => if cs.getD k 0 = cs.getD (k - 1) 0 then
      (splice (cK (cmpIn k m cs k 1).1) (cmpIn k m cs k 1).2 (zeros [.int .i64 0] (n - (cmpIn k m cs k 1).2)), (cmpIn k m cs k 1).2) else cmpOut n m cs (k + 1)
theorem cmpIn_le (k0 : Nat) : ∀ (m : Nat) (cs : List Int) (k j : Nat), (cmpIn k0 m cs k j).2 ≤ k + m ∧ (cmpIn k0 m cs k j).1.length = cs.length
  | 0, cs, k, j => by simp [cmpIn]
  | m + 1, cs, k, j => by
    simp only [cmpIn]
    split
    · have := cmpIn_le k0 m (cs.set k (cs.getD (k0 + j) 0)) (k + 1) (j + 1)
      simp only [List.length_set] at this
      exact ⟨by omega, this.2⟩
    · have := cmpIn_le k0 m cs k (j + 1)
      exact ⟨by omega, this.2⟩
/-- Nothing is left out only where no neighbours are equal. -/
theorem cmpOut_len (n : Nat) : ∀ (m : Nat) (cs : List Int) (k : Nat), k + m = n → ((cmpOut n m cs k).2 = n ↔ ∀ i, k ≤ i → i < n → cs.getD i 0 ≠ cs.getD (i - 1) 0)
  | 0, cs, k, h => by
    simp only [cmpOut, true_iff]
    intro i h1 h2
    omega
  | m + 1, cs, k, h => by
    simp only [cmpOut]
    split
    · rename_i he
      have := (cmpIn_le k m cs k 1).1
      constructor
      · intro h2; simp only at h2; omega
      · intro h2; exact absurd he (h2 k (Nat.le_refl _) (by omega))
    · rename_i he
      rw [cmpOut_len n m cs (k + 1) (by omega)]
      constructor
      · intro h2 i h3 h4
        rcases Nat.eq_or_lt_of_le h3 with rfl | h5
        · exact he
        · exact h2 i h5 h4
      · intro h2 i h3 h4; exact h2 i (by omega) h4
theorem cK_get {cs : List Int} {i : Nat} (h : i < cs.length) : ((cK cs).drop i).head? = some (.int .i64 (cs.getD i 0)) := by
  rw [List.head?_drop, cK, List.getElem?_map, List.getD_eq_getElem?_getD]
  rw [List.getElem?_eq_getElem h]; rfl
theorem cK_len (cs : List Int) : (cK cs).length = cs.length := by simp [cK]
theorem cK_set {cs : List Int} {i : Nat} (h : i < cs.length) (v : Int) : List.take i (cK cs) ++ [AV.int .i64 v] ++ List.drop (i + 1) (cK cs) = cK (cs.set i v) := by
  rw [List.set_eq_take_append_cons_drop, if_pos h, cK, cK, List.map_append, List.map_cons, List.map_take, List.map_drop]
  simp

theorem inL_take {p : Nat → Bool} : ∀ (n : Nat) {l : List AV}, inL p l = true → inL p (l.take n) = true
  | 0, _, _ => by simp [inL]
  | _ + 1, [], _ => by simp [inL]
  | n + 1, x :: l, h => by
    simp only [inL, Bool.and_eq_true, List.take_succ_cons] at h ⊢
    exact ⟨h.1, inL_take n h.2⟩
theorem inL_drop {p : Nat → Bool} : ∀ (n : Nat) {l : List AV}, inL p l = true → inL p (l.drop n) = true
  | 0, _, h => by simpa using h
  | _ + 1, [], _ => by simp [inL]
  | n + 1, x :: l, h => by
    simp only [inL, Bool.and_eq_true, List.drop_succ_cons] at h ⊢
    exact inL_drop n h.2
theorem tree_zeros : ∀ (n : Nat), inL noRef (zeros [.int .i64 0] n) = true
  | 0 => rfl
  | n + 1 => by
    have := tree_zeros n
    simp only [zeros, List.replicate_succ, List.flatten_cons] at this ⊢
    exact inL_append rfl this
theorem cmp_end {s : AS} {t : Nat} {R : List AV × Nat} {rows : Nat → ARow} (hv : s.get t = .osl 3 0 0 R.2 1 false) (hr : s.row 3 = .cells 0 R.1) (ht : inL noRef R.1 = true) :
    (s.get t = (Eff.mk (.osl 3 0 0 R.2 1 false) [(3, .cells 0 R.1)]).val ∨ wk (s.get t) = (Eff.mk (.osl 3 0 0 R.2 1 false) [(3, .cells 0 R.1)]).val) ∧ inR (fun r => [3].contains r) (s.get t) = true ∧ ∀ r ∈ [3], s.row r = upd rows (Eff.mk (.osl 3 0 0 R.2 1 false) [(3, .cells 0 R.1)]).wr r ∧ rowIn (fun r => [3].contains r) (s.row r) = true := by
  refine ⟨.inl hv, by rw [hv]; rfl, ?_⟩
  intro r hr'
  simp only [List.mem_singleton] at hr'
  subst hr'
  rw [hr]
  exact ⟨by simp [upd], inL_mono (p := noRef) (fun r hr => by cases hr) ht⟩

theorem compact_26 (cs : List Int) (rows : Nat → ARow) (h3 : rows 3 = .cells 0 (cK cs)) (hl : cs.length < 1099511627776) (h1 : 1 ≤ cs.length) : CallC Try.prog G0 26 [.osl 3 0 0 cs.length 1 false] rows [3] ⟨.osl 3 0 0 (cmpOut cs.length (cs.length - 1) cs 1).2 1 false, [(3, .cells 0 (cmpOut cs.length (cs.length - 1) cs 1).1)]⟩ := by
  refine callC_of_body [.dead, .dead, .dead, .cells 0 (cK cs)] hG0 Try.func26 rfl (by kernel_rfl) (by simp [Try.ntmps26]) ?_ ?_ (by simp [inL, inR]) ?_ (by simp) (by simp) ?_
  · simp [h3]
  · intro r hr
    simp only [List.mem_singleton] at hr
    match r, hr with
    | 0, _ => rfl
    | 1, _ => rfl
    | 2, _ => rfl
    | r + 4, _ => simp
  · simp only [List.mem_singleton, forall_eq, h3, rowIn]
    exact inL_mono (p := noRef) (fun r hr => by cases hr) (tree_cK _)
  simp only [Try.ntmps26, enterF, Nat.reduceAdd, List.length_cons, List.length_nil]
  generalize hR : cmpOut cs.length (cs.length - 1) cs 1 = R
  generalize hn : cs.length = n at *
  have hcl : ∀ m cs' k j, cs'.length = n → (cmpIn k m cs' k j).1.length = n := fun m cs' k j h => (cmpIn_le k m cs' k j).2.trans h
  repeat' (first | (refine awp_seq_k fun _ _ => ?_) | (refine awp_block ?_) | ((first | (refine awp_rgn ?_) | (refine awp_any (by kernel_rfl) (by kernel_rfl) ?_) | (refine awp_cond_k fun _ _ _ _ => ?_)) <;> simp only [amS, amL, tyS, amB, Nat.reduceLT, Nat.reduceEqDiff, Nat.reduceAdd, Nat.reduceMul, Nat.reduceSub, Nat.reduceLeDiff, reduceCtorEq]) | (refine guard_split (fun hg => ?_) (fun hg => ?_) <;> simp only [hg, amS, amL, tyS, amB, Nat.reduceLT, Nat.reduceEqDiff, Nat.reduceAdd, Nat.reduceMul, Nat.reduceSub, Nat.reduceLeDiff, reduceCtorEq]) | (refine awp_skip ?_; simp only [amS]) | (refine awp_exit ?_; simp only [amS, if_true, if_false, Nat.reduceEqDiff]) | (refine awp_ret ?_; try simp only [amS]) | (refine Cont.go (by assumption) ?_) | (refine Arm.go (by assumption) ?_))
  refine ⟨fun h => ?_, fun h => ?_⟩
  · repeat' (first | (refine awp_seq_k fun _ _ => ?_) | (refine awp_block ?_) | ((first | (refine awp_rgn ?_) | (refine awp_any (by kernel_rfl) (by kernel_rfl) ?_) | (refine awp_cond_k fun _ _ _ _ => ?_)) <;> simp only [amS, amL, tyS, amB, Nat.reduceLT, Nat.reduceEqDiff, Nat.reduceAdd, Nat.reduceMul, Nat.reduceSub, Nat.reduceLeDiff, reduceCtorEq]) | (refine guard_split (fun hg => ?_) (fun hg => ?_) <;> simp only [hg, amS, amL, tyS, amB, Nat.reduceLT, Nat.reduceEqDiff, Nat.reduceAdd, Nat.reduceMul, Nat.reduceSub, Nat.reduceLeDiff, reduceCtorEq]) | (refine awp_skip ?_; simp only [amS]) | (refine awp_exit ?_; simp only [amS, if_true, if_false, Nat.reduceEqDiff]) | (refine awp_ret ?_; try simp only [amS]) | (refine Cont.go (by assumption) ?_) | (refine Arm.go (by assumption) ?_))
    refine body_ret1 rfl ?_
    have hn1 : n = 1 := by simp at h; omega
    subst hn1
    simp only [Nat.sub_self, cmpOut] at hR
    subst hR
    refine cmp_end (R := (cK cs, 1)) ?_ ?_ (tree_cK _)
    · simp only [amS, amL, tyS, amB, Nat.reduceLT, Nat.reduceEqDiff, Nat.reduceAdd, Nat.reduceMul, Nat.reduceSub, Nat.reduceLeDiff, reduceCtorEq]
    · simp only [amS, amL, tyS, amB, Nat.reduceLT, Nat.reduceEqDiff, Nat.reduceAdd, Nat.reduceMul, Nat.reduceSub, Nat.reduceLeDiff, reduceCtorEq]
  · repeat' (first | (refine awp_seq_k fun _ _ => ?_) | (refine awp_block ?_) | ((first | (refine awp_rgn ?_) | (refine awp_any (by kernel_rfl) (by kernel_rfl) ?_) | (refine awp_cond_k fun _ _ _ _ => ?_)) <;> simp only [amS, amL, tyS, amB, Nat.reduceLT, Nat.reduceEqDiff, Nat.reduceAdd, Nat.reduceMul, Nat.reduceSub, Nat.reduceLeDiff, reduceCtorEq]) | (refine guard_split (fun hg => ?_) (fun hg => ?_) <;> simp only [hg, amS, amL, tyS, amB, Nat.reduceLT, Nat.reduceEqDiff, Nat.reduceAdd, Nat.reduceMul, Nat.reduceSub, Nat.reduceLeDiff, reduceCtorEq]) | (refine awp_skip ?_; simp only [amS]) | (refine awp_exit ?_; simp only [amS, if_true, if_false, Nat.reduceEqDiff]) | (refine awp_ret ?_; try simp only [amS]) | (refine Cont.go (by assumption) ?_) | (refine Arm.go (by assumption) ?_))
    have hn2 : 2 ≤ n := by simp at h; omega
    refine awp_loop_k (α := {k : Nat // 1 ≤ k ∧ k ≤ n ∧ cmpOut n (n - k) cs k = R}) (fun k => [(0, .osl 3 0 0 n 1 false), (3, .int .i64 k.1)]) (fun _ => [.dead, .dead, .dead, .cells 0 (cK cs)]) (fun k => n - k.1) ⟨1, by omega, by omega, hR⟩ ⟨?_, .inl ?_⟩ ?_
    · simp only [amS, amL, tyS, amB, Nat.reduceLT, Nat.reduceEqDiff, Nat.reduceAdd, Nat.reduceMul, Nat.reduceSub, Nat.reduceLeDiff, reduceCtorEq] <;> rfl
    · simp only [amS, amL, tyS, amB, Nat.reduceLT, Nat.reduceEqDiff, Nat.reduceAdd, Nat.reduceMul, Nat.reduceSub, Nat.reduceLeDiff, reduceCtorEq]
    · rintro ⟨k, hk1, hkn, hkR⟩ K2 hK2
      repeat' (first | (refine awp_seq_k fun _ _ => ?_) | (refine awp_block ?_) | ((first | (refine awp_rgn ?_) | (refine awp_any (by kernel_rfl) (by kernel_rfl) ?_) | (refine awp_cond_k fun _ _ _ _ => ?_)) <;> simp only [amS, amL, tyS, amB, Nat.reduceLT, Nat.reduceEqDiff, Nat.reduceAdd, Nat.reduceMul, Nat.reduceSub, Nat.reduceLeDiff, reduceCtorEq]) | (refine guard_split (fun hg => ?_) (fun hg => ?_) <;> simp only [hg, amS, amL, tyS, amB, Nat.reduceLT, Nat.reduceEqDiff, Nat.reduceAdd, Nat.reduceMul, Nat.reduceSub, Nat.reduceLeDiff, reduceCtorEq]) | (refine awp_skip ?_; simp only [amS]) | (refine awp_exit ?_; simp only [amS, if_true, if_false, Nat.reduceEqDiff]) | (refine awp_ret ?_; try simp only [amS]) | (refine Cont.go (by assumption) ?_) | (refine Arm.go (by assumption) ?_))
      refine ⟨fun h => ?_, fun h => ?_⟩
      · have hlt : k < n := by simpa using h
        have e1 : IntKind.i64.wrap ((k : Int) - 1) = ((k - 1 : Nat) : Int) := by rw [wrap_id (by omega) (by omega)]; omega
        have hg1 := cK_get (cs := cs) (i := k) (by omega)
        have hg2 := cK_get (cs := cs) (i := k - 1) (by omega)
        have hw := wrap_succ (k := k) hlt (by omega)
        have hlt1 : k - 1 < n := by omega
        obtain ⟨m, hm⟩ : ∃ m, n - k = m + 1 := ⟨n - k - 1, by omega⟩
        rw [hm] at hkR
        simp only [cmpOut] at hkR
        repeat' (first | (refine awp_seq_k fun _ _ => ?_) | (refine awp_block ?_) | ((first | (refine awp_rgn ?_) | (refine awp_any (by kernel_rfl) (by kernel_rfl) ?_) | (refine awp_cond_k fun _ _ _ _ => ?_)) <;> simp only [amS, amL, tyS, amB, Nat.reduceLT, Nat.reduceEqDiff, Nat.reduceAdd, Nat.reduceMul, Nat.reduceSub, Nat.reduceLeDiff, reduceCtorEq, e1, hg1, hg2, hlt, hlt1, Nat.mul_one]) | (refine guard_split (fun hg => ?_) (fun hg => ?_) <;> simp only [hg, amS, amL, tyS, amB, Nat.reduceLT, Nat.reduceEqDiff, Nat.reduceAdd, Nat.reduceMul, Nat.reduceSub, Nat.reduceLeDiff, reduceCtorEq, e1, hg1, hg2, hlt, hlt1, Nat.mul_one]) | (refine awp_skip ?_; simp only [amS]) | (refine awp_exit ?_; simp only [amS, if_true, if_false, Nat.reduceEqDiff]) | (refine awp_ret ?_; try simp only [amS]) | (refine Cont.go (by assumption) ?_) | (refine Arm.go (by assumption) ?_))
        refine ⟨fun h => ?_, fun h => ?_⟩
        · have he : cs.getD k 0 = cs.getD (k - 1) 0 := by simpa using h
          rw [if_pos he] at hkR
          have hm2 : (k : Int) ≤ n := by omega
          have h3k : k < n ∨ k = 0 := .inl hlt
          repeat' (first | (refine awp_seq_k fun _ _ => ?_) | (refine awp_block ?_) | ((first | (refine awp_rgn ?_) | (refine awp_any (by kernel_rfl) (by kernel_rfl) ?_) | (refine awp_cond_k fun _ _ _ _ => ?_)) <;> simp only [amS, amL, tyS, amB, Nat.reduceLT, Nat.reduceEqDiff, Nat.reduceAdd, Nat.reduceMul, Nat.reduceSub, Nat.reduceLeDiff, reduceCtorEq, hkn, h3k, Nat.mul_one, Int.toNat_natCast, Nat.le_refl]) | (refine guard_split (fun hg => ?_) (fun hg => ?_) <;> simp only [hg, amS, amL, tyS, amB, Nat.reduceLT, Nat.reduceEqDiff, Nat.reduceAdd, Nat.reduceMul, Nat.reduceSub, Nat.reduceLeDiff, reduceCtorEq, hkn, h3k, Nat.mul_one, Int.toNat_natCast, Nat.le_refl]) | (refine awp_skip ?_; simp only [amS]) | (refine awp_exit ?_; simp only [amS, if_true, if_false, Nat.reduceEqDiff]) | (refine awp_ret ?_; try simp only [amS]) | (refine Cont.go (by assumption) ?_) | (refine Arm.go (by assumption) ?_))
          have e2 : ((n - k : Nat) : Int) = ((m + 1 : Nat) : Int) := by rw [hm]
          generalize hS : cmpIn k m cs k 1 = S at hkR
          refine awp_loop_k (α := {p : Nat × List Int × Nat × Nat // p.2.2.2 + p.1 = m + 1 ∧ 1 ≤ p.2.2.2 ∧ p.2.1.length = n ∧ k ≤ p.2.2.1 ∧ p.2.2.1 + 1 ≤ k + p.2.2.2 ∧ cmpIn k p.1 p.2.1 p.2.2.1 p.2.2.2 = S}) (fun p => [(0, .osl 3 0 0 n 1 false), (3, .int .i64 p.1.2.2.1), (4, .osl 3 0 k (m + 1) 1 false), (5, .int .i64 p.1.2.2.2)]) (fun p => [.dead, .dead, .dead, .cells 0 (cK p.1.2.1)]) (fun p => m + 1 - p.1.2.2.2) ⟨(m, cs, k, 1), by simp; omega, by simp, hn, by simp, by simp, hS⟩ ⟨?_, .inl ?_⟩ ?_
          · simp only [amS, amL, tyS, amB, Nat.reduceLT, Nat.reduceEqDiff, Nat.reduceAdd, Nat.reduceMul, Nat.reduceSub, Nat.reduceLeDiff, reduceCtorEq, hm] <;> rfl
          · simp only [amS, amL, tyS, amB, Nat.reduceLT, Nat.reduceEqDiff, Nat.reduceAdd, Nat.reduceMul, Nat.reduceSub, Nat.reduceLeDiff, reduceCtorEq]
          · rintro ⟨⟨q, ds, k1, j⟩, hj1, hj2, hds, hkk, hkj, hq⟩ K3 hK3
            simp only at hj1 hj2 hds hkk hkj hq
            repeat' (first | (refine awp_seq_k fun _ _ => ?_) | (refine awp_block ?_) | ((first | (refine awp_rgn ?_) | (refine awp_any (by kernel_rfl) (by kernel_rfl) ?_) | (refine awp_cond_k fun _ _ _ _ => ?_)) <;> simp only [amS, amL, tyS, amB, Nat.reduceLT, Nat.reduceEqDiff, Nat.reduceAdd, Nat.reduceMul, Nat.reduceSub, Nat.reduceLeDiff, reduceCtorEq]) | (refine guard_split (fun hg => ?_) (fun hg => ?_) <;> simp only [hg, amS, amL, tyS, amB, Nat.reduceLT, Nat.reduceEqDiff, Nat.reduceAdd, Nat.reduceMul, Nat.reduceSub, Nat.reduceLeDiff, reduceCtorEq]) | (refine awp_skip ?_; simp only [amS]) | (refine awp_exit ?_; simp only [amS, if_true, if_false, Nat.reduceEqDiff]) | (refine awp_ret ?_; try simp only [amS]) | (refine Cont.go (by assumption) ?_) | (refine Arm.go (by assumption) ?_))
            refine ⟨fun h2 => ?_, fun h2 => ?_⟩
            · have hjl : j < m + 1 := by simp at h2; omega
              have hw2 := wrap_succ (k := j) hjl (by omega)
              have hw3 := wrap_succ (k := k1) (m := n) (by omega) (by omega)
              have f1 : IntKind.i64.wrap ((j : Int) - 1) = ((j - 1 : Nat) : Int) := by rw [wrap_id (by omega) (by omega)]; omega
              have f2 := cK_get (cs := ds) (i := k + j) (by omega)
              have f3 := cK_get (cs := ds) (i := k + (j - 1)) (by omega)
              have f4 : j - 1 < m + 1 := by omega
              have f5 : k1 < n := by omega
              have f6 : k1 + 1 ≤ (cK ds).length := by rw [cK_len]; omega
              have f7 := cK_set (cs := ds) (i := k1) (by omega) (ds.getD (k + j) 0)
              have f8 : k + (j - 1) = k + j - 1 := by omega
              obtain ⟨q, rfl⟩ : ∃ q', q = q' + 1 := ⟨q - 1, by omega⟩
              simp only [cmpIn] at hq
              rw [f8] at f3
              repeat' (first | (refine awp_seq_k fun _ _ => ?_) | (refine awp_block ?_) | ((first | (refine awp_rgn ?_) | (refine awp_any (by kernel_rfl) (by kernel_rfl) ?_) | (refine awp_cond_k fun _ _ _ _ => ?_)) <;> simp only [amS, amL, tyS, amB, Nat.reduceLT, Nat.reduceEqDiff, Nat.reduceAdd, Nat.reduceMul, Nat.reduceSub, Nat.reduceLeDiff, reduceCtorEq, f1, f2, f3, f4, f5, f6, f7, f8, hjl, Nat.mul_one]) | (refine guard_split (fun hg => ?_) (fun hg => ?_) <;> simp only [hg, amS, amL, tyS, amB, Nat.reduceLT, Nat.reduceEqDiff, Nat.reduceAdd, Nat.reduceMul, Nat.reduceSub, Nat.reduceLeDiff, reduceCtorEq, f1, f2, f3, f4, f5, f6, f7, f8, hjl, Nat.mul_one]) | (refine awp_skip ?_; simp only [amS]) | (refine awp_exit ?_; simp only [amS, if_true, if_false, Nat.reduceEqDiff]) | (refine awp_ret ?_; try simp only [amS]) | (refine Cont.go (by assumption) ?_) | (refine Arm.go (by assumption) ?_))
              refine ⟨fun h4 => ?_, fun h4 => ?_⟩
              · have hne : ds.getD (k + j) 0 ≠ ds.getD (k + j - 1) 0 := by simpa using h4
                rw [if_pos hne] at hq
                repeat' (first | (refine awp_seq_k fun _ _ => ?_) | (refine awp_block ?_) | ((first | (refine awp_rgn ?_) | (refine awp_any (by kernel_rfl) (by kernel_rfl) ?_) | (refine awp_cond_k fun _ _ _ _ => ?_)) <;> simp only [amS, amL, tyS, amB, Nat.reduceLT, Nat.reduceEqDiff, Nat.reduceAdd, Nat.reduceMul, Nat.reduceSub, Nat.reduceLeDiff, reduceCtorEq, f1, f2, f3, f4, f5, f6, f7, f8, hjl, Nat.mul_one, hw2, hw3]) | (refine guard_split (fun hg => ?_) (fun hg => ?_) <;> simp only [hg, amS, amL, tyS, amB, Nat.reduceLT, Nat.reduceEqDiff, Nat.reduceAdd, Nat.reduceMul, Nat.reduceSub, Nat.reduceLeDiff, reduceCtorEq, f1, f2, f3, f4, f5, f6, f7, f8, hjl, Nat.mul_one, hw2, hw3]) | (refine awp_skip ?_; simp only [amS]) | (refine awp_exit ?_; simp only [amS, if_true, if_false, Nat.reduceEqDiff]) | (refine awp_ret ?_; try simp only [amS]) | (refine Cont.go (by assumption) ?_) | (refine Arm.go (by assumption) ?_))
                refine Again.go hK3 ⟨(q, ds.set k1 (ds.getD (k + j) 0), k1 + 1, j + 1), by simp; omega, by simp, by simp [hds], by simp; omega, by simp; omega, hq⟩ ⟨?_, .inl ?_⟩ (by simp; omega)
                · simp only [amS, amL, tyS, amB, Nat.reduceLT, Nat.reduceEqDiff, Nat.reduceAdd, Nat.reduceMul, Nat.reduceSub, Nat.reduceLeDiff, reduceCtorEq]
                · simp only [amS, amL, tyS, amB, Nat.reduceLT, Nat.reduceEqDiff, Nat.reduceAdd, Nat.reduceMul, Nat.reduceSub, Nat.reduceLeDiff, reduceCtorEq]
              · have hne : ¬ ds.getD (k + j) 0 ≠ ds.getD (k + j - 1) 0 := by simpa using h4
                rw [if_neg hne] at hq
                repeat' (first | (refine awp_seq_k fun _ _ => ?_) | (refine awp_block ?_) | ((first | (refine awp_rgn ?_) | (refine awp_any (by kernel_rfl) (by kernel_rfl) ?_) | (refine awp_cond_k fun _ _ _ _ => ?_)) <;> simp only [amS, amL, tyS, amB, Nat.reduceLT, Nat.reduceEqDiff, Nat.reduceAdd, Nat.reduceMul, Nat.reduceSub, Nat.reduceLeDiff, reduceCtorEq, hw2]) | (refine guard_split (fun hg => ?_) (fun hg => ?_) <;> simp only [hg, amS, amL, tyS, amB, Nat.reduceLT, Nat.reduceEqDiff, Nat.reduceAdd, Nat.reduceMul, Nat.reduceSub, Nat.reduceLeDiff, reduceCtorEq, hw2]) | (refine awp_skip ?_; simp only [amS]) | (refine awp_exit ?_; simp only [amS, if_true, if_false, Nat.reduceEqDiff]) | (refine awp_ret ?_; try simp only [amS]) | (refine Cont.go (by assumption) ?_) | (refine Arm.go (by assumption) ?_))
                refine Again.go hK3 ⟨(q, ds, k1, j + 1), by simp; omega, by simp, hds, hkk, by simp; omega, hq⟩ ⟨?_, .inl ?_⟩ (by simp; omega)
                · simp only [amS, amL, tyS, amB, Nat.reduceLT, Nat.reduceEqDiff, Nat.reduceAdd, Nat.reduceMul, Nat.reduceSub, Nat.reduceLeDiff, reduceCtorEq]
                · simp only [amS, amL, tyS, amB, Nat.reduceLT, Nat.reduceEqDiff, Nat.reduceAdd, Nat.reduceMul, Nat.reduceSub, Nat.reduceLeDiff, reduceCtorEq]
            · have hjm : j = m + 1 := by simp at h2; omega
              have hq0 : q = 0 := by omega
              subst hjm hq0
              simp only [cmpIn] at hq
              subst hq
              have hkn1 : k1 < n := by omega
              have hkn1' : k1 ≤ n := by omega
              have hor : k1 < n ∨ k1 = 0 := .inl hkn1
              have g1 : k1 + (n - k1) ≤ (cK ds).length := by rw [cK_len]; omega
              have g2 : ¬ n - k1 = 0 := by omega
              repeat' (first | (refine awp_seq_k fun _ _ => ?_) | (refine awp_block ?_) | ((first | (refine awp_rgn ?_) | (refine awp_any (by kernel_rfl) (by kernel_rfl) ?_) | (refine awp_cond_k fun _ _ _ _ => ?_)) <;> simp only [amS, amL, tyS, amB, Nat.reduceLT, Nat.reduceEqDiff, Nat.reduceAdd, Nat.reduceMul, Nat.reduceSub, Nat.reduceLeDiff, reduceCtorEq, hkn1, hkn1', hor, Nat.mul_one, Int.toNat_natCast, Nat.le_refl, g1, g2]) | (refine guard_split (fun hg => ?_) (fun hg => ?_) <;> simp only [hg, amS, amL, tyS, amB, Nat.reduceLT, Nat.reduceEqDiff, Nat.reduceAdd, Nat.reduceMul, Nat.reduceSub, Nat.reduceLeDiff, reduceCtorEq, hkn1, hkn1', hor, Nat.mul_one, Int.toNat_natCast, Nat.le_refl, g1, g2]) | (refine awp_skip ?_; simp only [amS]) | (refine awp_exit ?_; simp only [amS, if_true, if_false, Nat.reduceEqDiff]) | (refine awp_ret ?_; try simp only [amS]) | (refine Cont.go (by assumption) ?_) | (refine Arm.go (by assumption) ?_))
              refine body_ret1 rfl ?_
              rw [← hkR]
              refine cmp_end (R := (_, _)) ?_ ?_ ?_
              · simp only [amS, amL, tyS, amB, Nat.reduceLT, Nat.reduceEqDiff, Nat.reduceAdd, Nat.reduceMul, Nat.reduceSub, Nat.reduceLeDiff, reduceCtorEq, or_true]
              · simp only [amS, amL, tyS, amB, Nat.reduceLT, Nat.reduceEqDiff, Nat.reduceAdd, Nat.reduceMul, Nat.reduceSub, Nat.reduceLeDiff, reduceCtorEq, splice, zeros]
              · simp only [splice]
                exact inL_append (inL_append (inL_take _ (tree_cK _)) (tree_zeros _)) (inL_drop _ (tree_cK _))
        · have he : ¬ cs.getD k 0 = cs.getD (k - 1) 0 := by simpa using h
          rw [if_neg he] at hkR
          repeat' (first | (refine awp_seq_k fun _ _ => ?_) | (refine awp_block ?_) | ((first | (refine awp_rgn ?_) | (refine awp_any (by kernel_rfl) (by kernel_rfl) ?_) | (refine awp_cond_k fun _ _ _ _ => ?_)) <;> simp only [amS, amL, tyS, amB, Nat.reduceLT, Nat.reduceEqDiff, Nat.reduceAdd, Nat.reduceMul, Nat.reduceSub, Nat.reduceLeDiff, reduceCtorEq, hw]) | (refine guard_split (fun hg => ?_) (fun hg => ?_) <;> simp only [hg, amS, amL, tyS, amB, Nat.reduceLT, Nat.reduceEqDiff, Nat.reduceAdd, Nat.reduceMul, Nat.reduceSub, Nat.reduceLeDiff, reduceCtorEq, hw]) | (refine awp_skip ?_; simp only [amS]) | (refine awp_exit ?_; simp only [amS, if_true, if_false, Nat.reduceEqDiff]) | (refine awp_ret ?_; try simp only [amS]) | (refine Cont.go (by assumption) ?_) | (refine Arm.go (by assumption) ?_))
          refine Again.go hK2 ⟨k + 1, by omega, hlt, by rw [← hkR]; congr 1; omega⟩ ⟨?_, .inl ?_⟩ (by simp; omega)
          · simp only [amS, amL, tyS, amB, Nat.reduceLT, Nat.reduceEqDiff, Nat.reduceAdd, Nat.reduceMul, Nat.reduceSub, Nat.reduceLeDiff, reduceCtorEq]
          · simp only [amS, amL, tyS, amB, Nat.reduceLT, Nat.reduceEqDiff, Nat.reduceAdd, Nat.reduceMul, Nat.reduceSub, Nat.reduceLeDiff, reduceCtorEq]
      · have hkn2 : k = n := by simp at h; omega
        subst hkn2
        simp only [Nat.sub_self, cmpOut] at hkR
        subst hkR
        repeat' (first | (refine awp_seq_k fun _ _ => ?_) | (refine awp_block ?_) | ((first | (refine awp_rgn ?_) | (refine awp_any (by kernel_rfl) (by kernel_rfl) ?_) | (refine awp_cond_k fun _ _ _ _ => ?_)) <;> simp only [amS, amL, tyS, amB, Nat.reduceLT, Nat.reduceEqDiff, Nat.reduceAdd, Nat.reduceMul, Nat.reduceSub, Nat.reduceLeDiff, reduceCtorEq]) | (refine guard_split (fun hg => ?_) (fun hg => ?_) <;> simp only [hg, amS, amL, tyS, amB, Nat.reduceLT, Nat.reduceEqDiff, Nat.reduceAdd, Nat.reduceMul, Nat.reduceSub, Nat.reduceLeDiff, reduceCtorEq]) | (refine awp_skip ?_; simp only [amS]) | (refine awp_exit ?_; simp only [amS, if_true, if_false, Nat.reduceEqDiff]) | (refine awp_ret ?_; try simp only [amS]) | (refine Cont.go (by assumption) ?_) | (refine Arm.go (by assumption) ?_))
        refine body_ret1 rfl ?_
        refine cmp_end (R := (cK cs, k)) ?_ ?_ (tree_cK _)
        · simp only [amS, amL, tyS, amB, Nat.reduceLT, Nat.reduceEqDiff, Nat.reduceAdd, Nat.reduceMul, Nat.reduceSub, Nat.reduceLeDiff, reduceCtorEq]
        · simp only [amS, amL, tyS, amB, Nat.reduceLT, Nat.reduceEqDiff, Nat.reduceAdd, Nat.reduceMul, Nat.reduceSub, Nat.reduceLeDiff, reduceCtorEq]

end Go.Proofs.Ytgenkkejlggmnaa
