import Derived.Test.YtgenkkejlggmnaaB21
set_option linter.unusedVariables false
set_option linter.unusedSimpArgs false
namespace Go.Proofs.Ytgenkkejlggmnaa
open Go.AM

def befOf (l : List V) (v : Int) : List Int := match afindI (l.map (·.id)) v 0 with | some j => l[j]?.elim [] (·.before) | none => []
def dfsL (f : Int → List Int → Option (List Int)) : List Int → List Int → Option (List Int)
  | [], o => some o
  | x :: xs, o => match f x o with | some o' => dfsL f xs o' | none => none
/-- The search into the depth. -/
def dfsV (l : List V) (bad : List Int) : Nat → Int → List Int → Option (List Int)
  | 0, _, _ => none
  | n + 1, v, out => if hasL out v = true then some out else if hasL bad v = true then dfsL (dfsV l bad n) (befOf l v) (out ++ [v]) else some (out ++ [v])
theorem dfsL_len {f : Int → List Int → Option (List Int)} (hf : ∀ x o o', f x o = some o' → o.length ≤ o'.length) : ∀ (xs o o' : List Int), dfsL f xs o = some o' → o.length ≤ o'.length
  | [], o, o', h => by simp only [dfsL, Option.some.injEq] at h; rw [h]; exact Nat.le_refl _
  | x :: xs, o, o', h => by
    simp only [dfsL] at h
    cases hx : f x o with
    | none => rw [hx] at h; cases h
    | some o1 => rw [hx] at h; exact Nat.le_trans (hf _ _ _ hx) (dfsL_len hf xs o1 o' h)
theorem dfsV_len (l : List V) (bad : List Int) : ∀ (n : Nat) (v : Int) (o o' : List Int), dfsV l bad n v o = some o' → o.length ≤ o'.length
  | 0, _, _, _, h => by cases h
  | n + 1, v, o, o', h => by
    simp only [dfsV] at h
    split at h
    · injection h with h; rw [h]; exact Nat.le_refl _
    · split at h
      · have := dfsL_len (dfsV_len l bad n) _ _ _ h
        simp at this; omega
      · injection h with h; rw [← h]; simp

def cE (l : List V) : List AV := l.map fun v => encI v.before
theorem tree_cE : ∀ (l : List V), inL noRef (cE l) = true
  | [] => rfl
  | v :: l => by
    have := tree_cE l
    simp only [cE, List.map_cons, inL, tree_encI, Bool.true_and] at this ⊢
    exact this
theorem cK_one (v : Int) : cK [v] = [.int .i64 v] := rfl
def capsL : List AV := [.ptr 3 0 0, .ptr 0 0 0, .ptr 2 0 0, .ptr 4 0 0]
def H6 (l : List V) (bad out : List Int) : List ARow := [.cells 0 [encI bad], .map (cK (l.map (·.id))) (cE l), .cells 0 [.omp 1], .cells 0 [.osl 5 (out.length - 1) 0 out.length 1 false], .cells 0 [.fn (.func 37) [] [.ptr 3 0 0, .ptr 0 0 0, .ptr 2 0 0, .ptr 4 0 0]], .cells (out.length - 1) (cK out)]
def H5 (l : List V) (bad : List Int) : List ARow := [.cells 0 [encI bad], .map (cK (l.map (·.id))) (cE l), .cells 0 [.omp 1], .cells 0 [.sl true []], .cells 0 [.fn (.func 37) [] [.ptr 3 0 0, .ptr 0 0 0, .ptr 2 0 0, .ptr 4 0 0]]]
def LookC (l : List V) (bad : List Int) (v : Int) (H : List ARow) (out' : List Int) : Prop := ∀ rows : Nat → ARow, (∀ r, r ≤ 5 → rows r = H.getD r .none) →
  CallC Try.prog G0 37 [.int .i64 v, .ptr 3 0 0, .ptr 0 0 0, .ptr 2 0 0, .ptr 4 0 0] rows [0, 1, 2, 3, 4, 5] ⟨.tup [], [(3, .cells 0 [.osl 5 (out'.length - 1) 0 out'.length 1 false]), (5, .cells (out'.length - 1) (cK out'))]⟩

theorem look_end {l : List V} {bad out' : List Int} {rows : Nat → ARow} {s : AS} (h0 : rows 0 = .cells 0 [encI bad]) (h1 : rows 1 = .map (cK (l.map (·.id))) (cE l)) (h2 : rows 2 = .cells 0 [.omp 1])
    (h4 : rows 4 = .cells 0 [.fn (.func 37) [] [.ptr 3 0 0, .ptr 0 0 0, .ptr 2 0 0, .ptr 4 0 0]]) (hs : ∀ r, r ≤ 5 → s.row r = (H6 l bad out').getD r .none) :
    (AV.tup [] = (Eff.mk (.tup []) [(3, .cells 0 [.osl 5 (out'.length - 1) 0 out'.length 1 false]), (5, .cells (out'.length - 1) (cK out'))]).val ∨ wk (.tup []) = (Eff.mk (.tup []) [(3, .cells 0 [.osl 5 (out'.length - 1) 0 out'.length 1 false]), (5, .cells (out'.length - 1) (cK out'))]).val) ∧
    inR (fun r => [0, 1, 2, 3, 4, 5].contains r) (.tup []) = true ∧ ∀ r ∈ [0, 1, 2, 3, 4, 5], s.row r = upd rows (Eff.mk (.tup []) [(3, .cells 0 [.osl 5 (out'.length - 1) 0 out'.length 1 false]), (5, .cells (out'.length - 1) (cK out'))]).wr r ∧ rowIn (fun r => [0, 1, 2, 3, 4, 5].contains r) (s.row r) = true := by
  refine ⟨.inl rfl, rfl, ?_⟩
  intro r hr
  simp only [List.mem_cons, List.not_mem_nil, or_false] at hr
  rcases hr with rfl | rfl | rfl | rfl | rfl | rfl <;> rw [hs _ (by omega)]
  · exact ⟨h0.symm, inL_mono (p := noRef) (fun r hr => by cases hr) (show inL noRef [encI bad] = true by simp only [inL, tree_encI, Bool.and_self])⟩
  · refine ⟨h1.symm, ?_⟩
    show (inL _ (cK (l.map (·.id))) && inL _ (cE l)) = true
    rw [inL_mono (p := noRef) (fun r hr => by cases hr) (tree_cK _), inL_mono (p := noRef) (fun r hr => by cases hr) (tree_cE _)]; rfl
  · exact ⟨h2.symm, rfl⟩
  · exact ⟨rfl, rfl⟩
  · exact ⟨h4.symm, rfl⟩
  · exact ⟨rfl, inL_mono (p := noRef) (fun r hr => by cases hr) (tree_cK _)⟩

theorem look_6 (l : List V) (bad : List Int) (hbad : Small bad.length) (hbl : ∀ v ∈ l, v.before.length ≤ 1000) (hids : ∀ v ∈ l, ∀ b ∈ v.before, hasL (l.map (·.id)) b = true) (n : Nat) (ih : ∀ v out out', dfsV l bad n v out = some out' → out ≠ [] → hasL (l.map (·.id)) v = true → out'.length ≤ 1000000 → LookC l bad v (H6 l bad out) out')
    (v : Int) (out out' : List Int) (hd : dfsV l bad (n + 1) v out = some out') (hne : out ≠ []) (hv : hasL (l.map (·.id)) v = true) (hlen : out'.length ≤ 1000000) : LookC l bad v (H6 l bad out) out' := by
  intro rows hrows
  have hpos : 0 < out.length := List.length_pos_iff.2 hne
  have hlo := dfsV_len _ _ _ _ _ _ hd
  have hpl : out.length - 1 + 1 = out.length := by omega
  have r0 : rows 0 = .cells 0 [encI bad] := hrows 0 (by omega)
  have r1 : rows 1 = .map (cK (l.map (·.id))) (cE l) := hrows 1 (by omega)
  have r2 : rows 2 = .cells 0 [.omp 1] := hrows 2 (by omega)
  have r3 : rows 3 = .cells 0 [.osl 5 (out.length - 1) 0 out.length 1 false] := hrows 3 (by omega)
  have r4 : rows 4 = .cells 0 [.fn (.func 37) [] [.ptr 3 0 0, .ptr 0 0 0, .ptr 2 0 0, .ptr 4 0 0]] := hrows 4 (by omega)
  have r5 : rows 5 = .cells (out.length - 1) (cK out) := hrows 5 (by omega)
  refine callC_of_body (H6 l bad out) hG0 Try.func37 rfl (by kernel_rfl) (by simp [Try.ntmps37]) ?_ ?_ (by simp [inL, inR, H6]) ?_ ?_ (by simp) ?_
  · intro r hr
    simp only [List.mem_cons, List.not_mem_nil, or_false] at hr
    rcases hr with rfl | rfl | rfl | rfl | rfl | rfl <;> simp [H6, hrows]
  · intro r hr
    match r, hr with
    | 0, hr => exact absurd (by simp) hr
    | 1, hr => exact absurd (by simp) hr
    | 2, hr => exact absurd (by simp) hr
    | 3, hr => exact absurd (by simp) hr
    | 4, hr => exact absurd (by simp) hr
    | 5, hr => exact absurd (by simp) hr
    | r + 6, _ => simp [H6]
  · intro r hr
    simp only [List.mem_cons, List.not_mem_nil, or_false] at hr
    rcases hr with rfl | rfl | rfl | rfl | rfl | rfl
    · rw [r0]; exact inL_mono (p := noRef) (fun r hr => by cases hr) (by simp only [inL, tree_encI, Bool.and_self])
    · rw [r1]; simp only [rowIn]; rw [inL_mono (p := noRef) (fun r hr => by cases hr) (tree_cK _), inL_mono (p := noRef) (fun r hr => by cases hr) (tree_cE _)]; rfl
    · rw [r2]; rfl
    · rw [r3]; rfl
    · rw [r4]; rfl
    · rw [r5]; exact inL_mono (p := noRef) (fun r hr => by cases hr) (tree_cK _)
  · intro r hr h
    simp only [List.mem_cons, List.not_mem_nil, or_false] at hr
    rcases hr with rfl | rfl | rfl | rfl | rfl | rfl <;> simp [H6, hrows] at h ⊢
  have hl6 : (H6 l bad out).length = 6 := rfl
  simp only [Try.ntmps37, enterF, Nat.reduceAdd, hl6]
  repeat' (first | (refine awp_seq_k fun _ _ => ?_) | (refine awp_block ?_) | ((first | (refine awp_rgn ?_) | (refine awp_any (by kernel_rfl) (by kernel_rfl) ?_) | (refine awp_cond_k fun _ _ _ _ => ?_)) <;> simp only [amS, amL, tyS, amB, Nat.reduceLT, Nat.reduceEqDiff, Nat.reduceAdd, Nat.reduceMul, Nat.reduceSub, Nat.reduceLeDiff, reduceCtorEq, H6]) | (refine guard_split (fun hg => ?_) (fun hg => ?_) <;> simp only [hg, amS, amL, tyS, amB, Nat.reduceLT, Nat.reduceEqDiff, Nat.reduceAdd, Nat.reduceMul, Nat.reduceSub, Nat.reduceLeDiff, reduceCtorEq, H6]) | (refine awp_skip ?_; simp only [amS]) | (refine awp_exit ?_; simp only [amS, if_true, if_false, Nat.reduceEqDiff]) | (refine awp_ret ?_; try simp only [amS]) | (refine Cont.go (by assumption) ?_) | (refine Arm.go (by assumption) ?_))
  refine callR_pure (fp := [5]) hG0 (contains_35 out v (by unfold Small; first | omega | simp)) (.cons ?_ (.cons (.same rfl) .nil)) (.inr rfl) ?_
  · refine .osl (cs := cK out) (by simp) ?_ (cI_len out) (sz1 out) (by rw [List.drop_zero, ← encI_flat, Nat.mul_one, ← cI_flat_len out]; exact List.take_length) (tree_ints out)
    simp only [amS, amL, tyS, amB, Nat.reduceLT, Nat.reduceEqDiff, Nat.reduceAdd, Nat.reduceMul, Nat.reduceSub, Nat.reduceLeDiff, reduceCtorEq, H6, encI]
  simp only [amS, amL, tyS, amB, Nat.reduceLT, Nat.reduceEqDiff, Nat.reduceAdd, Nat.reduceMul, Nat.reduceSub, Nat.reduceLeDiff, reduceCtorEq]
  repeat' (first | (refine awp_seq_k fun _ _ => ?_) | (refine awp_block ?_) | ((first | (refine awp_rgn ?_) | (refine awp_any (by kernel_rfl) (by kernel_rfl) ?_) | (refine awp_cond_k fun _ _ _ _ => ?_)) <;> simp only [amS, amL, tyS, amB, Nat.reduceLT, Nat.reduceEqDiff, Nat.reduceAdd, Nat.reduceMul, Nat.reduceSub, Nat.reduceLeDiff, reduceCtorEq]) | (refine guard_split (fun hg => ?_) (fun hg => ?_) <;> simp only [hg, amS, amL, tyS, amB, Nat.reduceLT, Nat.reduceEqDiff, Nat.reduceAdd, Nat.reduceMul, Nat.reduceSub, Nat.reduceLeDiff, reduceCtorEq]) | (refine awp_skip ?_; simp only [amS]) | (refine awp_exit ?_; simp only [amS, if_true, if_false, Nat.reduceEqDiff]) | (refine awp_ret ?_; try simp only [amS]) | (refine Cont.go (by assumption) ?_) | (refine Arm.go (by assumption) ?_))
  simp only [dfsV] at hd
  refine ⟨fun h => ?_, fun h => ?_⟩
  · rw [if_pos h] at hd
    injection hd with hd
    subst hd
    repeat' (first | (refine awp_seq_k fun _ _ => ?_) | (refine awp_block ?_) | ((first | (refine awp_rgn ?_) | (refine awp_any (by kernel_rfl) (by kernel_rfl) ?_) | (refine awp_cond_k fun _ _ _ _ => ?_)) <;> simp only [amS, amL, tyS, amB, Nat.reduceLT, Nat.reduceEqDiff, Nat.reduceAdd, Nat.reduceMul, Nat.reduceSub, Nat.reduceLeDiff, reduceCtorEq]) | (refine guard_split (fun hg => ?_) (fun hg => ?_) <;> simp only [hg, amS, amL, tyS, amB, Nat.reduceLT, Nat.reduceEqDiff, Nat.reduceAdd, Nat.reduceMul, Nat.reduceSub, Nat.reduceLeDiff, reduceCtorEq]) | (refine awp_skip ?_; simp only [amS]) | (refine awp_exit ?_; simp only [amS, if_true, if_false, Nat.reduceEqDiff]) | (refine awp_ret ?_; try simp only [amS]) | (refine Cont.go (by assumption) ?_) | (refine Arm.go (by assumption) ?_))
    refine body_ret0 rfl ?_
    refine look_end r0 r1 r2 r4 fun r hr => ?_
    match r, hr with
    | 0, _ => simp only [amS, amL, tyS, amB, Nat.reduceLT, Nat.reduceEqDiff, Nat.reduceAdd, Nat.reduceMul, Nat.reduceSub, Nat.reduceLeDiff, reduceCtorEq, H6, encI]
    | 1, _ => simp only [amS, amL, tyS, amB, Nat.reduceLT, Nat.reduceEqDiff, Nat.reduceAdd, Nat.reduceMul, Nat.reduceSub, Nat.reduceLeDiff, reduceCtorEq, H6, encI]
    | 2, _ => simp only [amS, amL, tyS, amB, Nat.reduceLT, Nat.reduceEqDiff, Nat.reduceAdd, Nat.reduceMul, Nat.reduceSub, Nat.reduceLeDiff, reduceCtorEq, H6, encI]
    | 3, _ => simp only [amS, amL, tyS, amB, Nat.reduceLT, Nat.reduceEqDiff, Nat.reduceAdd, Nat.reduceMul, Nat.reduceSub, Nat.reduceLeDiff, reduceCtorEq, H6, encI]
    | 4, _ => simp only [amS, amL, tyS, amB, Nat.reduceLT, Nat.reduceEqDiff, Nat.reduceAdd, Nat.reduceMul, Nat.reduceSub, Nat.reduceLeDiff, reduceCtorEq, H6, encI]
    | 5, _ => simp only [amS, amL, tyS, amB, Nat.reduceLT, Nat.reduceEqDiff, Nat.reduceAdd, Nat.reduceMul, Nat.reduceSub, Nat.reduceLeDiff, reduceCtorEq, H6, encI]
  · rw [if_neg (by rw [h]; simp)] at hd
    repeat' (first | (refine awp_seq_k fun _ _ => ?_) | (refine awp_block ?_) | ((first | (refine awp_rgn ?_) | (refine awp_any (by kernel_rfl) (by kernel_rfl) ?_) | (refine awp_cond_k fun _ _ _ _ => ?_)) <;> simp only [amS, amL, tyS, amB, Nat.reduceLT, Nat.reduceEqDiff, Nat.reduceAdd, Nat.reduceMul, Nat.reduceSub, Nat.reduceLeDiff, reduceCtorEq, H6]) | (refine guard_split (fun hg => ?_) (fun hg => ?_) <;> simp only [hg, amS, amL, tyS, amB, Nat.reduceLT, Nat.reduceEqDiff, Nat.reduceAdd, Nat.reduceMul, Nat.reduceSub, Nat.reduceLeDiff, reduceCtorEq, H6]) | (refine awp_skip ?_; simp only [amS]) | (refine awp_exit ?_; simp only [amS, if_true, if_false, Nat.reduceEqDiff]) | (refine awp_ret ?_; try simp only [amS]) | (refine Cont.go (by assumption) ?_) | (refine Arm.go (by assumption) ?_))
    refine eff_own (sz := 1) (by' := 8) (mm := 1) (new := [.int .i64 v]) (cs := cK out) (by kernel_rfl) (by simp only [amS, amL, tyS, amB, Nat.reduceLT, Nat.reduceEqDiff, Nat.reduceAdd, Nat.reduceMul, Nat.reduceSub, Nat.reduceLeDiff, reduceCtorEq, H6, encI]) (by rw [cK_len, Nat.mul_one]) (by simp [srcA]) (by omega) ?_
    simp only [amS, amL, tyS, amB, Nat.reduceLT, Nat.reduceEqDiff, Nat.reduceAdd, Nat.reduceMul, Nat.reduceSub, Nat.reduceLeDiff, reduceCtorEq, H6, hpl]
    repeat' (first | (refine awp_seq_k fun _ _ => ?_) | (refine awp_block ?_) | ((first | (refine awp_rgn ?_) | (refine awp_any (by kernel_rfl) (by kernel_rfl) ?_) | (refine awp_cond_k fun _ _ _ _ => ?_)) <;> simp only [amS, amL, tyS, amB, Nat.reduceLT, Nat.reduceEqDiff, Nat.reduceAdd, Nat.reduceMul, Nat.reduceSub, Nat.reduceLeDiff, reduceCtorEq]) | (refine guard_split (fun hg => ?_) (fun hg => ?_) <;> simp only [hg, amS, amL, tyS, amB, Nat.reduceLT, Nat.reduceEqDiff, Nat.reduceAdd, Nat.reduceMul, Nat.reduceSub, Nat.reduceLeDiff, reduceCtorEq]) | (refine awp_skip ?_; simp only [amS]) | (refine awp_exit ?_; simp only [amS, if_true, if_false, Nat.reduceEqDiff]) | (refine awp_ret ?_; try simp only [amS]) | (refine Cont.go (by assumption) ?_) | (refine Arm.go (by assumption) ?_))
    refine callR_tree hG0 (contains_35 bad v hbad) ?_
    simp only [amS, amL, tyS, amB, Nat.reduceLT, Nat.reduceEqDiff, Nat.reduceAdd, Nat.reduceMul, Nat.reduceSub, Nat.reduceLeDiff, reduceCtorEq]
    repeat' (first | (refine awp_seq_k fun _ _ => ?_) | (refine awp_block ?_) | ((first | (refine awp_rgn ?_) | (refine awp_any (by kernel_rfl) (by kernel_rfl) ?_) | (refine awp_cond_k fun _ _ _ _ => ?_)) <;> simp only [amS, amL, tyS, amB, Nat.reduceLT, Nat.reduceEqDiff, Nat.reduceAdd, Nat.reduceMul, Nat.reduceSub, Nat.reduceLeDiff, reduceCtorEq]) | (refine guard_split (fun hg => ?_) (fun hg => ?_) <;> simp only [hg, amS, amL, tyS, amB, Nat.reduceLT, Nat.reduceEqDiff, Nat.reduceAdd, Nat.reduceMul, Nat.reduceSub, Nat.reduceLeDiff, reduceCtorEq]) | (refine awp_skip ?_; simp only [amS]) | (refine awp_exit ?_; simp only [amS, if_true, if_false, Nat.reduceEqDiff]) | (refine awp_ret ?_; try simp only [amS]) | (refine Cont.go (by assumption) ?_) | (refine Arm.go (by assumption) ?_))
    refine ⟨fun h2 => ?_, fun h2 => ?_⟩
    · have hb2 : hasL bad v = false := by simpa using h2
      rw [if_neg (by rw [hb2]; simp)] at hd
      injection hd with hd
      subst hd
      repeat' (first | (refine awp_seq_k fun _ _ => ?_) | (refine awp_block ?_) | ((first | (refine awp_rgn ?_) | (refine awp_any (by kernel_rfl) (by kernel_rfl) ?_) | (refine awp_cond_k fun _ _ _ _ => ?_)) <;> simp only [amS, amL, tyS, amB, Nat.reduceLT, Nat.reduceEqDiff, Nat.reduceAdd, Nat.reduceMul, Nat.reduceSub, Nat.reduceLeDiff, reduceCtorEq]) | (refine guard_split (fun hg => ?_) (fun hg => ?_) <;> simp only [hg, amS, amL, tyS, amB, Nat.reduceLT, Nat.reduceEqDiff, Nat.reduceAdd, Nat.reduceMul, Nat.reduceSub, Nat.reduceLeDiff, reduceCtorEq]) | (refine awp_skip ?_; simp only [amS]) | (refine awp_exit ?_; simp only [amS, if_true, if_false, Nat.reduceEqDiff]) | (refine awp_ret ?_; try simp only [amS]) | (refine Cont.go (by assumption) ?_) | (refine Arm.go (by assumption) ?_))
      refine body_ret0 rfl ?_
      refine look_end r0 r1 r2 r4 fun r hr => ?_
      match r, hr with
      | 0, _ => simp only [amS, amL, tyS, amB, Nat.reduceLT, Nat.reduceEqDiff, Nat.reduceAdd, Nat.reduceMul, Nat.reduceSub, Nat.reduceLeDiff, reduceCtorEq, H6, encI, List.length_append, Nat.add_sub_cancel, cK_snoc]
      | 1, _ => simp only [amS, amL, tyS, amB, Nat.reduceLT, Nat.reduceEqDiff, Nat.reduceAdd, Nat.reduceMul, Nat.reduceSub, Nat.reduceLeDiff, reduceCtorEq, H6, encI, List.length_append, Nat.add_sub_cancel, cK_snoc]
      | 2, _ => simp only [amS, amL, tyS, amB, Nat.reduceLT, Nat.reduceEqDiff, Nat.reduceAdd, Nat.reduceMul, Nat.reduceSub, Nat.reduceLeDiff, reduceCtorEq, H6, encI, List.length_append, Nat.add_sub_cancel, cK_snoc]
      | 3, _ => simp only [amS, amL, tyS, amB, Nat.reduceLT, Nat.reduceEqDiff, Nat.reduceAdd, Nat.reduceMul, Nat.reduceSub, Nat.reduceLeDiff, reduceCtorEq, H6, encI, List.length_append, Nat.add_sub_cancel, cK_snoc]
      | 4, _ => simp only [amS, amL, tyS, amB, Nat.reduceLT, Nat.reduceEqDiff, Nat.reduceAdd, Nat.reduceMul, Nat.reduceSub, Nat.reduceLeDiff, reduceCtorEq, H6, encI, List.length_append, Nat.add_sub_cancel, cK_snoc]
      | 5, _ => simp only [amS, amL, tyS, amB, Nat.reduceLT, Nat.reduceEqDiff, Nat.reduceAdd, Nat.reduceMul, Nat.reduceSub, Nat.reduceLeDiff, reduceCtorEq, H6, encI, List.length_append, Nat.add_sub_cancel, cK_snoc]
    · have hb2 : hasL bad v = true := by simpa using h2
      rw [if_pos hb2] at hd
      have hfi := afind_int (l.map (·.id)) v 0
      have hha := afindI_has (l.map (·.id)) v 0
      cases hc : afindI (l.map (·.id)) v 0 with
      | none => rw [hc, hv] at hha; cases hha
      | some j =>
      rw [hc] at hfi
      have hj := afindI_lt _ _ _ _ hc
      rw [List.length_map] at hj
      obtain ⟨w, hw⟩ : ∃ w, l[j]? = some w := ⟨_, List.getElem?_eq_getElem (by omega)⟩
      have hbe : befOf l v = w.before := by simp only [befOf, hc, hw, Option.elim]
      have hge : (cE l)[j]? = some (encI w.before) := by rw [cE, List.getElem?_map, hw]; rfl
      have hwl := hids w (List.mem_of_getElem? hw)
      have hwb := hbl w (List.mem_of_getElem? hw)
      rw [hbe] at hd
      generalize w.before = bs at *
      repeat' (first | (refine awp_seq_k fun _ _ => ?_) | (refine awp_block ?_) | ((first | (refine awp_rgn ?_) | (refine awp_any (by kernel_rfl) (by kernel_rfl) ?_) | (refine awp_cond_k fun _ _ _ _ => ?_)) <;> simp only [amS, amL, tyS, amB, Nat.reduceLT, Nat.reduceEqDiff, Nat.reduceAdd, Nat.reduceMul, Nat.reduceSub, Nat.reduceLeDiff, reduceCtorEq, hfi, hge, encI]) | (refine guard_split (fun hg => ?_) (fun hg => ?_) <;> simp only [hg, amS, amL, tyS, amB, Nat.reduceLT, Nat.reduceEqDiff, Nat.reduceAdd, Nat.reduceMul, Nat.reduceSub, Nat.reduceLeDiff, reduceCtorEq, hfi, hge, encI]) | (refine awp_skip ?_; simp only [amS]) | (refine awp_exit ?_; simp only [amS, if_true, if_false, Nat.reduceEqDiff]) | (refine awp_ret ?_; try simp only [amS]) | (refine Cont.go (by assumption) ?_) | (refine Arm.go (by assumption) ?_))
      refine awp_loop_k (α := {p : Nat × List Int // p.1 ≤ bs.length ∧ 0 < p.2.length ∧ dfsL (dfsV l bad n) (bs.drop p.1) p.2 = some out'}) (fun p => [(1, .ptr 3 0 0), (2, .ptr 0 0 0), (3, .ptr 2 0 0), (4, .ptr 4 0 0), (21, encI bs), (22, .int .i64 bs.length), (23, .int .i64 p.1.1)]) (fun p => H6 l bad p.1.2) (fun p => bs.length - p.1.1) ⟨(0, out ++ [v]), Nat.zero_le _, by simp, hd⟩ ⟨?_, .inl ?_⟩ ?_
      · simp only [amS, amL, tyS, amB, Nat.reduceLT, Nat.reduceEqDiff, Nat.reduceAdd, Nat.reduceMul, Nat.reduceSub, Nat.reduceLeDiff, reduceCtorEq, encI]
        exact rfl
      · simp only [amS, amL, tyS, amB, Nat.reduceLT, Nat.reduceEqDiff, Nat.reduceAdd, Nat.reduceMul, Nat.reduceSub, Nat.reduceLeDiff, reduceCtorEq, H6, encI, List.length_append, Nat.add_sub_cancel, cK_snoc]
      · rintro ⟨⟨k, cur⟩, hk, hcur, hgo⟩ K2 hK2
        simp only at hk hcur hgo
        repeat' (first | (refine awp_seq_k fun _ _ => ?_) | (refine awp_block ?_) | ((first | (refine awp_rgn ?_) | (refine awp_any (by kernel_rfl) (by kernel_rfl) ?_) | (refine awp_cond_k fun _ _ _ _ => ?_)) <;> simp only [amS, amL, tyS, amB, Nat.reduceLT, Nat.reduceEqDiff, Nat.reduceAdd, Nat.reduceMul, Nat.reduceSub, Nat.reduceLeDiff, reduceCtorEq, encI]) | (refine guard_split (fun hg => ?_) (fun hg => ?_) <;> simp only [hg, amS, amL, tyS, amB, Nat.reduceLT, Nat.reduceEqDiff, Nat.reduceAdd, Nat.reduceMul, Nat.reduceSub, Nat.reduceLeDiff, reduceCtorEq, encI]) | (refine awp_skip ?_; simp only [amS]) | (refine awp_ret ?_; try simp only [amS]) | (refine Cont.go (by assumption) ?_) | (refine Arm.go (by assumption) ?_))
        refine ⟨fun h3 => ?_, fun h3 => ?_⟩
        · have hlt : k < bs.length := by simpa using h3
          obtain ⟨x, hx⟩ : ∃ v, bs[k]? = some v := ⟨_, List.getElem?_eq_getElem hlt⟩
          have hw2 := wrap_succ (k := k) hlt (by omega)
          rw [drop_cons hx] at hgo
          simp only [dfsL] at hgo
          cases hdx : dfsV l bad n x cur with
          | none => rw [hdx] at hgo; cases hgo
          | some o1 =>
          rw [hdx] at hgo
          simp only at hgo
          have hol := dfsV_len _ _ _ _ _ _ hdx
          have hol2 := dfsL_len (dfsV_len l bad n) _ _ _ hgo
          have hc := ih x cur o1 hdx (List.length_pos_iff.1 hcur) (hwl x (List.mem_of_getElem? hx)) (by omega)
          repeat' (first | (refine awp_seq_k fun _ _ => ?_) | (refine awp_block ?_) | ((first | (refine awp_rgn ?_) | (refine awp_any (by kernel_rfl) (by kernel_rfl) ?_) | (refine awp_cond_k fun _ _ _ _ => ?_)) <;> simp only [amS, amL, tyS, amB, Nat.reduceLT, Nat.reduceEqDiff, Nat.reduceAdd, Nat.reduceMul, Nat.reduceSub, Nat.reduceLeDiff, reduceCtorEq, hx, encI, H6]) | (refine guard_split (fun hg => ?_) (fun hg => ?_) <;> simp only [hg, amS, amL, tyS, amB, Nat.reduceLT, Nat.reduceEqDiff, Nat.reduceAdd, Nat.reduceMul, Nat.reduceSub, Nat.reduceLeDiff, reduceCtorEq, hx, encI, H6]) | (refine awp_skip ?_; simp only [amS]) | (refine awp_exit ?_; simp only [amS, if_true, if_false, Nat.reduceEqDiff]) | (refine awp_ret ?_; try simp only [amS]) | (refine Cont.go (by assumption) ?_) | (refine Arm.go (by assumption) ?_))
          refine ⟨_, _, hc _ fun r hr => ?_, ?_⟩
          · match r, hr with
            | 0, _ => simp only [amS, amL, tyS, amB, Nat.reduceLT, Nat.reduceEqDiff, Nat.reduceAdd, Nat.reduceMul, Nat.reduceSub, Nat.reduceLeDiff, reduceCtorEq, H6, encI]
            | 1, _ => simp only [amS, amL, tyS, amB, Nat.reduceLT, Nat.reduceEqDiff, Nat.reduceAdd, Nat.reduceMul, Nat.reduceSub, Nat.reduceLeDiff, reduceCtorEq, H6, encI]
            | 2, _ => simp only [amS, amL, tyS, amB, Nat.reduceLT, Nat.reduceEqDiff, Nat.reduceAdd, Nat.reduceMul, Nat.reduceSub, Nat.reduceLeDiff, reduceCtorEq, H6, encI]
            | 3, _ => simp only [amS, amL, tyS, amB, Nat.reduceLT, Nat.reduceEqDiff, Nat.reduceAdd, Nat.reduceMul, Nat.reduceSub, Nat.reduceLeDiff, reduceCtorEq, H6, encI]
            | 4, _ => simp only [amS, amL, tyS, amB, Nat.reduceLT, Nat.reduceEqDiff, Nat.reduceAdd, Nat.reduceMul, Nat.reduceSub, Nat.reduceLeDiff, reduceCtorEq, H6, encI]
            | 5, _ => simp only [amS, amL, tyS, amB, Nat.reduceLT, Nat.reduceEqDiff, Nat.reduceAdd, Nat.reduceMul, Nat.reduceSub, Nat.reduceLeDiff, reduceCtorEq, H6, encI]
          simp only [amS, amL, tyS, amB, Nat.reduceLT, Nat.reduceEqDiff, Nat.reduceAdd, Nat.reduceMul, Nat.reduceSub, Nat.reduceLeDiff, reduceCtorEq]
          repeat' (first | (refine awp_seq_k fun _ _ => ?_) | (refine awp_block ?_) | ((first | (refine awp_rgn ?_) | (refine awp_any (by kernel_rfl) (by kernel_rfl) ?_) | (refine awp_cond_k fun _ _ _ _ => ?_)) <;> simp only [amS, amL, tyS, amB, Nat.reduceLT, Nat.reduceEqDiff, Nat.reduceAdd, Nat.reduceMul, Nat.reduceSub, Nat.reduceLeDiff, reduceCtorEq, hw2]) | (refine guard_split (fun hg => ?_) (fun hg => ?_) <;> simp only [hg, amS, amL, tyS, amB, Nat.reduceLT, Nat.reduceEqDiff, Nat.reduceAdd, Nat.reduceMul, Nat.reduceSub, Nat.reduceLeDiff, reduceCtorEq, hw2]) | (refine awp_skip ?_; simp only [amS]) | (refine awp_exit ?_; simp only [amS, if_true, if_false, Nat.reduceEqDiff]) | (refine awp_ret ?_; try simp only [amS]) | (refine Cont.go (by assumption) ?_) | (refine Arm.go (by assumption) ?_))
          refine Again.go hK2 ⟨(k + 1, o1), hlt, Nat.lt_of_lt_of_le hcur hol, hgo⟩ ⟨?_, .inl ?_⟩ (by simp; omega)
          · simp only [amS, amL, tyS, amB, Nat.reduceLT, Nat.reduceEqDiff, Nat.reduceAdd, Nat.reduceMul, Nat.reduceSub, Nat.reduceLeDiff, reduceCtorEq, encI]
          · simp only [amS, amL, tyS, amB, Nat.reduceLT, Nat.reduceEqDiff, Nat.reduceAdd, Nat.reduceMul, Nat.reduceSub, Nat.reduceLeDiff, reduceCtorEq, H6, encI]
        · have hkl : k = bs.length := by simp at h3; omega
          subst hkl
          rw [List.drop_length] at hgo
          simp only [dfsL, Option.some.injEq] at hgo
          subst hgo
          repeat' (first | (refine awp_seq_k fun _ _ => ?_) | (refine awp_block ?_) | ((first | (refine awp_rgn ?_) | (refine awp_any (by kernel_rfl) (by kernel_rfl) ?_) | (refine awp_cond_k fun _ _ _ _ => ?_)) <;> simp only [amS, amL, tyS, amB, Nat.reduceLT, Nat.reduceEqDiff, Nat.reduceAdd, Nat.reduceMul, Nat.reduceSub, Nat.reduceLeDiff, reduceCtorEq]) | (refine guard_split (fun hg => ?_) (fun hg => ?_) <;> simp only [hg, amS, amL, tyS, amB, Nat.reduceLT, Nat.reduceEqDiff, Nat.reduceAdd, Nat.reduceMul, Nat.reduceSub, Nat.reduceLeDiff, reduceCtorEq]) | (refine awp_skip ?_; simp only [amS]) | (refine awp_exit ?_; simp only [amS, if_true, if_false, Nat.reduceEqDiff]) | (refine awp_ret ?_; try simp only [amS]) | (refine Cont.go (by assumption) ?_) | (refine Arm.go (by assumption) ?_))
          refine body_end0 rfl ?_
          refine look_end r0 r1 r2 r4 fun r hr => ?_
          match r, hr with
          | 0, _ => simp only [amS, amL, tyS, amB, Nat.reduceLT, Nat.reduceEqDiff, Nat.reduceAdd, Nat.reduceMul, Nat.reduceSub, Nat.reduceLeDiff, reduceCtorEq, H6, encI]
          | 1, _ => simp only [amS, amL, tyS, amB, Nat.reduceLT, Nat.reduceEqDiff, Nat.reduceAdd, Nat.reduceMul, Nat.reduceSub, Nat.reduceLeDiff, reduceCtorEq, H6, encI]
          | 2, _ => simp only [amS, amL, tyS, amB, Nat.reduceLT, Nat.reduceEqDiff, Nat.reduceAdd, Nat.reduceMul, Nat.reduceSub, Nat.reduceLeDiff, reduceCtorEq, H6, encI]
          | 3, _ => simp only [amS, amL, tyS, amB, Nat.reduceLT, Nat.reduceEqDiff, Nat.reduceAdd, Nat.reduceMul, Nat.reduceSub, Nat.reduceLeDiff, reduceCtorEq, H6, encI]
          | 4, _ => simp only [amS, amL, tyS, amB, Nat.reduceLT, Nat.reduceEqDiff, Nat.reduceAdd, Nat.reduceMul, Nat.reduceSub, Nat.reduceLeDiff, reduceCtorEq, H6, encI]
          | 5, _ => simp only [amS, amL, tyS, amB, Nat.reduceLT, Nat.reduceEqDiff, Nat.reduceAdd, Nat.reduceMul, Nat.reduceSub, Nat.reduceLeDiff, reduceCtorEq, H6, encI]

theorem look_all (l : List V) (bad : List Int) (hbad : Small bad.length) (hbl : ∀ v ∈ l, v.before.length ≤ 1000) (hids : ∀ v ∈ l, ∀ b ∈ v.before, hasL (l.map (·.id)) b = true) :
    ∀ (n : Nat) (v : Int) (out out' : List Int), dfsV l bad n v out = some out' → out ≠ [] → hasL (l.map (·.id)) v = true → out'.length ≤ 1000000 → LookC l bad v (H6 l bad out) out'
  | 0, v, out, out', h, _, _, _ => by cases h
  | n + 1, v, out, out', h, h1, h2, h3 => look_6 l bad hbad hbl hids n (look_all l bad hbad hbl hids n) v out out' h h1 h2 h3

theorem look_5 (l : List V) (bad : List Int) (hbad : Small bad.length) (hbl : ∀ v ∈ l, v.before.length ≤ 1000) (hids : ∀ v ∈ l, ∀ b ∈ v.before, hasL (l.map (·.id)) b = true) (n : Nat)
    (v : Int) (out' : List Int) (hd : dfsV l bad n v [] = some out') (hv : hasL (l.map (·.id)) v = true) (hlen : out'.length ≤ 1000000) : LookC l bad v (H5 l bad) out' := by
  cases n with
  | zero => cases hd
  | succ n =>
  have ih := look_all l bad hbad hbl hids n
  intro rows hrows
  have r0 : rows 0 = .cells 0 [encI bad] := hrows 0 (by omega)
  have r1 : rows 1 = .map (cK (l.map (·.id))) (cE l) := hrows 1 (by omega)
  have r2 : rows 2 = .cells 0 [.omp 1] := hrows 2 (by omega)
  have r3 : rows 3 = .cells 0 [.sl true []] := hrows 3 (by omega)
  have r4 : rows 4 = .cells 0 [.fn (.func 37) [] [.ptr 3 0 0, .ptr 0 0 0, .ptr 2 0 0, .ptr 4 0 0]] := hrows 4 (by omega)
  have r5 : rows 5 = .none := hrows 5 (by omega)
  refine callC_of_body (H5 l bad) hG0 Try.func37 rfl (by kernel_rfl) (by simp [Try.ntmps37]) ?_ ?_ (by simp [inL, inR, H5]) ?_ ?_ (by simp) ?_
  · intro r hr
    simp only [List.mem_cons, List.not_mem_nil, or_false] at hr
    rcases hr with rfl | rfl | rfl | rfl | rfl | rfl <;> simp [H5, hrows]
  · intro r hr
    match r, hr with
    | 0, hr => exact absurd (by simp) hr
    | 1, hr => exact absurd (by simp) hr
    | 2, hr => exact absurd (by simp) hr
    | 3, hr => exact absurd (by simp) hr
    | 4, hr => exact absurd (by simp) hr
    | 5, hr => exact absurd (by simp) hr
    | r + 6, _ => simp [H5]
  · intro r hr
    simp only [List.mem_cons, List.not_mem_nil, or_false] at hr
    rcases hr with rfl | rfl | rfl | rfl | rfl | rfl
    · rw [r0]; exact inL_mono (p := noRef) (fun r hr => by cases hr) (by simp only [inL, tree_encI, Bool.and_self])
    · rw [r1]; simp only [rowIn]; rw [inL_mono (p := noRef) (fun r hr => by cases hr) (tree_cK _), inL_mono (p := noRef) (fun r hr => by cases hr) (tree_cE _)]; rfl
    · rw [r2]; rfl
    · rw [r3]; rfl
    · rw [r4]; rfl
    · rw [r5]; rfl
  · intro r hr h
    simp only [List.mem_cons, List.not_mem_nil, or_false] at hr
    rcases hr with rfl | rfl | rfl | rfl | rfl | rfl <;> simp [H5, hrows] at h ⊢
  have hl6 : (H5 l bad).length = 5 := rfl
  simp only [Try.ntmps37, enterF, Nat.reduceAdd, hl6]
  repeat' (first | (refine awp_seq_k fun _ _ => ?_) | (refine awp_block ?_) | ((first | (refine awp_rgn ?_) | (refine awp_any (by kernel_rfl) (by kernel_rfl) ?_) | (refine awp_cond_k fun _ _ _ _ => ?_)) <;> simp only [amS, amL, tyS, amB, Nat.reduceLT, Nat.reduceEqDiff, Nat.reduceAdd, Nat.reduceMul, Nat.reduceSub, Nat.reduceLeDiff, reduceCtorEq, H5]) | (refine guard_split (fun hg => ?_) (fun hg => ?_) <;> simp only [hg, amS, amL, tyS, amB, Nat.reduceLT, Nat.reduceEqDiff, Nat.reduceAdd, Nat.reduceMul, Nat.reduceSub, Nat.reduceLeDiff, reduceCtorEq, H5]) | (refine awp_skip ?_; simp only [amS]) | (refine awp_exit ?_; simp only [amS, if_true, if_false, Nat.reduceEqDiff]) | (refine awp_ret ?_; try simp only [amS]) | (refine Cont.go (by assumption) ?_) | (refine Arm.go (by assumption) ?_))
  refine callR_pure (fp := [5]) hG0 (contains_35 [] v (by unfold Small; first | omega | simp)) (.cons ?_ (.cons (.same rfl) .nil)) (.inr rfl) ?_
  · refine .full rfl
  simp only [amS, amL, tyS, amB, Nat.reduceLT, Nat.reduceEqDiff, Nat.reduceAdd, Nat.reduceMul, Nat.reduceSub, Nat.reduceLeDiff, reduceCtorEq]
  repeat' (first | (refine awp_seq_k fun _ _ => ?_) | (refine awp_block ?_) | ((first | (refine awp_rgn ?_) | (refine awp_any (by kernel_rfl) (by kernel_rfl) ?_) | (refine awp_cond_k fun _ _ _ _ => ?_)) <;> simp only [amS, amL, tyS, amB, Nat.reduceLT, Nat.reduceEqDiff, Nat.reduceAdd, Nat.reduceMul, Nat.reduceSub, Nat.reduceLeDiff, reduceCtorEq]) | (refine guard_split (fun hg => ?_) (fun hg => ?_) <;> simp only [hg, amS, amL, tyS, amB, Nat.reduceLT, Nat.reduceEqDiff, Nat.reduceAdd, Nat.reduceMul, Nat.reduceSub, Nat.reduceLeDiff, reduceCtorEq]) | (refine awp_skip ?_; simp only [amS]) | (refine awp_exit ?_; simp only [amS, if_true, if_false, Nat.reduceEqDiff]) | (refine awp_ret ?_; try simp only [amS]) | (refine Cont.go (by assumption) ?_) | (refine Arm.go (by assumption) ?_))
  simp only [dfsV] at hd
  refine ⟨fun h => ?_, fun h => ?_⟩
  · rw [if_pos h] at hd
    cases h
  · rw [if_neg (by rw [h]; simp)] at hd
    repeat' (first | (refine awp_seq_k fun _ _ => ?_) | (refine awp_block ?_) | ((first | (refine awp_rgn ?_) | (refine awp_any (by kernel_rfl) (by kernel_rfl) ?_) | (refine awp_cond_k fun _ _ _ _ => ?_)) <;> simp only [amS, amL, tyS, amB, Nat.reduceLT, Nat.reduceEqDiff, Nat.reduceAdd, Nat.reduceMul, Nat.reduceSub, Nat.reduceLeDiff, reduceCtorEq, H5]) | (refine guard_split (fun hg => ?_) (fun hg => ?_) <;> simp only [hg, amS, amL, tyS, amB, Nat.reduceLT, Nat.reduceEqDiff, Nat.reduceAdd, Nat.reduceMul, Nat.reduceSub, Nat.reduceLeDiff, reduceCtorEq, H5]) | (refine awp_skip ?_; simp only [amS]) | (refine awp_exit ?_; simp only [amS, if_true, if_false, Nat.reduceEqDiff]) | (refine awp_ret ?_; try simp only [amS]) | (refine Cont.go (by assumption) ?_) | (refine Arm.go (by assumption) ?_))
    refine eff_new (sz := 1) (by' := 8) (mm := 1) (new := [.int .i64 v]) (by kernel_rfl) (by simp only [amS, amL, tyS, amB, Nat.reduceLT, Nat.reduceEqDiff, Nat.reduceAdd, Nat.reduceMul, Nat.reduceSub, Nat.reduceLeDiff, reduceCtorEq, H5]) (by simp) (by simp [srcA]) (by simp) (by simp) ?_
    simp only [amS, amL, tyS, amB, Nat.reduceLT, Nat.reduceEqDiff, Nat.reduceAdd, Nat.reduceMul, Nat.reduceSub, Nat.reduceLeDiff, reduceCtorEq, H5]
    repeat' (first | (refine awp_seq_k fun _ _ => ?_) | (refine awp_block ?_) | ((first | (refine awp_rgn ?_) | (refine awp_any (by kernel_rfl) (by kernel_rfl) ?_) | (refine awp_cond_k fun _ _ _ _ => ?_)) <;> simp only [amS, amL, tyS, amB, Nat.reduceLT, Nat.reduceEqDiff, Nat.reduceAdd, Nat.reduceMul, Nat.reduceSub, Nat.reduceLeDiff, reduceCtorEq]) | (refine guard_split (fun hg => ?_) (fun hg => ?_) <;> simp only [hg, amS, amL, tyS, amB, Nat.reduceLT, Nat.reduceEqDiff, Nat.reduceAdd, Nat.reduceMul, Nat.reduceSub, Nat.reduceLeDiff, reduceCtorEq]) | (refine awp_skip ?_; simp only [amS]) | (refine awp_exit ?_; simp only [amS, if_true, if_false, Nat.reduceEqDiff]) | (refine awp_ret ?_; try simp only [amS]) | (refine Cont.go (by assumption) ?_) | (refine Arm.go (by assumption) ?_))
    refine callR_tree hG0 (contains_35 bad v hbad) ?_
    simp only [amS, amL, tyS, amB, Nat.reduceLT, Nat.reduceEqDiff, Nat.reduceAdd, Nat.reduceMul, Nat.reduceSub, Nat.reduceLeDiff, reduceCtorEq]
    repeat' (first | (refine awp_seq_k fun _ _ => ?_) | (refine awp_block ?_) | ((first | (refine awp_rgn ?_) | (refine awp_any (by kernel_rfl) (by kernel_rfl) ?_) | (refine awp_cond_k fun _ _ _ _ => ?_)) <;> simp only [amS, amL, tyS, amB, Nat.reduceLT, Nat.reduceEqDiff, Nat.reduceAdd, Nat.reduceMul, Nat.reduceSub, Nat.reduceLeDiff, reduceCtorEq]) | (refine guard_split (fun hg => ?_) (fun hg => ?_) <;> simp only [hg, amS, amL, tyS, amB, Nat.reduceLT, Nat.reduceEqDiff, Nat.reduceAdd, Nat.reduceMul, Nat.reduceSub, Nat.reduceLeDiff, reduceCtorEq]) | (refine awp_skip ?_; simp only [amS]) | (refine awp_exit ?_; simp only [amS, if_true, if_false, Nat.reduceEqDiff]) | (refine awp_ret ?_; try simp only [amS]) | (refine Cont.go (by assumption) ?_) | (refine Arm.go (by assumption) ?_))
    refine ⟨fun h2 => ?_, fun h2 => ?_⟩
    · have hb2 : hasL bad v = false := by simpa using h2
      rw [if_neg (by rw [hb2]; simp)] at hd
      injection hd with hd
      subst hd
      repeat' (first | (refine awp_seq_k fun _ _ => ?_) | (refine awp_block ?_) | ((first | (refine awp_rgn ?_) | (refine awp_any (by kernel_rfl) (by kernel_rfl) ?_) | (refine awp_cond_k fun _ _ _ _ => ?_)) <;> simp only [amS, amL, tyS, amB, Nat.reduceLT, Nat.reduceEqDiff, Nat.reduceAdd, Nat.reduceMul, Nat.reduceSub, Nat.reduceLeDiff, reduceCtorEq]) | (refine guard_split (fun hg => ?_) (fun hg => ?_) <;> simp only [hg, amS, amL, tyS, amB, Nat.reduceLT, Nat.reduceEqDiff, Nat.reduceAdd, Nat.reduceMul, Nat.reduceSub, Nat.reduceLeDiff, reduceCtorEq]) | (refine awp_skip ?_; simp only [amS]) | (refine awp_exit ?_; simp only [amS, if_true, if_false, Nat.reduceEqDiff]) | (refine awp_ret ?_; try simp only [amS]) | (refine Cont.go (by assumption) ?_) | (refine Arm.go (by assumption) ?_))
      refine body_ret0 rfl ?_
      refine look_end r0 r1 r2 r4 fun r hr => ?_
      match r, hr with
      | 0, _ => simp only [amS, amL, tyS, amB, Nat.reduceLT, Nat.reduceEqDiff, Nat.reduceAdd, Nat.reduceMul, Nat.reduceSub, Nat.reduceLeDiff, reduceCtorEq, H6, encI, List.length_append, Nat.add_sub_cancel, cK_one]
      | 1, _ => simp only [amS, amL, tyS, amB, Nat.reduceLT, Nat.reduceEqDiff, Nat.reduceAdd, Nat.reduceMul, Nat.reduceSub, Nat.reduceLeDiff, reduceCtorEq, H6, encI, List.length_append, Nat.add_sub_cancel, cK_one]
      | 2, _ => simp only [amS, amL, tyS, amB, Nat.reduceLT, Nat.reduceEqDiff, Nat.reduceAdd, Nat.reduceMul, Nat.reduceSub, Nat.reduceLeDiff, reduceCtorEq, H6, encI, List.length_append, Nat.add_sub_cancel, cK_one]
      | 3, _ => simp only [amS, amL, tyS, amB, Nat.reduceLT, Nat.reduceEqDiff, Nat.reduceAdd, Nat.reduceMul, Nat.reduceSub, Nat.reduceLeDiff, reduceCtorEq, H6, encI, List.length_append, Nat.add_sub_cancel, cK_one]
      | 4, _ => simp only [amS, amL, tyS, amB, Nat.reduceLT, Nat.reduceEqDiff, Nat.reduceAdd, Nat.reduceMul, Nat.reduceSub, Nat.reduceLeDiff, reduceCtorEq, H6, encI, List.length_append, Nat.add_sub_cancel, cK_one]
      | 5, _ => simp only [amS, amL, tyS, amB, Nat.reduceLT, Nat.reduceEqDiff, Nat.reduceAdd, Nat.reduceMul, Nat.reduceSub, Nat.reduceLeDiff, reduceCtorEq, H6, encI, List.length_append, Nat.add_sub_cancel, cK_one]
    · have hb2 : hasL bad v = true := by simpa using h2
      rw [if_pos hb2] at hd
      have hfi := afind_int (l.map (·.id)) v 0
      have hha := afindI_has (l.map (·.id)) v 0
      cases hc : afindI (l.map (·.id)) v 0 with
      | none => rw [hc, hv] at hha; cases hha
      | some j =>
      rw [hc] at hfi
      have hj := afindI_lt _ _ _ _ hc
      rw [List.length_map] at hj
      obtain ⟨w, hw⟩ : ∃ w, l[j]? = some w := ⟨_, List.getElem?_eq_getElem (by omega)⟩
      have hbe : befOf l v = w.before := by simp only [befOf, hc, hw, Option.elim]
      have hge : (cE l)[j]? = some (encI w.before) := by rw [cE, List.getElem?_map, hw]; rfl
      have hwl := hids w (List.mem_of_getElem? hw)
      have hwb := hbl w (List.mem_of_getElem? hw)
      rw [hbe] at hd
      generalize w.before = bs at *
      repeat' (first | (refine awp_seq_k fun _ _ => ?_) | (refine awp_block ?_) | ((first | (refine awp_rgn ?_) | (refine awp_any (by kernel_rfl) (by kernel_rfl) ?_) | (refine awp_cond_k fun _ _ _ _ => ?_)) <;> simp only [amS, amL, tyS, amB, Nat.reduceLT, Nat.reduceEqDiff, Nat.reduceAdd, Nat.reduceMul, Nat.reduceSub, Nat.reduceLeDiff, reduceCtorEq, hfi, hge, encI]) | (refine guard_split (fun hg => ?_) (fun hg => ?_) <;> simp only [hg, amS, amL, tyS, amB, Nat.reduceLT, Nat.reduceEqDiff, Nat.reduceAdd, Nat.reduceMul, Nat.reduceSub, Nat.reduceLeDiff, reduceCtorEq, hfi, hge, encI]) | (refine awp_skip ?_; simp only [amS]) | (refine awp_exit ?_; simp only [amS, if_true, if_false, Nat.reduceEqDiff]) | (refine awp_ret ?_; try simp only [amS]) | (refine Cont.go (by assumption) ?_) | (refine Arm.go (by assumption) ?_))
      refine awp_loop_k (α := {p : Nat × List Int // p.1 ≤ bs.length ∧ 0 < p.2.length ∧ dfsL (dfsV l bad n) (bs.drop p.1) p.2 = some out'}) (fun p => [(1, .ptr 3 0 0), (2, .ptr 0 0 0), (3, .ptr 2 0 0), (4, .ptr 4 0 0), (21, encI bs), (22, .int .i64 bs.length), (23, .int .i64 p.1.1)]) (fun p => H6 l bad p.1.2) (fun p => bs.length - p.1.1) ⟨(0, [] ++ [v]), Nat.zero_le _, by simp, hd⟩ ⟨?_, .inl ?_⟩ ?_
      · simp only [amS, amL, tyS, amB, Nat.reduceLT, Nat.reduceEqDiff, Nat.reduceAdd, Nat.reduceMul, Nat.reduceSub, Nat.reduceLeDiff, reduceCtorEq, encI]
        exact rfl
      · simp only [amS, amL, tyS, amB, Nat.reduceLT, Nat.reduceEqDiff, Nat.reduceAdd, Nat.reduceMul, Nat.reduceSub, Nat.reduceLeDiff, reduceCtorEq, H6, encI, List.length_append, Nat.add_sub_cancel, cK_one]
      · rintro ⟨⟨k, cur⟩, hk, hcur, hgo⟩ K2 hK2
        simp only at hk hcur hgo
        repeat' (first | (refine awp_seq_k fun _ _ => ?_) | (refine awp_block ?_) | ((first | (refine awp_rgn ?_) | (refine awp_any (by kernel_rfl) (by kernel_rfl) ?_) | (refine awp_cond_k fun _ _ _ _ => ?_)) <;> simp only [amS, amL, tyS, amB, Nat.reduceLT, Nat.reduceEqDiff, Nat.reduceAdd, Nat.reduceMul, Nat.reduceSub, Nat.reduceLeDiff, reduceCtorEq, encI]) | (refine guard_split (fun hg => ?_) (fun hg => ?_) <;> simp only [hg, amS, amL, tyS, amB, Nat.reduceLT, Nat.reduceEqDiff, Nat.reduceAdd, Nat.reduceMul, Nat.reduceSub, Nat.reduceLeDiff, reduceCtorEq, encI]) | (refine awp_skip ?_; simp only [amS]) | (refine awp_ret ?_; try simp only [amS]) | (refine Cont.go (by assumption) ?_) | (refine Arm.go (by assumption) ?_))
        refine ⟨fun h3 => ?_, fun h3 => ?_⟩
        · have hlt : k < bs.length := by simpa using h3
          obtain ⟨x, hx⟩ : ∃ v, bs[k]? = some v := ⟨_, List.getElem?_eq_getElem hlt⟩
          have hw2 := wrap_succ (k := k) hlt (by omega)
          rw [drop_cons hx] at hgo
          simp only [dfsL] at hgo
          cases hdx : dfsV l bad n x cur with
          | none => rw [hdx] at hgo; cases hgo
          | some o1 =>
          rw [hdx] at hgo
          simp only at hgo
          have hol := dfsV_len _ _ _ _ _ _ hdx
          have hol2 := dfsL_len (dfsV_len l bad n) _ _ _ hgo
          have hc := ih x cur o1 hdx (List.length_pos_iff.1 hcur) (hwl x (List.mem_of_getElem? hx)) (by omega)
          repeat' (first | (refine awp_seq_k fun _ _ => ?_) | (refine awp_block ?_) | ((first | (refine awp_rgn ?_) | (refine awp_any (by kernel_rfl) (by kernel_rfl) ?_) | (refine awp_cond_k fun _ _ _ _ => ?_)) <;> simp only [amS, amL, tyS, amB, Nat.reduceLT, Nat.reduceEqDiff, Nat.reduceAdd, Nat.reduceMul, Nat.reduceSub, Nat.reduceLeDiff, reduceCtorEq, hx, encI, H6]) | (refine guard_split (fun hg => ?_) (fun hg => ?_) <;> simp only [hg, amS, amL, tyS, amB, Nat.reduceLT, Nat.reduceEqDiff, Nat.reduceAdd, Nat.reduceMul, Nat.reduceSub, Nat.reduceLeDiff, reduceCtorEq, hx, encI, H6]) | (refine awp_skip ?_; simp only [amS]) | (refine awp_exit ?_; simp only [amS, if_true, if_false, Nat.reduceEqDiff]) | (refine awp_ret ?_; try simp only [amS]) | (refine Cont.go (by assumption) ?_) | (refine Arm.go (by assumption) ?_))
          refine ⟨_, _, hc _ fun r hr => ?_, ?_⟩
          · match r, hr with
            | 0, _ => simp only [amS, amL, tyS, amB, Nat.reduceLT, Nat.reduceEqDiff, Nat.reduceAdd, Nat.reduceMul, Nat.reduceSub, Nat.reduceLeDiff, reduceCtorEq, H6, encI]
            | 1, _ => simp only [amS, amL, tyS, amB, Nat.reduceLT, Nat.reduceEqDiff, Nat.reduceAdd, Nat.reduceMul, Nat.reduceSub, Nat.reduceLeDiff, reduceCtorEq, H6, encI]
            | 2, _ => simp only [amS, amL, tyS, amB, Nat.reduceLT, Nat.reduceEqDiff, Nat.reduceAdd, Nat.reduceMul, Nat.reduceSub, Nat.reduceLeDiff, reduceCtorEq, H6, encI]
            | 3, _ => simp only [amS, amL, tyS, amB, Nat.reduceLT, Nat.reduceEqDiff, Nat.reduceAdd, Nat.reduceMul, Nat.reduceSub, Nat.reduceLeDiff, reduceCtorEq, H6, encI]
            | 4, _ => simp only [amS, amL, tyS, amB, Nat.reduceLT, Nat.reduceEqDiff, Nat.reduceAdd, Nat.reduceMul, Nat.reduceSub, Nat.reduceLeDiff, reduceCtorEq, H6, encI]
            | 5, _ => simp only [amS, amL, tyS, amB, Nat.reduceLT, Nat.reduceEqDiff, Nat.reduceAdd, Nat.reduceMul, Nat.reduceSub, Nat.reduceLeDiff, reduceCtorEq, H6, encI]
          simp only [amS, amL, tyS, amB, Nat.reduceLT, Nat.reduceEqDiff, Nat.reduceAdd, Nat.reduceMul, Nat.reduceSub, Nat.reduceLeDiff, reduceCtorEq]
          repeat' (first | (refine awp_seq_k fun _ _ => ?_) | (refine awp_block ?_) | ((first | (refine awp_rgn ?_) | (refine awp_any (by kernel_rfl) (by kernel_rfl) ?_) | (refine awp_cond_k fun _ _ _ _ => ?_)) <;> simp only [amS, amL, tyS, amB, Nat.reduceLT, Nat.reduceEqDiff, Nat.reduceAdd, Nat.reduceMul, Nat.reduceSub, Nat.reduceLeDiff, reduceCtorEq, hw2]) | (refine guard_split (fun hg => ?_) (fun hg => ?_) <;> simp only [hg, amS, amL, tyS, amB, Nat.reduceLT, Nat.reduceEqDiff, Nat.reduceAdd, Nat.reduceMul, Nat.reduceSub, Nat.reduceLeDiff, reduceCtorEq, hw2]) | (refine awp_skip ?_; simp only [amS]) | (refine awp_exit ?_; simp only [amS, if_true, if_false, Nat.reduceEqDiff]) | (refine awp_ret ?_; try simp only [amS]) | (refine Cont.go (by assumption) ?_) | (refine Arm.go (by assumption) ?_))
          refine Again.go hK2 ⟨(k + 1, o1), hlt, Nat.lt_of_lt_of_le hcur hol, hgo⟩ ⟨?_, .inl ?_⟩ (by simp; omega)
          · simp only [amS, amL, tyS, amB, Nat.reduceLT, Nat.reduceEqDiff, Nat.reduceAdd, Nat.reduceMul, Nat.reduceSub, Nat.reduceLeDiff, reduceCtorEq, encI]
          · simp only [amS, amL, tyS, amB, Nat.reduceLT, Nat.reduceEqDiff, Nat.reduceAdd, Nat.reduceMul, Nat.reduceSub, Nat.reduceLeDiff, reduceCtorEq, H6, encI]
        · have hkl : k = bs.length := by simp at h3; omega
          subst hkl
          rw [List.drop_length] at hgo
          simp only [dfsL, Option.some.injEq] at hgo
          subst hgo
          repeat' (first | (refine awp_seq_k fun _ _ => ?_) | (refine awp_block ?_) | ((first | (refine awp_rgn ?_) | (refine awp_any (by kernel_rfl) (by kernel_rfl) ?_) | (refine awp_cond_k fun _ _ _ _ => ?_)) <;> simp only [amS, amL, tyS, amB, Nat.reduceLT, Nat.reduceEqDiff, Nat.reduceAdd, Nat.reduceMul, Nat.reduceSub, Nat.reduceLeDiff, reduceCtorEq]) | (refine guard_split (fun hg => ?_) (fun hg => ?_) <;> simp only [hg, amS, amL, tyS, amB, Nat.reduceLT, Nat.reduceEqDiff, Nat.reduceAdd, Nat.reduceMul, Nat.reduceSub, Nat.reduceLeDiff, reduceCtorEq]) | (refine awp_skip ?_; simp only [amS]) | (refine awp_exit ?_; simp only [amS, if_true, if_false, Nat.reduceEqDiff]) | (refine awp_ret ?_; try simp only [amS]) | (refine Cont.go (by assumption) ?_) | (refine Arm.go (by assumption) ?_))
          refine body_end0 rfl ?_
          refine look_end r0 r1 r2 r4 fun r hr => ?_
          match r, hr with
          | 0, _ => simp only [amS, amL, tyS, amB, Nat.reduceLT, Nat.reduceEqDiff, Nat.reduceAdd, Nat.reduceMul, Nat.reduceSub, Nat.reduceLeDiff, reduceCtorEq, H6, encI]
          | 1, _ => simp only [amS, amL, tyS, amB, Nat.reduceLT, Nat.reduceEqDiff, Nat.reduceAdd, Nat.reduceMul, Nat.reduceSub, Nat.reduceLeDiff, reduceCtorEq, H6, encI]
          | 2, _ => simp only [amS, amL, tyS, amB, Nat.reduceLT, Nat.reduceEqDiff, Nat.reduceAdd, Nat.reduceMul, Nat.reduceSub, Nat.reduceLeDiff, reduceCtorEq, H6, encI]
          | 3, _ => simp only [amS, amL, tyS, amB, Nat.reduceLT, Nat.reduceEqDiff, Nat.reduceAdd, Nat.reduceMul, Nat.reduceSub, Nat.reduceLeDiff, reduceCtorEq, H6, encI]
          | 4, _ => simp only [amS, amL, tyS, amB, Nat.reduceLT, Nat.reduceEqDiff, Nat.reduceAdd, Nat.reduceMul, Nat.reduceSub, Nat.reduceLeDiff, reduceCtorEq, H6, encI]
          | 5, _ => simp only [amS, amL, tyS, amB, Nat.reduceLT, Nat.reduceEqDiff, Nat.reduceAdd, Nat.reduceMul, Nat.reduceSub, Nat.reduceLeDiff, reduceCtorEq, H6, encI]

end Go.Proofs.Ytgenkkejlggmnaa
