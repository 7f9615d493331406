import Derived.Test.YtgenkkejlggmnaaB19
set_option linter.unusedVariables false
set_option linter.unusedSimpArgs false
namespace Go.Proofs.Ytgenkkejlggmnaa
open Go.AM

def sOK (good bad : List Int) (k : Int) (q : Nat → Bool) (i : Nat) : Bool := if hasL bad k = true then q i else if hasL good k = true then !q i else true
def okJ (good bad ks : List Int) (vs : List (Nat → Bool)) (i j : Nat) : Bool := sOK good bad (ks.getD j 0) (vs.getD j noF) i
def suspF (good bad ks : List Int) (vs : List (Nat → Bool)) (id : Int) (i : Nat) : Bool := lookF ks vs id i && (List.range ks.length).all (okJ good bad ks vs i)
def mixS (f : Nat → Bool) (g : Nat → Bool) (k : Nat) : Nat → Bool := fun i => if i < k then f i && g i else f i
theorem mixS_self (f g : Nat → Bool) (i : Nat) : mixS f g i i = f i := by simp [mixS]
theorem mixS0 (f g : Nat → Bool) : mixS f g 0 = f := by funext i; simp [mixS]
theorem mixS_step (f g : Nat → Bool) (i q : Nat) (b : Bool) (hb : b = (f i && g i)) : (if q = i then b else mixS f g i q) = mixS f g (i + 1) q := by
  unfold mixS
  by_cases h : q = i
  · subst h; simp [hb]
  · rw [if_neg h]
    by_cases h1 : q < i
    · rw [if_pos h1, if_pos (by omega)]
    · rw [if_neg h1, if_neg (by omega)]
theorem mixS_keep (f g : Nat → Bool) (i q : Nat) (hb : g i = true) : mixS f g i q = mixS f g (i + 1) q := by
  unfold mixS
  by_cases h : q = i
  · subst h; simp [hb]
  · by_cases h1 : q < i
    · rw [if_pos h1, if_pos (by omega)]
    · rw [if_neg h1, if_neg (by omega)]
theorem all_erase {left : List Nat} {j : Nat} (h : j ∈ left) (p : Nat → Bool) : left.all p = (p j && (left.erase j).all p) := by
  have := List.perm_cons_erase h
  have e : left.all p = (j :: left.erase j).all p := by
    rw [Bool.eq_iff_iff, List.all_eq_true, List.all_eq_true]
    exact ⟨fun h x hx => h x (this.mem_iff.2 hx), fun h x hx => h x (this.mem_iff.1 hx)⟩
  rw [e, List.all_cons]
theorem cK_at {ks : List Int} {j : Nat} {k : AV} (h : (cK ks)[j]? = some k) : k = .int .i64 (ks.getD j 0) ∧ j < ks.length := by
  rw [cK, List.getElem?_map] at h
  cases hx : ks[j]? with
  | none => rw [hx] at h; cases h
  | some v =>
    rw [hx] at h
    injection h with h
    refine ⟨?_, (List.getElem?_eq_some_iff.1 hx).1⟩
    rw [← h, List.getD_eq_getElem?_getD, hx]; rfl
theorem cP_at {vs : List (Nat → Bool)} {j : Nat} {k : AV} (h : (cP vs)[j]? = some k) : k = .agg (cF (vs.getD j noF)) := by
  rw [cP, List.getElem?_map] at h
  cases hx : vs[j]? with
  | none => rw [hx] at h; cases h
  | some v =>
    rw [hx] at h
    injection h with h
    rw [← h, List.getD_eq_getElem?_getD, hx]; rfl

set_option maxHeartbeats 4000000 in
theorem suspects_41 (k0 : Int) (ks : List Int) (vs : List (Nat → Bool)) (id : Int) (good bad : List Int) (hvs : vs.length = ks.length + 1) (hid : hasL (k0 :: ks) id = true) (hgood : Small good.length) (hbad : Small bad.length) :
    Pure Try.prog G0 41 [.mp (cK (k0 :: ks)) (cP vs), .int .i64 id, encI good, encI bad] (encI (idsF (suspF good bad (k0 :: ks) vs id))) := by
  refine pure_of_body hG0 Try.func41 rfl (by kernel_rfl) (by simp [Try.ntmps41]) (by simp [inL, inR, tree_cK, tree_cP, tree_encI]) (tree_encI _) ?_
  simp only [Try.ntmps41, enterF, Nat.reduceAdd]
  have hfi := afind_int (k0 :: ks) id 0
  have hha := afindI_has (k0 :: ks) id 0
  cases hc : afindI (k0 :: ks) id 0 with
  | none => rw [hc, hid] at hha; cases hha
  | some jx =>
  rw [hc] at hfi
  have hjx := afindI_lt (k0 :: ks) id 0 jx hc
  have hpg := cP_get (vs := vs) (j := jx) (by simp at hjx; omega)
  obtain ⟨f0, hf0⟩ : ∃ f0, vs.getD jx noF = f0 := ⟨_, rfl⟩
  have hR : ∀ i, suspF good bad (k0 :: ks) vs id i = (f0 i && (List.range (ks.length + 1)).all (okJ good bad (k0 :: ks) vs i)) := by
    intro i
    simp only [suspF, lookF, hc, hf0, List.length_cons]
  rw [hf0] at hpg
  generalize suspF good bad (k0 :: ks) vs id = R at hR ⊢
  have hcK : cK (k0 :: ks) = .int .i64 k0 :: cK ks := rfl
  have hcl := cK_len ks
  repeat' (first | (refine awp_seq_k fun _ _ => ?_) | (refine awp_block ?_) | ((first | (refine awp_rgn ?_) | (refine awp_any (by kernel_rfl) (by kernel_rfl) ?_) | (refine awp_cond_k fun _ _ _ _ => ?_)) <;> simp only [amS, amL, tyS, amB, Nat.reduceLT, Nat.reduceEqDiff, Nat.reduceAdd, Nat.reduceMul, Nat.reduceSub, Nat.reduceLeDiff, reduceCtorEq, hfi, hpg, cF_len]) | (refine guard_split (fun hg => ?_) (fun hg => ?_) <;> simp only [hg, amS, amL, tyS, amB, Nat.reduceLT, Nat.reduceEqDiff, Nat.reduceAdd, Nat.reduceMul, Nat.reduceSub, Nat.reduceLeDiff, reduceCtorEq, hfi, hpg, cF_len]) | (refine awp_skip ?_; simp only [amS]) | (refine awp_exit ?_; simp only [amS, if_true, if_false, Nat.reduceEqDiff]) | (refine awp_ret ?_; try simp only [amS]) | (refine Cont.go (by assumption) ?_) | (refine Arm.go (by assumption) ?_))
  refine awp_loop_k (α := {p : List Nat × Nat × (Nat → Bool) // p.1.length ≤ ks.length + 1 ∧ ∀ i, i < 32 → (p.2.2 i && p.1.all (okJ good bad (k0 :: ks) vs i)) = R i}) (fun p => [(2, encI good), (3, encI bad), (9, .ptr 0 0 0), (17, .ptr 1 0 0)]) (fun p => [.cells 0 (cF p.1.2.2), .iter (cK (k0 :: ks)) (cP vs) p.1.1 p.1.2.1]) (fun p => p.1.1.length) ⟨(List.range (ks.length + 1), 0, f0), by simp, fun i _ => (hR i).symm⟩ ⟨?_, .inl ?_⟩ ?_
  · simp only [amS, amL, tyS, amB, Nat.reduceLT, Nat.reduceEqDiff, Nat.reduceAdd, Nat.reduceMul, Nat.reduceSub, Nat.reduceLeDiff, reduceCtorEq]
  · simp only [amS, amL, tyS, amB, Nat.reduceLT, Nat.reduceEqDiff, Nat.reduceAdd, Nat.reduceMul, Nat.reduceSub, Nat.reduceLeDiff, reduceCtorEq, hcK, List.length_map] <;> rfl
  · rintro ⟨⟨left, last, f⟩, hll, hf⟩ K2 hK2
    simp only at hll hf
    repeat' (first | (refine awp_seq_k fun _ _ => ?_) | (refine awp_block ?_) | (refine awp_cond_k fun _ _ _ _ => ?_; simp only [amS, amL, tyS, amB, Nat.reduceLT, Nat.reduceEqDiff, Nat.reduceAdd, Nat.reduceMul, Nat.reduceSub, Nat.reduceLeDiff, reduceCtorEq]) | (refine awp_skip ?_; simp only [amS]) | (refine awp_exit ?_; simp only [amS, if_true, if_false, Nat.reduceEqDiff]) | (refine awp_ret ?_; try simp only [amS]) | (refine Cont.go (by assumption) ?_) | (refine Arm.go (by assumption) ?_))
    refine awp_rgn ?_
    simp only [amS, amL, tyS, amB, Nat.reduceLT, Nat.reduceEqDiff, Nat.reduceAdd, Nat.reduceMul, Nat.reduceSub, Nat.reduceLeDiff, reduceCtorEq, st_next]
    refine ⟨rfl, 1, _, _, _, _, rfl, by simp only [amS, amL, tyS, amB, Nat.reduceLT, Nat.reduceEqDiff, Nat.reduceAdd, Nat.reduceMul, Nat.reduceSub, Nat.reduceLeDiff, reduceCtorEq] <;> rfl, fun hl => ?_, fun j kx vx hj hkx hvx => ?_⟩
    · subst hl
      simp only [amS, amL, tyS, amB, Nat.reduceLT, Nat.reduceEqDiff, Nat.reduceAdd, Nat.reduceMul, Nat.reduceSub, Nat.reduceLeDiff, reduceCtorEq]
      refine Cont.go (by assumption) ?_
      have hfR : cF f = cF R := cF_congr fun i hi => by rw [← hf i hi]; simp
      have hct : (cF R).take 32 = cF R := List.take_of_length_le (by rw [cF_len]; exact Nat.le_refl _)
      rw [hfR]
      repeat' (first | (refine awp_seq_k fun _ _ => ?_) | (refine awp_block ?_) | ((first | (refine awp_rgn ?_) | (refine awp_any (by kernel_rfl) (by kernel_rfl) ?_) | (refine awp_cond_k fun _ _ _ _ => ?_)) <;> simp only [amS, amL, tyS, amB, Nat.reduceLT, Nat.reduceEqDiff, Nat.reduceAdd, Nat.reduceMul, Nat.reduceSub, Nat.reduceLeDiff, reduceCtorEq, hct, cF_len, Nat.le_refl]) | (refine guard_split (fun hg => ?_) (fun hg => ?_) <;> simp only [hg, amS, amL, tyS, amB, Nat.reduceLT, Nat.reduceEqDiff, Nat.reduceAdd, Nat.reduceMul, Nat.reduceSub, Nat.reduceLeDiff, reduceCtorEq, hct, cF_len, Nat.le_refl]) | (refine awp_skip ?_; simp only [amS]) | (refine awp_exit ?_; simp only [amS, if_true, if_false, Nat.reduceEqDiff]) | (refine awp_ret ?_; try simp only [amS]) | (refine Cont.go (by assumption) ?_) | (refine Arm.go (by assumption) ?_))
      refine callR_tree hG0 (ids_f R) ?_
      simp only [amS, amL, tyS, amB, Nat.reduceLT, Nat.reduceEqDiff, Nat.reduceAdd, Nat.reduceMul, Nat.reduceSub, Nat.reduceLeDiff, reduceCtorEq]
      repeat' (first | (refine awp_seq_k fun _ _ => ?_) | (refine awp_block ?_) | ((first | (refine awp_rgn ?_) | (refine awp_any (by kernel_rfl) (by kernel_rfl) ?_) | (refine awp_cond_k fun _ _ _ _ => ?_)) <;> simp only [amS, amL, tyS, amB, Nat.reduceLT, Nat.reduceEqDiff, Nat.reduceAdd, Nat.reduceMul, Nat.reduceSub, Nat.reduceLeDiff, reduceCtorEq]) | (refine guard_split (fun hg => ?_) (fun hg => ?_) <;> simp only [hg, amS, amL, tyS, amB, Nat.reduceLT, Nat.reduceEqDiff, Nat.reduceAdd, Nat.reduceMul, Nat.reduceSub, Nat.reduceLeDiff, reduceCtorEq]) | (refine awp_skip ?_; simp only [amS]) | (refine awp_exit ?_; simp only [amS, if_true, if_false, Nat.reduceEqDiff]) | (refine awp_ret ?_; try simp only [amS]) | (refine Cont.go (by assumption) ?_) | (refine Arm.go (by assumption) ?_))
      refine body_ret1 rfl ?_
      simp only [amS, if_true, if_false]
    · obtain ⟨rfl, hjn⟩ := cK_at hkx
      have hvx' := cP_at hvx
      subst hvx'
      have hae : ∀ i, left.all (okJ good bad (k0 :: ks) vs i) = (sOK good bad ((k0 :: ks).getD j 0) (vs.getD j noF) i && (left.erase j).all (okJ good bad (k0 :: ks) vs i)) := fun i => all_erase hj _
      have hle : (left.erase j).length = left.length - 1 := List.length_erase_of_mem hj
      have hlp : 0 < left.length := List.length_pos_of_mem hj
      generalize (k0 :: ks).getD j 0 = kk at *
      generalize vs.getD j noF = q at *
      generalize left.erase j = left2 at *
      have hlt2 : left2.length < (cK (k0 :: ks)).length := by rw [cK_len, List.length_cons]; omega
      simp only [amS, amL, tyS, amB, Nat.reduceLT, Nat.reduceEqDiff, Nat.reduceAdd, Nat.reduceMul, Nat.reduceSub, Nat.reduceLeDiff, reduceCtorEq]
      refine Cont.go (by assumption) ?_
      repeat' (first | (refine awp_seq_k fun _ _ => ?_) | (refine awp_block ?_) | ((first | (refine awp_rgn ?_) | (refine awp_any (by kernel_rfl) (by kernel_rfl) ?_) | (refine awp_cond_k fun _ _ _ _ => ?_)) <;> simp only [amS, amL, tyS, amB, Nat.reduceLT, Nat.reduceEqDiff, Nat.reduceAdd, Nat.reduceMul, Nat.reduceSub, Nat.reduceLeDiff, reduceCtorEq, hlt2, hkx, hvx, cF_len]) | (refine guard_split (fun hg => ?_) (fun hg => ?_) <;> simp only [hg, amS, amL, tyS, amB, Nat.reduceLT, Nat.reduceEqDiff, Nat.reduceAdd, Nat.reduceMul, Nat.reduceSub, Nat.reduceLeDiff, reduceCtorEq, hlt2, hkx, hvx, cF_len]) | (refine awp_skip ?_; simp only [amS]) | (refine awp_exit ?_; simp only [amS, if_true, if_false, Nat.reduceEqDiff]) | (refine awp_ret ?_; try simp only [amS]) | (refine Cont.go (by assumption) ?_) | (refine Arm.go (by assumption) ?_))
      refine awp_loop_k (α := {i : Nat // i ≤ 32}) (fun i => [(2, encI good), (3, encI bad), (9, .ptr 0 0 0), (17, .ptr 1 0 0), (10, .int .i64 kk), (11, .ptr 2 0 0), (23, .int .i64 i.1)]) (fun i => [.cells 0 (cF (mixS f (sOK good bad kk q) i.1)), .iter (cK (k0 :: ks)) (cP vs) left2 j, .cells 0 (cF q)]) (fun i => 32 - i.1) ⟨0, by omega⟩ ⟨?_, .inl ?_⟩ ?_
      · simp only [amS, amL, tyS, amB, Nat.reduceLT, Nat.reduceEqDiff, Nat.reduceAdd, Nat.reduceMul, Nat.reduceSub, Nat.reduceLeDiff, reduceCtorEq] <;> rfl
      · simp only [amS, amL, tyS, amB, Nat.reduceLT, Nat.reduceEqDiff, Nat.reduceAdd, Nat.reduceMul, Nat.reduceSub, Nat.reduceLeDiff, reduceCtorEq, mixS0] <;> rfl
      · rintro ⟨i, hi⟩ K3 hK3
        repeat' (first | (refine awp_seq_k fun _ _ => ?_) | (refine awp_block ?_) | ((first | (refine awp_rgn ?_) | (refine awp_any (by kernel_rfl) (by kernel_rfl) ?_) | (refine awp_cond_k fun _ _ _ _ => ?_)) <;> simp only [amS, amL, tyS, amB, Nat.reduceLT, Nat.reduceEqDiff, Nat.reduceAdd, Nat.reduceMul, Nat.reduceSub, Nat.reduceLeDiff, reduceCtorEq]) | (refine guard_split (fun hg => ?_) (fun hg => ?_) <;> simp only [hg, amS, amL, tyS, amB, Nat.reduceLT, Nat.reduceEqDiff, Nat.reduceAdd, Nat.reduceMul, Nat.reduceSub, Nat.reduceLeDiff, reduceCtorEq]) | (refine awp_skip ?_; simp only [amS]) | (refine awp_ret ?_; try simp only [amS]) | (refine Cont.go (by assumption) ?_) | (refine Arm.go (by assumption) ?_))
        refine ⟨fun h3 => ?_, fun h3 => ?_⟩
        · have hi2 : i < 32 := by simp at h3; omega
          have hi3 : i ≤ 31 := by omega
          have hwi := wrap_succ (k := i) hi2 (by omega)
          have hgi := cF_head q hi2
          have hdr := cF_head (mixS f (sOK good bad kk q) i) hi2
          rw [mixS_self] at hdr
          have hs1 := fun b => cF_set' (mixS f (sOK good bad kk q) i) hi2 b
          repeat' (first | (refine awp_seq_k fun _ _ => ?_) | (refine awp_block ?_) | ((first | (refine awp_rgn ?_) | (refine awp_any (by kernel_rfl) (by kernel_rfl) ?_) | (refine awp_cond_k fun _ _ _ _ => ?_)) <;> simp only [amS, amL, tyS, amB, Nat.reduceLT, Nat.reduceEqDiff, Nat.reduceAdd, Nat.reduceMul, Nat.reduceSub, Nat.reduceLeDiff, reduceCtorEq]) | (refine guard_split (fun hg => ?_) (fun hg => ?_) <;> simp only [hg, amS, amL, tyS, amB, Nat.reduceLT, Nat.reduceEqDiff, Nat.reduceAdd, Nat.reduceMul, Nat.reduceSub, Nat.reduceLeDiff, reduceCtorEq]) | (refine awp_skip ?_; simp only [amS]) | (refine awp_exit ?_; simp only [amS, if_true, if_false, Nat.reduceEqDiff]) | (refine awp_ret ?_; try simp only [amS]) | (refine Cont.go (by assumption) ?_) | (refine Arm.go (by assumption) ?_))
          refine callR_tree hG0 (contains_35 bad kk hbad) ?_
          simp only [amS, amL, tyS, amB, Nat.reduceLT, Nat.reduceEqDiff, Nat.reduceAdd, Nat.reduceMul, Nat.reduceSub, Nat.reduceLeDiff, reduceCtorEq]
          repeat' (first | (refine awp_seq_k fun _ _ => ?_) | (refine awp_block ?_) | ((first | (refine awp_rgn ?_) | (refine awp_any (by kernel_rfl) (by kernel_rfl) ?_) | (refine awp_cond_k fun _ _ _ _ => ?_)) <;> simp only [amS, amL, tyS, amB, Nat.reduceLT, Nat.reduceEqDiff, Nat.reduceAdd, Nat.reduceMul, Nat.reduceSub, Nat.reduceLeDiff, reduceCtorEq]) | (refine guard_split (fun hg => ?_) (fun hg => ?_) <;> simp only [hg, amS, amL, tyS, amB, Nat.reduceLT, Nat.reduceEqDiff, Nat.reduceAdd, Nat.reduceMul, Nat.reduceSub, Nat.reduceLeDiff, reduceCtorEq]) | (refine awp_skip ?_; simp only [amS]) | (refine awp_exit ?_; simp only [amS, if_true, if_false, Nat.reduceEqDiff]) | (refine awp_ret ?_; try simp only [amS]) | (refine Cont.go (by assumption) ?_) | (refine Arm.go (by assumption) ?_))
          have hok : sOK good bad kk q i = if hasL bad kk = true then q i else if hasL good kk = true then !q i else true := rfl
          have e : ∀ b, b = (f i && sOK good bad kk q i) → cF (fun j => if j = i then b else mixS f (sOK good bad kk q) i j) = cF (mixS f (sOK good bad kk q) (i + 1)) := fun b hb => cF_congr fun p _ => mixS_step f _ i p _ hb
          have e0 : sOK good bad kk q i = true → cF (mixS f (sOK good bad kk q) i) = cF (mixS f (sOK good bad kk q) (i + 1)) := fun hb => cF_congr fun p _ => mixS_keep f _ i p hb
          refine ⟨fun h4 => ?_, fun h4 => ?_⟩
          · rw [h4, if_pos rfl] at hok
            repeat' (first | (refine awp_seq_k fun _ _ => ?_) | (refine awp_block ?_) | ((first | (refine awp_rgn ?_) | (refine awp_any (by kernel_rfl) (by kernel_rfl) ?_) | (refine awp_cond_k fun _ _ _ _ => ?_)) <;> simp only [amS, amL, tyS, amB, Nat.reduceLT, Nat.reduceEqDiff, Nat.reduceAdd, Nat.reduceMul, Nat.reduceSub, Nat.reduceLeDiff, reduceCtorEq, hgi, hdr, hi2, hi3, cF_len, Nat.mul_one, hs1, hwi]) | (refine guard_split (fun hg => ?_) (fun hg => ?_) <;> simp only [hg, amS, amL, tyS, amB, Nat.reduceLT, Nat.reduceEqDiff, Nat.reduceAdd, Nat.reduceMul, Nat.reduceSub, Nat.reduceLeDiff, reduceCtorEq, hgi, hdr, hi2, hi3, cF_len, Nat.mul_one, hs1, hwi]) | (refine awp_skip ?_; simp only [amS]) | (refine awp_exit ?_; simp only [amS, if_true, if_false, Nat.reduceEqDiff]) | (refine awp_ret ?_; try simp only [amS]) | (refine Cont.go (by assumption) ?_) | (refine Arm.go (by assumption) ?_))
            · have e1 := e (q i) (by rw [hg, hok]; rfl)
              refine Again.go hK3 ⟨i + 1, hi2⟩ ⟨?_, .inl ?_⟩ (by simp; omega)
              · simp only [amS, amL, tyS, amB, Nat.reduceLT, Nat.reduceEqDiff, Nat.reduceAdd, Nat.reduceMul, Nat.reduceSub, Nat.reduceLeDiff, reduceCtorEq]
              · simp only [amS, amL, tyS, amB, Nat.reduceLT, Nat.reduceEqDiff, Nat.reduceAdd, Nat.reduceMul, Nat.reduceSub, Nat.reduceLeDiff, reduceCtorEq, e1]
            · have e1 := e false (by rw [hg]; rfl)
              refine Again.go hK3 ⟨i + 1, hi2⟩ ⟨?_, .inl ?_⟩ (by simp; omega)
              · simp only [amS, amL, tyS, amB, Nat.reduceLT, Nat.reduceEqDiff, Nat.reduceAdd, Nat.reduceMul, Nat.reduceSub, Nat.reduceLeDiff, reduceCtorEq]
              · simp only [amS, amL, tyS, amB, Nat.reduceLT, Nat.reduceEqDiff, Nat.reduceAdd, Nat.reduceMul, Nat.reduceSub, Nat.reduceLeDiff, reduceCtorEq, e1]
          · repeat' (first | (refine awp_seq_k fun _ _ => ?_) | (refine awp_block ?_) | ((first | (refine awp_rgn ?_) | (refine awp_any (by kernel_rfl) (by kernel_rfl) ?_) | (refine awp_cond_k fun _ _ _ _ => ?_)) <;> simp only [amS, amL, tyS, amB, Nat.reduceLT, Nat.reduceEqDiff, Nat.reduceAdd, Nat.reduceMul, Nat.reduceSub, Nat.reduceLeDiff, reduceCtorEq]) | (refine guard_split (fun hg => ?_) (fun hg => ?_) <;> simp only [hg, amS, amL, tyS, amB, Nat.reduceLT, Nat.reduceEqDiff, Nat.reduceAdd, Nat.reduceMul, Nat.reduceSub, Nat.reduceLeDiff, reduceCtorEq]) | (refine awp_skip ?_; simp only [amS]) | (refine awp_exit ?_; simp only [amS, if_true, if_false, Nat.reduceEqDiff]) | (refine awp_ret ?_; try simp only [amS]) | (refine Cont.go (by assumption) ?_) | (refine Arm.go (by assumption) ?_))
            refine callR_tree hG0 (contains_35 good kk hgood) ?_
            simp only [amS, amL, tyS, amB, Nat.reduceLT, Nat.reduceEqDiff, Nat.reduceAdd, Nat.reduceMul, Nat.reduceSub, Nat.reduceLeDiff, reduceCtorEq]
            repeat' (first | (refine awp_seq_k fun _ _ => ?_) | (refine awp_block ?_) | ((first | (refine awp_rgn ?_) | (refine awp_any (by kernel_rfl) (by kernel_rfl) ?_) | (refine awp_cond_k fun _ _ _ _ => ?_)) <;> simp only [amS, amL, tyS, amB, Nat.reduceLT, Nat.reduceEqDiff, Nat.reduceAdd, Nat.reduceMul, Nat.reduceSub, Nat.reduceLeDiff, reduceCtorEq]) | (refine guard_split (fun hg => ?_) (fun hg => ?_) <;> simp only [hg, amS, amL, tyS, amB, Nat.reduceLT, Nat.reduceEqDiff, Nat.reduceAdd, Nat.reduceMul, Nat.reduceSub, Nat.reduceLeDiff, reduceCtorEq]) | (refine awp_skip ?_; simp only [amS]) | (refine awp_exit ?_; simp only [amS, if_true, if_false, Nat.reduceEqDiff]) | (refine awp_ret ?_; try simp only [amS]) | (refine Cont.go (by assumption) ?_) | (refine Arm.go (by assumption) ?_))
            refine ⟨fun h5 => ?_, fun h5 => ?_⟩
            · rw [h4, if_neg (by simp), h5, if_pos rfl] at hok
              repeat' (first | (refine awp_seq_k fun _ _ => ?_) | (refine awp_block ?_) | ((first | (refine awp_rgn ?_) | (refine awp_any (by kernel_rfl) (by kernel_rfl) ?_) | (refine awp_cond_k fun _ _ _ _ => ?_)) <;> simp only [amS, amL, tyS, amB, Nat.reduceLT, Nat.reduceEqDiff, Nat.reduceAdd, Nat.reduceMul, Nat.reduceSub, Nat.reduceLeDiff, reduceCtorEq, hgi, hdr, hi2, hi3, cF_len, Nat.mul_one, hs1, hwi]) | (refine guard_split (fun hg => ?_) (fun hg => ?_) <;> simp only [hg, amS, amL, tyS, amB, Nat.reduceLT, Nat.reduceEqDiff, Nat.reduceAdd, Nat.reduceMul, Nat.reduceSub, Nat.reduceLeDiff, reduceCtorEq, hgi, hdr, hi2, hi3, cF_len, Nat.mul_one, hs1, hwi]) | (refine awp_skip ?_; simp only [amS]) | (refine awp_exit ?_; simp only [amS, if_true, if_false, Nat.reduceEqDiff]) | (refine awp_ret ?_; try simp only [amS]) | (refine Cont.go (by assumption) ?_) | (refine Arm.go (by assumption) ?_))
              · have e1 := e (!q i) (by rw [hg, hok]; rfl)
                refine Again.go hK3 ⟨i + 1, hi2⟩ ⟨?_, .inl ?_⟩ (by simp; omega)
                · simp only [amS, amL, tyS, amB, Nat.reduceLT, Nat.reduceEqDiff, Nat.reduceAdd, Nat.reduceMul, Nat.reduceSub, Nat.reduceLeDiff, reduceCtorEq]
                · simp only [amS, amL, tyS, amB, Nat.reduceLT, Nat.reduceEqDiff, Nat.reduceAdd, Nat.reduceMul, Nat.reduceSub, Nat.reduceLeDiff, reduceCtorEq, e1]
              · have e1 := e false (by rw [hg]; rfl)
                refine Again.go hK3 ⟨i + 1, hi2⟩ ⟨?_, .inl ?_⟩ (by simp; omega)
                · simp only [amS, amL, tyS, amB, Nat.reduceLT, Nat.reduceEqDiff, Nat.reduceAdd, Nat.reduceMul, Nat.reduceSub, Nat.reduceLeDiff, reduceCtorEq]
                · simp only [amS, amL, tyS, amB, Nat.reduceLT, Nat.reduceEqDiff, Nat.reduceAdd, Nat.reduceMul, Nat.reduceSub, Nat.reduceLeDiff, reduceCtorEq, e1]
            · rw [h4, if_neg (by simp), h5, if_neg (by simp)] at hok
              have e1 := e0 hok
              repeat' (first | (refine awp_seq_k fun _ _ => ?_) | (refine awp_block ?_) | ((first | (refine awp_rgn ?_) | (refine awp_any (by kernel_rfl) (by kernel_rfl) ?_) | (refine awp_cond_k fun _ _ _ _ => ?_)) <;> simp only [amS, amL, tyS, amB, Nat.reduceLT, Nat.reduceEqDiff, Nat.reduceAdd, Nat.reduceMul, Nat.reduceSub, Nat.reduceLeDiff, reduceCtorEq, hwi]) | (refine guard_split (fun hg => ?_) (fun hg => ?_) <;> simp only [hg, amS, amL, tyS, amB, Nat.reduceLT, Nat.reduceEqDiff, Nat.reduceAdd, Nat.reduceMul, Nat.reduceSub, Nat.reduceLeDiff, reduceCtorEq, hwi]) | (refine awp_skip ?_; simp only [amS]) | (refine awp_exit ?_; simp only [amS, if_true, if_false, Nat.reduceEqDiff]) | (refine awp_ret ?_; try simp only [amS]) | (refine Cont.go (by assumption) ?_) | (refine Arm.go (by assumption) ?_))
              refine Again.go hK3 ⟨i + 1, hi2⟩ ⟨?_, .inl ?_⟩ (by simp; omega)
              · simp only [amS, amL, tyS, amB, Nat.reduceLT, Nat.reduceEqDiff, Nat.reduceAdd, Nat.reduceMul, Nat.reduceSub, Nat.reduceLeDiff, reduceCtorEq]
              · simp only [amS, amL, tyS, amB, Nat.reduceLT, Nat.reduceEqDiff, Nat.reduceAdd, Nat.reduceMul, Nat.reduceSub, Nat.reduceLeDiff, reduceCtorEq, e1]
        · have hi2 : i = 32 := by simp at h3; omega
          subst hi2
          repeat' (first | (refine awp_seq_k fun _ _ => ?_) | (refine awp_block ?_) | ((first | (refine awp_rgn ?_) | (refine awp_any (by kernel_rfl) (by kernel_rfl) ?_) | (refine awp_cond_k fun _ _ _ _ => ?_)) <;> simp only [amS, amL, tyS, amB, Nat.reduceLT, Nat.reduceEqDiff, Nat.reduceAdd, Nat.reduceMul, Nat.reduceSub, Nat.reduceLeDiff, reduceCtorEq]) | (refine guard_split (fun hg => ?_) (fun hg => ?_) <;> simp only [hg, amS, amL, tyS, amB, Nat.reduceLT, Nat.reduceEqDiff, Nat.reduceAdd, Nat.reduceMul, Nat.reduceSub, Nat.reduceLeDiff, reduceCtorEq]) | (refine awp_skip ?_; simp only [amS]) | (refine awp_exit ?_; simp only [amS, if_true, if_false, Nat.reduceEqDiff]) | (refine awp_ret ?_; try simp only [amS]) | (refine Cont.go (by assumption) ?_) | (refine Arm.go (by assumption) ?_))
          refine Again.go hK2 ⟨(left2, j, mixS f (sOK good bad kk q) 32), by simp; omega, fun i hi => by rw [← hf i hi, hae i]; simp [mixS, hi, Bool.and_assoc]⟩ ⟨?_, .inr ⟨Nat.zero_le _, ?_, fun g cs hg => (by cases hg), ?_, ?_⟩⟩ (by simp; omega)
          · simp only [amS, amL, tyS, amB, Nat.reduceLT, Nat.reduceEqDiff, Nat.reduceAdd, Nat.reduceMul, Nat.reduceSub, Nat.reduceLeDiff, reduceCtorEq]
          · simp only [amS, amL, tyS, amB, Nat.reduceLT, Nat.reduceEqDiff, Nat.reduceAdd, Nat.reduceMul, Nat.reduceSub, Nat.reduceLeDiff, reduceCtorEq]
          · intro p hp
            simp only [List.mem_cons, List.not_mem_nil, or_false] at hp
            rcases hp with rfl | rfl | rfl | rfl
            · exact inR_mono (p := noRef) (fun r hr => by cases hr) (tree_encI _)
            · exact inR_mono (p := noRef) (fun r hr => by cases hr) (tree_encI _)
            · simp [inR]
            · simp [inR]
          · simp only [List.all_cons, List.all_nil, Bool.and_true, rowIn, Bool.and_eq_true]
            exact ⟨inL_mono (p := noRef) (fun r hr => by cases hr) (tree_cF _), inL_mono (p := noRef) (fun r hr => by cases hr) (tree_cK _), inL_mono (p := noRef) (fun r hr => by cases hr) (tree_cP _)⟩

end Go.Proofs.Ytgenkkejlggmnaa
