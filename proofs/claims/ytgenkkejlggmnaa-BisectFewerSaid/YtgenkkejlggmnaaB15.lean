import Derived.Test.YtgenkkejlggmnaaB14
set_option linter.unusedVariables false
set_option linter.unusedSimpArgs false
namespace Go.Proofs.Ytgenkkejlggmnaa
open Go.AM

theorem afindI_none : ∀ (ks : List Int) (k : Int) (i : Nat), k ∉ ks → afindI ks k i = none
  | [], _, _, _ => rfl
  | x :: xs, k, i, h => by
    simp only [List.mem_cons, not_or] at h
    rw [afindI, if_neg h.1]
    exact afindI_none xs k (i + 1) h.2
theorem afindI_lt : ∀ (ks : List Int) (k : Int) (i j : Nat), afindI ks k i = some j → j < i + ks.length
  | [], _, _, _, h => by simp [afindI] at h
  | x :: xs, k, i, j, h => by
    rw [afindI] at h
    split at h
    · injection h with h; subst h; simp
    · have := afindI_lt xs k (i + 1) j h
      simp; omega
theorem nodup_new {l : List V} (h : (l.map (·.id)).Nodup) {k : Nat} {v : V} (hv : l[k]? = some v) : v.id ∉ (l.take k).map (·.id) := by
  have e : l = l.take k ++ v :: l.drop (k + 1) := by rw [← drop_cons hv, List.take_append_drop]
  rw [e, List.map_append, List.map_cons, List.nodup_append] at h
  intro hm
  exact h.2.2 _ hm _ (by simp) rfl
theorem cP_get {vs : List (Nat → Bool)} {j : Nat} (h : j < vs.length) : (cP vs)[j]? = some (.agg (cF (vs.getD j noF))) := by
  simp [cP, h]
theorem cP_snoc (vs : List (Nat → Bool)) (f : Nat → Bool) : cP (vs ++ [f]) = cP vs ++ [.agg (cF f)] := by simp [cP]
theorem cK_snoc (ks : List Int) (k : Int) : cK (ks ++ [k]) = cK ks ++ [.int .i64 k] := by simp [cK]
theorem cF_set' (f : Nat → Bool) {i : Nat} (h : i < 32) (b : Bool) : List.take i (cF f) ++ [AV.bool b] ++ List.drop (i + 1) (cF f) = cF (fun j => if j = i then b else f j) := cF_set f h b
theorem cF_head (f : Nat → Bool) {i : Nat} (h : i < 32) : ((cF f).drop i).head? = some (.bool (f i)) := by rw [List.head?_drop, cF_get f h]
theorem mixF_self (f g : Nat → Bool) (i : Nat) : mixF f g i i = f i := by simp [mixF]
theorem mix0 (f g : Nat → Bool) : mixF f g 0 = f := by funext i; simp [mixF]
theorem mix_step (f g : Nat → Bool) (i q : Nat) (b : Bool) (hb : b = (f i || g i)) : (if q = i then b else mixF f g i q) = mixF f g (i + 1) q := by
  unfold mixF
  by_cases h : q = i
  · subst h; simp [hb]
  · rw [if_neg h]
    by_cases h1 : q < i
    · rw [if_pos h1, if_pos (by omega)]
    · rw [if_neg h1, if_neg (by omega)]
theorem cF_no : cF noF = [.bool false, .bool false, .bool false, .bool false, .bool false, .bool false, .bool false, .bool false, .bool false, .bool false, .bool false, .bool false, .bool false, .bool false, .bool false, .bool false, .bool false, .bool false, .bool false, .bool false, .bool false, .bool false, .bool false, .bool false, .bool false, .bool false, .bool false, .bool false, .bool false, .bool false, .bool false, .bool false] := rfl

set_option maxHeartbeats 4000000 in
theorem pasts_31 (l : List V) (hl : l.length ≤ 1000) (hid : ∀ v ∈ l, 0 ≤ v.id ∧ v.id < 32) (hnd : (l.map (·.id)).Nodup) (hb : ∀ v ∈ l, v.before.length ≤ 1000) : Pure Try.prog G0 31 [encVs l] (.mp (cK (l.map (·.id))) (cP (pastsGo l [] []))) := by
  refine pure_of_body hG0 Try.func31 rfl (by kernel_rfl) (by simp [Try.ntmps31]) (by simp [inL, tree_encVs]) (by simp only [inR, tree_cK, tree_cP, Bool.and_self]) ?_
  simp only [Try.ntmps31, enterF, Nat.reduceAdd]
  repeat' (first | (refine awp_seq_k fun _ _ => ?_) | (refine awp_block ?_) | ((first | (refine awp_rgn ?_) | (refine awp_any (by kernel_rfl) (by kernel_rfl) ?_) | (refine awp_cond_k fun _ _ _ _ => ?_)) <;> simp only [amS, amL, tyS, amB, Nat.reduceLT, Nat.reduceEqDiff, Nat.reduceAdd, Nat.reduceMul, Nat.reduceSub, Nat.reduceLeDiff, reduceCtorEq, encVs]) | (refine guard_split (fun hg => ?_) (fun hg => ?_) <;> simp only [hg, amS, amL, tyS, amB, Nat.reduceLT, Nat.reduceEqDiff, Nat.reduceAdd, Nat.reduceMul, Nat.reduceSub, Nat.reduceLeDiff, reduceCtorEq, encVs]) | (refine awp_skip ?_; simp only [amS]) | (refine awp_exit ?_; simp only [amS, if_true, if_false, Nat.reduceEqDiff]) | (refine awp_ret ?_; try simp only [amS]) | (refine Cont.go (by assumption) ?_) | (refine Arm.go (by assumption) ?_))
  refine awp_loop_r (α := {q : Nat × List (Nat → Bool) // q.1 ≤ l.length ∧ q.2.length = q.1 ∧ pastsGo (l.drop q.1) ((l.take q.1).map (·.id)) q.2 = pastsGo l [] []}) (fun q => [(3, .omp 0), (12, encVs l), (13, .int .i64 l.length), (14, .int .i64 q.1.1)]) (fun q => [.map (cK ((l.take q.1.1).map (·.id))) (cP q.1.2)]) (fun q => l.length - q.1.1) ⟨(0, []), Nat.zero_le _, rfl, rfl⟩ (Weak.ref ⟨?_, .inl ?_⟩) ?_
  · simp [amS, encVs]
  · simp [amS, cK, cP]
  · rintro ⟨⟨k, vs⟩, hk, hvl, hgo⟩ K2 hK2
    simp only at hk hvl hgo
    repeat' (first | (refine awp_seq_k fun _ _ => ?_) | (refine awp_block ?_) | ((first | (refine awp_rgn ?_) | (refine awp_any (by kernel_rfl) (by kernel_rfl) ?_) | (refine awp_cond_k fun _ _ _ _ => ?_)) <;> simp only [amS, amL, tyS, amB, Nat.reduceLT, Nat.reduceEqDiff, Nat.reduceAdd, Nat.reduceMul, Nat.reduceSub, Nat.reduceLeDiff, reduceCtorEq]) | (refine guard_split (fun hg => ?_) (fun hg => ?_) <;> simp only [hg, amS, amL, tyS, amB, Nat.reduceLT, Nat.reduceEqDiff, Nat.reduceAdd, Nat.reduceMul, Nat.reduceSub, Nat.reduceLeDiff, reduceCtorEq]) | (refine awp_skip ?_; simp only [amS]) | (refine awp_ret ?_; try simp only [amS]) | (refine Cont.go (by assumption) ?_) | (refine Arm.go (by assumption) ?_))
    refine ⟨fun h => ?_, fun h => ?_⟩
    · have hlt : k < l.length := by simpa using h
      obtain ⟨v, hv⟩ : ∃ v, l[k]? = some v := ⟨_, List.getElem?_eq_getElem hlt⟩
      obtain ⟨hid0, hid1⟩ := hid v (List.mem_of_getElem? hv)
      have hvb := hb v (List.mem_of_getElem? hv)
      have hw := wrap_succ (k := k) hlt (by omega)
      have hnew := nodup_new hnd hv
      have hks : ((l.take k).map (·.id)).length = vs.length := by rw [List.length_map, List.length_take]; omega
      have hks2 : (l.take (k + 1)).map (·.id) = (l.take k).map (·.id) ++ [v.id] := by rw [take_succ_some hv]; simp
      rw [drop_cons hv] at hgo
      simp only [pastsGo] at hgo
      generalize hKS : (l.take k).map (·.id) = ks at hgo hnew hks hks2 ⊢
      repeat' (first | (refine awp_seq_k fun _ _ => ?_) | (refine awp_block ?_) | (refine awp_cond_k fun _ _ _ _ => ?_; simp only [amS, amL, tyS, amB, Nat.reduceLT, Nat.reduceEqDiff, Nat.reduceAdd, Nat.reduceMul, Nat.reduceSub, Nat.reduceLeDiff, reduceCtorEq]) | (refine awp_skip ?_; simp only [amS]) | (refine awp_exit ?_; simp only [amS, if_true, if_false, Nat.reduceEqDiff]) | (refine awp_ret ?_; try simp only [amS]) | (refine Cont.go (by assumption) ?_) | (refine Arm.go (by assumption) ?_))
      refine awp_rgn ?_
      simp only [amS, amL, tyS, amB, Nat.reduceLT, Nat.reduceEqDiff, Nat.reduceAdd, Nat.reduceMul, Nat.reduceSub, Nat.reduceLeDiff, reduceCtorEq, hv, encVs, encV, encI]
      refine Cont.go (by assumption) ?_
      refine awp_seq_k fun _ _ => ?_
      refine awp_rgn ?_
      simp only [amS, amL, tyS, amB, Nat.reduceLT, Nat.reduceEqDiff, Nat.reduceAdd, Nat.reduceMul, Nat.reduceSub, Nat.reduceLeDiff, reduceCtorEq]
      refine Cont.go (by assumption) ?_
      refine awp_weak (l := [(3, .omp 0), (12, encVs l), (13, .int .i64 l.length), (14, .int .i64 k), (5, .ptr 1 0 0), (6, .ptr 2 0 0)]) (h := [.map (cK ks) (cP vs), .cells 0 (encV v), .cells 0 (cF noF)]) ⟨?_, .inl ?_⟩ ?_
      · simp only [amS, amL, tyS, amB, Nat.reduceLT, Nat.reduceEqDiff, Nat.reduceAdd, Nat.reduceMul, Nat.reduceSub, Nat.reduceLeDiff, reduceCtorEq, encVs] <;> rfl
      · simp only [amS, amL, tyS, amB, Nat.reduceLT, Nat.reduceEqDiff, Nat.reduceAdd, Nat.reduceMul, Nat.reduceSub, Nat.reduceLeDiff, reduceCtorEq, encV, encI, hKS] <;> rfl
      have hidn : v.id.toNat < 32 := by omega
      have hidm : v.id.toNat ≤ 31 := by omega
      have hsp := cF_set' noF hidn true
      repeat' (first | (refine awp_seq_k fun _ _ => ?_) | (refine awp_block ?_) | ((first | (refine awp_rgn ?_) | (refine awp_any (by kernel_rfl) (by kernel_rfl) ?_) | (refine awp_cond_k fun _ _ _ _ => ?_)) <;> simp only [amS, amL, tyS, amB, Nat.reduceLT, Nat.reduceEqDiff, Nat.reduceAdd, Nat.reduceMul, Nat.reduceSub, Nat.reduceLeDiff, reduceCtorEq, hid0, hidn, hidm, hsp, cF_len, encV, encI, Nat.mul_one]) | (refine guard_split (fun hg => ?_) (fun hg => ?_) <;> simp only [hg, amS, amL, tyS, amB, Nat.reduceLT, Nat.reduceEqDiff, Nat.reduceAdd, Nat.reduceMul, Nat.reduceSub, Nat.reduceLeDiff, reduceCtorEq, hid0, hidn, hidm, hsp, cF_len, encV, encI, Nat.mul_one]) | (refine awp_skip ?_; simp only [amS]) | (refine awp_exit ?_; simp only [amS, if_true, if_false, Nat.reduceEqDiff]) | (refine awp_ret ?_; try simp only [amS]) | (refine Cont.go (by assumption) ?_) | (refine Arm.go (by assumption) ?_))
      refine awp_loop_r (α := {p : Nat × (Nat → Bool) // p.1 ≤ v.before.length ∧ goF ks vs (v.before.drop p.1) p.2 = oneF ks vs v}) (fun p => [(3, .omp 0), (12, encVs l), (13, .int .i64 l.length), (14, .int .i64 k), (5, .ptr 1 0 0), (6, .ptr 2 0 0), (22, encI v.before), (23, .int .i64 v.before.length), (24, .int .i64 p.1.1)]) (fun p => [.map (cK ks) (cP vs), .cells 0 (encV v), .cells 0 (cF p.1.2)]) (fun p => v.before.length - p.1.1) ⟨(0, fun j => if j = v.id.toNat then true else noF j), Nat.zero_le _, rfl⟩ (Weak.ref ⟨?_, .inl ?_⟩) ?_
      · simp only [amS, amL, tyS, amB, Nat.reduceLT, Nat.reduceEqDiff, Nat.reduceAdd, Nat.reduceMul, Nat.reduceSub, Nat.reduceLeDiff, reduceCtorEq, encI] <;> rfl
      · simp only [amS, amL, tyS, amB, Nat.reduceLT, Nat.reduceEqDiff, Nat.reduceAdd, Nat.reduceMul, Nat.reduceSub, Nat.reduceLeDiff, reduceCtorEq, encV, encI] <;> rfl
      · rintro ⟨⟨j, f⟩, hj, hf⟩ K3 hK3
        simp only at hj hf
        repeat' (first | (refine awp_seq_k fun _ _ => ?_) | (refine awp_block ?_) | ((first | (refine awp_rgn ?_) | (refine awp_any (by kernel_rfl) (by kernel_rfl) ?_) | (refine awp_cond_k fun _ _ _ _ => ?_)) <;> simp only [amS, amL, tyS, amB, Nat.reduceLT, Nat.reduceEqDiff, Nat.reduceAdd, Nat.reduceMul, Nat.reduceSub, Nat.reduceLeDiff, reduceCtorEq]) | (refine guard_split (fun hg => ?_) (fun hg => ?_) <;> simp only [hg, amS, amL, tyS, amB, Nat.reduceLT, Nat.reduceEqDiff, Nat.reduceAdd, Nat.reduceMul, Nat.reduceSub, Nat.reduceLeDiff, reduceCtorEq]) | (refine awp_skip ?_; simp only [amS]) | (refine awp_ret ?_; try simp only [amS]) | (refine Cont.go (by assumption) ?_) | (refine Arm.go (by assumption) ?_))
        refine ⟨fun h2 => ?_, fun h2 => ?_⟩
        · have hjl : j < v.before.length := by simpa using h2
          obtain ⟨b, hbj⟩ : ∃ b, v.before[j]? = some b := ⟨_, List.getElem?_eq_getElem hjl⟩
          have hwj := wrap_succ (k := j) hjl (by omega)
          rw [drop_cons hbj] at hf
          simp only [goF] at hf
          have hfi := afind_int ks b 0
          cases hc : afindI ks b 0 with
          | none =>
            rw [hc] at hfi
            obtain ⟨g, hgl⟩ : ∃ g, lookF ks vs b = g := ⟨_, rfl⟩
            have hg0 : g = noF := by rw [← hgl]; simp [lookF, hc]
            repeat' (first | (refine awp_seq_k fun _ _ => ?_) | (refine awp_block ?_) | ((first | (refine awp_rgn ?_) | (refine awp_any (by kernel_rfl) (by kernel_rfl) ?_) | (refine awp_cond_k fun _ _ _ _ => ?_)) <;> simp only [amS, amL, tyS, amB, Nat.reduceLT, Nat.reduceEqDiff, Nat.reduceAdd, Nat.reduceMul, Nat.reduceSub, Nat.reduceLeDiff, reduceCtorEq, hbj, encI, hfi]) | (refine guard_split (fun hg => ?_) (fun hg => ?_) <;> simp only [hg, amS, amL, tyS, amB, Nat.reduceLT, Nat.reduceEqDiff, Nat.reduceAdd, Nat.reduceMul, Nat.reduceSub, Nat.reduceLeDiff, reduceCtorEq, hbj, encI, hfi]) | (refine awp_skip ?_; simp only [amS]) | (refine awp_exit ?_; simp only [amS, if_true, if_false, Nat.reduceEqDiff]) | (refine awp_ret ?_; try simp only [amS]) | (refine Cont.go (by assumption) ?_) | (refine Arm.go (by assumption) ?_))
            have hfg : goF ks vs (v.before.drop (j + 1)) (orF f g) = oneF ks vs v := by rw [← hgl]; exact hf
            refine awp_loop_r (α := {i : Nat // i ≤ 32}) (fun i => [(3, .omp 0), (12, encVs l), (13, .int .i64 l.length), (14, .int .i64 k), (5, .ptr 1 0 0), (6, .ptr 2 0 0), (22, encI v.before), (23, .int .i64 v.before.length), (24, .int .i64 j), (30, .agg (cF g)), (31, .int .i64 i.1)]) (fun i => [.map (cK ks) (cP vs), .cells 0 (encV v), .cells 0 (cF (mixF f g i.1))]) (fun i => 32 - i.1) ⟨0, by omega⟩ (Weak.ref ⟨?_, .inl ?_⟩) ?_
            · simp only [amS, amL, tyS, amB, Nat.reduceLT, Nat.reduceEqDiff, Nat.reduceAdd, Nat.reduceMul, Nat.reduceSub, Nat.reduceLeDiff, reduceCtorEq, encI] <;> first | rfl | exact ⟨rfl, rfl⟩ | (subst hg0; rfl) | (subst hg0; exact ⟨rfl, rfl⟩) | (subst hg0; exact ⟨rfl, rfl, rfl⟩)
            · simp only [amS, amL, tyS, amB, Nat.reduceLT, Nat.reduceEqDiff, Nat.reduceAdd, Nat.reduceMul, Nat.reduceSub, Nat.reduceLeDiff, reduceCtorEq, mix0] <;> rfl
            · rintro ⟨i, hi⟩ K4 hK4
              repeat' (first | (refine awp_seq_k fun _ _ => ?_) | (refine awp_block ?_) | ((first | (refine awp_rgn ?_) | (refine awp_any (by kernel_rfl) (by kernel_rfl) ?_) | (refine awp_cond_k fun _ _ _ _ => ?_)) <;> simp only [amS, amL, tyS, amB, Nat.reduceLT, Nat.reduceEqDiff, Nat.reduceAdd, Nat.reduceMul, Nat.reduceSub, Nat.reduceLeDiff, reduceCtorEq]) | (refine guard_split (fun hg => ?_) (fun hg => ?_) <;> simp only [hg, amS, amL, tyS, amB, Nat.reduceLT, Nat.reduceEqDiff, Nat.reduceAdd, Nat.reduceMul, Nat.reduceSub, Nat.reduceLeDiff, reduceCtorEq]) | (refine awp_skip ?_; simp only [amS]) | (refine awp_ret ?_; try simp only [amS]) | (refine Cont.go (by assumption) ?_) | (refine Arm.go (by assumption) ?_))
              refine ⟨fun h3 => ?_, fun h3 => ?_⟩
              · have hi2 : i < 32 := by simp at h3; omega
                have hi3 : i ≤ 31 := by omega
                have hwi := wrap_succ (k := i) hi2 (by omega)
                have hgi := cF_get g hi2
                have hdr := cF_head (mixF f g i) hi2
                rw [mixF_self] at hdr
                have hs1 := cF_set' (mixF f g i) hi2 true
                have hs2 := cF_set' (mixF f g i) hi2 (g i)
                repeat' (first | (refine awp_seq_k fun _ _ => ?_) | (refine awp_block ?_) | ((first | (refine awp_rgn ?_) | (refine awp_any (by kernel_rfl) (by kernel_rfl) ?_) | (refine awp_cond_k fun _ _ _ _ => ?_)) <;> simp only [amS, amL, tyS, amB, Nat.reduceLT, Nat.reduceEqDiff, Nat.reduceAdd, Nat.reduceMul, Nat.reduceSub, Nat.reduceLeDiff, reduceCtorEq, hgi, hdr, hi2, hi3, cF_len, Nat.mul_one, hs1, hs2, hwi]) | (refine guard_split (fun hg => ?_) (fun hg => ?_) <;> simp only [hg, amS, amL, tyS, amB, Nat.reduceLT, Nat.reduceEqDiff, Nat.reduceAdd, Nat.reduceMul, Nat.reduceSub, Nat.reduceLeDiff, reduceCtorEq, hgi, hdr, hi2, hi3, cF_len, Nat.mul_one, hs1, hs2, hwi]) | (refine awp_skip ?_; simp only [amS]) | (refine awp_exit ?_; simp only [amS, if_true, if_false, Nat.reduceEqDiff]) | (refine awp_ret ?_; try simp only [amS]) | (refine Cont.go (by assumption) ?_) | (refine Arm.go (by assumption) ?_))
                · have hfi : f i = true := by assumption
                  refine AgainR.go hK4 ⟨i + 1, hi2⟩ (Weak.ref ⟨?_, .inl ?_⟩) (by simp; omega)
                  · simp only [amS, amL, tyS, amB, Nat.reduceLT, Nat.reduceEqDiff, Nat.reduceAdd, Nat.reduceMul, Nat.reduceSub, Nat.reduceLeDiff, reduceCtorEq]
                  · have e : cF (fun j => if j = i then true else mixF f g i j) = cF (mixF f g (i + 1)) := cF_congr fun q _ => mix_step f g i q true (by rw [hfi]; rfl)
                    simp only [amS, amL, tyS, amB, Nat.reduceLT, Nat.reduceEqDiff, Nat.reduceAdd, Nat.reduceMul, Nat.reduceSub, Nat.reduceLeDiff, reduceCtorEq, e]
                · have hfi : f i = false := by assumption
                  refine AgainR.go hK4 ⟨i + 1, hi2⟩ (Weak.ref ⟨?_, .inl ?_⟩) (by simp; omega)
                  · simp only [amS, amL, tyS, amB, Nat.reduceLT, Nat.reduceEqDiff, Nat.reduceAdd, Nat.reduceMul, Nat.reduceSub, Nat.reduceLeDiff, reduceCtorEq]
                  · have e : cF (fun j => if j = i then g i else mixF f g i j) = cF (mixF f g (i + 1)) := cF_congr fun q _ => mix_step f g i q (g i) (by rw [hfi]; rfl)
                    simp only [amS, amL, tyS, amB, Nat.reduceLT, Nat.reduceEqDiff, Nat.reduceAdd, Nat.reduceMul, Nat.reduceSub, Nat.reduceLeDiff, reduceCtorEq, e]
              · have hi2 : i = 32 := by simp at h3; omega
                subst hi2
                repeat' (first | (refine awp_seq_k fun _ _ => ?_) | (refine awp_block ?_) | ((first | (refine awp_rgn ?_) | (refine awp_any (by kernel_rfl) (by kernel_rfl) ?_) | (refine awp_cond_k fun _ _ _ _ => ?_)) <;> simp only [amS, amL, tyS, amB, Nat.reduceLT, Nat.reduceEqDiff, Nat.reduceAdd, Nat.reduceMul, Nat.reduceSub, Nat.reduceLeDiff, reduceCtorEq, hwj]) | (refine guard_split (fun hg => ?_) (fun hg => ?_) <;> simp only [hg, amS, amL, tyS, amB, Nat.reduceLT, Nat.reduceEqDiff, Nat.reduceAdd, Nat.reduceMul, Nat.reduceSub, Nat.reduceLeDiff, reduceCtorEq, hwj]) | (refine awp_skip ?_; simp only [amS]) | (refine awp_exit ?_; simp only [amS, if_true, if_false, Nat.reduceEqDiff]) | (refine awp_ret ?_; try simp only [amS]) | (refine Cont.go (by assumption) ?_) | (refine Arm.go (by assumption) ?_))
                refine AgainR.go hK3 ⟨(j + 1, orF f g), hjl, hfg⟩ (Weak.ref ⟨?_, .inl ?_⟩) (by simp; omega)
                · simp only [amS, amL, tyS, amB, Nat.reduceLT, Nat.reduceEqDiff, Nat.reduceAdd, Nat.reduceMul, Nat.reduceSub, Nat.reduceLeDiff, reduceCtorEq]
                · have e : cF (mixF f g 32) = cF (orF f g) := cF_congr fun q hq => by simp [mixF, orF, hq]
                  simp only [amS, amL, tyS, amB, Nat.reduceLT, Nat.reduceEqDiff, Nat.reduceAdd, Nat.reduceMul, Nat.reduceSub, Nat.reduceLeDiff, reduceCtorEq, e]
          | some jx =>
            rw [hc] at hfi
            obtain ⟨g, hgl⟩ : ∃ g, lookF ks vs b = g := ⟨_, rfl⟩
            have hjx := afindI_lt ks b 0 jx hc
            have hpg := cP_get (vs := vs) (j := jx) (by omega)
            have hg0 : vs.getD jx noF = g := by rw [← hgl]; simp [lookF, hc]
            rw [hg0] at hpg
            repeat' (first | (refine awp_seq_k fun _ _ => ?_) | (refine awp_block ?_) | ((first | (refine awp_rgn ?_) | (refine awp_any (by kernel_rfl) (by kernel_rfl) ?_) | (refine awp_cond_k fun _ _ _ _ => ?_)) <;> simp only [amS, amL, tyS, amB, Nat.reduceLT, Nat.reduceEqDiff, Nat.reduceAdd, Nat.reduceMul, Nat.reduceSub, Nat.reduceLeDiff, reduceCtorEq, hbj, encI, hfi, hpg]) | (refine guard_split (fun hg => ?_) (fun hg => ?_) <;> simp only [hg, amS, amL, tyS, amB, Nat.reduceLT, Nat.reduceEqDiff, Nat.reduceAdd, Nat.reduceMul, Nat.reduceSub, Nat.reduceLeDiff, reduceCtorEq, hbj, encI, hfi, hpg]) | (refine awp_skip ?_; simp only [amS]) | (refine awp_exit ?_; simp only [amS, if_true, if_false, Nat.reduceEqDiff]) | (refine awp_ret ?_; try simp only [amS]) | (refine Cont.go (by assumption) ?_) | (refine Arm.go (by assumption) ?_))
            have hfg : goF ks vs (v.before.drop (j + 1)) (orF f g) = oneF ks vs v := by rw [← hgl]; exact hf
            refine awp_loop_r (α := {i : Nat // i ≤ 32}) (fun i => [(3, .omp 0), (12, encVs l), (13, .int .i64 l.length), (14, .int .i64 k), (5, .ptr 1 0 0), (6, .ptr 2 0 0), (22, encI v.before), (23, .int .i64 v.before.length), (24, .int .i64 j), (30, .agg (cF g)), (31, .int .i64 i.1)]) (fun i => [.map (cK ks) (cP vs), .cells 0 (encV v), .cells 0 (cF (mixF f g i.1))]) (fun i => 32 - i.1) ⟨0, by omega⟩ (Weak.ref ⟨?_, .inl ?_⟩) ?_
            · simp only [amS, amL, tyS, amB, Nat.reduceLT, Nat.reduceEqDiff, Nat.reduceAdd, Nat.reduceMul, Nat.reduceSub, Nat.reduceLeDiff, reduceCtorEq, encI] <;> first | rfl | exact ⟨rfl, rfl⟩ | exact ⟨rfl, rfl, rfl⟩
            · simp only [amS, amL, tyS, amB, Nat.reduceLT, Nat.reduceEqDiff, Nat.reduceAdd, Nat.reduceMul, Nat.reduceSub, Nat.reduceLeDiff, reduceCtorEq, mix0] <;> rfl
            · rintro ⟨i, hi⟩ K4 hK4
              repeat' (first | (refine awp_seq_k fun _ _ => ?_) | (refine awp_block ?_) | ((first | (refine awp_rgn ?_) | (refine awp_any (by kernel_rfl) (by kernel_rfl) ?_) | (refine awp_cond_k fun _ _ _ _ => ?_)) <;> simp only [amS, amL, tyS, amB, Nat.reduceLT, Nat.reduceEqDiff, Nat.reduceAdd, Nat.reduceMul, Nat.reduceSub, Nat.reduceLeDiff, reduceCtorEq]) | (refine guard_split (fun hg => ?_) (fun hg => ?_) <;> simp only [hg, amS, amL, tyS, amB, Nat.reduceLT, Nat.reduceEqDiff, Nat.reduceAdd, Nat.reduceMul, Nat.reduceSub, Nat.reduceLeDiff, reduceCtorEq]) | (refine awp_skip ?_; simp only [amS]) | (refine awp_ret ?_; try simp only [amS]) | (refine Cont.go (by assumption) ?_) | (refine Arm.go (by assumption) ?_))
              refine ⟨fun h3 => ?_, fun h3 => ?_⟩
              · have hi2 : i < 32 := by simp at h3; omega
                have hi3 : i ≤ 31 := by omega
                have hwi := wrap_succ (k := i) hi2 (by omega)
                have hgi := cF_get g hi2
                have hdr := cF_head (mixF f g i) hi2
                rw [mixF_self] at hdr
                have hs1 := cF_set' (mixF f g i) hi2 true
                have hs2 := cF_set' (mixF f g i) hi2 (g i)
                repeat' (first | (refine awp_seq_k fun _ _ => ?_) | (refine awp_block ?_) | ((first | (refine awp_rgn ?_) | (refine awp_any (by kernel_rfl) (by kernel_rfl) ?_) | (refine awp_cond_k fun _ _ _ _ => ?_)) <;> simp only [amS, amL, tyS, amB, Nat.reduceLT, Nat.reduceEqDiff, Nat.reduceAdd, Nat.reduceMul, Nat.reduceSub, Nat.reduceLeDiff, reduceCtorEq, hgi, hdr, hi2, hi3, cF_len, Nat.mul_one, hs1, hs2, hwi]) | (refine guard_split (fun hg => ?_) (fun hg => ?_) <;> simp only [hg, amS, amL, tyS, amB, Nat.reduceLT, Nat.reduceEqDiff, Nat.reduceAdd, Nat.reduceMul, Nat.reduceSub, Nat.reduceLeDiff, reduceCtorEq, hgi, hdr, hi2, hi3, cF_len, Nat.mul_one, hs1, hs2, hwi]) | (refine awp_skip ?_; simp only [amS]) | (refine awp_exit ?_; simp only [amS, if_true, if_false, Nat.reduceEqDiff]) | (refine awp_ret ?_; try simp only [amS]) | (refine Cont.go (by assumption) ?_) | (refine Arm.go (by assumption) ?_))
                · have hfi : f i = true := by assumption
                  refine AgainR.go hK4 ⟨i + 1, hi2⟩ (Weak.ref ⟨?_, .inl ?_⟩) (by simp; omega)
                  · simp only [amS, amL, tyS, amB, Nat.reduceLT, Nat.reduceEqDiff, Nat.reduceAdd, Nat.reduceMul, Nat.reduceSub, Nat.reduceLeDiff, reduceCtorEq]
                  · have e : cF (fun j => if j = i then true else mixF f g i j) = cF (mixF f g (i + 1)) := cF_congr fun q _ => mix_step f g i q true (by rw [hfi]; rfl)
                    simp only [amS, amL, tyS, amB, Nat.reduceLT, Nat.reduceEqDiff, Nat.reduceAdd, Nat.reduceMul, Nat.reduceSub, Nat.reduceLeDiff, reduceCtorEq, e]
                · have hfi : f i = false := by assumption
                  refine AgainR.go hK4 ⟨i + 1, hi2⟩ (Weak.ref ⟨?_, .inl ?_⟩) (by simp; omega)
                  · simp only [amS, amL, tyS, amB, Nat.reduceLT, Nat.reduceEqDiff, Nat.reduceAdd, Nat.reduceMul, Nat.reduceSub, Nat.reduceLeDiff, reduceCtorEq]
                  · have e : cF (fun j => if j = i then g i else mixF f g i j) = cF (mixF f g (i + 1)) := cF_congr fun q _ => mix_step f g i q (g i) (by rw [hfi]; rfl)
                    simp only [amS, amL, tyS, amB, Nat.reduceLT, Nat.reduceEqDiff, Nat.reduceAdd, Nat.reduceMul, Nat.reduceSub, Nat.reduceLeDiff, reduceCtorEq, e]
              · have hi2 : i = 32 := by simp at h3; omega
                subst hi2
                repeat' (first | (refine awp_seq_k fun _ _ => ?_) | (refine awp_block ?_) | ((first | (refine awp_rgn ?_) | (refine awp_any (by kernel_rfl) (by kernel_rfl) ?_) | (refine awp_cond_k fun _ _ _ _ => ?_)) <;> simp only [amS, amL, tyS, amB, Nat.reduceLT, Nat.reduceEqDiff, Nat.reduceAdd, Nat.reduceMul, Nat.reduceSub, Nat.reduceLeDiff, reduceCtorEq, hwj]) | (refine guard_split (fun hg => ?_) (fun hg => ?_) <;> simp only [hg, amS, amL, tyS, amB, Nat.reduceLT, Nat.reduceEqDiff, Nat.reduceAdd, Nat.reduceMul, Nat.reduceSub, Nat.reduceLeDiff, reduceCtorEq, hwj]) | (refine awp_skip ?_; simp only [amS]) | (refine awp_exit ?_; simp only [amS, if_true, if_false, Nat.reduceEqDiff]) | (refine awp_ret ?_; try simp only [amS]) | (refine Cont.go (by assumption) ?_) | (refine Arm.go (by assumption) ?_))
                refine AgainR.go hK3 ⟨(j + 1, orF f g), hjl, hfg⟩ (Weak.ref ⟨?_, .inl ?_⟩) (by simp; omega)
                · simp only [amS, amL, tyS, amB, Nat.reduceLT, Nat.reduceEqDiff, Nat.reduceAdd, Nat.reduceMul, Nat.reduceSub, Nat.reduceLeDiff, reduceCtorEq]
                · have e : cF (mixF f g 32) = cF (orF f g) := cF_congr fun q hq => by simp [mixF, orF, hq]
                  simp only [amS, amL, tyS, amB, Nat.reduceLT, Nat.reduceEqDiff, Nat.reduceAdd, Nat.reduceMul, Nat.reduceSub, Nat.reduceLeDiff, reduceCtorEq, e]
        · have hjl : j = v.before.length := by simp at h2; omega
          subst hjl
          rw [List.drop_length] at hf
          simp only [goF] at hf
          have hfi := afind_int ks v.id 0
          rw [afindI_none ks v.id 0 hnew] at hfi
          have hct : (cF f).take 32 = cF f := List.take_of_length_le (by rw [cF_len]; exact Nat.le_refl _)
          rw [← hf] at hgo
          repeat' (first | (refine awp_seq_k fun _ _ => ?_) | (refine awp_block ?_) | ((first | (refine awp_rgn ?_) | (refine awp_any (by kernel_rfl) (by kernel_rfl) ?_) | (refine awp_cond_k fun _ _ _ _ => ?_)) <;> simp only [amS, amL, tyS, amB, Nat.reduceLT, Nat.reduceEqDiff, Nat.reduceAdd, Nat.reduceMul, Nat.reduceSub, Nat.reduceLeDiff, reduceCtorEq, hfi, hct, cF_len, encV, hw, Nat.le_refl]) | (refine guard_split (fun hg => ?_) (fun hg => ?_) <;> simp only [hg, amS, amL, tyS, amB, Nat.reduceLT, Nat.reduceEqDiff, Nat.reduceAdd, Nat.reduceMul, Nat.reduceSub, Nat.reduceLeDiff, reduceCtorEq, hfi, hct, cF_len, encV, hw, Nat.le_refl]) | (refine awp_skip ?_; simp only [amS]) | (refine awp_exit ?_; simp only [amS, if_true, if_false, Nat.reduceEqDiff]) | (refine awp_ret ?_; try simp only [amS]) | (refine Cont.go (by assumption) ?_) | (refine Arm.go (by assumption) ?_))
          refine AgainR.go hK2 ⟨(k + 1, vs ++ [f]), hlt, by simp [hvl], by rw [hks2]; exact hgo⟩ (Weak.ref ⟨?_, .inr ⟨Nat.zero_le _, ?_, fun g cs hg => (by cases hg), ?_, ?_⟩⟩) (by simp; omega)
          · simp only [amS, amL, tyS, amB, Nat.reduceLT, Nat.reduceEqDiff, Nat.reduceAdd, Nat.reduceMul, Nat.reduceSub, Nat.reduceLeDiff, reduceCtorEq]
          · simp only [amS, amL, tyS, amB, Nat.reduceLT, Nat.reduceEqDiff, Nat.reduceAdd, Nat.reduceMul, Nat.reduceSub, Nat.reduceLeDiff, reduceCtorEq, hks2, cP_snoc, cK_snoc]
          · intro q hq
            simp only [List.mem_cons, List.not_mem_nil, or_false] at hq
            rcases hq with rfl | rfl | rfl | rfl
            · simp [inR]
            · exact inR_mono (p := noRef) (fun r hr => by cases hr) (tree_encVs l)
            · rfl
            · rfl
          · simp only [List.all_cons, List.all_nil, Bool.and_true, rowIn, Bool.and_eq_true]
            exact ⟨inL_mono (p := noRef) (fun r hr => by cases hr) (tree_cK _), inL_mono (p := noRef) (fun r hr => by cases hr) (tree_cP _)⟩
    · repeat' (first | (refine awp_seq_k fun _ _ => ?_) | (refine awp_block ?_) | (refine awp_cond_k fun _ _ _ _ => ?_; simp only [amS, amL, tyS, amB, Nat.reduceLT, Nat.reduceEqDiff, Nat.reduceAdd, Nat.reduceMul, Nat.reduceSub, Nat.reduceLeDiff, reduceCtorEq]) | (refine awp_skip ?_; simp only [amS]) | (refine awp_exit ?_; simp only [amS, if_true, if_false, Nat.reduceEqDiff]) | (refine awp_ret ?_; try simp only [amS]) | (refine Cont.go (by assumption) ?_) | (refine Arm.go (by assumption) ?_))
      have hkl : k = l.length := by simp at h; omega
      subst hkl
      rw [List.drop_length] at hgo
      simp only [pastsGo] at hgo
      rw [hgo, List.take_length]
      refine awp_freeze [0] [(3, .mp (cK (l.map (·.id))) (cP (pastsGo l [] [])))] [.dead] (by simp only [amS, amL, tyS, amB, Nat.reduceLT, Nat.reduceEqDiff, Nat.reduceAdd, Nat.reduceMul, Nat.reduceSub, Nat.reduceLeDiff, reduceCtorEq] <;> rfl) ⟨.inr ?_, trivial⟩ ?_ ?_
      · simp only [amS, amL, tyS, amB, Nat.reduceLT, Nat.reduceEqDiff, Nat.reduceAdd, Nat.reduceMul, Nat.reduceSub, Nat.reduceLeDiff, reduceCtorEq]
        exact .omp (by simp) (by simp only [amS, amL, tyS, amB, Nat.reduceLT, Nat.reduceEqDiff, Nat.reduceAdd, Nat.reduceMul, Nat.reduceSub, Nat.reduceLeDiff, reduceCtorEq] <;> rfl) (tree_cK _) (tree_cP _)
      · simp only [amS, amL, tyS, amB, Nat.reduceLT, Nat.reduceEqDiff, Nat.reduceAdd, Nat.reduceMul, Nat.reduceSub, Nat.reduceLeDiff, reduceCtorEq]
        simp [FrzH, FrzRow]
      · repeat' (first | (refine awp_seq_k fun _ _ => ?_) | (refine awp_block ?_) | ((first | (refine awp_rgn ?_) | (refine awp_any (by kernel_rfl) (by kernel_rfl) ?_) | (refine awp_cond_k fun _ _ _ _ => ?_)) <;> simp only [amS, amL, tyS, amB, Nat.reduceLT, Nat.reduceEqDiff, Nat.reduceAdd, Nat.reduceMul, Nat.reduceSub, Nat.reduceLeDiff, reduceCtorEq]) | (refine guard_split (fun hg => ?_) (fun hg => ?_) <;> simp only [hg, amS, amL, tyS, amB, Nat.reduceLT, Nat.reduceEqDiff, Nat.reduceAdd, Nat.reduceMul, Nat.reduceSub, Nat.reduceLeDiff, reduceCtorEq]) | (refine awp_skip ?_; simp only [amS]) | (refine awp_exit ?_; simp only [amS, if_true, if_false, Nat.reduceEqDiff]) | (refine awp_ret ?_; try simp only [amS]) | (refine Cont.go (by assumption) ?_) | (refine Arm.go (by assumption) ?_))
        refine body_ret1 rfl ?_
        simp only [amS, if_true, if_false]

end Go.Proofs.Ytgenkkejlggmnaa
