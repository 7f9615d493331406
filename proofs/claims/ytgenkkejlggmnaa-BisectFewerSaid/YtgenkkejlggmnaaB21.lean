import Derived.Test.YtgenkkejlggmnaaB20
set_option linter.unusedVariables false
set_option linter.unusedSimpArgs false
namespace Go.Proofs.Ytgenkkejlggmnaa
open Go.AM

def cntB (g : Nat → Bool) (s : List Int) : Nat := (s.filter fun x => g x.toNat).length
def scoreB (g : Nat → Bool) (s : List Int) : Int := if (s.length : Int) - (cntB g s : Int) < (cntB g s : Int) then (s.length : Int) - (cntB g s : Int) else (cntB g s : Int)
def bestB (ks : List Int) (vs : List (Nat → Bool)) (s : List Int) : List Int → Int → Int → Int × Int
  | [], best, most => (best, most)
  | p :: ps, best, most => if scoreB (lookF ks vs p) s > most then bestB ks vs s ps p (scoreB (lookF ks vs p) s) else bestB ks vs s ps best most
theorem cntB_le (g : Nat → Bool) (s : List Int) : cntB g s ≤ s.length := List.length_filter_le _ _
def suspB (l : List V) (id : Int) (good bad : List Int) : List Int := idsF (suspF good bad (l.map (·.id)) (pastsGo l [] []) id)
def nextB (l : List V) (id : Int) (good bad : List Int) : Int × Int :=
  if errB l id ≠ 0 then (0, errB l id) else if (bestB (l.map (·.id)) (pastsGo l [] []) (suspB l id good bad) (suspB l id good bad) 0 (-1)).2 < 0 then (0, 21)
  else ((bestB (l.map (·.id)) (pastsGo l [] []) (suspB l id good bad) (suspB l id good bad) 0 (-1)).1, 0)
theorem idsF_mem {f : Nat → Bool} {x : Int} (h : x ∈ idsF f) : 0 ≤ x ∧ x < 32 := by
  unfold idsF idsOf idsK at h
  obtain ⟨i, hi, rfl⟩ := List.mem_map.1 h
  have := List.mem_range.1 (List.mem_filter.1 hi).1
  omega
theorem idsF_len (f : Nat → Bool) : (idsF f).length ≤ 32 := idsK_len _ _
theorem errB_has {l : List V} {id : Int} (h : errB l id = 0) : hasL (l.map (·.id)) id = true := by
  unfold errB at h
  split at h
  · split at h
    · assumption
    · cases h
  · cases h

set_option maxHeartbeats 4000000 in
theorem next_20 (l : List V) (id : Int) (good bad : List Int) (hl : l.length ≤ 1000) (hb : ∀ v ∈ l, v.before.length ≤ 1000) (hgood : Small good.length) (hbad : Small bad.length) : Pure Try.prog G0 20 [encVs l, .int .i64 id, encI good, encI bad] (.tup [.int .i64 (nextB l id good bad).1, .int .i64 (nextB l id good bad).2]) := by
  refine pure_of_body hG0 Try.func20 rfl (by kernel_rfl) (by simp [Try.ntmps20]) (by simp [inL, inR, tree_encVs, tree_encI]) (by simp [inR, inL]) ?_
  simp only [Try.ntmps20, enterF, Nat.reduceAdd]
  repeat' (first | (refine awp_seq_k fun _ _ => ?_) | (refine awp_block ?_) | ((first | (refine awp_rgn ?_) | (refine awp_any (by kernel_rfl) (by kernel_rfl) ?_) | (refine awp_cond_k fun _ _ _ _ => ?_)) <;> simp only [amS, amL, tyS, amB, Nat.reduceLT, Nat.reduceEqDiff, Nat.reduceAdd, Nat.reduceMul, Nat.reduceSub, Nat.reduceLeDiff, reduceCtorEq]) | (refine guard_split (fun hg => ?_) (fun hg => ?_) <;> simp only [hg, amS, amL, tyS, amB, Nat.reduceLT, Nat.reduceEqDiff, Nat.reduceAdd, Nat.reduceMul, Nat.reduceSub, Nat.reduceLeDiff, reduceCtorEq]) | (refine awp_skip ?_; simp only [amS]) | (refine awp_exit ?_; simp only [amS, if_true, if_false, Nat.reduceEqDiff]) | (refine awp_ret ?_; try simp only [amS]) | (refine Cont.go (by assumption) ?_) | (refine Arm.go (by assumption) ?_))
  by_cases he : errB l id = 0
  case neg =>
    refine callR_tree hG0 (begin_34e l id hl hb he) ?_
    simp only [amS, amL, tyS, amB, Nat.reduceLT, Nat.reduceEqDiff, Nat.reduceAdd, Nat.reduceMul, Nat.reduceSub, Nat.reduceLeDiff, reduceCtorEq]
    repeat' (first | (refine awp_seq_k fun _ _ => ?_) | (refine awp_block ?_) | ((first | (refine awp_rgn ?_) | (refine awp_any (by kernel_rfl) (by kernel_rfl) ?_) | (refine awp_cond_k fun _ _ _ _ => ?_)) <;> simp only [amS, amL, tyS, amB, Nat.reduceLT, Nat.reduceEqDiff, Nat.reduceAdd, Nat.reduceMul, Nat.reduceSub, Nat.reduceLeDiff, reduceCtorEq]) | (refine guard_split (fun hg => ?_) (fun hg => ?_) <;> simp only [hg, amS, amL, tyS, amB, Nat.reduceLT, Nat.reduceEqDiff, Nat.reduceAdd, Nat.reduceMul, Nat.reduceSub, Nat.reduceLeDiff, reduceCtorEq]) | (refine awp_skip ?_; simp only [amS]) | (refine awp_exit ?_; simp only [amS, if_true, if_false, Nat.reduceEqDiff]) | (refine awp_ret ?_; try simp only [amS]) | (refine Cont.go (by assumption) ?_) | (refine Arm.go (by assumption) ?_))
    refine ⟨fun h => ?_, fun h => ?_⟩
    · repeat' (first | (refine awp_seq_k fun _ _ => ?_) | (refine awp_block ?_) | ((first | (refine awp_rgn ?_) | (refine awp_any (by kernel_rfl) (by kernel_rfl) ?_) | (refine awp_cond_k fun _ _ _ _ => ?_)) <;> simp only [amS, amL, tyS, amB, Nat.reduceLT, Nat.reduceEqDiff, Nat.reduceAdd, Nat.reduceMul, Nat.reduceSub, Nat.reduceLeDiff, reduceCtorEq]) | (refine guard_split (fun hg => ?_) (fun hg => ?_) <;> simp only [hg, amS, amL, tyS, amB, Nat.reduceLT, Nat.reduceEqDiff, Nat.reduceAdd, Nat.reduceMul, Nat.reduceSub, Nat.reduceLeDiff, reduceCtorEq]) | (refine awp_skip ?_; simp only [amS]) | (refine awp_exit ?_; simp only [amS, if_true, if_false, Nat.reduceEqDiff]) | (refine awp_ret ?_; try simp only [amS]) | (refine Cont.go (by assumption) ?_) | (refine Arm.go (by assumption) ?_))
      refine body_ret2 rfl ?_
      simp only [amS, if_true, if_false, Nat.reduceEqDiff]
      rw [nextB, if_pos he]
    · exact absurd (by simpa using h) he
  case pos =>
    refine callR_tree hG0 (begin_34 l id hl hb he) ?_
    have hnx : nextB l id good bad = if (bestB (l.map (·.id)) (pastsGo l [] []) (suspB l id good bad) (suspB l id good bad) 0 (-1)).2 < 0 then (0, 21) else ((bestB (l.map (·.id)) (pastsGo l [] []) (suspB l id good bad) (suspB l id good bad) 0 (-1)).1, 0) := by rw [nextB, if_neg (by simpa using he)]
    have hhas := errB_has he
    have hvl : (pastsGo l [] []).length = (l.map (·.id)).length := by rw [pastsGo_len]; simp
    have hsu : suspB l id good bad = idsF (suspF good bad (l.map (·.id)) (pastsGo l [] []) id) := rfl
    generalize l.map (·.id) = ks at *
    generalize pastsGo l [] [] = vs at *
    cases ks with
    | nil => cases hhas
    | cons k0 ks' =>
    have hsusp := suspects_41 k0 ks' vs id good bad (by simpa using hvl) hhas hgood hbad
    rw [← hsu] at hsusp
    have hrange : ∀ x ∈ suspB l id good bad, 0 ≤ x ∧ x < 32 := fun x hx => idsF_mem (by rw [hsu] at hx; exact hx)
    have hsl : (suspB l id good bad).length ≤ 32 := by rw [hsu]; exact idsF_len _
    generalize suspB l id good bad = s at *
    generalize hks : k0 :: ks' = ks at *
    simp only [amS, amL, tyS, amB, Nat.reduceLT, Nat.reduceEqDiff, Nat.reduceAdd, Nat.reduceMul, Nat.reduceSub, Nat.reduceLeDiff, reduceCtorEq]
    repeat' (first | (refine awp_seq_k fun _ _ => ?_) | (refine awp_block ?_) | ((first | (refine awp_rgn ?_) | (refine awp_any (by kernel_rfl) (by kernel_rfl) ?_) | (refine awp_cond_k fun _ _ _ _ => ?_)) <;> simp only [amS, amL, tyS, amB, Nat.reduceLT, Nat.reduceEqDiff, Nat.reduceAdd, Nat.reduceMul, Nat.reduceSub, Nat.reduceLeDiff, reduceCtorEq, bne_self_eq_false]) | (refine guard_split (fun hg => ?_) (fun hg => ?_) <;> simp only [hg, amS, amL, tyS, amB, Nat.reduceLT, Nat.reduceEqDiff, Nat.reduceAdd, Nat.reduceMul, Nat.reduceSub, Nat.reduceLeDiff, reduceCtorEq, bne_self_eq_false]) | (refine awp_skip ?_; simp only [amS]) | (refine awp_exit ?_; simp only [amS, if_true, if_false, Nat.reduceEqDiff]) | (refine awp_ret ?_; try simp only [amS]) | (refine Cont.go (by assumption) ?_) | (refine Arm.go (by assumption) ?_))
    refine callR_tree hG0 hsusp ?_
    simp only [amS, amL, tyS, amB, Nat.reduceLT, Nat.reduceEqDiff, Nat.reduceAdd, Nat.reduceMul, Nat.reduceSub, Nat.reduceLeDiff, reduceCtorEq]
    repeat' (first | (refine awp_seq_k fun _ _ => ?_) | (refine awp_block ?_) | ((first | (refine awp_rgn ?_) | (refine awp_any (by kernel_rfl) (by kernel_rfl) ?_) | (refine awp_cond_k fun _ _ _ _ => ?_)) <;> simp only [amS, amL, tyS, amB, Nat.reduceLT, Nat.reduceEqDiff, Nat.reduceAdd, Nat.reduceMul, Nat.reduceSub, Nat.reduceLeDiff, reduceCtorEq, encI]) | (refine guard_split (fun hg => ?_) (fun hg => ?_) <;> simp only [hg, amS, amL, tyS, amB, Nat.reduceLT, Nat.reduceEqDiff, Nat.reduceAdd, Nat.reduceMul, Nat.reduceSub, Nat.reduceLeDiff, reduceCtorEq, encI]) | (refine awp_skip ?_; simp only [amS]) | (refine awp_exit ?_; simp only [amS, if_true, if_false, Nat.reduceEqDiff]) | (refine awp_ret ?_; try simp only [amS]) | (refine Cont.go (by assumption) ?_) | (refine Arm.go (by assumption) ?_))
    refine awp_loop_k (α := {q : Nat × Int × Int // q.1 ≤ s.length ∧ bestB ks vs s (s.drop q.1) q.2.1 q.2.2 = bestB ks vs s s 0 (-1)}) (fun q => [(10, .mp (cK ks) (cP vs)), (12, encI s), (13, .int .i64 q.1.2.1), (14, .int .i64 q.1.2.2), (35, encI s), (36, .int .i64 s.length), (37, .int .i64 q.1.1)]) (fun _ => []) (fun q => s.length - q.1.1) ⟨(0, 0, -1), Nat.zero_le _, rfl⟩ ⟨?_, .inl ?_⟩ ?_
    · simp only [amS, amL, tyS, amB, Nat.reduceLT, Nat.reduceEqDiff, Nat.reduceAdd, Nat.reduceMul, Nat.reduceSub, Nat.reduceLeDiff, reduceCtorEq, encI] <;> rfl
    · simp only [amS]
    · rintro ⟨⟨i, best, most⟩, hi, hgo⟩ K2 hK2
      simp only at hi hgo
      repeat' (first | (refine awp_seq_k fun _ _ => ?_) | (refine awp_block ?_) | ((first | (refine awp_rgn ?_) | (refine awp_any (by kernel_rfl) (by kernel_rfl) ?_) | (refine awp_cond_k fun _ _ _ _ => ?_)) <;> simp only [amS, amL, tyS, amB, Nat.reduceLT, Nat.reduceEqDiff, Nat.reduceAdd, Nat.reduceMul, Nat.reduceSub, Nat.reduceLeDiff, reduceCtorEq, encI]) | (refine guard_split (fun hg => ?_) (fun hg => ?_) <;> simp only [hg, amS, amL, tyS, amB, Nat.reduceLT, Nat.reduceEqDiff, Nat.reduceAdd, Nat.reduceMul, Nat.reduceSub, Nat.reduceLeDiff, reduceCtorEq, encI]) | (refine awp_skip ?_; simp only [amS]) | (refine awp_ret ?_; try simp only [amS]) | (refine Cont.go (by assumption) ?_) | (refine Arm.go (by assumption) ?_))
      refine ⟨fun h3 => ?_, fun h3 => ?_⟩
      · have hlt : i < s.length := by simpa using h3
        obtain ⟨p, hp⟩ : ∃ v, s[i]? = some v := ⟨_, List.getElem?_eq_getElem hlt⟩
        have hw := wrap_succ (k := i) hlt (by omega)
        have hgo2 := hgo
        rw [drop_cons hp] at hgo2
        simp only [bestB] at hgo2
        repeat' (first | (refine awp_seq_k fun _ _ => ?_) | (refine awp_block ?_) | ((first | (refine awp_rgn ?_) | (refine awp_any (by kernel_rfl) (by kernel_rfl) ?_) | (refine awp_cond_k fun _ _ _ _ => ?_)) <;> simp only [amS, amL, tyS, amB, Nat.reduceLT, Nat.reduceEqDiff, Nat.reduceAdd, Nat.reduceMul, Nat.reduceSub, Nat.reduceLeDiff, reduceCtorEq, hp, encI]) | (refine guard_split (fun hg => ?_) (fun hg => ?_) <;> simp only [hg, amS, amL, tyS, amB, Nat.reduceLT, Nat.reduceEqDiff, Nat.reduceAdd, Nat.reduceMul, Nat.reduceSub, Nat.reduceLeDiff, reduceCtorEq, hp, encI]) | (refine awp_skip ?_; simp only [amS]) | (refine awp_exit ?_; simp only [amS, if_true, if_false, Nat.reduceEqDiff]) | (refine awp_ret ?_; try simp only [amS]) | (refine Cont.go (by assumption) ?_) | (refine Arm.go (by assumption) ?_))
        have hfi := afind_int ks p 0
        cases hc : afindI ks p 0 with
        | none =>
          rw [hc] at hfi
          have hg0 : lookF ks vs p = noF := by simp only [lookF, hc]
          obtain ⟨g, hg⟩ : ∃ g, lookF ks vs p = g := ⟨_, rfl⟩
          rw [hg] at hgo2
          have hgn : g = noF := by rw [← hg, hg0]
          refine awp_loop_k (α := {k : Nat // k ≤ s.length}) (fun k => [(10, .mp (cK ks) (cP vs)), (12, encI s), (13, .int .i64 best), (14, .int .i64 most), (16, .int .i64 p), (17, .int .i64 (cntB g (s.take k.1))), (35, encI s), (36, .int .i64 s.length), (37, .int .i64 i), (41, encI s), (42, .int .i64 s.length), (43, .int .i64 k.1)]) (fun _ => []) (fun k => s.length - k.1) ⟨0, by simp⟩ ⟨?_, .inl ?_⟩ ?_
          · simp only [amS, amL, tyS, amB, Nat.reduceLT, Nat.reduceEqDiff, Nat.reduceAdd, Nat.reduceMul, Nat.reduceSub, Nat.reduceLeDiff, reduceCtorEq, encI, cntB, List.take_zero, List.filter_nil]
            exact ⟨rfl, rfl⟩
          · simp only [amS]
          · rintro ⟨k, hk⟩ K3 hK3
            repeat' (first | (refine awp_seq_k fun _ _ => ?_) | (refine awp_block ?_) | ((first | (refine awp_rgn ?_) | (refine awp_any (by kernel_rfl) (by kernel_rfl) ?_) | (refine awp_cond_k fun _ _ _ _ => ?_)) <;> simp only [amS, amL, tyS, amB, Nat.reduceLT, Nat.reduceEqDiff, Nat.reduceAdd, Nat.reduceMul, Nat.reduceSub, Nat.reduceLeDiff, reduceCtorEq, encI]) | (refine guard_split (fun hg => ?_) (fun hg => ?_) <;> simp only [hg, amS, amL, tyS, amB, Nat.reduceLT, Nat.reduceEqDiff, Nat.reduceAdd, Nat.reduceMul, Nat.reduceSub, Nat.reduceLeDiff, reduceCtorEq, encI]) | (refine awp_skip ?_; simp only [amS]) | (refine awp_ret ?_; try simp only [amS]) | (refine Cont.go (by assumption) ?_) | (refine Arm.go (by assumption) ?_))
            refine ⟨fun h4 => ?_, fun h4 => ?_⟩
            · have hkl : k < s.length := by simpa using h4
              obtain ⟨x, hx⟩ : ∃ v, s[k]? = some v := ⟨_, List.getElem?_eq_getElem hkl⟩
              obtain ⟨hx0, hx1⟩ := hrange x (List.mem_of_getElem? hx)
              have hx1' : x.toNat < 32 := by omega
              have hw2 := wrap_succ (k := k) hkl (by omega)
              have hct : cntB g (s.take (k + 1)) = cntB g (s.take k) + (if g x.toNat = true then 1 else 0) := by
                unfold cntB
                rw [filter_take hx, List.length_append]
                split <;> rfl
              have hcl := cntB_le g (s.take k)
              rw [List.length_take] at hcl
              have hw3 := wrap_succ (k := cntB g (s.take k)) (m := s.length) (by omega) (by omega)
              have hidx := (by rw [hgn, ← cF_no]; exact cF_get noF hx1' : ([.bool false, .bool false, .bool false, .bool false, .bool false, .bool false, .bool false, .bool false, .bool false, .bool false, .bool false, .bool false, .bool false, .bool false, .bool false, .bool false, .bool false, .bool false, .bool false, .bool false, .bool false, .bool false, .bool false, .bool false, .bool false, .bool false, .bool false, .bool false, .bool false, .bool false, .bool false, .bool false] : List AV)[x.toNat]? = some (.bool (g x.toNat)))
              have hx2 : x < 32 := hx1
              repeat' (first | (refine awp_seq_k fun _ _ => ?_) | (refine awp_block ?_) | ((first | (refine awp_rgn ?_) | (refine awp_any (by kernel_rfl) (by kernel_rfl) ?_) | (refine awp_cond_k fun _ _ _ _ => ?_)) <;> simp only [amS, amL, tyS, amB, Nat.reduceLT, Nat.reduceEqDiff, Nat.reduceAdd, Nat.reduceMul, Nat.reduceSub, Nat.reduceLeDiff, reduceCtorEq, hx, encI, hfi, hx0, hx1', Nat.mul_one, hidx]) | (refine guard_split (fun hg => ?_) (fun hg => ?_) <;> simp only [hg, amS, amL, tyS, amB, Nat.reduceLT, Nat.reduceEqDiff, Nat.reduceAdd, Nat.reduceMul, Nat.reduceSub, Nat.reduceLeDiff, reduceCtorEq, hx, encI, hfi, hx0, hx1', Nat.mul_one, hidx]) | (refine awp_skip ?_; simp only [amS]) | (refine awp_exit ?_; simp only [amS, if_true, if_false, Nat.reduceEqDiff]) | (refine awp_ret ?_; try simp only [amS]) | (refine Cont.go (by assumption) ?_) | (refine Arm.go (by assumption) ?_))
              refine ⟨fun h5 => ?_, fun h5 => ?_⟩
              · rw [if_pos (by simpa using h5)] at hct
                repeat' (first | (refine awp_seq_k fun _ _ => ?_) | (refine awp_block ?_) | ((first | (refine awp_rgn ?_) | (refine awp_any (by kernel_rfl) (by kernel_rfl) ?_) | (refine awp_cond_k fun _ _ _ _ => ?_)) <;> simp only [amS, amL, tyS, amB, Nat.reduceLT, Nat.reduceEqDiff, Nat.reduceAdd, Nat.reduceMul, Nat.reduceSub, Nat.reduceLeDiff, reduceCtorEq, hw2, hw3]) | (refine guard_split (fun hg => ?_) (fun hg => ?_) <;> simp only [hg, amS, amL, tyS, amB, Nat.reduceLT, Nat.reduceEqDiff, Nat.reduceAdd, Nat.reduceMul, Nat.reduceSub, Nat.reduceLeDiff, reduceCtorEq, hw2, hw3]) | (refine awp_skip ?_; simp only [amS]) | (refine awp_exit ?_; simp only [amS, if_true, if_false, Nat.reduceEqDiff]) | (refine awp_ret ?_; try simp only [amS]) | (refine Cont.go (by assumption) ?_) | (refine Arm.go (by assumption) ?_))
                refine Again.go hK3 ⟨k + 1, hkl⟩ ⟨?_, .inl ?_⟩ ?_
                · simp only [amS, amL, tyS, amB, Nat.reduceLT, Nat.reduceEqDiff, Nat.reduceAdd, Nat.reduceMul, Nat.reduceSub, Nat.reduceLeDiff, reduceCtorEq]
                  simp only [hct, encI, Nat.add_zero, and_self]
                · simp only [amS, amL, tyS, amB, Nat.reduceLT, Nat.reduceEqDiff, Nat.reduceAdd, Nat.reduceMul, Nat.reduceSub, Nat.reduceLeDiff, reduceCtorEq]
                · simp; omega
              · rw [if_neg (by rw [h5]; simp)] at hct
                repeat' (first | (refine awp_seq_k fun _ _ => ?_) | (refine awp_block ?_) | ((first | (refine awp_rgn ?_) | (refine awp_any (by kernel_rfl) (by kernel_rfl) ?_) | (refine awp_cond_k fun _ _ _ _ => ?_)) <;> simp only [amS, amL, tyS, amB, Nat.reduceLT, Nat.reduceEqDiff, Nat.reduceAdd, Nat.reduceMul, Nat.reduceSub, Nat.reduceLeDiff, reduceCtorEq, hw2]) | (refine guard_split (fun hg => ?_) (fun hg => ?_) <;> simp only [hg, amS, amL, tyS, amB, Nat.reduceLT, Nat.reduceEqDiff, Nat.reduceAdd, Nat.reduceMul, Nat.reduceSub, Nat.reduceLeDiff, reduceCtorEq, hw2]) | (refine awp_skip ?_; simp only [amS]) | (refine awp_exit ?_; simp only [amS, if_true, if_false, Nat.reduceEqDiff]) | (refine awp_ret ?_; try simp only [amS]) | (refine Cont.go (by assumption) ?_) | (refine Arm.go (by assumption) ?_))
                refine Again.go hK3 ⟨k + 1, hkl⟩ ⟨?_, .inl ?_⟩ ?_
                · simp only [amS, amL, tyS, amB, Nat.reduceLT, Nat.reduceEqDiff, Nat.reduceAdd, Nat.reduceMul, Nat.reduceSub, Nat.reduceLeDiff, reduceCtorEq]
                  simp only [hct, encI, Nat.add_zero, and_self]
                · simp only [amS, amL, tyS, amB, Nat.reduceLT, Nat.reduceEqDiff, Nat.reduceAdd, Nat.reduceMul, Nat.reduceSub, Nat.reduceLeDiff, reduceCtorEq]
                · simp; omega
            · have hkl : k = s.length := by simp at h4; omega
              subst hkl
              have htl : s.take s.length = s := List.take_length
              have hcl := cntB_le g s
              have hw4 : IntKind.i64.wrap ((s.length : Int) - (cntB g s : Int)) = (s.length : Int) - (cntB g s : Int) := wrap_id (by omega) (by omega)
              have hsc : (if (s.length : Int) - (cntB g s : Int) < (cntB g s : Int) then (s.length : Int) - (cntB g s : Int) else (cntB g s : Int)) = scoreB g s := rfl
              repeat' (first | (refine awp_seq_k fun _ _ => ?_) | (refine awp_block ?_) | ((first | (refine awp_rgn ?_) | (refine awp_any (by kernel_rfl) (by kernel_rfl) ?_) | (refine awp_cond_k fun _ _ _ _ => ?_)) <;> simp only [amS, amL, tyS, amB, Nat.reduceLT, Nat.reduceEqDiff, Nat.reduceAdd, Nat.reduceMul, Nat.reduceSub, Nat.reduceLeDiff, reduceCtorEq, htl, hw4, hsc, encI]) | (refine guard_split (fun hg => ?_) (fun hg => ?_) <;> simp only [hg, amS, amL, tyS, amB, Nat.reduceLT, Nat.reduceEqDiff, Nat.reduceAdd, Nat.reduceMul, Nat.reduceSub, Nat.reduceLeDiff, reduceCtorEq, htl, hw4, hsc, encI]) | (refine awp_skip ?_; simp only [amS]) | (refine awp_exit ?_; simp only [amS, if_true, if_false, Nat.reduceEqDiff]) | (refine awp_ret ?_; try simp only [amS]) | (refine Cont.go (by assumption) ?_) | (refine Arm.go (by assumption) ?_))
              refine ⟨fun h5 => ?_, fun h5 => ?_⟩
              · rw [if_pos (by simpa using h5)] at hgo2
                repeat' (first | (refine awp_seq_k fun _ _ => ?_) | (refine awp_block ?_) | ((first | (refine awp_rgn ?_) | (refine awp_any (by kernel_rfl) (by kernel_rfl) ?_) | (refine awp_cond_k fun _ _ _ _ => ?_)) <;> simp only [amS, amL, tyS, amB, Nat.reduceLT, Nat.reduceEqDiff, Nat.reduceAdd, Nat.reduceMul, Nat.reduceSub, Nat.reduceLeDiff, reduceCtorEq, hp, hw, encI]) | (refine guard_split (fun hg => ?_) (fun hg => ?_) <;> simp only [hg, amS, amL, tyS, amB, Nat.reduceLT, Nat.reduceEqDiff, Nat.reduceAdd, Nat.reduceMul, Nat.reduceSub, Nat.reduceLeDiff, reduceCtorEq, hp, hw, encI]) | (refine awp_skip ?_; simp only [amS]) | (refine awp_exit ?_; simp only [amS, if_true, if_false, Nat.reduceEqDiff]) | (refine awp_ret ?_; try simp only [amS]) | (refine Cont.go (by assumption) ?_) | (refine Arm.go (by assumption) ?_))
                refine Again.go hK2 ⟨(i + 1, p, scoreB g s), hlt, hgo2⟩ ⟨?_, .inl ?_⟩ ?_
                · simp only [amS, amL, tyS, amB, Nat.reduceLT, Nat.reduceEqDiff, Nat.reduceAdd, Nat.reduceMul, Nat.reduceSub, Nat.reduceLeDiff, reduceCtorEq]
                  simp only [encI, and_self]
                · simp only [amS, amL, tyS, amB, Nat.reduceLT, Nat.reduceEqDiff, Nat.reduceAdd, Nat.reduceMul, Nat.reduceSub, Nat.reduceLeDiff, reduceCtorEq]
                · simp; omega
              · rw [if_neg (by simpa using h5)] at hgo2
                repeat' (first | (refine awp_seq_k fun _ _ => ?_) | (refine awp_block ?_) | ((first | (refine awp_rgn ?_) | (refine awp_any (by kernel_rfl) (by kernel_rfl) ?_) | (refine awp_cond_k fun _ _ _ _ => ?_)) <;> simp only [amS, amL, tyS, amB, Nat.reduceLT, Nat.reduceEqDiff, Nat.reduceAdd, Nat.reduceMul, Nat.reduceSub, Nat.reduceLeDiff, reduceCtorEq, hw]) | (refine guard_split (fun hg => ?_) (fun hg => ?_) <;> simp only [hg, amS, amL, tyS, amB, Nat.reduceLT, Nat.reduceEqDiff, Nat.reduceAdd, Nat.reduceMul, Nat.reduceSub, Nat.reduceLeDiff, reduceCtorEq, hw]) | (refine awp_skip ?_; simp only [amS]) | (refine awp_exit ?_; simp only [amS, if_true, if_false, Nat.reduceEqDiff]) | (refine awp_ret ?_; try simp only [amS]) | (refine Cont.go (by assumption) ?_) | (refine Arm.go (by assumption) ?_))
                refine Again.go hK2 ⟨(i + 1, best, most), hlt, hgo2⟩ ⟨?_, .inl ?_⟩ ?_
                · simp only [amS, amL, tyS, amB, Nat.reduceLT, Nat.reduceEqDiff, Nat.reduceAdd, Nat.reduceMul, Nat.reduceSub, Nat.reduceLeDiff, reduceCtorEq]
                  simp only [encI, and_self]
                · simp only [amS, amL, tyS, amB, Nat.reduceLT, Nat.reduceEqDiff, Nat.reduceAdd, Nat.reduceMul, Nat.reduceSub, Nat.reduceLeDiff, reduceCtorEq]
                · simp; omega
        | some jx =>
          rw [hc] at hfi
          have hjx := afindI_lt ks p 0 jx hc
          have hg0 : lookF ks vs p = vs.getD jx noF := by simp only [lookF, hc]
          obtain ⟨g, hg⟩ : ∃ g, lookF ks vs p = g := ⟨_, rfl⟩
          rw [hg] at hgo2
          have hpg := cP_get (vs := vs) (j := jx) (by omega)
          rw [← hg0, hg] at hpg
          refine awp_loop_k (α := {k : Nat // k ≤ s.length}) (fun k => [(10, .mp (cK ks) (cP vs)), (12, encI s), (13, .int .i64 best), (14, .int .i64 most), (16, .int .i64 p), (17, .int .i64 (cntB g (s.take k.1))), (35, encI s), (36, .int .i64 s.length), (37, .int .i64 i), (41, encI s), (42, .int .i64 s.length), (43, .int .i64 k.1)]) (fun _ => []) (fun k => s.length - k.1) ⟨0, by simp⟩ ⟨?_, .inl ?_⟩ ?_
          · simp only [amS, amL, tyS, amB, Nat.reduceLT, Nat.reduceEqDiff, Nat.reduceAdd, Nat.reduceMul, Nat.reduceSub, Nat.reduceLeDiff, reduceCtorEq, encI, cntB, List.take_zero, List.filter_nil]
            exact ⟨rfl, rfl⟩
          · simp only [amS]
          · rintro ⟨k, hk⟩ K3 hK3
            repeat' (first | (refine awp_seq_k fun _ _ => ?_) | (refine awp_block ?_) | ((first | (refine awp_rgn ?_) | (refine awp_any (by kernel_rfl) (by kernel_rfl) ?_) | (refine awp_cond_k fun _ _ _ _ => ?_)) <;> simp only [amS, amL, tyS, amB, Nat.reduceLT, Nat.reduceEqDiff, Nat.reduceAdd, Nat.reduceMul, Nat.reduceSub, Nat.reduceLeDiff, reduceCtorEq, encI]) | (refine guard_split (fun hg => ?_) (fun hg => ?_) <;> simp only [hg, amS, amL, tyS, amB, Nat.reduceLT, Nat.reduceEqDiff, Nat.reduceAdd, Nat.reduceMul, Nat.reduceSub, Nat.reduceLeDiff, reduceCtorEq, encI]) | (refine awp_skip ?_; simp only [amS]) | (refine awp_ret ?_; try simp only [amS]) | (refine Cont.go (by assumption) ?_) | (refine Arm.go (by assumption) ?_))
            refine ⟨fun h4 => ?_, fun h4 => ?_⟩
            · have hkl : k < s.length := by simpa using h4
              obtain ⟨x, hx⟩ : ∃ v, s[k]? = some v := ⟨_, List.getElem?_eq_getElem hkl⟩
              obtain ⟨hx0, hx1⟩ := hrange x (List.mem_of_getElem? hx)
              have hx1' : x.toNat < 32 := by omega
              have hw2 := wrap_succ (k := k) hkl (by omega)
              have hct : cntB g (s.take (k + 1)) = cntB g (s.take k) + (if g x.toNat = true then 1 else 0) := by
                unfold cntB
                rw [filter_take hx, List.length_append]
                split <;> rfl
              have hcl := cntB_le g (s.take k)
              rw [List.length_take] at hcl
              have hw3 := wrap_succ (k := cntB g (s.take k)) (m := s.length) (by omega) (by omega)
              have hidx := cF_get g hx1'
              have hx2 : x < 32 := hx1
              repeat' (first | (refine awp_seq_k fun _ _ => ?_) | (refine awp_block ?_) | ((first | (refine awp_rgn ?_) | (refine awp_any (by kernel_rfl) (by kernel_rfl) ?_) | (refine awp_cond_k fun _ _ _ _ => ?_)) <;> simp only [amS, amL, tyS, amB, Nat.reduceLT, Nat.reduceEqDiff, Nat.reduceAdd, Nat.reduceMul, Nat.reduceSub, Nat.reduceLeDiff, reduceCtorEq, hx, encI, hfi, hpg, hx0, hx1', Nat.mul_one, hidx]) | (refine guard_split (fun hg => ?_) (fun hg => ?_) <;> simp only [hg, amS, amL, tyS, amB, Nat.reduceLT, Nat.reduceEqDiff, Nat.reduceAdd, Nat.reduceMul, Nat.reduceSub, Nat.reduceLeDiff, reduceCtorEq, hx, encI, hfi, hpg, hx0, hx1', Nat.mul_one, hidx]) | (refine awp_skip ?_; simp only [amS]) | (refine awp_exit ?_; simp only [amS, if_true, if_false, Nat.reduceEqDiff]) | (refine awp_ret ?_; try simp only [amS]) | (refine Cont.go (by assumption) ?_) | (refine Arm.go (by assumption) ?_))
              refine ⟨fun h5 => ?_, fun h5 => ?_⟩
              · rw [if_pos (by simpa using h5)] at hct
                repeat' (first | (refine awp_seq_k fun _ _ => ?_) | (refine awp_block ?_) | ((first | (refine awp_rgn ?_) | (refine awp_any (by kernel_rfl) (by kernel_rfl) ?_) | (refine awp_cond_k fun _ _ _ _ => ?_)) <;> simp only [amS, amL, tyS, amB, Nat.reduceLT, Nat.reduceEqDiff, Nat.reduceAdd, Nat.reduceMul, Nat.reduceSub, Nat.reduceLeDiff, reduceCtorEq, hw2, hw3]) | (refine guard_split (fun hg => ?_) (fun hg => ?_) <;> simp only [hg, amS, amL, tyS, amB, Nat.reduceLT, Nat.reduceEqDiff, Nat.reduceAdd, Nat.reduceMul, Nat.reduceSub, Nat.reduceLeDiff, reduceCtorEq, hw2, hw3]) | (refine awp_skip ?_; simp only [amS]) | (refine awp_exit ?_; simp only [amS, if_true, if_false, Nat.reduceEqDiff]) | (refine awp_ret ?_; try simp only [amS]) | (refine Cont.go (by assumption) ?_) | (refine Arm.go (by assumption) ?_))
                refine Again.go hK3 ⟨k + 1, hkl⟩ ⟨?_, .inl ?_⟩ ?_
                · simp only [amS, amL, tyS, amB, Nat.reduceLT, Nat.reduceEqDiff, Nat.reduceAdd, Nat.reduceMul, Nat.reduceSub, Nat.reduceLeDiff, reduceCtorEq]
                  simp only [hct, encI, Nat.add_zero, and_self]
                · simp only [amS, amL, tyS, amB, Nat.reduceLT, Nat.reduceEqDiff, Nat.reduceAdd, Nat.reduceMul, Nat.reduceSub, Nat.reduceLeDiff, reduceCtorEq]
                · simp; omega
              · rw [if_neg (by rw [h5]; simp)] at hct
                repeat' (first | (refine awp_seq_k fun _ _ => ?_) | (refine awp_block ?_) | ((first | (refine awp_rgn ?_) | (refine awp_any (by kernel_rfl) (by kernel_rfl) ?_) | (refine awp_cond_k fun _ _ _ _ => ?_)) <;> simp only [amS, amL, tyS, amB, Nat.reduceLT, Nat.reduceEqDiff, Nat.reduceAdd, Nat.reduceMul, Nat.reduceSub, Nat.reduceLeDiff, reduceCtorEq, hw2]) | (refine guard_split (fun hg => ?_) (fun hg => ?_) <;> simp only [hg, amS, amL, tyS, amB, Nat.reduceLT, Nat.reduceEqDiff, Nat.reduceAdd, Nat.reduceMul, Nat.reduceSub, Nat.reduceLeDiff, reduceCtorEq, hw2]) | (refine awp_skip ?_; simp only [amS]) | (refine awp_exit ?_; simp only [amS, if_true, if_false, Nat.reduceEqDiff]) | (refine awp_ret ?_; try simp only [amS]) | (refine Cont.go (by assumption) ?_) | (refine Arm.go (by assumption) ?_))
                refine Again.go hK3 ⟨k + 1, hkl⟩ ⟨?_, .inl ?_⟩ ?_
                · simp only [amS, amL, tyS, amB, Nat.reduceLT, Nat.reduceEqDiff, Nat.reduceAdd, Nat.reduceMul, Nat.reduceSub, Nat.reduceLeDiff, reduceCtorEq]
                  simp only [hct, encI, Nat.add_zero, and_self]
                · simp only [amS, amL, tyS, amB, Nat.reduceLT, Nat.reduceEqDiff, Nat.reduceAdd, Nat.reduceMul, Nat.reduceSub, Nat.reduceLeDiff, reduceCtorEq]
                · simp; omega
            · have hkl : k = s.length := by simp at h4; omega
              subst hkl
              have htl : s.take s.length = s := List.take_length
              have hcl := cntB_le g s
              have hw4 : IntKind.i64.wrap ((s.length : Int) - (cntB g s : Int)) = (s.length : Int) - (cntB g s : Int) := wrap_id (by omega) (by omega)
              have hsc : (if (s.length : Int) - (cntB g s : Int) < (cntB g s : Int) then (s.length : Int) - (cntB g s : Int) else (cntB g s : Int)) = scoreB g s := rfl
              repeat' (first | (refine awp_seq_k fun _ _ => ?_) | (refine awp_block ?_) | ((first | (refine awp_rgn ?_) | (refine awp_any (by kernel_rfl) (by kernel_rfl) ?_) | (refine awp_cond_k fun _ _ _ _ => ?_)) <;> simp only [amS, amL, tyS, amB, Nat.reduceLT, Nat.reduceEqDiff, Nat.reduceAdd, Nat.reduceMul, Nat.reduceSub, Nat.reduceLeDiff, reduceCtorEq, htl, hw4, hsc, encI]) | (refine guard_split (fun hg => ?_) (fun hg => ?_) <;> simp only [hg, amS, amL, tyS, amB, Nat.reduceLT, Nat.reduceEqDiff, Nat.reduceAdd, Nat.reduceMul, Nat.reduceSub, Nat.reduceLeDiff, reduceCtorEq, htl, hw4, hsc, encI]) | (refine awp_skip ?_; simp only [amS]) | (refine awp_exit ?_; simp only [amS, if_true, if_false, Nat.reduceEqDiff]) | (refine awp_ret ?_; try simp only [amS]) | (refine Cont.go (by assumption) ?_) | (refine Arm.go (by assumption) ?_))
              refine ⟨fun h5 => ?_, fun h5 => ?_⟩
              · rw [if_pos (by simpa using h5)] at hgo2
                repeat' (first | (refine awp_seq_k fun _ _ => ?_) | (refine awp_block ?_) | ((first | (refine awp_rgn ?_) | (refine awp_any (by kernel_rfl) (by kernel_rfl) ?_) | (refine awp_cond_k fun _ _ _ _ => ?_)) <;> simp only [amS, amL, tyS, amB, Nat.reduceLT, Nat.reduceEqDiff, Nat.reduceAdd, Nat.reduceMul, Nat.reduceSub, Nat.reduceLeDiff, reduceCtorEq, hp, hw, encI]) | (refine guard_split (fun hg => ?_) (fun hg => ?_) <;> simp only [hg, amS, amL, tyS, amB, Nat.reduceLT, Nat.reduceEqDiff, Nat.reduceAdd, Nat.reduceMul, Nat.reduceSub, Nat.reduceLeDiff, reduceCtorEq, hp, hw, encI]) | (refine awp_skip ?_; simp only [amS]) | (refine awp_exit ?_; simp only [amS, if_true, if_false, Nat.reduceEqDiff]) | (refine awp_ret ?_; try simp only [amS]) | (refine Cont.go (by assumption) ?_) | (refine Arm.go (by assumption) ?_))
                refine Again.go hK2 ⟨(i + 1, p, scoreB g s), hlt, hgo2⟩ ⟨?_, .inl ?_⟩ ?_
                · simp only [amS, amL, tyS, amB, Nat.reduceLT, Nat.reduceEqDiff, Nat.reduceAdd, Nat.reduceMul, Nat.reduceSub, Nat.reduceLeDiff, reduceCtorEq]
                  simp only [encI, and_self]
                · simp only [amS, amL, tyS, amB, Nat.reduceLT, Nat.reduceEqDiff, Nat.reduceAdd, Nat.reduceMul, Nat.reduceSub, Nat.reduceLeDiff, reduceCtorEq]
                · simp; omega
              · rw [if_neg (by simpa using h5)] at hgo2
                repeat' (first | (refine awp_seq_k fun _ _ => ?_) | (refine awp_block ?_) | ((first | (refine awp_rgn ?_) | (refine awp_any (by kernel_rfl) (by kernel_rfl) ?_) | (refine awp_cond_k fun _ _ _ _ => ?_)) <;> simp only [amS, amL, tyS, amB, Nat.reduceLT, Nat.reduceEqDiff, Nat.reduceAdd, Nat.reduceMul, Nat.reduceSub, Nat.reduceLeDiff, reduceCtorEq, hw]) | (refine guard_split (fun hg => ?_) (fun hg => ?_) <;> simp only [hg, amS, amL, tyS, amB, Nat.reduceLT, Nat.reduceEqDiff, Nat.reduceAdd, Nat.reduceMul, Nat.reduceSub, Nat.reduceLeDiff, reduceCtorEq, hw]) | (refine awp_skip ?_; simp only [amS]) | (refine awp_exit ?_; simp only [amS, if_true, if_false, Nat.reduceEqDiff]) | (refine awp_ret ?_; try simp only [amS]) | (refine Cont.go (by assumption) ?_) | (refine Arm.go (by assumption) ?_))
                refine Again.go hK2 ⟨(i + 1, best, most), hlt, hgo2⟩ ⟨?_, .inl ?_⟩ ?_
                · simp only [amS, amL, tyS, amB, Nat.reduceLT, Nat.reduceEqDiff, Nat.reduceAdd, Nat.reduceMul, Nat.reduceSub, Nat.reduceLeDiff, reduceCtorEq]
                  simp only [encI, and_self]
                · simp only [amS, amL, tyS, amB, Nat.reduceLT, Nat.reduceEqDiff, Nat.reduceAdd, Nat.reduceMul, Nat.reduceSub, Nat.reduceLeDiff, reduceCtorEq]
                · simp; omega
      · have hkl : i = s.length := by simp at h3; omega
        subst hkl
        have hgo2 := hgo
        rw [List.drop_length] at hgo2
        simp only [bestB] at hgo2
        rw [← hgo2] at hnx
        repeat' (first | (refine awp_seq_k fun _ _ => ?_) | (refine awp_block ?_) | ((first | (refine awp_rgn ?_) | (refine awp_any (by kernel_rfl) (by kernel_rfl) ?_) | (refine awp_cond_k fun _ _ _ _ => ?_)) <;> simp only [amS, amL, tyS, amB, Nat.reduceLT, Nat.reduceEqDiff, Nat.reduceAdd, Nat.reduceMul, Nat.reduceSub, Nat.reduceLeDiff, reduceCtorEq]) | (refine guard_split (fun hg => ?_) (fun hg => ?_) <;> simp only [hg, amS, amL, tyS, amB, Nat.reduceLT, Nat.reduceEqDiff, Nat.reduceAdd, Nat.reduceMul, Nat.reduceSub, Nat.reduceLeDiff, reduceCtorEq]) | (refine awp_skip ?_; simp only [amS]) | (refine awp_exit ?_; simp only [amS, if_true, if_false, Nat.reduceEqDiff]) | (refine awp_ret ?_; try simp only [amS]) | (refine Cont.go (by assumption) ?_) | (refine Arm.go (by assumption) ?_))
        refine ⟨fun h5 => ?_, fun h5 => ?_⟩
        · rw [if_pos (by simpa using h5)] at hnx
          repeat' (first | (refine awp_seq_k fun _ _ => ?_) | (refine awp_block ?_) | ((first | (refine awp_rgn ?_) | (refine awp_any (by kernel_rfl) (by kernel_rfl) ?_) | (refine awp_cond_k fun _ _ _ _ => ?_)) <;> simp only [amS, amL, tyS, amB, Nat.reduceLT, Nat.reduceEqDiff, Nat.reduceAdd, Nat.reduceMul, Nat.reduceSub, Nat.reduceLeDiff, reduceCtorEq]) | (refine guard_split (fun hg => ?_) (fun hg => ?_) <;> simp only [hg, amS, amL, tyS, amB, Nat.reduceLT, Nat.reduceEqDiff, Nat.reduceAdd, Nat.reduceMul, Nat.reduceSub, Nat.reduceLeDiff, reduceCtorEq]) | (refine awp_skip ?_; simp only [amS]) | (refine awp_exit ?_; simp only [amS, if_true, if_false, Nat.reduceEqDiff]) | (refine awp_ret ?_; try simp only [amS]) | (refine Cont.go (by assumption) ?_) | (refine Arm.go (by assumption) ?_))
          refine body_ret2 rfl ?_
          simp only [amS, if_true, if_false, Nat.reduceEqDiff]
          rw [hnx]
        · rw [if_neg (by simpa using h5)] at hnx
          repeat' (first | (refine awp_seq_k fun _ _ => ?_) | (refine awp_block ?_) | ((first | (refine awp_rgn ?_) | (refine awp_any (by kernel_rfl) (by kernel_rfl) ?_) | (refine awp_cond_k fun _ _ _ _ => ?_)) <;> simp only [amS, amL, tyS, amB, Nat.reduceLT, Nat.reduceEqDiff, Nat.reduceAdd, Nat.reduceMul, Nat.reduceSub, Nat.reduceLeDiff, reduceCtorEq]) | (refine guard_split (fun hg => ?_) (fun hg => ?_) <;> simp only [hg, amS, amL, tyS, amB, Nat.reduceLT, Nat.reduceEqDiff, Nat.reduceAdd, Nat.reduceMul, Nat.reduceSub, Nat.reduceLeDiff, reduceCtorEq]) | (refine awp_skip ?_; simp only [amS]) | (refine awp_exit ?_; simp only [amS, if_true, if_false, Nat.reduceEqDiff]) | (refine awp_ret ?_; try simp only [amS]) | (refine Cont.go (by assumption) ?_) | (refine Arm.go (by assumption) ?_))
          refine body_ret2 rfl ?_
          simp only [amS, if_true, if_false, Nat.reduceEqDiff]
          rw [hnx]

end Go.Proofs.Ytgenkkejlggmnaa
