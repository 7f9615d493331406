import Derived.Test.YtbbgolecnmifpaaDoorW0
import Derived.Test.YtbbgolecnmifpaaDoorW4
set_option linter.unusedVariables false
set_option linter.unusedSimpArgs false
namespace Go.Proofs.YtbbgolecnmifpaaDoor
open Go.AM
set_option maxRecDepth 100000

def lastOf : Code → Code
  | .seq _ (.seq _ (.seq _ (.seq _ (.seq _ y)))) => y
  | c => c
theorem okc (d : Nat) : CallOK Tryd.prog G0 (callX Tryd.prog G0 60 [] [] d) := callX_ok no_table hG0 (by kernel_rfl) d

theorem fold_bin {n kd x y : Int} (i : Int) (h : Okay n kd x y) (k : Bool) (hpre : ∀ c, Tryd.f43.body = some c → ∀ Q, AWp Tryd.prog G0 Tryd.f43.ntmps 0 (lastOf c) Q ⟨mkF [(1, .ptr 0 0 0), (2, .ptr 1 0 0), (3, .osl 2 0 0 2 6 true), (6, .bool k)], [.cells 0 [.int .i64 9, .int .i64 n, .int .i64 0, .int .i64 i, .bool false, .osl 2 0 0 2 6 true], .cells 0 (mkV 0 0 0), .cells 0 (mkV kd x (i + 1) ++ mkV kd y (i + 2))]⟩ → AWp Tryd.prog G0 Tryd.f43.ntmps 0 c Q ⟨mkF (enterF 0 [.agg (meV n kd x y i)]), []⟩) :
    Pure Tryd.prog G0 43 [.agg (meV n kd x y i)] (.agg (foldV n kd x y i)) := by
  have hop := operation_73 i h
  have htr := tree_foldV n kd x y i
  obtain ⟨a0, a1, a2, a3, a4, a5, hfv⟩ : ∃ a0 a1 a2 a3 a4 a5, foldV n kd x y i = [a0, a1, a2, a3, a4, a5] := by unfold foldV; split <;> exact ⟨_, _, _, _, _, _, rfl⟩
  rw [hfv] at hop htr ⊢
  refine pure_of_body hG0 Tryd.func43 rfl (by kernel_rfl) (by simp [Tryd.ntmps43]) (by simp only [inL, inR, tree_meV, Bool.and_self]) (by simpa only [inR] using htr) ?_
  refine hpre _ rfl _ ?_
  simp only [lastOf]
  refine awp_freeze [2] [(1, .ptr 0 0 0), (2, .ptr 1 0 0), (3, .sl false [mkV kd x (i + 1), mkV kd y (i + 2)]), (6, .bool k)] [.cells 0 (meV n kd x y i), .cells 0 (mkV 0 0 0), .dead] rfl ?_ ?_ ?_
  · exact ⟨.inl rfl, .inl rfl, .inr (.osl (cs := mkV kd x (i + 1) ++ mkV kd y (i + 2)) (by simp) rfl rfl (by simp [mkV]) rfl rfl), .inl rfl, trivial⟩
  · refine ⟨.inr ⟨by simp, .inr ⟨0, _, _, rfl, rfl, .inl rfl, .inl rfl, .inl rfl, .inl rfl, .inl rfl, .inr (.osl (cs := mkV kd x (i + 1) ++ mkV kd y (i + 2)) (by simp) rfl rfl (by simp [mkV]) rfl rfl), trivial⟩⟩, .inr ⟨by simp, .inl rfl⟩, .inl ⟨by simp, rfl, by simp⟩, trivial⟩
  have e9 : ((9 : Int) == 9) = true := rfl
  repeat' (first | (refine awp_seq_k fun _ _ => ?_) | (refine awp_block ?_) | ((first | (refine awp_rgn ?_) | (refine awp_any (by kernel_rfl) (by kernel_rfl) ?_) | (refine awp_cond_k fun _ _ _ _ => ?_)) <;> simp only [amS, amL, tyS, amB, Nat.reduceLT, Nat.reduceEqDiff, Nat.reduceAdd, Nat.reduceMul, Nat.reduceSub, Nat.reduceLeDiff, reduceCtorEq, Int.reduceToNat, Int.reduceLE, Int.reduceLT, Int.le_refl, Int.toNat_natCast, meV, mkV, e9, Tryd.ntmps43]) | (refine guard_split (fun hg => ?_) (fun hg => ?_) <;> simp only [hg, amS, amL, tyS, amB, Nat.reduceLT, Nat.reduceEqDiff, Nat.reduceAdd, Nat.reduceMul, Nat.reduceSub, Nat.reduceLeDiff, reduceCtorEq, Int.reduceToNat, Int.reduceLE, Int.reduceLT, Int.le_refl, Int.toNat_natCast, meV, mkV, e9, Tryd.ntmps43]) | (refine awp_skip ?_; simp only [amS]) | (refine awp_exit ?_; simp only [amS, if_true, if_false, Nat.reduceEqDiff]) | (refine awp_ret ?_; try simp only [amS]) | (refine Cont.go (by assumption) ?_) | (refine Arm.go (by assumption) ?_))
  refine callR_tree hG0 hop ?_
  simp only [amS, amL, tyS, amB, Nat.reduceLT, Nat.reduceEqDiff, Nat.reduceAdd, Nat.reduceMul, Nat.reduceSub, Nat.reduceLeDiff, reduceCtorEq, Int.reduceToNat, Int.reduceLE, Int.reduceLT, Int.le_refl, Int.toNat_natCast, Tryd.ntmps43]
  repeat' (first | (refine awp_seq_k fun _ _ => ?_) | (refine awp_block ?_) | ((first | (refine awp_rgn ?_) | (refine awp_any (by kernel_rfl) (by kernel_rfl) ?_) | (refine awp_cond_k fun _ _ _ _ => ?_)) <;> simp only [amS, amL, tyS, amB, Nat.reduceLT, Nat.reduceEqDiff, Nat.reduceAdd, Nat.reduceMul, Nat.reduceSub, Nat.reduceLeDiff, reduceCtorEq, Int.reduceToNat, Int.reduceLE, Int.reduceLT, Int.le_refl, Int.toNat_natCast, meV, mkV, Tryd.ntmps43]) | (refine guard_split (fun hg => ?_) (fun hg => ?_) <;> simp only [hg, amS, amL, tyS, amB, Nat.reduceLT, Nat.reduceEqDiff, Nat.reduceAdd, Nat.reduceMul, Nat.reduceSub, Nat.reduceLeDiff, reduceCtorEq, Int.reduceToNat, Int.reduceLE, Int.reduceLT, Int.le_refl, Int.toNat_natCast, meV, mkV, Tryd.ntmps43]) | (refine awp_skip ?_; simp only [amS]) | (refine awp_exit ?_; simp only [amS, if_true, if_false, Nat.reduceEqDiff]) | (refine awp_ret ?_; try simp only [amS]) | (refine Cont.go (by assumption) ?_) | (refine Arm.go (by assumption) ?_))
  refine body_retC rfl (by simp only [amS, amL, tyS, amB, Nat.reduceLT, Nat.reduceEqDiff, Nat.reduceAdd, Nat.reduceMul, Nat.reduceSub, Nat.reduceLeDiff, reduceCtorEq, Int.reduceToNat, Int.reduceLE, Int.reduceLT, Int.le_refl, Int.toNat_natCast] <;> rfl) ?_
  rfl

theorem fold_43 {n kd x y : Int} (i : Int) (h : Okay n kd x y) : Pure Tryd.prog G0 43 [.agg (meV n kd x y i)] (.agg (foldV n kd x y i)) := by
  rcases h.kd with ⟨rfl, _, _, _, _⟩ | ⟨rfl, _, hx, hy⟩
  · exact fold_bin i h false (fun c hc Q hy => by
      obtain rfl : _ = c := Option.some.inj hc
      refine awp_pre5 (N := 60) (cx := callX Tryd.prog G0 60 [] [] 60) _ _ (by kernel_rfl) (okc 60) hG0 (by kernel_rfl) (by simp [inR]) rfl hy)
  · simp only [truths, List.mem_cons, List.not_mem_nil, or_false] at hx hy
    rcases hx with rfl | rfl <;> rcases hy with rfl | rfl
    · exact fold_bin i h true (fun c hc Q hy => by
      obtain rfl : _ = c := Option.some.inj hc
      refine awp_pre5 (N := 60) (cx := callX Tryd.prog G0 60 [] [] 60) _ _ (by kernel_rfl) (okc 60) hG0 (by kernel_rfl) (by simp [inR]) rfl hy)
    · exact fold_bin i h true (fun c hc Q hy => by
      obtain rfl : _ = c := Option.some.inj hc
      refine awp_pre5 (N := 60) (cx := callX Tryd.prog G0 60 [] [] 60) _ _ (by kernel_rfl) (okc 60) hG0 (by kernel_rfl) (by simp [inR]) rfl hy)
    · exact fold_bin i h true (fun c hc Q hy => by
      obtain rfl : _ = c := Option.some.inj hc
      refine awp_pre5 (N := 60) (cx := callX Tryd.prog G0 60 [] [] 60) _ _ (by kernel_rfl) (okc 60) hG0 (by kernel_rfl) (by simp [inR]) rfl hy)
    · exact fold_bin i h true (fun c hc Q hy => by
      obtain rfl : _ = c := Option.some.inj hc
      refine awp_pre5 (N := 60) (cx := callX Tryd.prog G0 60 [] [] 60) _ _ (by kernel_rfl) (okc 60) hG0 (by kernel_rfl) (by simp [inR]) rfl hy)

end Go.Proofs.YtbbgolecnmifpaaDoor
