import Derived.Test.YtbbgolecnmifpaaDoorG
import Derived.Test.YtbbgolecnmifpaaDoorTypes
set_option linter.unusedVariables false
set_option linter.unusedSimpArgs false
namespace Go.Proofs.YtbbgolecnmifpaaDoor
open Go.AM

def Small64 (n : Int) : Prop := -9223372036854775808 ≤ n ∧ n ≤ 9223372036854775807
def around (n m : Int) : Int := (if n < 0 then -(n + 1) else n).tmod m
theorem around_11 (n m : Int) (hn : Small64 n) (hm : m ≠ 0) : Pure Tryd.prog G0 11 [.int .i64 n, .int .i64 m] (.int .i64 (around n m)) := by
  obtain ⟨h1, h2⟩ := hn
  refine pure_of_body hG0 Tryd.func11 rfl (by kernel_rfl) (by simp [Tryd.ntmps11]) (by simp [inL, inR]) (by simp [inR]) ?_
  simp only [Tryd.ntmps11, enterF, Nat.reduceAdd]
  repeat' (first | (refine awp_seq_k fun _ _ => ?_) | (refine awp_block ?_) | ((first | (refine awp_rgn ?_) | (refine awp_any (by kernel_rfl) (by kernel_rfl) ?_) | (refine awp_cond_k fun _ _ _ _ => ?_)) <;> simp only [amS, amL, tyS, amB, Nat.reduceLT, Nat.reduceEqDiff, Nat.reduceAdd, Nat.reduceMul, Nat.reduceSub, Nat.reduceLeDiff, reduceCtorEq, Int.reduceToNat, Int.reduceLE, Int.reduceLT, Int.le_refl, Int.toNat_natCast]) | (refine guard_split (fun hg => ?_) (fun hg => ?_) <;> simp only [hg, amS, amL, tyS, amB, Nat.reduceLT, Nat.reduceEqDiff, Nat.reduceAdd, Nat.reduceMul, Nat.reduceSub, Nat.reduceLeDiff, reduceCtorEq, Int.reduceToNat, Int.reduceLE, Int.reduceLT, Int.le_refl, Int.toNat_natCast]) | (refine awp_skip ?_; simp only [amS]) | (refine awp_exit ?_; simp only [amS, if_true, if_false, Nat.reduceEqDiff]) | (refine awp_ret ?_; try simp only [amS]) | (refine Cont.go (by assumption) ?_) | (refine Arm.go (by assumption) ?_))
  refine ⟨fun h => ?_, fun h => ?_⟩
  · simp at h
    have e1 : IntKind.i64.wrap (n + 1) = n + 1 := wrap_id (by omega) (by omega)
    have e2 : IntKind.i64.wrap (0 - (n + 1)) = -(n + 1) := by rw [wrap_id (by omega) (by omega)]; omega
    repeat' (first | (refine awp_seq_k fun _ _ => ?_) | (refine awp_block ?_) | ((first | (refine awp_rgn ?_) | (refine awp_any (by kernel_rfl) (by kernel_rfl) ?_) | (refine awp_cond_k fun _ _ _ _ => ?_)) <;> simp only [amS, amL, tyS, amB, Nat.reduceLT, Nat.reduceEqDiff, Nat.reduceAdd, Nat.reduceMul, Nat.reduceSub, Nat.reduceLeDiff, reduceCtorEq, Int.reduceToNat, Int.reduceLE, Int.reduceLT, Int.le_refl, Int.toNat_natCast, e1, e2, hm]) | (refine guard_split (fun hg => ?_) (fun hg => ?_) <;> simp only [hg, amS, amL, tyS, amB, Nat.reduceLT, Nat.reduceEqDiff, Nat.reduceAdd, Nat.reduceMul, Nat.reduceSub, Nat.reduceLeDiff, reduceCtorEq, Int.reduceToNat, Int.reduceLE, Int.reduceLT, Int.le_refl, Int.toNat_natCast, e1, e2, hm]) | (refine awp_skip ?_; simp only [amS]) | (refine awp_exit ?_; simp only [amS, if_true, if_false, Nat.reduceEqDiff]) | (refine awp_ret ?_; try simp only [amS]) | (refine Cont.go (by assumption) ?_) | (refine Arm.go (by assumption) ?_))
    refine body_ret1 rfl ?_
    simp only [amS, if_true, if_false]
    rw [around, if_pos h]
  · simp at h
    repeat' (first | (refine awp_seq_k fun _ _ => ?_) | (refine awp_block ?_) | ((first | (refine awp_rgn ?_) | (refine awp_any (by kernel_rfl) (by kernel_rfl) ?_) | (refine awp_cond_k fun _ _ _ _ => ?_)) <;> simp only [amS, amL, tyS, amB, Nat.reduceLT, Nat.reduceEqDiff, Nat.reduceAdd, Nat.reduceMul, Nat.reduceSub, Nat.reduceLeDiff, reduceCtorEq, Int.reduceToNat, Int.reduceLE, Int.reduceLT, Int.le_refl, Int.toNat_natCast, hm]) | (refine guard_split (fun hg => ?_) (fun hg => ?_) <;> simp only [hg, amS, amL, tyS, amB, Nat.reduceLT, Nat.reduceEqDiff, Nat.reduceAdd, Nat.reduceMul, Nat.reduceSub, Nat.reduceLeDiff, reduceCtorEq, Int.reduceToNat, Int.reduceLE, Int.reduceLT, Int.le_refl, Int.toNat_natCast, hm]) | (refine awp_skip ?_; simp only [amS]) | (refine awp_exit ?_; simp only [amS, if_true, if_false, Nat.reduceEqDiff]) | (refine awp_ret ?_; try simp only [amS]) | (refine Cont.go (by assumption) ?_) | (refine Arm.go (by assumption) ?_))
    refine body_ret1 rfl ?_
    simp only [amS, if_true, if_false]
    rw [around, if_neg (by omega)]
theorem around_nonneg (n m : Int) (hm : 0 < m) : 0 ≤ around n m ∧ around n m < m := by
  unfold around
  split
  · exact ⟨Int.tmod_nonneg _ (by omega), Int.tmod_lt_of_pos _ hm⟩
  · exact ⟨Int.tmod_nonneg _ (by omega), Int.tmod_lt_of_pos _ hm⟩
theorem around_id (n m : Int) (h0 : 0 ≤ n) (hm : n < m) : around n m = n := by
  unfold around
  rw [if_neg (by omega), Int.tmod_eq_emod_of_nonneg h0, Int.emod_eq_of_lt h0 hm]

def wrapR (n : Int) : Int := if n.tmod 16 < -8 then n.tmod 16 + 16 else if 7 < n.tmod 16 then n.tmod 16 - 16 else n.tmod 16
theorem wrapR_29 (n : Int) (hn : Small64 n) : Pure Tryd.prog G0 29 [.int .i64 n] (.int .i64 (wrapR n)) := by
  have hb : -16 < n.tmod 16 ∧ n.tmod 16 < 16 := ⟨by have := Int.lt_tmod_of_pos n (b := 16) (by omega); omega, Int.tmod_lt_of_pos n (by omega)⟩
  refine pure_of_body hG0 Tryd.func29 rfl (by kernel_rfl) (by simp [Tryd.ntmps29]) (by simp [inL, inR]) (by simp [inR]) ?_
  simp only [Tryd.ntmps29, enterF, Nat.reduceAdd]
  have h16 : (16 : Int) ≠ 0 := by omega
  repeat' (first | (refine awp_seq_k fun _ _ => ?_) | (refine awp_block ?_) | ((first | (refine awp_rgn ?_) | (refine awp_any (by kernel_rfl) (by kernel_rfl) ?_) | (refine awp_cond_k fun _ _ _ _ => ?_)) <;> simp only [amS, amL, tyS, amB, Nat.reduceLT, Nat.reduceEqDiff, Nat.reduceAdd, Nat.reduceMul, Nat.reduceSub, Nat.reduceLeDiff, reduceCtorEq, Int.reduceToNat, Int.reduceLE, Int.reduceLT, Int.le_refl, Int.toNat_natCast, h16]) | (refine guard_split (fun hg => ?_) (fun hg => ?_) <;> simp only [hg, amS, amL, tyS, amB, Nat.reduceLT, Nat.reduceEqDiff, Nat.reduceAdd, Nat.reduceMul, Nat.reduceSub, Nat.reduceLeDiff, reduceCtorEq, Int.reduceToNat, Int.reduceLE, Int.reduceLT, Int.le_refl, Int.toNat_natCast, h16]) | (refine awp_skip ?_; simp only [amS]) | (refine awp_exit ?_; simp only [amS, if_true, if_false, Nat.reduceEqDiff]) | (refine awp_ret ?_; try simp only [amS]) | (refine Cont.go (by assumption) ?_) | (refine Arm.go (by assumption) ?_))
  refine ⟨fun h => ?_, fun h => ?_⟩
  · simp at h
    have e1 : IntKind.i64.wrap (n.tmod 16 + 16) = n.tmod 16 + 16 := wrap_id (by omega) (by omega)
    repeat' (first | (refine awp_seq_k fun _ _ => ?_) | (refine awp_block ?_) | ((first | (refine awp_rgn ?_) | (refine awp_any (by kernel_rfl) (by kernel_rfl) ?_) | (refine awp_cond_k fun _ _ _ _ => ?_)) <;> simp only [amS, amL, tyS, amB, Nat.reduceLT, Nat.reduceEqDiff, Nat.reduceAdd, Nat.reduceMul, Nat.reduceSub, Nat.reduceLeDiff, reduceCtorEq, Int.reduceToNat, Int.reduceLE, Int.reduceLT, Int.le_refl, Int.toNat_natCast, e1]) | (refine guard_split (fun hg => ?_) (fun hg => ?_) <;> simp only [hg, amS, amL, tyS, amB, Nat.reduceLT, Nat.reduceEqDiff, Nat.reduceAdd, Nat.reduceMul, Nat.reduceSub, Nat.reduceLeDiff, reduceCtorEq, Int.reduceToNat, Int.reduceLE, Int.reduceLT, Int.le_refl, Int.toNat_natCast, e1]) | (refine awp_skip ?_; simp only [amS]) | (refine awp_exit ?_; simp only [amS, if_true, if_false, Nat.reduceEqDiff]) | (refine awp_ret ?_; try simp only [amS]) | (refine Cont.go (by assumption) ?_) | (refine Arm.go (by assumption) ?_))
    refine body_ret1 rfl ?_
    simp only [amS, if_true, if_false]
    rw [wrapR, if_pos h]
  · simp at h
    repeat' (first | (refine awp_seq_k fun _ _ => ?_) | (refine awp_block ?_) | ((first | (refine awp_rgn ?_) | (refine awp_any (by kernel_rfl) (by kernel_rfl) ?_) | (refine awp_cond_k fun _ _ _ _ => ?_)) <;> simp only [amS, amL, tyS, amB, Nat.reduceLT, Nat.reduceEqDiff, Nat.reduceAdd, Nat.reduceMul, Nat.reduceSub, Nat.reduceLeDiff, reduceCtorEq, Int.reduceToNat, Int.reduceLE, Int.reduceLT, Int.le_refl, Int.toNat_natCast]) | (refine guard_split (fun hg => ?_) (fun hg => ?_) <;> simp only [hg, amS, amL, tyS, amB, Nat.reduceLT, Nat.reduceEqDiff, Nat.reduceAdd, Nat.reduceMul, Nat.reduceSub, Nat.reduceLeDiff, reduceCtorEq, Int.reduceToNat, Int.reduceLE, Int.reduceLT, Int.le_refl, Int.toNat_natCast]) | (refine awp_skip ?_; simp only [amS]) | (refine awp_exit ?_; simp only [amS, if_true, if_false, Nat.reduceEqDiff]) | (refine awp_ret ?_; try simp only [amS]) | (refine Cont.go (by assumption) ?_) | (refine Arm.go (by assumption) ?_))
    refine ⟨fun h2 => ?_, fun h2 => ?_⟩
    · simp at h2
      have e1 : IntKind.i64.wrap (n.tmod 16 - 16) = n.tmod 16 - 16 := wrap_id (by omega) (by omega)
      repeat' (first | (refine awp_seq_k fun _ _ => ?_) | (refine awp_block ?_) | ((first | (refine awp_rgn ?_) | (refine awp_any (by kernel_rfl) (by kernel_rfl) ?_) | (refine awp_cond_k fun _ _ _ _ => ?_)) <;> simp only [amS, amL, tyS, amB, Nat.reduceLT, Nat.reduceEqDiff, Nat.reduceAdd, Nat.reduceMul, Nat.reduceSub, Nat.reduceLeDiff, reduceCtorEq, Int.reduceToNat, Int.reduceLE, Int.reduceLT, Int.le_refl, Int.toNat_natCast, e1]) | (refine guard_split (fun hg => ?_) (fun hg => ?_) <;> simp only [hg, amS, amL, tyS, amB, Nat.reduceLT, Nat.reduceEqDiff, Nat.reduceAdd, Nat.reduceMul, Nat.reduceSub, Nat.reduceLeDiff, reduceCtorEq, Int.reduceToNat, Int.reduceLE, Int.reduceLT, Int.le_refl, Int.toNat_natCast, e1]) | (refine awp_skip ?_; simp only [amS]) | (refine awp_exit ?_; simp only [amS, if_true, if_false, Nat.reduceEqDiff]) | (refine awp_ret ?_; try simp only [amS]) | (refine Cont.go (by assumption) ?_) | (refine Arm.go (by assumption) ?_))
      refine body_ret1 rfl ?_
      simp only [amS, if_true, if_false]
      rw [wrapR, if_neg (by omega), if_pos h2]
    · simp at h2
      repeat' (first | (refine awp_seq_k fun _ _ => ?_) | (refine awp_block ?_) | ((first | (refine awp_rgn ?_) | (refine awp_any (by kernel_rfl) (by kernel_rfl) ?_) | (refine awp_cond_k fun _ _ _ _ => ?_)) <;> simp only [amS, amL, tyS, amB, Nat.reduceLT, Nat.reduceEqDiff, Nat.reduceAdd, Nat.reduceMul, Nat.reduceSub, Nat.reduceLeDiff, reduceCtorEq, Int.reduceToNat, Int.reduceLE, Int.reduceLT, Int.le_refl, Int.toNat_natCast]) | (refine guard_split (fun hg => ?_) (fun hg => ?_) <;> simp only [hg, amS, amL, tyS, amB, Nat.reduceLT, Nat.reduceEqDiff, Nat.reduceAdd, Nat.reduceMul, Nat.reduceSub, Nat.reduceLeDiff, reduceCtorEq, Int.reduceToNat, Int.reduceLE, Int.reduceLT, Int.le_refl, Int.toNat_natCast]) | (refine awp_skip ?_; simp only [amS]) | (refine awp_exit ?_; simp only [amS, if_true, if_false, Nat.reduceEqDiff]) | (refine awp_ret ?_; try simp only [amS]) | (refine Cont.go (by assumption) ?_) | (refine Arm.go (by assumption) ?_))
      refine body_ret1 rfl ?_
      simp only [amS, if_true, if_false]
      rw [wrapR, if_neg (by omega), if_neg (by omega)]
theorem wrapR_b (n : Int) : -8 ≤ wrapR n ∧ wrapR n ≤ 7 := by
  have hb : -16 < n.tmod 16 ∧ n.tmod 16 < 16 := ⟨by have := Int.lt_tmod_of_pos n (b := 16) (by omega); omega, Int.tmod_lt_of_pos n (by omega)⟩
  unfold wrapR
  split
  · omega
  · split <;> omega

def ndV (k n : Int) : List AV := [.int .i64 k, .int .i64 n, .int .i64 0, .sl true []]
def eV (n k x y : Int) : List AV := [.int .i64 9, .int .i64 n, .int .i64 0, .sl true [ndV k x, ndV k y]]
def mkV (k n i : Int) : List AV := [.int .i64 k, .int .i64 n, .int .i64 0, .int .i64 i, .bool false, .sl true []]
def meV (n k x y i : Int) : List AV := [.int .i64 9, .int .i64 n, .int .i64 0, .int .i64 i, .bool false, .sl false [mkV k x (i + 1), mkV k y (i + 2)]]
def okB : Option (AV × List (Nat × ARow)) → AV → Bool
  | some (v, []), u => eqA v u
  | _, _ => false
theorem okB_ok {o : Option (AV × List (Nat × ARow))} {u : AV} (h : okB o u = true) : o = some (u, []) := by
  unfold okB at h
  split at h
  · rw [eqA_ok _ _ h]
  · cases h
/-- A run that is right is a contract. -/
theorem pure_okB {f : FuncId} {args : List AV} {res : AV} (N d : Nat) (T : List (FuncId × List AV × AV)) (hT : ∀ e ∈ T, Pure Tryd.prog G0 e.1 e.2.1 e.2.2) (hres : inR noRef res = true) (h : okB (callX Tryd.prog G0 N T [] d f args []) res = true) : Pure Tryd.prog G0 f args res :=
  pure_of_call N d T [] hT hG0 (by kernel_rfl) hres (okB_ok h)

/-- What the operations answer, and the code of what they throw. -/
def w4 (z : Int) : Int := (z + 8) % 16 - 8
def n4 (z : Int) : Nat := (z % 16).toNat
def b01 (b : Bool) : Int := if b then 1 else 0
def opV (n x y : Int) : Int :=
  if n = 0 then w4 (x + y) else if n = 1 then w4 (x - y) else if n = 2 then w4 (x * y)
  else if n = 3 then (if y = 0 then 0 else w4 (x.tdiv y)) else if n = 4 then (if y = 0 then 0 else w4 (x.tmod y))
  else if n = 5 then w4 (Nat.land (n4 x) (n4 y)) else if n = 6 then w4 (Nat.lor (n4 x) (n4 y)) else if n = 7 then w4 (Nat.xor (n4 x) (n4 y))
  else if n = 8 then w4 (x * 2 ^ (n4 y % 4)) else if n = 9 then w4 (x / 2 ^ (n4 y % 4))
  else if n = 10 then b01 (decide (x < y)) else if n = 11 then b01 (decide (x = y)) else if n = 12 then b01 (decide (x ≠ 0) && decide (y ≠ 0)) else b01 (decide (x ≠ 0) || decide (y ≠ 0))
def opC (n y : Int) : Int := if (n = 3 ∨ n = 4) ∧ y = 0 then 2 else 0
def words : List Int := [-8, -7, -6, -5, -4, -3, -2, -1, 0, 1, 2, 3, 4, 5, 6, 7]
def truths : List Int := [0, 1]
theorem mem_words {x : Int} (h1 : -8 ≤ x) (h2 : x ≤ 7) : x ∈ words := by
  simp only [words, List.mem_cons, List.not_mem_nil, or_false]; omega
theorem mem_truths {x : Int} (h1 : 0 ≤ x) (h2 : x < 2) : x ∈ truths := by
  simp only [truths, List.mem_cons, List.not_mem_nil, or_false]; omega
noncomputable def opChk (n x y : Int) : Bool := okB (callX Tryd.prog G0 60 [] [] 60 31 [.int .i64 n, .int .i64 x, .int .i64 y] []) (.tup [.int .i64 (opV n x y), .int .i64 (opC n y)])
noncomputable def opAll (n : Int) (l : List Int) : Bool := l.all fun x => l.all fun y => opChk n x y
theorem opAll_ok {n x y : Int} {l : List Int} (h : opAll n l = true) (hx : x ∈ l) (hy : y ∈ l) : Pure Tryd.prog G0 31 [.int .i64 n, .int .i64 x, .int .i64 y] (.tup [.int .i64 (opV n x y), .int .i64 (opC n y)]) := by
  have h1 := List.all_eq_true.1 (List.all_eq_true.1 h x hx) y hy
  exact pure_okB 60 60 [] no_table (by simp [inR, inL]) h1

end Go.Proofs.YtbbgolecnmifpaaDoor
