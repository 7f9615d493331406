import Derived.Test.YthlhepgajgmhgaaDoorG
set_option linter.unusedVariables false
set_option linter.unusedSimpArgs false
namespace Go.Proofs.YthlhepgajgmhgaaDoor
open Go.AM

def Small64 (n : Int) : Prop := -9223372036854775808 ≤ n ∧ n ≤ 9223372036854775807
def around (n m : Int) : Int := (if n < 0 then -(n + 1) else n).tmod m
theorem around_8 (n m : Int) (hn : Small64 n) (hm : m ≠ 0) : Pure Tryd.prog G0 8 [.int .i64 n, .int .i64 m] (.int .i64 (around n m)) := by
  obtain ⟨h1, h2⟩ := hn
  refine pure_of_body hG0 Tryd.func8 rfl (by kernel_rfl) (by simp [Tryd.ntmps8]) (by simp [inL, inR]) (by simp [inR]) ?_
  simp only [Tryd.ntmps8, enterF, Nat.reduceAdd]
  repeat' (first | (refine awp_seq_k fun _ _ => ?_) | (refine awp_block ?_) | ((first | (refine awp_rgn ?_) | (refine awp_any (by kernel_rfl) (by kernel_rfl) ?_) | (refine awp_cond_k fun _ _ _ _ => ?_)) <;> simp only [amS, amL, tyS, amB, Nat.reduceLT, Nat.reduceEqDiff, Nat.reduceAdd, Nat.reduceMul, Nat.reduceSub, Nat.reduceLeDiff, reduceCtorEq, Int.reduceToNat, Int.reduceLE, Int.reduceLT, Int.le_refl, Int.toNat_natCast]) | (refine guard_split (fun hg => ?_) (fun hg => ?_) <;> simp only [hg, amS, amL, tyS, amB, Nat.reduceLT, Nat.reduceEqDiff, Nat.reduceAdd, Nat.reduceMul, Nat.reduceSub, Nat.reduceLeDiff, reduceCtorEq, Int.reduceToNat, Int.reduceLE, Int.reduceLT, Int.le_refl, Int.toNat_natCast]) | (refine awp_skip ?_; simp only [amS]) | (refine awp_exit ?_; simp only [amS, if_true, if_false, Nat.reduceEqDiff]) | (refine awp_ret ?_; try simp only [amS]) | (refine Cont.go (by assumption) ?_) | (refine Arm.go (by assumption) ?_))
  refine ⟨fun h => ?_, fun h => ?_⟩
  · simp at h
    have e1 : IntKind.i64.wrap (n + 1) = n + 1 := wrap_id (by omega) (by omega)
    have e2 : IntKind.i64.wrap (0 - (n + 1)) = -(n + 1) := by rw [wrap_id (by omega) (by omega)]; omega
    repeat' (first | (refine awp_seq_k fun _ _ => ?_) | (refine awp_block ?_) | ((first | (refine awp_rgn ?_) | (refine awp_any (by kernel_rfl) (by kernel_rfl) ?_) | (refine awp_cond_k fun _ _ _ _ => ?_)) <;> simp only [amS, amL, tyS, amB, Nat.reduceLT, Nat.reduceEqDiff, Nat.reduceAdd, Nat.reduceMul, Nat.reduceSub, Nat.reduceLeDiff, reduceCtorEq, Int.reduceToNat, Int.reduceLE, Int.reduceLT, Int.le_refl, Int.toNat_natCast, e1, e2, hm]) | (refine guard_split (fun hg => ?_) (fun hg => ?_) <;> simp only [hg, amS, amL, tyS, amB, Nat.reduceLT, Nat.reduceEqDiff, Nat.reduceAdd, Nat.reduceMul, Nat.reduceSub, Nat.reduceLeDiff, reduceCtorEq, Int.reduceToNat, Int.reduceLE, Int.reduceLT, Int.le_refl, Int.toNat_natCast, e1, e2, hm]) | (refine awp_skip ?_; simp only [amS]) | (refine awp_exit ?_; simp only [amS, if_true, if_false, Nat.reduceEqDiff]) | (refine awp_ret ?_; try simp only [amS]) | (refine Cont.go (by assumption) ?_) | (refine Arm.go (by assumption) ?_))
    refine body_ret1 rfl ?_
    simp only [amS, if_true, if_false]
    rw [around, if_pos h]
  · simp at h
    repeat' (first | (refine awp_seq_k fun _ _ => ?_) | (refine awp_block ?_) | ((first | (refine awp_rgn ?_) | (refine awp_any (by kernel_rfl) (by kernel_rfl) ?_) | (refine awp_cond_k fun _ _ _ _ => ?_)) <;> simp only [amS, amL, tyS, amB, Nat.reduceLT, Nat.reduceEqDiff, Nat.reduceAdd, Nat.reduceMul, Nat.reduceSub, Nat.reduceLeDiff, reduceCtorEq, Int.reduceToNat, Int.reduceLE, Int.reduceLT, Int.le_refl, Int.toNat_natCast, hm]) | (refine guard_split (fun hg => ?_) (fun hg => ?_) <;> simp only [hg, amS, amL, tyS, amB, Nat.reduceLT, Nat.reduceEqDiff, Nat.reduceAdd, Nat.reduceMul, Nat.reduceSub, Nat.reduceLeDiff, reduceCtorEq, Int.reduceToNat, Int.reduceLE, Int.reduceLT, Int.le_refl, Int.toNat_natCast, hm]) | (refine awp_skip ?_; simp only [amS]) | (refine awp_exit ?_; simp only [amS, if_true, if_false, Nat.reduceEqDiff]) | (refine awp_ret ?_; try simp only [amS]) | (refine Cont.go (by assumption) ?_) | (refine Arm.go (by assumption) ?_))
    refine body_ret1 rfl ?_
    simp only [amS, if_true, if_false]
    rw [around, if_neg (by omega)]
theorem around_nonneg (n m : Int) (hm : 0 < m) : 0 ≤ around n m ∧ around n m < m := by
  unfold around
  split
  · exact ⟨Int.tmod_nonneg _ (by omega), Int.tmod_lt_of_pos _ hm⟩
  · exact ⟨Int.tmod_nonneg _ (by omega), Int.tmod_lt_of_pos _ hm⟩

/-! ### a region with one call whose contract is known, run from a state and to a literal state -/
def callP (G : Nat → Option (List AV)) (n : Nat) (l : List POp) (s : AS) : Option (FuncId × List AV) := match l with
  | p :: _ => if dstB n p.1 && !isNext p.2.1 && (wantS p.2.2 s == some true) then callOf p.2.1 (evA G s.get) else none
  | [] => none
section
variable {P : Program} {G : Nat → Option (List AV)} {cx : CallX} {yx : YieldX}
def regCallX (P : Program) (G : Nat → Option (List AV)) (cx : CallX) (yx : YieldX) (n : Nat) (l : List POp) (j : Nat) (s : AS) (v : AV) : Option AS := match rgnX P G cx yx n (l.take j) none s with
  | some (m, s1) => match l.drop j with
    | p :: rest => (rgnX P G cx yx n rest (adv m [] []) (s1.put p.1 v)).map (·.2)
    | [] => none
  | none => none
def regCallee (P : Program) (G : Nat → Option (List AV)) (cx : CallX) (yx : YieldX) (n : Nat) (l : List POp) (j : Nat) (s : AS) : Option (FuncId × List AV) := match rgnX P G cx yx n (l.take j) none s with
  | some (_, s1) => callP G n (l.drop j) s1
  | none => none
theorem awpL_regcall [rd : Rnd] {n : Nat} (hG : ∀ g cs, G g = some cs → inL noRef cs = true) (hc : CallOK P G cx) (hy : YieldOK P G yx) {Q : Exit → AS → Prop} {c : List Code} {s : AS} (j : Nat) (f : FuncId) (args : List AV) (v : AV) (l : List (Nat × AV)) (hp : List ARow)
    (hreg : isReg c = true) (h1 : regCallee P G cx yx n (regOps c) j s = some (f, args)) (hf : Pure P G f args v) (h2 : ckO (regCallX P G cx yx n (regOps c) j s v) l hp = true) (hne : c.tail.isEmpty = false) (hq : awpL P G n 0 Q c.tail ⟨mkF l, hp⟩) : awpL P G n 0 Q c s := by
  refine awpL_reg hreg ?_
  unfold regCallee at h1
  unfold regCallX at h2
  split at h1
  case h_2 => cases h1
  rename_i m s1 e1
  simp only [e1] at h2
  have e0 : regOps c = (regOps c).take j ++ (regOps c).drop j := (List.take_append_drop ..).symm
  rw [e0]
  refine rgnX_pre hc hy _ _ none m s s1 e1 ?_
  cases hd : (regOps c).drop j with
  | nil => rw [hd] at h1; simp [callP] at h1
  | cons p rest =>
    rw [hd] at h1 h2
    simp only [callP] at h1
    split at h1
    case isFalse => cases h1
    rename_i hb
    simp only [Bool.and_eq_true, Bool.not_eq_true', beq_iff_eq] at hb
    refine rgnS_call hb.1.1 hb.1.2 hb.2 h1 hf ?_
    change ckO (Option.map (·.2) (rgnX P G cx yx n rest (adv m [] []) (s1.put p.1 v))) l hp = true at h2
    cases e2 : rgnX P G cx yx n rest (adv m [] []) (s1.put p.1 v) with
    | none => rw [e2] at h2; simp [ckO] at h2
    | some r =>
      obtain ⟨m2, s2⟩ := r
      rw [e2] at h2
      simp only [Option.map_some, ckO] at h2
      refine rgnX_ok hc hy rest _ m2 _ s2 e2 ?_
      exact awpL_ref hne (ref_ck hG h2) hq
end
/-! ### a loop whose states hold an unknown number: they are not looked through -/
def iterX0 (f : AS → Option (List (Exit × AS))) : Nat → AS → Option (List (Exit × AS))
  | 0, _ => none
  | n + 1, s => match f s with
    | some L => bindX (iterX0 f n) L
    | none => none
section
variable {P : Program} {G : Nat → Option (List AV)} {cx : CallX} {yx : YieldX}
theorem good_iter0 [rd : Rnd] {top : Bool} {N n k : Nat} (hm : P.follows .mixedOrders = true) (htop : top = true → rd.round = none ∧ ∃ b, rd.base = some b) (hc : CallOK P G cx) (hy : YieldOK P G yx) {Q : Exit → AS → Prop} {c : Code} : ∀ (m : Nat) (s : AS) (L : List (Exit × AS)), iterX0 (exX P G cx yx top N n c) m s = some L → (∀ p ∈ L, Q p.1 p.2) → AM.Good P G n k c Q m s
  | 0, s, L, h, _ => by simp [iterX0] at h
  | m + 1, s, L, h, hq => by
    simp only [iterX0] at h
    split at h
    · rename_i L1 h1
      show AWp P G n k c (athen (AM.Good P G n k c Q m) Q) s
      refine exX_ok hm htop hc hy c s _ _ h1 fun p hp => athen_of ?_
      rcases bindX_ok h p hp with ⟨e, a, q1, q2⟩ | ⟨e, q⟩
      · exact .inl ⟨e, good_iter0 hm htop hc hy m p.2 a q1 fun p' hp' => hq p' (q2 p' hp')⟩
      · exact .inr ⟨e, hq p q⟩
    · cases h
def outS (l : List (Nat × AV)) (hp : List ARow) (t : Nat) : Option (List (Exit × AS)) → Option (Nat × Bool × AV)
  | some [(.exit j, s)] => some (j, ckS s l hp, s.get t)
  | _ => none
theorem awpL_loop_sym [rd : Rnd] {top : Bool} {N n : Nat} (hG : ∀ g cs, G g = some cs → inL noRef cs = true) (hm : P.follows .mixedOrders = true) (htop : top = true → rd.round = none ∧ ∃ b, rd.base = some b) (hc : CallOK P G cx) (hy : YieldOK P G yx) {Q : Exit → AS → Prop} {c : List Code} {s : AS} (m : Nat) (l : List (Nat × AV)) (hp : List ARow) (t : Nat) (v : AV) (hin : inR noRef v = true)
    (hl : isLoopC c = true) (h : outS l hp t (iterX0 (exX P G cx yx top N n (loopC c)) m s) = some (loopId c, true, v)) (hne : c.tail.isEmpty = false) (hq : awpL P G n 0 Q c.tail ⟨mkF ((t, v) :: l), hp⟩) : awpL P G n 0 Q c s := by
  rw [loopC_eq hl]
  unfold outS at h
  split at h
  case h_2 => cases h
  rename_i j s1 h1
  simp only [Option.some.injEq, Prod.mk.injEq] at h
  obtain ⟨rfl, h2, h3⟩ := h
  refine awp_loop_rest (good_iter0 hm htop hc hy m s _ h1 fun p hp => ?_)
  rw [List.mem_singleton.1 hp]
  simp only [ablock, if_true]
  exact awpL_ref hne (ref_sym (l2 := []) hG h2 t v h3 hin) hq
end

end Go.Proofs.YthlhepgajgmhgaaDoor
