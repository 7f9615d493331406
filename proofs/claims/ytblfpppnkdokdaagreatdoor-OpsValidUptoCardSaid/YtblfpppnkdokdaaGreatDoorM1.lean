import Derived.Test.YtblfpppnkdokdaaGreatDoorAH
set_option linter.unusedVariables false
set_option linter.unusedSimpArgs false
namespace Go.Proofs.YtblfpppnkdokdaaGreatDoor
open Go.AM
attribute [local irreducible] AWp rgnS callR callV effR valR guardR stepR nextR
def Small64 (n : Int) : Prop := -9223372036854775808 ≤ n ∧ n ≤ 9223372036854775807
def around (n m : Int) : Int := (if n < 0 then -(n + 1) else n).tmod m
theorem around_49 (n m : Int) (hn : Small64 n) (hm : m ≠ 0) : Pure Tryz.prog G0 32 [.int .i64 n, .int .i64 m] (.int .i64 (around n m)) := by
  obtain ⟨h1, h2⟩ := hn
  refine pure_of_body hG0 Tryz.func32 rfl (by kernel_rfl) (by simp [Tryz.ntmps32]) (by simp [inL, inR]) (by simp [inR]) ?_
  simp only [Tryz.ntmps32, enterF, Nat.reduceAdd]
  repeat' (first | with_reducible (first | refine u'1 fun _ _ => ?_ | refine u'2 ?_ | (first | refine u'3 ?_ | refine u'4 ?_ | refine u'5 fun _ _ _ _ => ?_ | refine u'6 (fun hg => ?_) (fun hg => ?_) <;> try simp only [hg]) <;> simp only [wS, simprocAttr] | (first | refine u's ?_ | refine u'e ?_ | refine u'r ?_) <;> try simp only [wE, simprocAttr] | refine u'8 ?_ | refine u'9 ?_))
  refine ⟨fun h => ?_, fun h => ?_⟩
  · simp at h
    have e1 : IntKind.i64.wrap (n + 1) = n + 1 := wrap_id (by omega) (by omega)
    have e2 : IntKind.i64.wrap (0 - (n + 1)) = -(n + 1) := by rw [wrap_id (by omega) (by omega)]; omega
    repeat' (first | with_reducible (first | refine u'1 fun _ _ => ?_ | refine u'2 ?_ | (first | refine u'3 ?_ | refine u'4 ?_ | refine u'5 fun _ _ _ _ => ?_ | refine u'6 (fun hg => ?_) (fun hg => ?_) <;> try simp only [hg]) <;> simp only [wS, simprocAttr, e1, e2, hm] | (first | refine u's ?_ | refine u'e ?_ | refine u'r ?_) <;> try simp only [wE, simprocAttr] | refine u'8 ?_ | refine u'9 ?_))
    refine body_ret1 rfl ?_
    simp only [amS, if_true, if_false]
    rw [around, if_pos h]
  · simp at h
    repeat' (first | with_reducible (first | refine u'1 fun _ _ => ?_ | refine u'2 ?_ | (first | refine u'3 ?_ | refine u'4 ?_ | refine u'5 fun _ _ _ _ => ?_ | refine u'6 (fun hg => ?_) (fun hg => ?_) <;> try simp only [hg]) <;> simp only [wS, simprocAttr, hm] | (first | refine u's ?_ | refine u'e ?_ | refine u'r ?_) <;> try simp only [wE, simprocAttr] | refine u'8 ?_ | refine u'9 ?_))
    refine body_ret1 rfl ?_
    simp only [amS, if_true, if_false]
    rw [around, if_neg (by omega)]
theorem around_nonneg (n m : Int) (hm : 0 < m) : 0 ≤ around n m ∧ around n m < m := by
  unfold around
  split
  · exact ⟨Int.tmod_nonneg _ (by omega), Int.tmod_lt_of_pos _ hm⟩
  · exact ⟨Int.tmod_nonneg _ (by omega), Int.tmod_lt_of_pos _ hm⟩
def encI (l : List Int) : AV := .sl false (l.map fun n => [.int .i64 n])
theorem tree_ints : ∀ (l : List Int), inE noRef (l.map fun n => [AV.int .i64 n]) = true
  | [] => by simp [inE]
  | x :: l => by simp [inE, inL, inR, tree_ints l]
theorem tree_encI (l : List Int) : inR noRef (encI l) = true := by simp only [encI, inR]; exact tree_ints l
def atS (l : List Int) (i m : Int) : Int := if 0 ≤ i then (match l[i.toNat]? with | some x => around x m | none => 0) else 0
theorem atS_b (l : List Int) (i m : Int) (hm : 0 < m) : 0 ≤ atS l i m ∧ atS l i m < m := by
  unfold atS
  split
  · split
    · exact around_nonneg _ _ hm
    · omega
  · omega
theorem at_22 (l : List Int) (i m : Int) (hl : ∀ x ∈ l, Small64 x) (hm : m ≠ 0) : Pure Tryz.prog G0 28 [encI l, .int .i64 i, .int .i64 m] (.int .i64 (atS l i m)) := by
  refine pure_of_body hG0 Tryz.func28 rfl (by kernel_rfl) (by simp [Tryz.ntmps28]) (by simp [inL, inR, tree_encI]) (by simp [inR]) ?_
  simp only [Tryz.ntmps28, enterF, Nat.reduceAdd, encI]
  repeat' (first | with_reducible (first | refine u'1 fun _ _ => ?_ | refine u'2 ?_ | (first | refine u'3 ?_ | refine u'4 ?_ | refine u'5 fun _ _ _ _ => ?_ | refine u'6 (fun hg => ?_) (fun hg => ?_) <;> try simp only [hg]) <;> simp only [wS, simprocAttr] | (first | refine u's ?_ | refine u'e ?_ | refine u'r ?_) <;> try simp only [wE, simprocAttr] | refine u'8 ?_ | refine u'9 ?_))
  · simp at hg
    refine body_ret1 rfl ?_
    simp only [amS, if_true, if_false]
    rw [atS, if_neg (by omega)]
  · simp at hg
    refine ⟨fun h => ?_, fun h => ?_⟩
    · simp at h
      repeat' (first | with_reducible (first | refine u'1 fun _ _ => ?_ | refine u'2 ?_ | (first | refine u'3 ?_ | refine u'4 ?_ | refine u'5 fun _ _ _ _ => ?_ | refine u'6 (fun hg => ?_) (fun hg => ?_) <;> try simp only [hg]) <;> simp only [wS, simprocAttr] | (first | refine u's ?_ | refine u'e ?_ | refine u'r ?_) <;> try simp only [wE, simprocAttr] | refine u'8 ?_ | refine u'9 ?_))
      refine body_ret1 rfl ?_
      simp only [amS, if_true, if_false]
      rw [atS, if_pos hg, List.getElem?_eq_none (by omega)]
    · simp at h
      obtain ⟨k, rfl⟩ : ∃ k : Nat, i = k := ⟨i.toNat, (Int.toNat_of_nonneg hg).symm⟩
      have hlt : k < l.length := by omega
      obtain ⟨x, hx⟩ : ∃ v, l[k]? = some v := ⟨_, List.getElem?_eq_getElem hlt⟩
      repeat' (first | with_reducible (first | refine u'1 fun _ _ => ?_ | refine u'2 ?_ | (first | refine u'3 ?_ | refine u'4 ?_ | refine u'5 fun _ _ _ _ => ?_ | refine u'6 (fun hg => ?_) (fun hg => ?_) <;> try simp only [hg]) <;> simp only [wS, simprocAttr, hx] | (first | refine u's ?_ | refine u'e ?_ | refine u'r ?_) <;> try simp only [wE, simprocAttr] | refine u'8 ?_ | refine u'9 ?_))
      refine callR_tree hG0 (around_49 x m (hl x (List.mem_of_getElem? hx)) hm) ?_
      simp only [wS, simprocAttr]
      repeat' (first | with_reducible (first | refine u'1 fun _ _ => ?_ | refine u'2 ?_ | (first | refine u'3 ?_ | refine u'4 ?_ | refine u'5 fun _ _ _ _ => ?_ | refine u'6 (fun hg => ?_) (fun hg => ?_) <;> try simp only [hg]) <;> simp only [wS, simprocAttr] | (first | refine u's ?_ | refine u'e ?_ | refine u'r ?_) <;> try simp only [wE, simprocAttr] | refine u'8 ?_ | refine u'9 ?_))
      refine body_ret1 rfl ?_
      simp only [amS, if_true, if_false]
      rw [atS, if_pos hg, Int.toNat_natCast, hx]
end Go.Proofs.YtblfpppnkdokdaaGreatDoor
