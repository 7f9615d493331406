import Derived.Test.YtpdibmopbpcfdaaDoorAF
import Derived.Test.YtpdibmopbpcfdaaDoorM1
import Derived.Test.YtpdibmopbpcfdaaDoorTypes
set_option linter.unusedVariables false
set_option linter.unusedSimpArgs false
namespace Go.Proofs.YtpdibmopbpcfdaaDoor
open Go.AM
set_option maxRecDepth 100000
def cI (l : List Int) : List AV := l.map fun n => .int .i64 n
theorem cI_flat (l : List Int) : (l.map fun n => [AV.int .i64 n]).flatten = cI l := by
  induction l with
  | nil => rfl
  | cons x l ih => simp only [List.map_cons, List.flatten_cons, ih]; rfl
theorem tree_cI (p : Nat → Bool) (l : List Int) : inL p (cI l) = true := by
  induction l with
  | nil => rfl
  | cons x l ih => simp only [cI, List.map_cons, inL, inR, Bool.true_and] at ih ⊢; exact ih
theorem cI_len (l : List Int) : (cI l).length = l.length := by simp [cI]
theorem encI_all (l : List Int) : (l.map fun n => [AV.int .i64 n]).all (fun e => decide (e.length = 1)) = true := by
  induction l with
  | nil => rfl
  | cons x l ih => simp only [List.map_cons, List.all_cons, ih]; rfl
theorem clone_nil : Pure Tryd.prog G0 36 [encI []] (encI []) := by
  refine pure_of_bodyW hG0 Tryd.func36 rfl (by kernel_rfl) (by simp [Tryd.ntmps36]) (by simp [inL, inR, tree_encI]) (by simp [tree_encI]) ?_
  simp only [Tryd.ntmps36, enterF, Nat.reduceAdd]
  repeat' (first | refine u'1 fun _ _ => ?_ | refine u'2 ?_ | (first | refine u'3 ?_ | refine u'4 ?_ | refine u'5 fun _ _ _ _ => ?_ | (refine u'6 (fun hg => ?_) (fun hg => ?_) <;> try simp only [hg])) <;> simp only [wS, simprocAttr, encI, List.map_nil, List.isEmpty_nil, Bool.not_true] | (refine u'7 ?_; try simp only [wE, simprocAttr]) | refine u'8 ?_ | refine u'9 ?_)
  refine ⟨?_, ?_⟩ <;> repeat' (first | refine u'1 fun _ _ => ?_ | refine u'2 ?_ | (first | refine u'3 ?_ | refine u'4 ?_ | refine u'5 fun _ _ _ _ => ?_ | (refine u'6 (fun hg => ?_) (fun hg => ?_) <;> try simp only [hg])) <;> simp only [wS, simprocAttr] | (refine u'7 ?_; try simp only [wE, simprocAttr]) | refine u'8 ?_ | refine u'9 ?_)
  · refine body_ret1 rfl ?_
    simp only [wS, simprocAttr]
    rfl
  · refine eff_none (sz := 1) (by' := 8) (new := []) (by kernel_rfl) (by simp) (by simp [srcA]) (by simp) ?_
    simp only [wS, simprocAttr]
    repeat' (first | refine u'1 fun _ _ => ?_ | refine u'2 ?_ | (first | refine u'3 ?_ | refine u'4 ?_ | refine u'5 fun _ _ _ _ => ?_ | (refine u'6 (fun hg => ?_) (fun hg => ?_) <;> try simp only [hg])) <;> simp only [wS, simprocAttr] | (refine u'7 ?_; try simp only [wE, simprocAttr]) | refine u'8 ?_ | refine u'9 ?_)
    refine body_ret1 rfl ?_
    simp only [wS, simprocAttr]
    rfl
theorem clone_48 (p : List Int) (hp : p ≠ []) (hl : p.length ≤ 100000) (ver : Nat) (fl : Bool) (rows : Nat → ARow) (h4 : rows 4 = .cells ver (cI p)) (h8 : rows 8 = .none) : CallC Tryd.prog G0 36 [.osl 4 ver 0 p.length 1 fl] rows [4, 8] ⟨.osl 8 0 0 p.length 1 false, [(8, .cells 0 (cI p))]⟩ := by
  refine callC_of_body [.dead, .dead, .dead, .dead, .cells ver (cI p), .dead, .dead, .dead] hG0 Tryd.func36 rfl (by kernel_rfl) (by simp [Tryd.ntmps36]) ?_ ?_ (by simp [inL, inR]) ?_ ?_ ?_ ?_
  · intro r hr
    simp only [List.mem_cons, List.not_mem_nil, or_false] at hr
    rcases hr with rfl | rfl
    · exact h4.symm
    · exact h8.symm
  · intro r hr
    match r, hr with
    | 0, _ => simp
    | 1, _ => simp
    | 2, _ => simp
    | 3, _ => simp
    | 4, hr => exact absurd (by simp) hr
    | 5, _ => simp
    | 6, _ => simp
    | 7, _ => simp
    | 8, hr => exact absurd (by simp) hr
    | r + 9, _ => simp
  · intro r hr
    simp only [List.mem_cons, List.not_mem_nil, or_false] at hr
    rcases hr with rfl | rfl
    · rw [h4]; exact tree_cI _ p
    · rw [h8]; rfl
  · intro r hr h
    simp only [List.mem_cons, List.not_mem_nil, or_false] at hr
    simp only [List.length_cons, List.length_nil] at h
    rcases hr with rfl | rfl
    · omega
    · exact h8
  · simp
  simp only [Tryd.ntmps36, enterF, Nat.reduceAdd, List.length_cons, List.length_nil]
  have hlen := cI_len p
  have hpos : 0 < p.length := List.length_pos_iff.2 hp
  repeat' (first | refine u'1 fun _ _ => ?_ | refine u'2 ?_ | (first | refine u'3 ?_ | refine u'4 ?_ | refine u'5 fun _ _ _ _ => ?_ | (refine u'6 (fun hg => ?_) (fun hg => ?_) <;> try simp only [hg])) <;> simp only [wS, simprocAttr, hlen, Option.isSome_some] | (refine u'7 ?_; try simp only [wE, simprocAttr]) | refine u'8 ?_ | refine u'9 ?_)
  refine eff_new (sz := 1) (by' := 8) (mm := p.length) (new := cI p) (es := []) (by kernel_rfl) ?hrow (by simp) ?_ (by omega) (by simp; omega) ?_
  case hrow => simp only [wS, simprocAttr]
  · simp only [wS, simprocAttr, srcA, hlen, Nat.mul_one, true_and]
    rw [List.take_of_length_le (by omega), if_pos (Nat.le_refl _)]
  simp only [wS, simprocAttr]
  repeat' (first | refine u'1 fun _ _ => ?_ | refine u'2 ?_ | (first | refine u'3 ?_ | refine u'4 ?_ | refine u'5 fun _ _ _ _ => ?_ | (refine u'6 (fun hg => ?_) (fun hg => ?_) <;> try simp only [hg])) <;> simp only [wS, simprocAttr] | (refine u'7 ?_; try simp only [wE, simprocAttr]) | refine u'8 ?_ | refine u'9 ?_)
  refine body_ret1 rfl ?_
  simp only [wS, simprocAttr, inR]
  refine ⟨rfl, ?_⟩
  intro r hr
  simp only [List.mem_cons, List.not_mem_nil, or_false] at hr
  rcases hr with rfl | rfl
  · exact ⟨h4.symm, tree_cI _ p⟩
  · exact ⟨rfl, tree_cI _ p⟩
end Go.Proofs.YtpdibmopbpcfdaaDoor
