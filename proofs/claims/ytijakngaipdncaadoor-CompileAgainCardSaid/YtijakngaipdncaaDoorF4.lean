import Derived.Test.YtijakngaipdncaaDoorF3
set_option linter.unusedVariables false
set_option linter.unusedSimpArgs false
namespace Go.Proofs.YtijakngaipdncaaDoor
open Go.AM
attribute [local irreducible] AWp rgnS callR callV effR valR guardR stepR nextR
set_option maxRecDepth 100000
namespace Mk
mutual
def enc : Mk → List AV | mk k n m i g es => [.int .i64 k, .int .i64 n, .int .i64 m, .int .i64 i, .bool g, .sl false (encs es)]
def encs : List Mk → List (List AV)
  | [] => []
  | e :: es => enc e :: encs es
end
theorem encs_map (es : List Mk) : encs es = es.map enc := by induction es <;> simp_all [encs]
mutual
theorem enc_tree : ∀ t : Mk, inL noRef (enc t) = true
  | mk k n m i g es => by simp only [enc, inL, inR, encs_tree es, Bool.and_self]
theorem encs_tree : ∀ es : List Mk, inE noRef (encs es) = true
  | [] => rfl
  | e :: es => by simp only [encs, inE, enc_tree e, encs_tree es, Bool.and_self]
end
theorem encs_len (es : List Mk) : (encs es).length = es.length := by rw [encs_map, List.length_map]
theorem encs_get {es : List Mk} {i : Nat} {e : Mk} (h : es[i]? = some e) : (encs es)[i]? = some (enc e) := by rw [encs_map, List.getElem?_map, h]; rfl
end Mk
theorem ends_49 (x : Mk) : Pure Tryd.prog G0 49 [.agg (Mk.enc x)] (.bool (Mk.ends x)) := by
  have htr := Mk.enc_tree x
  cases x with
  | mk k n m i g es =>
  refine pure_of_body hG0 Tryd.func49 rfl (by kernel_rfl) (by simp [Tryd.ntmps49]) (by simp only [inL, inR, htr, Bool.and_self]) rfl ?_
  simp only [Tryd.ntmps49, enterF, Nat.reduceAdd, Mk.enc]
  by_cases h1 : k = 19
  · have e1 : (k == 19) = true := by simp [h1]
    repeat' (first | with_reducible (first | refine u'1 fun _ _ => ?_ | refine u'2 ?_ | (first | refine u'3 ?_ | refine u'4 ?_ | refine u'5 fun _ _ _ _ => ?_ | refine u'6 (fun hg => ?_) (fun hg => ?_) <;> try simp only [hg]) <;> simp only [wS, simprocAttr, e1] | (first | refine u's ?_ | refine u'e ?_ | refine u'r ?_) <;> try simp only [wE, simprocAttr] | refine u'8 ?_ | refine u'9 ?_))
    refine body_ret1 rfl ?_
    simp only [wS, simprocAttr, Mk.ends, Mk.kind, h1]
    try rfl
  · have e1 : (k == 19) = false := by simp [h1]
    repeat' (first | with_reducible (first | refine u'1 fun _ _ => ?_ | refine u'2 ?_ | (first | refine u'3 ?_ | refine u'4 ?_ | refine u'5 fun _ _ _ _ => ?_ | refine u'6 (fun hg => ?_) (fun hg => ?_) <;> try simp only [hg]) <;> simp only [wS, simprocAttr, e1] | (first | refine u's ?_ | refine u'e ?_ | refine u'r ?_) <;> try simp only [wE, simprocAttr] | refine u'8 ?_ | refine u'9 ?_))
    refine body_ret1 rfl ?_
    simp only [wS, simprocAttr, Mk.ends, Mk.kind]
    by_cases h2 : k = 20 <;> simp [h1, h2]
theorem const_34 (kd : Int) (x : Mk) : Pure Tryd.prog G0 34 [.agg (Mk.enc x), .int .i64 kd] (.bool (Mk.cst kd x)) := by
  have htr := Mk.enc_tree x
  cases x with
  | mk k n m i g es =>
  refine pure_of_body hG0 Tryd.func34 rfl (by kernel_rfl) (by simp [Tryd.ntmps34]) (by simp only [inL, inR, htr, Bool.and_self]) rfl ?_
  simp only [Tryd.ntmps34, enterF, Nat.reduceAdd, Mk.enc]
  have hln := Mk.encs_len es
  by_cases h1 : k = kd
  · have e1 : (k != kd) = false := by simp [h1]
    by_cases h2 : m = 0
    · have e2 : (m != 0) = false := by simp [h2]
      by_cases h3 : es.length = 0
      · have e3 : decide (((Mk.encs es).length : Int) > 0) = false := by rw [hln, h3]; rfl
        have h3' : es = [] := List.length_eq_zero_iff.1 h3
        by_cases h5 : kd = 5
        · have e5 : (kd == 5) = true := by simp [h5]
          by_cases h6 : n = 0
          · have e6 : (n == 0) = true := by simp [h6]
            repeat' (first | with_reducible (first | refine u'1 fun _ _ => ?_ | refine u'2 ?_ | (first | refine u'3 ?_ | refine u'4 ?_ | refine u'5 fun _ _ _ _ => ?_ | refine u'6 (fun hg => ?_) (fun hg => ?_) <;> try simp only [hg]) <;> simp only [wS, simprocAttr, e1, e2, e3, e5, e6] | (first | refine u's ?_ | refine u'e ?_ | refine u'r ?_) <;> try simp only [wE, simprocAttr] | refine u'8 ?_ | refine u'9 ?_))
            refine body_ret1 rfl ?_
            simp only [wS, simprocAttr, e6]
            simp [Mk.cst, Mk.kind, Mk.low, Mk.kids, Mk.num, h1, h2, h3', h5, h6]
          · have e6 : (n == 0) = false := by simp [h6]
            repeat' (first | with_reducible (first | refine u'1 fun _ _ => ?_ | refine u'2 ?_ | (first | refine u'3 ?_ | refine u'4 ?_ | refine u'5 fun _ _ _ _ => ?_ | refine u'6 (fun hg => ?_) (fun hg => ?_) <;> try simp only [hg]) <;> simp only [wS, simprocAttr, e1, e2, e3, e5, e6] | (first | refine u's ?_ | refine u'e ?_ | refine u'r ?_) <;> try simp only [wE, simprocAttr] | refine u'8 ?_ | refine u'9 ?_))
            refine body_ret1 rfl ?_
            simp only [wS, simprocAttr, e6]
            by_cases h7 : n = 1 <;> simp [Mk.cst, Mk.kind, Mk.low, Mk.kids, Mk.num, h1, h2, h3', h5, h6, h7]
        · have e5 : (kd == 5) = false := by simp [h5]
          by_cases h6 : -8 ≤ n
          · have e6 : decide (n ≥ -8) = true := by simp; omega
            repeat' (first | with_reducible (first | refine u'1 fun _ _ => ?_ | refine u'2 ?_ | (first | refine u'3 ?_ | refine u'4 ?_ | refine u'5 fun _ _ _ _ => ?_ | refine u'6 (fun hg => ?_) (fun hg => ?_) <;> try simp only [hg]) <;> simp only [wS, simprocAttr, e1, e2, e3, e5, e6] | (first | refine u's ?_ | refine u'e ?_ | refine u'r ?_) <;> try simp only [wE, simprocAttr] | refine u'8 ?_ | refine u'9 ?_))
            refine body_ret1 rfl ?_
            simp only [wS, simprocAttr, e6]
            simp [Mk.cst, Mk.kind, Mk.low, Mk.kids, Mk.num, h1, h2, h3', h5, h6]
          · have e6 : decide (n ≥ -8) = false := by simp; omega
            repeat' (first | with_reducible (first | refine u'1 fun _ _ => ?_ | refine u'2 ?_ | (first | refine u'3 ?_ | refine u'4 ?_ | refine u'5 fun _ _ _ _ => ?_ | refine u'6 (fun hg => ?_) (fun hg => ?_) <;> try simp only [hg]) <;> simp only [wS, simprocAttr, e1, e2, e3, e5, e6] | (first | refine u's ?_ | refine u'e ?_ | refine u'r ?_) <;> try simp only [wE, simprocAttr] | refine u'8 ?_ | refine u'9 ?_))
            refine body_ret1 rfl ?_
            simp only [wS, simprocAttr, e6]
            simp [Mk.cst, Mk.kind, Mk.low, Mk.kids, Mk.num, h1, h2, h3', h5, h6]
      · have e3 : decide (((Mk.encs es).length : Int) > 0) = true := by rw [hln]; simp only [decide_eq_true_eq]; omega
        repeat' (first | with_reducible (first | refine u'1 fun _ _ => ?_ | refine u'2 ?_ | (first | refine u'3 ?_ | refine u'4 ?_ | refine u'5 fun _ _ _ _ => ?_ | refine u'6 (fun hg => ?_) (fun hg => ?_) <;> try simp only [hg]) <;> simp only [wS, simprocAttr, e1, e2, e3] | (first | refine u's ?_ | refine u'e ?_ | refine u'r ?_) <;> try simp only [wE, simprocAttr] | refine u'8 ?_ | refine u'9 ?_))
        refine body_ret1 rfl ?_
        simp only [wS, simprocAttr]
        have : es ≠ [] := fun e => h3 (by rw [e]; rfl)
        simp [Mk.cst, Mk.kids, this]
    · have e2 : (m != 0) = true := by simp [h2]
      repeat' (first | with_reducible (first | refine u'1 fun _ _ => ?_ | refine u'2 ?_ | (first | refine u'3 ?_ | refine u'4 ?_ | refine u'5 fun _ _ _ _ => ?_ | refine u'6 (fun hg => ?_) (fun hg => ?_) <;> try simp only [hg]) <;> simp only [wS, simprocAttr, e1, e2] | (first | refine u's ?_ | refine u'e ?_ | refine u'r ?_) <;> try simp only [wE, simprocAttr] | refine u'8 ?_ | refine u'9 ?_))
      refine body_ret1 rfl ?_
      simp only [wS, simprocAttr]
      simp [Mk.cst, Mk.low, h2]
  · have e1 : (k != kd) = true := by simp [h1]
    repeat' (first | with_reducible (first | refine u'1 fun _ _ => ?_ | refine u'2 ?_ | (first | refine u'3 ?_ | refine u'4 ?_ | refine u'5 fun _ _ _ _ => ?_ | refine u'6 (fun hg => ?_) (fun hg => ?_) <;> try simp only [hg]) <;> simp only [wS, simprocAttr, e1] | (first | refine u's ?_ | refine u'e ?_ | refine u'r ?_) <;> try simp only [wE, simprocAttr] | refine u'8 ?_ | refine u'9 ?_))
    refine body_ret1 rfl ?_
    simp only [wS, simprocAttr]
    simp [Mk.cst, Mk.kind, h1]
end Go.Proofs.YtijakngaipdncaaDoor
