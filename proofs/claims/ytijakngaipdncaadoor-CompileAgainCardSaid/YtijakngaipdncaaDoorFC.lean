import Derived.Test.YtijakngaipdncaaDoorF9
import Derived.Test.YtijakngaipdncaaDoorFB
set_option linter.unusedVariables false
set_option linter.unusedSimpArgs false
namespace Go.Proofs.YtijakngaipdncaaDoor
open Go.AM
attribute [local irreducible] AWp rgnS callR callV effR valR guardR stepR nextR
set_option maxRecDepth 100000
theorem not_45 (kd : Int) (x : Mk) : Pure Tryd.prog G0 45 [.agg (Mk.enc x), .imm [.int .i64 kd]] (.bool (!Mk.cst kd x)) := by
  have htr := Mk.enc_tree x
  have hc := const_34 kd x
  obtain ⟨ea, eb, ec, ed, ef, eg, hee⟩ : ∃ a b c d f h, Mk.enc x = [.int .i64 a, .int .i64 b, .int .i64 c, .int .i64 d, .bool f, .sl false h] := by cases x; exact ⟨_, _, _, _, _, _, rfl⟩
  rw [hee] at htr hc ⊢
  refine pure_of_body hG0 Tryd.func45 rfl (by kernel_rfl) (by simp [Tryd.ntmps45]) (by simp only [inL, inR, Bool.true_and, Bool.and_true] at htr ⊢; exact htr) rfl ?_
  simp only [Tryd.ntmps45, enterF, Nat.reduceAdd]
  repeat' (first | with_reducible (first | refine u'1 fun _ _ => ?_ | refine u'2 ?_ | (first | refine u'3 ?_ | refine u'4 ?_ | refine u'5 fun _ _ _ _ => ?_ | refine u'6 (fun hg => ?_) (fun hg => ?_) <;> try simp only [hg]) <;> simp only [wS, simprocAttr] | (first | refine u's ?_ | refine u'e ?_ | refine u'r ?_) <;> try simp only [wE, simprocAttr] | refine u'8 ?_ | refine u'9 ?_) | (refine callR_tree hG0 (hc) ?_; simp only [wS, simprocAttr]) | with_reducible refine And.intro (fun _ => ?_) (fun _ => ?_) | with_reducible refine And.intro (by kernel_rfl) ?_)
  exact body_ret1 rfl (by simp only [wS, simprocAttr])
theorem contains_44 (kd : Int) (es : List Mk) (hl : es.length ≤ 1000000000000) : Pure Tryd.prog G0 44 [.sl false (Mk.encs es), .fn (.func 45) [] [.imm [.int .i64 kd]]] (.bool (decide (idxF (fun e => !Mk.cst kd e) es 0 ≥ 0))) := by
  have hte := Mk.encs_tree es
  have hi := index_48 45 [.imm [.int .i64 kd]] (fun e => !Mk.cst kd e) rfl (not_45 kd) false es hl
  generalize Mk.encs es = EE at hte hi
  refine pure_of_body hG0 Tryd.func44 rfl (by kernel_rfl) (by simp [Tryd.ntmps44]) (by simp only [inL, inR, hte, Bool.and_self]) rfl ?_
  simp only [Tryd.ntmps44, enterF, Nat.reduceAdd]
  repeat' (first | with_reducible (first | refine u'1 fun _ _ => ?_ | refine u'2 ?_ | (first | refine u'3 ?_ | refine u'4 ?_ | refine u'5 fun _ _ _ _ => ?_ | refine u'6 (fun hg => ?_) (fun hg => ?_) <;> try simp only [hg]) <;> simp only [wS, simprocAttr] | (first | refine u's ?_ | refine u'e ?_ | refine u'r ?_) <;> try simp only [wE, simprocAttr] | refine u'8 ?_ | refine u'9 ?_) | (refine callR_tree hG0 (hi) ?_; simp only [wS, simprocAttr]) | with_reducible refine And.intro (fun _ => ?_) (fun _ => ?_) | with_reducible refine And.intro (by kernel_rfl) ?_)
  exact body_ret1 rfl (by simp only [wS, simprocAttr])
theorem idx_two (P : Mk → Bool) (x y : Mk) : decide (idxF P [x, y] 0 ≥ 0) = (P x || P y) := by
  simp only [idxF]
  by_cases hx : P x = true <;> by_cases hy : P y = true <;> simp [hx, hy]
set_option maxHeartbeats 4000000 in
theorem op_early (n m i : Int) (es : List Mk) (hb : n < 0 ∨ n ≥ 14 ∨ m ≠ 0 ∨ es.length ≠ 2) : Pure Tryd.prog G0 35 [.agg (Mk.enc (.mk 9 n m i false es))] (.agg (Mk.enc (.mk 9 n m i false es))) := by
  have htr := Mk.enc_tree (.mk 9 n m i false es)
  have hln := Mk.encs_len es
  refine pure_of_body hG0 Tryd.func35 rfl (by kernel_rfl) (by simp [Tryd.ntmps35]) (by simp only [inL, inR, htr, Bool.and_self]) (by simpa only [inR] using htr) ?_
  simp only [Tryd.ntmps35, enterF, Nat.reduceAdd, Mk.enc]
  generalize Mk.encs es = EE at hln
  repeat' (first | with_reducible (first | refine u'1 fun _ _ => ?_ | refine u'2 ?_ | (first | refine u'3 ?_ | refine u'4 ?_ | refine u'5 fun _ _ _ _ => ?_ | refine u'6 (fun hg => ?_) (fun hg => ?_) <;> try simp only [hg]) <;> simp only [wS, simprocAttr] | (first | refine u's ?_ | refine u'e ?_ | refine u'r ?_) <;> try simp only [wE, simprocAttr] | refine u'8 ?_ | refine u'9 ?_) | with_reducible refine And.intro (fun _ => ?_) (fun _ => ?_) | with_reducible refine And.intro (by kernel_rfl) ?_)
  all_goals first | exact body_retC (v := .agg [.int .i64 9, .int .i64 n, .int .i64 m, .int .i64 i, .bool false, .sl false EE]) rfl (by simp only [wS, simprocAttr]; try exact rfl) rfl | (exfalso; simp_all <;> omega)
set_option maxHeartbeats 8000000 in
theorem op_main (n i : Int) (x y : Mk) (h0 : 0 ≤ n) (h1 : n < 14) : Pure Tryd.prog G0 35 [.agg (Mk.enc (.mk 9 n 0 i false [x, y]))] (.agg (Mk.enc (Mk.op oC oV n 0 i [x, y]))) := by
  have htr := Mk.enc_tree (.mk 9 n 0 i false [x, y])
  have hto := Mk.enc_tree (Mk.op oC oV n 0 i [x, y])
  have hte := Mk.encs_tree [x, y]
  have hcf := contains_44 (T.opK n) [x, y] (by simp)
  have hop := op_46 n x.num y.num h0 h1
  have htt := truth_47 n h0 h1
  have hT : Mk.cst (T.opK n) x = true → Mk.cst (T.opK n) y = true → oC n x.num y.num = 0 → Mk.op oC oV n 0 i [x, y] = .mk (if 10 ≤ n then 5 else 4) (oV n x.num y.num) 0 i false [] := fun a b c => by
    simp only [Mk.op]; rw [if_pos ⟨h0, h1, trivial, a, b, c⟩]
  have hF : (Mk.cst (T.opK n) x = true → Mk.cst (T.opK n) y = true → oC n x.num y.num ≠ 0) → Mk.op oC oV n 0 i [x, y] = .mk 9 n 0 i false [x, y] := fun a => by
    simp only [Mk.op]; rw [if_neg fun h => a h.2.2.2.1 h.2.2.2.2.1 h.2.2.2.2.2]
  generalize Mk.op oC oV n 0 i [x, y] = R at hT hF hto ⊢
  rw [idx_two] at hcf
  have hk : T.opK n = if n = 12 ∨ n = 13 then 5 else 4 := rfl
  refine pure_of_bodyW hG0 Tryd.func35 rfl (by kernel_rfl) (by simp [Tryd.ntmps35]) (by simp only [inL, inR, htr, Bool.and_self]) (by simpa only [inR] using hto) ?_
  obtain ⟨xk, xn, xm, xi, xg, xs⟩ := x
  obtain ⟨yk, yn, ym, yi, yg, ys⟩ := y
  simp only [Tryd.ntmps35, enterF, Nat.reduceAdd, Mk.enc, Mk.encs, Mk.num] at hcf hop hte hT hF ⊢
  have e1 : decide (n < 0) = false := by simp; omega
  have e2 : decide (n ≥ 14) = false := by simp; omega
  have d12 : True := trivial
  have d13 : True := trivial
  have key : ∀ kd : Int, T.opK n = kd → True := fun _ _ => trivial
  have hn : n = 12 ∨ n = 13 ∨ (n ≠ 12 ∧ n ≠ 13) := by omega
  rcases hn with rfl | rfl | ⟨q1, q2⟩
  · simp only [true_or, if_true] at hk
    rw [hk] at hcf hT hF
    repeat' (first | with_reducible (first | refine u'1 fun _ _ => ?_ | refine u'2 ?_ | (first | refine u'3 ?_ | refine u'4 ?_ | refine u'5 fun _ _ _ _ => ?_ | refine u'6 (fun hg => ?_) (fun hg => ?_) <;> try simp only [hg]) <;> simp only [wS, simprocAttr, e1, e2, d12, d13] | (first | refine u's ?_ | refine u'e ?_ | refine u'r ?_) <;> try simp only [wE, simprocAttr] | refine u'8 ?_ | refine u'9 ?_) | (refine callR_pure (fp := [2]) hG0 hcf (.cons (.same (by simpa only [inR] using hte)) (.cons (.fn .nil (.cons (.ptr (cs := [.int .i64 5]) (by simp) (by simp only [wS, simprocAttr]) (.cons (.same rfl) .nil)) .nil)) .nil)) (.inr rfl) ?_; simp only [wS, simprocAttr, e1, e2, d12, d13]) | (refine callR_tree hG0 (hop) ?_; simp only [wS, simprocAttr, e1, e2, d12, d13]) | (refine callR_tree hG0 (htt) ?_; simp only [wS, simprocAttr, e1, e2, d12, d13]) | with_reducible refine And.intro (fun _ => ?_) (fun _ => ?_) | with_reducible refine And.intro (by kernel_rfl) ?_)
    all_goals (refine body_retC rfl (by simp only [wS, simprocAttr]; exact rfl) ?_; first | (rw [hT (by simp_all) (by simp_all) (by simp_all)]; simp_all [Mk.enc, Mk.encs, wkL, AM.wk, wkE, wkE_eq, Mk.wk_encs]; done) | (rw [hF (by intro a b c; simp_all)]; simp [Mk.enc, Mk.encs, wkL, AM.wk, wkE, wkE_eq, Mk.wk_encs]))
  · simp only [or_true, if_true] at hk
    rw [hk] at hcf hT hF
    repeat' (first | with_reducible (first | refine u'1 fun _ _ => ?_ | refine u'2 ?_ | (first | refine u'3 ?_ | refine u'4 ?_ | refine u'5 fun _ _ _ _ => ?_ | refine u'6 (fun hg => ?_) (fun hg => ?_) <;> try simp only [hg]) <;> simp only [wS, simprocAttr, e1, e2, d12, d13] | (first | refine u's ?_ | refine u'e ?_ | refine u'r ?_) <;> try simp only [wE, simprocAttr] | refine u'8 ?_ | refine u'9 ?_) | (refine callR_pure (fp := [2]) hG0 hcf (.cons (.same (by simpa only [inR] using hte)) (.cons (.fn .nil (.cons (.ptr (cs := [.int .i64 5]) (by simp) (by simp only [wS, simprocAttr]) (.cons (.same rfl) .nil)) .nil)) .nil)) (.inr rfl) ?_; simp only [wS, simprocAttr, e1, e2, d12, d13]) | (refine callR_tree hG0 (hop) ?_; simp only [wS, simprocAttr, e1, e2, d12, d13]) | (refine callR_tree hG0 (htt) ?_; simp only [wS, simprocAttr, e1, e2, d12, d13]) | with_reducible refine And.intro (fun _ => ?_) (fun _ => ?_) | with_reducible refine And.intro (by kernel_rfl) ?_)
    all_goals (refine body_retC rfl (by simp only [wS, simprocAttr]; exact rfl) ?_; first | (rw [hT (by simp_all) (by simp_all) (by simp_all)]; simp_all [Mk.enc, Mk.encs, wkL, AM.wk, wkE, wkE_eq, Mk.wk_encs]; done) | (rw [hF (by intro a b c; simp_all)]; simp [Mk.enc, Mk.encs, wkL, AM.wk, wkE, wkE_eq, Mk.wk_encs]))
  · simp only [q1, q2, or_self, if_false] at hk
    rw [hk] at hcf hT hF
    have d12 : (n == 12) = false := by simp [q1]
    have d13 : (n == 13) = false := by simp [q2]
    repeat' (first | with_reducible (first | refine u'1 fun _ _ => ?_ | refine u'2 ?_ | (first | refine u'3 ?_ | refine u'4 ?_ | refine u'5 fun _ _ _ _ => ?_ | refine u'6 (fun hg => ?_) (fun hg => ?_) <;> try simp only [hg]) <;> simp only [wS, simprocAttr, e1, e2, d12, d13] | (first | refine u's ?_ | refine u'e ?_ | refine u'r ?_) <;> try simp only [wE, simprocAttr] | refine u'8 ?_ | refine u'9 ?_) | (refine callR_pure (fp := [2]) hG0 hcf (.cons (.same (by simpa only [inR] using hte)) (.cons (.fn .nil (.cons (.ptr (cs := [.int .i64 4]) (by simp) (by simp only [wS, simprocAttr]) (.cons (.same rfl) .nil)) .nil)) .nil)) (.inr rfl) ?_; simp only [wS, simprocAttr, e1, e2, d12, d13]) | (refine callR_tree hG0 (hop) ?_; simp only [wS, simprocAttr, e1, e2, d12, d13]) | (refine callR_tree hG0 (htt) ?_; simp only [wS, simprocAttr, e1, e2, d12, d13]) | with_reducible refine And.intro (fun _ => ?_) (fun _ => ?_) | with_reducible refine And.intro (by kernel_rfl) ?_)
    all_goals (refine body_retC rfl (by simp only [wS, simprocAttr]; exact rfl) ?_; first | (rw [hT (by simp_all) (by simp_all) (by simp_all)]; simp_all [Mk.enc, Mk.encs, wkL, AM.wk, wkE, wkE_eq, Mk.wk_encs]; done) | (rw [hF (by intro a b c; simp_all)]; simp [Mk.enc, Mk.encs, wkL, AM.wk, wkE, wkE_eq, Mk.wk_encs]))
theorem operation_35 (n m i : Int) (es : List Mk) : Pure Tryd.prog G0 35 [.agg (Mk.enc (.mk 9 n m i false es))] (.agg (Mk.enc (Mk.op oC oV n m i es))) := by
  have early : (n < 0 ∨ n ≥ 14 ∨ m ≠ 0 ∨ es.length ≠ 2) → Mk.op oC oV n m i es = .mk 9 n m i false es := fun h => by
    unfold Mk.op
    split
    · rename_i x y
      rw [if_neg]
      rintro ⟨a, b, c, _⟩
      simp only [List.length_cons, List.length_nil] at h
      omega
    · rfl
  by_cases hb : n < 0 ∨ n ≥ 14 ∨ m ≠ 0 ∨ es.length ≠ 2
  · rw [early hb]; exact op_early n m i es hb
  · obtain rfl : m = 0 := by omega
    match es, hb with
    | [x, y], hb => exact op_main n i x y (by omega) (by omega)
    | [], hb => simp at hb
    | [x], hb => simp at hb
    | x :: y :: z :: r, hb => simp at hb
end Go.Proofs.YtijakngaipdncaaDoor
