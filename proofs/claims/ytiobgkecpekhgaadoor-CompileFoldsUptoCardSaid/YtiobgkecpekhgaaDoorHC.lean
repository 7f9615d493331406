import Derived.Test.YtiobgkecpekhgaaDoorF3
import Derived.Test.YtiobgkecpekhgaaDoorFB
set_option linter.unusedVariables false
set_option linter.unusedSimpArgs false
namespace Go.Proofs.YtiobgkecpekhgaaDoor
open Go.AM
attribute [local irreducible] AWp rgnS callR callV effR valR guardR stepR nextR
theorem ref_const (kd : Int) (hk : kd = 4 ∨ kd = 5) (x : Mk) : Pure Tryd.prog G0 45 [.agg (Mk.enc x), .int .i64 kd] (.bool (Mk.cst kd x)) := by
  have htr := Mk.enc_tree x
  cases x with
  | mk k n m i g es =>
  refine pure_of_body hG0 Tryd.func45 rfl (by kernel_rfl) (by simp [Tryd.ntmps45]) (by simp only [inL, inR, htr, Bool.and_self]) rfl ?_
  simp only [Tryd.ntmps45, enterF, Nat.reduceAdd, Mk.enc]
  have hln := Mk.encs_len es
  have hkd : kd = 4 ∨ kd = 5 := hk
  generalize Mk.encs es = EE at hln
  rcases hk with rfl | rfl
  all_goals
    repeat' (first | with_reducible (first | refine u'1 fun _ _ => ?_ | refine u'2 ?_ | (first | refine u'3 ?_ | refine u'4 ?_ | refine u'5 fun _ _ _ _ => ?_ | refine u'6 (fun hg => ?_) (fun hg => ?_) <;> try simp only [hg]) <;> simp only [wS, simprocAttr] | (first | refine u's ?_ | refine u'e ?_ | refine u'r ?_) <;> try simp only [wE, simprocAttr] | refine u'8 ?_ | refine u'9 ?_) | with_reducible refine And.intro (fun _ => ?_) (fun _ => ?_) | with_reducible refine And.intro (by kernel_rfl) ?_)
  all_goals (refine body_ret1 rfl ?_; simp only [wS, simprocAttr]; rcases es with _ | ⟨e, es⟩ <;> simp_all [Mk.cst, Mk.kind, Mk.low, Mk.kids, Mk.num] <;> first | exact decide_eq_false (by omega) | rfl)
end Go.Proofs.YtiobgkecpekhgaaDoor
set_option linter.unusedVariables false
set_option linter.unusedSimpArgs false
namespace Go.Proofs.YtiobgkecpekhgaaDoor
open Go.AM
attribute [local irreducible] AWp rgnS callR callV effR valR guardR stepR nextR
set_option maxRecDepth 100000
set_option maxHeartbeats 4000000 in
theorem ref_op_early (n m i : Int) (es : List Mk) (hb : n < 0 ∨ n ≥ 14 ∨ m ≠ 0 ∨ es.length ≠ 2) : Pure Tryd.prog G0 46 [.agg (Mk.enc (.mk 9 n m i false es))] (.tup [.agg (Mk.enc (.mk 9 n m i false es)), .bool false]) := by
  have htr := Mk.enc_tree (.mk 9 n m i false es)
  have hln := Mk.encs_len es
  refine pure_of_body hG0 Tryd.func46 rfl (by kernel_rfl) (by simp [Tryd.ntmps46]) (by simp only [inL, inR, htr, Bool.and_self]) (by simp only [inR, inL, htr, Bool.and_self]) ?_
  simp only [Tryd.ntmps46, enterF, Nat.reduceAdd, Mk.enc]
  generalize Mk.encs es = EE at hln
  repeat' (first | with_reducible (first | refine u'1 fun _ _ => ?_ | refine u'2 ?_ | (first | refine u'3 ?_ | refine u'4 ?_ | refine u'5 fun _ _ _ _ => ?_ | refine u'6 (fun hg => ?_) (fun hg => ?_) <;> try simp only [hg]) <;> simp only [wS, simprocAttr] | (first | refine u's ?_ | refine u'e ?_ | refine u'r ?_) <;> try simp only [wE, simprocAttr] | refine u'8 ?_ | refine u'9 ?_) | with_reducible refine And.intro (fun _ => ?_) (fun _ => ?_) | with_reducible refine And.intro (by kernel_rfl) ?_)
  all_goals first | exact body_retCT (v := .agg [.int .i64 9, .int .i64 n, .int .i64 m, .int .i64 i, .bool false, .sl false EE]) rfl (by simp only [wS, simprocAttr]; try exact rfl) (by simp only [wS, simprocAttr]; try exact rfl) | (exfalso; simp_all <;> omega)
set_option maxHeartbeats 8000000 in
theorem ref_op_main (n i : Int) (x y : Mk) (h0 : 0 ≤ n) (h1 : n < 14) : ∃ b : Bool, Pure Tryd.prog G0 46 [.agg (Mk.enc (.mk 9 n 0 i false [x, y]))] (.tup [.agg (Mk.enc (Mk.op oC oV n 0 i [x, y])), .bool b]) ∧ (b = false → Mk.op oC oV n 0 i [x, y] = .mk 9 n 0 i false [x, y]) := by
  have htr := Mk.enc_tree (.mk 9 n 0 i false [x, y])
  have hto := Mk.enc_tree (Mk.op oC oV n 0 i [x, y])
  have hkd : T.opK n = 4 ∨ T.opK n = 5 := by unfold T.opK; split <;> simp
  have hcx := ref_const (T.opK n) hkd x
  have hcy := ref_const (T.opK n) hkd y
  have hop := fun a b => opR_46 (cst_tbl (x := x) (y := y) h0 h1 a b)
  have htt := truth_ref n h0 h1
  have hT : Mk.cst (T.opK n) x = true → Mk.cst (T.opK n) y = true → oC n x.num y.num = 0 → Mk.op oC oV n 0 i [x, y] = .mk (if 10 ≤ n then 5 else 4) (oV n x.num y.num) 0 i false [] := fun a b c => by
    simp only [Mk.op]; rw [if_pos ⟨h0, h1, trivial, a, b, c⟩]
  have hF : (Mk.cst (T.opK n) x = true → Mk.cst (T.opK n) y = true → oC n x.num y.num ≠ 0) → Mk.op oC oV n 0 i [x, y] = .mk 9 n 0 i false [x, y] := fun a => by
    simp only [Mk.op]; rw [if_neg fun h => a h.2.2.2.1 h.2.2.2.2.1 h.2.2.2.2.2]
  refine ⟨Mk.cst (T.opK n) x && Mk.cst (T.opK n) y && decide (oC n x.num y.num = 0), ?_, fun h => hF fun a b c => by rw [a, b] at h; simp [c] at h⟩
  generalize Mk.op oC oV n 0 i [x, y] = R at hT hF hto ⊢
  generalize oC n x.num y.num = zc at hop hT hF ⊢
  have hk : T.opK n = if n = 12 ∨ n = 13 then 5 else 4 := rfl
  obtain ⟨xk, xn, xm, xi, xg, xs⟩ := x
  obtain ⟨yk, yn, ym, yi, yg, ys⟩ := y
  obtain ⟨cx, ecx⟩ : ∃ b, b = Mk.cst (T.opK n) (.mk xk xn xm xi xg xs) := ⟨_, rfl⟩
  obtain ⟨cy, ecy⟩ : ∃ b, b = Mk.cst (T.opK n) (.mk yk yn ym yi yg ys) := ⟨_, rfl⟩
  rw [← ecx] at hcx hop hT hF ⊢
  rw [← ecy] at hcy hop hT hF ⊢
  refine pure_of_bodyW hG0 Tryd.func46 rfl (by kernel_rfl) (by simp [Tryd.ntmps46]) (by simp only [inL, inR, htr, Bool.and_self]) (by simp only [inR, inL, hto, Bool.and_self]) ?_
  simp only [Mk.num] at hop hT hF ⊢
  simp only [Tryd.ntmps46, enterF, Nat.reduceAdd, Mk.enc, Mk.encs] at hcx hcy hT hF ⊢
  have e1 : decide (n < 0) = false := by simp; omega
  have e2 : decide (n ≥ 14) = false := by simp; omega
  have d12 : True := trivial
  have d13 : True := trivial
  have hn : n = 12 ∨ n = 13 ∨ (n ≠ 12 ∧ n ≠ 13) := by omega
  rcases hn with rfl | rfl | ⟨q1, q2⟩
  · simp only [true_or, if_true] at hk
    rw [hk] at hcx hcy
    cases cx
    · rw [hF (by simp)]
      clear hop hT
      repeat' (first | with_reducible (first | refine u'1 fun _ _ => ?_ | refine u'2 ?_ | (first | refine u'3 ?_ | refine u'4 ?_ | refine u'5 fun _ _ _ _ => ?_ | refine u'6 (fun hg => ?_) (fun hg => ?_) <;> try simp only [hg]) <;> simp only [wS, simprocAttr, e1, e2, d12, d13, Bool.not_false, Bool.not_true] | (first | refine u's ?_ | refine u'e ?_ | refine u'r ?_) <;> try simp only [wE, simprocAttr] | refine u'8 ?_ | refine u'9 ?_) | (refine callR_tree hG0 (hcx) ?_; simp only [wS, simprocAttr, e1, e2, d12, d13, Bool.not_false, Bool.not_true]) | (refine callR_tree hG0 (hcy) ?_; simp only [wS, simprocAttr, e1, e2, d12, d13, Bool.not_false, Bool.not_true]) | (refine callR_tree hG0 (hop) ?_; simp only [wS, simprocAttr, e1, e2, d12, d13, Bool.not_false, Bool.not_true]) | (refine callR_tree hG0 (htt) ?_; simp only [wS, simprocAttr, e1, e2, d12, d13, Bool.not_false, Bool.not_true]) | with_reducible refine And.intro (fun _ => ?_) (fun _ => ?_) | with_reducible refine And.intro (by kernel_rfl) ?_)
      all_goals (refine body_retCT rfl (by simp only [wS, simprocAttr]; exact rfl) ?_; simp only [wS, simprocAttr]; simp_all [Mk.enc, Mk.encs, wkL, AM.wk, wkE, wkE_eq, Mk.wk_encs]; done)
    · cases cy
      · rw [hF (by simp)]
        clear hop hT
        repeat' (first | with_reducible (first | refine u'1 fun _ _ => ?_ | refine u'2 ?_ | (first | refine u'3 ?_ | refine u'4 ?_ | refine u'5 fun _ _ _ _ => ?_ | refine u'6 (fun hg => ?_) (fun hg => ?_) <;> try simp only [hg]) <;> simp only [wS, simprocAttr, e1, e2, d12, d13, Bool.not_false, Bool.not_true] | (first | refine u's ?_ | refine u'e ?_ | refine u'r ?_) <;> try simp only [wE, simprocAttr] | refine u'8 ?_ | refine u'9 ?_) | (refine callR_tree hG0 (hcx) ?_; simp only [wS, simprocAttr, e1, e2, d12, d13, Bool.not_false, Bool.not_true]) | (refine callR_tree hG0 (hcy) ?_; simp only [wS, simprocAttr, e1, e2, d12, d13, Bool.not_false, Bool.not_true]) | (refine callR_tree hG0 (hop) ?_; simp only [wS, simprocAttr, e1, e2, d12, d13, Bool.not_false, Bool.not_true]) | (refine callR_tree hG0 (htt) ?_; simp only [wS, simprocAttr, e1, e2, d12, d13, Bool.not_false, Bool.not_true]) | with_reducible refine And.intro (fun _ => ?_) (fun _ => ?_) | with_reducible refine And.intro (by kernel_rfl) ?_)
        all_goals (refine body_retCT rfl (by simp only [wS, simprocAttr]; exact rfl) ?_; simp only [wS, simprocAttr]; simp_all [Mk.enc, Mk.encs, wkL, AM.wk, wkE, wkE_eq, Mk.wk_encs]; done)
      · replace hop := hop rfl rfl
        repeat' (first | with_reducible (first | refine u'1 fun _ _ => ?_ | refine u'2 ?_ | (first | refine u'3 ?_ | refine u'4 ?_ | refine u'5 fun _ _ _ _ => ?_ | refine u'6 (fun hg => ?_) (fun hg => ?_) <;> try simp only [hg]) <;> simp only [wS, simprocAttr, e1, e2, d12, d13, Bool.not_false, Bool.not_true] | (first | refine u's ?_ | refine u'e ?_ | refine u'r ?_) <;> try simp only [wE, simprocAttr] | refine u'8 ?_ | refine u'9 ?_) | (refine callR_tree hG0 (hcx) ?_; simp only [wS, simprocAttr, e1, e2, d12, d13, Bool.not_false, Bool.not_true]) | (refine callR_tree hG0 (hcy) ?_; simp only [wS, simprocAttr, e1, e2, d12, d13, Bool.not_false, Bool.not_true]) | (refine callR_tree hG0 (hop) ?_; simp only [wS, simprocAttr, e1, e2, d12, d13, Bool.not_false, Bool.not_true]) | (refine callR_tree hG0 (htt) ?_; simp only [wS, simprocAttr, e1, e2, d12, d13, Bool.not_false, Bool.not_true]) | with_reducible refine And.intro (fun _ => ?_) (fun _ => ?_) | with_reducible refine And.intro (by kernel_rfl) ?_)
        all_goals first | (rw [hT (by simp_all) (by simp_all) (by simp_all)]; refine body_retCT rfl (by simp only [wS, simprocAttr]; exact rfl) ?_; simp only [wS, simprocAttr]; simp_all [Mk.enc, Mk.encs, wkL, AM.wk, wkE, wkE_eq, Mk.wk_encs]; done) | (rw [hF (by intro a b c; simp_all)]; refine body_retCT rfl (by simp only [wS, simprocAttr]; exact rfl) ?_; simp only [wS, simprocAttr]; simp_all [Mk.enc, Mk.encs, wkL, AM.wk, wkE, wkE_eq, Mk.wk_encs]; done)
  · simp only [or_true, if_true] at hk
    rw [hk] at hcx hcy
    cases cx
    · rw [hF (by simp)]
      clear hop hT
      repeat' (first | with_reducible (first | refine u'1 fun _ _ => ?_ | refine u'2 ?_ | (first | refine u'3 ?_ | refine u'4 ?_ | refine u'5 fun _ _ _ _ => ?_ | refine u'6 (fun hg => ?_) (fun hg => ?_) <;> try simp only [hg]) <;> simp only [wS, simprocAttr, e1, e2, d12, d13, Bool.not_false, Bool.not_true] | (first | refine u's ?_ | refine u'e ?_ | refine u'r ?_) <;> try simp only [wE, simprocAttr] | refine u'8 ?_ | refine u'9 ?_) | (refine callR_tree hG0 (hcx) ?_; simp only [wS, simprocAttr, e1, e2, d12, d13, Bool.not_false, Bool.not_true]) | (refine callR_tree hG0 (hcy) ?_; simp only [wS, simprocAttr, e1, e2, d12, d13, Bool.not_false, Bool.not_true]) | (refine callR_tree hG0 (hop) ?_; simp only [wS, simprocAttr, e1, e2, d12, d13, Bool.not_false, Bool.not_true]) | (refine callR_tree hG0 (htt) ?_; simp only [wS, simprocAttr, e1, e2, d12, d13, Bool.not_false, Bool.not_true]) | with_reducible refine And.intro (fun _ => ?_) (fun _ => ?_) | with_reducible refine And.intro (by kernel_rfl) ?_)
      all_goals (refine body_retCT rfl (by simp only [wS, simprocAttr]; exact rfl) ?_; simp only [wS, simprocAttr]; simp_all [Mk.enc, Mk.encs, wkL, AM.wk, wkE, wkE_eq, Mk.wk_encs]; done)
    · cases cy
      · rw [hF (by simp)]
        clear hop hT
        repeat' (first | with_reducible (first | refine u'1 fun _ _ => ?_ | refine u'2 ?_ | (first | refine u'3 ?_ | refine u'4 ?_ | refine u'5 fun _ _ _ _ => ?_ | refine u'6 (fun hg => ?_) (fun hg => ?_) <;> try simp only [hg]) <;> simp only [wS, simprocAttr, e1, e2, d12, d13, Bool.not_false, Bool.not_true] | (first | refine u's ?_ | refine u'e ?_ | refine u'r ?_) <;> try simp only [wE, simprocAttr] | refine u'8 ?_ | refine u'9 ?_) | (refine callR_tree hG0 (hcx) ?_; simp only [wS, simprocAttr, e1, e2, d12, d13, Bool.not_false, Bool.not_true]) | (refine callR_tree hG0 (hcy) ?_; simp only [wS, simprocAttr, e1, e2, d12, d13, Bool.not_false, Bool.not_true]) | (refine callR_tree hG0 (hop) ?_; simp only [wS, simprocAttr, e1, e2, d12, d13, Bool.not_false, Bool.not_true]) | (refine callR_tree hG0 (htt) ?_; simp only [wS, simprocAttr, e1, e2, d12, d13, Bool.not_false, Bool.not_true]) | with_reducible refine And.intro (fun _ => ?_) (fun _ => ?_) | with_reducible refine And.intro (by kernel_rfl) ?_)
        all_goals (refine body_retCT rfl (by simp only [wS, simprocAttr]; exact rfl) ?_; simp only [wS, simprocAttr]; simp_all [Mk.enc, Mk.encs, wkL, AM.wk, wkE, wkE_eq, Mk.wk_encs]; done)
      · replace hop := hop rfl rfl
        repeat' (first | with_reducible (first | refine u'1 fun _ _ => ?_ | refine u'2 ?_ | (first | refine u'3 ?_ | refine u'4 ?_ | refine u'5 fun _ _ _ _ => ?_ | refine u'6 (fun hg => ?_) (fun hg => ?_) <;> try simp only [hg]) <;> simp only [wS, simprocAttr, e1, e2, d12, d13, Bool.not_false, Bool.not_true] | (first | refine u's ?_ | refine u'e ?_ | refine u'r ?_) <;> try simp only [wE, simprocAttr] | refine u'8 ?_ | refine u'9 ?_) | (refine callR_tree hG0 (hcx) ?_; simp only [wS, simprocAttr, e1, e2, d12, d13, Bool.not_false, Bool.not_true]) | (refine callR_tree hG0 (hcy) ?_; simp only [wS, simprocAttr, e1, e2, d12, d13, Bool.not_false, Bool.not_true]) | (refine callR_tree hG0 (hop) ?_; simp only [wS, simprocAttr, e1, e2, d12, d13, Bool.not_false, Bool.not_true]) | (refine callR_tree hG0 (htt) ?_; simp only [wS, simprocAttr, e1, e2, d12, d13, Bool.not_false, Bool.not_true]) | with_reducible refine And.intro (fun _ => ?_) (fun _ => ?_) | with_reducible refine And.intro (by kernel_rfl) ?_)
        all_goals first | (rw [hT (by simp_all) (by simp_all) (by simp_all)]; refine body_retCT rfl (by simp only [wS, simprocAttr]; exact rfl) ?_; simp only [wS, simprocAttr]; simp_all [Mk.enc, Mk.encs, wkL, AM.wk, wkE, wkE_eq, Mk.wk_encs]; done) | (rw [hF (by intro a b c; simp_all)]; refine body_retCT rfl (by simp only [wS, simprocAttr]; exact rfl) ?_; simp only [wS, simprocAttr]; simp_all [Mk.enc, Mk.encs, wkL, AM.wk, wkE, wkE_eq, Mk.wk_encs]; done)
  · simp only [q1, q2, or_self, if_false] at hk
    rw [hk] at hcx hcy
    have d12 : (n == 12) = false := by simp [q1]
    have d13 : (n == 13) = false := by simp [q2]
    cases cx
    · rw [hF (by simp)]
      clear hop hT
      repeat' (first | with_reducible (first | refine u'1 fun _ _ => ?_ | refine u'2 ?_ | (first | refine u'3 ?_ | refine u'4 ?_ | refine u'5 fun _ _ _ _ => ?_ | refine u'6 (fun hg => ?_) (fun hg => ?_) <;> try simp only [hg]) <;> simp only [wS, simprocAttr, e1, e2, d12, d13, Bool.not_false, Bool.not_true] | (first | refine u's ?_ | refine u'e ?_ | refine u'r ?_) <;> try simp only [wE, simprocAttr] | refine u'8 ?_ | refine u'9 ?_) | (refine callR_tree hG0 (hcx) ?_; simp only [wS, simprocAttr, e1, e2, d12, d13, Bool.not_false, Bool.not_true]) | (refine callR_tree hG0 (hcy) ?_; simp only [wS, simprocAttr, e1, e2, d12, d13, Bool.not_false, Bool.not_true]) | (refine callR_tree hG0 (hop) ?_; simp only [wS, simprocAttr, e1, e2, d12, d13, Bool.not_false, Bool.not_true]) | (refine callR_tree hG0 (htt) ?_; simp only [wS, simprocAttr, e1, e2, d12, d13, Bool.not_false, Bool.not_true]) | with_reducible refine And.intro (fun _ => ?_) (fun _ => ?_) | with_reducible refine And.intro (by kernel_rfl) ?_)
      all_goals (refine body_retCT rfl (by simp only [wS, simprocAttr]; exact rfl) ?_; simp only [wS, simprocAttr]; simp_all [Mk.enc, Mk.encs, wkL, AM.wk, wkE, wkE_eq, Mk.wk_encs]; done)
    · cases cy
      · rw [hF (by simp)]
        clear hop hT
        repeat' (first | with_reducible (first | refine u'1 fun _ _ => ?_ | refine u'2 ?_ | (first | refine u'3 ?_ | refine u'4 ?_ | refine u'5 fun _ _ _ _ => ?_ | refine u'6 (fun hg => ?_) (fun hg => ?_) <;> try simp only [hg]) <;> simp only [wS, simprocAttr, e1, e2, d12, d13, Bool.not_false, Bool.not_true] | (first | refine u's ?_ | refine u'e ?_ | refine u'r ?_) <;> try simp only [wE, simprocAttr] | refine u'8 ?_ | refine u'9 ?_) | (refine callR_tree hG0 (hcx) ?_; simp only [wS, simprocAttr, e1, e2, d12, d13, Bool.not_false, Bool.not_true]) | (refine callR_tree hG0 (hcy) ?_; simp only [wS, simprocAttr, e1, e2, d12, d13, Bool.not_false, Bool.not_true]) | (refine callR_tree hG0 (hop) ?_; simp only [wS, simprocAttr, e1, e2, d12, d13, Bool.not_false, Bool.not_true]) | (refine callR_tree hG0 (htt) ?_; simp only [wS, simprocAttr, e1, e2, d12, d13, Bool.not_false, Bool.not_true]) | with_reducible refine And.intro (fun _ => ?_) (fun _ => ?_) | with_reducible refine And.intro (by kernel_rfl) ?_)
        all_goals (refine body_retCT rfl (by simp only [wS, simprocAttr]; exact rfl) ?_; simp only [wS, simprocAttr]; simp_all [Mk.enc, Mk.encs, wkL, AM.wk, wkE, wkE_eq, Mk.wk_encs]; done)
      · replace hop := hop rfl rfl
        repeat' (first | with_reducible (first | refine u'1 fun _ _ => ?_ | refine u'2 ?_ | (first | refine u'3 ?_ | refine u'4 ?_ | refine u'5 fun _ _ _ _ => ?_ | refine u'6 (fun hg => ?_) (fun hg => ?_) <;> try simp only [hg]) <;> simp only [wS, simprocAttr, e1, e2, d12, d13, Bool.not_false, Bool.not_true] | (first | refine u's ?_ | refine u'e ?_ | refine u'r ?_) <;> try simp only [wE, simprocAttr] | refine u'8 ?_ | refine u'9 ?_) | (refine callR_tree hG0 (hcx) ?_; simp only [wS, simprocAttr, e1, e2, d12, d13, Bool.not_false, Bool.not_true]) | (refine callR_tree hG0 (hcy) ?_; simp only [wS, simprocAttr, e1, e2, d12, d13, Bool.not_false, Bool.not_true]) | (refine callR_tree hG0 (hop) ?_; simp only [wS, simprocAttr, e1, e2, d12, d13, Bool.not_false, Bool.not_true]) | (refine callR_tree hG0 (htt) ?_; simp only [wS, simprocAttr, e1, e2, d12, d13, Bool.not_false, Bool.not_true]) | with_reducible refine And.intro (fun _ => ?_) (fun _ => ?_) | with_reducible refine And.intro (by kernel_rfl) ?_)
        all_goals first | (rw [hT (by simp_all) (by simp_all) (by simp_all)]; refine body_retCT rfl (by simp only [wS, simprocAttr]; exact rfl) ?_; simp only [wS, simprocAttr]; simp_all [Mk.enc, Mk.encs, wkL, AM.wk, wkE, wkE_eq, Mk.wk_encs]; done) | (rw [hF (by intro a b c; simp_all)]; refine body_retCT rfl (by simp only [wS, simprocAttr]; exact rfl) ?_; simp only [wS, simprocAttr]; simp_all [Mk.enc, Mk.encs, wkL, AM.wk, wkE, wkE_eq, Mk.wk_encs]; done)
theorem ref_op (n m i : Int) (es : List Mk) : ∃ b : Bool, Pure Tryd.prog G0 46 [.agg (Mk.enc (.mk 9 n m i false es))] (.tup [.agg (Mk.enc (Mk.op oC oV n m i es)), .bool b]) ∧ (b = false → Mk.op oC oV n m i es = .mk 9 n m i false es) := by
  have early : (n < 0 ∨ n ≥ 14 ∨ m ≠ 0 ∨ es.length ≠ 2) → Mk.op oC oV n m i es = .mk 9 n m i false es := fun h => by
    unfold Mk.op
    split
    · rename_i x y
      rw [if_neg]
      rintro ⟨a, b, c, _⟩
      simp only [List.length_cons, List.length_nil] at h
      omega
    · rfl
  by_cases hb : n < 0 ∨ n ≥ 14 ∨ m ≠ 0 ∨ es.length ≠ 2
  · exact ⟨false, by rw [early hb]; exact ref_op_early n m i es hb, fun _ => early hb⟩
  · obtain rfl : m = 0 := by omega
    match es, hb with
    | [x, y], hb => exact ref_op_main n i x y (by omega) (by omega)
    | [], hb => simp at hb
    | [x], hb => simp at hb
    | x :: y :: z :: r, hb => simp at hb
end Go.Proofs.YtiobgkecpekhgaaDoor
