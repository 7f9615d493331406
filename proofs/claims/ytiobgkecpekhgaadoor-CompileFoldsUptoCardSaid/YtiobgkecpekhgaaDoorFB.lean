import Derived.Test.YtiobgkecpekhgaaDoorF3
import Derived.Test.YtiobgkecpekhgaaDoorHWa
import Derived.Test.YtiobgkecpekhgaaDoorHWb
import Derived.Test.YtiobgkecpekhgaaDoorHWc
import Derived.Test.YtiobgkecpekhgaaDoorHWd
import Derived.Test.YtiobgkecpekhgaaDoorHWe
import Derived.Test.YtiobgkecpekhgaaDoorHX
set_option linter.unusedVariables false
set_option linter.unusedSimpArgs false
namespace Go.Proofs.YtiobgkecpekhgaaDoor
open Go.AM
attribute [local irreducible] AWp rgnS callR callV effR valR guardR stepR nextR
set_option maxRecDepth 100000
def oV : Int → Int → Int → Int := opV
def oC (n _ y : Int) : Int := opC n y
def tbl (n x y : Int) : Bool := decide (0 ≤ n ∧ n < 14) && (if n = 12 ∨ n = 13 then truths.contains x && truths.contains y else words.contains x && words.contains y)
theorem tbl_cases {f : FuncId} {n x y : Int} (h : tbl n x y = true) (hw : ∀ k : Int, k = 0 ∨ k = 1 ∨ k = 2 ∨ k = 3 ∨ k = 4 ∨ k = 5 ∨ k = 6 ∨ k = 7 ∨ k = 8 ∨ k = 9 ∨ k = 10 ∨ k = 11 → ∀ x ∈ words, ∀ y ∈ words, Pure Tryd.prog G0 f [.int .i64 k, .int .i64 x, .int .i64 y] (.tup [.int .i64 (opV k x y), .int .i64 (opC k y)])) (h12 : opAll f 12 truths = true) (h13 : opAll f 13 truths = true) : Pure Tryd.prog G0 f [.int .i64 n, .int .i64 x, .int .i64 y] (.tup [.int .i64 (opV n x y), .int .i64 (opC n y)]) := by
  unfold tbl at h
  rw [Bool.and_eq_true, decide_eq_true_eq] at h
  obtain ⟨⟨h0, h1⟩, h2⟩ := h
  by_cases hn : n = 12 ∨ n = 13
  · rw [if_pos hn, Bool.and_eq_true] at h2
    rcases hn with rfl | rfl
    · exact opAll_ok h12 (by simpa using h2.1) (by simpa using h2.2)
    · exact opAll_ok h13 (by simpa using h2.1) (by simpa using h2.2)
  · rw [if_neg hn, Bool.and_eq_true] at h2
    exact hw n (by omega) x (by simpa using h2.1) y (by simpa using h2.2)
theorem op_bitsV (n : Int) (hn : n = 5 ∨ n = 6 ∨ n = 7) {x y : Int} (hx : x ∈ words) (hy : y ∈ words) : Pure Tryd.prog G0 60 [.int .i64 n, .int .i64 x, .int .i64 y] (.tup [.int .i64 (opV n x y), .int .i64 (opC n y)]) := by
  have h := op_bits n x y hn
  rw [bits_tab n hn x hx y hy] at h
  have : opC n y = 0 := by unfold opC; rw [if_neg (by omega)]
  rw [this]; exact h
theorem op_46 {n x y : Int} (h : tbl n x y = true) : Pure Tryd.prog G0 56 [.int .i64 n, .int .i64 x, .int .i64 y] (.tup [.int .i64 (oV n x y), .int .i64 (oC n x y)]) :=
  tbl_cases h (by intro k hk; rcases hk with rfl | rfl | rfl | rfl | rfl | rfl | rfl | rfl | rfl | rfl | rfl | rfl; exact fun x hx y hy => opAll_ok opW_0 hx hy; exact fun x hx y hy => opAll_ok opW_1 hx hy; exact fun x hx y hy => opAll_ok opW_2 hx hy; exact fun x hx y hy => opAll_ok opW_3 hx hy; exact fun x hx y hy => opAll_ok opW_4 hx hy; exact fun x hx y hy => opAll_ok opW_5 hx hy; exact fun x hx y hy => opAll_ok opW_6 hx hy; exact fun x hx y hy => opAll_ok opW_7 hx hy; exact fun x hx y hy => opAll_ok opW_8 hx hy; exact fun x hx y hy => opAll_ok opW_9 hx hy; exact fun x hx y hy => opAll_ok opW_10 hx hy; exact fun x hx y hy => opAll_ok opW_11 hx hy) opW_12 opW_13
theorem opR_46 {n x y : Int} (h : tbl n x y = true) : Pure Tryd.prog G0 60 [.int .i64 n, .int .i64 x, .int .i64 y] (.tup [.int .i64 (oV n x y), .int .i64 (oC n x y)]) :=
  tbl_cases h (by intro k hk; rcases hk with rfl | rfl | rfl | rfl | rfl | rfl | rfl | rfl | rfl | rfl | rfl | rfl; exact fun x hx y hy => opAll_ok opR_0 hx hy; exact fun x hx y hy => opAll_ok opR_1 hx hy; exact fun x hx y hy => opAll_ok opR_2 hx hy; exact fun x hx y hy => opAll_ok opR_3 hx hy; exact fun x hx y hy => opAll_ok opR_4 hx hy; exact fun x hx y hy => op_bitsV 5 (by decide) hx hy; exact fun x hx y hy => op_bitsV 6 (by decide) hx hy; exact fun x hx y hy => op_bitsV 7 (by decide) hx hy; exact fun x hx y hy => opAll_ok opR_8 hx hy; exact fun x hx y hy => opAll_ok opR_9 hx hy; exact fun x hx y hy => opAll_ok opR_10 hx hy; exact fun x hx y hy => opAll_ok opR_11 hx hy) opR_12 opR_13
theorem cst_tbl {n : Int} {x y : Mk} (h0 : 0 ≤ n) (h1 : n < 14) (hx : Mk.cst (T.opK n) x = true) (hy : Mk.cst (T.opK n) y = true) : tbl n x.num y.num = true := by
  have w : ∀ z : Int, -8 ≤ z ∧ z ≤ 7 → words.contains z = true := fun z h => by simpa using mem_words h.1 h.2
  have t : ∀ z : Int, z = 0 ∨ z = 1 → truths.contains z = true := fun z h => by simpa using mem_truths h
  unfold tbl
  by_cases hn : n = 12 ∨ n = 13
  · have hk : T.opK n = 5 := if_pos hn
    rw [hk] at hx hy
    rw [if_pos hn]
    simp [Mk.cst] at hx hy
    simp [h0, h1, -List.contains_eq_mem, t _ hx.2.2.2, t _ hy.2.2.2]
  · have hk : T.opK n = 4 := if_neg hn
    rw [hk] at hx hy
    rw [if_neg hn]
    simp [Mk.cst] at hx hy
    simp [h0, h1, -List.contains_eq_mem, w _ hx.2.2.2, w _ hy.2.2.2]
theorem truth_47 (n : Int) (h0 : 0 ≤ n) (h1 : n < 14) : Pure Tryd.prog G0 57 [.int .i64 n] (.bool (decide (10 ≤ n))) := by
  have hn : n = 0 ∨ n = 1 ∨ n = 2 ∨ n = 3 ∨ n = 4 ∨ n = 5 ∨ n = 6 ∨ n = 7 ∨ n = 8 ∨ n = 9 ∨ n = 10 ∨ n = 11 ∨ n = 12 ∨ n = 13 := by omega
  rcases hn with rfl | rfl | rfl | rfl | rfl | rfl | rfl | rfl | rfl | rfl | rfl | rfl | rfl | rfl
  all_goals exact pure_of_call 60 60 _ [] no_table hG0 (by kernel_rfl) (by kernel_rfl) (by kernel_rfl)
theorem truth_ref (n : Int) (h0 : 0 ≤ n) (h1 : n < 14) : Pure Tryd.prog G0 61 [.int .i64 n] (.bool (decide (10 ≤ n))) := by
  have hn : n = 0 ∨ n = 1 ∨ n = 2 ∨ n = 3 ∨ n = 4 ∨ n = 5 ∨ n = 6 ∨ n = 7 ∨ n = 8 ∨ n = 9 ∨ n = 10 ∨ n = 11 ∨ n = 12 ∨ n = 13 := by omega
  rcases hn with rfl | rfl | rfl | rfl | rfl | rfl | rfl | rfl | rfl | rfl | rfl | rfl | rfl | rfl
  all_goals exact pure_of_call 60 60 _ [] no_table hG0 (by kernel_rfl) (by kernel_rfl) (by kernel_rfl)
end Go.Proofs.YtiobgkecpekhgaaDoor
set_option linter.unusedVariables false
set_option linter.unusedSimpArgs false
namespace Go.Proofs.YtiobgkecpekhgaaDoor
open Go.AM
attribute [local irreducible] AWp rgnS callR callV effR valR guardR stepR nextR
set_option maxRecDepth 100000
theorem not_45 (kd : Int) (x : Mk) : Pure Tryd.prog G0 55 [.agg (Mk.enc x), .imm [.int .i64 kd]] (.bool (!Mk.cst kd x)) := by
  have htr := Mk.enc_tree x
  have hc := const_34 kd x
  obtain ⟨ea, eb, ec, ed, ef, eg, hee⟩ : ∃ a b c d f h, Mk.enc x = [.int .i64 a, .int .i64 b, .int .i64 c, .int .i64 d, .bool f, .sl false h] := by cases x; exact ⟨_, _, _, _, _, _, rfl⟩
  rw [hee] at htr hc ⊢
  refine pure_of_body hG0 Tryd.func55 rfl (by kernel_rfl) (by simp [Tryd.ntmps55]) (by simp only [inL, inR, Bool.true_and, Bool.and_true] at htr ⊢; exact htr) rfl ?_
  simp only [Tryd.ntmps55, enterF, Nat.reduceAdd]
  repeat' (first | with_reducible (first | refine u'1 fun _ _ => ?_ | refine u'2 ?_ | (first | refine u'3 ?_ | refine u'4 ?_ | refine u'5 fun _ _ _ _ => ?_ | refine u'6 (fun hg => ?_) (fun hg => ?_) <;> try simp only [hg]) <;> simp only [wS, simprocAttr] | (first | refine u's ?_ | refine u'e ?_ | refine u'r ?_) <;> try simp only [wE, simprocAttr] | refine u'8 ?_ | refine u'9 ?_) | (refine callR_tree hG0 (hc) ?_; simp only [wS, simprocAttr]) | with_reducible refine And.intro (fun _ => ?_) (fun _ => ?_) | with_reducible refine And.intro (by kernel_rfl) ?_)
  exact body_ret1 rfl (by simp only [wS, simprocAttr])
theorem contains_44 (kd : Int) (es : List Mk) (hl : es.length ≤ 1000000000000) : Pure Tryd.prog G0 54 [.sl false (Mk.encs es), .fn (.func 55) [] [.imm [.int .i64 kd]]] (.bool (decide (idxF (fun e => !Mk.cst kd e) es 0 ≥ 0))) := by
  have hte := Mk.encs_tree es
  have hi := index_48 55 [.imm [.int .i64 kd]] (fun e => !Mk.cst kd e) rfl (not_45 kd) false es hl
  generalize Mk.encs es = EE at hte hi
  refine pure_of_body hG0 Tryd.func54 rfl (by kernel_rfl) (by simp [Tryd.ntmps54]) (by simp only [inL, inR, hte, Bool.and_self]) rfl ?_
  simp only [Tryd.ntmps54, enterF, Nat.reduceAdd]
  repeat' (first | with_reducible (first | refine u'1 fun _ _ => ?_ | refine u'2 ?_ | (first | refine u'3 ?_ | refine u'4 ?_ | refine u'5 fun _ _ _ _ => ?_ | refine u'6 (fun hg => ?_) (fun hg => ?_) <;> try simp only [hg]) <;> simp only [wS, simprocAttr] | (first | refine u's ?_ | refine u'e ?_ | refine u'r ?_) <;> try simp only [wE, simprocAttr] | refine u'8 ?_ | refine u'9 ?_) | (refine callR_tree hG0 (hi) ?_; simp only [wS, simprocAttr]) | with_reducible refine And.intro (fun _ => ?_) (fun _ => ?_) | with_reducible refine And.intro (by kernel_rfl) ?_)
  exact body_ret1 rfl (by simp only [wS, simprocAttr])
theorem idx_two (P : Mk → Bool) (x y : Mk) : decide (idxF P [x, y] 0 ≥ 0) = (P x || P y) := by
  simp only [idxF]
  by_cases hx : P x = true <;> by_cases hy : P y = true <;> simp [hx, hy]
set_option maxHeartbeats 4000000 in
theorem op_early (n m i : Int) (es : List Mk) (hb : n < 0 ∨ n ≥ 14 ∨ m ≠ 0 ∨ es.length ≠ 2) : Pure Tryd.prog G0 43 [.agg (Mk.enc (.mk 9 n m i false es))] (.agg (Mk.enc (.mk 9 n m i false es))) := by
  have htr := Mk.enc_tree (.mk 9 n m i false es)
  have hln := Mk.encs_len es
  refine pure_of_body hG0 Tryd.func43 rfl (by kernel_rfl) (by simp [Tryd.ntmps43]) (by simp only [inL, inR, htr, Bool.and_self]) (by simpa only [inR] using htr) ?_
  simp only [Tryd.ntmps43, enterF, Nat.reduceAdd, Mk.enc]
  generalize Mk.encs es = EE at hln
  repeat' (first | with_reducible (first | refine u'1 fun _ _ => ?_ | refine u'2 ?_ | (first | refine u'3 ?_ | refine u'4 ?_ | refine u'5 fun _ _ _ _ => ?_ | refine u'6 (fun hg => ?_) (fun hg => ?_) <;> try simp only [hg]) <;> simp only [wS, simprocAttr] | (first | refine u's ?_ | refine u'e ?_ | refine u'r ?_) <;> try simp only [wE, simprocAttr] | refine u'8 ?_ | refine u'9 ?_) | with_reducible refine And.intro (fun _ => ?_) (fun _ => ?_) | with_reducible refine And.intro (by kernel_rfl) ?_)
  all_goals first | exact body_retC (v := .agg [.int .i64 9, .int .i64 n, .int .i64 m, .int .i64 i, .bool false, .sl false EE]) rfl (by simp only [wS, simprocAttr]; try exact rfl) rfl | (exfalso; simp_all <;> omega)
set_option maxHeartbeats 8000000 in
theorem op_main (n i : Int) (x y : Mk) (h0 : 0 ≤ n) (h1 : n < 14) : Pure Tryd.prog G0 43 [.agg (Mk.enc (.mk 9 n 0 i false [x, y]))] (.agg (Mk.enc (Mk.op oC oV n 0 i [x, y]))) := by
  have htr := Mk.enc_tree (.mk 9 n 0 i false [x, y])
  have hto := Mk.enc_tree (Mk.op oC oV n 0 i [x, y])
  have hte := Mk.encs_tree [x, y]
  have hcf := contains_44 (T.opK n) [x, y] (by simp)
  have hop := fun a b => op_46 (cst_tbl (x := x) (y := y) h0 h1 a b)
  have htt := truth_47 n h0 h1
  have hT : Mk.cst (T.opK n) x = true → Mk.cst (T.opK n) y = true → oC n x.num y.num = 0 → Mk.op oC oV n 0 i [x, y] = .mk (if 10 ≤ n then 5 else 4) (oV n x.num y.num) 0 i false [] := fun a b c => by
    simp only [Mk.op]; rw [if_pos ⟨h0, h1, trivial, a, b, c⟩]
  have hF : (Mk.cst (T.opK n) x = true → Mk.cst (T.opK n) y = true → oC n x.num y.num ≠ 0) → Mk.op oC oV n 0 i [x, y] = .mk 9 n 0 i false [x, y] := fun a => by
    simp only [Mk.op]; rw [if_neg fun h => a h.2.2.2.1 h.2.2.2.2.1 h.2.2.2.2.2]
  generalize Mk.op oC oV n 0 i [x, y] = R at hT hF hto ⊢
  rw [idx_two] at hcf
  obtain ⟨cx, ecx⟩ : ∃ b, b = Mk.cst (T.opK n) x := ⟨_, rfl⟩
  obtain ⟨cy, ecy⟩ : ∃ b, b = Mk.cst (T.opK n) y := ⟨_, rfl⟩
  rw [← ecx] at hcf hop hT hF
  rw [← ecy] at hcf hop hT hF
  have hk : T.opK n = if n = 12 ∨ n = 13 then 5 else 4 := rfl
  refine pure_of_bodyW hG0 Tryd.func43 rfl (by kernel_rfl) (by simp [Tryd.ntmps43]) (by simp only [inL, inR, htr, Bool.and_self]) (by simpa only [inR] using hto) ?_
  obtain ⟨xk, xn, xm, xi, xg, xs⟩ := x
  obtain ⟨yk, yn, ym, yi, yg, ys⟩ := y
  simp only [Tryd.ntmps43, enterF, Nat.reduceAdd, Mk.enc, Mk.encs, Mk.num] at hcf hte hT hF hop ⊢
  have e1 : decide (n < 0) = false := by simp; omega
  have e2 : decide (n ≥ 14) = false := by simp; omega
  have d12 : True := trivial
  have d13 : True := trivial
  have key : ∀ kd : Int, T.opK n = kd → True := fun _ _ => trivial
  have hn : n = 12 ∨ n = 13 ∨ (n ≠ 12 ∧ n ≠ 13) := by omega
  rcases hn with rfl | rfl | ⟨q1, q2⟩
  · simp only [true_or, if_true] at hk
    rw [hk] at hcf
    cases cx
    · rw [hF (by simp)]
      clear hop hT
      repeat' (first | with_reducible (first | refine u'1 fun _ _ => ?_ | refine u'2 ?_ | (first | refine u'3 ?_ | refine u'4 ?_ | refine u'5 fun _ _ _ _ => ?_ | refine u'6 (fun hg => ?_) (fun hg => ?_) <;> try simp only [hg]) <;> simp only [wS, simprocAttr, e1, e2, d12, d13, Bool.not_false, Bool.not_true] | (first | refine u's ?_ | refine u'e ?_ | refine u'r ?_) <;> try simp only [wE, simprocAttr] | refine u'8 ?_ | refine u'9 ?_) | (refine callR_pure (fp := [2]) hG0 hcf (.cons (.same (by simpa only [inR] using hte)) (.cons (.fn .nil (.cons (.ptr (cs := [.int .i64 5]) (by simp) (by simp only [wS, simprocAttr]) (.cons (.same rfl) .nil)) .nil)) .nil)) (.inr rfl) ?_; simp only [wS, simprocAttr, e1, e2, d12, d13, Bool.not_false, Bool.not_true]) | (refine callR_tree hG0 (hop) ?_; simp only [wS, simprocAttr, e1, e2, d12, d13, Bool.not_false, Bool.not_true]) | (refine callR_tree hG0 (htt) ?_; simp only [wS, simprocAttr, e1, e2, d12, d13, Bool.not_false, Bool.not_true]) | with_reducible refine And.intro (fun _ => ?_) (fun _ => ?_) | with_reducible refine And.intro (by kernel_rfl) ?_)
      all_goals (refine body_retC rfl (by simp only [wS, simprocAttr]; exact rfl) ?_; simp_all [Mk.enc, Mk.encs, wkL, AM.wk, wkE, wkE_eq, Mk.wk_encs]; done)
    · cases cy
      · rw [hF (by simp)]
        clear hop hT
        repeat' (first | with_reducible (first | refine u'1 fun _ _ => ?_ | refine u'2 ?_ | (first | refine u'3 ?_ | refine u'4 ?_ | refine u'5 fun _ _ _ _ => ?_ | refine u'6 (fun hg => ?_) (fun hg => ?_) <;> try simp only [hg]) <;> simp only [wS, simprocAttr, e1, e2, d12, d13, Bool.not_false, Bool.not_true] | (first | refine u's ?_ | refine u'e ?_ | refine u'r ?_) <;> try simp only [wE, simprocAttr] | refine u'8 ?_ | refine u'9 ?_) | (refine callR_pure (fp := [2]) hG0 hcf (.cons (.same (by simpa only [inR] using hte)) (.cons (.fn .nil (.cons (.ptr (cs := [.int .i64 5]) (by simp) (by simp only [wS, simprocAttr]) (.cons (.same rfl) .nil)) .nil)) .nil)) (.inr rfl) ?_; simp only [wS, simprocAttr, e1, e2, d12, d13, Bool.not_false, Bool.not_true]) | (refine callR_tree hG0 (hop) ?_; simp only [wS, simprocAttr, e1, e2, d12, d13, Bool.not_false, Bool.not_true]) | (refine callR_tree hG0 (htt) ?_; simp only [wS, simprocAttr, e1, e2, d12, d13, Bool.not_false, Bool.not_true]) | with_reducible refine And.intro (fun _ => ?_) (fun _ => ?_) | with_reducible refine And.intro (by kernel_rfl) ?_)
        all_goals (refine body_retC rfl (by simp only [wS, simprocAttr]; exact rfl) ?_; simp_all [Mk.enc, Mk.encs, wkL, AM.wk, wkE, wkE_eq, Mk.wk_encs]; done)
      · replace hop := hop rfl rfl
        repeat' (first | with_reducible (first | refine u'1 fun _ _ => ?_ | refine u'2 ?_ | (first | refine u'3 ?_ | refine u'4 ?_ | refine u'5 fun _ _ _ _ => ?_ | refine u'6 (fun hg => ?_) (fun hg => ?_) <;> try simp only [hg]) <;> simp only [wS, simprocAttr, e1, e2, d12, d13, Bool.not_false, Bool.not_true] | (first | refine u's ?_ | refine u'e ?_ | refine u'r ?_) <;> try simp only [wE, simprocAttr] | refine u'8 ?_ | refine u'9 ?_) | (refine callR_pure (fp := [2]) hG0 hcf (.cons (.same (by simpa only [inR] using hte)) (.cons (.fn .nil (.cons (.ptr (cs := [.int .i64 5]) (by simp) (by simp only [wS, simprocAttr]) (.cons (.same rfl) .nil)) .nil)) .nil)) (.inr rfl) ?_; simp only [wS, simprocAttr, e1, e2, d12, d13, Bool.not_false, Bool.not_true]) | (refine callR_tree hG0 (hop) ?_; simp only [wS, simprocAttr, e1, e2, d12, d13, Bool.not_false, Bool.not_true]) | (refine callR_tree hG0 (htt) ?_; simp only [wS, simprocAttr, e1, e2, d12, d13, Bool.not_false, Bool.not_true]) | with_reducible refine And.intro (fun _ => ?_) (fun _ => ?_) | with_reducible refine And.intro (by kernel_rfl) ?_)
        all_goals first | (rw [hT (by simp_all) (by simp_all) (by simp_all)]; (refine body_retC rfl (by simp only [wS, simprocAttr]; exact rfl) ?_; simp_all [Mk.enc, Mk.encs, wkL, AM.wk, wkE, wkE_eq, Mk.wk_encs]; done)) | (rw [hF (by intro a b c; simp_all)]; (refine body_retC rfl (by simp only [wS, simprocAttr]; exact rfl) ?_; simp_all [Mk.enc, Mk.encs, wkL, AM.wk, wkE, wkE_eq, Mk.wk_encs]; done))
  · simp only [or_true, if_true] at hk
    rw [hk] at hcf
    cases cx
    · rw [hF (by simp)]
      clear hop hT
      repeat' (first | with_reducible (first | refine u'1 fun _ _ => ?_ | refine u'2 ?_ | (first | refine u'3 ?_ | refine u'4 ?_ | refine u'5 fun _ _ _ _ => ?_ | refine u'6 (fun hg => ?_) (fun hg => ?_) <;> try simp only [hg]) <;> simp only [wS, simprocAttr, e1, e2, d12, d13, Bool.not_false, Bool.not_true] | (first | refine u's ?_ | refine u'e ?_ | refine u'r ?_) <;> try simp only [wE, simprocAttr] | refine u'8 ?_ | refine u'9 ?_) | (refine callR_pure (fp := [2]) hG0 hcf (.cons (.same (by simpa only [inR] using hte)) (.cons (.fn .nil (.cons (.ptr (cs := [.int .i64 5]) (by simp) (by simp only [wS, simprocAttr]) (.cons (.same rfl) .nil)) .nil)) .nil)) (.inr rfl) ?_; simp only [wS, simprocAttr, e1, e2, d12, d13, Bool.not_false, Bool.not_true]) | (refine callR_tree hG0 (hop) ?_; simp only [wS, simprocAttr, e1, e2, d12, d13, Bool.not_false, Bool.not_true]) | (refine callR_tree hG0 (htt) ?_; simp only [wS, simprocAttr, e1, e2, d12, d13, Bool.not_false, Bool.not_true]) | with_reducible refine And.intro (fun _ => ?_) (fun _ => ?_) | with_reducible refine And.intro (by kernel_rfl) ?_)
      all_goals (refine body_retC rfl (by simp only [wS, simprocAttr]; exact rfl) ?_; simp_all [Mk.enc, Mk.encs, wkL, AM.wk, wkE, wkE_eq, Mk.wk_encs]; done)
    · cases cy
      · rw [hF (by simp)]
        clear hop hT
        repeat' (first | with_reducible (first | refine u'1 fun _ _ => ?_ | refine u'2 ?_ | (first | refine u'3 ?_ | refine u'4 ?_ | refine u'5 fun _ _ _ _ => ?_ | refine u'6 (fun hg => ?_) (fun hg => ?_) <;> try simp only [hg]) <;> simp only [wS, simprocAttr, e1, e2, d12, d13, Bool.not_false, Bool.not_true] | (first | refine u's ?_ | refine u'e ?_ | refine u'r ?_) <;> try simp only [wE, simprocAttr] | refine u'8 ?_ | refine u'9 ?_) | (refine callR_pure (fp := [2]) hG0 hcf (.cons (.same (by simpa only [inR] using hte)) (.cons (.fn .nil (.cons (.ptr (cs := [.int .i64 5]) (by simp) (by simp only [wS, simprocAttr]) (.cons (.same rfl) .nil)) .nil)) .nil)) (.inr rfl) ?_; simp only [wS, simprocAttr, e1, e2, d12, d13, Bool.not_false, Bool.not_true]) | (refine callR_tree hG0 (hop) ?_; simp only [wS, simprocAttr, e1, e2, d12, d13, Bool.not_false, Bool.not_true]) | (refine callR_tree hG0 (htt) ?_; simp only [wS, simprocAttr, e1, e2, d12, d13, Bool.not_false, Bool.not_true]) | with_reducible refine And.intro (fun _ => ?_) (fun _ => ?_) | with_reducible refine And.intro (by kernel_rfl) ?_)
        all_goals (refine body_retC rfl (by simp only [wS, simprocAttr]; exact rfl) ?_; simp_all [Mk.enc, Mk.encs, wkL, AM.wk, wkE, wkE_eq, Mk.wk_encs]; done)
      · replace hop := hop rfl rfl
        repeat' (first | with_reducible (first | refine u'1 fun _ _ => ?_ | refine u'2 ?_ | (first | refine u'3 ?_ | refine u'4 ?_ | refine u'5 fun _ _ _ _ => ?_ | refine u'6 (fun hg => ?_) (fun hg => ?_) <;> try simp only [hg]) <;> simp only [wS, simprocAttr, e1, e2, d12, d13, Bool.not_false, Bool.not_true] | (first | refine u's ?_ | refine u'e ?_ | refine u'r ?_) <;> try simp only [wE, simprocAttr] | refine u'8 ?_ | refine u'9 ?_) | (refine callR_pure (fp := [2]) hG0 hcf (.cons (.same (by simpa only [inR] using hte)) (.cons (.fn .nil (.cons (.ptr (cs := [.int .i64 5]) (by simp) (by simp only [wS, simprocAttr]) (.cons (.same rfl) .nil)) .nil)) .nil)) (.inr rfl) ?_; simp only [wS, simprocAttr, e1, e2, d12, d13, Bool.not_false, Bool.not_true]) | (refine callR_tree hG0 (hop) ?_; simp only [wS, simprocAttr, e1, e2, d12, d13, Bool.not_false, Bool.not_true]) | (refine callR_tree hG0 (htt) ?_; simp only [wS, simprocAttr, e1, e2, d12, d13, Bool.not_false, Bool.not_true]) | with_reducible refine And.intro (fun _ => ?_) (fun _ => ?_) | with_reducible refine And.intro (by kernel_rfl) ?_)
        all_goals first | (rw [hT (by simp_all) (by simp_all) (by simp_all)]; (refine body_retC rfl (by simp only [wS, simprocAttr]; exact rfl) ?_; simp_all [Mk.enc, Mk.encs, wkL, AM.wk, wkE, wkE_eq, Mk.wk_encs]; done)) | (rw [hF (by intro a b c; simp_all)]; (refine body_retC rfl (by simp only [wS, simprocAttr]; exact rfl) ?_; simp_all [Mk.enc, Mk.encs, wkL, AM.wk, wkE, wkE_eq, Mk.wk_encs]; done))
  · simp only [q1, q2, or_self, if_false] at hk
    rw [hk] at hcf
    have d12 : (n == 12) = false := by simp [q1]
    have d13 : (n == 13) = false := by simp [q2]
    cases cx
    · rw [hF (by simp)]
      clear hop hT
      repeat' (first | with_reducible (first | refine u'1 fun _ _ => ?_ | refine u'2 ?_ | (first | refine u'3 ?_ | refine u'4 ?_ | refine u'5 fun _ _ _ _ => ?_ | refine u'6 (fun hg => ?_) (fun hg => ?_) <;> try simp only [hg]) <;> simp only [wS, simprocAttr, e1, e2, d12, d13, Bool.not_false, Bool.not_true] | (first | refine u's ?_ | refine u'e ?_ | refine u'r ?_) <;> try simp only [wE, simprocAttr] | refine u'8 ?_ | refine u'9 ?_) | (refine callR_pure (fp := [2]) hG0 hcf (.cons (.same (by simpa only [inR] using hte)) (.cons (.fn .nil (.cons (.ptr (cs := [.int .i64 4]) (by simp) (by simp only [wS, simprocAttr]) (.cons (.same rfl) .nil)) .nil)) .nil)) (.inr rfl) ?_; simp only [wS, simprocAttr, e1, e2, d12, d13, Bool.not_false, Bool.not_true]) | (refine callR_tree hG0 (hop) ?_; simp only [wS, simprocAttr, e1, e2, d12, d13, Bool.not_false, Bool.not_true]) | (refine callR_tree hG0 (htt) ?_; simp only [wS, simprocAttr, e1, e2, d12, d13, Bool.not_false, Bool.not_true]) | with_reducible refine And.intro (fun _ => ?_) (fun _ => ?_) | with_reducible refine And.intro (by kernel_rfl) ?_)
      all_goals (refine body_retC rfl (by simp only [wS, simprocAttr]; exact rfl) ?_; simp_all [Mk.enc, Mk.encs, wkL, AM.wk, wkE, wkE_eq, Mk.wk_encs]; done)
    · cases cy
      · rw [hF (by simp)]
        clear hop hT
        repeat' (first | with_reducible (first | refine u'1 fun _ _ => ?_ | refine u'2 ?_ | (first | refine u'3 ?_ | refine u'4 ?_ | refine u'5 fun _ _ _ _ => ?_ | refine u'6 (fun hg => ?_) (fun hg => ?_) <;> try simp only [hg]) <;> simp only [wS, simprocAttr, e1, e2, d12, d13, Bool.not_false, Bool.not_true] | (first | refine u's ?_ | refine u'e ?_ | refine u'r ?_) <;> try simp only [wE, simprocAttr] | refine u'8 ?_ | refine u'9 ?_) | (refine callR_pure (fp := [2]) hG0 hcf (.cons (.same (by simpa only [inR] using hte)) (.cons (.fn .nil (.cons (.ptr (cs := [.int .i64 4]) (by simp) (by simp only [wS, simprocAttr]) (.cons (.same rfl) .nil)) .nil)) .nil)) (.inr rfl) ?_; simp only [wS, simprocAttr, e1, e2, d12, d13, Bool.not_false, Bool.not_true]) | (refine callR_tree hG0 (hop) ?_; simp only [wS, simprocAttr, e1, e2, d12, d13, Bool.not_false, Bool.not_true]) | (refine callR_tree hG0 (htt) ?_; simp only [wS, simprocAttr, e1, e2, d12, d13, Bool.not_false, Bool.not_true]) | with_reducible refine And.intro (fun _ => ?_) (fun _ => ?_) | with_reducible refine And.intro (by kernel_rfl) ?_)
        all_goals (refine body_retC rfl (by simp only [wS, simprocAttr]; exact rfl) ?_; simp_all [Mk.enc, Mk.encs, wkL, AM.wk, wkE, wkE_eq, Mk.wk_encs]; done)
      · replace hop := hop rfl rfl
        repeat' (first | with_reducible (first | refine u'1 fun _ _ => ?_ | refine u'2 ?_ | (first | refine u'3 ?_ | refine u'4 ?_ | refine u'5 fun _ _ _ _ => ?_ | refine u'6 (fun hg => ?_) (fun hg => ?_) <;> try simp only [hg]) <;> simp only [wS, simprocAttr, e1, e2, d12, d13, Bool.not_false, Bool.not_true] | (first | refine u's ?_ | refine u'e ?_ | refine u'r ?_) <;> try simp only [wE, simprocAttr] | refine u'8 ?_ | refine u'9 ?_) | (refine callR_pure (fp := [2]) hG0 hcf (.cons (.same (by simpa only [inR] using hte)) (.cons (.fn .nil (.cons (.ptr (cs := [.int .i64 4]) (by simp) (by simp only [wS, simprocAttr]) (.cons (.same rfl) .nil)) .nil)) .nil)) (.inr rfl) ?_; simp only [wS, simprocAttr, e1, e2, d12, d13, Bool.not_false, Bool.not_true]) | (refine callR_tree hG0 (hop) ?_; simp only [wS, simprocAttr, e1, e2, d12, d13, Bool.not_false, Bool.not_true]) | (refine callR_tree hG0 (htt) ?_; simp only [wS, simprocAttr, e1, e2, d12, d13, Bool.not_false, Bool.not_true]) | with_reducible refine And.intro (fun _ => ?_) (fun _ => ?_) | with_reducible refine And.intro (by kernel_rfl) ?_)
        all_goals first | (rw [hT (by simp_all) (by simp_all) (by simp_all)]; (refine body_retC rfl (by simp only [wS, simprocAttr]; exact rfl) ?_; simp_all [Mk.enc, Mk.encs, wkL, AM.wk, wkE, wkE_eq, Mk.wk_encs]; done)) | (rw [hF (by intro a b c; simp_all)]; (refine body_retC rfl (by simp only [wS, simprocAttr]; exact rfl) ?_; simp_all [Mk.enc, Mk.encs, wkL, AM.wk, wkE, wkE_eq, Mk.wk_encs]; done))
theorem operation_35 (n m i : Int) (es : List Mk) : Pure Tryd.prog G0 43 [.agg (Mk.enc (.mk 9 n m i false es))] (.agg (Mk.enc (Mk.op oC oV n m i es))) := by
  have early : (n < 0 ∨ n ≥ 14 ∨ m ≠ 0 ∨ es.length ≠ 2) → Mk.op oC oV n m i es = .mk 9 n m i false es := fun h => by
    unfold Mk.op
    split
    · rename_i x y
      rw [if_neg]
      rintro ⟨a, b, c, _⟩
      simp only [List.length_cons, List.length_nil] at h
      omega
    · rfl
  by_cases hb : n < 0 ∨ n ≥ 14 ∨ m ≠ 0 ∨ es.length ≠ 2
  · rw [early hb]; exact op_early n m i es hb
  · obtain rfl : m = 0 := by omega
    match es, hb with
    | [x, y], hb => exact op_main n i x y (by omega) (by omega)
    | [], hb => simp at hb
    | [x], hb => simp at hb
    | x :: y :: z :: r, hb => simp at hb
end Go.Proofs.YtiobgkecpekhgaaDoor
