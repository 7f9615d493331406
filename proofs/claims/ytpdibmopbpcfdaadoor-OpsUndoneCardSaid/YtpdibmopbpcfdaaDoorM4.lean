import Derived.Test.YtpdibmopbpcfdaaDoorM3
set_option linter.unusedVariables false
set_option linter.unusedSimpArgs false
namespace Go.Proofs.YtpdibmopbpcfdaaDoor
open Go.AM
theorem cc_of_body {x : MX} {f : FuncId} {fn : Func} {c : Code} {args : List AV} {res : AV} (hx : x.ok) (hf : Tryd.prog.funcs[f]? = some fn) (hb : fn.body = some c) (hgo : goFunc Tryd.prog f = true) (hn : args.length ≤ fn.ntmps) (hargs : inL five args = true) (hres : inR five res = true)
    (hbody : ∀ at0 left, AWp Tryd.prog G0 fn.ntmps 6 c (bodyA Tryd.prog fn fun v s => v = res ∧ s.row 1 = x.row at0 left ∧ s.row 2 = x.A2 ∧ s.row 3 = x.A3 ∧ s.row 4 = x.A4 ∧ s.row 5 = x.A5) ⟨mkF (enterF 0 args), [.dead, x.row at0 left, x.A2, x.A3, x.A4, x.A5]⟩) : ∀ rows at0 left, MR x rows at0 left → CallC Tryd.prog G0 f args rows [1, 2, 3, 4, 5] ⟨res, []⟩ := by
  intro rows at0 left hr
  obtain ⟨h1, h2, h3, h4, h5⟩ := hr
  obtain ⟨hL, hcn, hP⟩ := hx
  obtain ⟨k1, k2, k3, k4, k5⟩ := hP.ins
  have hcon : ∀ r, five r = true → decide (r < 6) = true := fun r h => by simp [five] at h ⊢; omega
  have hrow : ∀ a l, rowIn five (x.row a l) = true := fun a l => by
    simp only [MX.row, rowIn, inL, inR, inR_mono (p := noRef) (q := five) (fun r hr => by cases hr) (tree_encI x.L), k1, Bool.and_self]
  refine callC_of_body [.dead, x.row at0 left, x.A2, x.A3, x.A4, x.A5] hG0 hf hb hgo hn ?_ ?_ ?_ ?_ ?_ ?_ ?_
  · intro r hr
    simp only [List.mem_cons, List.not_mem_nil, or_false] at hr
    rcases hr with rfl | rfl | rfl | rfl | rfl
    · exact h1.symm
    · exact h2.symm
    · exact h3.symm
    · exact h4.symm
    · exact h5.symm
  · intro r hr
    match r, hr with
    | 0, _ => simp
    | 1, hr => exact absurd (by simp) hr
    | 2, hr => exact absurd (by simp) hr
    | 3, hr => exact absurd (by simp) hr
    | 4, hr => exact absurd (by simp) hr
    | 5, hr => exact absurd (by simp) hr
    | r + 6, _ => simp
  · exact inL_mono hcon hargs
  · intro r hr
    simp only [List.mem_cons, List.not_mem_nil, or_false] at hr
    rcases hr with rfl | rfl | rfl | rfl | rfl
    · rw [h1]; exact rowIn_mono hcon (hrow _ _)
    · rw [h2]; exact rowIn_mono hcon k2
    · rw [h3]; exact rowIn_mono hcon k3
    · rw [h4]; exact rowIn_mono hcon k4
    · rw [h5]; exact rowIn_mono hcon k5
  · intro r hr h
    simp only [List.mem_cons, List.not_mem_nil, or_false] at hr
    simp only [List.length_cons, List.length_nil] at h
    omega
  · simp
  · refine awp_mono (hbody at0 left) fun e s q => ?_
    have key : ∀ v, (v = res ∧ s.row 1 = x.row at0 left ∧ s.row 2 = x.A2 ∧ s.row 3 = x.A3 ∧ s.row 4 = x.A4 ∧ s.row 5 = x.A5) → (v = (Eff.mk res []).val ∨ wk v = (Eff.mk res []).val) ∧ inR (fun r => ([1, 2, 3, 4, 5] : List Nat).contains r) v = true ∧ ∀ r ∈ ([1, 2, 3, 4, 5] : List Nat), s.row r = upd rows (Eff.mk res []).wr r ∧ rowIn (fun r => ([1, 2, 3, 4, 5] : List Nat).contains r) (s.row r) = true := by
      rintro v ⟨rfl, q1, q2, q3, q4, q5⟩
      refine ⟨.inl rfl, hres, fun r hr => ?_⟩
      simp only [List.mem_cons, List.not_mem_nil, or_false] at hr
      rcases hr with rfl | rfl | rfl | rfl | rfl
      · rw [q1]; exact ⟨by simp [upd, h1], hrow _ _⟩
      · rw [q2]; exact ⟨by simp [upd, h2], k2⟩
      · rw [q3]; exact ⟨by simp [upd, h3], k3⟩
      · rw [q4]; exact ⟨by simp [upd, h4], k4⟩
      · rw [q5]; exact ⟨by simp [upd, h5], k5⟩
    cases e with
    | normal => obtain ⟨v, g1, g2⟩ := q; exact ⟨v, g1, key v g2⟩
    | ret => obtain ⟨v, g1, g2⟩ := q; exact ⟨v, g1, key v g2⟩
    | exit id => exact q.elim
    | goto l => exact q.elim
    | panic ch => exact q.elim
    | outgrown => exact q.elim
def at245 (x : MX) (r : Nat) (f : Fn) : Prop := (r = 2 ∧ x.A2 = f.row) ∨ (r = 4 ∧ x.A4 = f.row) ∨ (r = 5 ∧ x.A5 = f.row)
def VarsAt (x : MX) (r : Nat) (f : Fn) : Prop := f.wf ∧ at245 x r f ∧ ∀ rows at0 left, MR x rows at0 left → CallC Tryd.prog G0 83 [.agg [.int .i64 x.pk, .int .i64 x.pn, .int .i64 x.pm, x.kv], .int .i64 x.F] rows [1, 2, 3, 4, 5] ⟨.osl r f.v 0 f.q 4 false, []⟩
theorem vars_ok {x : MX} (hx : x.ok) : ∃ r f, VarsAt x r f := by
  obtain ⟨L, pk, pn, pm, F, kv, con, A2, A3, A4, A5⟩ := x
  have hok := hx
  obtain ⟨hL, hcn, hP⟩ := hx
  simp only at hP
  cases hP with
  | one f0 vP bP wf0 hF =>
    subst hF
    · 
      refine ⟨2, f0, wf0, .inl ⟨rfl, rfl⟩, cc_of_body hok Tryd.func83 rfl (by kernel_rfl) (by simp [Tryd.ntmps83]) rfl rfl fun at0 left => ?_⟩
      have e1 : IntKind.i64.wrap (((f0.q + 1 : Nat) : Int) - 1) = (f0.q : Int) := by
        have := wf0.2.2.1
        rw [wrap_id (by omega) (by omega)]; omega
      simp only [Tryd.ntmps83, enterF, Nat.reduceAdd, MX.row, Fn.row, Fn.cells]
      have g1 : f0.q ≤ f0.q + 1 := Nat.le_succ _
      have g2 : (f0.q == f0.q + 1) = false := by simp
      repeat' (first | refine u'1 fun _ _ => ?_ | refine u'2 ?_ | (first | refine u'3 ?_ | refine u'4 ?_ | refine u'5 fun _ _ _ _ => ?_ | (refine u'6 (fun hg => ?_) (fun hg => ?_) <;> try simp only [hg])) <;> simp only [wS, simprocAttr, e1, g1, g2, Fn.cells, Fn.row, or_true, Bool.and_false, Nat.zero_mul, Bool.or_self] | (refine u'7 ?_; try simp only [wE, simprocAttr]) | refine u'8 ?_ | refine u'9 ?_)
      refine body_ret1 rfl ?_
      simp only [wS, simprocAttr, Fn.cells, Fn.row, MX.row, e1]
  | two f0 f1 vP bP wf0 wf1 hF =>
    rcases hF with rfl | rfl
    ·
      refine ⟨2, f0, wf0, .inl ⟨rfl, rfl⟩, cc_of_body hok Tryd.func83 rfl (by kernel_rfl) (by simp [Tryd.ntmps83]) rfl rfl fun at0 left => ?_⟩
      have e1 : IntKind.i64.wrap (((f0.q + 1 : Nat) : Int) - 1) = (f0.q : Int) := by
        have := wf0.2.2.1
        rw [wrap_id (by omega) (by omega)]; omega
      simp only [Tryd.ntmps83, enterF, Nat.reduceAdd, MX.row, Fn.row, Fn.cells]
      have g1 : f0.q ≤ f0.q + 1 := Nat.le_succ _
      have g2 : (f0.q == f0.q + 1) = false := by simp
      repeat' (first | refine u'1 fun _ _ => ?_ | refine u'2 ?_ | (first | refine u'3 ?_ | refine u'4 ?_ | refine u'5 fun _ _ _ _ => ?_ | (refine u'6 (fun hg => ?_) (fun hg => ?_) <;> try simp only [hg])) <;> simp only [wS, simprocAttr, e1, g1, g2, Fn.cells, Fn.row, or_true, Bool.and_false, Nat.zero_mul, Bool.or_self] | (refine u'7 ?_; try simp only [wE, simprocAttr]) | refine u'8 ?_ | refine u'9 ?_)
      refine body_ret1 rfl ?_
      simp only [wS, simprocAttr, Fn.cells, Fn.row, MX.row, e1]
    ·
      refine ⟨4, f1, wf1, .inr (.inl ⟨rfl, rfl⟩), cc_of_body hok Tryd.func83 rfl (by kernel_rfl) (by simp [Tryd.ntmps83]) rfl rfl fun at0 left => ?_⟩
      have e1 : IntKind.i64.wrap (((f1.q + 1 : Nat) : Int) - 1) = (f1.q : Int) := by
        have := wf1.2.2.1
        rw [wrap_id (by omega) (by omega)]; omega
      simp only [Tryd.ntmps83, enterF, Nat.reduceAdd, MX.row, Fn.row, Fn.cells]
      have g1 : f1.q ≤ f1.q + 1 := Nat.le_succ _
      have g2 : (f1.q == f1.q + 1) = false := by simp
      repeat' (first | refine u'1 fun _ _ => ?_ | refine u'2 ?_ | (first | refine u'3 ?_ | refine u'4 ?_ | refine u'5 fun _ _ _ _ => ?_ | (refine u'6 (fun hg => ?_) (fun hg => ?_) <;> try simp only [hg])) <;> simp only [wS, simprocAttr, e1, g1, g2, Fn.cells, Fn.row, or_true, Bool.and_false, Nat.zero_mul, Bool.or_self] | (refine u'7 ?_; try simp only [wE, simprocAttr]) | refine u'8 ?_ | refine u'9 ?_)
      refine body_ret1 rfl ?_
      simp only [wS, simprocAttr, Fn.cells, Fn.row, MX.row, e1]
  | three f0 f1 f2 vP bP wf0 wf1 wf2 hF =>
    rcases hF with rfl | rfl | rfl
    ·
      refine ⟨2, f0, wf0, .inl ⟨rfl, rfl⟩, cc_of_body hok Tryd.func83 rfl (by kernel_rfl) (by simp [Tryd.ntmps83]) rfl rfl fun at0 left => ?_⟩
      have e1 : IntKind.i64.wrap (((f0.q + 1 : Nat) : Int) - 1) = (f0.q : Int) := by
        have := wf0.2.2.1
        rw [wrap_id (by omega) (by omega)]; omega
      simp only [Tryd.ntmps83, enterF, Nat.reduceAdd, MX.row, Fn.row, Fn.cells]
      have g1 : f0.q ≤ f0.q + 1 := Nat.le_succ _
      have g2 : (f0.q == f0.q + 1) = false := by simp
      repeat' (first | refine u'1 fun _ _ => ?_ | refine u'2 ?_ | (first | refine u'3 ?_ | refine u'4 ?_ | refine u'5 fun _ _ _ _ => ?_ | (refine u'6 (fun hg => ?_) (fun hg => ?_) <;> try simp only [hg])) <;> simp only [wS, simprocAttr, e1, g1, g2, Fn.cells, Fn.row, or_true, Bool.and_false, Nat.zero_mul, Bool.or_self] | (refine u'7 ?_; try simp only [wE, simprocAttr]) | refine u'8 ?_ | refine u'9 ?_)
      refine body_ret1 rfl ?_
      simp only [wS, simprocAttr, Fn.cells, Fn.row, MX.row, e1]
    ·
      refine ⟨4, f1, wf1, .inr (.inl ⟨rfl, rfl⟩), cc_of_body hok Tryd.func83 rfl (by kernel_rfl) (by simp [Tryd.ntmps83]) rfl rfl fun at0 left => ?_⟩
      have e1 : IntKind.i64.wrap (((f1.q + 1 : Nat) : Int) - 1) = (f1.q : Int) := by
        have := wf1.2.2.1
        rw [wrap_id (by omega) (by omega)]; omega
      simp only [Tryd.ntmps83, enterF, Nat.reduceAdd, MX.row, Fn.row, Fn.cells]
      have g1 : f1.q ≤ f1.q + 1 := Nat.le_succ _
      have g2 : (f1.q == f1.q + 1) = false := by simp
      repeat' (first | refine u'1 fun _ _ => ?_ | refine u'2 ?_ | (first | refine u'3 ?_ | refine u'4 ?_ | refine u'5 fun _ _ _ _ => ?_ | (refine u'6 (fun hg => ?_) (fun hg => ?_) <;> try simp only [hg])) <;> simp only [wS, simprocAttr, e1, g1, g2, Fn.cells, Fn.row, or_true, Bool.and_false, Nat.zero_mul, Bool.or_self] | (refine u'7 ?_; try simp only [wE, simprocAttr]) | refine u'8 ?_ | refine u'9 ?_)
      refine body_ret1 rfl ?_
      simp only [wS, simprocAttr, Fn.cells, Fn.row, MX.row, e1]
    ·
      refine ⟨5, f2, wf2, .inr (.inr ⟨rfl, rfl⟩), cc_of_body hok Tryd.func83 rfl (by kernel_rfl) (by simp [Tryd.ntmps83]) rfl rfl fun at0 left => ?_⟩
      have e1 : IntKind.i64.wrap (((f2.q + 1 : Nat) : Int) - 1) = (f2.q : Int) := by
        have := wf2.2.2.1
        rw [wrap_id (by omega) (by omega)]; omega
      simp only [Tryd.ntmps83, enterF, Nat.reduceAdd, MX.row, Fn.row, Fn.cells]
      have g1 : f2.q ≤ f2.q + 1 := Nat.le_succ _
      have g2 : (f2.q == f2.q + 1) = false := by simp
      repeat' (first | refine u'1 fun _ _ => ?_ | refine u'2 ?_ | (first | refine u'3 ?_ | refine u'4 ?_ | refine u'5 fun _ _ _ _ => ?_ | (refine u'6 (fun hg => ?_) (fun hg => ?_) <;> try simp only [hg])) <;> simp only [wS, simprocAttr, e1, g1, g2, Fn.cells, Fn.row, or_true, Bool.and_false, Nat.zero_mul, Bool.or_self] | (refine u'7 ?_; try simp only [wE, simprocAttr]) | refine u'8 ?_ | refine u'9 ?_)
      refine body_ret1 rfl ?_
      simp only [wS, simprocAttr, Fn.cells, Fn.row, MX.row, e1]
end Go.Proofs.YtpdibmopbpcfdaaDoor
