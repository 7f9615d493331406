import Derived.Test.YtpdibmopbpcfdaaDoorM4
set_option linter.unusedVariables false
set_option linter.unusedSimpArgs false
namespace Go.Proofs.YtpdibmopbpcfdaaDoor
open Go.AM
theorem flat_at {ks : List (List AV)} (h : ∀ e ∈ ks, e.length = 4) : ∀ {j : Nat} {e : List AV}, ks[j]? = some e → ks.flatten.drop (j * 4) = e ++ ks.flatten.drop ((j + 1) * 4) := by
  induction ks with
  | nil => intro j e he; simp at he
  | cons a ks ih =>
    intro j e he
    have ha : a.length = 4 := h a (by simp)
    cases j with
    | zero =>
      simp only [List.getElem?_cons_zero, Option.some.injEq] at he
      subst he
      simp only [List.flatten_cons, Nat.zero_mul, List.drop_zero, Nat.zero_add, Nat.one_mul]
      rw [List.drop_left' ha]
    | succ j =>
      simp only [List.getElem?_cons_succ] at he
      have := ih (fun e he => h e (by simp [he])) he
      simp only [List.flatten_cons]
      rw [show (j + 1) * 4 = a.length + j * 4 by omega, show (j + 1 + 1) * 4 = a.length + (j + 1) * 4 by omega, List.drop_append, List.drop_append, @List.drop_eq_nil_of_le _ a _ (by omega), @List.drop_eq_nil_of_le _ a _ (by omega), Nat.add_sub_cancel_left, Nat.add_sub_cancel_left, List.nil_append, List.nil_append]
      exact this
theorem fn_at {f : Fn} (hf : f.wf) {j : Nat} (hj : j < f.q + 1) : ∃ k n m b es tl, f.ks[j]? = some [.int .i64 k, .int .i64 n, .int .i64 m, .sl b es] ∧ es.length ≤ 6 ∧ (∀ e ∈ es, NodeV 12 e) ∧ f.ks.flatten.drop (j * 4) = .int .i64 k :: .int .i64 n :: .int .i64 m :: .sl b es :: tl := by
  obtain ⟨e, he⟩ : ∃ e, f.ks[j]? = some e := ⟨_, List.getElem?_eq_getElem (by rw [hf.1]; exact hj)⟩
  have h := hf.2.2.2 e (List.mem_of_getElem? he)
  have := flat_at (fun e he => (hf.2.2.2 e he).len) he
  cases h with
  | @mk _ _ h' k n m b es hl hn => exact ⟨k, n, m, b, es, _, he, hl, fun e he => (hn e he).up (Nat.le_of_lt h'), by simpa using this⟩
theorem mod_nat {a : Int} {q : Nat} (ha : 0 ≤ a) (hq : 0 < q) : ∃ j : Nat, a.tmod q = (j : Int) ∧ j < q := by
  obtain ⟨n, rfl⟩ : ∃ n : Nat, a = n := ⟨a.toNat, (Int.toNat_of_nonneg ha).symm⟩
  exact ⟨n % q, by rw [Int.tmod_eq_emod_of_nonneg (by omega)]; simp, Nat.mod_lt _ hq⟩
theorem wrap_small {z : Int} (h1 : -9223372036854775808 ≤ z) (h2 : z ≤ 9223372036854775807) : IntKind.i64.wrap z = z := wrap_id h1 h2
theorem pick_2 {x : MX} (hx : x.ok) (kind : Int) {f : Fn} (hw : f.wf) (hA : x.A2 = f.row) (hv : ∀ rows at0 left, MR x rows at0 left → CallC Tryd.prog G0 83 [.agg [.int .i64 x.pk, .int .i64 x.pn, .int .i64 x.pm, x.kv], .int .i64 x.F] rows [1, 2, 3, 4, 5] ⟨.osl 2 f.v 0 f.q 4 false, []⟩) : MC x 75 [.int .i64 kind] (VI (-1) f.q) := by
  refine mc_of_body hx Tryd.func75 rfl (by kernel_rfl) (by simp [Tryd.ntmps75]) rfl fun at0 left => ?_
  simp only [Tryd.ntmps75, enterF, Nat.reduceAdd, MX.row]
  repeat' (first | refine v'1 fun _ _ => ?_ | refine v'2 ?_ | (first | refine v'3 ?_ | refine v'4 ?_ | refine v'5 fun _ _ _ _ => ?_ | (refine v'6 (fun hg => ?_) (fun hg => ?_) <;> try simp only [hg])) <;> simp only [wS, simprocAttr] | (refine v'7 ?_; try simp only [wE, simprocAttr]) | refine v'8 ?_ | refine v'9 ?_)
  refine eg_call ⟨_, rfl, hv _ at0 left ⟨by simp only [wS, simprocAttr]; exact rfl, by simp only [wS, simprocAttr], by simp only [wS, simprocAttr], by simp only [wS, simprocAttr], by simp only [wS, simprocAttr]⟩⟩ ?_
  rintro eff rfl
  simp only [wS, simprocAttr]
  repeat' (first | refine v'1 fun _ _ => ?_ | refine v'2 ?_ | (first | refine v'3 ?_ | refine v'4 ?_ | refine v'5 fun _ _ _ _ => ?_ | (refine v'6 (fun hg => ?_) (fun hg => ?_) <;> try simp only [hg])) <;> simp only [wS, simprocAttr] | (refine v'7 ?_; try simp only [wE, simprocAttr]) | refine v'8 ?_ | refine v'9 ?_)
  refine eg_mc (draw_ok hx 6 (by decide)) at0 left ⟨by simp only [wS, simprocAttr]; exact rfl, by simp only [wS, simprocAttr], by simp only [wS, simprocAttr], by simp only [wS, simprocAttr], by simp only [wS, simprocAttr]⟩ ?_
  rintro v at1 left1 ⟨fr, rfl, hf1, hf2⟩ -
  simp only [wS, simprocAttr, MX.row]
  repeat' (first | refine v'1 fun _ _ => ?_ | refine v'2 ?_ | (first | refine v'3 ?_ | refine v'4 ?_ | refine v'5 fun _ _ _ _ => ?_ | (refine v'6 (fun hg => ?_) (fun hg => ?_) <;> try simp only [hg])) <;> simp only [wS, simprocAttr] | (refine v'7 ?_; try simp only [wE, simprocAttr]) | refine v'8 ?_ | refine v'9 ?_)
  refine eg_loop_k (α := {k : Nat // k ≤ f.q}) (fun k => [(0, .ptr 1 0 0), (1, .int .i64 kind), (5, .osl 2 f.v 0 f.q 4 false), (6, .int .i64 fr), (7, .int .i64 k.1)]) (fun _ => [.dead, x.row at1 left1, x.A2, x.A3, x.A4, x.A5]) (fun k => f.q - k.1) ⟨0, Nat.zero_le _⟩ (Weak.ref ⟨?_, .inl ?_⟩) ?_
  · simp only [wS, simprocAttr]; try exact rfl
  · simp only [wS, simprocAttr]; try exact rfl
  · rintro ⟨k, hk⟩ K2 hK2
    have hq := hw.2.2.1
    repeat' (first | refine v'1 fun _ _ => ?_ | refine v'2 ?_ | (first | refine v'3 ?_ | refine v'4 ?_ | refine v'5 fun _ _ _ _ => ?_ | (refine v'6 (fun hg => ?_) (fun hg => ?_) <;> try simp only [hg])) <;> simp only [wS, simprocAttr, MX.row, hA, Fn.row] | (refine v'7 ?_; try simp only [wE, simprocAttr]) | refine v'8 ?_ | refine v'9 ?_)
    refine eg_split (fun h => ?_) (fun h => ?_)
    · have hlt : k < f.q := by simpa using h
      have hq0 : ((f.q : Nat) : Int) ≠ 0 := by omega
      have e1 : IntKind.i64.wrap (fr + (k : Int)) = fr + k := wrap_small (by omega) (by omega)
      obtain ⟨j, e2, hj⟩ := mod_nat (a := fr + (k : Int)) (q := f.q) (by omega) (by omega)
      obtain ⟨kd, nn, mm, b, es, tl, _, _, _, hd⟩ := fn_at hw (j := j) (by omega)
      have e3 := wrap_succ (k := k) hlt (by omega)
      repeat' (first | refine v'1 fun _ _ => ?_ | refine v'2 ?_ | (first | refine v'3 ?_ | refine v'4 ?_ | refine v'5 fun _ _ _ _ => ?_ | (refine v'6 (fun hg => ?_) (fun hg => ?_) <;> try simp only [hg])) <;> simp only [wS, simprocAttr, MX.row, e1, e2, hq0, hj, hA, Fn.row, hd] | (refine v'7 ?_; try simp only [wE, simprocAttr]) | refine v'8 ?_ | refine v'9 ?_)
      refine eg_split (fun h2 => ?_) (fun h2 => ?_)
      · repeat' (first | refine v'1 fun _ _ => ?_ | refine v'2 ?_ | (first | refine v'3 ?_ | refine v'4 ?_ | refine v'5 fun _ _ _ _ => ?_ | (refine v'6 (fun hg => ?_) (fun hg => ?_) <;> try simp only [hg])) <;> simp only [wS, simprocAttr] | (refine v'7 ?_; try simp only [wE, simprocAttr]) | refine v'8 ?_ | refine v'9 ?_)
        refine eg_ret1 rfl ?_
        refine EG.of (?v_0, ?a_0, ?l_0) ⟨?hV_0, ?hi_0⟩ ⟨?hv_0, ?g1_0, ?g2_0, ?g3_0, ?g4_0, ?g5_0⟩
        case hv_0 => simp only [wS, simprocAttr]; exact rfl
        case g1_0 => simp only [wS, simprocAttr]; exact rfl
        case g2_0 => simp only [wS, simprocAttr]; try exact hA.symm
        case g3_0 => simp only [wS, simprocAttr]; try exact hA.symm
        case g4_0 => simp only [wS, simprocAttr]; try exact hA.symm
        case g5_0 => simp only [wS, simprocAttr]; try exact hA.symm
        case hV_0 => exact ⟨_, rfl, by omega, by omega⟩
        case hi_0 => exact rfl
      · repeat' (first | refine v'1 fun _ _ => ?_ | refine v'2 ?_ | (first | refine v'3 ?_ | refine v'4 ?_ | refine v'5 fun _ _ _ _ => ?_ | (refine v'6 (fun hg => ?_) (fun hg => ?_) <;> try simp only [hg])) <;> simp only [wS, simprocAttr, e3] | (refine v'7 ?_; try simp only [wE, simprocAttr]) | refine v'8 ?_ | refine v'9 ?_)
        refine hK2 _ ⟨k + 1, hlt⟩ (Weak.ref ⟨?_, .inl ?_⟩) (by simp only; omega)
        · simp only [wS, simprocAttr]; try exact rfl
        · simp only [wS, simprocAttr, hA, Fn.row]; try exact rfl
    · repeat' (first | refine v'1 fun _ _ => ?_ | refine v'2 ?_ | (first | refine v'3 ?_ | refine v'4 ?_ | refine v'5 fun _ _ _ _ => ?_ | (refine v'6 (fun hg => ?_) (fun hg => ?_) <;> try simp only [hg])) <;> simp only [wS, simprocAttr] | (refine v'7 ?_; try simp only [wE, simprocAttr]) | refine v'8 ?_ | refine v'9 ?_)
      refine eg_ret1 rfl ?_
      refine EG.of (?v_1, ?a_1, ?l_1) ⟨?hV_1, ?hi_1⟩ ⟨?hv_1, ?g1_1, ?g2_1, ?g3_1, ?g4_1, ?g5_1⟩
      case hv_1 => simp only [wS, simprocAttr]; exact rfl
      case g1_1 => simp only [wS, simprocAttr]; exact rfl
      case g2_1 => simp only [wS, simprocAttr]; try exact hA.symm
      case g3_1 => simp only [wS, simprocAttr]; try exact hA.symm
      case g4_1 => simp only [wS, simprocAttr]; try exact hA.symm
      case g5_1 => simp only [wS, simprocAttr]; try exact hA.symm
      case hV_1 => exact ⟨_, rfl, by omega, by omega⟩
      case hi_1 => exact rfl
theorem pick_4 {x : MX} (hx : x.ok) (kind : Int) {f : Fn} (hw : f.wf) (hA : x.A4 = f.row) (hv : ∀ rows at0 left, MR x rows at0 left → CallC Tryd.prog G0 83 [.agg [.int .i64 x.pk, .int .i64 x.pn, .int .i64 x.pm, x.kv], .int .i64 x.F] rows [1, 2, 3, 4, 5] ⟨.osl 4 f.v 0 f.q 4 false, []⟩) : MC x 75 [.int .i64 kind] (VI (-1) f.q) := by
  refine mc_of_body hx Tryd.func75 rfl (by kernel_rfl) (by simp [Tryd.ntmps75]) rfl fun at0 left => ?_
  simp only [Tryd.ntmps75, enterF, Nat.reduceAdd, MX.row]
  repeat' (first | refine v'1 fun _ _ => ?_ | refine v'2 ?_ | (first | refine v'3 ?_ | refine v'4 ?_ | refine v'5 fun _ _ _ _ => ?_ | (refine v'6 (fun hg => ?_) (fun hg => ?_) <;> try simp only [hg])) <;> simp only [wS, simprocAttr] | (refine v'7 ?_; try simp only [wE, simprocAttr]) | refine v'8 ?_ | refine v'9 ?_)
  refine eg_call ⟨_, rfl, hv _ at0 left ⟨by simp only [wS, simprocAttr]; exact rfl, by simp only [wS, simprocAttr], by simp only [wS, simprocAttr], by simp only [wS, simprocAttr], by simp only [wS, simprocAttr]⟩⟩ ?_
  rintro eff rfl
  simp only [wS, simprocAttr]
  repeat' (first | refine v'1 fun _ _ => ?_ | refine v'2 ?_ | (first | refine v'3 ?_ | refine v'4 ?_ | refine v'5 fun _ _ _ _ => ?_ | (refine v'6 (fun hg => ?_) (fun hg => ?_) <;> try simp only [hg])) <;> simp only [wS, simprocAttr] | (refine v'7 ?_; try simp only [wE, simprocAttr]) | refine v'8 ?_ | refine v'9 ?_)
  refine eg_mc (draw_ok hx 6 (by decide)) at0 left ⟨by simp only [wS, simprocAttr]; exact rfl, by simp only [wS, simprocAttr], by simp only [wS, simprocAttr], by simp only [wS, simprocAttr], by simp only [wS, simprocAttr]⟩ ?_
  rintro v at1 left1 ⟨fr, rfl, hf1, hf2⟩ -
  simp only [wS, simprocAttr, MX.row]
  repeat' (first | refine v'1 fun _ _ => ?_ | refine v'2 ?_ | (first | refine v'3 ?_ | refine v'4 ?_ | refine v'5 fun _ _ _ _ => ?_ | (refine v'6 (fun hg => ?_) (fun hg => ?_) <;> try simp only [hg])) <;> simp only [wS, simprocAttr] | (refine v'7 ?_; try simp only [wE, simprocAttr]) | refine v'8 ?_ | refine v'9 ?_)
  refine eg_loop_k (α := {k : Nat // k ≤ f.q}) (fun k => [(0, .ptr 1 0 0), (1, .int .i64 kind), (5, .osl 4 f.v 0 f.q 4 false), (6, .int .i64 fr), (7, .int .i64 k.1)]) (fun _ => [.dead, x.row at1 left1, x.A2, x.A3, x.A4, x.A5]) (fun k => f.q - k.1) ⟨0, Nat.zero_le _⟩ (Weak.ref ⟨?_, .inl ?_⟩) ?_
  · simp only [wS, simprocAttr]; try exact rfl
  · simp only [wS, simprocAttr]; try exact rfl
  · rintro ⟨k, hk⟩ K2 hK2
    have hq := hw.2.2.1
    repeat' (first | refine v'1 fun _ _ => ?_ | refine v'2 ?_ | (first | refine v'3 ?_ | refine v'4 ?_ | refine v'5 fun _ _ _ _ => ?_ | (refine v'6 (fun hg => ?_) (fun hg => ?_) <;> try simp only [hg])) <;> simp only [wS, simprocAttr, MX.row, hA, Fn.row] | (refine v'7 ?_; try simp only [wE, simprocAttr]) | refine v'8 ?_ | refine v'9 ?_)
    refine eg_split (fun h => ?_) (fun h => ?_)
    · have hlt : k < f.q := by simpa using h
      have hq0 : ((f.q : Nat) : Int) ≠ 0 := by omega
      have e1 : IntKind.i64.wrap (fr + (k : Int)) = fr + k := wrap_small (by omega) (by omega)
      obtain ⟨j, e2, hj⟩ := mod_nat (a := fr + (k : Int)) (q := f.q) (by omega) (by omega)
      obtain ⟨kd, nn, mm, b, es, tl, _, _, _, hd⟩ := fn_at hw (j := j) (by omega)
      have e3 := wrap_succ (k := k) hlt (by omega)
      repeat' (first | refine v'1 fun _ _ => ?_ | refine v'2 ?_ | (first | refine v'3 ?_ | refine v'4 ?_ | refine v'5 fun _ _ _ _ => ?_ | (refine v'6 (fun hg => ?_) (fun hg => ?_) <;> try simp only [hg])) <;> simp only [wS, simprocAttr, MX.row, e1, e2, hq0, hj, hA, Fn.row, hd] | (refine v'7 ?_; try simp only [wE, simprocAttr]) | refine v'8 ?_ | refine v'9 ?_)
      refine eg_split (fun h2 => ?_) (fun h2 => ?_)
      · repeat' (first | refine v'1 fun _ _ => ?_ | refine v'2 ?_ | (first | refine v'3 ?_ | refine v'4 ?_ | refine v'5 fun _ _ _ _ => ?_ | (refine v'6 (fun hg => ?_) (fun hg => ?_) <;> try simp only [hg])) <;> simp only [wS, simprocAttr] | (refine v'7 ?_; try simp only [wE, simprocAttr]) | refine v'8 ?_ | refine v'9 ?_)
        refine eg_ret1 rfl ?_
        refine EG.of (?v_2, ?a_2, ?l_2) ⟨?hV_2, ?hi_2⟩ ⟨?hv_2, ?g1_2, ?g2_2, ?g3_2, ?g4_2, ?g5_2⟩
        case hv_2 => simp only [wS, simprocAttr]; exact rfl
        case g1_2 => simp only [wS, simprocAttr]; exact rfl
        case g2_2 => simp only [wS, simprocAttr]; try exact hA.symm
        case g3_2 => simp only [wS, simprocAttr]; try exact hA.symm
        case g4_2 => simp only [wS, simprocAttr]; try exact hA.symm
        case g5_2 => simp only [wS, simprocAttr]; try exact hA.symm
        case hV_2 => exact ⟨_, rfl, by omega, by omega⟩
        case hi_2 => exact rfl
      · repeat' (first | refine v'1 fun _ _ => ?_ | refine v'2 ?_ | (first | refine v'3 ?_ | refine v'4 ?_ | refine v'5 fun _ _ _ _ => ?_ | (refine v'6 (fun hg => ?_) (fun hg => ?_) <;> try simp only [hg])) <;> simp only [wS, simprocAttr, e3] | (refine v'7 ?_; try simp only [wE, simprocAttr]) | refine v'8 ?_ | refine v'9 ?_)
        refine hK2 _ ⟨k + 1, hlt⟩ (Weak.ref ⟨?_, .inl ?_⟩) (by simp only; omega)
        · simp only [wS, simprocAttr]; try exact rfl
        · simp only [wS, simprocAttr, hA, Fn.row]; try exact rfl
    · repeat' (first | refine v'1 fun _ _ => ?_ | refine v'2 ?_ | (first | refine v'3 ?_ | refine v'4 ?_ | refine v'5 fun _ _ _ _ => ?_ | (refine v'6 (fun hg => ?_) (fun hg => ?_) <;> try simp only [hg])) <;> simp only [wS, simprocAttr] | (refine v'7 ?_; try simp only [wE, simprocAttr]) | refine v'8 ?_ | refine v'9 ?_)
      refine eg_ret1 rfl ?_
      refine EG.of (?v_3, ?a_3, ?l_3) ⟨?hV_3, ?hi_3⟩ ⟨?hv_3, ?g1_3, ?g2_3, ?g3_3, ?g4_3, ?g5_3⟩
      case hv_3 => simp only [wS, simprocAttr]; exact rfl
      case g1_3 => simp only [wS, simprocAttr]; exact rfl
      case g2_3 => simp only [wS, simprocAttr]; try exact hA.symm
      case g3_3 => simp only [wS, simprocAttr]; try exact hA.symm
      case g4_3 => simp only [wS, simprocAttr]; try exact hA.symm
      case g5_3 => simp only [wS, simprocAttr]; try exact hA.symm
      case hV_3 => exact ⟨_, rfl, by omega, by omega⟩
      case hi_3 => exact rfl
theorem pick_5 {x : MX} (hx : x.ok) (kind : Int) {f : Fn} (hw : f.wf) (hA : x.A5 = f.row) (hv : ∀ rows at0 left, MR x rows at0 left → CallC Tryd.prog G0 83 [.agg [.int .i64 x.pk, .int .i64 x.pn, .int .i64 x.pm, x.kv], .int .i64 x.F] rows [1, 2, 3, 4, 5] ⟨.osl 5 f.v 0 f.q 4 false, []⟩) : MC x 75 [.int .i64 kind] (VI (-1) f.q) := by
  refine mc_of_body hx Tryd.func75 rfl (by kernel_rfl) (by simp [Tryd.ntmps75]) rfl fun at0 left => ?_
  simp only [Tryd.ntmps75, enterF, Nat.reduceAdd, MX.row]
  repeat' (first | refine v'1 fun _ _ => ?_ | refine v'2 ?_ | (first | refine v'3 ?_ | refine v'4 ?_ | refine v'5 fun _ _ _ _ => ?_ | (refine v'6 (fun hg => ?_) (fun hg => ?_) <;> try simp only [hg])) <;> simp only [wS, simprocAttr] | (refine v'7 ?_; try simp only [wE, simprocAttr]) | refine v'8 ?_ | refine v'9 ?_)
  refine eg_call ⟨_, rfl, hv _ at0 left ⟨by simp only [wS, simprocAttr]; exact rfl, by simp only [wS, simprocAttr], by simp only [wS, simprocAttr], by simp only [wS, simprocAttr], by simp only [wS, simprocAttr]⟩⟩ ?_
  rintro eff rfl
  simp only [wS, simprocAttr]
  repeat' (first | refine v'1 fun _ _ => ?_ | refine v'2 ?_ | (first | refine v'3 ?_ | refine v'4 ?_ | refine v'5 fun _ _ _ _ => ?_ | (refine v'6 (fun hg => ?_) (fun hg => ?_) <;> try simp only [hg])) <;> simp only [wS, simprocAttr] | (refine v'7 ?_; try simp only [wE, simprocAttr]) | refine v'8 ?_ | refine v'9 ?_)
  refine eg_mc (draw_ok hx 6 (by decide)) at0 left ⟨by simp only [wS, simprocAttr]; exact rfl, by simp only [wS, simprocAttr], by simp only [wS, simprocAttr], by simp only [wS, simprocAttr], by simp only [wS, simprocAttr]⟩ ?_
  rintro v at1 left1 ⟨fr, rfl, hf1, hf2⟩ -
  simp only [wS, simprocAttr, MX.row]
  repeat' (first | refine v'1 fun _ _ => ?_ | refine v'2 ?_ | (first | refine v'3 ?_ | refine v'4 ?_ | refine v'5 fun _ _ _ _ => ?_ | (refine v'6 (fun hg => ?_) (fun hg => ?_) <;> try simp only [hg])) <;> simp only [wS, simprocAttr] | (refine v'7 ?_; try simp only [wE, simprocAttr]) | refine v'8 ?_ | refine v'9 ?_)
  refine eg_loop_k (α := {k : Nat // k ≤ f.q}) (fun k => [(0, .ptr 1 0 0), (1, .int .i64 kind), (5, .osl 5 f.v 0 f.q 4 false), (6, .int .i64 fr), (7, .int .i64 k.1)]) (fun _ => [.dead, x.row at1 left1, x.A2, x.A3, x.A4, x.A5]) (fun k => f.q - k.1) ⟨0, Nat.zero_le _⟩ (Weak.ref ⟨?_, .inl ?_⟩) ?_
  · simp only [wS, simprocAttr]; try exact rfl
  · simp only [wS, simprocAttr]; try exact rfl
  · rintro ⟨k, hk⟩ K2 hK2
    have hq := hw.2.2.1
    repeat' (first | refine v'1 fun _ _ => ?_ | refine v'2 ?_ | (first | refine v'3 ?_ | refine v'4 ?_ | refine v'5 fun _ _ _ _ => ?_ | (refine v'6 (fun hg => ?_) (fun hg => ?_) <;> try simp only [hg])) <;> simp only [wS, simprocAttr, MX.row, hA, Fn.row] | (refine v'7 ?_; try simp only [wE, simprocAttr]) | refine v'8 ?_ | refine v'9 ?_)
    refine eg_split (fun h => ?_) (fun h => ?_)
    · have hlt : k < f.q := by simpa using h
      have hq0 : ((f.q : Nat) : Int) ≠ 0 := by omega
      have e1 : IntKind.i64.wrap (fr + (k : Int)) = fr + k := wrap_small (by omega) (by omega)
      obtain ⟨j, e2, hj⟩ := mod_nat (a := fr + (k : Int)) (q := f.q) (by omega) (by omega)
      obtain ⟨kd, nn, mm, b, es, tl, _, _, _, hd⟩ := fn_at hw (j := j) (by omega)
      have e3 := wrap_succ (k := k) hlt (by omega)
      repeat' (first | refine v'1 fun _ _ => ?_ | refine v'2 ?_ | (first | refine v'3 ?_ | refine v'4 ?_ | refine v'5 fun _ _ _ _ => ?_ | (refine v'6 (fun hg => ?_) (fun hg => ?_) <;> try simp only [hg])) <;> simp only [wS, simprocAttr, MX.row, e1, e2, hq0, hj, hA, Fn.row, hd] | (refine v'7 ?_; try simp only [wE, simprocAttr]) | refine v'8 ?_ | refine v'9 ?_)
      refine eg_split (fun h2 => ?_) (fun h2 => ?_)
      · repeat' (first | refine v'1 fun _ _ => ?_ | refine v'2 ?_ | (first | refine v'3 ?_ | refine v'4 ?_ | refine v'5 fun _ _ _ _ => ?_ | (refine v'6 (fun hg => ?_) (fun hg => ?_) <;> try simp only [hg])) <;> simp only [wS, simprocAttr] | (refine v'7 ?_; try simp only [wE, simprocAttr]) | refine v'8 ?_ | refine v'9 ?_)
        refine eg_ret1 rfl ?_
        refine EG.of (?v_4, ?a_4, ?l_4) ⟨?hV_4, ?hi_4⟩ ⟨?hv_4, ?g1_4, ?g2_4, ?g3_4, ?g4_4, ?g5_4⟩
        case hv_4 => simp only [wS, simprocAttr]; exact rfl
        case g1_4 => simp only [wS, simprocAttr]; exact rfl
        case g2_4 => simp only [wS, simprocAttr]; try exact hA.symm
        case g3_4 => simp only [wS, simprocAttr]; try exact hA.symm
        case g4_4 => simp only [wS, simprocAttr]; try exact hA.symm
        case g5_4 => simp only [wS, simprocAttr]; try exact hA.symm
        case hV_4 => exact ⟨_, rfl, by omega, by omega⟩
        case hi_4 => exact rfl
      · repeat' (first | refine v'1 fun _ _ => ?_ | refine v'2 ?_ | (first | refine v'3 ?_ | refine v'4 ?_ | refine v'5 fun _ _ _ _ => ?_ | (refine v'6 (fun hg => ?_) (fun hg => ?_) <;> try simp only [hg])) <;> simp only [wS, simprocAttr, e3] | (refine v'7 ?_; try simp only [wE, simprocAttr]) | refine v'8 ?_ | refine v'9 ?_)
        refine hK2 _ ⟨k + 1, hlt⟩ (Weak.ref ⟨?_, .inl ?_⟩) (by simp only; omega)
        · simp only [wS, simprocAttr]; try exact rfl
        · simp only [wS, simprocAttr, hA, Fn.row]; try exact rfl
    · repeat' (first | refine v'1 fun _ _ => ?_ | refine v'2 ?_ | (first | refine v'3 ?_ | refine v'4 ?_ | refine v'5 fun _ _ _ _ => ?_ | (refine v'6 (fun hg => ?_) (fun hg => ?_) <;> try simp only [hg])) <;> simp only [wS, simprocAttr] | (refine v'7 ?_; try simp only [wE, simprocAttr]) | refine v'8 ?_ | refine v'9 ?_)
      refine eg_ret1 rfl ?_
      refine EG.of (?v_5, ?a_5, ?l_5) ⟨?hV_5, ?hi_5⟩ ⟨?hv_5, ?g1_5, ?g2_5, ?g3_5, ?g4_5, ?g5_5⟩
      case hv_5 => simp only [wS, simprocAttr]; exact rfl
      case g1_5 => simp only [wS, simprocAttr]; exact rfl
      case g2_5 => simp only [wS, simprocAttr]; try exact hA.symm
      case g3_5 => simp only [wS, simprocAttr]; try exact hA.symm
      case g4_5 => simp only [wS, simprocAttr]; try exact hA.symm
      case g5_5 => simp only [wS, simprocAttr]; try exact hA.symm
      case hV_5 => exact ⟨_, rfl, by omega, by omega⟩
      case hi_5 => exact rfl
theorem pick_ok {x : MX} (hx : x.ok) (kind : Int) {r : Nat} {f : Fn} (h : VarsAt x r f) : MC x 75 [.int .i64 kind] (VI (-1) f.q) := by
  obtain ⟨hw, ha, hv⟩ := h
  rcases ha with ⟨rfl, ha⟩ | ⟨rfl, ha⟩ | ⟨rfl, ha⟩
  · exact pick_2 hx kind hw ha hv
  · exact pick_4 hx kind hw ha hv
  · exact pick_5 hx kind hw ha hv
end Go.Proofs.YtpdibmopbpcfdaaDoor
