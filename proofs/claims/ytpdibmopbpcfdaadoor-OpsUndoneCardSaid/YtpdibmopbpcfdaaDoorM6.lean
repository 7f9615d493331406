import Derived.Test.YtpdibmopbpcfdaaDoorM5
set_option linter.unusedVariables false
set_option linter.unusedSimpArgs false
namespace Go.Proofs.YtpdibmopbpcfdaaDoor
open Go.AM
def VF (v : AV) : Prop := ∃ a b, v = .tup [.int .i64 a, .int .i64 b]
theorem field_2 {x : MX} (hx : x.ok) (kind : Int) {f : Fn} (hva : VarsAt x 2 f) (hA : x.A2 = f.row) : MC x 76 [.int .i64 kind] VF := by
  have hw := hva.1
  have hv : ∀ rows at0 left, MR x rows at0 left → CallC Tryd.prog G0 83 [.agg [.int .i64 x.pk, .int .i64 x.pn, .int .i64 x.pm, x.kv], .int .i64 x.F] rows [1, 2, 3, 4, 5] ⟨.osl 2 f.v 0 f.q 4 false, []⟩ := hva.2.2
  refine mc_of_body hx Tryd.func76 rfl (by kernel_rfl) (by simp [Tryd.ntmps76]) rfl fun at0 left => ?_
  simp only [Tryd.ntmps76, enterF, Nat.reduceAdd, MX.row]
  repeat' (first | refine v'1 fun _ _ => ?_ | refine v'2 ?_ | (first | refine v'3 ?_ | refine v'4 ?_ | refine v'5 fun _ _ _ _ => ?_ | (refine v'6 (fun hg => ?_) (fun hg => ?_) <;> try simp only [hg])) <;> simp only [wS, simprocAttr] | (refine v'7 ?_; try simp only [wE, simprocAttr]) | refine v'8 ?_ | refine v'9 ?_)
  refine eg_mc (pick_ok hx 3 hva) at0 left ⟨by simp only [wS, simprocAttr]; exact rfl, by simp only [wS, simprocAttr], by simp only [wS, simprocAttr], by simp only [wS, simprocAttr], by simp only [wS, simprocAttr]⟩ ?_
  rintro v at1 left1 ⟨z, rfl, hz1, hz2⟩ -
  simp only [wS, simprocAttr, MX.row]
  repeat' (first | refine v'1 fun _ _ => ?_ | refine v'2 ?_ | (first | refine v'3 ?_ | refine v'4 ?_ | refine v'5 fun _ _ _ _ => ?_ | (refine v'6 (fun hg => ?_) (fun hg => ?_) <;> try simp only [hg])) <;> simp only [wS, simprocAttr] | (refine v'7 ?_; try simp only [wE, simprocAttr]) | refine v'8 ?_ | refine v'9 ?_)
  refine eg_split (fun h => ?_) (fun h => ?_)
  · repeat' (first | refine v'1 fun _ _ => ?_ | refine v'2 ?_ | (first | refine v'3 ?_ | refine v'4 ?_ | refine v'5 fun _ _ _ _ => ?_ | (refine v'6 (fun hg => ?_) (fun hg => ?_) <;> try simp only [hg])) <;> simp only [wS, simprocAttr] | (refine v'7 ?_; try simp only [wE, simprocAttr]) | refine v'8 ?_ | refine v'9 ?_)
    refine eg_ret2 rfl ?_
    refine EG.of (?v_0, ?a_0, ?l_0) ⟨?hV_0, ?hi_0⟩ ⟨?hv_0, ?g1_0, ?g2_0, ?g3_0, ?g4_0, ?g5_0⟩
    case hv_0 => simp only [wS, simprocAttr]; exact rfl
    case g1_0 => simp only [wS, simprocAttr]; exact rfl
    case g2_0 => simp only [wS, simprocAttr]; try exact hA.symm
    case g3_0 => simp only [wS, simprocAttr]; try exact hA.symm
    case g4_0 => simp only [wS, simprocAttr]; try exact hA.symm
    case g5_0 => simp only [wS, simprocAttr]; try exact hA.symm
    case hV_0 => exact ⟨_, _, rfl⟩
    case hi_0 => exact rfl
  · have hz : 0 ≤ z := by simpa using h
    obtain ⟨j, rfl⟩ : ∃ j : Nat, z = j := ⟨z.toNat, (Int.toNat_of_nonneg hz).symm⟩
    have hj : j < f.q := by omega
    obtain ⟨kd, nn, mm, b, es, tl, _, hes1, hes2, hd⟩ := fn_at hw (j := j) (by omega)
    have hd3 : f.ks.flatten.drop (j * 4 + 3) = .sl b es :: tl := by rw [← List.drop_drop, hd]; rfl
    repeat' (first | refine v'1 fun _ _ => ?_ | refine v'2 ?_ | (first | refine v'3 ?_ | refine v'4 ?_ | refine v'5 fun _ _ _ _ => ?_ | (refine v'6 (fun hg => ?_) (fun hg => ?_) <;> try simp only [hg])) <;> simp only [wS, simprocAttr] | (refine v'7 ?_; try simp only [wE, simprocAttr]) | refine v'8 ?_ | refine v'9 ?_)
    refine eg_call (R' := fun eff => eff = ⟨.osl 2 f.v 0 f.q 4 false, []⟩) ⟨_, rfl, hv _ at1 left1 ⟨?_, ?_, ?_, ?_, ?_⟩⟩ ?_
    · simp only [wS, simprocAttr]; try exact rfl
    · simp only [wS, simprocAttr]
    · simp only [wS, simprocAttr]
    · simp only [wS, simprocAttr]
    · simp only [wS, simprocAttr]
    rintro eff rfl
    simp only [wS, simprocAttr, hj, hA, Fn.row, hd, hd3]
    repeat' (first | refine v'1 fun _ _ => ?_ | refine v'2 ?_ | (first | refine v'3 ?_ | refine v'4 ?_ | refine v'5 fun _ _ _ _ => ?_ | (refine v'6 (fun hg => ?_) (fun hg => ?_) <;> try simp only [hg])) <;> simp only [wS, simprocAttr, hj, hA, Fn.row, hd, hd3] | (refine v'7 ?_; try simp only [wE, simprocAttr]) | refine v'8 ?_ | refine v'9 ?_)
    refine eg_mc (draw_ok hx 3 (by decide)) at1 left1 ⟨by simp only [wS, simprocAttr]; exact rfl, by simp only [wS, simprocAttr]; try exact hA.symm, by simp only [wS, simprocAttr]; try exact hA.symm, by simp only [wS, simprocAttr]; try exact hA.symm, by simp only [wS, simprocAttr]; try exact hA.symm⟩ ?_
    rintro v at2 left2 ⟨fr, rfl, hf1, hf2⟩ -
    simp only [wS, simprocAttr, MX.row]
    repeat' (first | refine v'1 fun _ _ => ?_ | refine v'2 ?_ | (first | refine v'3 ?_ | refine v'4 ?_ | refine v'5 fun _ _ _ _ => ?_ | (refine v'6 (fun hg => ?_) (fun hg => ?_) <;> try simp only [hg])) <;> simp only [wS, simprocAttr] | (refine v'7 ?_; try simp only [wE, simprocAttr]) | refine v'8 ?_ | refine v'9 ?_)
    refine eg_loop_k (α := {k : Nat // k ≤ es.length}) (fun k => [(0, .ptr 1 0 0), (1, .int .i64 kind), (6, .int .i64 j), (7, .sl b es), (8, .int .i64 fr), (9, .int .i64 k.1)]) (fun _ => [.dead, x.row at2 left2, x.A2, x.A3, x.A4, x.A5]) (fun k => es.length - k.1) ⟨0, Nat.zero_le _⟩ (Weak.ref ⟨?_, .inl ?_⟩) ?_
    · simp only [wS, simprocAttr]; try exact rfl
    · simp only [wS, simprocAttr, hA, Fn.row]; try exact rfl
    · rintro ⟨k, hk⟩ K2 hK2
      repeat' (first | refine v'1 fun _ _ => ?_ | refine v'2 ?_ | (first | refine v'3 ?_ | refine v'4 ?_ | refine v'5 fun _ _ _ _ => ?_ | (refine v'6 (fun hg => ?_) (fun hg => ?_) <;> try simp only [hg])) <;> simp only [wS, simprocAttr, MX.row] | (refine v'7 ?_; try simp only [wE, simprocAttr]) | refine v'8 ?_ | refine v'9 ?_)
      refine eg_split (fun h3 => ?_) (fun h3 => ?_)
      · have hlt : k < es.length := by simpa using h3
        have hq0 : ((es.length : Nat) : Int) ≠ 0 := by omega
        have e1 : IntKind.i64.wrap (fr + (k : Int)) = fr + k := wrap_small (by omega) (by omega)
        obtain ⟨i, e2, hi⟩ := mod_nat (a := fr + (k : Int)) (q := es.length) (by omega) (by omega)
        obtain ⟨e, he⟩ : ∃ e, es[i]? = some e := ⟨_, List.getElem?_eq_getElem hi⟩
        have hne := hes2 e (List.mem_of_getElem? he)
        have e3 := wrap_succ (k := k) hlt (by omega)
        cases hne with
        | mk k1 n1 m1 b1 es1 hl1 hn1 =>
        repeat' (first | refine v'1 fun _ _ => ?_ | refine v'2 ?_ | (first | refine v'3 ?_ | refine v'4 ?_ | refine v'5 fun _ _ _ _ => ?_ | (refine v'6 (fun hg => ?_) (fun hg => ?_) <;> try simp only [hg])) <;> simp only [wS, simprocAttr, MX.row, e1, e2, hq0, hi, he] | (refine v'7 ?_; try simp only [wE, simprocAttr]) | refine v'8 ?_ | refine v'9 ?_)
        refine eg_split (fun h4 => ?_) (fun h4 => ?_)
        · repeat' (first | refine v'1 fun _ _ => ?_ | refine v'2 ?_ | (first | refine v'3 ?_ | refine v'4 ?_ | refine v'5 fun _ _ _ _ => ?_ | (refine v'6 (fun hg => ?_) (fun hg => ?_) <;> try simp only [hg])) <;> simp only [wS, simprocAttr] | (refine v'7 ?_; try simp only [wE, simprocAttr]) | refine v'8 ?_ | refine v'9 ?_)
          refine eg_ret2 rfl ?_
          refine EG.of (?v_1, ?a_1, ?l_1) ⟨?hV_1, ?hi_1⟩ ⟨?hv_1, ?g1_1, ?g2_1, ?g3_1, ?g4_1, ?g5_1⟩
          case hv_1 => simp only [wS, simprocAttr]; exact rfl
          case g1_1 => simp only [wS, simprocAttr]; exact rfl
          case g2_1 => simp only [wS, simprocAttr]; try exact hA.symm
          case g3_1 => simp only [wS, simprocAttr]; try exact hA.symm
          case g4_1 => simp only [wS, simprocAttr]; try exact hA.symm
          case g5_1 => simp only [wS, simprocAttr]; try exact hA.symm
          case hV_1 => exact ⟨_, _, rfl⟩
          case hi_1 => exact rfl
        · repeat' (first | refine v'1 fun _ _ => ?_ | refine v'2 ?_ | (first | refine v'3 ?_ | refine v'4 ?_ | refine v'5 fun _ _ _ _ => ?_ | (refine v'6 (fun hg => ?_) (fun hg => ?_) <;> try simp only [hg])) <;> simp only [wS, simprocAttr, e3] | (refine v'7 ?_; try simp only [wE, simprocAttr]) | refine v'8 ?_ | refine v'9 ?_)
          refine hK2 _ ⟨k + 1, hlt⟩ (Weak.ref ⟨?_, .inl ?_⟩) (by simp only; omega)
          · simp only [wS, simprocAttr]; try exact rfl
          · simp only [wS, simprocAttr]; try exact rfl
      · repeat' (first | refine v'1 fun _ _ => ?_ | refine v'2 ?_ | (first | refine v'3 ?_ | refine v'4 ?_ | refine v'5 fun _ _ _ _ => ?_ | (refine v'6 (fun hg => ?_) (fun hg => ?_) <;> try simp only [hg])) <;> simp only [wS, simprocAttr] | (refine v'7 ?_; try simp only [wE, simprocAttr]) | refine v'8 ?_ | refine v'9 ?_)
        refine eg_ret2 rfl ?_
        refine EG.of (?v_2, ?a_2, ?l_2) ⟨?hV_2, ?hi_2⟩ ⟨?hv_2, ?g1_2, ?g2_2, ?g3_2, ?g4_2, ?g5_2⟩
        case hv_2 => simp only [wS, simprocAttr]; exact rfl
        case g1_2 => simp only [wS, simprocAttr]; exact rfl
        case g2_2 => simp only [wS, simprocAttr]; try exact hA.symm
        case g3_2 => simp only [wS, simprocAttr]; try exact hA.symm
        case g4_2 => simp only [wS, simprocAttr]; try exact hA.symm
        case g5_2 => simp only [wS, simprocAttr]; try exact hA.symm
        case hV_2 => exact ⟨_, _, rfl⟩
        case hi_2 => exact rfl
theorem field_4 {x : MX} (hx : x.ok) (kind : Int) {f : Fn} (hva : VarsAt x 4 f) (hA : x.A4 = f.row) : MC x 76 [.int .i64 kind] VF := by
  have hw := hva.1
  have hv : ∀ rows at0 left, MR x rows at0 left → CallC Tryd.prog G0 83 [.agg [.int .i64 x.pk, .int .i64 x.pn, .int .i64 x.pm, x.kv], .int .i64 x.F] rows [1, 2, 3, 4, 5] ⟨.osl 4 f.v 0 f.q 4 false, []⟩ := hva.2.2
  refine mc_of_body hx Tryd.func76 rfl (by kernel_rfl) (by simp [Tryd.ntmps76]) rfl fun at0 left => ?_
  simp only [Tryd.ntmps76, enterF, Nat.reduceAdd, MX.row]
  repeat' (first | refine v'1 fun _ _ => ?_ | refine v'2 ?_ | (first | refine v'3 ?_ | refine v'4 ?_ | refine v'5 fun _ _ _ _ => ?_ | (refine v'6 (fun hg => ?_) (fun hg => ?_) <;> try simp only [hg])) <;> simp only [wS, simprocAttr] | (refine v'7 ?_; try simp only [wE, simprocAttr]) | refine v'8 ?_ | refine v'9 ?_)
  refine eg_mc (pick_ok hx 3 hva) at0 left ⟨by simp only [wS, simprocAttr]; exact rfl, by simp only [wS, simprocAttr], by simp only [wS, simprocAttr], by simp only [wS, simprocAttr], by simp only [wS, simprocAttr]⟩ ?_
  rintro v at1 left1 ⟨z, rfl, hz1, hz2⟩ -
  simp only [wS, simprocAttr, MX.row]
  repeat' (first | refine v'1 fun _ _ => ?_ | refine v'2 ?_ | (first | refine v'3 ?_ | refine v'4 ?_ | refine v'5 fun _ _ _ _ => ?_ | (refine v'6 (fun hg => ?_) (fun hg => ?_) <;> try simp only [hg])) <;> simp only [wS, simprocAttr] | (refine v'7 ?_; try simp only [wE, simprocAttr]) | refine v'8 ?_ | refine v'9 ?_)
  refine eg_split (fun h => ?_) (fun h => ?_)
  · repeat' (first | refine v'1 fun _ _ => ?_ | refine v'2 ?_ | (first | refine v'3 ?_ | refine v'4 ?_ | refine v'5 fun _ _ _ _ => ?_ | (refine v'6 (fun hg => ?_) (fun hg => ?_) <;> try simp only [hg])) <;> simp only [wS, simprocAttr] | (refine v'7 ?_; try simp only [wE, simprocAttr]) | refine v'8 ?_ | refine v'9 ?_)
    refine eg_ret2 rfl ?_
    refine EG.of (?v_3, ?a_3, ?l_3) ⟨?hV_3, ?hi_3⟩ ⟨?hv_3, ?g1_3, ?g2_3, ?g3_3, ?g4_3, ?g5_3⟩
    case hv_3 => simp only [wS, simprocAttr]; exact rfl
    case g1_3 => simp only [wS, simprocAttr]; exact rfl
    case g2_3 => simp only [wS, simprocAttr]; try exact hA.symm
    case g3_3 => simp only [wS, simprocAttr]; try exact hA.symm
    case g4_3 => simp only [wS, simprocAttr]; try exact hA.symm
    case g5_3 => simp only [wS, simprocAttr]; try exact hA.symm
    case hV_3 => exact ⟨_, _, rfl⟩
    case hi_3 => exact rfl
  · have hz : 0 ≤ z := by simpa using h
    obtain ⟨j, rfl⟩ : ∃ j : Nat, z = j := ⟨z.toNat, (Int.toNat_of_nonneg hz).symm⟩
    have hj : j < f.q := by omega
    obtain ⟨kd, nn, mm, b, es, tl, _, hes1, hes2, hd⟩ := fn_at hw (j := j) (by omega)
    have hd3 : f.ks.flatten.drop (j * 4 + 3) = .sl b es :: tl := by rw [← List.drop_drop, hd]; rfl
    repeat' (first | refine v'1 fun _ _ => ?_ | refine v'2 ?_ | (first | refine v'3 ?_ | refine v'4 ?_ | refine v'5 fun _ _ _ _ => ?_ | (refine v'6 (fun hg => ?_) (fun hg => ?_) <;> try simp only [hg])) <;> simp only [wS, simprocAttr] | (refine v'7 ?_; try simp only [wE, simprocAttr]) | refine v'8 ?_ | refine v'9 ?_)
    refine eg_call (R' := fun eff => eff = ⟨.osl 4 f.v 0 f.q 4 false, []⟩) ⟨_, rfl, hv _ at1 left1 ⟨?_, ?_, ?_, ?_, ?_⟩⟩ ?_
    · simp only [wS, simprocAttr]; try exact rfl
    · simp only [wS, simprocAttr]
    · simp only [wS, simprocAttr]
    · simp only [wS, simprocAttr]
    · simp only [wS, simprocAttr]
    rintro eff rfl
    simp only [wS, simprocAttr, hj, hA, Fn.row, hd, hd3]
    repeat' (first | refine v'1 fun _ _ => ?_ | refine v'2 ?_ | (first | refine v'3 ?_ | refine v'4 ?_ | refine v'5 fun _ _ _ _ => ?_ | (refine v'6 (fun hg => ?_) (fun hg => ?_) <;> try simp only [hg])) <;> simp only [wS, simprocAttr, hj, hA, Fn.row, hd, hd3] | (refine v'7 ?_; try simp only [wE, simprocAttr]) | refine v'8 ?_ | refine v'9 ?_)
    refine eg_mc (draw_ok hx 3 (by decide)) at1 left1 ⟨by simp only [wS, simprocAttr]; exact rfl, by simp only [wS, simprocAttr]; try exact hA.symm, by simp only [wS, simprocAttr]; try exact hA.symm, by simp only [wS, simprocAttr]; try exact hA.symm, by simp only [wS, simprocAttr]; try exact hA.symm⟩ ?_
    rintro v at2 left2 ⟨fr, rfl, hf1, hf2⟩ -
    simp only [wS, simprocAttr, MX.row]
    repeat' (first | refine v'1 fun _ _ => ?_ | refine v'2 ?_ | (first | refine v'3 ?_ | refine v'4 ?_ | refine v'5 fun _ _ _ _ => ?_ | (refine v'6 (fun hg => ?_) (fun hg => ?_) <;> try simp only [hg])) <;> simp only [wS, simprocAttr] | (refine v'7 ?_; try simp only [wE, simprocAttr]) | refine v'8 ?_ | refine v'9 ?_)
    refine eg_loop_k (α := {k : Nat // k ≤ es.length}) (fun k => [(0, .ptr 1 0 0), (1, .int .i64 kind), (6, .int .i64 j), (7, .sl b es), (8, .int .i64 fr), (9, .int .i64 k.1)]) (fun _ => [.dead, x.row at2 left2, x.A2, x.A3, x.A4, x.A5]) (fun k => es.length - k.1) ⟨0, Nat.zero_le _⟩ (Weak.ref ⟨?_, .inl ?_⟩) ?_
    · simp only [wS, simprocAttr]; try exact rfl
    · simp only [wS, simprocAttr, hA, Fn.row]; try exact rfl
    · rintro ⟨k, hk⟩ K2 hK2
      repeat' (first | refine v'1 fun _ _ => ?_ | refine v'2 ?_ | (first | refine v'3 ?_ | refine v'4 ?_ | refine v'5 fun _ _ _ _ => ?_ | (refine v'6 (fun hg => ?_) (fun hg => ?_) <;> try simp only [hg])) <;> simp only [wS, simprocAttr, MX.row] | (refine v'7 ?_; try simp only [wE, simprocAttr]) | refine v'8 ?_ | refine v'9 ?_)
      refine eg_split (fun h3 => ?_) (fun h3 => ?_)
      · have hlt : k < es.length := by simpa using h3
        have hq0 : ((es.length : Nat) : Int) ≠ 0 := by omega
        have e1 : IntKind.i64.wrap (fr + (k : Int)) = fr + k := wrap_small (by omega) (by omega)
        obtain ⟨i, e2, hi⟩ := mod_nat (a := fr + (k : Int)) (q := es.length) (by omega) (by omega)
        obtain ⟨e, he⟩ : ∃ e, es[i]? = some e := ⟨_, List.getElem?_eq_getElem hi⟩
        have hne := hes2 e (List.mem_of_getElem? he)
        have e3 := wrap_succ (k := k) hlt (by omega)
        cases hne with
        | mk k1 n1 m1 b1 es1 hl1 hn1 =>
        repeat' (first | refine v'1 fun _ _ => ?_ | refine v'2 ?_ | (first | refine v'3 ?_ | refine v'4 ?_ | refine v'5 fun _ _ _ _ => ?_ | (refine v'6 (fun hg => ?_) (fun hg => ?_) <;> try simp only [hg])) <;> simp only [wS, simprocAttr, MX.row, e1, e2, hq0, hi, he] | (refine v'7 ?_; try simp only [wE, simprocAttr]) | refine v'8 ?_ | refine v'9 ?_)
        refine eg_split (fun h4 => ?_) (fun h4 => ?_)
        · repeat' (first | refine v'1 fun _ _ => ?_ | refine v'2 ?_ | (first | refine v'3 ?_ | refine v'4 ?_ | refine v'5 fun _ _ _ _ => ?_ | (refine v'6 (fun hg => ?_) (fun hg => ?_) <;> try simp only [hg])) <;> simp only [wS, simprocAttr] | (refine v'7 ?_; try simp only [wE, simprocAttr]) | refine v'8 ?_ | refine v'9 ?_)
          refine eg_ret2 rfl ?_
          refine EG.of (?v_4, ?a_4, ?l_4) ⟨?hV_4, ?hi_4⟩ ⟨?hv_4, ?g1_4, ?g2_4, ?g3_4, ?g4_4, ?g5_4⟩
          case hv_4 => simp only [wS, simprocAttr]; exact rfl
          case g1_4 => simp only [wS, simprocAttr]; exact rfl
          case g2_4 => simp only [wS, simprocAttr]; try exact hA.symm
          case g3_4 => simp only [wS, simprocAttr]; try exact hA.symm
          case g4_4 => simp only [wS, simprocAttr]; try exact hA.symm
          case g5_4 => simp only [wS, simprocAttr]; try exact hA.symm
          case hV_4 => exact ⟨_, _, rfl⟩
          case hi_4 => exact rfl
        · repeat' (first | refine v'1 fun _ _ => ?_ | refine v'2 ?_ | (first | refine v'3 ?_ | refine v'4 ?_ | refine v'5 fun _ _ _ _ => ?_ | (refine v'6 (fun hg => ?_) (fun hg => ?_) <;> try simp only [hg])) <;> simp only [wS, simprocAttr, e3] | (refine v'7 ?_; try simp only [wE, simprocAttr]) | refine v'8 ?_ | refine v'9 ?_)
          refine hK2 _ ⟨k + 1, hlt⟩ (Weak.ref ⟨?_, .inl ?_⟩) (by simp only; omega)
          · simp only [wS, simprocAttr]; try exact rfl
          · simp only [wS, simprocAttr]; try exact rfl
      · repeat' (first | refine v'1 fun _ _ => ?_ | refine v'2 ?_ | (first | refine v'3 ?_ | refine v'4 ?_ | refine v'5 fun _ _ _ _ => ?_ | (refine v'6 (fun hg => ?_) (fun hg => ?_) <;> try simp only [hg])) <;> simp only [wS, simprocAttr] | (refine v'7 ?_; try simp only [wE, simprocAttr]) | refine v'8 ?_ | refine v'9 ?_)
        refine eg_ret2 rfl ?_
        refine EG.of (?v_5, ?a_5, ?l_5) ⟨?hV_5, ?hi_5⟩ ⟨?hv_5, ?g1_5, ?g2_5, ?g3_5, ?g4_5, ?g5_5⟩
        case hv_5 => simp only [wS, simprocAttr]; exact rfl
        case g1_5 => simp only [wS, simprocAttr]; exact rfl
        case g2_5 => simp only [wS, simprocAttr]; try exact hA.symm
        case g3_5 => simp only [wS, simprocAttr]; try exact hA.symm
        case g4_5 => simp only [wS, simprocAttr]; try exact hA.symm
        case g5_5 => simp only [wS, simprocAttr]; try exact hA.symm
        case hV_5 => exact ⟨_, _, rfl⟩
        case hi_5 => exact rfl
theorem field_5 {x : MX} (hx : x.ok) (kind : Int) {f : Fn} (hva : VarsAt x 5 f) (hA : x.A5 = f.row) : MC x 76 [.int .i64 kind] VF := by
  have hw := hva.1
  have hv : ∀ rows at0 left, MR x rows at0 left → CallC Tryd.prog G0 83 [.agg [.int .i64 x.pk, .int .i64 x.pn, .int .i64 x.pm, x.kv], .int .i64 x.F] rows [1, 2, 3, 4, 5] ⟨.osl 5 f.v 0 f.q 4 false, []⟩ := hva.2.2
  refine mc_of_body hx Tryd.func76 rfl (by kernel_rfl) (by simp [Tryd.ntmps76]) rfl fun at0 left => ?_
  simp only [Tryd.ntmps76, enterF, Nat.reduceAdd, MX.row]
  repeat' (first | refine v'1 fun _ _ => ?_ | refine v'2 ?_ | (first | refine v'3 ?_ | refine v'4 ?_ | refine v'5 fun _ _ _ _ => ?_ | (refine v'6 (fun hg => ?_) (fun hg => ?_) <;> try simp only [hg])) <;> simp only [wS, simprocAttr] | (refine v'7 ?_; try simp only [wE, simprocAttr]) | refine v'8 ?_ | refine v'9 ?_)
  refine eg_mc (pick_ok hx 3 hva) at0 left ⟨by simp only [wS, simprocAttr]; exact rfl, by simp only [wS, simprocAttr], by simp only [wS, simprocAttr], by simp only [wS, simprocAttr], by simp only [wS, simprocAttr]⟩ ?_
  rintro v at1 left1 ⟨z, rfl, hz1, hz2⟩ -
  simp only [wS, simprocAttr, MX.row]
  repeat' (first | refine v'1 fun _ _ => ?_ | refine v'2 ?_ | (first | refine v'3 ?_ | refine v'4 ?_ | refine v'5 fun _ _ _ _ => ?_ | (refine v'6 (fun hg => ?_) (fun hg => ?_) <;> try simp only [hg])) <;> simp only [wS, simprocAttr] | (refine v'7 ?_; try simp only [wE, simprocAttr]) | refine v'8 ?_ | refine v'9 ?_)
  refine eg_split (fun h => ?_) (fun h => ?_)
  · repeat' (first | refine v'1 fun _ _ => ?_ | refine v'2 ?_ | (first | refine v'3 ?_ | refine v'4 ?_ | refine v'5 fun _ _ _ _ => ?_ | (refine v'6 (fun hg => ?_) (fun hg => ?_) <;> try simp only [hg])) <;> simp only [wS, simprocAttr] | (refine v'7 ?_; try simp only [wE, simprocAttr]) | refine v'8 ?_ | refine v'9 ?_)
    refine eg_ret2 rfl ?_
    refine EG.of (?v_6, ?a_6, ?l_6) ⟨?hV_6, ?hi_6⟩ ⟨?hv_6, ?g1_6, ?g2_6, ?g3_6, ?g4_6, ?g5_6⟩
    case hv_6 => simp only [wS, simprocAttr]; exact rfl
    case g1_6 => simp only [wS, simprocAttr]; exact rfl
    case g2_6 => simp only [wS, simprocAttr]; try exact hA.symm
    case g3_6 => simp only [wS, simprocAttr]; try exact hA.symm
    case g4_6 => simp only [wS, simprocAttr]; try exact hA.symm
    case g5_6 => simp only [wS, simprocAttr]; try exact hA.symm
    case hV_6 => exact ⟨_, _, rfl⟩
    case hi_6 => exact rfl
  · have hz : 0 ≤ z := by simpa using h
    obtain ⟨j, rfl⟩ : ∃ j : Nat, z = j := ⟨z.toNat, (Int.toNat_of_nonneg hz).symm⟩
    have hj : j < f.q := by omega
    obtain ⟨kd, nn, mm, b, es, tl, _, hes1, hes2, hd⟩ := fn_at hw (j := j) (by omega)
    have hd3 : f.ks.flatten.drop (j * 4 + 3) = .sl b es :: tl := by rw [← List.drop_drop, hd]; rfl
    repeat' (first | refine v'1 fun _ _ => ?_ | refine v'2 ?_ | (first | refine v'3 ?_ | refine v'4 ?_ | refine v'5 fun _ _ _ _ => ?_ | (refine v'6 (fun hg => ?_) (fun hg => ?_) <;> try simp only [hg])) <;> simp only [wS, simprocAttr] | (refine v'7 ?_; try simp only [wE, simprocAttr]) | refine v'8 ?_ | refine v'9 ?_)
    refine eg_call (R' := fun eff => eff = ⟨.osl 5 f.v 0 f.q 4 false, []⟩) ⟨_, rfl, hv _ at1 left1 ⟨?_, ?_, ?_, ?_, ?_⟩⟩ ?_
    · simp only [wS, simprocAttr]; try exact rfl
    · simp only [wS, simprocAttr]
    · simp only [wS, simprocAttr]
    · simp only [wS, simprocAttr]
    · simp only [wS, simprocAttr]
    rintro eff rfl
    simp only [wS, simprocAttr, hj, hA, Fn.row, hd, hd3]
    repeat' (first | refine v'1 fun _ _ => ?_ | refine v'2 ?_ | (first | refine v'3 ?_ | refine v'4 ?_ | refine v'5 fun _ _ _ _ => ?_ | (refine v'6 (fun hg => ?_) (fun hg => ?_) <;> try simp only [hg])) <;> simp only [wS, simprocAttr, hj, hA, Fn.row, hd, hd3] | (refine v'7 ?_; try simp only [wE, simprocAttr]) | refine v'8 ?_ | refine v'9 ?_)
    refine eg_mc (draw_ok hx 3 (by decide)) at1 left1 ⟨by simp only [wS, simprocAttr]; exact rfl, by simp only [wS, simprocAttr]; try exact hA.symm, by simp only [wS, simprocAttr]; try exact hA.symm, by simp only [wS, simprocAttr]; try exact hA.symm, by simp only [wS, simprocAttr]; try exact hA.symm⟩ ?_
    rintro v at2 left2 ⟨fr, rfl, hf1, hf2⟩ -
    simp only [wS, simprocAttr, MX.row]
    repeat' (first | refine v'1 fun _ _ => ?_ | refine v'2 ?_ | (first | refine v'3 ?_ | refine v'4 ?_ | refine v'5 fun _ _ _ _ => ?_ | (refine v'6 (fun hg => ?_) (fun hg => ?_) <;> try simp only [hg])) <;> simp only [wS, simprocAttr] | (refine v'7 ?_; try simp only [wE, simprocAttr]) | refine v'8 ?_ | refine v'9 ?_)
    refine eg_loop_k (α := {k : Nat // k ≤ es.length}) (fun k => [(0, .ptr 1 0 0), (1, .int .i64 kind), (6, .int .i64 j), (7, .sl b es), (8, .int .i64 fr), (9, .int .i64 k.1)]) (fun _ => [.dead, x.row at2 left2, x.A2, x.A3, x.A4, x.A5]) (fun k => es.length - k.1) ⟨0, Nat.zero_le _⟩ (Weak.ref ⟨?_, .inl ?_⟩) ?_
    · simp only [wS, simprocAttr]; try exact rfl
    · simp only [wS, simprocAttr, hA, Fn.row]; try exact rfl
    · rintro ⟨k, hk⟩ K2 hK2
      repeat' (first | refine v'1 fun _ _ => ?_ | refine v'2 ?_ | (first | refine v'3 ?_ | refine v'4 ?_ | refine v'5 fun _ _ _ _ => ?_ | (refine v'6 (fun hg => ?_) (fun hg => ?_) <;> try simp only [hg])) <;> simp only [wS, simprocAttr, MX.row] | (refine v'7 ?_; try simp only [wE, simprocAttr]) | refine v'8 ?_ | refine v'9 ?_)
      refine eg_split (fun h3 => ?_) (fun h3 => ?_)
      · have hlt : k < es.length := by simpa using h3
        have hq0 : ((es.length : Nat) : Int) ≠ 0 := by omega
        have e1 : IntKind.i64.wrap (fr + (k : Int)) = fr + k := wrap_small (by omega) (by omega)
        obtain ⟨i, e2, hi⟩ := mod_nat (a := fr + (k : Int)) (q := es.length) (by omega) (by omega)
        obtain ⟨e, he⟩ : ∃ e, es[i]? = some e := ⟨_, List.getElem?_eq_getElem hi⟩
        have hne := hes2 e (List.mem_of_getElem? he)
        have e3 := wrap_succ (k := k) hlt (by omega)
        cases hne with
        | mk k1 n1 m1 b1 es1 hl1 hn1 =>
        repeat' (first | refine v'1 fun _ _ => ?_ | refine v'2 ?_ | (first | refine v'3 ?_ | refine v'4 ?_ | refine v'5 fun _ _ _ _ => ?_ | (refine v'6 (fun hg => ?_) (fun hg => ?_) <;> try simp only [hg])) <;> simp only [wS, simprocAttr, MX.row, e1, e2, hq0, hi, he] | (refine v'7 ?_; try simp only [wE, simprocAttr]) | refine v'8 ?_ | refine v'9 ?_)
        refine eg_split (fun h4 => ?_) (fun h4 => ?_)
        · repeat' (first | refine v'1 fun _ _ => ?_ | refine v'2 ?_ | (first | refine v'3 ?_ | refine v'4 ?_ | refine v'5 fun _ _ _ _ => ?_ | (refine v'6 (fun hg => ?_) (fun hg => ?_) <;> try simp only [hg])) <;> simp only [wS, simprocAttr] | (refine v'7 ?_; try simp only [wE, simprocAttr]) | refine v'8 ?_ | refine v'9 ?_)
          refine eg_ret2 rfl ?_
          refine EG.of (?v_7, ?a_7, ?l_7) ⟨?hV_7, ?hi_7⟩ ⟨?hv_7, ?g1_7, ?g2_7, ?g3_7, ?g4_7, ?g5_7⟩
          case hv_7 => simp only [wS, simprocAttr]; exact rfl
          case g1_7 => simp only [wS, simprocAttr]; exact rfl
          case g2_7 => simp only [wS, simprocAttr]; try exact hA.symm
          case g3_7 => simp only [wS, simprocAttr]; try exact hA.symm
          case g4_7 => simp only [wS, simprocAttr]; try exact hA.symm
          case g5_7 => simp only [wS, simprocAttr]; try exact hA.symm
          case hV_7 => exact ⟨_, _, rfl⟩
          case hi_7 => exact rfl
        · repeat' (first | refine v'1 fun _ _ => ?_ | refine v'2 ?_ | (first | refine v'3 ?_ | refine v'4 ?_ | refine v'5 fun _ _ _ _ => ?_ | (refine v'6 (fun hg => ?_) (fun hg => ?_) <;> try simp only [hg])) <;> simp only [wS, simprocAttr, e3] | (refine v'7 ?_; try simp only [wE, simprocAttr]) | refine v'8 ?_ | refine v'9 ?_)
          refine hK2 _ ⟨k + 1, hlt⟩ (Weak.ref ⟨?_, .inl ?_⟩) (by simp only; omega)
          · simp only [wS, simprocAttr]; try exact rfl
          · simp only [wS, simprocAttr]; try exact rfl
      · repeat' (first | refine v'1 fun _ _ => ?_ | refine v'2 ?_ | (first | refine v'3 ?_ | refine v'4 ?_ | refine v'5 fun _ _ _ _ => ?_ | (refine v'6 (fun hg => ?_) (fun hg => ?_) <;> try simp only [hg])) <;> simp only [wS, simprocAttr] | (refine v'7 ?_; try simp only [wE, simprocAttr]) | refine v'8 ?_ | refine v'9 ?_)
        refine eg_ret2 rfl ?_
        refine EG.of (?v_8, ?a_8, ?l_8) ⟨?hV_8, ?hi_8⟩ ⟨?hv_8, ?g1_8, ?g2_8, ?g3_8, ?g4_8, ?g5_8⟩
        case hv_8 => simp only [wS, simprocAttr]; exact rfl
        case g1_8 => simp only [wS, simprocAttr]; exact rfl
        case g2_8 => simp only [wS, simprocAttr]; try exact hA.symm
        case g3_8 => simp only [wS, simprocAttr]; try exact hA.symm
        case g4_8 => simp only [wS, simprocAttr]; try exact hA.symm
        case g5_8 => simp only [wS, simprocAttr]; try exact hA.symm
        case hV_8 => exact ⟨_, _, rfl⟩
        case hi_8 => exact rfl
theorem field_ok {x : MX} (hx : x.ok) (kind : Int) : MC x 76 [.int .i64 kind] VF := by
  obtain ⟨r, f, h⟩ := vars_ok hx
  rcases h.2.1 with ⟨rfl, ha⟩ | ⟨rfl, ha⟩ | ⟨rfl, ha⟩
  · exact field_2 hx kind h ha
  · exact field_4 hx kind h ha
  · exact field_5 hx kind h ha
end Go.Proofs.YtpdibmopbpcfdaaDoor
