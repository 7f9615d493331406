import Derived.Test.YtpdibmopbpcfdaaDoorMA
set_option linter.unusedVariables false
set_option linter.unusedSimpArgs false
namespace Go.Proofs.YtpdibmopbpcfdaaDoor
open Go.AM
set_option maxRecDepth 100000
set_option maxHeartbeats 4000000 in
theorem loop_step {D : Nat} (hD : 3 ≤ D) {x : MX} (hx : x.ok) (v0 depth : Int) (hd1 : -9223372036854775806 < depth) (hd2 : depth ≤ 9223372036854775807) (hS : MC x 62 [.int .i64 (depth - 1)] (VN D)) : MC x 81 [.int .i64 v0, .int .i64 depth] (VN (D + 2)) := by
  obtain ⟨L, pk, pn, pm, F, kv, con, A2, A3, A4, A5⟩ := x
  have e1 : IntKind.i64.wrap (depth - 1) = depth - 1 := wrap_small (by omega) (by omega)
  refine mc_of_body hx Tryd.func81 rfl (by kernel_rfl) (by simp [Tryd.ntmps81]) rfl fun at0 left => ?_
  simp only [Tryd.ntmps81, enterF, Nat.reduceAdd, MX.row]
  repeat' (first | refine v'1 fun _ _ => ?_ | refine v'2 ?_ | (first | refine v'3 ?_ | refine v'4 ?_ | refine v'5 fun _ _ _ _ => ?_ | (refine v'6 (fun hg => ?_) (fun hg => ?_) <;> try simp only [hg])) <;> simp only [wS, simprocAttr, MX.row, e1] | (refine v'7 ?_; try simp only [wE, simprocAttr]) | refine v'8 ?_ | refine v'9 ?_)
  refine eg_mc (node_ok hx _ _ _ _ (by simp) nones) at0 left (by refine ⟨?_, ?_, ?_, ?_, ?_⟩ <;> (simp only [wS, simprocAttr, MX.row]; try exact rfl)) ?_
  rintro v u1 w1 ⟨rfl, hvn⟩ -
  simp only [wS, simprocAttr, MX.row, e1]
  repeat' (first | refine v'1 fun _ _ => ?_ | refine v'2 ?_ | (first | refine v'3 ?_ | refine v'4 ?_ | refine v'5 fun _ _ _ _ => ?_ | (refine v'6 (fun hg => ?_) (fun hg => ?_) <;> try simp only [hg])) <;> simp only [wS, simprocAttr, MX.row, e1] | (refine v'7 ?_; try simp only [wE, simprocAttr]) | refine v'8 ?_ | refine v'9 ?_)
  refine eg_mc (draw_ok hx 3 (by decide)) u1 w1 (by refine ⟨?_, ?_, ?_, ?_, ?_⟩ <;> (simp only [wS, simprocAttr, MX.row]; try exact rfl)) ?_
  rintro v u2 w2 ⟨z, rfl, hz1, hz2⟩ -
  simp only [wS, simprocAttr, MX.row, e1]
  repeat' (first | refine v'1 fun _ _ => ?_ | refine v'2 ?_ | (first | refine v'3 ?_ | refine v'4 ?_ | refine v'5 fun _ _ _ _ => ?_ | (refine v'6 (fun hg => ?_) (fun hg => ?_) <;> try simp only [hg])) <;> simp only [wS, simprocAttr, MX.row, e1] | (refine v'7 ?_; try simp only [wE, simprocAttr]) | refine v'8 ?_ | refine v'9 ?_)
  refine eg_mc (node_ok hx _ _ _ _ (by simp) nones) u2 w2 (by refine ⟨?_, ?_, ?_, ?_, ?_⟩ <;> (simp only [wS, simprocAttr, MX.row]; try exact rfl)) ?_
  rintro v u3 w3 ⟨rfl, hv2⟩ -
  simp only [wS, simprocAttr, MX.row, e1]
  repeat' (first | refine v'1 fun _ _ => ?_ | refine v'2 ?_ | (first | refine v'3 ?_ | refine v'4 ?_ | refine v'5 fun _ _ _ _ => ?_ | (refine v'6 (fun hg => ?_) (fun hg => ?_) <;> try simp only [hg])) <;> simp only [wS, simprocAttr, MX.row, e1] | (refine v'7 ?_; try simp only [wE, simprocAttr]) | refine v'8 ?_ | refine v'9 ?_)
  refine eg_mc (node_ok hx _ _ _ _ (by simp) (twos (leafV _ _ _ _) (leafV _ _ _ _))) u3 w3 (by refine ⟨?_, ?_, ?_, ?_, ?_⟩ <;> (simp only [wS, simprocAttr, MX.row]; try exact rfl)) ?_
  rintro v u4 w4 ⟨rfl, ⟨c2, hq2, hv3⟩⟩ -
  simp only [wS, simprocAttr, MX.row, e1]
  repeat' (first | refine v'1 fun _ _ => ?_ | refine v'2 ?_ | (first | refine v'3 ?_ | refine v'4 ?_ | refine v'5 fun _ _ _ _ => ?_ | (refine v'6 (fun hg => ?_) (fun hg => ?_) <;> try simp only [hg])) <;> simp only [wS, simprocAttr, MX.row, e1] | (refine v'7 ?_; try simp only [wE, simprocAttr]) | refine v'8 ?_ | refine v'9 ?_)
  injection hq2 with hq2
  subst hq2
  refine eg_mc (node_ok hx _ _ _ _ (by simp) nones) u4 w4 (by refine ⟨?_, ?_, ?_, ?_, ?_⟩ <;> (simp only [wS, simprocAttr, MX.row]; try exact rfl)) ?_
  rintro v u5 w5 ⟨rfl, hvn⟩ -
  simp only [wS, simprocAttr, MX.row, e1]
  repeat' (first | refine v'1 fun _ _ => ?_ | refine v'2 ?_ | (first | refine v'3 ?_ | refine v'4 ?_ | refine v'5 fun _ _ _ _ => ?_ | (refine v'6 (fun hg => ?_) (fun hg => ?_) <;> try simp only [hg])) <;> simp only [wS, simprocAttr, MX.row, e1] | (refine v'7 ?_; try simp only [wE, simprocAttr]) | refine v'8 ?_ | refine v'9 ?_)
  refine eg_mc (node_ok hx _ _ _ _ (by simp) nones) u5 w5 (by refine ⟨?_, ?_, ?_, ?_, ?_⟩ <;> (simp only [wS, simprocAttr, MX.row]; try exact rfl)) ?_
  rintro v u6 w6 ⟨rfl, hvn⟩ -
  simp only [wS, simprocAttr, MX.row, e1]
  repeat' (first | refine v'1 fun _ _ => ?_ | refine v'2 ?_ | (first | refine v'3 ?_ | refine v'4 ?_ | refine v'5 fun _ _ _ _ => ?_ | (refine v'6 (fun hg => ?_) (fun hg => ?_) <;> try simp only [hg])) <;> simp only [wS, simprocAttr, MX.row, e1] | (refine v'7 ?_; try simp only [wE, simprocAttr]) | refine v'8 ?_ | refine v'9 ?_)
  refine eg_mc (node_ok hx _ _ _ _ (by simp) (twos (leafV _ _ _ _) (leafV _ _ _ _))) u6 w6 (by refine ⟨?_, ?_, ?_, ?_, ?_⟩ <;> (simp only [wS, simprocAttr, MX.row]; try exact rfl)) ?_
  rintro v u7 w7 ⟨rfl, ⟨c3, hq3, hv4⟩⟩ -
  simp only [wS, simprocAttr, MX.row, e1]
  repeat' (first | refine v'1 fun _ _ => ?_ | refine v'2 ?_ | (first | refine v'3 ?_ | refine v'4 ?_ | refine v'5 fun _ _ _ _ => ?_ | (refine v'6 (fun hg => ?_) (fun hg => ?_) <;> try simp only [hg])) <;> simp only [wS, simprocAttr, MX.row, e1] | (refine v'7 ?_; try simp only [wE, simprocAttr]) | refine v'8 ?_ | refine v'9 ?_)
  injection hq3 with hq3
  subst hq3
  refine eg_mc (node_ok hx _ _ _ _ (by simp) (ones hv4)) u7 w7 (by refine ⟨?_, ?_, ?_, ?_, ?_⟩ <;> (simp only [wS, simprocAttr, MX.row]; try exact rfl)) ?_
  rintro v u8 w8 ⟨rfl, ⟨c5, hq5, hv5⟩⟩ -
  simp only [wS, simprocAttr, MX.row, e1]
  repeat' (first | refine v'1 fun _ _ => ?_ | refine v'2 ?_ | (first | refine v'3 ?_ | refine v'4 ?_ | refine v'5 fun _ _ _ _ => ?_ | (refine v'6 (fun hg => ?_) (fun hg => ?_) <;> try simp only [hg])) <;> simp only [wS, simprocAttr, MX.row, e1] | (refine v'7 ?_; try simp only [wE, simprocAttr]) | refine v'8 ?_ | refine v'9 ?_)
  injection hq5 with hq5
  subst hq5
  refine eg_split (fun hs9 => ?_) (fun hs9 => ?_)
  ·
    repeat' (first | refine v'1 fun _ _ => ?_ | refine v'2 ?_ | (first | refine v'3 ?_ | refine v'4 ?_ | refine v'5 fun _ _ _ _ => ?_ | (refine v'6 (fun hg => ?_) (fun hg => ?_) <;> try simp only [hg])) <;> simp only [wS, simprocAttr, MX.row, e1] | (refine v'7 ?_; try simp only [wE, simprocAttr]) | refine v'8 ?_ | refine v'9 ?_)
    refine eg_mc (hS) u8 w8 (by refine ⟨?_, ?_, ?_, ?_, ?_⟩ <;> (simp only [wS, simprocAttr, MX.row]; try exact rfl)) ?_
    rintro v u10 w10 ⟨c9, rfl, hc9⟩ -
    have hd9 := hc9
    cases hc9 with
    | mk k9 n9 m9 b9 es9 hl9 hh9 =>
    simp only [wS, simprocAttr, MX.row, e1]
    repeat' (first | refine v'1 fun _ _ => ?_ | refine v'2 ?_ | (first | refine v'3 ?_ | refine v'4 ?_ | refine v'5 fun _ _ _ _ => ?_ | (refine v'6 (fun hg => ?_) (fun hg => ?_) <;> try simp only [hg])) <;> simp only [wS, simprocAttr, MX.row, e1] | (refine v'7 ?_; try simp only [wE, simprocAttr]) | refine v'8 ?_ | refine v'9 ?_)
    refine EG.mono (fun i h => eff_new (es := []) (sz := 4) (by' := 48) (mm := 1) (new := [.int .i64 k9, .int .i64 n9, .int .i64 m9, .sl b9 es9]) (by kernel_rfl) rfl rfl rfl (by decide) (by simp) h) ?_
    simp only [wS, simprocAttr, MX.row, e1]
    repeat' (first | refine v'1 fun _ _ => ?_ | refine v'2 ?_ | (first | refine v'3 ?_ | refine v'4 ?_ | refine v'5 fun _ _ _ _ => ?_ | (refine v'6 (fun hg => ?_) (fun hg => ?_) <;> try simp only [hg])) <;> simp only [wS, simprocAttr, MX.row, e1] | (refine v'7 ?_; try simp only [wE, simprocAttr]) | refine v'8 ?_ | refine v'9 ?_)
    refine EG.mono (fun i h => eff_own (r := 10) (cs := [.int .i64 k9, .int .i64 n9, .int .i64 m9, .sl b9 es9]) (sz := 4) (by' := 48) (mm := 1) (new := [.int .i64 14, .int .i64 v0, .int .i64 0, .sl true [[.int .i64 9, .int .i64 0, .int .i64 0, .sl true [[.int .i64 6, .int .i64 v0, .int .i64 0, .sl true []], [.int .i64 4, .int .i64 1, .int .i64 0, .sl true []]]]]]) (by kernel_rfl) rfl rfl rfl (by decide) h) ?_
    simp only [wS, simprocAttr, MX.row, e1]
    repeat' (first | refine v'1 fun _ _ => ?_ | refine v'2 ?_ | (first | refine v'3 ?_ | refine v'4 ?_ | refine v'5 fun _ _ _ _ => ?_ | (refine v'6 (fun hg => ?_) (fun hg => ?_) <;> try simp only [hg])) <;> simp only [wS, simprocAttr, MX.row, e1] | (refine v'7 ?_; try simp only [wE, simprocAttr]) | refine v'8 ?_ | refine v'9 ?_)
    refine eg_mc_give (more' := [.int .i64 13, .int .i64 0, .sl false [[.int .i64 k9, .int .i64 n9, .int .i64 m9, .sl b9 es9], [.int .i64 14, .int .i64 v0, .int .i64 0, .sl true [[.int .i64 9, .int .i64 0, .int .i64 0, .sl true [[.int .i64 6, .int .i64 v0, .int .i64 0, .sl true []], [.int .i64 4, .int .i64 1, .int .i64 0, .sl true []]]]]]]]) [10] (node_ok hx _ _ _ _ (by simp) (twos hd9 hv5)) u10 w10 (by refine ⟨?_, ?_, ?_, ?_, ?_⟩ <;> (simp only [wS, simprocAttr, MX.row]; try exact rfl)) ⟨.inl rfl, .inl rfl, .inr (.osl (cs := [.int .i64 k9, .int .i64 n9, .int .i64 m9, .sl b9 es9] ++ [.int .i64 14, .int .i64 v0, .int .i64 0, .sl true [[.int .i64 9, .int .i64 0, .int .i64 0, .sl true [[.int .i64 6, .int .i64 v0, .int .i64 0, .sl true []], [.int .i64 4, .int .i64 1, .int .i64 0, .sl true []]]]]]) (by simp) rfl (by simp) (by intro e he; simp at he; rcases he with rfl | rfl <;> rfl) rfl (nodes_tree (twos hd9 hv5))), trivial⟩ (by decide) ?_
    rintro v u11 w11 ⟨rfl, hvb⟩ -
    obtain ⟨cb, hqb, hvb⟩ := hvb
    injection hqb with hqb
    subst hqb
    simp only [wS, simprocAttr, MX.row, e1]
    repeat' (first | refine v'1 fun _ _ => ?_ | refine v'2 ?_ | (first | refine v'3 ?_ | refine v'4 ?_ | refine v'5 fun _ _ _ _ => ?_ | (refine v'6 (fun hg => ?_) (fun hg => ?_) <;> try simp only [hg])) <;> simp only [wS, simprocAttr, MX.row, e1] | (refine v'7 ?_; try simp only [wE, simprocAttr]) | refine v'8 ?_ | refine v'9 ?_)
    refine eg_mc (node_ok hx _ _ _ _ (by simp) (twos hv3 hvb)) u11 w11 (by refine ⟨?_, ?_, ?_, ?_, ?_⟩ <;> (simp only [wS, simprocAttr, MX.row]; try exact rfl)) ?_
    rintro v u12 w12 ⟨rfl, hvn⟩ -
    simp only [wS, simprocAttr, MX.row, e1]
    repeat' (first | refine v'1 fun _ _ => ?_ | refine v'2 ?_ | (first | refine v'3 ?_ | refine v'4 ?_ | refine v'5 fun _ _ _ _ => ?_ | (refine v'6 (fun hg => ?_) (fun hg => ?_) <;> try simp only [hg])) <;> simp only [wS, simprocAttr, MX.row, e1] | (refine v'7 ?_; try simp only [wE, simprocAttr]) | refine v'8 ?_ | refine v'9 ?_)
    refine eg_and (by kernel_rfl) ?_
    repeat' (first | refine v'1 fun _ _ => ?_ | refine v'2 ?_ | (first | refine v'3 ?_ | refine v'4 ?_ | refine v'5 fun _ _ _ _ => ?_ | (refine v'6 (fun hg => ?_) (fun hg => ?_) <;> try simp only [hg])) <;> simp only [wS, simprocAttr] | (refine v'7 ?_; try simp only [wE, simprocAttr]) | refine v'8 ?_ | refine v'9 ?_)
    refine eg_retC (v := ?rv0) rfl ?hl0 ?_
    case hl0 => simp only [wS, simprocAttr]; exact rfl
    refine EG.of (?v_0, ?a_0, ?l_0) ⟨?hV_0, ?hi_0⟩ ⟨?hv_0, ?g1_0, ?g2_0, ?g3_0, ?g4_0, ?g5_0⟩
    case hv_0 => simp only [wS, simprocAttr]; exact rfl
    case g1_0 => simp only [wS, simprocAttr]; exact rfl
    case g2_0 => simp only [wS, simprocAttr]; try exact rfl
    case g3_0 => simp only [wS, simprocAttr]; try exact rfl
    case g4_0 => simp only [wS, simprocAttr]; try exact rfl
    case g5_0 => simp only [wS, simprocAttr]; try exact rfl
    case hV_0 => exact VN.up (hvn) (by omega)
    case hi_0 => exact hvn.tree
  ·
    repeat' (first | refine v'1 fun _ _ => ?_ | refine v'2 ?_ | (first | refine v'3 ?_ | refine v'4 ?_ | refine v'5 fun _ _ _ _ => ?_ | (refine v'6 (fun hg => ?_) (fun hg => ?_) <;> try simp only [hg])) <;> simp only [wS, simprocAttr, MX.row, e1] | (refine v'7 ?_; try simp only [wE, simprocAttr]) | refine v'8 ?_ | refine v'9 ?_)
    refine EG.mono (fun i h => eff_new (es := []) (sz := 4) (by' := 48) (mm := 1) (new := [.int .i64 14, .int .i64 v0, .int .i64 0, .sl true [[.int .i64 9, .int .i64 0, .int .i64 0, .sl true [[.int .i64 6, .int .i64 v0, .int .i64 0, .sl true []], [.int .i64 4, .int .i64 1, .int .i64 0, .sl true []]]]]]) (by kernel_rfl) rfl rfl rfl (by decide) (by simp) h) ?_
    simp only [wS, simprocAttr, MX.row, e1]
    repeat' (first | refine v'1 fun _ _ => ?_ | refine v'2 ?_ | (first | refine v'3 ?_ | refine v'4 ?_ | refine v'5 fun _ _ _ _ => ?_ | (refine v'6 (fun hg => ?_) (fun hg => ?_) <;> try simp only [hg])) <;> simp only [wS, simprocAttr, MX.row, e1] | (refine v'7 ?_; try simp only [wE, simprocAttr]) | refine v'8 ?_ | refine v'9 ?_)
    refine eg_mc_give (more' := [.int .i64 13, .int .i64 0, .sl false [[.int .i64 14, .int .i64 v0, .int .i64 0, .sl true [[.int .i64 9, .int .i64 0, .int .i64 0, .sl true [[.int .i64 6, .int .i64 v0, .int .i64 0, .sl true []], [.int .i64 4, .int .i64 1, .int .i64 0, .sl true []]]]]]]]) [10] (node_ok hx _ _ _ _ (by simp) (ones hv5)) u8 w8 (by refine ⟨?_, ?_, ?_, ?_, ?_⟩ <;> (simp only [wS, simprocAttr, MX.row]; try exact rfl)) ⟨.inl rfl, .inl rfl, .inr (.osl (cs := [.int .i64 14, .int .i64 v0, .int .i64 0, .sl true [[.int .i64 9, .int .i64 0, .int .i64 0, .sl true [[.int .i64 6, .int .i64 v0, .int .i64 0, .sl true []], [.int .i64 4, .int .i64 1, .int .i64 0, .sl true []]]]]]) (by simp) rfl (by simp) (by intro e he; simp at he; rcases he with rfl <;> rfl) rfl (nodes_tree (ones hv5))), trivial⟩ (by decide) ?_
    rintro v u10 w10 ⟨rfl, hvb⟩ -
    obtain ⟨cb, hqb, hvb⟩ := hvb
    injection hqb with hqb
    subst hqb
    simp only [wS, simprocAttr, MX.row, e1]
    repeat' (first | refine v'1 fun _ _ => ?_ | refine v'2 ?_ | (first | refine v'3 ?_ | refine v'4 ?_ | refine v'5 fun _ _ _ _ => ?_ | (refine v'6 (fun hg => ?_) (fun hg => ?_) <;> try simp only [hg])) <;> simp only [wS, simprocAttr, MX.row, e1] | (refine v'7 ?_; try simp only [wE, simprocAttr]) | refine v'8 ?_ | refine v'9 ?_)
    refine eg_mc (node_ok hx _ _ _ _ (by simp) (twos hv3 hvb)) u10 w10 (by refine ⟨?_, ?_, ?_, ?_, ?_⟩ <;> (simp only [wS, simprocAttr, MX.row]; try exact rfl)) ?_
    rintro v u11 w11 ⟨rfl, hvn⟩ -
    simp only [wS, simprocAttr, MX.row, e1]
    repeat' (first | refine v'1 fun _ _ => ?_ | refine v'2 ?_ | (first | refine v'3 ?_ | refine v'4 ?_ | refine v'5 fun _ _ _ _ => ?_ | (refine v'6 (fun hg => ?_) (fun hg => ?_) <;> try simp only [hg])) <;> simp only [wS, simprocAttr, MX.row, e1] | (refine v'7 ?_; try simp only [wE, simprocAttr]) | refine v'8 ?_ | refine v'9 ?_)
    refine eg_and (by kernel_rfl) ?_
    repeat' (first | refine v'1 fun _ _ => ?_ | refine v'2 ?_ | (first | refine v'3 ?_ | refine v'4 ?_ | refine v'5 fun _ _ _ _ => ?_ | (refine v'6 (fun hg => ?_) (fun hg => ?_) <;> try simp only [hg])) <;> simp only [wS, simprocAttr] | (refine v'7 ?_; try simp only [wE, simprocAttr]) | refine v'8 ?_ | refine v'9 ?_)
    refine eg_retC (v := ?rv1) rfl ?hl1 ?_
    case hl1 => simp only [wS, simprocAttr]; exact rfl
    refine EG.of (?v_1, ?a_1, ?l_1) ⟨?hV_1, ?hi_1⟩ ⟨?hv_1, ?g1_1, ?g2_1, ?g3_1, ?g4_1, ?g5_1⟩
    case hv_1 => simp only [wS, simprocAttr]; exact rfl
    case g1_1 => simp only [wS, simprocAttr]; exact rfl
    case g2_1 => simp only [wS, simprocAttr]; try exact rfl
    case g3_1 => simp only [wS, simprocAttr]; try exact rfl
    case g4_1 => simp only [wS, simprocAttr]; try exact rfl
    case g5_1 => simp only [wS, simprocAttr]; try exact rfl
    case hV_1 => exact VN.up (hvn) (by omega)
    case hi_1 => exact hvn.tree
end Go.Proofs.YtpdibmopbpcfdaaDoor
