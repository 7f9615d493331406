import Derived.Test.YtpdibmopbpcfdaaDoorMA
set_option linter.unusedVariables false
set_option linter.unusedSimpArgs false
namespace Go.Proofs.YtpdibmopbpcfdaaDoor
open Go.AM
set_option maxRecDepth 100000
set_option maxHeartbeats 8000000 in
theorem nested_step {D : Nat} (hD : 3 ≤ D) {x : MX} (hx : x.ok) (depth : Int) (hd1 : -9223372036854775806 < depth) (hd2 : depth ≤ 9223372036854775807) (hE : MC x 74 [.int .i64 1, .int .i64 2] (VN 3)) (hB : ∀ most : Int, 0 < most → most ≤ 6 → MC x 48 [.int .i64 (depth - 1), .int .i64 most] (VN D)) (hL : ∀ v : Int, MC x 81 [.int .i64 v, .int .i64 depth] (VN (D + 1))) : MC x 72 [.int .i64 depth] (VN (D + 1)) := by
  obtain ⟨r, f, hva⟩ := vars_ok hx
  obtain ⟨L, pk, pn, pm, F, kv, con, A2, A3, A4, A5⟩ := x
  have e1 : IntKind.i64.wrap (depth - 1) = depth - 1 := wrap_small (by omega) (by omega)
  refine mc_of_body hx Tryd.func72 rfl (by kernel_rfl) (by simp [Tryd.ntmps72]) rfl fun at0 left => ?_
  simp only [Tryd.ntmps72, enterF, Nat.reduceAdd, MX.row]
  refine eg_seq_k fun K0 hK0 => ?_
  replace hK0 := And.intro trivial hK0
  repeat' (first | refine v'1 fun _ _ => ?_ | refine v'2 ?_ | (first | refine v'3 ?_ | refine v'4 ?_ | refine v'5 fun _ _ _ _ => ?_ | (refine v'6 (fun hg => ?_) (fun hg => ?_) <;> try simp only [hg])) <;> simp only [wS, simprocAttr, MX.row, e1] | (refine v'7 ?_; try simp only [wE, simprocAttr]) | refine v'8 ?_ | refine v'9 ?_)
  refine hK0.2.go ?_
  refine eg_seq_k fun K1 hK1 => ?_
  replace hK1 := And.intro trivial hK1
  have key : ∀ (a l : Int) (s : AS), Ref G0 84 6 s ⟨mkF [(0, .ptr 1 0 0), (1, .int .i64 depth), (4, .ptr 6 0 0)], [.dead, .cells 0 [encI L, .int .i64 a, .int .i64 l, .int .i64 pk, .int .i64 pn, .int .i64 pm, kv, .int .i64 F, .bool con], A2, A3, A4, A5, .cells 0 [.int .i64 0, .int .i64 0, .int .i64 0, .sl true []]]⟩ → EG (fun i : AV × Int × Int => VN (D + 1) i.1 ∧ inR noRef i.1 = true) (fun i => K1 i s) := by
    intro a l s hr
    refine hK1.2.go (eg_ref hr ?_)
    repeat' (first | refine v'1 fun _ _ => ?_ | refine v'2 ?_ | (first | refine v'3 ?_ | refine v'4 ?_ | refine v'5 fun _ _ _ _ => ?_ | (refine v'6 (fun hg => ?_) (fun hg => ?_) <;> try simp only [hg])) <;> simp only [wS, simprocAttr, MX.row, e1] | (refine v'7 ?_; try simp only [wE, simprocAttr]) | refine v'8 ?_ | refine v'9 ?_)
    refine eg_mc (hE) a l (by refine ⟨?_, ?_, ?_, ?_, ?_⟩ <;> (simp only [wS, simprocAttr, MX.row]; try exact rfl)) ?_
    rintro v u40 w40 ⟨c1, rfl, hc1⟩ -
    have hd1 := hc1
    cases hc1 with
    | mk k1 n1 m1 b1 es1 hl1 hh1 =>
    simp only [wS, simprocAttr, MX.row, e1]
    repeat' (first | refine v'1 fun _ _ => ?_ | refine v'2 ?_ | (first | refine v'3 ?_ | refine v'4 ?_ | refine v'5 fun _ _ _ _ => ?_ | (refine v'6 (fun hg => ?_) (fun hg => ?_) <;> try simp only [hg])) <;> simp only [wS, simprocAttr, MX.row, e1] | (refine v'7 ?_; try simp only [wE, simprocAttr]) | refine v'8 ?_ | refine v'9 ?_)
    refine eg_mc (hB 2 (by decide) (by decide)) u40 w40 (by refine ⟨?_, ?_, ?_, ?_, ?_⟩ <;> (simp only [wS, simprocAttr, MX.row]; try exact rfl)) ?_
    rintro v u41 w41 ⟨c2, rfl, hc2⟩ -
    have hd2 := hc2
    cases hc2 with
    | mk k2 n2 m2 b2 es2 hl2 hh2 =>
    simp only [wS, simprocAttr, MX.row, e1]
    repeat' (first | refine v'1 fun _ _ => ?_ | refine v'2 ?_ | (first | refine v'3 ?_ | refine v'4 ?_ | refine v'5 fun _ _ _ _ => ?_ | (refine v'6 (fun hg => ?_) (fun hg => ?_) <;> try simp only [hg])) <;> simp only [wS, simprocAttr, MX.row, e1] | (refine v'7 ?_; try simp only [wE, simprocAttr]) | refine v'8 ?_ | refine v'9 ?_)
    refine eg_mc (hB 1 (by decide) (by decide)) u41 w41 (by refine ⟨?_, ?_, ?_, ?_, ?_⟩ <;> (simp only [wS, simprocAttr, MX.row]; try exact rfl)) ?_
    rintro v u42 w42 ⟨c3, rfl, hc3⟩ -
    have hd3 := hc3
    cases hc3 with
    | mk k3 n3 m3 b3 es3 hl3 hh3 =>
    simp only [wS, simprocAttr, MX.row, e1]
    repeat' (first | refine v'1 fun _ _ => ?_ | refine v'2 ?_ | (first | refine v'3 ?_ | refine v'4 ?_ | refine v'5 fun _ _ _ _ => ?_ | (refine v'6 (fun hg => ?_) (fun hg => ?_) <;> try simp only [hg])) <;> simp only [wS, simprocAttr, MX.row, e1] | (refine v'7 ?_; try simp only [wE, simprocAttr]) | refine v'8 ?_ | refine v'9 ?_)
    refine eg_mc (node_ok hx _ _ _ _ (by simp) (threes hd1 hd2 hd3)) u42 w42 (by refine ⟨?_, ?_, ?_, ?_, ?_⟩ <;> (simp only [wS, simprocAttr, MX.row]; try exact rfl)) ?_
    rintro v u43 w43 ⟨rfl, hvn⟩ -
    simp only [wS, simprocAttr, MX.row, e1]
    repeat' (first | refine v'1 fun _ _ => ?_ | refine v'2 ?_ | (first | refine v'3 ?_ | refine v'4 ?_ | refine v'5 fun _ _ _ _ => ?_ | (refine v'6 (fun hg => ?_) (fun hg => ?_) <;> try simp only [hg])) <;> simp only [wS, simprocAttr, MX.row, e1] | (refine v'7 ?_; try simp only [wE, simprocAttr]) | refine v'8 ?_ | refine v'9 ?_)
    refine eg_and (by kernel_rfl) ?_
    repeat' (first | refine v'1 fun _ _ => ?_ | refine v'2 ?_ | (first | refine v'3 ?_ | refine v'4 ?_ | refine v'5 fun _ _ _ _ => ?_ | (refine v'6 (fun hg => ?_) (fun hg => ?_) <;> try simp only [hg])) <;> simp only [wS, simprocAttr] | (refine v'7 ?_; try simp only [wE, simprocAttr]) | refine v'8 ?_ | refine v'9 ?_)
    refine eg_retC (v := ?rv0) rfl ?hl0 ?_
    case hl0 => simp only [wS, simprocAttr]; exact rfl
    refine EG.of (?v_0, ?a_0, ?l_0) ⟨?hV_0, ?hi_0⟩ ⟨?hv_0, ?g1_0, ?g2_0, ?g3_0, ?g4_0, ?g5_0⟩
    case hv_0 => simp only [wS, simprocAttr]; exact rfl
    case g1_0 => simp only [wS, simprocAttr]; exact rfl
    case g2_0 => simp only [wS, simprocAttr]; try exact rfl
    case g3_0 => simp only [wS, simprocAttr]; try exact rfl
    case g4_0 => simp only [wS, simprocAttr]; try exact rfl
    case g5_0 => simp only [wS, simprocAttr]; try exact rfl
    case hV_0 => exact VN.up (hvn) (by omega)
    case hi_0 => exact hvn.tree
  clear hK1
  repeat' (first | refine v'1 fun _ _ => ?_ | refine v'2 ?_ | (first | refine v'3 ?_ | refine v'4 ?_ | refine v'5 fun _ _ _ _ => ?_ | (refine v'6 (fun hg => ?_) (fun hg => ?_) <;> try simp only [hg])) <;> simp only [wS, simprocAttr, MX.row, e1] | (refine v'7 ?_; try simp only [wE, simprocAttr]) | refine v'8 ?_ | refine v'9 ?_)
  refine eg_mc (draw_ok hx 5 (by decide)) at0 left (by refine ⟨?_, ?_, ?_, ?_, ?_⟩ <;> (simp only [wS, simprocAttr, MX.row]; try exact rfl)) ?_
  rintro v u1 w1 ⟨z, rfl, hz1, hz2⟩ -
  simp only [wS, simprocAttr, MX.row, e1]
  have hz : z = 0 ∨ z = 1 ∨ z = 2 ∨ z = 3 ∨ z = 4 := by omega
  rcases hz with hz | hz | hz | hz | hz
  ·
    have zb0 : (z == 0) = true := by simp; omega
    have zb1 : (z == 1) = false := by simp; omega
    have zb2 : (z == 2) = false := by simp; omega
    have zb3 : (z == 3) = false := by simp; omega
    repeat' (first | refine v'1 fun _ _ => ?_ | refine v'2 ?_ | (first | refine v'3 ?_ | refine v'4 ?_ | refine v'5 fun _ _ _ _ => ?_ | (refine v'6 (fun hg => ?_) (fun hg => ?_) <;> try simp only [hg])) <;> simp only [wS, simprocAttr, MX.row, e1, zb0, zb1, zb2, zb3] | (refine v'7 ?_; try simp only [wE, simprocAttr]) | refine v'8 ?_ | refine v'9 ?_)
    refine eg_mc (hE) u1 w1 (by refine ⟨?_, ?_, ?_, ?_, ?_⟩ <;> (simp only [wS, simprocAttr, MX.row]; try exact rfl)) ?_
    rintro v u2 w2 ⟨c1, rfl, hc1⟩ -
    have hd1 := hc1
    cases hc1 with
    | mk k1 n1 m1 b1 es1 hl1 hh1 =>
    simp only [wS, simprocAttr, MX.row, e1, zb0, zb1, zb2, zb3]
    repeat' (first | refine v'1 fun _ _ => ?_ | refine v'2 ?_ | (first | refine v'3 ?_ | refine v'4 ?_ | refine v'5 fun _ _ _ _ => ?_ | (refine v'6 (fun hg => ?_) (fun hg => ?_) <;> try simp only [hg])) <;> simp only [wS, simprocAttr, MX.row, e1, zb0, zb1, zb2, zb3] | (refine v'7 ?_; try simp only [wE, simprocAttr]) | refine v'8 ?_ | refine v'9 ?_)
    refine eg_mc (hB 2 (by decide) (by decide)) u2 w2 (by refine ⟨?_, ?_, ?_, ?_, ?_⟩ <;> (simp only [wS, simprocAttr, MX.row]; try exact rfl)) ?_
    rintro v u3 w3 ⟨c2, rfl, hc2⟩ -
    have hd2 := hc2
    cases hc2 with
    | mk k2 n2 m2 b2 es2 hl2 hh2 =>
    simp only [wS, simprocAttr, MX.row, e1, zb0, zb1, zb2, zb3]
    repeat' (first | refine v'1 fun _ _ => ?_ | refine v'2 ?_ | (first | refine v'3 ?_ | refine v'4 ?_ | refine v'5 fun _ _ _ _ => ?_ | (refine v'6 (fun hg => ?_) (fun hg => ?_) <;> try simp only [hg])) <;> simp only [wS, simprocAttr, MX.row, e1, zb0, zb1, zb2, zb3] | (refine v'7 ?_; try simp only [wE, simprocAttr]) | refine v'8 ?_ | refine v'9 ?_)
    refine eg_mc (node_ok hx _ _ _ _ (by simp) (twos hd1 hd2)) u3 w3 (by refine ⟨?_, ?_, ?_, ?_, ?_⟩ <;> (simp only [wS, simprocAttr, MX.row]; try exact rfl)) ?_
    rintro v u4 w4 ⟨rfl, hvn⟩ -
    simp only [wS, simprocAttr, MX.row, e1, zb0, zb1, zb2, zb3]
    repeat' (first | refine v'1 fun _ _ => ?_ | refine v'2 ?_ | (first | refine v'3 ?_ | refine v'4 ?_ | refine v'5 fun _ _ _ _ => ?_ | (refine v'6 (fun hg => ?_) (fun hg => ?_) <;> try simp only [hg])) <;> simp only [wS, simprocAttr, MX.row, e1, zb0, zb1, zb2, zb3] | (refine v'7 ?_; try simp only [wE, simprocAttr]) | refine v'8 ?_ | refine v'9 ?_)
    refine eg_retC (v := ?rv1) rfl ?hl1 ?_
    case hl1 => simp only [wS, simprocAttr]; exact rfl
    refine EG.of (?v_1, ?a_1, ?l_1) ⟨?hV_1, ?hi_1⟩ ⟨?hv_1, ?g1_1, ?g2_1, ?g3_1, ?g4_1, ?g5_1⟩
    case hv_1 => simp only [wS, simprocAttr]; exact rfl
    case g1_1 => simp only [wS, simprocAttr]; exact rfl
    case g2_1 => simp only [wS, simprocAttr]; try exact rfl
    case g3_1 => simp only [wS, simprocAttr]; try exact rfl
    case g4_1 => simp only [wS, simprocAttr]; try exact rfl
    case g5_1 => simp only [wS, simprocAttr]; try exact rfl
    case hV_1 => exact VN.up (hvn) (by omega)
    case hi_1 => exact hvn.tree
  ·
    have zb0 : (z == 0) = false := by simp; omega
    have zb1 : (z == 1) = true := by simp; omega
    have zb2 : (z == 2) = false := by simp; omega
    have zb3 : (z == 3) = false := by simp; omega
    repeat' (first | refine v'1 fun _ _ => ?_ | refine v'2 ?_ | (first | refine v'3 ?_ | refine v'4 ?_ | refine v'5 fun _ _ _ _ => ?_ | (refine v'6 (fun hg => ?_) (fun hg => ?_) <;> try simp only [hg])) <;> simp only [wS, simprocAttr, MX.row, e1, zb0, zb1, zb2, zb3] | (refine v'7 ?_; try simp only [wE, simprocAttr]) | refine v'8 ?_ | refine v'9 ?_)
    refine eg_mc (pick_ok hx _ hva) u1 w1 (by refine ⟨?_, ?_, ?_, ?_, ?_⟩ <;> (simp only [wS, simprocAttr, MX.row]; try exact rfl)) ?_
    rintro v u10 w10 ⟨y, rfl, hy1, hy2⟩ -
    simp only [wS, simprocAttr, MX.row, e1, zb0, zb1, zb2, zb3]
    repeat' (first | refine v'1 fun _ _ => ?_ | refine v'2 ?_ | (first | refine v'3 ?_ | refine v'4 ?_ | refine v'5 fun _ _ _ _ => ?_ | (refine v'6 (fun hg => ?_) (fun hg => ?_) <;> try simp only [hg])) <;> simp only [wS, simprocAttr, MX.row, e1, zb0, zb1, zb2, zb3] | (refine v'7 ?_; try simp only [wE, simprocAttr]) | refine v'8 ?_ | refine v'9 ?_)
    ·
      refine eg_split (fun hs11 => ?_) (fun hs11 => ?_)
      ·
        repeat' (first | refine v'1 fun _ _ => ?_ | refine v'2 ?_ | (first | refine v'3 ?_ | refine v'4 ?_ | refine v'5 fun _ _ _ _ => ?_ | (refine v'6 (fun hg => ?_) (fun hg => ?_) <;> try simp only [hg])) <;> simp only [wS, simprocAttr, MX.row, e1, zb0, zb1, zb2, zb3] | (refine v'7 ?_; try simp only [wE, simprocAttr]) | refine v'8 ?_ | refine v'9 ?_)
        refine eg_mc (hL y) u10 w10 (by refine ⟨?_, ?_, ?_, ?_, ?_⟩ <;> (simp only [wS, simprocAttr, MX.row]; try exact rfl)) ?_
        rintro v u12 w12 ⟨c1, rfl, hc1⟩ -
        have hd1 := hc1
        cases hc1 with
        | mk k1 n1 m1 b1 es1 hl1 hh1 =>
        simp only [wS, simprocAttr, MX.row, e1, zb0, zb1, zb2, zb3]
        repeat' (first | refine v'1 fun _ _ => ?_ | refine v'2 ?_ | (first | refine v'3 ?_ | refine v'4 ?_ | refine v'5 fun _ _ _ _ => ?_ | (refine v'6 (fun hg => ?_) (fun hg => ?_) <;> try simp only [hg])) <;> simp only [wS, simprocAttr, MX.row, e1, zb0, zb1, zb2, zb3] | (refine v'7 ?_; try simp only [wE, simprocAttr]) | refine v'8 ?_ | refine v'9 ?_)
        refine eg_retC (v := ?rv2) rfl ?hl2 ?_
        case hl2 => simp only [wS, simprocAttr]; exact rfl
        refine EG.of (?v_2, ?a_2, ?l_2) ⟨?hV_2, ?hi_2⟩ ⟨?hv_2, ?g1_2, ?g2_2, ?g3_2, ?g4_2, ?g5_2⟩
        case hv_2 => simp only [wS, simprocAttr]; exact rfl
        case g1_2 => simp only [wS, simprocAttr]; exact rfl
        case g2_2 => simp only [wS, simprocAttr]; try exact rfl
        case g3_2 => simp only [wS, simprocAttr]; try exact rfl
        case g4_2 => simp only [wS, simprocAttr]; try exact rfl
        case g5_2 => simp only [wS, simprocAttr]; try exact rfl
        case hV_2 => exact VN.up (⟨_, rfl, hd1⟩ ) (by omega)
        case hi_2 => exact VN.tree (⟨_, rfl, hd1⟩ )
      ·
        repeat' (first | refine v'1 fun _ _ => ?_ | refine v'2 ?_ | (first | refine v'3 ?_ | refine v'4 ?_ | refine v'5 fun _ _ _ _ => ?_ | (refine v'6 (fun hg => ?_) (fun hg => ?_) <;> try simp only [hg])) <;> simp only [wS, simprocAttr, MX.row, e1, zb0, zb1, zb2, zb3] | (refine v'7 ?_; try simp only [wE, simprocAttr]) | refine v'8 ?_ | refine v'9 ?_)
        refine key u10 w10 _ (Weak.ref ⟨?_, .inl ?_⟩)
        · simp only [wS, simprocAttr]; try exact rfl
        · simp only [wS, simprocAttr]; try exact rfl
    ·
      refine key u10 w10 _ (Weak.ref ⟨?_, .inl ?_⟩)
      · simp only [wS, simprocAttr]; try exact rfl
      · simp only [wS, simprocAttr]; try exact rfl
  ·
    have zb0 : (z == 0) = false := by simp; omega
    have zb1 : (z == 1) = false := by simp; omega
    have zb2 : (z == 2) = true := by simp; omega
    have zb3 : (z == 3) = false := by simp; omega
    repeat' (first | refine v'1 fun _ _ => ?_ | refine v'2 ?_ | (first | refine v'3 ?_ | refine v'4 ?_ | refine v'5 fun _ _ _ _ => ?_ | (refine v'6 (fun hg => ?_) (fun hg => ?_) <;> try simp only [hg])) <;> simp only [wS, simprocAttr, MX.row, e1, zb0, zb1, zb2, zb3] | (refine v'7 ?_; try simp only [wE, simprocAttr]) | refine v'8 ?_ | refine v'9 ?_)
    refine eg_mc (pick_ok hx _ hva) u1 w1 (by refine ⟨?_, ?_, ?_, ?_, ?_⟩ <;> (simp only [wS, simprocAttr, MX.row]; try exact rfl)) ?_
    rintro v u18 w18 ⟨y, rfl, hy1, hy2⟩ -
    simp only [wS, simprocAttr, MX.row, e1, zb0, zb1, zb2, zb3]
    repeat' (first | refine v'1 fun _ _ => ?_ | refine v'2 ?_ | (first | refine v'3 ?_ | refine v'4 ?_ | refine v'5 fun _ _ _ _ => ?_ | (refine v'6 (fun hg => ?_) (fun hg => ?_) <;> try simp only [hg])) <;> simp only [wS, simprocAttr, MX.row, e1, zb0, zb1, zb2, zb3] | (refine v'7 ?_; try simp only [wE, simprocAttr]) | refine v'8 ?_ | refine v'9 ?_)
    refine eg_split (fun hs19 => ?_) (fun hs19 => ?_)
    ·
      repeat' (first | refine v'1 fun _ _ => ?_ | refine v'2 ?_ | (first | refine v'3 ?_ | refine v'4 ?_ | refine v'5 fun _ _ _ _ => ?_ | (refine v'6 (fun hg => ?_) (fun hg => ?_) <;> try simp only [hg])) <;> simp only [wS, simprocAttr, MX.row, e1, zb0, zb1, zb2, zb3] | (refine v'7 ?_; try simp only [wE, simprocAttr]) | refine v'8 ?_ | refine v'9 ?_)
      refine eg_mc (hB 2 (by decide) (by decide)) u18 w18 (by refine ⟨?_, ?_, ?_, ?_, ?_⟩ <;> (simp only [wS, simprocAttr, MX.row]; try exact rfl)) ?_
      rintro v u20 w20 ⟨c1, rfl, hc1⟩ -
      have hd1 := hc1
      cases hc1 with
      | mk k1 n1 m1 b1 es1 hl1 hh1 =>
      simp only [wS, simprocAttr, MX.row, e1, zb0, zb1, zb2, zb3]
      repeat' (first | refine v'1 fun _ _ => ?_ | refine v'2 ?_ | (first | refine v'3 ?_ | refine v'4 ?_ | refine v'5 fun _ _ _ _ => ?_ | (refine v'6 (fun hg => ?_) (fun hg => ?_) <;> try simp only [hg])) <;> simp only [wS, simprocAttr, MX.row, e1, zb0, zb1, zb2, zb3] | (refine v'7 ?_; try simp only [wE, simprocAttr]) | refine v'8 ?_ | refine v'9 ?_)
      refine eg_mc (hB 1 (by decide) (by decide)) u20 w20 (by refine ⟨?_, ?_, ?_, ?_, ?_⟩ <;> (simp only [wS, simprocAttr, MX.row]; try exact rfl)) ?_
      rintro v u21 w21 ⟨c2, rfl, hc2⟩ -
      have hd2 := hc2
      cases hc2 with
      | mk k2 n2 m2 b2 es2 hl2 hh2 =>
      simp only [wS, simprocAttr, MX.row, e1, zb0, zb1, zb2, zb3]
      repeat' (first | refine v'1 fun _ _ => ?_ | refine v'2 ?_ | (first | refine v'3 ?_ | refine v'4 ?_ | refine v'5 fun _ _ _ _ => ?_ | (refine v'6 (fun hg => ?_) (fun hg => ?_) <;> try simp only [hg])) <;> simp only [wS, simprocAttr, MX.row, e1, zb0, zb1, zb2, zb3] | (refine v'7 ?_; try simp only [wE, simprocAttr]) | refine v'8 ?_ | refine v'9 ?_)
      refine eg_mc (node_ok hx _ _ _ _ (by simp) (twos hd1 hd2)) u21 w21 (by refine ⟨?_, ?_, ?_, ?_, ?_⟩ <;> (simp only [wS, simprocAttr, MX.row]; try exact rfl)) ?_
      rintro v u22 w22 ⟨rfl, hvn⟩ -
      simp only [wS, simprocAttr, MX.row, e1, zb0, zb1, zb2, zb3]
      repeat' (first | refine v'1 fun _ _ => ?_ | refine v'2 ?_ | (first | refine v'3 ?_ | refine v'4 ?_ | refine v'5 fun _ _ _ _ => ?_ | (refine v'6 (fun hg => ?_) (fun hg => ?_) <;> try simp only [hg])) <;> simp only [wS, simprocAttr, MX.row, e1, zb0, zb1, zb2, zb3] | (refine v'7 ?_; try simp only [wE, simprocAttr]) | refine v'8 ?_ | refine v'9 ?_)
      refine eg_and (by kernel_rfl) ?_
      repeat' (first | refine v'1 fun _ _ => ?_ | refine v'2 ?_ | (first | refine v'3 ?_ | refine v'4 ?_ | refine v'5 fun _ _ _ _ => ?_ | (refine v'6 (fun hg => ?_) (fun hg => ?_) <;> try simp only [hg])) <;> simp only [wS, simprocAttr] | (refine v'7 ?_; try simp only [wE, simprocAttr]) | refine v'8 ?_ | refine v'9 ?_)
      refine eg_retC (v := ?rv3) rfl ?hl3 ?_
      case hl3 => simp only [wS, simprocAttr]; exact rfl
      refine EG.of (?v_3, ?a_3, ?l_3) ⟨?hV_3, ?hi_3⟩ ⟨?hv_3, ?g1_3, ?g2_3, ?g3_3, ?g4_3, ?g5_3⟩
      case hv_3 => simp only [wS, simprocAttr]; exact rfl
      case g1_3 => simp only [wS, simprocAttr]; exact rfl
      case g2_3 => simp only [wS, simprocAttr]; try exact rfl
      case g3_3 => simp only [wS, simprocAttr]; try exact rfl
      case g4_3 => simp only [wS, simprocAttr]; try exact rfl
      case g5_3 => simp only [wS, simprocAttr]; try exact rfl
      case hV_3 => exact VN.up (hvn) (by omega)
      case hi_3 => exact hvn.tree
    ·
      repeat' (first | refine v'1 fun _ _ => ?_ | refine v'2 ?_ | (first | refine v'3 ?_ | refine v'4 ?_ | refine v'5 fun _ _ _ _ => ?_ | (refine v'6 (fun hg => ?_) (fun hg => ?_) <;> try simp only [hg])) <;> simp only [wS, simprocAttr, MX.row, e1, zb0, zb1, zb2, zb3] | (refine v'7 ?_; try simp only [wE, simprocAttr]) | refine v'8 ?_ | refine v'9 ?_)
      refine key u18 w18 _ (Weak.ref ⟨?_, .inl ?_⟩)
      · simp only [wS, simprocAttr]; try exact rfl
      · simp only [wS, simprocAttr]; try exact rfl
  ·
    have zb0 : (z == 0) = false := by simp; omega
    have zb1 : (z == 1) = false := by simp; omega
    have zb2 : (z == 2) = false := by simp; omega
    have zb3 : (z == 3) = true := by simp; omega
    repeat' (first | refine v'1 fun _ _ => ?_ | refine v'2 ?_ | (first | refine v'3 ?_ | refine v'4 ?_ | refine v'5 fun _ _ _ _ => ?_ | (refine v'6 (fun hg => ?_) (fun hg => ?_) <;> try simp only [hg])) <;> simp only [wS, simprocAttr, MX.row, e1, zb0, zb1, zb2, zb3] | (refine v'7 ?_; try simp only [wE, simprocAttr]) | refine v'8 ?_ | refine v'9 ?_)
    refine eg_mc (hB 2 (by decide) (by decide)) u1 w1 (by refine ⟨?_, ?_, ?_, ?_, ?_⟩ <;> (simp only [wS, simprocAttr, MX.row]; try exact rfl)) ?_
    rintro v u26 w26 ⟨c1, rfl, hc1⟩ -
    have hd1 := hc1
    cases hc1 with
    | mk k1 n1 m1 b1 es1 hl1 hh1 =>
    simp only [wS, simprocAttr, MX.row, e1, zb0, zb1, zb2, zb3]
    repeat' (first | refine v'1 fun _ _ => ?_ | refine v'2 ?_ | (first | refine v'3 ?_ | refine v'4 ?_ | refine v'5 fun _ _ _ _ => ?_ | (refine v'6 (fun hg => ?_) (fun hg => ?_) <;> try simp only [hg])) <;> simp only [wS, simprocAttr, MX.row, e1, zb0, zb1, zb2, zb3] | (refine v'7 ?_; try simp only [wE, simprocAttr]) | refine v'8 ?_ | refine v'9 ?_)
    refine eg_retC (v := ?rv4) rfl ?hl4 ?_
    case hl4 => simp only [wS, simprocAttr]; exact rfl
    refine EG.of (?v_4, ?a_4, ?l_4) ⟨?hV_4, ?hi_4⟩ ⟨?hv_4, ?g1_4, ?g2_4, ?g3_4, ?g4_4, ?g5_4⟩
    case hv_4 => simp only [wS, simprocAttr]; exact rfl
    case g1_4 => simp only [wS, simprocAttr]; exact rfl
    case g2_4 => simp only [wS, simprocAttr]; try exact rfl
    case g3_4 => simp only [wS, simprocAttr]; try exact rfl
    case g4_4 => simp only [wS, simprocAttr]; try exact rfl
    case g5_4 => simp only [wS, simprocAttr]; try exact rfl
    case hV_4 => exact VN.up (⟨_, rfl, hd1⟩ ) (by omega)
    case hi_4 => exact VN.tree (⟨_, rfl, hd1⟩ )
  ·
    have zb0 : (z == 0) = false := by simp; omega
    have zb1 : (z == 1) = false := by simp; omega
    have zb2 : (z == 2) = false := by simp; omega
    have zb3 : (z == 3) = false := by simp; omega
    repeat' (first | refine v'1 fun _ _ => ?_ | refine v'2 ?_ | (first | refine v'3 ?_ | refine v'4 ?_ | refine v'5 fun _ _ _ _ => ?_ | (refine v'6 (fun hg => ?_) (fun hg => ?_) <;> try simp only [hg])) <;> simp only [wS, simprocAttr, MX.row, e1, zb0, zb1, zb2, zb3] | (refine v'7 ?_; try simp only [wE, simprocAttr]) | refine v'8 ?_ | refine v'9 ?_)
    refine key u1 w1 _ (Weak.ref ⟨?_, .inl ?_⟩)
    · simp only [wS, simprocAttr]; try exact rfl
    · simp only [wS, simprocAttr]; try exact rfl
end Go.Proofs.YtpdibmopbpcfdaaDoor
