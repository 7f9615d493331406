import Derived.Test.YtpdibmopbpcfdaaDoorMA
set_option linter.unusedVariables false
set_option linter.unusedSimpArgs false
namespace Go.Proofs.YtpdibmopbpcfdaaDoor
open Go.AM
set_option maxRecDepth 100000
set_option maxHeartbeats 8000000 in
theorem expr_step {D : Nat} {x : MX} (hx : x.ok) (kind depth : Int) (hd1 : -9223372036854775806 < depth) (hd2 : depth ≤ 9223372036854775807) (hE : 0 < depth → ∀ kd dd : Int, (dd = depth - 1 ∨ dd = depth - 2) → MC x 74 [.int .i64 kd, .int .i64 dd] (VN D)) : MC x 74 [.int .i64 kind, .int .i64 depth] (VN (D + 1)) := by
  obtain ⟨r, f, hva⟩ := vars_ok hx
  obtain ⟨L, pk, pn, pm, F, kv, con, A2, A3, A4, A5⟩ := x
  have e1 : IntKind.i64.wrap (depth - 1) = depth - 1 := wrap_small (by omega) (by omega)
  have e2 : IntKind.i64.wrap (depth - 2) = depth - 2 := wrap_small (by omega) (by omega)
  have hcp : con = true → 0 < pn := hx.2.1
  refine mc_of_body hx Tryd.func74 rfl (by kernel_rfl) (by simp [Tryd.ntmps74]) rfl fun at0 left => ?_
  simp only [Tryd.ntmps74, enterF, Nat.reduceAdd, MX.row]
  refine eg_seq_k fun K0 hK0 => ?_
  replace hK0 := And.intro trivial hK0
  repeat' (first | refine v'1 fun _ _ => ?_ | refine v'2 ?_ | (first | refine v'3 ?_ | refine v'4 ?_ | refine v'5 fun _ _ _ _ => ?_ | (refine v'6 (fun hg => ?_) (fun hg => ?_) <;> try simp only [hg])) <;> simp only [wS, simprocAttr] | (refine v'7 ?_; try simp only [wE, simprocAttr]) | refine v'8 ?_ | refine v'9 ?_)
  refine hK0.2.go ?_
  refine eg_seq_k fun K1 hK1 => ?_
  replace hK1 := And.intro trivial hK1
  repeat' (first | refine v'1 fun _ _ => ?_ | refine v'2 ?_ | (first | refine v'3 ?_ | refine v'4 ?_ | refine v'5 fun _ _ _ _ => ?_ | (refine v'6 (fun hg => ?_) (fun hg => ?_) <;> try simp only [hg])) <;> simp only [wS, simprocAttr] | (refine v'7 ?_; try simp only [wE, simprocAttr]) | refine v'8 ?_ | refine v'9 ?_)
  ·
    refine eg_mc (leaf_ok hx kind) at0 left (by refine ⟨?_, ?_, ?_, ?_, ?_⟩ <;> (simp only [wS, simprocAttr, MX.row]; try exact rfl)) ?_
    rintro v at1 left1 ⟨c1, rfl, hc1⟩ -
    have hd1 := hc1
    cases hc1 with
    | mk k1 n1 m1 b1 es1 hl1 hh1 =>
    simp only [wS, simprocAttr, MX.row]
    repeat' (first | refine v'1 fun _ _ => ?_ | refine v'2 ?_ | (first | refine v'3 ?_ | refine v'4 ?_ | refine v'5 fun _ _ _ _ => ?_ | (refine v'6 (fun hg => ?_) (fun hg => ?_) <;> try simp only [hg])) <;> simp only [wS, simprocAttr, MX.row] | (refine v'7 ?_; try simp only [wE, simprocAttr]) | refine v'8 ?_ | refine v'9 ?_)
    refine eg_retC (v := ?rv0) rfl ?hl0 ?_
    case hl0 => simp only [wS, simprocAttr]; exact rfl
    refine EG.of (?v_0, ?a_0, ?l_0) ⟨?hV_0, ?hi_0⟩ ⟨?hv_0, ?g1_0, ?g2_0, ?g3_0, ?g4_0, ?g5_0⟩
    case hv_0 => simp only [wS, simprocAttr]; exact rfl
    case g1_0 => simp only [wS, simprocAttr]; exact rfl
    case g2_0 => simp only [wS, simprocAttr]; try exact rfl
    case g3_0 => simp only [wS, simprocAttr]; try exact rfl
    case g4_0 => simp only [wS, simprocAttr]; try exact rfl
    case g5_0 => simp only [wS, simprocAttr]; try exact rfl
    case hV_0 => exact VN.up (⟨_, rfl, hd1⟩ ) (by omega)
    case hi_0 => exact VN.tree (⟨_, rfl, hd1⟩ )
  ·
    have hpos : 0 < depth := by simp at hg; omega
    refine eg_split (fun h => ?_) (fun h => ?_)
    · repeat' (first | refine v'1 fun _ _ => ?_ | refine v'2 ?_ | (first | refine v'3 ?_ | refine v'4 ?_ | refine v'5 fun _ _ _ _ => ?_ | (refine v'6 (fun hg => ?_) (fun hg => ?_) <;> try simp only [hg])) <;> simp only [wS, simprocAttr] | (refine v'7 ?_; try simp only [wE, simprocAttr]) | refine v'8 ?_ | refine v'9 ?_)
      refine eg_mc (leaf_ok hx kind) at0 left (by refine ⟨?_, ?_, ?_, ?_, ?_⟩ <;> (simp only [wS, simprocAttr, MX.row]; try exact rfl)) ?_
      rintro v at1 left1 ⟨c1, rfl, hc1⟩ -
      have hd1 := hc1
      cases hc1 with
      | mk k1 n1 m1 b1 es1 hl1 hh1 =>
      simp only [wS, simprocAttr, MX.row]
      repeat' (first | refine v'1 fun _ _ => ?_ | refine v'2 ?_ | (first | refine v'3 ?_ | refine v'4 ?_ | refine v'5 fun _ _ _ _ => ?_ | (refine v'6 (fun hg => ?_) (fun hg => ?_) <;> try simp only [hg])) <;> simp only [wS, simprocAttr, MX.row] | (refine v'7 ?_; try simp only [wE, simprocAttr]) | refine v'8 ?_ | refine v'9 ?_)
      refine eg_retC (v := ?rv1) rfl ?hl1 ?_
      case hl1 => simp only [wS, simprocAttr]; exact rfl
      refine EG.of (?v_1, ?a_1, ?l_1) ⟨?hV_1, ?hi_1⟩ ⟨?hv_1, ?g1_1, ?g2_1, ?g3_1, ?g4_1, ?g5_1⟩
      case hv_1 => simp only [wS, simprocAttr]; exact rfl
      case g1_1 => simp only [wS, simprocAttr]; exact rfl
      case g2_1 => simp only [wS, simprocAttr]; try exact rfl
      case g3_1 => simp only [wS, simprocAttr]; try exact rfl
      case g4_1 => simp only [wS, simprocAttr]; try exact rfl
      case g5_1 => simp only [wS, simprocAttr]; try exact rfl
      case hV_1 => exact VN.up (⟨_, rfl, hd1⟩ ) (by omega)
      case hi_1 => exact VN.tree (⟨_, rfl, hd1⟩ )
    · repeat' (first | refine v'1 fun _ _ => ?_ | refine v'2 ?_ | (first | refine v'3 ?_ | refine v'4 ?_ | refine v'5 fun _ _ _ _ => ?_ | (refine v'6 (fun hg => ?_) (fun hg => ?_) <;> try simp only [hg])) <;> simp only [wS, simprocAttr] | (refine v'7 ?_; try simp only [wE, simprocAttr]) | refine v'8 ?_ | refine v'9 ?_)
      refine hK1.2.go ?_
      refine eg_seq_k fun K2 hK2 => ?_
      replace hK2 := And.intro trivial hK2
      repeat' (first | refine v'1 fun _ _ => ?_ | refine v'2 ?_ | (first | refine v'3 ?_ | refine v'4 ?_ | refine v'5 fun _ _ _ _ => ?_ | (refine v'6 (fun hg => ?_) (fun hg => ?_) <;> try simp only [hg])) <;> simp only [wS, simprocAttr] | (refine v'7 ?_; try simp only [wE, simprocAttr]) | refine v'8 ?_ | refine v'9 ?_)
      refine eg_mc (draw_ok hx 12 (by decide)) at0 left (by refine ⟨?_, ?_, ?_, ?_, ?_⟩ <;> (simp only [wS, simprocAttr, MX.row]; try exact rfl)) ?_
      rintro v at1 left1 ⟨z, rfl, hz1, hz2⟩ -
      simp only [wS, simprocAttr, MX.row]
      repeat' (first | refine v'1 fun _ _ => ?_ | refine v'2 ?_ | (first | refine v'3 ?_ | refine v'4 ?_ | refine v'5 fun _ _ _ _ => ?_ | (refine v'6 (fun hg => ?_) (fun hg => ?_) <;> try simp only [hg])) <;> simp only [wS, simprocAttr, MX.row] | (refine v'7 ?_; try simp only [wE, simprocAttr]) | refine v'8 ?_ | refine v'9 ?_)
      refine hK2.2.go ?_
      refine eg_seq_k fun K3 hK3 => ?_
      replace hK3 := And.intro trivial hK3
      have key : ∀ (a l : Int) (s : AS), Ref G0 161 6 s ⟨mkF [(0, .ptr 1 0 0), (1, .int .i64 kind), (2, .int .i64 depth), (6, .ptr 6 0 0)], [.dead, .cells 0 [encI L, .int .i64 a, .int .i64 l, .int .i64 pk, .int .i64 pn, .int .i64 pm, kv, .int .i64 F, .bool con], A2, A3, A4, A5, .cells 0 [.int .i64 0, .int .i64 0, .int .i64 0, .sl true []]]⟩ → EG (fun i : AV × Int × Int => VN (D + 1) i.1 ∧ inR noRef i.1 = true) (fun i => K3 i s) := by
        intro a l s hr
        refine hK3.2.go (eg_ref hr ?_)
        by_cases hk : kind = 0
        · have d0 : (kind == 0) = true := by simp; omega
          repeat' (first | refine v'1 fun _ _ => ?_ | refine v'2 ?_ | (first | refine v'3 ?_ | refine v'4 ?_ | refine v'5 fun _ _ _ _ => ?_ | (refine v'6 (fun hg => ?_) (fun hg => ?_) <;> try simp only [hg])) <;> simp only [wS, simprocAttr, d0, e1, e2] | (refine v'7 ?_; try simp only [wE, simprocAttr]) | refine v'8 ?_ | refine v'9 ?_)
          refine eg_mc (draw_ok hx 12 (by decide)) a l (by refine ⟨?_, ?_, ?_, ?_, ?_⟩ <;> (simp only [wS, simprocAttr, MX.row]; try exact rfl)) ?_
          rintro v at4 left4 ⟨w, rfl, hw1, hw2⟩ -
          obtain ⟨j0, rfl⟩ : ∃ j : Nat, w = j := ⟨w.toNat, (Int.toNat_of_nonneg hw1).symm⟩
          obtain ⟨y0, t0⟩ : ∃ y, ([[AV.int .i64 0], [AV.int .i64 1], [AV.int .i64 2], [AV.int .i64 0], [AV.int .i64 3], [AV.int .i64 4], [AV.int .i64 5], [AV.int .i64 6], [AV.int .i64 7], [AV.int .i64 8], [AV.int .i64 9], [AV.int .i64 0]] : List (List AV))[j0]? = some [AV.int .i64 y] := by
            have hj : j0 = 0 ∨ j0 = 1 ∨ j0 = 2 ∨ j0 = 3 ∨ j0 = 4 ∨ j0 = 5 ∨ j0 = 6 ∨ j0 = 7 ∨ j0 = 8 ∨ j0 = 9 ∨ j0 = 10 ∨ j0 = 11 := by omega
            rcases hj with rfl | rfl | rfl | rfl | rfl | rfl | rfl | rfl | rfl | rfl | rfl | rfl <;> exact ⟨_, rfl⟩
          simp only [wS, simprocAttr, MX.row, t0, e1, e2]
          repeat' (first | refine v'1 fun _ _ => ?_ | refine v'2 ?_ | (first | refine v'3 ?_ | refine v'4 ?_ | refine v'5 fun _ _ _ _ => ?_ | (refine v'6 (fun hg => ?_) (fun hg => ?_) <;> try simp only [hg])) <;> simp only [wS, simprocAttr, MX.row, t0, e1, e2] | (refine v'7 ?_; try simp only [wE, simprocAttr]) | refine v'8 ?_ | refine v'9 ?_)
          refine eg_mc (hE hpos 0 (depth - 1) (.inl rfl)) at4 left4 (by refine ⟨?_, ?_, ?_, ?_, ?_⟩ <;> (simp only [wS, simprocAttr, MX.row]; try exact rfl)) ?_
          rintro v at5 left5 ⟨c, rfl, hc5⟩ -
          have hd5 := hc5
          cases hc5 with
          | mk k5 n5 m5 b5 es5 hl5 hh5 =>
          simp only [wS, simprocAttr, MX.row, e1, e2]
          repeat' (first | refine v'1 fun _ _ => ?_ | refine v'2 ?_ | (first | refine v'3 ?_ | refine v'4 ?_ | refine v'5 fun _ _ _ _ => ?_ | (refine v'6 (fun hg => ?_) (fun hg => ?_) <;> try simp only [hg])) <;> simp only [wS, simprocAttr, MX.row, e1, e2] | (refine v'7 ?_; try simp only [wE, simprocAttr]) | refine v'8 ?_ | refine v'9 ?_)
          refine eg_mc (hE hpos 0 (depth - 1) (.inl rfl)) at5 left5 (by refine ⟨?_, ?_, ?_, ?_, ?_⟩ <;> (simp only [wS, simprocAttr, MX.row]; try exact rfl)) ?_
          rintro v at6 left6 ⟨c, rfl, hc6⟩ -
          have hd6 := hc6
          cases hc6 with
          | mk k6 n6 m6 b6 es6 hl6 hh6 =>
          simp only [wS, simprocAttr, MX.row, e1, e2]
          repeat' (first | refine v'1 fun _ _ => ?_ | refine v'2 ?_ | (first | refine v'3 ?_ | refine v'4 ?_ | refine v'5 fun _ _ _ _ => ?_ | (refine v'6 (fun hg => ?_) (fun hg => ?_) <;> try simp only [hg])) <;> simp only [wS, simprocAttr, MX.row, e1, e2] | (refine v'7 ?_; try simp only [wE, simprocAttr]) | refine v'8 ?_ | refine v'9 ?_)
          refine eg_mc (node_ok hx _ _ _ _ (by simp) (twos hd5 hd6)) at6 left6 (by refine ⟨?_, ?_, ?_, ?_, ?_⟩ <;> (simp only [wS, simprocAttr, MX.row]; try exact rfl)) ?_
          rintro v at7 left7 ⟨rfl, hvn⟩ -
          simp only [wS, simprocAttr, MX.row, e1, e2]
          refine eg_and (by kernel_rfl) ?_
          repeat' (first | refine v'1 fun _ _ => ?_ | refine v'2 ?_ | (first | refine v'3 ?_ | refine v'4 ?_ | refine v'5 fun _ _ _ _ => ?_ | (refine v'6 (fun hg => ?_) (fun hg => ?_) <;> try simp only [hg])) <;> simp only [wS, simprocAttr] | (refine v'7 ?_; try simp only [wE, simprocAttr]) | refine v'8 ?_ | refine v'9 ?_)
          refine eg_retC (v := ?rv9) rfl ?hl9 ?_
          case hl9 => simp only [wS, simprocAttr]; exact rfl
          refine EG.of (?v_9, ?a_9, ?l_9) ⟨?hV_9, ?hi_9⟩ ⟨?hv_9, ?g1_9, ?g2_9, ?g3_9, ?g4_9, ?g5_9⟩
          case hv_9 => simp only [wS, simprocAttr]; exact rfl
          case g1_9 => simp only [wS, simprocAttr]; exact rfl
          case g2_9 => simp only [wS, simprocAttr]; try exact rfl
          case g3_9 => simp only [wS, simprocAttr]; try exact rfl
          case g4_9 => simp only [wS, simprocAttr]; try exact rfl
          case g5_9 => simp only [wS, simprocAttr]; try exact rfl
          case hV_9 => exact VN.up (hvn) (by omega)
          case hi_9 => exact hvn.tree
        · have d0 : (kind == 0) = false := by simp; omega
          repeat' (first | refine v'1 fun _ _ => ?_ | refine v'2 ?_ | (first | refine v'3 ?_ | refine v'4 ?_ | refine v'5 fun _ _ _ _ => ?_ | (refine v'6 (fun hg => ?_) (fun hg => ?_) <;> try simp only [hg])) <;> simp only [wS, simprocAttr, d0, e1, e2] | (refine v'7 ?_; try simp only [wE, simprocAttr]) | refine v'8 ?_ | refine v'9 ?_)
          refine eg_mc (draw_ok hx 5 (by decide)) a l (by refine ⟨?_, ?_, ?_, ?_, ?_⟩ <;> (simp only [wS, simprocAttr, MX.row]; try exact rfl)) ?_
          rintro v at4 left4 ⟨w, rfl, hw1, hw2⟩ -
          obtain ⟨j0, rfl⟩ : ∃ j : Nat, w = j := ⟨w.toNat, (Int.toNat_of_nonneg hw1).symm⟩
          obtain ⟨y0, t0⟩ : ∃ y, ([[AV.int .i64 10], [AV.int .i64 11], [AV.int .i64 10], [AV.int .i64 12], [AV.int .i64 13]] : List (List AV))[j0]? = some [AV.int .i64 y] := by
            have hj : j0 = 0 ∨ j0 = 1 ∨ j0 = 2 ∨ j0 = 3 ∨ j0 = 4 := by omega
            rcases hj with rfl | rfl | rfl | rfl | rfl <;> exact ⟨_, rfl⟩
          simp only [wS, simprocAttr, MX.row, t0, e1, e2]
          repeat' (first | refine v'1 fun _ _ => ?_ | refine v'2 ?_ | (first | refine v'3 ?_ | refine v'4 ?_ | refine v'5 fun _ _ _ _ => ?_ | (refine v'6 (fun hg => ?_) (fun hg => ?_) <;> try simp only [hg])) <;> simp only [wS, simprocAttr, MX.row, t0, e1, e2] | (refine v'7 ?_; try simp only [wE, simprocAttr]) | refine v'8 ?_ | refine v'9 ?_)
          refine eg_split (fun h9 => ?_) (fun h9 => ?_)
          · repeat' (first | refine v'1 fun _ _ => ?_ | refine v'2 ?_ | (first | refine v'3 ?_ | refine v'4 ?_ | refine v'5 fun _ _ _ _ => ?_ | (refine v'6 (fun hg => ?_) (fun hg => ?_) <;> try simp only [hg])) <;> simp only [wS, simprocAttr, e1, e2] | (refine v'7 ?_; try simp only [wE, simprocAttr]) | refine v'8 ?_ | refine v'9 ?_)
            refine eg_mc (hE hpos 1 (depth - 1) (.inl rfl)) at4 left4 (by refine ⟨?_, ?_, ?_, ?_, ?_⟩ <;> (simp only [wS, simprocAttr, MX.row]; try exact rfl)) ?_
            rintro v at5 left5 ⟨c, rfl, hc5⟩ -
            have hd5 := hc5
            cases hc5 with
            | mk k5 n5 m5 b5 es5 hl5 hh5 =>
            simp only [wS, simprocAttr, MX.row, e1, e2]
            repeat' (first | refine v'1 fun _ _ => ?_ | refine v'2 ?_ | (first | refine v'3 ?_ | refine v'4 ?_ | refine v'5 fun _ _ _ _ => ?_ | (refine v'6 (fun hg => ?_) (fun hg => ?_) <;> try simp only [hg])) <;> simp only [wS, simprocAttr, MX.row, e1, e2] | (refine v'7 ?_; try simp only [wE, simprocAttr]) | refine v'8 ?_ | refine v'9 ?_)
            refine eg_mc (hE hpos 1 (depth - 1) (.inl rfl)) at5 left5 (by refine ⟨?_, ?_, ?_, ?_, ?_⟩ <;> (simp only [wS, simprocAttr, MX.row]; try exact rfl)) ?_
            rintro v at6 left6 ⟨c, rfl, hc6⟩ -
            have hd6 := hc6
            cases hc6 with
            | mk k6 n6 m6 b6 es6 hl6 hh6 =>
            simp only [wS, simprocAttr, MX.row, e1, e2]
            repeat' (first | refine v'1 fun _ _ => ?_ | refine v'2 ?_ | (first | refine v'3 ?_ | refine v'4 ?_ | refine v'5 fun _ _ _ _ => ?_ | (refine v'6 (fun hg => ?_) (fun hg => ?_) <;> try simp only [hg])) <;> simp only [wS, simprocAttr, MX.row, e1, e2] | (refine v'7 ?_; try simp only [wE, simprocAttr]) | refine v'8 ?_ | refine v'9 ?_)
            refine eg_mc (node_ok hx _ _ _ _ (by simp) (twos hd5 hd6)) at6 left6 (by refine ⟨?_, ?_, ?_, ?_, ?_⟩ <;> (simp only [wS, simprocAttr, MX.row]; try exact rfl)) ?_
            rintro v at7 left7 ⟨rfl, hvn⟩ -
            simp only [wS, simprocAttr, MX.row, e1, e2]
            refine eg_and (by kernel_rfl) ?_
            repeat' (first | refine v'1 fun _ _ => ?_ | refine v'2 ?_ | (first | refine v'3 ?_ | refine v'4 ?_ | refine v'5 fun _ _ _ _ => ?_ | (refine v'6 (fun hg => ?_) (fun hg => ?_) <;> try simp only [hg])) <;> simp only [wS, simprocAttr] | (refine v'7 ?_; try simp only [wE, simprocAttr]) | refine v'8 ?_ | refine v'9 ?_)
            refine eg_retC (v := ?rv10) rfl ?hl10 ?_
            case hl10 => simp only [wS, simprocAttr]; exact rfl
            refine EG.of (?v_10, ?a_10, ?l_10) ⟨?hV_10, ?hi_10⟩ ⟨?hv_10, ?g1_10, ?g2_10, ?g3_10, ?g4_10, ?g5_10⟩
            case hv_10 => simp only [wS, simprocAttr]; exact rfl
            case g1_10 => simp only [wS, simprocAttr]; exact rfl
            case g2_10 => simp only [wS, simprocAttr]; try exact rfl
            case g3_10 => simp only [wS, simprocAttr]; try exact rfl
            case g4_10 => simp only [wS, simprocAttr]; try exact rfl
            case g5_10 => simp only [wS, simprocAttr]; try exact rfl
            case hV_10 => exact VN.up (hvn) (by omega)
            case hi_10 => exact hvn.tree
          · repeat' (first | refine v'1 fun _ _ => ?_ | refine v'2 ?_ | (first | refine v'3 ?_ | refine v'4 ?_ | refine v'5 fun _ _ _ _ => ?_ | (refine v'6 (fun hg => ?_) (fun hg => ?_) <;> try simp only [hg])) <;> simp only [wS, simprocAttr, e1, e2] | (refine v'7 ?_; try simp only [wE, simprocAttr]) | refine v'8 ?_ | refine v'9 ?_)
            refine eg_mc (hE hpos 0 (depth - 1) (.inl rfl)) at4 left4 (by refine ⟨?_, ?_, ?_, ?_, ?_⟩ <;> (simp only [wS, simprocAttr, MX.row]; try exact rfl)) ?_
            rintro v at5 left5 ⟨c, rfl, hc5⟩ -
            have hd5 := hc5
            cases hc5 with
            | mk k5 n5 m5 b5 es5 hl5 hh5 =>
            simp only [wS, simprocAttr, MX.row, e1, e2]
            repeat' (first | refine v'1 fun _ _ => ?_ | refine v'2 ?_ | (first | refine v'3 ?_ | refine v'4 ?_ | refine v'5 fun _ _ _ _ => ?_ | (refine v'6 (fun hg => ?_) (fun hg => ?_) <;> try simp only [hg])) <;> simp only [wS, simprocAttr, MX.row, e1, e2] | (refine v'7 ?_; try simp only [wE, simprocAttr]) | refine v'8 ?_ | refine v'9 ?_)
            refine eg_mc (hE hpos 0 (depth - 1) (.inl rfl)) at5 left5 (by refine ⟨?_, ?_, ?_, ?_, ?_⟩ <;> (simp only [wS, simprocAttr, MX.row]; try exact rfl)) ?_
            rintro v at6 left6 ⟨c, rfl, hc6⟩ -
            have hd6 := hc6
            cases hc6 with
            | mk k6 n6 m6 b6 es6 hl6 hh6 =>
            simp only [wS, simprocAttr, MX.row, e1, e2]
            repeat' (first | refine v'1 fun _ _ => ?_ | refine v'2 ?_ | (first | refine v'3 ?_ | refine v'4 ?_ | refine v'5 fun _ _ _ _ => ?_ | (refine v'6 (fun hg => ?_) (fun hg => ?_) <;> try simp only [hg])) <;> simp only [wS, simprocAttr, MX.row, e1, e2] | (refine v'7 ?_; try simp only [wE, simprocAttr]) | refine v'8 ?_ | refine v'9 ?_)
            refine eg_mc (node_ok hx _ _ _ _ (by simp) (twos hd5 hd6)) at6 left6 (by refine ⟨?_, ?_, ?_, ?_, ?_⟩ <;> (simp only [wS, simprocAttr, MX.row]; try exact rfl)) ?_
            rintro v at7 left7 ⟨rfl, hvn⟩ -
            simp only [wS, simprocAttr, MX.row, e1, e2]
            refine eg_and (by kernel_rfl) ?_
            repeat' (first | refine v'1 fun _ _ => ?_ | refine v'2 ?_ | (first | refine v'3 ?_ | refine v'4 ?_ | refine v'5 fun _ _ _ _ => ?_ | (refine v'6 (fun hg => ?_) (fun hg => ?_) <;> try simp only [hg])) <;> simp only [wS, simprocAttr] | (refine v'7 ?_; try simp only [wE, simprocAttr]) | refine v'8 ?_ | refine v'9 ?_)
            refine eg_retC (v := ?rv11) rfl ?hl11 ?_
            case hl11 => simp only [wS, simprocAttr]; exact rfl
            refine EG.of (?v_11, ?a_11, ?l_11) ⟨?hV_11, ?hi_11⟩ ⟨?hv_11, ?g1_11, ?g2_11, ?g3_11, ?g4_11, ?g5_11⟩
            case hv_11 => simp only [wS, simprocAttr]; exact rfl
            case g1_11 => simp only [wS, simprocAttr]; exact rfl
            case g2_11 => simp only [wS, simprocAttr]; try exact rfl
            case g3_11 => simp only [wS, simprocAttr]; try exact rfl
            case g4_11 => simp only [wS, simprocAttr]; try exact rfl
            case g5_11 => simp only [wS, simprocAttr]; try exact rfl
            case hV_11 => exact VN.up (hvn) (by omega)
            case hi_11 => exact hvn.tree
      clear hK3
      have hz : z < 3 ∨ z = 3 ∨ z = 4 ∨ z = 5 ∨ z = 6 ∨ 6 < z := by omega
      rcases hz with q | q | q | q | q | q
      ·
        have a1 : (z < 3) = True := eq_true (by omega)
        have zb3 : (z == 3) = false := by simp; omega
        have zb4 : (z == 4) = false := by simp; omega
        have zb5 : (z == 5) = false := by simp; omega
        have zb6 : (z == 6) = false := by simp; omega
        have a6 : (z < 6) = True := eq_true (by omega)
        repeat' (first | refine v'1 fun _ _ => ?_ | refine v'2 ?_ | (first | refine v'3 ?_ | refine v'4 ?_ | refine v'5 fun _ _ _ _ => ?_ | (refine v'6 (fun hg => ?_) (fun hg => ?_) <;> try simp only [hg])) <;> simp only [wS, simprocAttr, a1, zb3, zb4, zb5, zb6, a6] | (refine v'7 ?_; try simp only [wE, simprocAttr]) | refine v'8 ?_ | refine v'9 ?_)
        refine eg_mc (leaf_ok hx kind) at1 left1 (by refine ⟨?_, ?_, ?_, ?_, ?_⟩ <;> (simp only [wS, simprocAttr, MX.row]; try exact rfl)) ?_
        rintro v at2 left2 ⟨c2, rfl, hc2⟩ -
        have hd2 := hc2
        cases hc2 with
        | mk k2 n2 m2 b2 es2 hl2 hh2 =>
        simp only [wS, simprocAttr, MX.row]
        repeat' (first | refine v'1 fun _ _ => ?_ | refine v'2 ?_ | (first | refine v'3 ?_ | refine v'4 ?_ | refine v'5 fun _ _ _ _ => ?_ | (refine v'6 (fun hg => ?_) (fun hg => ?_) <;> try simp only [hg])) <;> simp only [wS, simprocAttr, MX.row] | (refine v'7 ?_; try simp only [wE, simprocAttr]) | refine v'8 ?_ | refine v'9 ?_)
        refine eg_retC (v := ?rv2) rfl ?hl2 ?_
        case hl2 => simp only [wS, simprocAttr]; exact rfl
        refine EG.of (?v_2, ?a_2, ?l_2) ⟨?hV_2, ?hi_2⟩ ⟨?hv_2, ?g1_2, ?g2_2, ?g3_2, ?g4_2, ?g5_2⟩
        case hv_2 => simp only [wS, simprocAttr]; exact rfl
        case g1_2 => simp only [wS, simprocAttr]; exact rfl
        case g2_2 => simp only [wS, simprocAttr]; try exact rfl
        case g3_2 => simp only [wS, simprocAttr]; try exact rfl
        case g4_2 => simp only [wS, simprocAttr]; try exact rfl
        case g5_2 => simp only [wS, simprocAttr]; try exact rfl
        case hV_2 => exact VN.up (⟨_, rfl, hd2⟩ ) (by omega)
        case hi_2 => exact VN.tree (⟨_, rfl, hd2⟩ )
      ·
        have a1 : (z < 3) = False := eq_false (by omega)
        have zb3 : (z == 3) = true := by simp; omega
        have zb4 : (z == 4) = false := by simp; omega
        have zb5 : (z == 5) = false := by simp; omega
        have zb6 : (z == 6) = false := by simp; omega
        have a6 : (z < 6) = True := eq_true (by omega)
        repeat' (first | refine v'1 fun _ _ => ?_ | refine v'2 ?_ | (first | refine v'3 ?_ | refine v'4 ?_ | refine v'5 fun _ _ _ _ => ?_ | (refine v'6 (fun hg => ?_) (fun hg => ?_) <;> try simp only [hg])) <;> simp only [wS, simprocAttr, a1, zb3, zb4, zb5, zb6, a6] | (refine v'7 ?_; try simp only [wE, simprocAttr]) | refine v'8 ?_ | refine v'9 ?_)
        refine eg_mc (field_ok hx kind) at1 left1 (by refine ⟨?_, ?_, ?_, ?_, ?_⟩ <;> (simp only [wS, simprocAttr, MX.row]; try exact rfl)) ?_
        rintro v at2 left2 ⟨va, vb, rfl⟩ -
        simp only [wS, simprocAttr, MX.row, a1, zb3, zb4, zb5, zb6, a6]
        repeat' (first | refine v'1 fun _ _ => ?_ | refine v'2 ?_ | (first | refine v'3 ?_ | refine v'4 ?_ | refine v'5 fun _ _ _ _ => ?_ | (refine v'6 (fun hg => ?_) (fun hg => ?_) <;> try simp only [hg])) <;> simp only [wS, simprocAttr, MX.row, a1, zb3, zb4, zb5, zb6, a6] | (refine v'7 ?_; try simp only [wE, simprocAttr]) | refine v'8 ?_ | refine v'9 ?_)
        refine eg_split (fun h2 => ?_) (fun h2 => ?_)
        · repeat' (first | refine v'1 fun _ _ => ?_ | refine v'2 ?_ | (first | refine v'3 ?_ | refine v'4 ?_ | refine v'5 fun _ _ _ _ => ?_ | (refine v'6 (fun hg => ?_) (fun hg => ?_) <;> try simp only [hg])) <;> simp only [wS, simprocAttr, a1, zb3, zb4, zb5, zb6, a6] | (refine v'7 ?_; try simp only [wE, simprocAttr]) | refine v'8 ?_ | refine v'9 ?_)
          refine eg_mc (node_ok hx _ _ _ _ (by simp) nones) at2 left2 (by refine ⟨?_, ?_, ?_, ?_, ?_⟩ <;> (simp only [wS, simprocAttr, MX.row]; try exact rfl)) ?_
          rintro v at3 left3 ⟨rfl, hvn⟩ -
          simp only [wS, simprocAttr, MX.row]
          repeat' (first | refine v'1 fun _ _ => ?_ | refine v'2 ?_ | (first | refine v'3 ?_ | refine v'4 ?_ | refine v'5 fun _ _ _ _ => ?_ | (refine v'6 (fun hg => ?_) (fun hg => ?_) <;> try simp only [hg])) <;> simp only [wS, simprocAttr, MX.row] | (refine v'7 ?_; try simp only [wE, simprocAttr]) | refine v'8 ?_ | refine v'9 ?_)
          refine eg_retC (v := ?rv3) rfl ?hl3 ?_
          case hl3 => simp only [wS, simprocAttr]; exact rfl
          refine EG.of (?v_3, ?a_3, ?l_3) ⟨?hV_3, ?hi_3⟩ ⟨?hv_3, ?g1_3, ?g2_3, ?g3_3, ?g4_3, ?g5_3⟩
          case hv_3 => simp only [wS, simprocAttr]; exact rfl
          case g1_3 => simp only [wS, simprocAttr]; exact rfl
          case g2_3 => simp only [wS, simprocAttr]; try exact rfl
          case g3_3 => simp only [wS, simprocAttr]; try exact rfl
          case g4_3 => simp only [wS, simprocAttr]; try exact rfl
          case g5_3 => simp only [wS, simprocAttr]; try exact rfl
          case hV_3 => exact VN.up (vn_mk _ _ _ _ [] (by simp) nones) (by omega)
          case hi_3 => exact VN.tree (vn_mk _ _ _ _ [] (by simp) nones)
        · repeat' (first | refine v'1 fun _ _ => ?_ | refine v'2 ?_ | (first | refine v'3 ?_ | refine v'4 ?_ | refine v'5 fun _ _ _ _ => ?_ | (refine v'6 (fun hg => ?_) (fun hg => ?_) <;> try simp only [hg])) <;> simp only [wS, simprocAttr, a1, zb3, zb4, zb5, zb6, a6] | (refine v'7 ?_; try simp only [wE, simprocAttr]) | refine v'8 ?_ | refine v'9 ?_)
          refine key at2 left2 _ (Weak.ref ⟨?_, .inl ?_⟩)
          · simp only [wS, simprocAttr]; try exact rfl
          · simp only [wS, simprocAttr]; try exact rfl
      ·
        have a1 : (z < 3) = False := eq_false (by omega)
        have zb3 : (z == 3) = false := by simp; omega
        have zb4 : (z == 4) = true := by simp; omega
        have zb5 : (z == 5) = false := by simp; omega
        have zb6 : (z == 6) = false := by simp; omega
        have a6 : (z < 6) = True := eq_true (by omega)
        have hk : kind = 0 ∨ kind = 1 ∨ (kind ≠ 0 ∧ kind ≠ 1) := by omega
        rcases hk with hk | hk | ⟨hk, hk'⟩
        ·
          have d0 : (kind == 0) = true := by simp; omega
          have d1 : (kind == 1) = false := by simp; omega
          repeat' (first | refine v'1 fun _ _ => ?_ | refine v'2 ?_ | (first | refine v'3 ?_ | refine v'4 ?_ | refine v'5 fun _ _ _ _ => ?_ | (refine v'6 (fun hg => ?_) (fun hg => ?_) <;> try simp only [hg])) <;> simp only [wS, simprocAttr, a1, zb3, zb4, zb5, zb6, a6, d0, d1, e1, e2] | (refine v'7 ?_; try simp only [wE, simprocAttr]) | refine v'8 ?_ | refine v'9 ?_)
          refine eg_mc (pick_ok hx _ hva) at1 left1 (by refine ⟨?_, ?_, ?_, ?_, ?_⟩ <;> (simp only [wS, simprocAttr, MX.row]; try exact rfl)) ?_
          rintro v at2 left2 ⟨y, rfl, hy1, hy2⟩ -
          simp only [wS, simprocAttr, MX.row, a1, zb3, zb4, zb5, zb6, a6, d0, d1]
          repeat' (first | refine v'1 fun _ _ => ?_ | refine v'2 ?_ | (first | refine v'3 ?_ | refine v'4 ?_ | refine v'5 fun _ _ _ _ => ?_ | (refine v'6 (fun hg => ?_) (fun hg => ?_) <;> try simp only [hg])) <;> simp only [wS, simprocAttr, MX.row, a1, zb3, zb4, zb5, zb6, a6, d0, d1] | (refine v'7 ?_; try simp only [wE, simprocAttr]) | refine v'8 ?_ | refine v'9 ?_)
          refine eg_split (fun h2 => ?_) (fun h2 => ?_)
          · repeat' (first | refine v'1 fun _ _ => ?_ | refine v'2 ?_ | (first | refine v'3 ?_ | refine v'4 ?_ | refine v'5 fun _ _ _ _ => ?_ | (refine v'6 (fun hg => ?_) (fun hg => ?_) <;> try simp only [hg])) <;> simp only [wS, simprocAttr, a1, zb3, zb4, zb5, zb6, a6, d0, d1, e1, e2] | (refine v'7 ?_; try simp only [wE, simprocAttr]) | refine v'8 ?_ | refine v'9 ?_)
            refine eg_mc (hE hpos _ (depth - 2) (.inr rfl)) at2 left2 (by refine ⟨?_, ?_, ?_, ?_, ?_⟩ <;> (simp only [wS, simprocAttr, MX.row]; try exact rfl)) ?_
            rintro v at3 left3 ⟨c, rfl, hc3⟩ -
            have hd3 := hc3
            cases hc3 with
            | mk k3 n3 m3 b3 es3 hl3 hh3 =>
            simp only [wS, simprocAttr, MX.row, a1, zb3, zb4, zb5, zb6, a6, d0, d1, e1, e2]
            repeat' (first | refine v'1 fun _ _ => ?_ | refine v'2 ?_ | (first | refine v'3 ?_ | refine v'4 ?_ | refine v'5 fun _ _ _ _ => ?_ | (refine v'6 (fun hg => ?_) (fun hg => ?_) <;> try simp only [hg])) <;> simp only [wS, simprocAttr, MX.row, a1, zb3, zb4, zb5, zb6, a6, d0, d1, e1, e2] | (refine v'7 ?_; try simp only [wE, simprocAttr]) | refine v'8 ?_ | refine v'9 ?_)
            refine eg_mc (node_ok hx _ _ _ _ (by simp) (ones hd3)) at3 left3 (by refine ⟨?_, ?_, ?_, ?_, ?_⟩ <;> (simp only [wS, simprocAttr, MX.row]; try exact rfl)) ?_
            rintro v at9 left9 ⟨rfl, hvn⟩ -
            simp only [wS, simprocAttr, MX.row, a1, zb3, zb4, zb5, zb6, a6, d0, d1]
            repeat' (first | refine v'1 fun _ _ => ?_ | refine v'2 ?_ | (first | refine v'3 ?_ | refine v'4 ?_ | refine v'5 fun _ _ _ _ => ?_ | (refine v'6 (fun hg => ?_) (fun hg => ?_) <;> try simp only [hg])) <;> simp only [wS, simprocAttr, MX.row, a1, zb3, zb4, zb5, zb6, a6, d0, d1] | (refine v'7 ?_; try simp only [wE, simprocAttr]) | refine v'8 ?_ | refine v'9 ?_)
            refine eg_retC (v := ?rv4) rfl ?hl4 ?_
            case hl4 => simp only [wS, simprocAttr]; exact rfl
            refine EG.of (?v_4, ?a_4, ?l_4) ⟨?hV_4, ?hi_4⟩ ⟨?hv_4, ?g1_4, ?g2_4, ?g3_4, ?g4_4, ?g5_4⟩
            case hv_4 => simp only [wS, simprocAttr]; exact rfl
            case g1_4 => simp only [wS, simprocAttr]; exact rfl
            case g2_4 => simp only [wS, simprocAttr]; try exact rfl
            case g3_4 => simp only [wS, simprocAttr]; try exact rfl
            case g4_4 => simp only [wS, simprocAttr]; try exact rfl
            case g5_4 => simp only [wS, simprocAttr]; try exact rfl
            case hV_4 => exact VN.up (hvn) (by omega)
            case hi_4 => exact hvn.tree
          · repeat' (first | refine v'1 fun _ _ => ?_ | refine v'2 ?_ | (first | refine v'3 ?_ | refine v'4 ?_ | refine v'5 fun _ _ _ _ => ?_ | (refine v'6 (fun hg => ?_) (fun hg => ?_) <;> try simp only [hg])) <;> simp only [wS, simprocAttr, a1, zb3, zb4, zb5, zb6, a6, d0, d1] | (refine v'7 ?_; try simp only [wE, simprocAttr]) | refine v'8 ?_ | refine v'9 ?_)
            refine key at2 left2 _ (Weak.ref ⟨?_, .inl ?_⟩)
            · simp only [wS, simprocAttr]; try exact rfl
            · simp only [wS, simprocAttr]; try exact rfl
        ·
          have d0 : (kind == 0) = false := by simp; omega
          have d1 : (kind == 1) = true := by simp; omega
          repeat' (first | refine v'1 fun _ _ => ?_ | refine v'2 ?_ | (first | refine v'3 ?_ | refine v'4 ?_ | refine v'5 fun _ _ _ _ => ?_ | (refine v'6 (fun hg => ?_) (fun hg => ?_) <;> try simp only [hg])) <;> simp only [wS, simprocAttr, a1, zb3, zb4, zb5, zb6, a6, d0, d1, e1, e2] | (refine v'7 ?_; try simp only [wE, simprocAttr]) | refine v'8 ?_ | refine v'9 ?_)
          refine eg_mc (hE hpos _ (depth - 1) (.inl rfl)) at1 left1 (by refine ⟨?_, ?_, ?_, ?_, ?_⟩ <;> (simp only [wS, simprocAttr, MX.row]; try exact rfl)) ?_
          rintro v at2 left2 ⟨c, rfl, hc2⟩ -
          have hd2 := hc2
          cases hc2 with
          | mk k2 n2 m2 b2 es2 hl2 hh2 =>
          simp only [wS, simprocAttr, MX.row, a1, zb3, zb4, zb5, zb6, a6, d0, d1, e1, e2]
          repeat' (first | refine v'1 fun _ _ => ?_ | refine v'2 ?_ | (first | refine v'3 ?_ | refine v'4 ?_ | refine v'5 fun _ _ _ _ => ?_ | (refine v'6 (fun hg => ?_) (fun hg => ?_) <;> try simp only [hg])) <;> simp only [wS, simprocAttr, MX.row, a1, zb3, zb4, zb5, zb6, a6, d0, d1, e1, e2] | (refine v'7 ?_; try simp only [wE, simprocAttr]) | refine v'8 ?_ | refine v'9 ?_)
          refine eg_mc (node_ok hx _ _ _ _ (by simp) (ones hd2)) at2 left2 (by refine ⟨?_, ?_, ?_, ?_, ?_⟩ <;> (simp only [wS, simprocAttr, MX.row]; try exact rfl)) ?_
          rintro v at9 left9 ⟨rfl, hvn⟩ -
          simp only [wS, simprocAttr, MX.row, a1, zb3, zb4, zb5, zb6, a6, d0, d1]
          repeat' (first | refine v'1 fun _ _ => ?_ | refine v'2 ?_ | (first | refine v'3 ?_ | refine v'4 ?_ | refine v'5 fun _ _ _ _ => ?_ | (refine v'6 (fun hg => ?_) (fun hg => ?_) <;> try simp only [hg])) <;> simp only [wS, simprocAttr, MX.row, a1, zb3, zb4, zb5, zb6, a6, d0, d1] | (refine v'7 ?_; try simp only [wE, simprocAttr]) | refine v'8 ?_ | refine v'9 ?_)
          refine eg_retC (v := ?rv5) rfl ?hl5 ?_
          case hl5 => simp only [wS, simprocAttr]; exact rfl
          refine EG.of (?v_5, ?a_5, ?l_5) ⟨?hV_5, ?hi_5⟩ ⟨?hv_5, ?g1_5, ?g2_5, ?g3_5, ?g4_5, ?g5_5⟩
          case hv_5 => simp only [wS, simprocAttr]; exact rfl
          case g1_5 => simp only [wS, simprocAttr]; exact rfl
          case g2_5 => simp only [wS, simprocAttr]; try exact rfl
          case g3_5 => simp only [wS, simprocAttr]; try exact rfl
          case g4_5 => simp only [wS, simprocAttr]; try exact rfl
          case g5_5 => simp only [wS, simprocAttr]; try exact rfl
          case hV_5 => exact VN.up (hvn) (by omega)
          case hi_5 => exact hvn.tree
        ·
          have d0 : (kind == 0) = false := by simp; omega
          have d1 : (kind == 1) = false := by simp; omega
          repeat' (first | refine v'1 fun _ _ => ?_ | refine v'2 ?_ | (first | refine v'3 ?_ | refine v'4 ?_ | refine v'5 fun _ _ _ _ => ?_ | (refine v'6 (fun hg => ?_) (fun hg => ?_) <;> try simp only [hg])) <;> simp only [wS, simprocAttr, a1, zb3, zb4, zb5, zb6, a6, d0, d1] | (refine v'7 ?_; try simp only [wE, simprocAttr]) | refine v'8 ?_ | refine v'9 ?_)
          refine key at1 left1 _ (Weak.ref ⟨?_, .inl ?_⟩)
          · simp only [wS, simprocAttr]; try exact rfl
          · simp only [wS, simprocAttr]; try exact rfl
      ·
        have a1 : (z < 3) = False := eq_false (by omega)
        have zb3 : (z == 3) = false := by simp; omega
        have zb4 : (z == 4) = false := by simp; omega
        have zb5 : (z == 5) = true := by simp; omega
        have zb6 : (z == 6) = false := by simp; omega
        have a6 : (z < 6) = True := eq_true (by omega)
        have hk : kind = 0 ∨ kind = 1 ∨ (kind ≠ 0 ∧ kind ≠ 1) := by omega
        rcases hk with hk | hk | ⟨hk, hk'⟩
        ·
          have d0 : (kind == 0) = true := by simp; omega
          have d1 : (kind == 1) = false := by simp; omega
          repeat' (first | refine v'1 fun _ _ => ?_ | refine v'2 ?_ | (first | refine v'3 ?_ | refine v'4 ?_ | refine v'5 fun _ _ _ _ => ?_ | (refine v'6 (fun hg => ?_) (fun hg => ?_) <;> try simp only [hg])) <;> simp only [wS, simprocAttr, a1, zb3, zb4, zb5, zb6, a6, d0, d1] | (refine v'7 ?_; try simp only [wE, simprocAttr]) | refine v'8 ?_ | refine v'9 ?_)
          refine eg_mc (call_ok hx _ depth (by omega) hd2 (fun kd => hE hpos kd _ (.inl rfl))) at1 left1 (by refine ⟨?_, ?_, ?_, ?_, ?_⟩ <;> (simp only [wS, simprocAttr, MX.row]; try exact rfl)) ?_
          rintro v at2 left2 ⟨c2, rfl, hc2⟩ -
          have hd2 := hc2
          cases hc2 with
          | mk k2 n2 m2 b2 es2 hl2 hh2 =>
          simp only [wS, simprocAttr, MX.row, a1, zb3, zb4, zb5, zb6, a6, d0, d1]
          repeat' (first | refine v'1 fun _ _ => ?_ | refine v'2 ?_ | (first | refine v'3 ?_ | refine v'4 ?_ | refine v'5 fun _ _ _ _ => ?_ | (refine v'6 (fun hg => ?_) (fun hg => ?_) <;> try simp only [hg])) <;> simp only [wS, simprocAttr, MX.row, a1, zb3, zb4, zb5, zb6, a6, d0, d1] | (refine v'7 ?_; try simp only [wE, simprocAttr]) | refine v'8 ?_ | refine v'9 ?_)
          refine eg_retC (v := ?rv6) rfl ?hl6 ?_
          case hl6 => simp only [wS, simprocAttr]; exact rfl
          refine EG.of (?v_6, ?a_6, ?l_6) ⟨?hV_6, ?hi_6⟩ ⟨?hv_6, ?g1_6, ?g2_6, ?g3_6, ?g4_6, ?g5_6⟩
          case hv_6 => simp only [wS, simprocAttr]; exact rfl
          case g1_6 => simp only [wS, simprocAttr]; exact rfl
          case g2_6 => simp only [wS, simprocAttr]; try exact rfl
          case g3_6 => simp only [wS, simprocAttr]; try exact rfl
          case g4_6 => simp only [wS, simprocAttr]; try exact rfl
          case g5_6 => simp only [wS, simprocAttr]; try exact rfl
          case hV_6 => exact VN.up (⟨_, rfl, hd2⟩ ) (by omega)
          case hi_6 => exact VN.tree (⟨_, rfl, hd2⟩ )
        ·
          have d0 : (kind == 0) = false := by simp; omega
          have d1 : (kind == 1) = true := by simp; omega
          repeat' (first | refine v'1 fun _ _ => ?_ | refine v'2 ?_ | (first | refine v'3 ?_ | refine v'4 ?_ | refine v'5 fun _ _ _ _ => ?_ | (refine v'6 (fun hg => ?_) (fun hg => ?_) <;> try simp only [hg])) <;> simp only [wS, simprocAttr, a1, zb3, zb4, zb5, zb6, a6, d0, d1, e1, e2] | (refine v'7 ?_; try simp only [wE, simprocAttr]) | refine v'8 ?_ | refine v'9 ?_)
          refine eg_mc (hE hpos _ (depth - 1) (.inl rfl)) at1 left1 (by refine ⟨?_, ?_, ?_, ?_, ?_⟩ <;> (simp only [wS, simprocAttr, MX.row]; try exact rfl)) ?_
          rintro v at2 left2 ⟨c, rfl, hc2⟩ -
          have hd2 := hc2
          cases hc2 with
          | mk k2 n2 m2 b2 es2 hl2 hh2 =>
          simp only [wS, simprocAttr, MX.row, a1, zb3, zb4, zb5, zb6, a6, d0, d1, e1, e2]
          repeat' (first | refine v'1 fun _ _ => ?_ | refine v'2 ?_ | (first | refine v'3 ?_ | refine v'4 ?_ | refine v'5 fun _ _ _ _ => ?_ | (refine v'6 (fun hg => ?_) (fun hg => ?_) <;> try simp only [hg])) <;> simp only [wS, simprocAttr, MX.row, a1, zb3, zb4, zb5, zb6, a6, d0, d1, e1, e2] | (refine v'7 ?_; try simp only [wE, simprocAttr]) | refine v'8 ?_ | refine v'9 ?_)
          refine eg_mc (node_ok hx _ _ _ _ (by simp) (ones hd2)) at2 left2 (by refine ⟨?_, ?_, ?_, ?_, ?_⟩ <;> (simp only [wS, simprocAttr, MX.row]; try exact rfl)) ?_
          rintro v at9 left9 ⟨rfl, hvn⟩ -
          simp only [wS, simprocAttr, MX.row, a1, zb3, zb4, zb5, zb6, a6, d0, d1]
          repeat' (first | refine v'1 fun _ _ => ?_ | refine v'2 ?_ | (first | refine v'3 ?_ | refine v'4 ?_ | refine v'5 fun _ _ _ _ => ?_ | (refine v'6 (fun hg => ?_) (fun hg => ?_) <;> try simp only [hg])) <;> simp only [wS, simprocAttr, MX.row, a1, zb3, zb4, zb5, zb6, a6, d0, d1] | (refine v'7 ?_; try simp only [wE, simprocAttr]) | refine v'8 ?_ | refine v'9 ?_)
          refine eg_retC (v := ?rv7) rfl ?hl7 ?_
          case hl7 => simp only [wS, simprocAttr]; exact rfl
          refine EG.of (?v_7, ?a_7, ?l_7) ⟨?hV_7, ?hi_7⟩ ⟨?hv_7, ?g1_7, ?g2_7, ?g3_7, ?g4_7, ?g5_7⟩
          case hv_7 => simp only [wS, simprocAttr]; exact rfl
          case g1_7 => simp only [wS, simprocAttr]; exact rfl
          case g2_7 => simp only [wS, simprocAttr]; try exact rfl
          case g3_7 => simp only [wS, simprocAttr]; try exact rfl
          case g4_7 => simp only [wS, simprocAttr]; try exact rfl
          case g5_7 => simp only [wS, simprocAttr]; try exact rfl
          case hV_7 => exact VN.up (hvn) (by omega)
          case hi_7 => exact hvn.tree
        ·
          have d0 : (kind == 0) = false := by simp; omega
          have d1 : (kind == 1) = false := by simp; omega
          repeat' (first | refine v'1 fun _ _ => ?_ | refine v'2 ?_ | (first | refine v'3 ?_ | refine v'4 ?_ | refine v'5 fun _ _ _ _ => ?_ | (refine v'6 (fun hg => ?_) (fun hg => ?_) <;> try simp only [hg])) <;> simp only [wS, simprocAttr, a1, zb3, zb4, zb5, zb6, a6, d0, d1] | (refine v'7 ?_; try simp only [wE, simprocAttr]) | refine v'8 ?_ | refine v'9 ?_)
          refine key at1 left1 _ (Weak.ref ⟨?_, .inl ?_⟩)
          · simp only [wS, simprocAttr]; try exact rfl
          · simp only [wS, simprocAttr]; try exact rfl
      ·
        have a1 : (z < 3) = False := eq_false (by omega)
        have zb3 : (z == 3) = false := by simp; omega
        have zb4 : (z == 4) = false := by simp; omega
        have zb5 : (z == 5) = false := by simp; omega
        have zb6 : (z == 6) = true := by simp; omega
        have a6 : (z < 6) = False := eq_false (by omega)
        have hk : kind = 0 ∨ kind = 1 ∨ (kind ≠ 0 ∧ kind ≠ 1) := by omega
        rcases hk with hk | hk | ⟨hk, hk'⟩
        ·
          have d0 : (kind == 0) = true := by simp; omega
          have d1 : (kind == 1) = false := by simp; omega
          cases con with
          | false =>
            repeat' (first | refine v'1 fun _ _ => ?_ | refine v'2 ?_ | (first | refine v'3 ?_ | refine v'4 ?_ | refine v'5 fun _ _ _ _ => ?_ | (refine v'6 (fun hg => ?_) (fun hg => ?_) <;> try simp only [hg])) <;> simp only [wS, simprocAttr, a1, zb3, zb4, zb5, zb6, a6, d0, d1] | (refine v'7 ?_; try simp only [wE, simprocAttr]) | refine v'8 ?_ | refine v'9 ?_)
            refine key at1 left1 _ (Weak.ref ⟨?_, .inl ?_⟩)
            · simp only [wS, simprocAttr]; try exact rfl
            · simp only [wS, simprocAttr]; try exact rfl
          | true =>
            repeat' (first | refine v'1 fun _ _ => ?_ | refine v'2 ?_ | (first | refine v'3 ?_ | refine v'4 ?_ | refine v'5 fun _ _ _ _ => ?_ | (refine v'6 (fun hg => ?_) (fun hg => ?_) <;> try simp only [hg])) <;> simp only [wS, simprocAttr, a1, zb3, zb4, zb5, zb6, a6, d0, d1] | (refine v'7 ?_; try simp only [wE, simprocAttr]) | refine v'8 ?_ | refine v'9 ?_)
            refine eg_mc (draw_ok hx pn (hcp rfl)) at1 left1 (by refine ⟨?_, ?_, ?_, ?_, ?_⟩ <;> (simp only [wS, simprocAttr, MX.row]; try exact rfl)) ?_
            rintro v at2 left2 ⟨y, rfl, hy1, hy2⟩ -
            simp only [wS, simprocAttr, MX.row, a1, zb3, zb4, zb5, zb6, a6, d0, d1]
            repeat' (first | refine v'1 fun _ _ => ?_ | refine v'2 ?_ | (first | refine v'3 ?_ | refine v'4 ?_ | refine v'5 fun _ _ _ _ => ?_ | (refine v'6 (fun hg => ?_) (fun hg => ?_) <;> try simp only [hg])) <;> simp only [wS, simprocAttr, MX.row, a1, zb3, zb4, zb5, zb6, a6, d0, d1] | (refine v'7 ?_; try simp only [wE, simprocAttr]) | refine v'8 ?_ | refine v'9 ?_)
            refine eg_mc (node_ok hx _ _ _ _ (by simp) nones) at2 left2 (by refine ⟨?_, ?_, ?_, ?_, ?_⟩ <;> (simp only [wS, simprocAttr, MX.row]; try exact rfl)) ?_
            rintro v at9 left9 ⟨rfl, hvn⟩ -
            simp only [wS, simprocAttr, MX.row, a1, zb3, zb4, zb5, zb6, a6, d0, d1]
            repeat' (first | refine v'1 fun _ _ => ?_ | refine v'2 ?_ | (first | refine v'3 ?_ | refine v'4 ?_ | refine v'5 fun _ _ _ _ => ?_ | (refine v'6 (fun hg => ?_) (fun hg => ?_) <;> try simp only [hg])) <;> simp only [wS, simprocAttr, MX.row, a1, zb3, zb4, zb5, zb6, a6, d0, d1] | (refine v'7 ?_; try simp only [wE, simprocAttr]) | refine v'8 ?_ | refine v'9 ?_)
            refine eg_retC (v := ?rv8) rfl ?hl8 ?_
            case hl8 => simp only [wS, simprocAttr]; exact rfl
            refine EG.of (?v_8, ?a_8, ?l_8) ⟨?hV_8, ?hi_8⟩ ⟨?hv_8, ?g1_8, ?g2_8, ?g3_8, ?g4_8, ?g5_8⟩
            case hv_8 => simp only [wS, simprocAttr]; exact rfl
            case g1_8 => simp only [wS, simprocAttr]; exact rfl
            case g2_8 => simp only [wS, simprocAttr]; try exact rfl
            case g3_8 => simp only [wS, simprocAttr]; try exact rfl
            case g4_8 => simp only [wS, simprocAttr]; try exact rfl
            case g5_8 => simp only [wS, simprocAttr]; try exact rfl
            case hV_8 => exact VN.up (hvn) (by omega)
            case hi_8 => exact hvn.tree
        ·
          have d0 : (kind == 0) = false := by simp; omega
          have d1 : (kind == 1) = true := by simp; omega
          cases con <;> skip
          all_goals repeat' (first | refine v'1 fun _ _ => ?_ | refine v'2 ?_ | (first | refine v'3 ?_ | refine v'4 ?_ | refine v'5 fun _ _ _ _ => ?_ | (refine v'6 (fun hg => ?_) (fun hg => ?_) <;> try simp only [hg])) <;> simp only [wS, simprocAttr, a1, zb3, zb4, zb5, zb6, a6, d0, d1] | (refine v'7 ?_; try simp only [wE, simprocAttr]) | refine v'8 ?_ | refine v'9 ?_)
          · refine key at1 left1 _ (Weak.ref ⟨?_, .inl ?_⟩)
            · simp only [wS, simprocAttr]; try exact rfl
            · simp only [wS, simprocAttr]; try exact rfl
          · refine key at1 left1 _ (Weak.ref ⟨?_, .inl ?_⟩)
            · simp only [wS, simprocAttr]; try exact rfl
            · simp only [wS, simprocAttr]; try exact rfl
        ·
          have d0 : (kind == 0) = false := by simp; omega
          have d1 : (kind == 1) = false := by simp; omega
          cases con <;> skip
          all_goals repeat' (first | refine v'1 fun _ _ => ?_ | refine v'2 ?_ | (first | refine v'3 ?_ | refine v'4 ?_ | refine v'5 fun _ _ _ _ => ?_ | (refine v'6 (fun hg => ?_) (fun hg => ?_) <;> try simp only [hg])) <;> simp only [wS, simprocAttr, a1, zb3, zb4, zb5, zb6, a6, d0, d1] | (refine v'7 ?_; try simp only [wE, simprocAttr]) | refine v'8 ?_ | refine v'9 ?_)
          · refine key at1 left1 _ (Weak.ref ⟨?_, .inl ?_⟩)
            · simp only [wS, simprocAttr]; try exact rfl
            · simp only [wS, simprocAttr]; try exact rfl
          · refine key at1 left1 _ (Weak.ref ⟨?_, .inl ?_⟩)
            · simp only [wS, simprocAttr]; try exact rfl
            · simp only [wS, simprocAttr]; try exact rfl
      ·
        have a1 : (z < 3) = False := eq_false (by omega)
        have zb3 : (z == 3) = false := by simp; omega
        have zb4 : (z == 4) = false := by simp; omega
        have zb5 : (z == 5) = false := by simp; omega
        have zb6 : (z == 6) = false := by simp; omega
        have a6 : (z < 6) = False := eq_false (by omega)
        repeat' (first | refine v'1 fun _ _ => ?_ | refine v'2 ?_ | (first | refine v'3 ?_ | refine v'4 ?_ | refine v'5 fun _ _ _ _ => ?_ | (refine v'6 (fun hg => ?_) (fun hg => ?_) <;> try simp only [hg])) <;> simp only [wS, simprocAttr, a1, zb3, zb4, zb5, zb6, a6] | (refine v'7 ?_; try simp only [wE, simprocAttr]) | refine v'8 ?_ | refine v'9 ?_)
        refine key at1 left1 _ (Weak.ref ⟨?_, .inl ?_⟩)
        · simp only [wS, simprocAttr]; try exact rfl
        · simp only [wS, simprocAttr]; try exact rfl
end Go.Proofs.YtpdibmopbpcfdaaDoor
