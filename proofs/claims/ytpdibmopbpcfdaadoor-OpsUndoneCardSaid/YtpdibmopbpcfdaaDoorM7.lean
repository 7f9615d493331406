import Derived.Test.YtpdibmopbpcfdaaDoorM6
set_option linter.unusedVariables false
set_option linter.unusedSimpArgs false
namespace Go.Proofs.YtpdibmopbpcfdaaDoor
open Go.AM
theorem leaf_ok {x : MX} (hx : x.ok) (kind : Int) : MC x 82 [.int .i64 kind] (VN 1) := by
  obtain ⟨r, f, hva⟩ := vars_ok hx
  refine mc_of_body hx Tryd.func82 rfl (by kernel_rfl) (by simp [Tryd.ntmps82]) rfl fun at0 left => ?_
  simp only [Tryd.ntmps82, enterF, Nat.reduceAdd, MX.row]
  repeat' (first | refine v'1 fun _ _ => ?_ | refine v'2 ?_ | (first | refine v'3 ?_ | refine v'4 ?_ | refine v'5 fun _ _ _ _ => ?_ | (refine v'6 (fun hg => ?_) (fun hg => ?_) <;> try simp only [hg])) <;> simp only [wS, simprocAttr] | (refine v'7 ?_; try simp only [wE, simprocAttr]) | refine v'8 ?_ | refine v'9 ?_)
  refine eg_mc (draw_ok hx 3 (by decide)) at0 left (by refine ⟨?_, ?_, ?_, ?_, ?_⟩ <;> (simp only [wS, simprocAttr]; try exact rfl)) ?_
  rintro v at1 left1 ⟨z, rfl, hz1, hz2⟩ -
  simp only [wS, simprocAttr, MX.row]
  repeat' (first | refine v'1 fun _ _ => ?_ | refine v'2 ?_ | (first | refine v'3 ?_ | refine v'4 ?_ | refine v'5 fun _ _ _ _ => ?_ | (refine v'6 (fun hg => ?_) (fun hg => ?_) <;> try simp only [hg])) <;> simp only [wS, simprocAttr, MX.row] | (refine v'7 ?_; try simp only [wE, simprocAttr]) | refine v'8 ?_ | refine v'9 ?_)
  refine eg_split (fun h => ?_) (fun h => ?_)
  · repeat' (first | refine v'1 fun _ _ => ?_ | refine v'2 ?_ | (first | refine v'3 ?_ | refine v'4 ?_ | refine v'5 fun _ _ _ _ => ?_ | (refine v'6 (fun hg => ?_) (fun hg => ?_) <;> try simp only [hg])) <;> simp only [wS, simprocAttr] | (refine v'7 ?_; try simp only [wE, simprocAttr]) | refine v'8 ?_ | refine v'9 ?_)
    refine eg_mc (pick_ok hx kind hva) at1 left1 (by refine ⟨?_, ?_, ?_, ?_, ?_⟩ <;> (simp only [wS, simprocAttr]; try exact rfl)) ?_
    rintro v at2 left2 ⟨y, rfl, hy1, hy2⟩ -
    simp only [wS, simprocAttr, MX.row]
    repeat' (first | refine v'1 fun _ _ => ?_ | refine v'2 ?_ | (first | refine v'3 ?_ | refine v'4 ?_ | refine v'5 fun _ _ _ _ => ?_ | (refine v'6 (fun hg => ?_) (fun hg => ?_) <;> try simp only [hg])) <;> simp only [wS, simprocAttr, MX.row] | (refine v'7 ?_; try simp only [wE, simprocAttr]) | refine v'8 ?_ | refine v'9 ?_)
    refine eg_split (fun h2 => ?_) (fun h2 => ?_)
    · repeat' (first | refine v'1 fun _ _ => ?_ | refine v'2 ?_ | (first | refine v'3 ?_ | refine v'4 ?_ | refine v'5 fun _ _ _ _ => ?_ | (refine v'6 (fun hg => ?_) (fun hg => ?_) <;> try simp only [hg])) <;> simp only [wS, simprocAttr] | (refine v'7 ?_; try simp only [wE, simprocAttr]) | refine v'8 ?_ | refine v'9 ?_)
      refine eg_mc (node_ok hx _ _ _ _ (by simp) nones) at2 left2 (by refine ⟨?_, ?_, ?_, ?_, ?_⟩ <;> (simp only [wS, simprocAttr]; try exact rfl)) ?_
      rintro v at3 left3 ⟨rfl, hn⟩ -
      simp only [wS, simprocAttr, MX.row]
      repeat' (first | refine v'1 fun _ _ => ?_ | refine v'2 ?_ | (first | refine v'3 ?_ | refine v'4 ?_ | refine v'5 fun _ _ _ _ => ?_ | (refine v'6 (fun hg => ?_) (fun hg => ?_) <;> try simp only [hg])) <;> simp only [wS, simprocAttr, MX.row] | (refine v'7 ?_; try simp only [wE, simprocAttr]) | refine v'8 ?_ | refine v'9 ?_)
      refine eg_retC (v := ?rv0) rfl ?hl0 ?_
      case hl0 => simp only [wS, simprocAttr]; exact rfl
      refine EG.of (?v_0, ?a_0, ?l_0) ⟨?hV_0, ?hi_0⟩ ⟨?hv_0, ?g1_0, ?g2_0, ?g3_0, ?g4_0, ?g5_0⟩
      case hv_0 => simp only [wS, simprocAttr]; exact rfl
      case g1_0 => simp only [wS, simprocAttr]; exact rfl
      case g2_0 => simp only [wS, simprocAttr]; try exact hA.symm
      case g3_0 => simp only [wS, simprocAttr]; try exact hA.symm
      case g4_0 => simp only [wS, simprocAttr]; try exact hA.symm
      case g5_0 => simp only [wS, simprocAttr]; try exact hA.symm
      case hV_0 => exact VN.up (hn) (by omega)
      case hi_0 => exact hn.tree
    · repeat' (first | refine v'1 fun _ _ => ?_ | refine v'2 ?_ | (first | refine v'3 ?_ | refine v'4 ?_ | refine v'5 fun _ _ _ _ => ?_ | (refine v'6 (fun hg => ?_) (fun hg => ?_) <;> try simp only [hg])) <;> simp only [wS, simprocAttr] | (refine v'7 ?_; try simp only [wE, simprocAttr]) | refine v'8 ?_ | refine v'9 ?_)
      refine eg_split (fun h3 => ?_) (fun h3 => ?_)
      · repeat' (first | refine v'1 fun _ _ => ?_ | refine v'2 ?_ | (first | refine v'3 ?_ | refine v'4 ?_ | refine v'5 fun _ _ _ _ => ?_ | (refine v'6 (fun hg => ?_) (fun hg => ?_) <;> try simp only [hg])) <;> simp only [wS, simprocAttr] | (refine v'7 ?_; try simp only [wE, simprocAttr]) | refine v'8 ?_ | refine v'9 ?_)
        refine eg_mc (draw_ok hx 2 (by decide)) at2 left2 (by refine ⟨?_, ?_, ?_, ?_, ?_⟩ <;> (simp only [wS, simprocAttr]; try exact rfl)) ?_
        rintro v at4 left4 ⟨w, rfl, hw1, hw2⟩ -
        simp only [wS, simprocAttr, MX.row]
        repeat' (first | refine v'1 fun _ _ => ?_ | refine v'2 ?_ | (first | refine v'3 ?_ | refine v'4 ?_ | refine v'5 fun _ _ _ _ => ?_ | (refine v'6 (fun hg => ?_) (fun hg => ?_) <;> try simp only [hg])) <;> simp only [wS, simprocAttr, MX.row] | (refine v'7 ?_; try simp only [wE, simprocAttr]) | refine v'8 ?_ | refine v'9 ?_)
        refine eg_mc (node_ok hx _ _ _ _ (by simp) nones) at4 left4 (by refine ⟨?_, ?_, ?_, ?_, ?_⟩ <;> (simp only [wS, simprocAttr]; try exact rfl)) ?_
        rintro v at5 left5 ⟨rfl, hn⟩ -
        simp only [wS, simprocAttr, MX.row]
        repeat' (first | refine v'1 fun _ _ => ?_ | refine v'2 ?_ | (first | refine v'3 ?_ | refine v'4 ?_ | refine v'5 fun _ _ _ _ => ?_ | (refine v'6 (fun hg => ?_) (fun hg => ?_) <;> try simp only [hg])) <;> simp only [wS, simprocAttr, MX.row] | (refine v'7 ?_; try simp only [wE, simprocAttr]) | refine v'8 ?_ | refine v'9 ?_)
        refine eg_retC (v := ?rv1) rfl ?hl1 ?_
        case hl1 => simp only [wS, simprocAttr]; exact rfl
        refine EG.of (?v_1, ?a_1, ?l_1) ⟨?hV_1, ?hi_1⟩ ⟨?hv_1, ?g1_1, ?g2_1, ?g3_1, ?g4_1, ?g5_1⟩
        case hv_1 => simp only [wS, simprocAttr]; exact rfl
        case g1_1 => simp only [wS, simprocAttr]; exact rfl
        case g2_1 => simp only [wS, simprocAttr]; try exact hA.symm
        case g3_1 => simp only [wS, simprocAttr]; try exact hA.symm
        case g4_1 => simp only [wS, simprocAttr]; try exact hA.symm
        case g5_1 => simp only [wS, simprocAttr]; try exact hA.symm
        case hV_1 => exact VN.up (hn) (by omega)
        case hi_1 => exact hn.tree
      · repeat' (first | refine v'1 fun _ _ => ?_ | refine v'2 ?_ | (first | refine v'3 ?_ | refine v'4 ?_ | refine v'5 fun _ _ _ _ => ?_ | (refine v'6 (fun hg => ?_) (fun hg => ?_) <;> try simp only [hg])) <;> simp only [wS, simprocAttr] | (refine v'7 ?_; try simp only [wE, simprocAttr]) | refine v'8 ?_ | refine v'9 ?_)
        refine eg_mc (draw_ok hx 10 (by decide)) at2 left2 (by refine ⟨?_, ?_, ?_, ?_, ?_⟩ <;> (simp only [wS, simprocAttr]; try exact rfl)) ?_
        rintro v at4 left4 ⟨w, rfl, hw1, hw2⟩ -
        obtain ⟨j0, rfl⟩ : ∃ j : Nat, w = j := ⟨w.toNat, (Int.toNat_of_nonneg hw1).symm⟩
        obtain ⟨y0, t0⟩ : ∃ y, ([[AV.int .i64 0], [AV.int .i64 1], [AV.int .i64 2], [AV.int .i64 3], [AV.int .i64 (-1)], [AV.int .i64 7], [AV.int .i64 (-8)], [AV.int .i64 5], [AV.int .i64 4], [AV.int .i64 (-3)]] : List (List AV))[j0]? = some [AV.int .i64 y] := by
          have hj : j0 = 0 ∨ j0 = 1 ∨ j0 = 2 ∨ j0 = 3 ∨ j0 = 4 ∨ j0 = 5 ∨ j0 = 6 ∨ j0 = 7 ∨ j0 = 8 ∨ j0 = 9 := by omega
          rcases hj with rfl | rfl | rfl | rfl | rfl | rfl | rfl | rfl | rfl | rfl <;> exact ⟨_, rfl⟩
        simp only [wS, simprocAttr, MX.row, t0]
        repeat' (first | refine v'1 fun _ _ => ?_ | refine v'2 ?_ | (first | refine v'3 ?_ | refine v'4 ?_ | refine v'5 fun _ _ _ _ => ?_ | (refine v'6 (fun hg => ?_) (fun hg => ?_) <;> try simp only [hg])) <;> simp only [wS, simprocAttr, MX.row, t0] | (refine v'7 ?_; try simp only [wE, simprocAttr]) | refine v'8 ?_ | refine v'9 ?_)
        refine eg_mc (node_ok hx _ _ _ _ (by simp) nones) at4 left4 (by refine ⟨?_, ?_, ?_, ?_, ?_⟩ <;> (simp only [wS, simprocAttr]; try exact rfl)) ?_
        rintro v at5 left5 ⟨rfl, hn⟩ -
        simp only [wS, simprocAttr, MX.row]
        repeat' (first | refine v'1 fun _ _ => ?_ | refine v'2 ?_ | (first | refine v'3 ?_ | refine v'4 ?_ | refine v'5 fun _ _ _ _ => ?_ | (refine v'6 (fun hg => ?_) (fun hg => ?_) <;> try simp only [hg])) <;> simp only [wS, simprocAttr, MX.row] | (refine v'7 ?_; try simp only [wE, simprocAttr]) | refine v'8 ?_ | refine v'9 ?_)
        refine eg_retC (v := ?rv2) rfl ?hl2 ?_
        case hl2 => simp only [wS, simprocAttr]; exact rfl
        refine EG.of (?v_2, ?a_2, ?l_2) ⟨?hV_2, ?hi_2⟩ ⟨?hv_2, ?g1_2, ?g2_2, ?g3_2, ?g4_2, ?g5_2⟩
        case hv_2 => simp only [wS, simprocAttr]; exact rfl
        case g1_2 => simp only [wS, simprocAttr]; exact rfl
        case g2_2 => simp only [wS, simprocAttr]; try exact hA.symm
        case g3_2 => simp only [wS, simprocAttr]; try exact hA.symm
        case g4_2 => simp only [wS, simprocAttr]; try exact hA.symm
        case g5_2 => simp only [wS, simprocAttr]; try exact hA.symm
        case hV_2 => exact VN.up (hn) (by omega)
        case hi_2 => exact hn.tree
  · repeat' (first | refine v'1 fun _ _ => ?_ | refine v'2 ?_ | (first | refine v'3 ?_ | refine v'4 ?_ | refine v'5 fun _ _ _ _ => ?_ | (refine v'6 (fun hg => ?_) (fun hg => ?_) <;> try simp only [hg])) <;> simp only [wS, simprocAttr] | (refine v'7 ?_; try simp only [wE, simprocAttr]) | refine v'8 ?_ | refine v'9 ?_)
    refine eg_split (fun h3 => ?_) (fun h3 => ?_)
    · repeat' (first | refine v'1 fun _ _ => ?_ | refine v'2 ?_ | (first | refine v'3 ?_ | refine v'4 ?_ | refine v'5 fun _ _ _ _ => ?_ | (refine v'6 (fun hg => ?_) (fun hg => ?_) <;> try simp only [hg])) <;> simp only [wS, simprocAttr] | (refine v'7 ?_; try simp only [wE, simprocAttr]) | refine v'8 ?_ | refine v'9 ?_)
      refine eg_mc (draw_ok hx 2 (by decide)) at1 left1 (by refine ⟨?_, ?_, ?_, ?_, ?_⟩ <;> (simp only [wS, simprocAttr]; try exact rfl)) ?_
      rintro v at4 left4 ⟨w, rfl, hw1, hw2⟩ -
      simp only [wS, simprocAttr, MX.row]
      repeat' (first | refine v'1 fun _ _ => ?_ | refine v'2 ?_ | (first | refine v'3 ?_ | refine v'4 ?_ | refine v'5 fun _ _ _ _ => ?_ | (refine v'6 (fun hg => ?_) (fun hg => ?_) <;> try simp only [hg])) <;> simp only [wS, simprocAttr, MX.row] | (refine v'7 ?_; try simp only [wE, simprocAttr]) | refine v'8 ?_ | refine v'9 ?_)
      refine eg_mc (node_ok hx _ _ _ _ (by simp) nones) at4 left4 (by refine ⟨?_, ?_, ?_, ?_, ?_⟩ <;> (simp only [wS, simprocAttr]; try exact rfl)) ?_
      rintro v at5 left5 ⟨rfl, hn⟩ -
      simp only [wS, simprocAttr, MX.row]
      repeat' (first | refine v'1 fun _ _ => ?_ | refine v'2 ?_ | (first | refine v'3 ?_ | refine v'4 ?_ | refine v'5 fun _ _ _ _ => ?_ | (refine v'6 (fun hg => ?_) (fun hg => ?_) <;> try simp only [hg])) <;> simp only [wS, simprocAttr, MX.row] | (refine v'7 ?_; try simp only [wE, simprocAttr]) | refine v'8 ?_ | refine v'9 ?_)
      refine eg_retC (v := ?rv3) rfl ?hl3 ?_
      case hl3 => simp only [wS, simprocAttr]; exact rfl
      refine EG.of (?v_3, ?a_3, ?l_3) ⟨?hV_3, ?hi_3⟩ ⟨?hv_3, ?g1_3, ?g2_3, ?g3_3, ?g4_3, ?g5_3⟩
      case hv_3 => simp only [wS, simprocAttr]; exact rfl
      case g1_3 => simp only [wS, simprocAttr]; exact rfl
      case g2_3 => simp only [wS, simprocAttr]; try exact hA.symm
      case g3_3 => simp only [wS, simprocAttr]; try exact hA.symm
      case g4_3 => simp only [wS, simprocAttr]; try exact hA.symm
      case g5_3 => simp only [wS, simprocAttr]; try exact hA.symm
      case hV_3 => exact VN.up (hn) (by omega)
      case hi_3 => exact hn.tree
    · repeat' (first | refine v'1 fun _ _ => ?_ | refine v'2 ?_ | (first | refine v'3 ?_ | refine v'4 ?_ | refine v'5 fun _ _ _ _ => ?_ | (refine v'6 (fun hg => ?_) (fun hg => ?_) <;> try simp only [hg])) <;> simp only [wS, simprocAttr] | (refine v'7 ?_; try simp only [wE, simprocAttr]) | refine v'8 ?_ | refine v'9 ?_)
      refine eg_mc (draw_ok hx 10 (by decide)) at1 left1 (by refine ⟨?_, ?_, ?_, ?_, ?_⟩ <;> (simp only [wS, simprocAttr]; try exact rfl)) ?_
      rintro v at4 left4 ⟨w, rfl, hw1, hw2⟩ -
      obtain ⟨j0, rfl⟩ : ∃ j : Nat, w = j := ⟨w.toNat, (Int.toNat_of_nonneg hw1).symm⟩
      obtain ⟨y0, t0⟩ : ∃ y, ([[AV.int .i64 0], [AV.int .i64 1], [AV.int .i64 2], [AV.int .i64 3], [AV.int .i64 (-1)], [AV.int .i64 7], [AV.int .i64 (-8)], [AV.int .i64 5], [AV.int .i64 4], [AV.int .i64 (-3)]] : List (List AV))[j0]? = some [AV.int .i64 y] := by
        have hj : j0 = 0 ∨ j0 = 1 ∨ j0 = 2 ∨ j0 = 3 ∨ j0 = 4 ∨ j0 = 5 ∨ j0 = 6 ∨ j0 = 7 ∨ j0 = 8 ∨ j0 = 9 := by omega
        rcases hj with rfl | rfl | rfl | rfl | rfl | rfl | rfl | rfl | rfl | rfl <;> exact ⟨_, rfl⟩
      simp only [wS, simprocAttr, MX.row, t0]
      repeat' (first | refine v'1 fun _ _ => ?_ | refine v'2 ?_ | (first | refine v'3 ?_ | refine v'4 ?_ | refine v'5 fun _ _ _ _ => ?_ | (refine v'6 (fun hg => ?_) (fun hg => ?_) <;> try simp only [hg])) <;> simp only [wS, simprocAttr, MX.row, t0] | (refine v'7 ?_; try simp only [wE, simprocAttr]) | refine v'8 ?_ | refine v'9 ?_)
      refine eg_mc (node_ok hx _ _ _ _ (by simp) nones) at4 left4 (by refine ⟨?_, ?_, ?_, ?_, ?_⟩ <;> (simp only [wS, simprocAttr]; try exact rfl)) ?_
      rintro v at5 left5 ⟨rfl, hn⟩ -
      simp only [wS, simprocAttr, MX.row]
      repeat' (first | refine v'1 fun _ _ => ?_ | refine v'2 ?_ | (first | refine v'3 ?_ | refine v'4 ?_ | refine v'5 fun _ _ _ _ => ?_ | (refine v'6 (fun hg => ?_) (fun hg => ?_) <;> try simp only [hg])) <;> simp only [wS, simprocAttr, MX.row] | (refine v'7 ?_; try simp only [wE, simprocAttr]) | refine v'8 ?_ | refine v'9 ?_)
      refine eg_retC (v := ?rv4) rfl ?hl4 ?_
      case hl4 => simp only [wS, simprocAttr]; exact rfl
      refine EG.of (?v_4, ?a_4, ?l_4) ⟨?hV_4, ?hi_4⟩ ⟨?hv_4, ?g1_4, ?g2_4, ?g3_4, ?g4_4, ?g5_4⟩
      case hv_4 => simp only [wS, simprocAttr]; exact rfl
      case g1_4 => simp only [wS, simprocAttr]; exact rfl
      case g2_4 => simp only [wS, simprocAttr]; try exact hA.symm
      case g3_4 => simp only [wS, simprocAttr]; try exact hA.symm
      case g4_4 => simp only [wS, simprocAttr]; try exact hA.symm
      case g5_4 => simp only [wS, simprocAttr]; try exact hA.symm
      case hV_4 => exact VN.up (hn) (by omega)
      case hi_4 => exact hn.tree
end Go.Proofs.YtpdibmopbpcfdaaDoor
