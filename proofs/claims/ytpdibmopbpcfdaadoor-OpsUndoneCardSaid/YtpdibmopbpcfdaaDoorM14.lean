import Derived.Test.YtpdibmopbpcfdaaDoorMA
set_option linter.unusedVariables false
set_option linter.unusedSimpArgs false
namespace Go.Proofs.YtpdibmopbpcfdaaDoor
open Go.AM
set_option maxRecDepth 100000
set_option maxHeartbeats 16000000 in
theorem stmt_step {D : Nat} (hD : 5 ≤ D) {x : MX} (hx : x.ok) (depth : Int) (hE : ∀ kd dd : Int, (dd = 1 ∨ dd = 2 ∨ dd = 3 ∨ dd = 0) → MC x 74 [.int .i64 kd, .int .i64 dd] (VN 4)) (hN : 0 < depth → MC x 72 [.int .i64 depth] (VN D)) : MC x 62 [.int .i64 depth] (VN D) := by
  obtain ⟨r, f, hva⟩ := vars_ok hx
  obtain ⟨L, pk, pn, pm, F, kv, con, A2, A3, A4, A5⟩ := x
  have hcp : con = true → 0 < pn := hx.2.1
  refine mc_of_body hx Tryd.func62 rfl (by kernel_rfl) (by simp [Tryd.ntmps62]) rfl fun at0 left => ?_
  simp only [Tryd.ntmps62, enterF, Nat.reduceAdd, MX.row]
  refine eg_seq_k fun K0 hK0 => ?_
  replace hK0 := And.intro trivial hK0
  repeat' (first | refine v'1 fun _ _ => ?_ | refine v'2 ?_ | (first | refine v'3 ?_ | refine v'4 ?_ | refine v'5 fun _ _ _ _ => ?_ | (refine v'6 (fun hg => ?_) (fun hg => ?_) <;> try simp only [hg])) <;> simp only [wS, simprocAttr, MX.row] | (refine v'7 ?_; try simp only [wE, simprocAttr]) | refine v'8 ?_ | refine v'9 ?_)
  refine hK0.2.go ?_
  refine eg_seq_k fun K1 hK1 => ?_
  replace hK1 := And.intro trivial hK1
  repeat' (first | refine v'1 fun _ _ => ?_ | refine v'2 ?_ | (first | refine v'3 ?_ | refine v'4 ?_ | refine v'5 fun _ _ _ _ => ?_ | (refine v'6 (fun hg => ?_) (fun hg => ?_) <;> try simp only [hg])) <;> simp only [wS, simprocAttr, MX.row] | (refine v'7 ?_; try simp only [wE, simprocAttr]) | refine v'8 ?_ | refine v'9 ?_)
  refine eg_mc (draw_ok hx 16 (by decide)) at0 left (by refine ⟨?_, ?_, ?_, ?_, ?_⟩ <;> (simp only [wS, simprocAttr, MX.row]; try exact rfl)) ?_
  rintro v u1 w1 ⟨z, rfl, hz1, hz2⟩ -
  simp only [wS, simprocAttr, MX.row]
  repeat' (first | refine v'1 fun _ _ => ?_ | refine v'2 ?_ | (first | refine v'3 ?_ | refine v'4 ?_ | refine v'5 fun _ _ _ _ => ?_ | (refine v'6 (fun hg => ?_) (fun hg => ?_) <;> try simp only [hg])) <;> simp only [wS, simprocAttr, MX.row] | (refine v'7 ?_; try simp only [wE, simprocAttr]) | refine v'8 ?_ | refine v'9 ?_)
  refine hK1.2.go ?_
  refine eg_seq_k fun K2 hK2 => ?_
  replace hK2 := And.intro trivial hK2
  have key2 : ∀ (a l : Int) (s : AS), Ref G0 153 6 s ⟨mkF [(0, .ptr 1 0 0), (1, .int .i64 depth), (4, .ptr 6 0 0), (5, .int .i64 z)], [.dead, .cells 0 [encI L, .int .i64 a, .int .i64 l, .int .i64 pk, .int .i64 pn, .int .i64 pm, kv, .int .i64 F, .bool con], A2, A3, A4, A5, .cells 0 [.int .i64 0, .int .i64 0, .int .i64 0, .sl true []]]⟩ → EG (fun i : AV × Int × Int => VN D i.1 ∧ inR noRef i.1 = true) (fun i => K2 i s) := by
    intro a l s hr
    refine hK2.2.go (eg_ref hr ?_)
    refine eg_seq_k fun K4 hK4 => ?_
    replace hK4 := And.intro trivial hK4
    have key4 : ∀ (s : AS), Ref G0 153 6 s ⟨mkF [(0, .ptr 1 0 0), (1, .int .i64 depth), (4, .ptr 6 0 0), (5, .int .i64 z)], [.dead, .cells 0 [encI L, .int .i64 a, .int .i64 l, .int .i64 pk, .int .i64 pn, .int .i64 pm, kv, .int .i64 F, .bool con], A2, A3, A4, A5, .cells 0 [.int .i64 0, .int .i64 0, .int .i64 0, .sl true []]]⟩ → EG (fun i : AV × Int × Int => VN D i.1 ∧ inR noRef i.1 = true) (fun i => K4 i s) := by
      intro s hr
      refine hK4.2.go (eg_ref hr ?_)
      refine eg_seq_k fun K11 hK11 => ?_
      replace hK11 := And.intro trivial hK11
      have key11 : ∀ (a l : Int) (s : AS), Ref G0 153 6 s ⟨mkF [(0, .ptr 1 0 0), (4, .ptr 6 0 0)], [.dead, .cells 0 [encI L, .int .i64 a, .int .i64 l, .int .i64 pk, .int .i64 pn, .int .i64 pm, kv, .int .i64 F, .bool con], A2, A3, A4, A5, .cells 0 [.int .i64 0, .int .i64 0, .int .i64 0, .sl true []]]⟩ → EG (fun i : AV × Int × Int => VN D i.1 ∧ inR noRef i.1 = true) (fun i => K11 i s) := by
        intro a l s hr
        refine hK11.2.go (eg_ref hr ?_)
        repeat' (first | refine v'1 fun _ _ => ?_ | refine v'2 ?_ | (first | refine v'3 ?_ | refine v'4 ?_ | refine v'5 fun _ _ _ _ => ?_ | (refine v'6 (fun hg => ?_) (fun hg => ?_) <;> try simp only [hg])) <;> simp only [wS, simprocAttr, MX.row] | (refine v'7 ?_; try simp only [wE, simprocAttr]) | refine v'8 ?_ | refine v'9 ?_)
        refine eg_mc (pick_ok hx _ hva) a l (by refine ⟨?_, ?_, ?_, ?_, ?_⟩ <;> (simp only [wS, simprocAttr, MX.row]; try exact rfl)) ?_
        rintro v u90 w90 ⟨y, rfl, hy1, hy2⟩ -
        simp only [wS, simprocAttr, MX.row]
        repeat' (first | refine v'1 fun _ _ => ?_ | refine v'2 ?_ | (first | refine v'3 ?_ | refine v'4 ?_ | refine v'5 fun _ _ _ _ => ?_ | (refine v'6 (fun hg => ?_) (fun hg => ?_) <;> try simp only [hg])) <;> simp only [wS, simprocAttr, MX.row] | (refine v'7 ?_; try simp only [wE, simprocAttr]) | refine v'8 ?_ | refine v'9 ?_)
        refine eg_split (fun hs91 => ?_) (fun hs91 => ?_)
        ·
          repeat' (first | refine v'1 fun _ _ => ?_ | refine v'2 ?_ | (first | refine v'3 ?_ | refine v'4 ?_ | refine v'5 fun _ _ _ _ => ?_ | (refine v'6 (fun hg => ?_) (fun hg => ?_) <;> try simp only [hg])) <;> simp only [wS, simprocAttr, MX.row] | (refine v'7 ?_; try simp only [wE, simprocAttr]) | refine v'8 ?_ | refine v'9 ?_)
          refine eg_mc (hE 0 3 (by decide)) u90 w90 (by refine ⟨?_, ?_, ?_, ?_, ?_⟩ <;> (simp only [wS, simprocAttr, MX.row]; try exact rfl)) ?_
          rintro v u92 w92 ⟨c1, rfl, hc1⟩ -
          have hd1 := hc1
          cases hc1 with
          | mk k1 n1 m1 b1 es1 hl1 hh1 =>
          simp only [wS, simprocAttr, MX.row]
          repeat' (first | refine v'1 fun _ _ => ?_ | refine v'2 ?_ | (first | refine v'3 ?_ | refine v'4 ?_ | refine v'5 fun _ _ _ _ => ?_ | (refine v'6 (fun hg => ?_) (fun hg => ?_) <;> try simp only [hg])) <;> simp only [wS, simprocAttr, MX.row] | (refine v'7 ?_; try simp only [wE, simprocAttr]) | refine v'8 ?_ | refine v'9 ?_)
          refine eg_mc (node_ok hx _ _ _ _ (by simp) (ones hd1)) u92 w92 (by refine ⟨?_, ?_, ?_, ?_, ?_⟩ <;> (simp only [wS, simprocAttr, MX.row]; try exact rfl)) ?_
          rintro v u93 w93 ⟨rfl, hvn⟩ -
          simp only [wS, simprocAttr, MX.row]
          repeat' (first | refine v'1 fun _ _ => ?_ | refine v'2 ?_ | (first | refine v'3 ?_ | refine v'4 ?_ | refine v'5 fun _ _ _ _ => ?_ | (refine v'6 (fun hg => ?_) (fun hg => ?_) <;> try simp only [hg])) <;> simp only [wS, simprocAttr, MX.row] | (refine v'7 ?_; try simp only [wE, simprocAttr]) | refine v'8 ?_ | refine v'9 ?_)
          refine eg_retC (v := ?rv0) rfl ?hl0 ?_
          case hl0 => simp only [wS, simprocAttr]; exact rfl
          refine EG.of (?v_0, ?a_0, ?l_0) ⟨?hV_0, ?hi_0⟩ ⟨?hv_0, ?g1_0, ?g2_0, ?g3_0, ?g4_0, ?g5_0⟩
          case hv_0 => simp only [wS, simprocAttr]; exact rfl
          case g1_0 => simp only [wS, simprocAttr]; exact rfl
          case g2_0 => simp only [wS, simprocAttr]; try exact rfl
          case g3_0 => simp only [wS, simprocAttr]; try exact rfl
          case g4_0 => simp only [wS, simprocAttr]; try exact rfl
          case g5_0 => simp only [wS, simprocAttr]; try exact rfl
          case hV_0 => exact VN.up (hvn) (by omega)
          case hi_0 => exact hvn.tree
        ·
          repeat' (first | refine v'1 fun _ _ => ?_ | refine v'2 ?_ | (first | refine v'3 ?_ | refine v'4 ?_ | refine v'5 fun _ _ _ _ => ?_ | (refine v'6 (fun hg => ?_) (fun hg => ?_) <;> try simp only [hg])) <;> simp only [wS, simprocAttr, MX.row] | (refine v'7 ?_; try simp only [wE, simprocAttr]) | refine v'8 ?_ | refine v'9 ?_)
          refine eg_mc (hE 0 3 (by decide)) u90 w90 (by refine ⟨?_, ?_, ?_, ?_, ?_⟩ <;> (simp only [wS, simprocAttr, MX.row]; try exact rfl)) ?_
          rintro v u92 w92 ⟨c1, rfl, hc1⟩ -
          have hd1 := hc1
          cases hc1 with
          | mk k1 n1 m1 b1 es1 hl1 hh1 =>
          simp only [wS, simprocAttr, MX.row]
          repeat' (first | refine v'1 fun _ _ => ?_ | refine v'2 ?_ | (first | refine v'3 ?_ | refine v'4 ?_ | refine v'5 fun _ _ _ _ => ?_ | (refine v'6 (fun hg => ?_) (fun hg => ?_) <;> try simp only [hg])) <;> simp only [wS, simprocAttr, MX.row] | (refine v'7 ?_; try simp only [wE, simprocAttr]) | refine v'8 ?_ | refine v'9 ?_)
          refine eg_mc (node_ok hx _ _ _ _ (by simp) (ones hd1)) u92 w92 (by refine ⟨?_, ?_, ?_, ?_, ?_⟩ <;> (simp only [wS, simprocAttr, MX.row]; try exact rfl)) ?_
          rintro v u93 w93 ⟨rfl, hvn⟩ -
          simp only [wS, simprocAttr, MX.row]
          repeat' (first | refine v'1 fun _ _ => ?_ | refine v'2 ?_ | (first | refine v'3 ?_ | refine v'4 ?_ | refine v'5 fun _ _ _ _ => ?_ | (refine v'6 (fun hg => ?_) (fun hg => ?_) <;> try simp only [hg])) <;> simp only [wS, simprocAttr, MX.row] | (refine v'7 ?_; try simp only [wE, simprocAttr]) | refine v'8 ?_ | refine v'9 ?_)
          refine eg_retC (v := ?rv1) rfl ?hl1 ?_
          case hl1 => simp only [wS, simprocAttr]; exact rfl
          refine EG.of (?v_1, ?a_1, ?l_1) ⟨?hV_1, ?hi_1⟩ ⟨?hv_1, ?g1_1, ?g2_1, ?g3_1, ?g4_1, ?g5_1⟩
          case hv_1 => simp only [wS, simprocAttr]; exact rfl
          case g1_1 => simp only [wS, simprocAttr]; exact rfl
          case g2_1 => simp only [wS, simprocAttr]; try exact rfl
          case g3_1 => simp only [wS, simprocAttr]; try exact rfl
          case g4_1 => simp only [wS, simprocAttr]; try exact rfl
          case g5_1 => simp only [wS, simprocAttr]; try exact rfl
          case hV_1 => exact VN.up (hvn) (by omega)
          case hi_1 => exact hvn.tree
      clear hK11 hK4
      have hz : z < 5 ∨ z = 5 ∨ z = 6 ∨ z = 7 ∨ z = 8 ∨ z = 9 ∨ z = 10 ∨ z = 11 ∨ z = 12 ∨ z = 13 ∨ 13 < z := by omega
      rcases hz with hz | hz | hz | hz | hz | hz | hz | hz | hz | hz | hz
      ·
        have zb5 : (z == 5) = false := by simp; omega
        have zb6 : (z == 6) = false := by simp; omega
        have zb7 : (z == 7) = false := by simp; omega
        have zb8 : (z == 8) = false := by simp; omega
        have zb9 : (z == 9) = false := by simp; omega
        have zb10 : (z == 10) = false := by simp; omega
        have zb11 : (z == 11) = false := by simp; omega
        have zb12 : (z == 12) = false := by simp; omega
        have zb13 : (z == 13) = false := by simp; omega
        repeat' (first | refine v'1 fun _ _ => ?_ | refine v'2 ?_ | (first | refine v'3 ?_ | refine v'4 ?_ | refine v'5 fun _ _ _ _ => ?_ | (refine v'6 (fun hg => ?_) (fun hg => ?_) <;> try simp only [hg])) <;> simp only [wS, simprocAttr, MX.row, zb5, zb6, zb7, zb8, zb9, zb10, zb11, zb12, zb13] | (refine v'7 ?_; try simp only [wE, simprocAttr]) | refine v'8 ?_ | refine v'9 ?_)
        refine key11 a l _ (Weak.ref ⟨?_, .inl ?_⟩)
        · simp only [wS, simprocAttr]; try exact rfl
        · simp only [wS, simprocAttr]; try exact rfl
      ·
        have zb5 : (z == 5) = true := by simp; omega
        have zb6 : (z == 6) = false := by simp; omega
        have zb7 : (z == 7) = false := by simp; omega
        have zb8 : (z == 8) = false := by simp; omega
        have zb9 : (z == 9) = false := by simp; omega
        have zb10 : (z == 10) = false := by simp; omega
        have zb11 : (z == 11) = false := by simp; omega
        have zb12 : (z == 12) = false := by simp; omega
        have zb13 : (z == 13) = false := by simp; omega
        repeat' (first | refine v'1 fun _ _ => ?_ | refine v'2 ?_ | (first | refine v'3 ?_ | refine v'4 ?_ | refine v'5 fun _ _ _ _ => ?_ | (refine v'6 (fun hg => ?_) (fun hg => ?_) <;> try simp only [hg])) <;> simp only [wS, simprocAttr, MX.row, zb5, zb6, zb7, zb8, zb9, zb10, zb11, zb12, zb13] | (refine v'7 ?_; try simp only [wE, simprocAttr]) | refine v'8 ?_ | refine v'9 ?_)
        refine eg_mc (pick_ok hx _ hva) a l (by refine ⟨?_, ?_, ?_, ?_, ?_⟩ <;> (simp only [wS, simprocAttr, MX.row]; try exact rfl)) ?_
        rintro v u120 w120 ⟨y, rfl, hy1, hy2⟩ -
        simp only [wS, simprocAttr, MX.row, zb5, zb6, zb7, zb8, zb9, zb10, zb11, zb12, zb13]
        repeat' (first | refine v'1 fun _ _ => ?_ | refine v'2 ?_ | (first | refine v'3 ?_ | refine v'4 ?_ | refine v'5 fun _ _ _ _ => ?_ | (refine v'6 (fun hg => ?_) (fun hg => ?_) <;> try simp only [hg])) <;> simp only [wS, simprocAttr, MX.row, zb5, zb6, zb7, zb8, zb9, zb10, zb11, zb12, zb13] | (refine v'7 ?_; try simp only [wE, simprocAttr]) | refine v'8 ?_ | refine v'9 ?_)
        refine eg_split (fun hs121 => ?_) (fun hs121 => ?_)
        ·
          repeat' (first | refine v'1 fun _ _ => ?_ | refine v'2 ?_ | (first | refine v'3 ?_ | refine v'4 ?_ | refine v'5 fun _ _ _ _ => ?_ | (refine v'6 (fun hg => ?_) (fun hg => ?_) <;> try simp only [hg])) <;> simp only [wS, simprocAttr, MX.row, zb5, zb6, zb7, zb8, zb9, zb10, zb11, zb12, zb13] | (refine v'7 ?_; try simp only [wE, simprocAttr]) | refine v'8 ?_ | refine v'9 ?_)
          refine eg_mc (hE 0 1 (by decide)) u120 w120 (by refine ⟨?_, ?_, ?_, ?_, ?_⟩ <;> (simp only [wS, simprocAttr, MX.row]; try exact rfl)) ?_
          rintro v u122 w122 ⟨c1, rfl, hc1⟩ -
          have hd1 := hc1
          cases hc1 with
          | mk k1 n1 m1 b1 es1 hl1 hh1 =>
          simp only [wS, simprocAttr, MX.row, zb5, zb6, zb7, zb8, zb9, zb10, zb11, zb12, zb13]
          repeat' (first | refine v'1 fun _ _ => ?_ | refine v'2 ?_ | (first | refine v'3 ?_ | refine v'4 ?_ | refine v'5 fun _ _ _ _ => ?_ | (refine v'6 (fun hg => ?_) (fun hg => ?_) <;> try simp only [hg])) <;> simp only [wS, simprocAttr, MX.row, zb5, zb6, zb7, zb8, zb9, zb10, zb11, zb12, zb13] | (refine v'7 ?_; try simp only [wE, simprocAttr]) | refine v'8 ?_ | refine v'9 ?_)
          refine eg_mc (hE 0 2 (by decide)) u122 w122 (by refine ⟨?_, ?_, ?_, ?_, ?_⟩ <;> (simp only [wS, simprocAttr, MX.row]; try exact rfl)) ?_
          rintro v u123 w123 ⟨c2, rfl, hc2⟩ -
          have hd2 := hc2
          cases hc2 with
          | mk k2 n2 m2 b2 es2 hl2 hh2 =>
          simp only [wS, simprocAttr, MX.row, zb5, zb6, zb7, zb8, zb9, zb10, zb11, zb12, zb13]
          repeat' (first | refine v'1 fun _ _ => ?_ | refine v'2 ?_ | (first | refine v'3 ?_ | refine v'4 ?_ | refine v'5 fun _ _ _ _ => ?_ | (refine v'6 (fun hg => ?_) (fun hg => ?_) <;> try simp only [hg])) <;> simp only [wS, simprocAttr, MX.row, zb5, zb6, zb7, zb8, zb9, zb10, zb11, zb12, zb13] | (refine v'7 ?_; try simp only [wE, simprocAttr]) | refine v'8 ?_ | refine v'9 ?_)
          refine eg_mc (node_ok hx _ _ _ _ (by simp) (twos hd1 hd2)) u123 w123 (by refine ⟨?_, ?_, ?_, ?_, ?_⟩ <;> (simp only [wS, simprocAttr, MX.row]; try exact rfl)) ?_
          rintro v u124 w124 ⟨rfl, hvn⟩ -
          simp only [wS, simprocAttr, MX.row, zb5, zb6, zb7, zb8, zb9, zb10, zb11, zb12, zb13]
          repeat' (first | refine v'1 fun _ _ => ?_ | refine v'2 ?_ | (first | refine v'3 ?_ | refine v'4 ?_ | refine v'5 fun _ _ _ _ => ?_ | (refine v'6 (fun hg => ?_) (fun hg => ?_) <;> try simp only [hg])) <;> simp only [wS, simprocAttr, MX.row, zb5, zb6, zb7, zb8, zb9, zb10, zb11, zb12, zb13] | (refine v'7 ?_; try simp only [wE, simprocAttr]) | refine v'8 ?_ | refine v'9 ?_)
          refine eg_and (by kernel_rfl) ?_
          repeat' (first | refine v'1 fun _ _ => ?_ | refine v'2 ?_ | (first | refine v'3 ?_ | refine v'4 ?_ | refine v'5 fun _ _ _ _ => ?_ | (refine v'6 (fun hg => ?_) (fun hg => ?_) <;> try simp only [hg])) <;> simp only [wS, simprocAttr] | (refine v'7 ?_; try simp only [wE, simprocAttr]) | refine v'8 ?_ | refine v'9 ?_)
          refine eg_retC (v := ?rv2) rfl ?hl2 ?_
          case hl2 => simp only [wS, simprocAttr]; exact rfl
          refine EG.of (?v_2, ?a_2, ?l_2) ⟨?hV_2, ?hi_2⟩ ⟨?hv_2, ?g1_2, ?g2_2, ?g3_2, ?g4_2, ?g5_2⟩
          case hv_2 => simp only [wS, simprocAttr]; exact rfl
          case g1_2 => simp only [wS, simprocAttr]; exact rfl
          case g2_2 => simp only [wS, simprocAttr]; try exact rfl
          case g3_2 => simp only [wS, simprocAttr]; try exact rfl
          case g4_2 => simp only [wS, simprocAttr]; try exact rfl
          case g5_2 => simp only [wS, simprocAttr]; try exact rfl
          case hV_2 => exact VN.up (hvn) (by omega)
          case hi_2 => exact hvn.tree
        ·
          repeat' (first | refine v'1 fun _ _ => ?_ | refine v'2 ?_ | (first | refine v'3 ?_ | refine v'4 ?_ | refine v'5 fun _ _ _ _ => ?_ | (refine v'6 (fun hg => ?_) (fun hg => ?_) <;> try simp only [hg])) <;> simp only [wS, simprocAttr, MX.row, zb5, zb6, zb7, zb8, zb9, zb10, zb11, zb12, zb13] | (refine v'7 ?_; try simp only [wE, simprocAttr]) | refine v'8 ?_ | refine v'9 ?_)
          refine key11 u120 w120 _ (Weak.ref ⟨?_, .inl ?_⟩)
          · simp only [wS, simprocAttr]; try exact rfl
          · simp only [wS, simprocAttr]; try exact rfl
      ·
        have zb5 : (z == 5) = false := by simp; omega
        have zb6 : (z == 6) = true := by simp; omega
        have zb7 : (z == 7) = false := by simp; omega
        have zb8 : (z == 8) = false := by simp; omega
        have zb9 : (z == 9) = false := by simp; omega
        have zb10 : (z == 10) = false := by simp; omega
        have zb11 : (z == 11) = false := by simp; omega
        have zb12 : (z == 12) = false := by simp; omega
        have zb13 : (z == 13) = false := by simp; omega
        repeat' (first | refine v'1 fun _ _ => ?_ | refine v'2 ?_ | (first | refine v'3 ?_ | refine v'4 ?_ | refine v'5 fun _ _ _ _ => ?_ | (refine v'6 (fun hg => ?_) (fun hg => ?_) <;> try simp only [hg])) <;> simp only [wS, simprocAttr, MX.row, zb5, zb6, zb7, zb8, zb9, zb10, zb11, zb12, zb13] | (refine v'7 ?_; try simp only [wE, simprocAttr]) | refine v'8 ?_ | refine v'9 ?_)
        refine eg_mc (draw_ok hx 2 (by decide)) a l (by refine ⟨?_, ?_, ?_, ?_, ?_⟩ <;> (simp only [wS, simprocAttr, MX.row]; try exact rfl)) ?_
        rintro v u130 w130 ⟨kd, rfl, hkd1, hkd2⟩ -
        simp only [wS, simprocAttr, MX.row, zb5, zb6, zb7, zb8, zb9, zb10, zb11, zb12, zb13]
        repeat' (first | refine v'1 fun _ _ => ?_ | refine v'2 ?_ | (first | refine v'3 ?_ | refine v'4 ?_ | refine v'5 fun _ _ _ _ => ?_ | (refine v'6 (fun hg => ?_) (fun hg => ?_) <;> try simp only [hg])) <;> simp only [wS, simprocAttr, MX.row, zb5, zb6, zb7, zb8, zb9, zb10, zb11, zb12, zb13] | (refine v'7 ?_; try simp only [wE, simprocAttr]) | refine v'8 ?_ | refine v'9 ?_)
        refine eg_mc (field_ok hx kd) u130 w130 (by refine ⟨?_, ?_, ?_, ?_, ?_⟩ <;> (simp only [wS, simprocAttr, MX.row]; try exact rfl)) ?_
        rintro v u131 w131 ⟨va, vb, rfl⟩ -
        simp only [wS, simprocAttr, MX.row, zb5, zb6, zb7, zb8, zb9, zb10, zb11, zb12, zb13]
        repeat' (first | refine v'1 fun _ _ => ?_ | refine v'2 ?_ | (first | refine v'3 ?_ | refine v'4 ?_ | refine v'5 fun _ _ _ _ => ?_ | (refine v'6 (fun hg => ?_) (fun hg => ?_) <;> try simp only [hg])) <;> simp only [wS, simprocAttr, MX.row, zb5, zb6, zb7, zb8, zb9, zb10, zb11, zb12, zb13] | (refine v'7 ?_; try simp only [wE, simprocAttr]) | refine v'8 ?_ | refine v'9 ?_)
        refine eg_split (fun hs132 => ?_) (fun hs132 => ?_)
        ·
          repeat' (first | refine v'1 fun _ _ => ?_ | refine v'2 ?_ | (first | refine v'3 ?_ | refine v'4 ?_ | refine v'5 fun _ _ _ _ => ?_ | (refine v'6 (fun hg => ?_) (fun hg => ?_) <;> try simp only [hg])) <;> simp only [wS, simprocAttr, MX.row, zb5, zb6, zb7, zb8, zb9, zb10, zb11, zb12, zb13] | (refine v'7 ?_; try simp only [wE, simprocAttr]) | refine v'8 ?_ | refine v'9 ?_)
          refine eg_mc (hE kd 2 (by decide)) u131 w131 (by refine ⟨?_, ?_, ?_, ?_, ?_⟩ <;> (simp only [wS, simprocAttr, MX.row]; try exact rfl)) ?_
          rintro v u133 w133 ⟨c1, rfl, hc1⟩ -
          have hd1 := hc1
          cases hc1 with
          | mk k1 n1 m1 b1 es1 hl1 hh1 =>
          simp only [wS, simprocAttr, MX.row, zb5, zb6, zb7, zb8, zb9, zb10, zb11, zb12, zb13]
          repeat' (first | refine v'1 fun _ _ => ?_ | refine v'2 ?_ | (first | refine v'3 ?_ | refine v'4 ?_ | refine v'5 fun _ _ _ _ => ?_ | (refine v'6 (fun hg => ?_) (fun hg => ?_) <;> try simp only [hg])) <;> simp only [wS, simprocAttr, MX.row, zb5, zb6, zb7, zb8, zb9, zb10, zb11, zb12, zb13] | (refine v'7 ?_; try simp only [wE, simprocAttr]) | refine v'8 ?_ | refine v'9 ?_)
          refine eg_mc (node_ok hx _ _ _ _ (by simp) (ones hd1)) u133 w133 (by refine ⟨?_, ?_, ?_, ?_, ?_⟩ <;> (simp only [wS, simprocAttr, MX.row]; try exact rfl)) ?_
          rintro v u134 w134 ⟨rfl, hvn⟩ -
          simp only [wS, simprocAttr, MX.row, zb5, zb6, zb7, zb8, zb9, zb10, zb11, zb12, zb13]
          repeat' (first | refine v'1 fun _ _ => ?_ | refine v'2 ?_ | (first | refine v'3 ?_ | refine v'4 ?_ | refine v'5 fun _ _ _ _ => ?_ | (refine v'6 (fun hg => ?_) (fun hg => ?_) <;> try simp only [hg])) <;> simp only [wS, simprocAttr, MX.row, zb5, zb6, zb7, zb8, zb9, zb10, zb11, zb12, zb13] | (refine v'7 ?_; try simp only [wE, simprocAttr]) | refine v'8 ?_ | refine v'9 ?_)
          refine eg_retC (v := ?rv3) rfl ?hl3 ?_
          case hl3 => simp only [wS, simprocAttr]; exact rfl
          refine EG.of (?v_3, ?a_3, ?l_3) ⟨?hV_3, ?hi_3⟩ ⟨?hv_3, ?g1_3, ?g2_3, ?g3_3, ?g4_3, ?g5_3⟩
          case hv_3 => simp only [wS, simprocAttr]; exact rfl
          case g1_3 => simp only [wS, simprocAttr]; exact rfl
          case g2_3 => simp only [wS, simprocAttr]; try exact rfl
          case g3_3 => simp only [wS, simprocAttr]; try exact rfl
          case g4_3 => simp only [wS, simprocAttr]; try exact rfl
          case g5_3 => simp only [wS, simprocAttr]; try exact rfl
          case hV_3 => exact VN.up (vn_mk _ _ _ _ _ (by simp) (ones hd1)) (by omega)
          case hi_3 => exact VN.tree (vn_mk _ _ _ _ _ (by simp) (ones hd1))
        ·
          repeat' (first | refine v'1 fun _ _ => ?_ | refine v'2 ?_ | (first | refine v'3 ?_ | refine v'4 ?_ | refine v'5 fun _ _ _ _ => ?_ | (refine v'6 (fun hg => ?_) (fun hg => ?_) <;> try simp only [hg])) <;> simp only [wS, simprocAttr, MX.row, zb5, zb6, zb7, zb8, zb9, zb10, zb11, zb12, zb13] | (refine v'7 ?_; try simp only [wE, simprocAttr]) | refine v'8 ?_ | refine v'9 ?_)
          refine key11 u131 w131 _ (Weak.ref ⟨?_, .inl ?_⟩)
          · simp only [wS, simprocAttr]; try exact rfl
          · simp only [wS, simprocAttr]; try exact rfl
      ·
        have zb5 : (z == 5) = false := by simp; omega
        have zb6 : (z == 6) = false := by simp; omega
        have zb7 : (z == 7) = true := by simp; omega
        have zb8 : (z == 8) = false := by simp; omega
        have zb9 : (z == 9) = false := by simp; omega
        have zb10 : (z == 10) = false := by simp; omega
        have zb11 : (z == 11) = false := by simp; omega
        have zb12 : (z == 12) = false := by simp; omega
        have zb13 : (z == 13) = false := by simp; omega
        repeat' (first | refine v'1 fun _ _ => ?_ | refine v'2 ?_ | (first | refine v'3 ?_ | refine v'4 ?_ | refine v'5 fun _ _ _ _ => ?_ | (refine v'6 (fun hg => ?_) (fun hg => ?_) <;> try simp only [hg])) <;> simp only [wS, simprocAttr, MX.row, zb5, zb6, zb7, zb8, zb9, zb10, zb11, zb12, zb13] | (refine v'7 ?_; try simp only [wE, simprocAttr]) | refine v'8 ?_ | refine v'9 ?_)
        refine eg_mc (hE 0 3 (by decide)) a l (by refine ⟨?_, ?_, ?_, ?_, ?_⟩ <;> (simp only [wS, simprocAttr, MX.row]; try exact rfl)) ?_
        rintro v u140 w140 ⟨c1, rfl, hc1⟩ -
        have hd1 := hc1
        cases hc1 with
        | mk k1 n1 m1 b1 es1 hl1 hh1 =>
        simp only [wS, simprocAttr, MX.row, zb5, zb6, zb7, zb8, zb9, zb10, zb11, zb12, zb13]
        repeat' (first | refine v'1 fun _ _ => ?_ | refine v'2 ?_ | (first | refine v'3 ?_ | refine v'4 ?_ | refine v'5 fun _ _ _ _ => ?_ | (refine v'6 (fun hg => ?_) (fun hg => ?_) <;> try simp only [hg])) <;> simp only [wS, simprocAttr, MX.row, zb5, zb6, zb7, zb8, zb9, zb10, zb11, zb12, zb13] | (refine v'7 ?_; try simp only [wE, simprocAttr]) | refine v'8 ?_ | refine v'9 ?_)
        refine eg_mc (node_ok hx _ _ _ _ (by simp) (ones hd1)) u140 w140 (by refine ⟨?_, ?_, ?_, ?_, ?_⟩ <;> (simp only [wS, simprocAttr, MX.row]; try exact rfl)) ?_
        rintro v u141 w141 ⟨rfl, hvn⟩ -
        simp only [wS, simprocAttr, MX.row, zb5, zb6, zb7, zb8, zb9, zb10, zb11, zb12, zb13]
        repeat' (first | refine v'1 fun _ _ => ?_ | refine v'2 ?_ | (first | refine v'3 ?_ | refine v'4 ?_ | refine v'5 fun _ _ _ _ => ?_ | (refine v'6 (fun hg => ?_) (fun hg => ?_) <;> try simp only [hg])) <;> simp only [wS, simprocAttr, MX.row, zb5, zb6, zb7, zb8, zb9, zb10, zb11, zb12, zb13] | (refine v'7 ?_; try simp only [wE, simprocAttr]) | refine v'8 ?_ | refine v'9 ?_)
        refine eg_retC (v := ?rv4) rfl ?hl4 ?_
        case hl4 => simp only [wS, simprocAttr]; exact rfl
        refine EG.of (?v_4, ?a_4, ?l_4) ⟨?hV_4, ?hi_4⟩ ⟨?hv_4, ?g1_4, ?g2_4, ?g3_4, ?g4_4, ?g5_4⟩
        case hv_4 => simp only [wS, simprocAttr]; exact rfl
        case g1_4 => simp only [wS, simprocAttr]; exact rfl
        case g2_4 => simp only [wS, simprocAttr]; try exact rfl
        case g3_4 => simp only [wS, simprocAttr]; try exact rfl
        case g4_4 => simp only [wS, simprocAttr]; try exact rfl
        case g5_4 => simp only [wS, simprocAttr]; try exact rfl
        case hV_4 => exact VN.up (hvn) (by omega)
        case hi_4 => exact hvn.tree
      ·
        have zb5 : (z == 5) = false := by simp; omega
        have zb6 : (z == 6) = false := by simp; omega
        have zb7 : (z == 7) = false := by simp; omega
        have zb8 : (z == 8) = true := by simp; omega
        have zb9 : (z == 9) = false := by simp; omega
        have zb10 : (z == 10) = false := by simp; omega
        have zb11 : (z == 11) = false := by simp; omega
        have zb12 : (z == 12) = false := by simp; omega
        have zb13 : (z == 13) = false := by simp; omega
        repeat' (first | refine v'1 fun _ _ => ?_ | refine v'2 ?_ | (first | refine v'3 ?_ | refine v'4 ?_ | refine v'5 fun _ _ _ _ => ?_ | (refine v'6 (fun hg => ?_) (fun hg => ?_) <;> try simp only [hg])) <;> simp only [wS, simprocAttr, MX.row, zb5, zb6, zb7, zb8, zb9, zb10, zb11, zb12, zb13] | (refine v'7 ?_; try simp only [wE, simprocAttr]) | refine v'8 ?_ | refine v'9 ?_)
        refine eg_mc (hE 0 1 (by decide)) a l (by refine ⟨?_, ?_, ?_, ?_, ?_⟩ <;> (simp only [wS, simprocAttr, MX.row]; try exact rfl)) ?_
        rintro v u150 w150 ⟨c1, rfl, hc1⟩ -
        have hd1 := hc1
        cases hc1 with
        | mk k1 n1 m1 b1 es1 hl1 hh1 =>
        simp only [wS, simprocAttr, MX.row, zb5, zb6, zb7, zb8, zb9, zb10, zb11, zb12, zb13]
        repeat' (first | refine v'1 fun _ _ => ?_ | refine v'2 ?_ | (first | refine v'3 ?_ | refine v'4 ?_ | refine v'5 fun _ _ _ _ => ?_ | (refine v'6 (fun hg => ?_) (fun hg => ?_) <;> try simp only [hg])) <;> simp only [wS, simprocAttr, MX.row, zb5, zb6, zb7, zb8, zb9, zb10, zb11, zb12, zb13] | (refine v'7 ?_; try simp only [wE, simprocAttr]) | refine v'8 ?_ | refine v'9 ?_)
        refine eg_mc (node_ok hx _ _ _ _ (by simp) (ones hd1)) u150 w150 (by refine ⟨?_, ?_, ?_, ?_, ?_⟩ <;> (simp only [wS, simprocAttr, MX.row]; try exact rfl)) ?_
        rintro v u151 w151 ⟨rfl, hvn⟩ -
        simp only [wS, simprocAttr, MX.row, zb5, zb6, zb7, zb8, zb9, zb10, zb11, zb12, zb13]
        repeat' (first | refine v'1 fun _ _ => ?_ | refine v'2 ?_ | (first | refine v'3 ?_ | refine v'4 ?_ | refine v'5 fun _ _ _ _ => ?_ | (refine v'6 (fun hg => ?_) (fun hg => ?_) <;> try simp only [hg])) <;> simp only [wS, simprocAttr, MX.row, zb5, zb6, zb7, zb8, zb9, zb10, zb11, zb12, zb13] | (refine v'7 ?_; try simp only [wE, simprocAttr]) | refine v'8 ?_ | refine v'9 ?_)
        refine eg_retC (v := ?rv5) rfl ?hl5 ?_
        case hl5 => simp only [wS, simprocAttr]; exact rfl
        refine EG.of (?v_5, ?a_5, ?l_5) ⟨?hV_5, ?hi_5⟩ ⟨?hv_5, ?g1_5, ?g2_5, ?g3_5, ?g4_5, ?g5_5⟩
        case hv_5 => simp only [wS, simprocAttr]; exact rfl
        case g1_5 => simp only [wS, simprocAttr]; exact rfl
        case g2_5 => simp only [wS, simprocAttr]; try exact rfl
        case g3_5 => simp only [wS, simprocAttr]; try exact rfl
        case g4_5 => simp only [wS, simprocAttr]; try exact rfl
        case g5_5 => simp only [wS, simprocAttr]; try exact rfl
        case hV_5 => exact VN.up (hvn) (by omega)
        case hi_5 => exact hvn.tree
      ·
        have zb5 : (z == 5) = false := by simp; omega
        have zb6 : (z == 6) = false := by simp; omega
        have zb7 : (z == 7) = false := by simp; omega
        have zb8 : (z == 8) = false := by simp; omega
        have zb9 : (z == 9) = true := by simp; omega
        have zb10 : (z == 10) = false := by simp; omega
        have zb11 : (z == 11) = false := by simp; omega
        have zb12 : (z == 12) = false := by simp; omega
        have zb13 : (z == 13) = false := by simp; omega
        repeat' (first | refine v'1 fun _ _ => ?_ | refine v'2 ?_ | (first | refine v'3 ?_ | refine v'4 ?_ | refine v'5 fun _ _ _ _ => ?_ | (refine v'6 (fun hg => ?_) (fun hg => ?_) <;> try simp only [hg])) <;> simp only [wS, simprocAttr, MX.row, zb5, zb6, zb7, zb8, zb9, zb10, zb11, zb12, zb13] | (refine v'7 ?_; try simp only [wE, simprocAttr]) | refine v'8 ?_ | refine v'9 ?_)
        refine eg_mc (pick_ok hx _ hva) a l (by refine ⟨?_, ?_, ?_, ?_, ?_⟩ <;> (simp only [wS, simprocAttr, MX.row]; try exact rfl)) ?_
        rintro v u160 w160 ⟨y, rfl, hy1, hy2⟩ -
        simp only [wS, simprocAttr, MX.row, zb5, zb6, zb7, zb8, zb9, zb10, zb11, zb12, zb13]
        repeat' (first | refine v'1 fun _ _ => ?_ | refine v'2 ?_ | (first | refine v'3 ?_ | refine v'4 ?_ | refine v'5 fun _ _ _ _ => ?_ | (refine v'6 (fun hg => ?_) (fun hg => ?_) <;> try simp only [hg])) <;> simp only [wS, simprocAttr, MX.row, zb5, zb6, zb7, zb8, zb9, zb10, zb11, zb12, zb13] | (refine v'7 ?_; try simp only [wE, simprocAttr]) | refine v'8 ?_ | refine v'9 ?_)
        refine eg_split (fun hs161 => ?_) (fun hs161 => ?_)
        ·
          repeat' (first | refine v'1 fun _ _ => ?_ | refine v'2 ?_ | (first | refine v'3 ?_ | refine v'4 ?_ | refine v'5 fun _ _ _ _ => ?_ | (refine v'6 (fun hg => ?_) (fun hg => ?_) <;> try simp only [hg])) <;> simp only [wS, simprocAttr, MX.row, zb5, zb6, zb7, zb8, zb9, zb10, zb11, zb12, zb13] | (refine v'7 ?_; try simp only [wE, simprocAttr]) | refine v'8 ?_ | refine v'9 ?_)
          refine eg_mc (hE 1 3 (by decide)) u160 w160 (by refine ⟨?_, ?_, ?_, ?_, ?_⟩ <;> (simp only [wS, simprocAttr, MX.row]; try exact rfl)) ?_
          rintro v u162 w162 ⟨c1, rfl, hc1⟩ -
          have hd1 := hc1
          cases hc1 with
          | mk k1 n1 m1 b1 es1 hl1 hh1 =>
          simp only [wS, simprocAttr, MX.row, zb5, zb6, zb7, zb8, zb9, zb10, zb11, zb12, zb13]
          repeat' (first | refine v'1 fun _ _ => ?_ | refine v'2 ?_ | (first | refine v'3 ?_ | refine v'4 ?_ | refine v'5 fun _ _ _ _ => ?_ | (refine v'6 (fun hg => ?_) (fun hg => ?_) <;> try simp only [hg])) <;> simp only [wS, simprocAttr, MX.row, zb5, zb6, zb7, zb8, zb9, zb10, zb11, zb12, zb13] | (refine v'7 ?_; try simp only [wE, simprocAttr]) | refine v'8 ?_ | refine v'9 ?_)
          refine eg_mc (node_ok hx _ _ _ _ (by simp) (ones hd1)) u162 w162 (by refine ⟨?_, ?_, ?_, ?_, ?_⟩ <;> (simp only [wS, simprocAttr, MX.row]; try exact rfl)) ?_
          rintro v u163 w163 ⟨rfl, hvn⟩ -
          simp only [wS, simprocAttr, MX.row, zb5, zb6, zb7, zb8, zb9, zb10, zb11, zb12, zb13]
          repeat' (first | refine v'1 fun _ _ => ?_ | refine v'2 ?_ | (first | refine v'3 ?_ | refine v'4 ?_ | refine v'5 fun _ _ _ _ => ?_ | (refine v'6 (fun hg => ?_) (fun hg => ?_) <;> try simp only [hg])) <;> simp only [wS, simprocAttr, MX.row, zb5, zb6, zb7, zb8, zb9, zb10, zb11, zb12, zb13] | (refine v'7 ?_; try simp only [wE, simprocAttr]) | refine v'8 ?_ | refine v'9 ?_)
          refine eg_retC (v := ?rv6) rfl ?hl6 ?_
          case hl6 => simp only [wS, simprocAttr]; exact rfl
          refine EG.of (?v_6, ?a_6, ?l_6) ⟨?hV_6, ?hi_6⟩ ⟨?hv_6, ?g1_6, ?g2_6, ?g3_6, ?g4_6, ?g5_6⟩
          case hv_6 => simp only [wS, simprocAttr]; exact rfl
          case g1_6 => simp only [wS, simprocAttr]; exact rfl
          case g2_6 => simp only [wS, simprocAttr]; try exact rfl
          case g3_6 => simp only [wS, simprocAttr]; try exact rfl
          case g4_6 => simp only [wS, simprocAttr]; try exact rfl
          case g5_6 => simp only [wS, simprocAttr]; try exact rfl
          case hV_6 => exact VN.up (hvn) (by omega)
          case hi_6 => exact hvn.tree
        ·
          repeat' (first | refine v'1 fun _ _ => ?_ | refine v'2 ?_ | (first | refine v'3 ?_ | refine v'4 ?_ | refine v'5 fun _ _ _ _ => ?_ | (refine v'6 (fun hg => ?_) (fun hg => ?_) <;> try simp only [hg])) <;> simp only [wS, simprocAttr, MX.row, zb5, zb6, zb7, zb8, zb9, zb10, zb11, zb12, zb13] | (refine v'7 ?_; try simp only [wE, simprocAttr]) | refine v'8 ?_ | refine v'9 ?_)
          refine key11 u160 w160 _ (Weak.ref ⟨?_, .inl ?_⟩)
          · simp only [wS, simprocAttr]; try exact rfl
          · simp only [wS, simprocAttr]; try exact rfl
      ·
        have zb5 : (z == 5) = false := by simp; omega
        have zb6 : (z == 6) = false := by simp; omega
        have zb7 : (z == 7) = false := by simp; omega
        have zb8 : (z == 8) = false := by simp; omega
        have zb9 : (z == 9) = false := by simp; omega
        have zb10 : (z == 10) = true := by simp; omega
        have zb11 : (z == 11) = false := by simp; omega
        have zb12 : (z == 12) = false := by simp; omega
        have zb13 : (z == 13) = false := by simp; omega
        repeat' (first | refine v'1 fun _ _ => ?_ | refine v'2 ?_ | (first | refine v'3 ?_ | refine v'4 ?_ | refine v'5 fun _ _ _ _ => ?_ | (refine v'6 (fun hg => ?_) (fun hg => ?_) <;> try simp only [hg])) <;> simp only [wS, simprocAttr, MX.row, zb5, zb6, zb7, zb8, zb9, zb10, zb11, zb12, zb13] | (refine v'7 ?_; try simp only [wE, simprocAttr]) | refine v'8 ?_ | refine v'9 ?_)
        refine eg_mc (hE 0 3 (by decide)) a l (by refine ⟨?_, ?_, ?_, ?_, ?_⟩ <;> (simp only [wS, simprocAttr, MX.row]; try exact rfl)) ?_
        rintro v u170 w170 ⟨c1, rfl, hc1⟩ -
        have hd1 := hc1
        cases hc1 with
        | mk k1 n1 m1 b1 es1 hl1 hh1 =>
        simp only [wS, simprocAttr, MX.row, zb5, zb6, zb7, zb8, zb9, zb10, zb11, zb12, zb13]
        repeat' (first | refine v'1 fun _ _ => ?_ | refine v'2 ?_ | (first | refine v'3 ?_ | refine v'4 ?_ | refine v'5 fun _ _ _ _ => ?_ | (refine v'6 (fun hg => ?_) (fun hg => ?_) <;> try simp only [hg])) <;> simp only [wS, simprocAttr, MX.row, zb5, zb6, zb7, zb8, zb9, zb10, zb11, zb12, zb13] | (refine v'7 ?_; try simp only [wE, simprocAttr]) | refine v'8 ?_ | refine v'9 ?_)
        refine eg_mc (node_ok hx _ _ _ _ (by simp) (ones hd1)) u170 w170 (by refine ⟨?_, ?_, ?_, ?_, ?_⟩ <;> (simp only [wS, simprocAttr, MX.row]; try exact rfl)) ?_
        rintro v u171 w171 ⟨rfl, hvn⟩ -
        simp only [wS, simprocAttr, MX.row, zb5, zb6, zb7, zb8, zb9, zb10, zb11, zb12, zb13]
        repeat' (first | refine v'1 fun _ _ => ?_ | refine v'2 ?_ | (first | refine v'3 ?_ | refine v'4 ?_ | refine v'5 fun _ _ _ _ => ?_ | (refine v'6 (fun hg => ?_) (fun hg => ?_) <;> try simp only [hg])) <;> simp only [wS, simprocAttr, MX.row, zb5, zb6, zb7, zb8, zb9, zb10, zb11, zb12, zb13] | (refine v'7 ?_; try simp only [wE, simprocAttr]) | refine v'8 ?_ | refine v'9 ?_)
        refine eg_retC (v := ?rv7) rfl ?hl7 ?_
        case hl7 => simp only [wS, simprocAttr]; exact rfl
        refine EG.of (?v_7, ?a_7, ?l_7) ⟨?hV_7, ?hi_7⟩ ⟨?hv_7, ?g1_7, ?g2_7, ?g3_7, ?g4_7, ?g5_7⟩
        case hv_7 => simp only [wS, simprocAttr]; exact rfl
        case g1_7 => simp only [wS, simprocAttr]; exact rfl
        case g2_7 => simp only [wS, simprocAttr]; try exact rfl
        case g3_7 => simp only [wS, simprocAttr]; try exact rfl
        case g4_7 => simp only [wS, simprocAttr]; try exact rfl
        case g5_7 => simp only [wS, simprocAttr]; try exact rfl
        case hV_7 => exact VN.up (hvn) (by omega)
        case hi_7 => exact hvn.tree
      ·
        have zb5 : (z == 5) = false := by simp; omega
        have zb6 : (z == 6) = false := by simp; omega
        have zb7 : (z == 7) = false := by simp; omega
        have zb8 : (z == 8) = false := by simp; omega
        have zb9 : (z == 9) = false := by simp; omega
        have zb10 : (z == 10) = false := by simp; omega
        have zb11 : (z == 11) = true := by simp; omega
        have zb12 : (z == 12) = false := by simp; omega
        have zb13 : (z == 13) = false := by simp; omega
        repeat' (first | refine v'1 fun _ _ => ?_ | refine v'2 ?_ | (first | refine v'3 ?_ | refine v'4 ?_ | refine v'5 fun _ _ _ _ => ?_ | (refine v'6 (fun hg => ?_) (fun hg => ?_) <;> try simp only [hg])) <;> simp only [wS, simprocAttr, MX.row, zb5, zb6, zb7, zb8, zb9, zb10, zb11, zb12, zb13] | (refine v'7 ?_; try simp only [wE, simprocAttr]) | refine v'8 ?_ | refine v'9 ?_)
        refine eg_mc (hE 0 3 (by decide)) a l (by refine ⟨?_, ?_, ?_, ?_, ?_⟩ <;> (simp only [wS, simprocAttr, MX.row]; try exact rfl)) ?_
        rintro v u180 w180 ⟨c1, rfl, hc1⟩ -
        have hd1 := hc1
        cases hc1 with
        | mk k1 n1 m1 b1 es1 hl1 hh1 =>
        simp only [wS, simprocAttr, MX.row, zb5, zb6, zb7, zb8, zb9, zb10, zb11, zb12, zb13]
        repeat' (first | refine v'1 fun _ _ => ?_ | refine v'2 ?_ | (first | refine v'3 ?_ | refine v'4 ?_ | refine v'5 fun _ _ _ _ => ?_ | (refine v'6 (fun hg => ?_) (fun hg => ?_) <;> try simp only [hg])) <;> simp only [wS, simprocAttr, MX.row, zb5, zb6, zb7, zb8, zb9, zb10, zb11, zb12, zb13] | (refine v'7 ?_; try simp only [wE, simprocAttr]) | refine v'8 ?_ | refine v'9 ?_)
        refine eg_mc (node_ok hx _ _ _ _ (by simp) (ones hd1)) u180 w180 (by refine ⟨?_, ?_, ?_, ?_, ?_⟩ <;> (simp only [wS, simprocAttr, MX.row]; try exact rfl)) ?_
        rintro v u181 w181 ⟨rfl, hvn⟩ -
        simp only [wS, simprocAttr, MX.row, zb5, zb6, zb7, zb8, zb9, zb10, zb11, zb12, zb13]
        repeat' (first | refine v'1 fun _ _ => ?_ | refine v'2 ?_ | (first | refine v'3 ?_ | refine v'4 ?_ | refine v'5 fun _ _ _ _ => ?_ | (refine v'6 (fun hg => ?_) (fun hg => ?_) <;> try simp only [hg])) <;> simp only [wS, simprocAttr, MX.row, zb5, zb6, zb7, zb8, zb9, zb10, zb11, zb12, zb13] | (refine v'7 ?_; try simp only [wE, simprocAttr]) | refine v'8 ?_ | refine v'9 ?_)
        refine eg_retC (v := ?rv8) rfl ?hl8 ?_
        case hl8 => simp only [wS, simprocAttr]; exact rfl
        refine EG.of (?v_8, ?a_8, ?l_8) ⟨?hV_8, ?hi_8⟩ ⟨?hv_8, ?g1_8, ?g2_8, ?g3_8, ?g4_8, ?g5_8⟩
        case hv_8 => simp only [wS, simprocAttr]; exact rfl
        case g1_8 => simp only [wS, simprocAttr]; exact rfl
        case g2_8 => simp only [wS, simprocAttr]; try exact rfl
        case g3_8 => simp only [wS, simprocAttr]; try exact rfl
        case g4_8 => simp only [wS, simprocAttr]; try exact rfl
        case g5_8 => simp only [wS, simprocAttr]; try exact rfl
        case hV_8 => exact VN.up (hvn) (by omega)
        case hi_8 => exact hvn.tree
      ·
        have zb5 : (z == 5) = false := by simp; omega
        have zb6 : (z == 6) = false := by simp; omega
        have zb7 : (z == 7) = false := by simp; omega
        have zb8 : (z == 8) = false := by simp; omega
        have zb9 : (z == 9) = false := by simp; omega
        have zb10 : (z == 10) = false := by simp; omega
        have zb11 : (z == 11) = false := by simp; omega
        have zb12 : (z == 12) = true := by simp; omega
        have zb13 : (z == 13) = false := by simp; omega
        repeat' (first | refine v'1 fun _ _ => ?_ | refine v'2 ?_ | (first | refine v'3 ?_ | refine v'4 ?_ | refine v'5 fun _ _ _ _ => ?_ | (refine v'6 (fun hg => ?_) (fun hg => ?_) <;> try simp only [hg])) <;> simp only [wS, simprocAttr, MX.row, zb5, zb6, zb7, zb8, zb9, zb10, zb11, zb12, zb13] | (refine v'7 ?_; try simp only [wE, simprocAttr]) | refine v'8 ?_ | refine v'9 ?_)
        refine eg_mc (hE 0 3 (by decide)) a l (by refine ⟨?_, ?_, ?_, ?_, ?_⟩ <;> (simp only [wS, simprocAttr, MX.row]; try exact rfl)) ?_
        rintro v u190 w190 ⟨c1, rfl, hc1⟩ -
        have hd1 := hc1
        cases hc1 with
        | mk k1 n1 m1 b1 es1 hl1 hh1 =>
        simp only [wS, simprocAttr, MX.row, zb5, zb6, zb7, zb8, zb9, zb10, zb11, zb12, zb13]
        repeat' (first | refine v'1 fun _ _ => ?_ | refine v'2 ?_ | (first | refine v'3 ?_ | refine v'4 ?_ | refine v'5 fun _ _ _ _ => ?_ | (refine v'6 (fun hg => ?_) (fun hg => ?_) <;> try simp only [hg])) <;> simp only [wS, simprocAttr, MX.row, zb5, zb6, zb7, zb8, zb9, zb10, zb11, zb12, zb13] | (refine v'7 ?_; try simp only [wE, simprocAttr]) | refine v'8 ?_ | refine v'9 ?_)
        refine eg_mc (node_ok hx _ _ _ _ (by simp) (ones hd1)) u190 w190 (by refine ⟨?_, ?_, ?_, ?_, ?_⟩ <;> (simp only [wS, simprocAttr, MX.row]; try exact rfl)) ?_
        rintro v u191 w191 ⟨rfl, hvn⟩ -
        simp only [wS, simprocAttr, MX.row, zb5, zb6, zb7, zb8, zb9, zb10, zb11, zb12, zb13]
        repeat' (first | refine v'1 fun _ _ => ?_ | refine v'2 ?_ | (first | refine v'3 ?_ | refine v'4 ?_ | refine v'5 fun _ _ _ _ => ?_ | (refine v'6 (fun hg => ?_) (fun hg => ?_) <;> try simp only [hg])) <;> simp only [wS, simprocAttr, MX.row, zb5, zb6, zb7, zb8, zb9, zb10, zb11, zb12, zb13] | (refine v'7 ?_; try simp only [wE, simprocAttr]) | refine v'8 ?_ | refine v'9 ?_)
        refine eg_retC (v := ?rv9) rfl ?hl9 ?_
        case hl9 => simp only [wS, simprocAttr]; exact rfl
        refine EG.of (?v_9, ?a_9, ?l_9) ⟨?hV_9, ?hi_9⟩ ⟨?hv_9, ?g1_9, ?g2_9, ?g3_9, ?g4_9, ?g5_9⟩
        case hv_9 => simp only [wS, simprocAttr]; exact rfl
        case g1_9 => simp only [wS, simprocAttr]; exact rfl
        case g2_9 => simp only [wS, simprocAttr]; try exact rfl
        case g3_9 => simp only [wS, simprocAttr]; try exact rfl
        case g4_9 => simp only [wS, simprocAttr]; try exact rfl
        case g5_9 => simp only [wS, simprocAttr]; try exact rfl
        case hV_9 => exact VN.up (hvn) (by omega)
        case hi_9 => exact hvn.tree
      ·
        have zb5 : (z == 5) = false := by simp; omega
        have zb6 : (z == 6) = false := by simp; omega
        have zb7 : (z == 7) = false := by simp; omega
        have zb8 : (z == 8) = false := by simp; omega
        have zb9 : (z == 9) = false := by simp; omega
        have zb10 : (z == 10) = false := by simp; omega
        have zb11 : (z == 11) = false := by simp; omega
        have zb12 : (z == 12) = false := by simp; omega
        have zb13 : (z == 13) = true := by simp; omega
        repeat' (first | refine v'1 fun _ _ => ?_ | refine v'2 ?_ | (first | refine v'3 ?_ | refine v'4 ?_ | refine v'5 fun _ _ _ _ => ?_ | (refine v'6 (fun hg => ?_) (fun hg => ?_) <;> try simp only [hg])) <;> simp only [wS, simprocAttr, MX.row, zb5, zb6, zb7, zb8, zb9, zb10, zb11, zb12, zb13] | (refine v'7 ?_; try simp only [wE, simprocAttr]) | refine v'8 ?_ | refine v'9 ?_)
        refine eg_mc (node_ok hx _ _ _ _ (by simp) nones) a l (by refine ⟨?_, ?_, ?_, ?_, ?_⟩ <;> (simp only [wS, simprocAttr, MX.row]; try exact rfl)) ?_
        rintro v u200 w200 ⟨rfl, hvn⟩ -
        simp only [wS, simprocAttr, MX.row, zb5, zb6, zb7, zb8, zb9, zb10, zb11, zb12, zb13]
        repeat' (first | refine v'1 fun _ _ => ?_ | refine v'2 ?_ | (first | refine v'3 ?_ | refine v'4 ?_ | refine v'5 fun _ _ _ _ => ?_ | (refine v'6 (fun hg => ?_) (fun hg => ?_) <;> try simp only [hg])) <;> simp only [wS, simprocAttr, MX.row, zb5, zb6, zb7, zb8, zb9, zb10, zb11, zb12, zb13] | (refine v'7 ?_; try simp only [wE, simprocAttr]) | refine v'8 ?_ | refine v'9 ?_)
        refine eg_retC (v := ?rv10) rfl ?hl10 ?_
        case hl10 => simp only [wS, simprocAttr]; exact rfl
        refine EG.of (?v_10, ?a_10, ?l_10) ⟨?hV_10, ?hi_10⟩ ⟨?hv_10, ?g1_10, ?g2_10, ?g3_10, ?g4_10, ?g5_10⟩
        case hv_10 => simp only [wS, simprocAttr]; exact rfl
        case g1_10 => simp only [wS, simprocAttr]; exact rfl
        case g2_10 => simp only [wS, simprocAttr]; try exact rfl
        case g3_10 => simp only [wS, simprocAttr]; try exact rfl
        case g4_10 => simp only [wS, simprocAttr]; try exact rfl
        case g5_10 => simp only [wS, simprocAttr]; try exact rfl
        case hV_10 => exact VN.up (hvn) (by omega)
        case hi_10 => exact hvn.tree
      ·
        have zb5 : (z == 5) = false := by simp; omega
        have zb6 : (z == 6) = false := by simp; omega
        have zb7 : (z == 7) = false := by simp; omega
        have zb8 : (z == 8) = false := by simp; omega
        have zb9 : (z == 9) = false := by simp; omega
        have zb10 : (z == 10) = false := by simp; omega
        have zb11 : (z == 11) = false := by simp; omega
        have zb12 : (z == 12) = false := by simp; omega
        have zb13 : (z == 13) = false := by simp; omega
        repeat' (first | refine v'1 fun _ _ => ?_ | refine v'2 ?_ | (first | refine v'3 ?_ | refine v'4 ?_ | refine v'5 fun _ _ _ _ => ?_ | (refine v'6 (fun hg => ?_) (fun hg => ?_) <;> try simp only [hg])) <;> simp only [wS, simprocAttr, MX.row, zb5, zb6, zb7, zb8, zb9, zb10, zb11, zb12, zb13] | (refine v'7 ?_; try simp only [wE, simprocAttr]) | refine v'8 ?_ | refine v'9 ?_)
        refine key11 a l _ (Weak.ref ⟨?_, .inl ?_⟩)
        · simp only [wS, simprocAttr]; try exact rfl
        · simp only [wS, simprocAttr]; try exact rfl
    clear hK2 hK4
    cases con with
    | false =>
      repeat' (first | refine v'1 fun _ _ => ?_ | refine v'2 ?_ | (first | refine v'3 ?_ | refine v'4 ?_ | refine v'5 fun _ _ _ _ => ?_ | (refine v'6 (fun hg => ?_) (fun hg => ?_) <;> try simp only [hg])) <;> simp only [wS, simprocAttr, MX.row] | (refine v'7 ?_; try simp only [wE, simprocAttr]) | refine v'8 ?_ | refine v'9 ?_)
      refine key4 _ (Weak.ref ⟨?_, .inl ?_⟩)
      · simp only [wS, simprocAttr]; try exact rfl
      · simp only [wS, simprocAttr]; try exact rfl
    | true =>
      have hz : z < 12 ∨ z = 12 ∨ z = 13 ∨ 13 < z := by omega
      rcases hz with hz | hz | hz | hz
      ·
        have zg : decide (12 ≤ z) = false := by simp; omega
        have zg' : (12 ≤ z) = False := by simp; omega
        have zb12 : (z == 12) = false := by simp; omega
        have zb13 : (z == 13) = false := by simp; omega
        repeat' (first | refine v'1 fun _ _ => ?_ | refine v'2 ?_ | (first | refine v'3 ?_ | refine v'4 ?_ | refine v'5 fun _ _ _ _ => ?_ | (refine v'6 (fun hg => ?_) (fun hg => ?_) <;> try simp only [hg])) <;> simp only [wS, simprocAttr, MX.row, zg, zg', zb12, zb13] | (refine v'7 ?_; try simp only [wE, simprocAttr]) | refine v'8 ?_ | refine v'9 ?_)
        refine key4 _ (Weak.ref ⟨?_, .inl ?_⟩)
        · simp only [wS, simprocAttr]; try exact rfl
        · simp only [wS, simprocAttr]; try exact rfl
      ·
        have zg : decide (12 ≤ z) = true := by simp; omega
        have zg' : (12 ≤ z) = True := by simp; omega
        have zb12 : (z == 12) = true := by simp; omega
        have zb13 : (z == 13) = false := by simp; omega
        repeat' (first | refine v'1 fun _ _ => ?_ | refine v'2 ?_ | (first | refine v'3 ?_ | refine v'4 ?_ | refine v'5 fun _ _ _ _ => ?_ | (refine v'6 (fun hg => ?_) (fun hg => ?_) <;> try simp only [hg])) <;> simp only [wS, simprocAttr, MX.row, zg, zg', zb12, zb13] | (refine v'7 ?_; try simp only [wE, simprocAttr]) | refine v'8 ?_ | refine v'9 ?_)
        refine eg_mc (call_ok hx 23 2 (by decide) (by decide) fun kd => hE kd _ (by decide)) a l (by refine ⟨?_, ?_, ?_, ?_, ?_⟩ <;> (simp only [wS, simprocAttr, MX.row]; try exact rfl)) ?_
        rintro v u230 w230 ⟨c1, rfl, hc1⟩ -
        have hd1 := hc1
        cases hc1 with
        | mk k1 n1 m1 b1 es1 hl1 hh1 =>
        simp only [wS, simprocAttr, MX.row, zg, zg', zb12, zb13]
        repeat' (first | refine v'1 fun _ _ => ?_ | refine v'2 ?_ | (first | refine v'3 ?_ | refine v'4 ?_ | refine v'5 fun _ _ _ _ => ?_ | (refine v'6 (fun hg => ?_) (fun hg => ?_) <;> try simp only [hg])) <;> simp only [wS, simprocAttr, MX.row, zg, zg', zb12, zb13] | (refine v'7 ?_; try simp only [wE, simprocAttr]) | refine v'8 ?_ | refine v'9 ?_)
        refine eg_retC (v := ?rv11) rfl ?hl11 ?_
        case hl11 => simp only [wS, simprocAttr]; exact rfl
        refine EG.of (?v_11, ?a_11, ?l_11) ⟨?hV_11, ?hi_11⟩ ⟨?hv_11, ?g1_11, ?g2_11, ?g3_11, ?g4_11, ?g5_11⟩
        case hv_11 => simp only [wS, simprocAttr]; exact rfl
        case g1_11 => simp only [wS, simprocAttr]; exact rfl
        case g2_11 => simp only [wS, simprocAttr]; try exact rfl
        case g3_11 => simp only [wS, simprocAttr]; try exact rfl
        case g4_11 => simp only [wS, simprocAttr]; try exact rfl
        case g5_11 => simp only [wS, simprocAttr]; try exact rfl
        case hV_11 => exact VN.up (⟨_, rfl, hd1⟩ ) (by omega)
        case hi_11 => exact VN.tree (⟨_, rfl, hd1⟩ )
      ·
        have zg : decide (12 ≤ z) = true := by simp; omega
        have zg' : (12 ≤ z) = True := by simp; omega
        have zb12 : (z == 12) = false := by simp; omega
        have zb13 : (z == 13) = true := by simp; omega
        repeat' (first | refine v'1 fun _ _ => ?_ | refine v'2 ?_ | (first | refine v'3 ?_ | refine v'4 ?_ | refine v'5 fun _ _ _ _ => ?_ | (refine v'6 (fun hg => ?_) (fun hg => ?_) <;> try simp only [hg])) <;> simp only [wS, simprocAttr, MX.row, zg, zg', zb12, zb13] | (refine v'7 ?_; try simp only [wE, simprocAttr]) | refine v'8 ?_ | refine v'9 ?_)
        refine eg_mc (call_ok hx 23 1 (by decide) (by decide) fun kd => hE kd _ (by decide)) a l (by refine ⟨?_, ?_, ?_, ?_, ?_⟩ <;> (simp only [wS, simprocAttr, MX.row]; try exact rfl)) ?_
        rintro v u240 w240 ⟨c1, rfl, hc1⟩ -
        have hd1 := hc1
        cases hc1 with
        | mk k1 n1 m1 b1 es1 hl1 hh1 =>
        simp only [wS, simprocAttr, MX.row, zg, zg', zb12, zb13]
        repeat' (first | refine v'1 fun _ _ => ?_ | refine v'2 ?_ | (first | refine v'3 ?_ | refine v'4 ?_ | refine v'5 fun _ _ _ _ => ?_ | (refine v'6 (fun hg => ?_) (fun hg => ?_) <;> try simp only [hg])) <;> simp only [wS, simprocAttr, MX.row, zg, zg', zb12, zb13] | (refine v'7 ?_; try simp only [wE, simprocAttr]) | refine v'8 ?_ | refine v'9 ?_)
        refine eg_retC (v := ?rv12) rfl ?hl12 ?_
        case hl12 => simp only [wS, simprocAttr]; exact rfl
        refine EG.of (?v_12, ?a_12, ?l_12) ⟨?hV_12, ?hi_12⟩ ⟨?hv_12, ?g1_12, ?g2_12, ?g3_12, ?g4_12, ?g5_12⟩
        case hv_12 => simp only [wS, simprocAttr]; exact rfl
        case g1_12 => simp only [wS, simprocAttr]; exact rfl
        case g2_12 => simp only [wS, simprocAttr]; try exact rfl
        case g3_12 => simp only [wS, simprocAttr]; try exact rfl
        case g4_12 => simp only [wS, simprocAttr]; try exact rfl
        case g5_12 => simp only [wS, simprocAttr]; try exact rfl
        case hV_12 => exact VN.up (⟨_, rfl, hd1⟩ ) (by omega)
        case hi_12 => exact VN.tree (⟨_, rfl, hd1⟩ )
      ·
        have zg : decide (12 ≤ z) = true := by simp; omega
        have zg' : (12 ≤ z) = True := by simp; omega
        have zb12 : (z == 12) = false := by simp; omega
        have zb13 : (z == 13) = false := by simp; omega
        repeat' (first | refine v'1 fun _ _ => ?_ | refine v'2 ?_ | (first | refine v'3 ?_ | refine v'4 ?_ | refine v'5 fun _ _ _ _ => ?_ | (refine v'6 (fun hg => ?_) (fun hg => ?_) <;> try simp only [hg])) <;> simp only [wS, simprocAttr, MX.row, zg, zg', zb12, zb13] | (refine v'7 ?_; try simp only [wE, simprocAttr]) | refine v'8 ?_ | refine v'9 ?_)
        refine eg_mc (draw_ok hx pn (hcp rfl)) a l (by refine ⟨?_, ?_, ?_, ?_, ?_⟩ <;> (simp only [wS, simprocAttr, MX.row]; try exact rfl)) ?_
        rintro v u250 w250 ⟨y, rfl, hy1, hy2⟩ -
        simp only [wS, simprocAttr, MX.row, zg, zg', zb12, zb13]
        repeat' (first | refine v'1 fun _ _ => ?_ | refine v'2 ?_ | (first | refine v'3 ?_ | refine v'4 ?_ | refine v'5 fun _ _ _ _ => ?_ | (refine v'6 (fun hg => ?_) (fun hg => ?_) <;> try simp only [hg])) <;> simp only [wS, simprocAttr, MX.row, zg, zg', zb12, zb13] | (refine v'7 ?_; try simp only [wE, simprocAttr]) | refine v'8 ?_ | refine v'9 ?_)
        refine eg_mc (hE 0 2 (by decide)) u250 w250 (by refine ⟨?_, ?_, ?_, ?_, ?_⟩ <;> (simp only [wS, simprocAttr, MX.row]; try exact rfl)) ?_
        rintro v u251 w251 ⟨c1, rfl, hc1⟩ -
        have hd1 := hc1
        cases hc1 with
        | mk k1 n1 m1 b1 es1 hl1 hh1 =>
        simp only [wS, simprocAttr, MX.row, zg, zg', zb12, zb13]
        repeat' (first | refine v'1 fun _ _ => ?_ | refine v'2 ?_ | (first | refine v'3 ?_ | refine v'4 ?_ | refine v'5 fun _ _ _ _ => ?_ | (refine v'6 (fun hg => ?_) (fun hg => ?_) <;> try simp only [hg])) <;> simp only [wS, simprocAttr, MX.row, zg, zg', zb12, zb13] | (refine v'7 ?_; try simp only [wE, simprocAttr]) | refine v'8 ?_ | refine v'9 ?_)
        refine eg_mc (node_ok hx _ _ _ _ (by simp) (ones hd1)) u251 w251 (by refine ⟨?_, ?_, ?_, ?_, ?_⟩ <;> (simp only [wS, simprocAttr, MX.row]; try exact rfl)) ?_
        rintro v u252 w252 ⟨rfl, hvn⟩ -
        simp only [wS, simprocAttr, MX.row, zg, zg', zb12, zb13]
        repeat' (first | refine v'1 fun _ _ => ?_ | refine v'2 ?_ | (first | refine v'3 ?_ | refine v'4 ?_ | refine v'5 fun _ _ _ _ => ?_ | (refine v'6 (fun hg => ?_) (fun hg => ?_) <;> try simp only [hg])) <;> simp only [wS, simprocAttr, MX.row, zg, zg', zb12, zb13] | (refine v'7 ?_; try simp only [wE, simprocAttr]) | refine v'8 ?_ | refine v'9 ?_)
        refine eg_retC (v := ?rv13) rfl ?hl13 ?_
        case hl13 => simp only [wS, simprocAttr]; exact rfl
        refine EG.of (?v_13, ?a_13, ?l_13) ⟨?hV_13, ?hi_13⟩ ⟨?hv_13, ?g1_13, ?g2_13, ?g3_13, ?g4_13, ?g5_13⟩
        case hv_13 => simp only [wS, simprocAttr]; exact rfl
        case g1_13 => simp only [wS, simprocAttr]; exact rfl
        case g2_13 => simp only [wS, simprocAttr]; try exact rfl
        case g3_13 => simp only [wS, simprocAttr]; try exact rfl
        case g4_13 => simp only [wS, simprocAttr]; try exact rfl
        case g5_13 => simp only [wS, simprocAttr]; try exact rfl
        case hV_13 => exact VN.up (hvn) (by omega)
        case hi_13 => exact hvn.tree
  clear hK2
  repeat' (first | refine v'1 fun _ _ => ?_ | refine v'2 ?_ | (first | refine v'3 ?_ | refine v'4 ?_ | refine v'5 fun _ _ _ _ => ?_ | (refine v'6 (fun hg => ?_) (fun hg => ?_) <;> try simp only [hg])) <;> simp only [wS, simprocAttr, MX.row] | (refine v'7 ?_; try simp only [wE, simprocAttr]) | refine v'8 ?_ | refine v'9 ?_)
  ·
    refine eg_split (fun hs2 => ?_) (fun hs2 => ?_)
    ·
      repeat' (first | refine v'1 fun _ _ => ?_ | refine v'2 ?_ | (first | refine v'3 ?_ | refine v'4 ?_ | refine v'5 fun _ _ _ _ => ?_ | (refine v'6 (fun hg => ?_) (fun hg => ?_) <;> try simp only [hg])) <;> simp only [wS, simprocAttr, MX.row] | (refine v'7 ?_; try simp only [wE, simprocAttr]) | refine v'8 ?_ | refine v'9 ?_)
      refine eg_mc (hN (by have hq := ‹decide (depth > 0) = true›; simpa using hq)) u1 w1 (by refine ⟨?_, ?_, ?_, ?_, ?_⟩ <;> (simp only [wS, simprocAttr, MX.row]; try exact rfl)) ?_
      rintro v u3 w3 ⟨c1, rfl, hc1⟩ -
      have hd1 := hc1
      cases hc1 with
      | mk k1 n1 m1 b1 es1 hl1 hh1 =>
      simp only [wS, simprocAttr, MX.row]
      repeat' (first | refine v'1 fun _ _ => ?_ | refine v'2 ?_ | (first | refine v'3 ?_ | refine v'4 ?_ | refine v'5 fun _ _ _ _ => ?_ | (refine v'6 (fun hg => ?_) (fun hg => ?_) <;> try simp only [hg])) <;> simp only [wS, simprocAttr, MX.row] | (refine v'7 ?_; try simp only [wE, simprocAttr]) | refine v'8 ?_ | refine v'9 ?_)
      refine eg_retC (v := ?rv14) rfl ?hl14 ?_
      case hl14 => simp only [wS, simprocAttr]; exact rfl
      refine EG.of (?v_14, ?a_14, ?l_14) ⟨?hV_14, ?hi_14⟩ ⟨?hv_14, ?g1_14, ?g2_14, ?g3_14, ?g4_14, ?g5_14⟩
      case hv_14 => simp only [wS, simprocAttr]; exact rfl
      case g1_14 => simp only [wS, simprocAttr]; exact rfl
      case g2_14 => simp only [wS, simprocAttr]; try exact rfl
      case g3_14 => simp only [wS, simprocAttr]; try exact rfl
      case g4_14 => simp only [wS, simprocAttr]; try exact rfl
      case g5_14 => simp only [wS, simprocAttr]; try exact rfl
      case hV_14 => exact VN.up (⟨_, rfl, hd1⟩ ) (by omega)
      case hi_14 => exact VN.tree (⟨_, rfl, hd1⟩ )
    ·
      repeat' (first | refine v'1 fun _ _ => ?_ | refine v'2 ?_ | (first | refine v'3 ?_ | refine v'4 ?_ | refine v'5 fun _ _ _ _ => ?_ | (refine v'6 (fun hg => ?_) (fun hg => ?_) <;> try simp only [hg])) <;> simp only [wS, simprocAttr, MX.row] | (refine v'7 ?_; try simp only [wE, simprocAttr]) | refine v'8 ?_ | refine v'9 ?_)
      refine key2 u1 w1 _ (Weak.ref ⟨?_, .inl ?_⟩)
      · simp only [wS, simprocAttr]; try exact rfl
      · simp only [wS, simprocAttr]; try exact rfl
  ·
    refine key2 u1 w1 _ (Weak.ref ⟨?_, .inl ?_⟩)
    · simp only [wS, simprocAttr]; try exact rfl
    · simp only [wS, simprocAttr]; try exact rfl
  ·
    refine key2 u1 w1 _ (Weak.ref ⟨?_, .inl ?_⟩)
    · simp only [wS, simprocAttr]; try exact rfl
    · simp only [wS, simprocAttr]; try exact rfl
end Go.Proofs.YtpdibmopbpcfdaaDoor
