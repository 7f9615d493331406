import Derived.Test.YtblfpppnkdokdaaGreatDoorSI
import Derived.Test.YtblfpppnkdokdaaGreatDoorSM
set_option linter.unusedVariables false
set_option linter.unusedSimpArgs false
namespace Go.Proofs.YtblfpppnkdokdaaGreatDoor
open Go.AM
attribute [local irreducible] AWp aR aV bI bN bR aO aQ bK
set_option maxRecDepth 100000
def NX (o : OpT) : Prop := T.size o.2.1 ≤ 100000000000 ∧ T.size o.2.2.1 ≤ 100000000000
set_option maxHeartbeats 8000000 in
theorem IZ (t : T) (ht : T.size t ≤ 100000000000) (b : Bool) (ol : List OpT) (hops : ∀ o ∈ ol, NX o) (hol : ol.length ≤ 1000000000) : Pure Tryz.prog G0 25 [.agg (T.enc t), .sl b (ol.map opC)] (.sl false (SE (eQ t ol))) := by
 have htr := T.enc_tree t
 have kps := oM _ t (Nat.le_refl _) ht
 have hOl : (ol.map opC).length = ol.length := List.length_map ..
 have hOt := pZ ol
 have hOg : ∀ (j : Nat) (o : OpT), ol[j]? = some o → (ol.map opC)[j]? = some (opC o) := fun j o h => by rw [List.getElem?_map, h]; rfl
 obtain ⟨res, hres⟩ : ∃ r, r = eQ t ol := ⟨_, rfl⟩
 have hrt : inR aC (.sl false (SE res)) = true := by simp only [inR]; exact gC _
 have hwk : AM.wk (.sl false (SE res)) = .sl false (SE res) := by
  clear hres hrt
  simp only [AM.wk, AV.sl.injEq, true_and, gD]
  induction res with
  | nil => rfl
  | cons x l ih =>
   have := CA [x.1]
   simp only [PE, List.map_cons, List.map_nil, wkL, List.cons.injEq, and_true] at this
   simp only [SE, List.map_cons, wkL, AM.wk, List.cons.injEq, and_true] at ih ⊢
   exact ⟨this, ih⟩
 rw [← hres]
 unfold eQ at hres
 have hpl := T.paths_len t
 have hsub := fun (p : List Int) (h : p ∈ T.paths t) => T.paths_sub t p h
 have hpg := fun (i : Nat) (p : List Int) (h : (T.paths t)[i]? = some p) => nL h
 have hPl := gF (T.paths t)
 have hPt := fZ (T.paths t)
 generalize T.paths t = ps at kps hres hpl hsub hpg hPl hPt
 generalize hPS : PE ps = PS at kps hpg hPl hPt
 have kat := fun (p : List Int) (hp : p.length ≤ 1000000000000) (t' : T) (h : T.sub t p = some t') => N7 p false t t' hp h
 obtain ⟨ta, tb, tc, TE, hte⟩ := aK t
 rw [hte] at htr kps kat ⊢
 generalize ol.map opC = OL at hOl hOt hOg ⊢
 refine bF hG0 Tryz.func25 rfl (by kernel_rfl) (by simp [Tryz.ntmps25]) (by simp only [inL, inR, Bool.true_and, Bool.and_true, Bool.and_eq_true] at htr ⊢; exact ⟨htr, hOt⟩) (by exact hrt) ?_
 simp only [Tryz.ntmps25, aF, Nat.reduceAdd]
 have hTE : inE aC TE = true := by simpa only [inL, inR, Bool.true_and, Bool.and_true] using htr
 by_cases h24 : 24 < ol.length
 ·have c0 : decide (((OL.length : Nat) : Int) > 24) = true := by simp; omega
  rw [if_pos h24] at hres
  subst hres
  repeat' (first | with_reducible (first | refine u'1 fun _ _ => ?_ | refine u'W ?_ | (first | refine u'R ?_ | refine u'5 fun _ _ _ _ => ?_ | refine u'6 (fun hg => ?_) (fun hg => ?_) <;> try simp only [hg]) <;> simp only [wS, simprocAttr, c0]) | with_reducible first | refine ⟨fun _ => ?_, fun _ => ?_⟩ | refine u'A ?_)
  refine aD rfl ?_
  simp only [wS, simprocAttr]
  rfl
 ·have c0 : decide (((OL.length : Nat) : Int) > 24) = false := by simp; omega
  rw [if_neg h24] at hres
  repeat' (first | with_reducible (first | refine u'1 fun _ _ => ?_ | refine u'W ?_ | (first | refine u'R ?_ | refine u'5 fun _ _ _ _ => ?_ | refine u'6 (fun hg => ?_) (fun hg => ?_) <;> try simp only [hg]) <;> simp only [wS, simprocAttr, c0]) | (refine aA hG0 (kps) ?_; simp only [wS, simprocAttr, c0]) | with_reducible first | refine ⟨fun _ => ?_, fun _ => ?_⟩ | refine u'A ?_)
  refine aN (α := {i : Nat // i ≤ ps.length}) (fun i => [(1, .sl b OL), (2, .ptr 0 0 0), (5, rv 1 ((SE (cD t ol (ps.take i.1))).length - 1) 2 (SE (cD t ol (ps.take i.1)))), (6, .sl false PS), (7, .int .i64 (i.1 : Nat))]) (fun i => [.cells 0 [.int .i64 ta, .int .i64 tb, .int .i64 tc, .sl false TE], rvR ((SE (cD t ol (ps.take i.1))).length - 1) (SE (cD t ol (ps.take i.1)))]) (fun i => ps.length - i.1) ⟨0, Nat.zero_le _⟩ (b8 [] (kp [0, 1]) hG0 (fun r hr => absurd hr (Nat.not_lt_zero r)) ?_ ?_ ?_) ?_
  ·simp only [wS, simprocAttr, dU, Frz, and_true, true_or, List.take_zero, cD, SE, List.map_nil, gE, hPl, c0]; try exact .toRsv
  ·simp only [List.all_cons, List.all_nil, Bool.and_true, Bool.and_eq_true, inR, aB hOt, aB hPt, true_and]; exact ⟨rfl, dK rfl⟩
  ·simp only [wS, simprocAttr, List.take_zero, cD, SE, List.map_nil, g6]
   simp only [ToH, and_true]
   exact kr rfl (by simp only [aE, inL, inR, Bool.true_and, Bool.and_true]; exact aB hTE) (by simp)
  ·rintro ⟨i, hi⟩ K hK
   try simp only at hi
   by_cases hlt : i < ps.length
   ·have c1 : decide (((i : Nat) : Int) < ((PS.length : Nat) : Int)) = true := by simp; omega
    obtain ⟨p, hp⟩ : ∃ p, ps[i]? = some p := ⟨_, List.getElem?_eq_getElem hlt⟩
    have gp := hpg i p hp
    have hA : i < PS.length := by omega
    have e3 := aM (k := i) hlt (by omega)
    obtain ⟨hpn, t', hs, hts⟩ := hsub p (List.mem_of_getElem? hp)
    have ka := kat p (by omega) t' hs
    have htk := qT (ol := ol) hp hs
    have hal := j1 t ol (ps.take i)
    have hal2 : (ps.take i).length * ol.length ≤ 100000000000 * 24 := Nat.mul_le_mul (by rw [List.length_take]; omega) (by omega)
    have kap := fun (o : OpT) (ho : NX o) => J3 o.1 o.2.1 o.2.2.1 o.2.2.2 ho.1 ho.2 t' (by omega)
    obtain ⟨na, nb, nc, NE, hne⟩ := aK t'
    have hnt := T.enc_tree t'
    rw [hne] at ka kap hnt
    have hipt : inE aC (bD p) = true := bJ p
    generalize hA0 : cD t ol (ps.take i) = A0 at hal htk ⊢
    have hse : ∀ (l : List (List Int × Nat)) (j : Nat), SE (l ++ [(p, j)]) = SE l ++ [[.sl false (bD p), .int .i64 (j : Nat)]] := fun l j => LG _ _
    change Pure Tryz.prog G0 _ [_, .sl false (bD p)] _ at ka
    generalize bD p = ip at gp ka hipt hse
    repeat' (first | with_reducible (first | refine u'1 fun _ _ => ?_ | refine u'W ?_ | (first | refine u'R ?_ | refine u'5 fun _ _ _ _ => ?_ | refine u'6 (fun hg => ?_) (fun hg => ?_) <;> try simp only [hg]) <;> simp only [wS, simprocAttr, gp, hA, c1, e3]) | (refine aA hG0 (ka) ?_; simp only [wS, simprocAttr, gp, hA, c1, e3]) | with_reducible first | refine ⟨fun _ => ?_, fun _ => ?_⟩ | refine u'A ?_)
    refine aN (α := {j : Nat // j ≤ ol.length}) (fun j => [(1, .sl b OL), (2, .ptr 0 0 0), (5, rv 1 ((SE (A0 ++ dP t' p (ol.take j.1) 0)).length - 1) 2 (SE (A0 ++ dP t' p (ol.take j.1) 0))), (6, .sl false PS), (7, .int .i64 (i : Nat)), (8, .ptr 2 0 0), (10, .int .i64 (j.1 : Nat))]) (fun j => [.cells 0 [.int .i64 ta, .int .i64 tb, .int .i64 tc, .sl false TE], rvR ((SE (A0 ++ dP t' p (ol.take j.1) 0)).length - 1) (SE (A0 ++ dP t' p (ol.take j.1) 0)), .cells 0 [.int .i64 na, .int .i64 nb, .int .i64 nc, .sl false NE]]) (fun j => ol.length - j.1) ⟨0, Nat.zero_le _⟩ (Weak.ref ⟨?_, .inl ?_⟩) ?_
    ·simp only [wS, simprocAttr, List.take_zero, dP, List.append_nil, c0]; try exact rfl
    ·simp only [wS, simprocAttr, List.take_zero, dP, List.append_nil]; try exact rfl
    ·rintro ⟨j, hj⟩ K2 hK2
     try simp only at hj
     have hhl := o6 t' p (ol.take j) 0
     rw [List.length_take] at hhl
     have hAl : (SE (A0 ++ dP t' p (ol.take j) 0)).length ≤ 100000000000 * 24 + 24 := by rw [B6, List.length_append]; omega
     have hAs := GM (A0 ++ dP t' p (ol.take j) 0)
     by_cases hltj : j < ol.length
     ·have d1 : decide (((j : Nat) : Int) < ((OL.length : Nat) : Int)) = true := by simp; omega
      have hB : j < OL.length := by omega
      have f3 := aM (k := j) hltj (by omega)
      obtain ⟨o, ho⟩ : ∃ o, ol[j]? = some o := ⟨_, List.getElem?_eq_getElem hltj⟩
      have gh := hOg j o ho
      have ko := kap o (hops o (List.mem_of_getElem? ho))
      have hnx := xU (t := t') (p := p) ho
      obtain ⟨nm, f, pu, bk⟩ := o
      obtain ⟨fa, fb, fc, FE, hfe⟩ := aK f
      obtain ⟨pa, pb, pc, PE', hpe⟩ := aK pu
      simp only [opC, opE, hfe, hpe, List.cons_append, List.nil_append, B1] at gh ko hnx
      generalize T.app nm f pu bk t' = r at ko hnx
      have hAt := gC (A0 ++ dP t' p (ol.take (j + 1)) 0)
      rw [hnx] at hAt
      cases r with
      | none =>
       simp only [uE, List.append_nil] at hnx hAt
       simp only [wF] at ko
       repeat' (first | with_reducible (first | refine u'1 fun _ _ => ?_ | refine u'W ?_ | (first | refine u'R ?_ | refine u'5 fun _ _ _ _ => ?_ | refine u'6 (fun hg => ?_) (fun hg => ?_) <;> try simp only [hg]) <;> simp only [wS, simprocAttr, gp, hA, gh, hB, d1, f3, ↓aI, ↓aG]) | (refine aA hG0 (ko) ?_; simp only [wS, simprocAttr, gp, hA, gh, hB, d1, f3, ↓aI, ↓aG]) | with_reducible first | refine ⟨fun _ => ?_, fun _ => ?_⟩ | refine u'A ?_)
       refine hK2.go ⟨j + 1, hltj⟩ (Weak.ref ⟨?_, .inr ⟨by first | exact Nat.zero_le _ | exact Nat.le_refl _ | simp, ?_, fun g cs hg => aZ (hG0 g cs hg), ?_, ?_⟩⟩) (by simp only; omega)
       ·simp only [wS, simprocAttr, hnx]; try exact rfl
       ·simp only [wS, simprocAttr, hnx]; try exact rfl
       ·intro z hz
        simp only [List.mem_cons, List.not_mem_nil, or_false] at hz
        rcases hz with rfl | rfl | rfl | rfl | rfl | rfl | rfl <;> first | rfl | (simp only [inR]; first | exact aB hOt | exact aB hPt | exact aB hipt | exact dK rfl)
       ·simp only [List.all_cons, List.all_nil, Bool.and_true, Bool.and_eq_true]; try exact ⟨by simp only [aE, inL, inR, Bool.true_and, Bool.and_true]; exact aB hTE, cX (aB (by rw [hnx]; exact hAt)), by simp only [aE, inL, inR, Bool.true_and, Bool.and_true]; exact aB (by simpa only [inL, inR, Bool.true_and, Bool.and_true] using hnt)⟩
      | some x =>
       simp only [uE] at hnx hAt
       rw [← List.append_assoc] at hAt
       rw [hse] at hAt
       obtain ⟨xa, xb, xc, XE, hxe⟩ := aK x
       simp only [wF, hxe] at ko
       have hnx2 : SE (A0 ++ (dP t' p (ol.take j) 0 ++ [(p, j)])) = SE (A0 ++ dP t' p (ol.take j) 0) ++ [[.sl false ip, .int .i64 (j : Nat)]] := by rw [← List.append_assoc, hse]
       generalize hAP : SE (A0 ++ dP t' p (ol.take j) 0) = AP at hAl hAs hAt hnx2 ⊢
       repeat' (first | with_reducible (first | refine u'1 fun _ _ => ?_ | refine u'W ?_ | (first | refine u'R ?_ | refine u'5 fun _ _ _ _ => ?_ | refine u'6 (fun hg => ?_) (fun hg => ?_) <;> try simp only [hg]) <;> simp only [wS, simprocAttr, gp, hA, gh, hB, d1, f3, ↓aI, ↓aG]) | (refine aA hG0 (ko) ?_; simp only [wS, simprocAttr, gp, hA, gh, hB, d1, f3, ↓aI, ↓aG]) | (refine fJ (v' := (AP ++ [[AV.sl false ip, AV.int .i64 (j : Nat)]]).length - 1) (es := [[.sl false ip, .int .i64 (j : Nat)]]) (by' := 32) (by kernel_rfl) (by (simp only [wS, simprocAttr]; try exact rfl)) vv hAs (by simp [cV]) (by simp) (by simp only [List.length_singleton]; omega) ?_; simp only [wS, simprocAttr, gp, hA, gh, hB, d1, f3, ↓aI, ↓aG]) | with_reducible first | refine ⟨fun _ => ?_, fun _ => ?_⟩ | refine u'A ?_)
       refine hK2.go ⟨j + 1, hltj⟩ (Weak.ref ⟨?_, .inr ⟨by first | exact Nat.zero_le _ | exact Nat.le_refl _ | simp, ?_, fun g cs hg => aZ (hG0 g cs hg), ?_, ?_⟩⟩) (by simp only; omega)
       ·simp only [wS, simprocAttr, hnx, hnx2]; try exact rfl
       ·simp only [wS, simprocAttr, hnx, hnx2]; try exact rfl
       ·intro z hz
        simp only [List.mem_cons, List.not_mem_nil, or_false] at hz
        rcases hz with rfl | rfl | rfl | rfl | rfl | rfl | rfl <;> first | rfl | (simp only [inR]; first | exact aB hOt | exact aB hPt | exact aB hipt | exact dK rfl)
       ·simp only [List.all_cons, List.all_nil, Bool.and_true, Bool.and_eq_true]; try exact ⟨by simp only [aE, inL, inR, Bool.true_and, Bool.and_true]; exact aB hTE, cX (aB (by rw [hnx, hnx2]; exact hAt)), by simp only [aE, inL, inR, Bool.true_and, Bool.and_true]; exact aB (by simpa only [inL, inR, Bool.true_and, Bool.and_true] using hnt)⟩
     ·have d1 : decide (((j : Nat) : Int) < ((OL.length : Nat) : Int)) = false := by simp; omega
      obtain rfl : j = ol.length := by omega
      rw [List.take_length, ← htk] at hAl ⊢
      repeat' (first | with_reducible (first | refine u'1 fun _ _ => ?_ | refine u'W ?_ | (first | refine u'R ?_ | refine u'5 fun _ _ _ _ => ?_ | refine u'6 (fun hg => ?_) (fun hg => ?_) <;> try simp only [hg]) <;> simp only [wS, simprocAttr, d1, e3, c1]) | with_reducible first | refine ⟨fun _ => ?_, fun _ => ?_⟩ | refine u'A ?_)
      refine hK.go ⟨i + 1, hlt⟩ (Weak.ref ⟨?_, .inr ⟨by first | exact Nat.zero_le _ | exact Nat.le_refl _ | simp, ?_, fun g cs hg => aZ (hG0 g cs hg), ?_, ?_⟩⟩) (by simp only; omega)
      ·simp only [wS, simprocAttr]; try exact rfl
      ·simp only [wS, simprocAttr]; try exact rfl
      ·intro z hz
       simp only [List.mem_cons, List.not_mem_nil, or_false] at hz
       rcases hz with rfl | rfl | rfl | rfl | rfl <;> first | rfl | (simp only [inR]; first | exact aB hOt | exact aB hPt | exact aB hipt | exact dK rfl)
      ·simp only [List.all_cons, List.all_nil, Bool.and_true, Bool.and_eq_true]; try exact ⟨by simp only [aE, inL, inR, Bool.true_and, Bool.and_true]; exact aB hTE, cX (aB (gC _))⟩
   ·have c1 : decide (((i : Nat) : Int) < ((PS.length : Nat) : Int)) = false := by simp; omega
    obtain rfl : i = ps.length := by omega
    rw [List.take_length, ← hres]
    have hrs := GM res
    have hrl := gC res
    repeat' (first | with_reducible (first | refine u'1 fun _ _ => ?_ | refine u'X ?_ | (first | refine u'R ?_ | refine u'5 fun _ _ _ _ => ?_ | refine u'6 (fun hg => ?_) (fun hg => ?_) <;> try simp only [hg]) <;> simp only [wS, simprocAttr, c1]))
    refine Cont.go (by assumption) ?_
    repeat' (first | with_reducible (first | refine u'1 fun _ _ => ?_ | refine u'X ?_ | (first | refine u'R ?_ | refine u'5 fun _ _ _ _ => ?_ | refine u'6 (fun hg => ?_) (fun hg => ?_) <;> try simp only [hg]) <;> simp only [wS, simprocAttr, c1]))
    refine Cont.go (by assumption) (fE (b8 [1] (kp [0]) (l := [(5, .sl false (SE res))]) (h := [.cells 0 [.int .i64 ta, .int .i64 tb, .int .i64 tc, .sl false TE]]) hG0 (fun r hr => absurd hr (Nat.not_lt_zero r)) ?_ ?_ ?_) ?_)
    ·simp only [wS, simprocAttr, dU, Frz, and_true, true_or]; exact .inr (fB (v := (SE res).length - 1) rfl (by simp) hrs hrl)
    ·simp only [List.all_cons, List.all_nil, Bool.and_true, inR]; exact aB hrl
    ·simp only [wS, simprocAttr]
     simp only [ToH, and_true]
     exact ⟨kr rfl (by simp only [aE, inL, inR, Bool.true_and, Bool.and_true]; exact aB hTE) (by simp), rfl⟩
    repeat' (first | with_reducible (first | refine u'1 fun _ _ => ?_ | refine u'W ?_ | (first | refine u'R ?_ | refine u'5 fun _ _ _ _ => ?_ | refine u'6 (fun hg => ?_) (fun hg => ?_) <;> try simp only [hg]) <;> simp only [wS, simprocAttr]))
    refine aD rfl ?_
    simp only [wS, simprocAttr, hwk]
end Go.Proofs.YtblfpppnkdokdaaGreatDoor
