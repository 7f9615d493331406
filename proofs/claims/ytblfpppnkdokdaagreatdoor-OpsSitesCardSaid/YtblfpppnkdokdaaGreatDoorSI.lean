import Derived.Test.YtblfpppnkdokdaaGreatDoorP4
import Derived.Test.YtblfpppnkdokdaaGreatDoorSF
set_option linter.unusedVariables false
set_option linter.unusedSimpArgs false
namespace Go.Proofs.YtblfpppnkdokdaaGreatDoor
open Go.AM
attribute [local irreducible] AWp aR aV bI bN bR aO aQ bK
set_option maxRecDepth 100000
theorem F4 (p : List Int) (hl : p.length ≤ 1000000000000) : Pure Tryz.prog G0 63 [.sl false (bD p)] (.sl false (bD p)) := by
 have ht : inE aC (bD p) = true := bJ p
 have h1 : ∀ e ∈ bD p, e.length = 1 := fun e he => by
  obtain ⟨x, _, rfl⟩ := List.mem_map.1 he
  rfl
 have hall : (bD p).all (fun e => decide (e.length = 1)) = true := List.all_eq_true.2 fun e he => by simpa using h1 e he
 have hpl : (bD p).length = p.length := by simp [bD]
 have hwk : AM.wk (.sl false (bD p)) = .sl false (bD p) := by
  have := CA [p]
  simp only [PE, List.map_cons, List.map_nil, wkL, List.cons.injEq, and_true] at this
  exact this
 by_cases hp : p = []
 ·subst hp
  exact yI
 ·have hne : bD p ≠ [] := fun h => hp (by have := hpl; rw [h] at this; exact List.eq_nil_of_length_eq_zero this.symm)
  generalize bD p = ip at ht h1 hall hpl hwk hne ⊢
  refine aL hG0 Tryz.func63 rfl (by kernel_rfl) (by simp [Tryz.ntmps63]) (by simp only [inL, inR, ht, Bool.and_self]) (by simp only [inR]; exact ht) ?_
  simp only [Tryz.ntmps63, aF, Nat.reduceAdd]
  have hem : ip.isEmpty = false := by simpa using hne
  have hpos : 0 < ip.length := List.length_pos_iff.2 hne
  refine sA ?_
  repeat' (first | with_reducible (first | refine u'1 fun _ _ => ?_ | refine u'W ?_ | (first | refine u'R ?_ | refine u'5 fun _ _ _ _ => ?_ | refine u'6 (fun hg => ?_) (fun hg => ?_) <;> try simp only [hg]) <;> simp only [wS, simprocAttr, hem, Bool.not_false]))
  refine gL (sz := 1) (by' := 8) (mm := ip.length) (new := ip.flatten) (es := []) (by kernel_rfl) ?hb (by simp) (sT hall) (by omega) (by simp only [List.length_nil]; omega) ?_
  case hb => simp only [wS, simprocAttr]; try exact rfl
  simp only [wS, simprocAttr]
  repeat' (first | with_reducible (first | refine u'1 fun _ _ => ?_ | refine u'W ?_ | (first | refine u'R ?_ | refine u'5 fun _ _ _ _ => ?_ | refine u'6 (fun hg => ?_) (fun hg => ?_) <;> try simp only [hg]) <;> simp only [wS, simprocAttr]))
  refine ⟨_, FU [] hG0 (t := 2) (r := 0) (ver := 0) (m := ip.length) (sz := 1) (full := false) (es := ip) (cs := ip.flatten) (by simp only [wS, simprocAttr]) (by simp only [wS, simprocAttr]; try exact rfl) (by rw [List.take_of_length_le]; rw [cA h1]; exact Nat.le_refl _) rfl h1 ht trivial (by simp), aD rfl ?_⟩
  simp only [wS, simprocAttr]
abbrev OpT := ByteArray × T × T × Int
def opC (o : OpT) : List AV := opE o.1 o.2.1 o.2.2.1 o.2.2.2
def RQ (o : OpT) : Prop := T.size o.2.1 ≤ 1000000000000 ∧ T.size o.2.2.1 ≤ 1000000000000
def B1 (o : OpT) (t : T) : Option T := T.app o.1 o.2.1 o.2.2.1 o.2.2.2 t
def uE (p : List Int) (k : Nat) : Option T → List (List Int × Nat)
 | some _ => [(p, k)]
 | none => []
def dP (t : T) (p : List Int) : List OpT → Nat → List (List Int × Nat)
 | [], _ => []
 | o :: ol, k => uE p k (B1 o t) ++ dP t p ol (k + 1)
def cD (t : T) (ol : List OpT) : List (List Int) → List (List Int × Nat)
 | [] => []
 | p :: ps => (match T.sub t p with | some t' => dP t' p ol 0 | none => []) ++ cD t ol ps
def eQ (t : T) (ol : List OpT) : List (List Int × Nat) := if 24 < ol.length then [] else cD t ol (T.paths t)
def SE (l : List (List Int × Nat)) : List (List AV) := l.map fun x => [.sl false (bD x.1), .int .i64 (x.2 : Nat)]
theorem pZ : ∀ ol : List OpT, inE aC (ol.map opC) = true
 | [] => rfl
 | o :: ol => by simp only [List.map_cons, inE, opC, dO, pZ ol, Bool.and_self]
theorem gC : ∀ l : List (List Int × Nat), inE aC (SE l) = true
 | [] => rfl
 | x :: l => by
  have h := gC l
  have hx : inE aC (bD x.1) = true := bJ x.1
  simp only [SE, List.map_cons, inE, inL, inR, hx, Bool.true_and] at h ⊢
  exact h
theorem GM (l : List (List Int × Nat)) : ∀ e ∈ SE l, e.length = 2 := fun e he => by
 obtain ⟨x, _, rfl⟩ := List.mem_map.1 he
 rfl
theorem B6 (l : List (List Int × Nat)) : (SE l).length = l.length := List.length_map ..
theorem LG (a b : List (List Int × Nat)) : SE (a ++ b) = SE a ++ SE b := List.map_append ..
theorem CU (t : T) (p : List Int) : ∀ (a b : List OpT) (k : Nat), dP t p (a ++ b) k = dP t p a k ++ dP t p b (k + a.length)
 | [], b, k => by simp [dP]
 | o :: a, b, k => by
  rw [List.cons_append, dP, dP, CU t p a b (k + 1), List.length_cons, List.append_assoc, show k + 1 + a.length = k + (a.length + 1) by omega]
theorem xU {t : T} {p : List Int} {ol : List OpT} {j : Nat} {o : OpT} (h : ol[j]? = some o) : dP t p (ol.take (j + 1)) 0 = dP t p (ol.take j) 0 ++ uE p j (B1 o t) := by
 have hj := (List.getElem?_eq_some_iff.1 h).1
 rw [List.take_add_one, h, CU]
 simp only [Option.toList_some, dP, List.append_nil, List.length_take, Nat.zero_add, Nat.min_eq_left (by omega : j ≤ ol.length)]
theorem o6 (t : T) (p : List Int) : ∀ (ol : List OpT) (k : Nat), (dP t p ol k).length ≤ ol.length
 | [], _ => by simp [dP]
 | o :: ol, k => by
  have := o6 t p ol (k + 1)
  rw [dP, List.length_append, List.length_cons]
  have h : (uE p k (B1 o t)).length ≤ 1 := by cases B1 o t <;> simp [uE]
  omega
theorem sY (t : T) (ol : List OpT) : ∀ (a b : List (List Int)), cD t ol (a ++ b) = cD t ol a ++ cD t ol b
 | [], b => by simp [cD]
 | p :: a, b => by rw [List.cons_append, cD, cD, sY t ol a b, List.append_assoc]
theorem qT {t t' : T} {ol : List OpT} {ps : List (List Int)} {i : Nat} {p : List Int} (h : ps[i]? = some p) (h2 : T.sub t p = some t') : cD t ol (ps.take (i + 1)) = cD t ol (ps.take i) ++ dP t' p ol 0 := by
 rw [List.take_add_one, h, sY]
 simp only [Option.toList_some, cD, h2, List.append_nil]
theorem j1 (t : T) (ol : List OpT) : ∀ ps : List (List Int), (cD t ol ps).length ≤ ps.length * ol.length
 | [] => by simp [cD]
 | p :: ps => by
  have h1 := j1 t ol ps
  rw [cD, List.length_append, List.length_cons, Nat.add_mul, Nat.one_mul]
  have h2 : (match T.sub t p with | some t' => dP t' p ol 0 | none => []).length ≤ ol.length := by
   split
   ·exact o6 _ _ _ _
   ·simp
  omega
theorem vv {app : List (List AV)} {e : List AV} : (app ++ [e]).length - 1 = if app = [] then 0 else app.length - 1 + 1 := by
 by_cases h : app = []
 ·rw [if_pos h, h]; rfl
 ·have := List.length_pos_iff.2 h
  rw [if_neg h, List.length_append, List.length_singleton]; omega
set_option maxHeartbeats 8000000 in
theorem M1 (t : T) (ht : T.size t ≤ 100000000000) (b : Bool) (ol : List OpT) (hops : ∀ o ∈ ol, RQ o) (hol : ol.length ≤ 1000000000) : Pure Tryz.prog G0 23 [.agg (T.enc t), .sl b (ol.map opC)] (.sl false (SE (eQ t ol))) := by
 have htr := T.enc_tree t
 have kps := tI t ht
 have hOl : (ol.map opC).length = ol.length := List.length_map ..
 have hOt := pZ ol
 have hOg : ∀ (j : Nat) (o : OpT), ol[j]? = some o → (ol.map opC)[j]? = some (opC o) := fun j o h => by rw [List.getElem?_map, h]; rfl
 obtain ⟨res, hres⟩ : ∃ r, r = eQ t ol := ⟨_, rfl⟩
 have hrt : inR aC (.sl false (SE res)) = true := by simp only [inR]; exact gC _
 have hwk : AM.wk (.sl false (SE res)) = .sl false (SE res) := by
  clear hres hrt
  simp only [AM.wk, AV.sl.injEq, true_and, gD]
  induction res with
  | nil => rfl
  | cons x l ih =>
   have := CA [x.1]
   simp only [PE, List.map_cons, List.map_nil, wkL, List.cons.injEq, and_true] at this
   simp only [SE, List.map_cons, wkL, AM.wk, List.cons.injEq, and_true] at ih ⊢
   exact ⟨this, ih⟩
 rw [← hres]
 unfold eQ at hres
 have hpl := T.paths_len t
 have hsub := fun (p : List Int) (h : p ∈ T.paths t) => T.paths_sub t p h
 have hpg := fun (i : Nat) (p : List Int) (h : (T.paths t)[i]? = some p) => nL h
 have hPl := gF (T.paths t)
 have hPt := fZ (T.paths t)
 generalize T.paths t = ps at kps hres hpl hsub hpg hPl hPt
 generalize hPS : PE ps = PS at kps hpg hPl hPt
 have kat := fun (p : List Int) (hp : p.length ≤ 1000000000000) (t' : T) (h : T.sub t p = some t') => S1 t t' p hp (by omega) h
 obtain ⟨ta, tb, tc, TE, hte⟩ := aK t
 rw [hte] at htr kps kat ⊢
 generalize ol.map opC = OL at hOl hOt hOg ⊢
 refine bF hG0 Tryz.func23 rfl (by kernel_rfl) (by simp [Tryz.ntmps23]) (by simp only [inL, inR, Bool.true_and, Bool.and_true, Bool.and_eq_true] at htr ⊢; exact ⟨htr, hOt⟩) (by exact hrt) ?_
 simp only [Tryz.ntmps23, aF, Nat.reduceAdd]
 have hTE : inE aC TE = true := by simpa only [inL, inR, Bool.true_and, Bool.and_true] using htr
 by_cases h24 : 24 < ol.length
 ·have c0 : decide (((OL.length : Nat) : Int) > 24) = true := by simp; omega
  rw [if_pos h24] at hres
  subst hres
  repeat' (first | with_reducible (first | refine u'1 fun _ _ => ?_ | refine u'W ?_ | (first | refine u'R ?_ | refine u'5 fun _ _ _ _ => ?_ | refine u'6 (fun hg => ?_) (fun hg => ?_) <;> try simp only [hg]) <;> simp only [wS, simprocAttr, c0]) | with_reducible first | refine ⟨fun _ => ?_, fun _ => ?_⟩ | refine u'A ?_)
  refine aD rfl ?_
  simp only [wS, simprocAttr]
  rfl
 ·have c0 : decide (((OL.length : Nat) : Int) > 24) = false := by simp; omega
  rw [if_neg h24] at hres
  repeat' (first | with_reducible (first | refine u'1 fun _ _ => ?_ | refine u'W ?_ | (first | refine u'R ?_ | refine u'5 fun _ _ _ _ => ?_ | refine u'6 (fun hg => ?_) (fun hg => ?_) <;> try simp only [hg]) <;> simp only [wS, simprocAttr, c0]) | (refine aA hG0 (kps) ?_; simp only [wS, simprocAttr, c0]) | with_reducible first | refine ⟨fun _ => ?_, fun _ => ?_⟩ | refine u'A ?_)
  refine aN (α := {i : Nat // i ≤ ps.length}) (fun i => [(1, .sl b OL), (2, .ptr 0 0 0), (5, rv 1 ((SE (cD t ol (ps.take i.1))).length - 1) 2 (SE (cD t ol (ps.take i.1)))), (18, .sl false PS), (19, .int .i64 (PS.length : Nat)), (20, .int .i64 (i.1 : Nat))]) (fun i => [.cells 0 [.int .i64 ta, .int .i64 tb, .int .i64 tc, .sl false TE], rvR ((SE (cD t ol (ps.take i.1))).length - 1) (SE (cD t ol (ps.take i.1)))]) (fun i => ps.length - i.1) ⟨0, Nat.zero_le _⟩ (b8 [] (kp [0, 1]) hG0 (fun r hr => absurd hr (Nat.not_lt_zero r)) ?_ ?_ ?_) ?_
  ·simp only [wS, simprocAttr, dU, Frz, and_true, true_or, List.take_zero, cD, SE, List.map_nil, gE, hPl, c0]; try exact .toRsv
  ·simp only [List.all_cons, List.all_nil, Bool.and_true, Bool.and_eq_true, inR, aB hOt, aB hPt, true_and]; exact ⟨rfl, dK rfl⟩
  ·simp only [wS, simprocAttr, List.take_zero, cD, SE, List.map_nil, g6]
   simp only [ToH, and_true]
   exact kr rfl (by simp only [aE, inL, inR, Bool.true_and, Bool.and_true]; exact aB hTE) (by simp)
  ·rintro ⟨i, hi⟩ K hK
   try simp only at hi
   by_cases hlt : i < ps.length
   ·have c1 : decide (((i : Nat) : Int) < ((PS.length : Nat) : Int)) = true := by simp; omega
    obtain ⟨p, hp⟩ : ∃ p, ps[i]? = some p := ⟨_, List.getElem?_eq_getElem hlt⟩
    have gp := hpg i p hp
    have hA : i < PS.length := by omega
    have e3 := aM (k := i) hlt (by omega)
    obtain ⟨hpn, t', hs, hts⟩ := hsub p (List.mem_of_getElem? hp)
    have ka := kat p (by omega) t' hs
    have kcl := F4 p (by omega)
    have htk := qT (ol := ol) hp hs
    have hal := j1 t ol (ps.take i)
    have hal2 : (ps.take i).length * ol.length ≤ 100000000000 * 24 := Nat.mul_le_mul (by rw [List.length_take]; omega) (by omega)
    have kap := fun (o : OpT) (ho : RQ o) => N8 o.1 o.2.1 o.2.2.1 o.2.2.2 ho.1 ho.2 t' (by omega)
    obtain ⟨na, nb, nc, NE, hne⟩ := aK t'
    have hnt := T.enc_tree t'
    rw [hne] at ka kap hnt
    have hipt : inE aC (bD p) = true := bJ p
    generalize hA0 : cD t ol (ps.take i) = A0 at hal htk ⊢
    have hse : ∀ (l : List (List Int × Nat)) (j : Nat), SE (l ++ [(p, j)]) = SE l ++ [[.sl false (bD p), .int .i64 (j : Nat)]] := fun l j => LG _ _
    generalize bD p = ip at gp ka kcl hipt hse
    repeat' (first | with_reducible (first | refine u'1 fun _ _ => ?_ | refine u'W ?_ | (first | refine u'R ?_ | refine u'5 fun _ _ _ _ => ?_ | refine u'6 (fun hg => ?_) (fun hg => ?_) <;> try simp only [hg]) <;> simp only [wS, simprocAttr, gp, hA, c1, e3]) | (refine aA hG0 (ka) ?_; simp only [wS, simprocAttr, gp, hA, c1, e3]) | with_reducible first | refine ⟨fun _ => ?_, fun _ => ?_⟩ | refine u'A ?_)
    refine aN (α := {j : Nat // j ≤ ol.length}) (fun j => [(1, .sl b OL), (2, .ptr 0 0 0), (5, rv 1 ((SE (A0 ++ dP t' p (ol.take j.1) 0)).length - 1) 2 (SE (A0 ++ dP t' p (ol.take j.1) 0))), (7, .sl false ip), (8, .ptr 2 0 0), (18, .sl false PS), (19, .int .i64 (PS.length : Nat)), (20, .int .i64 (i : Nat)), (30, .sl b OL), (31, .int .i64 (OL.length : Nat)), (32, .int .i64 (j.1 : Nat))]) (fun j => [.cells 0 [.int .i64 ta, .int .i64 tb, .int .i64 tc, .sl false TE], rvR ((SE (A0 ++ dP t' p (ol.take j.1) 0)).length - 1) (SE (A0 ++ dP t' p (ol.take j.1) 0)), .cells 0 [.int .i64 na, .int .i64 nb, .int .i64 nc, .sl false NE]]) (fun j => ol.length - j.1) ⟨0, Nat.zero_le _⟩ (Weak.ref ⟨?_, .inl ?_⟩) ?_
    ·simp only [wS, simprocAttr, List.take_zero, dP, List.append_nil, c0]; try exact rfl
    ·simp only [wS, simprocAttr, List.take_zero, dP, List.append_nil]; try exact rfl
    ·rintro ⟨j, hj⟩ K2 hK2
     try simp only at hj
     have hhl := o6 t' p (ol.take j) 0
     rw [List.length_take] at hhl
     have hAl : (SE (A0 ++ dP t' p (ol.take j) 0)).length ≤ 100000000000 * 24 + 24 := by rw [B6, List.length_append]; omega
     have hAs := GM (A0 ++ dP t' p (ol.take j) 0)
     by_cases hltj : j < ol.length
     ·have d1 : decide (((j : Nat) : Int) < ((OL.length : Nat) : Int)) = true := by simp; omega
      have hB : j < OL.length := by omega
      have f3 := aM (k := j) hltj (by omega)
      obtain ⟨o, ho⟩ : ∃ o, ol[j]? = some o := ⟨_, List.getElem?_eq_getElem hltj⟩
      have gh := hOg j o ho
      have ko := kap o (hops o (List.mem_of_getElem? ho))
      have hnx := xU (t := t') (p := p) ho
      obtain ⟨nm, f, pu, bk⟩ := o
      obtain ⟨fa, fb, fc, FE, hfe⟩ := aK f
      obtain ⟨pa, pb, pc, PE', hpe⟩ := aK pu
      simp only [opC, opE, hfe, hpe, List.cons_append, List.nil_append, B1] at gh ko hnx
      generalize T.app nm f pu bk t' = r at ko hnx
      have hAt := gC (A0 ++ dP t' p (ol.take (j + 1)) 0)
      rw [hnx] at hAt
      cases r with
      | none =>
       simp only [uE, List.append_nil] at hnx hAt
       simp only [wF] at ko
       repeat' (first | with_reducible (first | refine u'1 fun _ _ => ?_ | refine u'W ?_ | (first | refine u'R ?_ | refine u'5 fun _ _ _ _ => ?_ | refine u'6 (fun hg => ?_) (fun hg => ?_) <;> try simp only [hg]) <;> simp only [wS, simprocAttr, gh, hB, d1, f3, ↓aI, ↓aG]) | (refine aA hG0 (ko) ?_; simp only [wS, simprocAttr, gh, hB, d1, f3, ↓aI, ↓aG]) | with_reducible first | refine ⟨fun _ => ?_, fun _ => ?_⟩ | refine u'A ?_)
       refine hK2.go ⟨j + 1, hltj⟩ (Weak.ref ⟨?_, .inr ⟨by first | exact Nat.zero_le _ | exact Nat.le_refl _ | simp, ?_, fun g cs hg => aZ (hG0 g cs hg), ?_, ?_⟩⟩) (by simp only; omega)
       ·simp only [wS, simprocAttr, hnx]; try exact rfl
       ·simp only [wS, simprocAttr, hnx]; try exact rfl
       ·intro z hz
        simp only [List.mem_cons, List.not_mem_nil, or_false] at hz
        rcases hz with rfl | rfl | rfl | rfl | rfl | rfl | rfl | rfl | rfl | rfl | rfl <;> first | rfl | (simp only [inR]; first | exact aB hOt | exact aB hPt | exact aB hipt | exact dK rfl)
       ·simp only [List.all_cons, List.all_nil, Bool.and_true, Bool.and_eq_true]; try exact ⟨by simp only [aE, inL, inR, Bool.true_and, Bool.and_true]; exact aB hTE, cX (aB (by rw [hnx]; exact hAt)), by simp only [aE, inL, inR, Bool.true_and, Bool.and_true]; exact aB (by simpa only [inL, inR, Bool.true_and, Bool.and_true] using hnt)⟩
      | some x =>
       simp only [uE] at hnx hAt
       rw [← List.append_assoc] at hAt
       rw [hse] at hAt
       obtain ⟨xa, xb, xc, XE, hxe⟩ := aK x
       simp only [wF, hxe] at ko
       have hnx2 : SE (A0 ++ (dP t' p (ol.take j) 0 ++ [(p, j)])) = SE (A0 ++ dP t' p (ol.take j) 0) ++ [[.sl false ip, .int .i64 (j : Nat)]] := by rw [← List.append_assoc, hse]
       generalize hAP : SE (A0 ++ dP t' p (ol.take j) 0) = AP at hAl hAs hAt hnx2 ⊢
       repeat' (first | with_reducible (first | refine u'1 fun _ _ => ?_ | refine u'W ?_ | (first | refine u'R ?_ | refine u'5 fun _ _ _ _ => ?_ | refine u'6 (fun hg => ?_) (fun hg => ?_) <;> try simp only [hg]) <;> simp only [wS, simprocAttr, gh, hB, d1, f3, ↓aI, ↓aG]) | (refine aA hG0 (ko) ?_; simp only [wS, simprocAttr, gh, hB, d1, f3, ↓aI, ↓aG]) | (refine aA hG0 (kcl) ?_; simp only [wS, simprocAttr, gh, hB, d1, f3, ↓aI, ↓aG]) | (refine fJ (v' := (AP ++ [[AV.sl false ip, AV.int .i64 (j : Nat)]]).length - 1) (es := [[.sl false ip, .int .i64 (j : Nat)]]) (by' := 32) (by kernel_rfl) (by (simp only [wS, simprocAttr]; try exact rfl)) vv hAs (by simp [cV]) (by simp) (by simp only [List.length_singleton]; omega) ?_; simp only [wS, simprocAttr, gh, hB, d1, f3, ↓aI, ↓aG]) | with_reducible first | refine ⟨fun _ => ?_, fun _ => ?_⟩ | refine u'A ?_)
       refine hK2.go ⟨j + 1, hltj⟩ (Weak.ref ⟨?_, .inr ⟨by first | exact Nat.zero_le _ | exact Nat.le_refl _ | simp, ?_, fun g cs hg => aZ (hG0 g cs hg), ?_, ?_⟩⟩) (by simp only; omega)
       ·simp only [wS, simprocAttr, hnx, hnx2]; try exact rfl
       ·simp only [wS, simprocAttr, hnx, hnx2]; try exact rfl
       ·intro z hz
        simp only [List.mem_cons, List.not_mem_nil, or_false] at hz
        rcases hz with rfl | rfl | rfl | rfl | rfl | rfl | rfl | rfl | rfl | rfl | rfl <;> first | rfl | (simp only [inR]; first | exact aB hOt | exact aB hPt | exact aB hipt | exact dK rfl)
       ·simp only [List.all_cons, List.all_nil, Bool.and_true, Bool.and_eq_true]; try exact ⟨by simp only [aE, inL, inR, Bool.true_and, Bool.and_true]; exact aB hTE, cX (aB (by rw [hnx, hnx2]; exact hAt)), by simp only [aE, inL, inR, Bool.true_and, Bool.and_true]; exact aB (by simpa only [inL, inR, Bool.true_and, Bool.and_true] using hnt)⟩
     ·have d1 : decide (((j : Nat) : Int) < ((OL.length : Nat) : Int)) = false := by simp; omega
      obtain rfl : j = ol.length := by omega
      rw [List.take_length, ← htk] at hAl ⊢
      repeat' (first | with_reducible (first | refine u'1 fun _ _ => ?_ | refine u'W ?_ | (first | refine u'R ?_ | refine u'5 fun _ _ _ _ => ?_ | refine u'6 (fun hg => ?_) (fun hg => ?_) <;> try simp only [hg]) <;> simp only [wS, simprocAttr, d1, e3]) | with_reducible first | refine ⟨fun _ => ?_, fun _ => ?_⟩ | refine u'A ?_)
      refine hK.go ⟨i + 1, hlt⟩ (Weak.ref ⟨?_, .inr ⟨by first | exact Nat.zero_le _ | exact Nat.le_refl _ | simp, ?_, fun g cs hg => aZ (hG0 g cs hg), ?_, ?_⟩⟩) (by simp only; omega)
      ·simp only [wS, simprocAttr]; try exact rfl
      ·simp only [wS, simprocAttr]; try exact rfl
      ·intro z hz
       simp only [List.mem_cons, List.not_mem_nil, or_false] at hz
       rcases hz with rfl | rfl | rfl | rfl | rfl | rfl <;> first | rfl | (simp only [inR]; first | exact aB hOt | exact aB hPt | exact aB hipt | exact dK rfl)
      ·simp only [List.all_cons, List.all_nil, Bool.and_true, Bool.and_eq_true]; try exact ⟨by simp only [aE, inL, inR, Bool.true_and, Bool.and_true]; exact aB hTE, cX (aB (gC _))⟩
   ·have c1 : decide (((i : Nat) : Int) < ((PS.length : Nat) : Int)) = false := by simp; omega
    obtain rfl : i = ps.length := by omega
    rw [List.take_length, ← hres]
    have hrs := GM res
    have hrl := gC res
    repeat' (first | with_reducible (first | refine u'1 fun _ _ => ?_ | refine u'X ?_ | (first | refine u'R ?_ | refine u'5 fun _ _ _ _ => ?_ | refine u'6 (fun hg => ?_) (fun hg => ?_) <;> try simp only [hg]) <;> simp only [wS, simprocAttr, c1]))
    refine Cont.go (by assumption) ?_
    repeat' (first | with_reducible (first | refine u'1 fun _ _ => ?_ | refine u'X ?_ | (first | refine u'R ?_ | refine u'5 fun _ _ _ _ => ?_ | refine u'6 (fun hg => ?_) (fun hg => ?_) <;> try simp only [hg]) <;> simp only [wS, simprocAttr, c1]))
    refine Cont.go (by assumption) (fE (b8 [1] (kp [0]) (l := [(5, .sl false (SE res))]) (h := [.cells 0 [.int .i64 ta, .int .i64 tb, .int .i64 tc, .sl false TE]]) hG0 (fun r hr => absurd hr (Nat.not_lt_zero r)) ?_ ?_ ?_) ?_)
    ·simp only [wS, simprocAttr, dU, Frz, and_true, true_or]; exact .inr (fB (v := (SE res).length - 1) rfl (by simp) hrs hrl)
    ·simp only [List.all_cons, List.all_nil, Bool.and_true, inR]; exact aB hrl
    ·simp only [wS, simprocAttr]
     simp only [ToH, and_true]
     exact ⟨kr rfl (by simp only [aE, inL, inR, Bool.true_and, Bool.and_true]; exact aB hTE) (by simp), rfl⟩
    repeat' (first | with_reducible (first | refine u'1 fun _ _ => ?_ | refine u'W ?_ | (first | refine u'R ?_ | refine u'5 fun _ _ _ _ => ?_ | refine u'6 (fun hg => ?_) (fun hg => ?_) <;> try simp only [hg]) <;> simp only [wS, simprocAttr]))
    refine aD rfl ?_
    simp only [wS, simprocAttr, hwk]
end Go.Proofs.YtblfpppnkdokdaaGreatDoor
