import Derived.Test.YtblfpppnkdokdaaGreatDoorR0
import Derived.Test.YtblfpppnkdokdaaGreatDoorSO
import Derived.Test.YtblfpppnkdokdaaGreatDoorVE
import Derived.Test.YtblfpppnkdokdaaGreatDoorV2
import Derived.Test.YtblfpppnkdokdaaGreatDoorRs0
import Derived.Test.YtblfpppnkdokdaaGreatDoorVK
import Derived.Test.YtblfpppnkdokdaaGreatDoorVM
set_option linter.unusedVariables false
set_option linter.unusedSimpArgs false
namespace Go.Proofs.YtblfpppnkdokdaaGreatDoor
open Go.AM
attribute [local irreducible] AWp aR aV bI bN bR aO aQ bK
set_option maxRecDepth 100000
theorem RU : Pure Tryz.prog G0 15 [] zD := fY 60 60 _ [] cR hG0 (by kernel_rfl) (by kernel_rfl) (by kernel_rfl)
def toT : Nat → List AV → T
 | f + 1, [.int _ k, .int _ n, .int _ m, .sl _ es] => .mk k n m (es.map (toT f))
 | _, _ => T.zero
def RR : List AV → OpT
 | [.str s, a, b, c, d, e, f, g, h, .int _ z] => (s, toT 9 [a, b, c, d], toT 9 [e, f, g, h], z)
 | _ => (ByteArray.empty, T.zero, T.zero, 0)
def oD : List (List AV) := match zD with
 | .sl _ es => es
 | _ => []
def BN : List OpT := oD.map RR
theorem IJ : oD.map wkL = BN.map opC := by kernel_rfl
theorem LW : zD = .sl true oD := by kernel_rfl
theorem LX : (oD.all fun e => decide (e.length = 10)) = true := by kernel_rfl
theorem oB : inE aC oD = true := by kernel_rfl
theorem FL : oD.length = 24 := by kernel_rfl
theorem II : ∀ o ∈ BN, T.size o.2.1 ≤ 100 ∧ T.size o.2.2.1 ≤ 100 := fun o ho => by
 have h : (BN.all fun o => decide (T.size o.2.1 ≤ 100) && decide (T.size o.2.2.1 ≤ 100)) = true := by kernel_rfl
 have := List.all_eq_true.1 h o ho
 simpa using this
theorem JE (nm : ByteArray) (f p : T) (b : Int) : wkL (opE nm f p b) = opE nm f p b := by
 have hf := T.wk_enc f
 have hp := T.wk_enc p
 obtain ⟨fa, fb, fc, fd, hfe⟩ := aK f
 obtain ⟨pa, pb, pc, pd, hpe⟩ := aK p
 rw [hfe] at hf
 rw [hpe] at hp
 simp only [wkL, AM.wk, List.cons.injEq, true_and, and_true, AV.sl.injEq] at hf hp
 simp only [opE, hfe, hpe, List.cons_append, List.nil_append, wkL, AM.wk, hf, hp]
def B5 (c : List AV) (E : AV) : Prop := ∃ A : List (List AV), Pure Tryz.prog G0 23 [.agg c, E] (.sl false A) ∧ Pure Tryz.prog G0 25 [.agg c, E] (.sl false A) ∧ Pure Tryz.prog G0 24 [.sl false A, .sl false A] (.bool true) ∧ inE aC A = true ∧ A.length ≤ 10000000000000 ∧
  ∀ j, j + 1 < A.length → ∃ (p q : List (List AV)) (x y : Int), A[j]? = some [.sl false p, .int .i64 x] ∧ A[j + 1]? = some [.sl false q, .int .i64 y] ∧ Pure Tryz.prog G0 26 [.agg [.sl false p, .int .i64 x], .agg [.sl false q, .int .i64 y]] (.int .i64 (-1))
def OpS (o : OpT) : Prop := T.size o.2.1 ≤ 100000000000 ∧ T.size o.2.2.1 ≤ 100000000000
theorem jZ (P : T) (hP : T.size P ≤ 100000000000) (O : List OpT) (hO : ∀ o ∈ O, OpS o) (hn : O.length ≤ 1000) (b : Bool) (es : List (List AV)) (ht : inE aC es = true) (he : es.map wkL = O.map opC) : B5 (T.enc P) (.sl b es) := by
 have hw : Lend (fun _ => .none) [] (.sl b es) (.sl false (O.map opC)) := oR (.same (by simpa only [inR] using ht)) (by rw [AM.wk, gD, he])
 have hl : LendL (fun _ => .none) [] [.agg (T.enc P), .sl b es] [.agg (T.enc P), .sl false (O.map opC)] := .cons (.same (by simp only [inR]; exact T.enc_tree P)) (.cons hw .nil)
 have hlen := E4 P O
 have hmem := DZ P O
 have hsl := B6 (eQ P O)
 refine ⟨SE (eQ P O), (M1 P hP false O (fun o ho => ⟨Nat.le_trans (hO o ho).1 (by decide), Nat.le_trans (hO o ho).2 (by decide)⟩) (by omega)).lend hG0 hl, (IZ P hP false O hO (by omega)).lend hG0 hl, C4 _ (by omega) fun x hx => by have := hmem x hx; omega, gC _, by omega, fun j hj => ?_⟩
 obtain ⟨x, hx⟩ : ∃ x, (eQ P O)[j]? = some x := ⟨_, List.getElem?_eq_getElem (by omega)⟩
 obtain ⟨y, hy⟩ : ∃ y, (eQ P O)[j + 1]? = some y := ⟨_, List.getElem?_eq_getElem (by omega)⟩
 have hc := P5 x y (by have := hmem x (List.mem_of_getElem? hx); omega)
 rw [vJ P O hx hy] at hc
 exact ⟨bD x.1, bD y.1, x.2, y.2, by simp only [SE, List.getElem?_map, hx, Option.map_some], by simp only [SE, List.getElem?_map, hy, Option.map_some], hc⟩
theorem IB {l : List (List AV)} (h : inE aC l = true) : ∀ e ∈ l, inL aC e = true := by
 induction l with
 | nil => intro e he; cases he
 | cons a l ih =>
  simp only [inE, Bool.and_eq_true] at h
  intro e he
  rcases List.mem_cons.1 he with rfl | he
  ·exact h.1
  ·exact ih h.2 e he
def LL (o x : List AV) : List (List AV) := [[.sl true oD], [.sl true [o, x, o]], [.sl true []], [.sl false (oD ++ [o])]]
theorem GO {o x : List AV} (ho : inL aC o = true) (hx : inL aC x = true) : inE aC (LL o x) = true ∧ inE aC (oD ++ [o]) = true := by
 have : inE aC (oD ++ [o]) = true := tY fun e he => by
  rcases List.mem_append.1 he with he | he
  ·exact IB oB e he
  ·rw [List.mem_singleton.1 he]; exact ho
 exact ⟨by simp only [LL, inE, inL, inR, oB, ho, hx, this, Bool.and_self], this⟩
theorem NY (o x : OpT) (ho : OpS o) (hx : OpS x) (P : T) (hP : T.size P ≤ 100000000000) (i : Nat) (hi : i < 4) : ∃ (b : Bool) (es : List (List AV)), (LL (opC o) (opC x))[i]? = some [.sl b es] ∧ B5 (T.enc P) (.sl b es) := by
 have hso : ∀ o ∈ BN, OpS o := fun o ho => ⟨Nat.le_trans (II o ho).1 (by decide), Nat.le_trans (II o ho).2 (by decide)⟩
 have hsn : BN.length = 24 := by rw [BN, List.length_map, FL]
 have oto : inL aC (opC o) = true := dO _ _ _ _
 have otx : inL aC (opC x) = true := dO _ _ _ _
 have w1 : wkL (opC o) = opC o := JE _ _ _ _
 have w2 : wkL (opC x) = opC x := JE _ _ _ _
 have hi4 : i = 0 ∨ i = 1 ∨ i = 2 ∨ i = 3 := by omega
 rcases hi4 with rfl | rfl | rfl | rfl
 ·exact ⟨_, _, rfl, jZ P hP BN hso (by omega) true oD oB IJ⟩
 ·exact ⟨_, _, rfl, jZ P hP [o, x, o] (fun y hy => by
   simp only [List.mem_cons, List.not_mem_nil, or_false] at hy
   rcases hy with rfl | rfl | rfl <;> assumption) (by simp) true _ (by simp only [inE, oto, otx, Bool.and_self]) (by simp only [List.map_cons, List.map_nil, w1, w2])⟩
 ·exact ⟨_, _, rfl, jZ P hP [] (fun y hy => by cases hy) (by simp) true [] rfl rfl⟩
 ·exact ⟨_, _, rfl, jZ P hP (BN ++ [o]) (fun y hy => by
   rcases List.mem_append.1 hy with hy | hy
   ·exact hso y hy
   ·rw [List.mem_singleton.1 hy]; exact ho) (by simp; omega) false _ (GO oto otx).2 (by rw [List.map_append, List.map_append, IJ]; simp only [List.map_cons, List.map_nil, w1])⟩
set_option maxHeartbeats 16000000 in
theorem RF (hlv : Pure Tryz.prog G0 14 [] (.bool true)) (l k : List Int) (at0 how by0 : Int) (c t s u : T) (o x : OpT) (ho : OpS o) (hx : OpS x) (hc : T.size c ≤ 100000000000) (hu : T.size u ≤ 100000000000)
  (kc : Pure Tryz.prog G0 8 [cE l] (.agg (T.enc c))) (kt : Pure Tryz.prog G0 7 [.agg (T.enc c), .int .i64 at0] (.agg (T.enc t))) (ks : Pure Tryz.prog G0 7 [.agg (T.enc c), .int .i64 by0] (.agg (T.enc s)))
  (ko : Pure Tryz.prog G0 6 [.agg (T.enc t), .agg (T.enc s), cE k] (.agg (opC o))) (kx : Pure Tryz.prog G0 10 [.agg (opC o), .int .i64 at0, .int .i64 how, .int .i64 by0] (.agg (opC x))) (ku : Pure Tryz.prog G0 16 [.agg (T.enc c), .int .i64 at0, .int .i64 how, .int .i64 by0] (.agg (T.enc u))) :
  Pure Tryz.prog G0 5 [cE l, cE k, .int .i64 at0, .int .i64 how, .int .i64 by0] (.bool true) := by
 have kst := RU
 rw [LW] at kst
 have hsl := FL
 have hst := oB
 have hsa := LX
 have hLL : ∀ i n, i < 4 → n < 2 → ∃ (pa pb pc : Int) (pd : List (List AV)) (b : Bool) (es : List (List AV)), ([T.enc c, T.enc u] : List (List AV))[n]? = some [.int .i64 pa, .int .i64 pb, .int .i64 pc, .sl false pd] ∧ (LL (opC o) (opC x))[i]? = some [.sl b es] ∧ B5 [.int .i64 pa, .int .i64 pb, .int .i64 pc, .sl false pd] (.sl b es) := fun i n hi hn => by
  have hn2 : n = 0 ∨ n = 1 := by omega
  rcases hn2 with rfl | rfl
  ·obtain ⟨b, es, g1, g2⟩ := NY o x ho hx c hc i hi
   obtain ⟨pa, pb, pc, pd, hpe⟩ := aK c
   rw [hpe] at g2
   exact ⟨pa, pb, pc, pd, b, es, by rw [← hpe]; rfl, g1, g2⟩
  ·obtain ⟨b, es, g1, g2⟩ := NY o x ho hx u hu i hi
   obtain ⟨pa, pb, pc, pd, hpe⟩ := aK u
   rw [hpe] at g2
   exact ⟨pa, pb, pc, pd, b, es, by rw [← hpe]; rfl, g1, g2⟩
 have hl1 : inR aC (cE l) = true := e9 l
 have hk1 : inR aC (cE k) = true := e9 k
 have oto : inL aC (opC o) = true := dO _ _ _ _
 have otx : inL aC (opC x) = true := dO _ _ _ _
 obtain ⟨htL, htS⟩ := GO oto otx
 have htP : inE aC [T.enc c, T.enc u] = true := by simp only [inE, T.enc_tree, Bool.and_self]
 have hLe : LL (opC o) (opC x) = [[.sl true oD], [.sl true [opC o, opC x, opC o]], [.sl true []], [.sl false (oD ++ [opC o])]] := rfl
 have hLl : (LL (opC o) (opC x)).length = 4 := rfl
 have hPl : ([T.enc c, T.enc u] : List (List AV)).length = 2 := rfl
 obtain ⟨PP, hPP⟩ : ∃ l : List (List AV), l = [T.enc c, T.enc u] := ⟨_, rfl⟩
 rw [← hPP] at hLL htP hPl
 generalize LL (opC o) (opC x) = LE at hLL htL hLe hLl
 obtain ⟨ca, cb, cc, cd, hce⟩ := aK c
 obtain ⟨ta, tb, tc, td, hte⟩ := aK t
 obtain ⟨sa, sb, sc, sd, hse⟩ := aK s
 obtain ⟨ua, ub, uc, ud, hue⟩ := aK u
 obtain ⟨onm, of', op, ob⟩ := o
 obtain ⟨xnm, xf, xp, xb⟩ := x
 obtain ⟨fa, fb, fc, fd, hfe⟩ := aK of'
 obtain ⟨pa, pb, pc, pd, hpe⟩ := aK op
 obtain ⟨ga, gb, gc, gd, hge⟩ := aK xf
 obtain ⟨qa, qb, qc, qd, hqe⟩ := aK xp
 simp only [opC, opE, hfe, hpe, hge, hqe, hce, hte, hse, hue, List.cons_append, List.nil_append] at kc kt ks ko kx ku hLe hPP oto otx htS
 simp only [cE] at kc ko hl1 hk1 ⊢
 generalize (l.map fun n => [AV.int .i64 n]) = EL at kc hl1
 generalize (k.map fun n => [AV.int .i64 n]) = EK at ko hk1
 clear hfe hpe hge hqe hce hte hse hue ho hx hc hu
 generalize oD = SL at kst hsl hst hsa hLe htS
 refine aL hG0 Tryz.func5 rfl (by kernel_rfl) (by simp [Tryz.ntmps5]) (by simp only [inL, Bool.and_true, Bool.and_eq_true]; exact ⟨hl1, hk1, rfl, rfl, rfl⟩) (by rfl) ?_
 simp only [Tryz.ntmps5, aF, Nat.reduceAdd]
 repeat' (first | with_reducible (first | refine u'1 fun _ _ => ?_ | refine u'W ?_ | (first | refine u'R ?_ | refine u'5 fun _ _ _ _ => ?_ | refine u'6 (fun hg => ?_) (fun hg => ?_) <;> try simp only [hg]) <;> simp only [wS, simprocAttr]) | (refine aA hG0 (kc) ?_; simp only [wS, simprocAttr]) | (refine aA hG0 (kt) ?_; simp only [wS, simprocAttr]) | (refine aA hG0 (ks) ?_; simp only [wS, simprocAttr]) | (refine aA hG0 (ko) ?_; simp only [wS, simprocAttr]) | (refine aA hG0 (kst) ?_; simp only [wS, simprocAttr]) | (refine aA hG0 (kx) ?_; simp only [wS, simprocAttr]) | (refine aA hG0 (ku) ?_; simp only [wS, simprocAttr]) | (refine aA hG0 (hlv) ?_; simp only [wS, simprocAttr]) | (refine gL (es := SL) (sz := 10) (by' := 120) (mm := 1) (new := [AV.str onm, AV.int IntKind.i64 fa, AV.int IntKind.i64 fb, AV.int IntKind.i64 fc, AV.sl false fd, AV.int IntKind.i64 pa, AV.int IntKind.i64 pb, AV.int IntKind.i64 pc, AV.sl false pd, AV.int IntKind.i64 ob]) (by kernel_rfl) (by simp only [wS, simprocAttr]; try exact rfl) hsa (by simp [cV]) (by decide) (by omega) ?_; simp only [wS, simprocAttr]) | with_reducible first | refine ⟨fun _ => ?_, fun _ => ?_⟩ | refine u'A ?_)
 have h10 : ∀ e ∈ SL ++ [[AV.str onm, AV.int IntKind.i64 fa, AV.int IntKind.i64 fb, AV.int IntKind.i64 fc, AV.sl false fd, AV.int IntKind.i64 pa, AV.int IntKind.i64 pb, AV.int IntKind.i64 pc, AV.sl false pd, AV.int IntKind.i64 ob]], e.length = 10 := fun e he => by
  rcases List.mem_append.1 he with he | he
  ·simpa using List.all_eq_true.1 hsa e he
  ·rw [List.mem_singleton.1 he]; rfl
 have hcs : ((SL.flatten ++ [AV.str onm, AV.int IntKind.i64 fa, AV.int IntKind.i64 fb, AV.int IntKind.i64 fc, AV.sl false fd, AV.int IntKind.i64 pa, AV.int IntKind.i64 pb, AV.int IntKind.i64 pc, AV.sl false pd, AV.int IntKind.i64 ob]).drop 0).take ((SL.length + 1) * 10) = (SL ++ [[AV.str onm, AV.int IntKind.i64 fa, AV.int IntKind.i64 fb, AV.int IntKind.i64 fc, AV.sl false fd, AV.int IntKind.i64 pa, AV.int IntKind.i64 pb, AV.int IntKind.i64 pc, AV.sl false pd, AV.int IntKind.i64 ob]]).flatten := by
  rw [List.drop_zero, List.flatten_append, List.flatten_cons, List.flatten_nil, List.append_nil, List.take_of_length_le]
  rw [List.length_append, cA (sz := 10) (fun e he => h10 e (List.mem_append_left _ he))]; simp only [List.length_cons, List.length_nil]; omega
 refine aN (α := {i : Nat // i ≤ 4}) (fun i => [(13, .sl true LE), (14, .sl true PP), (15, .int .i64 (i.1 : Nat))]) (fun i => []) (fun i => 4 - i.1) ⟨0, Nat.zero_le _⟩ (b8 [2] (kp []) hG0 (fun r hr => absurd hr (Nat.not_lt_zero r)) ?_ ?_ ?_) ?_
 ·simp only [wS, simprocAttr, dU, Frz, and_true, true_or]
  rw [hLe, hPP]
  refine ⟨.inr (.sle (.cons (.cons (.same (by simp only [inR]; exact hst)) .nil) (.cons (.cons (.same (by simp only [inR, inE, oto, otx, Bool.and_self])) .nil) (.cons (.cons (.same rfl) .nil) (.cons (.cons (.osl (cs := SL.flatten ++ [AV.str onm, AV.int IntKind.i64 fa, AV.int IntKind.i64 fb, AV.int IntKind.i64 fc, AV.sl false fd, AV.int IntKind.i64 pa, AV.int IntKind.i64 pb, AV.int IntKind.i64 pc, AV.sl false pd, AV.int IntKind.i64 ob]) (by simp) rfl (by simp) h10 hcs htS) .nil) .nil))))), ?_⟩
  exact .inl rfl
 ·simp only [List.all_cons, List.all_nil, Bool.and_true, Bool.and_eq_true, inR]; exact ⟨aB htL, aB htP⟩
 ·simp only [wS, simprocAttr]
  simp only [ToH, and_true]
  exact ⟨rfl, rfl, rfl⟩
 ·clear kc kt ks ko kx ku kst hLe hPP hsa hst htS h10 hcs oto otx
  rintro ⟨i, hi⟩ K1 hK1
  try simp only at hi
  by_cases hlt : i < 4
  ·have c1 : decide (((i : Nat) : Int) < 4) = true := by simp; omega
   have e3 := aM (k := i) hlt (by omega)
   repeat' (first | with_reducible (first | refine u'1 fun _ _ => ?_ | refine u'W ?_ | (first | refine u'R ?_ | refine u'5 fun _ _ _ _ => ?_ | refine u'6 (fun hg => ?_) (fun hg => ?_) <;> try simp only [hg]) <;> simp only [wS, simprocAttr, hLl, c1, e3]) | with_reducible first | refine ⟨fun _ => ?_, fun _ => ?_⟩ | refine u'A ?_)
   refine aN (α := {n : Nat // n ≤ 2}) (fun n => [(13, .sl true LE), (14, .sl true PP), (15, .int .i64 (i : Nat)), (16, .int .i64 (n.1 : Nat))]) (fun n => []) (fun n => 2 - n.1) ⟨0, Nat.zero_le _⟩ (Weak.ref ⟨?_, .inl ?_⟩) ?_
   ·simp only [wS, simprocAttr]; try exact rfl
   ·simp only [wS, simprocAttr]; try exact rfl
   ·rintro ⟨n, hn⟩ K2 hK2
    try simp only at hn
    by_cases hlt2 : n < 2
    ·have c2 : decide (((n : Nat) : Int) < 2) = true := by simp; omega
     have f3 := aM (k := n) hlt2 (by omega)
     obtain ⟨a1, a2, a3, a4, b, es, g1, g2, A, k1, k2, k3, hAt, hAl, hord⟩ := hLL i n hlt hlt2
     have hi' : i < LE.length := by omega
     have hn' : n < PP.length := by omega
     repeat' (first | with_reducible (first | refine u'1 fun _ _ => ?_ | refine u'W ?_ | (first | refine u'R ?_ | refine u'5 fun _ _ _ _ => ?_ | refine u'6 (fun hg => ?_) (fun hg => ?_) <;> try simp only [hg]) <;> simp only [wS, simprocAttr, g1, g2, hi', hn', c2, f3, Bool.not_true]) | (refine aA hG0 (k1) ?_; simp only [wS, simprocAttr, g1, g2, hi', hn', c2, f3, Bool.not_true]) | (refine aA hG0 (k2) ?_; simp only [wS, simprocAttr, g1, g2, hi', hn', c2, f3, Bool.not_true]) | (refine aA hG0 (k3) ?_; simp only [wS, simprocAttr, g1, g2, hi', hn', c2, f3, Bool.not_true]) | with_reducible first | refine ⟨fun _ => ?_, fun _ => ?_⟩ | refine u'A ?_)
     refine aN (α := {j : Nat // 1 ≤ j ∧ (j ≤ A.length ∨ j = 1)}) (fun j => [(13, .sl true LE), (14, .sl true PP), (15, .int .i64 (i : Nat)), (16, .int .i64 (n : Nat)), (17, .sl false A), (18, .int .i64 (j.1 : Nat))]) (fun j => []) (fun j => A.length - j.1) ⟨1, Nat.le_refl _, .inr rfl⟩ (Weak.ref ⟨?_, .inl ?_⟩) ?_
     ·simp only [wS, simprocAttr]; try exact rfl
     ·simp only [wS, simprocAttr]; try exact rfl
     ·rintro ⟨j, hj1, hj2⟩ K3 hK3
      try simp only at hj1 hj2
      by_cases hlt3 : j < A.length
      ·have c3 : decide (((j : Nat) : Int) < ((A.length : Nat) : Int)) = true := by simp; omega
       have h3 := aM (k := j) hlt3 (by omega)
       obtain ⟨m, rfl⟩ : ∃ m, j = m + 1 := ⟨j - 1, by omega⟩
       obtain ⟨p, q, x, y, gp, gq, kcc⟩ := hord m hlt3
       have em : IntKind.i64.wrap (((m + 1 : Nat) : Int) - 1) = ((m : Nat) : Int) := by rw [dI (by omega) (by omega)]; omega
       have e0 : ((-1 : Int) != -1) = false := rfl
       have hm' : m < A.length := by omega
       repeat' (first | with_reducible (first | refine u'1 fun _ _ => ?_ | refine u'W ?_ | (first | refine u'R ?_ | refine u'5 fun _ _ _ _ => ?_ | refine u'6 (fun hg => ?_) (fun hg => ?_) <;> try simp only [hg]) <;> simp only [wS, simprocAttr, gp, gq, hlt3, hm', em, c3, h3, e0]) | (refine aA hG0 (kcc) ?_; simp only [wS, simprocAttr, gp, gq, hlt3, hm', em, c3, h3, e0]) | with_reducible first | refine ⟨fun _ => ?_, fun _ => ?_⟩ | refine u'A ?_)
       refine hK3.go ⟨m + 1 + 1, by omega, .inl hlt3⟩ (Weak.ref ⟨?_, .inr ⟨by first | exact Nat.zero_le _ | exact Nat.le_refl _ | simp, ?_, fun g cs hg => aZ (hG0 g cs hg), ?_, ?_⟩⟩) (by simp only; omega)
       ·simp only [wS, simprocAttr]; try exact rfl
       ·simp only [wS, simprocAttr]; try exact rfl
       ·intro z hz
        simp only [List.mem_cons, List.not_mem_nil, or_false] at hz
        rcases hz with rfl | rfl | rfl | rfl | rfl | rfl <;> first | rfl | (simp only [inR]; first | exact aB htL | exact aB htP | exact aB hAt)
       ·simp only [List.all_cons, List.all_nil, Bool.and_true, Bool.and_eq_true]; try exact rfl
      ·have c3 : decide (((j : Nat) : Int) < ((A.length : Nat) : Int)) = false := by simp; omega
       repeat' (first | with_reducible (first | refine u'1 fun _ _ => ?_ | refine u'W ?_ | (first | refine u'R ?_ | refine u'5 fun _ _ _ _ => ?_ | refine u'6 (fun hg => ?_) (fun hg => ?_) <;> try simp only [hg]) <;> simp only [wS, simprocAttr, c3, f3]) | with_reducible first | refine ⟨fun _ => ?_, fun _ => ?_⟩ | refine u'A ?_)
       refine hK2.go ⟨n + 1, hlt2⟩ (Weak.ref ⟨?_, .inr ⟨by first | exact Nat.zero_le _ | exact Nat.le_refl _ | simp, ?_, fun g cs hg => aZ (hG0 g cs hg), ?_, ?_⟩⟩) (by simp only; omega)
       ·simp only [wS, simprocAttr]; try exact rfl
       ·simp only [wS, simprocAttr]; try exact rfl
       ·intro z hz
        simp only [List.mem_cons, List.not_mem_nil, or_false] at hz
        rcases hz with rfl | rfl | rfl | rfl <;> first | rfl | (simp only [inR]; first | exact aB htL | exact aB htP | exact aB hAt)
       ·simp only [List.all_cons, List.all_nil, Bool.and_true, Bool.and_eq_true]; try exact rfl
    ·have c2 : decide (((n : Nat) : Int) < 2) = false := by simp; omega
     repeat' (first | with_reducible (first | refine u'1 fun _ _ => ?_ | refine u'W ?_ | (first | refine u'R ?_ | refine u'5 fun _ _ _ _ => ?_ | refine u'6 (fun hg => ?_) (fun hg => ?_) <;> try simp only [hg]) <;> simp only [wS, simprocAttr, c2, e3]) | with_reducible first | refine ⟨fun _ => ?_, fun _ => ?_⟩ | refine u'A ?_)
     refine hK1.go ⟨i + 1, hlt⟩ (Weak.ref ⟨?_, .inr ⟨by first | exact Nat.zero_le _ | exact Nat.le_refl _ | simp, ?_, fun g cs hg => aZ (hG0 g cs hg), ?_, ?_⟩⟩) (by simp only; omega)
     ·simp only [wS, simprocAttr]; try exact rfl
     ·simp only [wS, simprocAttr]; try exact rfl
     ·intro z hz
      simp only [List.mem_cons, List.not_mem_nil, or_false] at hz
      rcases hz with rfl | rfl | rfl <;> first | rfl | (simp only [inR]; first | exact aB htL | exact aB htP | exact aB hAt)
     ·simp only [List.all_cons, List.all_nil, Bool.and_true, Bool.and_eq_true]; try exact rfl
  ·have c1 : decide (((i : Nat) : Int) < 4) = false := by simp; omega
   repeat' (first | with_reducible (first | refine u'1 fun _ _ => ?_ | refine u'W ?_ | (first | refine u'R ?_ | refine u'5 fun _ _ _ _ => ?_ | refine u'6 (fun hg => ?_) (fun hg => ?_) <;> try simp only [hg]) <;> simp only [wS, simprocAttr, hLl, c1]) | (refine aA hG0 (hlv) ?_; simp only [wS, simprocAttr]) | with_reducible first | refine ⟨fun _ => ?_, fun _ => ?_⟩ | refine u'A ?_)
   refine aD rfl ?_
   simp only [wS, simprocAttr]
theorem zY (l k : List Int) (x y z : Int) (hl : ∀ x ∈ l, bT x) (hk : ∀ x ∈ k, bT x) (ha : bT x) (hh : bT y) (hb : bT z) : Pure Tryz.prog G0 5 [cE l, cE k, .int .i64 x, .int .i64 y, .int .i64 z] (.bool true) := by
 obtain ⟨c, kc, hc⟩ := LT (Nat.le_refl _) (MA l hl)
 obtain ⟨t, kt, hts⟩ := J6 c (by omega) x ha
 obtain ⟨s, ks, hss⟩ := J6 c (by omega) z hb
 obtain ⟨_, ⟨on, of', op, ob, rfl, ho1, ho2⟩, ko⟩ := PN k hk t s (by omega) (by omega)
 obtain ⟨_, ⟨xn, xf, xp, xb, rfl, hx1, hx2⟩, kx⟩ := GU 16000000000 (by decide) on of' op ob ho1 ho2 x y z ha hh hb
 obtain ⟨_, ⟨u, rfl, hu⟩, ku⟩ := DX c hc x y z ha hh hb
 exact RF RV l k x y z c t s u (on, of', op, ob) (xn, xf, xp, xb) ⟨by show T.size of' ≤ _; omega, by show T.size op ≤ _; omega⟩ ⟨by show T.size xf ≤ _; omega, by show T.size xp ≤ _; omega⟩ (by omega) hu kc kt ks ko kx ku
end Go.Proofs.YtblfpppnkdokdaaGreatDoor
