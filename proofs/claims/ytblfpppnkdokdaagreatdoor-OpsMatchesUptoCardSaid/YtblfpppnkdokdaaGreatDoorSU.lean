import Derived.Test.YtblfpppnkdokdaaGreatDoorHP
import Derived.Test.YtblfpppnkdokdaaGreatDoorR0
import Derived.Test.YtblfpppnkdokdaaGreatDoorSM
import Derived.Test.YtblfpppnkdokdaaGreatDoorVE
import Derived.Test.YtblfpppnkdokdaaGreatDoorV2
import Derived.Test.YtblfpppnkdokdaaGreatDoorRs0
import Derived.Test.YtblfpppnkdokdaaGreatDoorVK
import Derived.Test.YtblfpppnkdokdaaGreatDoorVM
set_option linter.unusedVariables false
set_option linter.unusedSimpArgs false
namespace Go.Proofs.YtblfpppnkdokdaaGreatDoor
open Go.AM
attribute [local irreducible] AWp aP aT bC bH bN aI aL bG
set_option maxRecDepth 100000
theorem RC : Pure Tryz.prog G0 15 [] y0 := fS 60 60 _ [] cQ hG0 (by kernel_rfl) (by kernel_rfl) (by kernel_rfl)
def toT : Nat → List AV → T
 | f + 1, [.int _ k, .int _ n, .int _ m, .sl _ es] => .mk k n m (es.map (toT f))
 | _, _ => T.zero
def R9 : List AV → OpT
 | [.str s, a, b, c, d, e, f, g, h, .int _ z] => (s, toT 9 [a, b, c, d], toT 9 [e, f, g, h], z)
 | _ => (ByteArray.empty, T.zero, T.zero, 0)
def sK : List (List AV) := match y0 with
 | .sl _ es => es
 | _ => []
def LH : List OpT := sK.map R9
theorem ON : sK.map wkL = LH.map opC := by kernel_rfl
theorem LC : y0 = .sl true sK := by kernel_rfl
theorem LG : (sK.all fun e => decide (e.length = 10)) = true := by kernel_rfl
theorem sJ : inE aB sK = true := by kernel_rfl
theorem iS : sK.length = 24 := by kernel_rfl
theorem OM : ∀ o ∈ LH, T.size o.2.1 ≤ 100 ∧ T.size o.2.2.1 ≤ 100 := fun o ho => by
 have h : (LH.all fun o => decide (T.size o.2.1 ≤ 100) && decide (T.size o.2.2.1 ≤ 100)) = true := by kernel_rfl
 have := List.all_eq_true.1 h o ho
 simpa using this
theorem OX (nm : ByteArray) (f p : T) (b : Int) : wkL (opE nm f p b) = opE nm f p b := by
 have hf := T.wk_enc f
 have hp := T.wk_enc p
 obtain ⟨fa, fb, fc, fd, hfe⟩ := aK f
 obtain ⟨pa, pb, pc, pd, hpe⟩ := aK p
 rw [hfe] at hf
 rw [hpe] at hp
 simp only [wkL, AM.wk, List.cons.injEq, true_and, and_true, AV.sl.injEq] at hf hp
 simp only [opE, hfe, hpe, List.cons_append, List.nil_append, wkL, AM.wk, hf, hp]
def OpS (o : OpT) : Prop := T.size o.2.1 ≤ 100000000000 ∧ T.size o.2.2.1 ≤ 100000000000
theorem B7 {l : List (List AV)} (h : inE aB l = true) : ∀ e ∈ l, inL aB e = true := by
 induction l with
 | nil => intro e he; cases he
 | cons a l ih =>
  simp only [inE, Bool.and_eq_true] at h
  intro e he
  rcases List.mem_cons.1 he with rfl | he
  ·exact h.1
  ·exact ih h.2 e he
theorem IT {Q : T → Prop} (hz : Q T.zero) {mp : MP} (h : ∀ y ∈ mp, Q y.2) (N : Nat) : ∀ e ∈ nK mp N, Q e := by
 suffices h : ∀ (mp : MP), (∀ y ∈ mp, Q y.2) → ∀ (l : List T), (∀ e ∈ l, Q e) → ∀ e ∈ mp.foldl (fun l x => l.set x.1.toNat x.2) l, Q e by
  exact h mp (by assumption) _ fun e he => by rw [(List.mem_replicate.1 he).2]; exact hz
 intro mp
 induction mp with
 | nil => intro _ l h; exact h
 | cons x mp ih =>
  intro hm l h
  refine ih (fun y hy => hm y (by simp [hy])) _ fun e he => ?_
  rcases List.mem_or_eq_of_mem_set he with he | rfl
  ·exact h e he
  ·exact hm x (by simp)
theorem KO {nm : ByteArray} {f p : T} {b : Int} {t x : T} (ht : T.size t ≤ 1000000000000) (h : T.app nm f p b t = some x) : T.size x ≤ 100000000000000000 := by
 have hg := T.mat_good f t true [] ht (fun y hy => (by cases hy))
 unfold T.app at h
 split at h
 ·rename_i hv
  have h32 := kZ hv
  split at h
  ·rename_i mp hm
   rw [hm] at hg
   have hps : T.size (T.put mp t.num p) ≤ T.size p * 1000000000000 := T.put_size hg (by decide) _ _
   rw [EW] at h
   split at h
   ·cases h
   ·cases h; omega
  ·cases h
 ·cases h
def shp : List AV → Bool
 | [.str _, .int .i64 _, .int .i64 _, .int .i64 _, .sl _ _, .int .i64 _, .int .i64 _, .int .i64 _, .sl _ _, .int .i64 _] => true
 | _ => false
theorem OP {e : List AV} (h : shp e = true) : ∃ nm fa fb fc fl fd pa pb pc pl pd z, e = [.str nm, .int .i64 fa, .int .i64 fb, .int .i64 fc, .sl fl fd, .int .i64 pa, .int .i64 pb, .int .i64 pc, .sl pl pd, .int .i64 z] := by
 unfold shp at h
 split at h
 ·exact ⟨_, _, _, _, _, _, _, _, _, _, _, _, rfl⟩
 ·cases h
theorem LD : sK.all shp = true := by kernel_rfl
def MOK (e c : List AV) : Prop := ∃ nm fa fb fc fl fd pa pb pc pl pd z ya yb yc yd, e = [.str nm, .int .i64 fa, .int .i64 fb, .int .i64 fc, .sl fl fd, .int .i64 pa, .int .i64 pb, .int .i64 pc, .sl pl pd, .int .i64 z] ∧ c = [.int .i64 ya, .int .i64 yb, .int .i64 yc, .sl false yd] ∧
 ∃ (A : List (List AV)) (x : Bool) (ca cb cc : Int) (cd : List (List AV)) (u : Bool), Pure Tryz.prog G0 17 [.agg [.int .i64 fa, .int .i64 fb, .int .i64 fc, .sl fl fd], .agg [.int .i64 ya, .int .i64 yb, .int .i64 yc, .sl false yd]] (.tup [.sl false A, .bool x]) ∧ Pure Tryz.prog G0 18 [.agg [.int .i64 fa, .int .i64 fb, .int .i64 fc, .sl fl fd], .agg [.int .i64 ya, .int .i64 yb, .int .i64 yc, .sl false yd]] (.tup [.sl false A, .bool x]) ∧
  Pure Tryz.prog G0 19 [.agg [.str nm, .int .i64 fa, .int .i64 fb, .int .i64 fc, .sl fl fd, .int .i64 pa, .int .i64 pb, .int .i64 pc, .sl pl pd, .int .i64 z], .agg [.int .i64 ya, .int .i64 yb, .int .i64 yc, .sl false yd]] (.tup [.agg [.int .i64 ca, .int .i64 cb, .int .i64 cc, .sl false cd], .bool u]) ∧ Pure Tryz.prog G0 20 [.agg [.str nm, .int .i64 fa, .int .i64 fb, .int .i64 fc, .sl fl fd, .int .i64 pa, .int .i64 pb, .int .i64 pc, .sl pl pd, .int .i64 z], .agg [.int .i64 ya, .int .i64 yb, .int .i64 yc, .sl false yd]] (.tup [.agg [.int .i64 ca, .int .i64 cb, .int .i64 cc, .sl false cd], .bool u]) ∧
  Pure Tryz.prog G0 21 [.sl false A, .sl false A] (.bool true) ∧ Pure Tryz.prog G0 22 [.agg [.int .i64 ca, .int .i64 cb, .int .i64 cc, .sl false cd], .agg [.int .i64 ca, .int .i64 cb, .int .i64 cc, .sl false cd]] (.bool true)
theorem GQ (x : T) (h : T.size x ≤ 100000000000000000) : Pure Tryz.prog G0 22 [.agg (T.enc x), .agg (T.enc x)] (.bool true) := by
 have ks := y7 x x h
 rw [(T.cmp_zero x x).2 rfl] at ks
 exact ks
theorem mok (o : OpT) (ho : OpS o) (e : List AV) (hs : shp e = true) (ht : inL aB e = true) (he : wkL e = opC o) (t : T) (hts : T.size t ≤ 1000000000000) : MOK e (T.enc t) := by
 obtain ⟨onm, f, p, b⟩ := o
 have hf : T.size f ≤ 100000000000 := ho.1
 have hp : T.size p ≤ 100000000000 := ho.2
 have htt := T.enc_tree t
 obtain ⟨nm, fa, fb, fc, fl, fd, pa, pb, pc, pl, pd, z, rfl⟩ := OP hs
 have k1 := IY f t (by omega) hts
 have k2 := BV f t hf hts
 have k3 := MM onm f p b (by omega) (by omega) t hts
 have k4 := IK onm f p b hf hp t hts
 have kt : ∃ A x, tT (T.mat f t true []) = .tup [.sl false A, .bool x] ∧ Pure Tryz.prog G0 21 [.sl false A, .sl false A] (.bool true) := by
  have hg := T.mat_good f t true [] hts (fun y hy => by cases hy)
  have hO := (T.mat_goodO f t true [] mH).1
  rcases hm : T.mat f t true [] with ⟨ok, mp⟩
  rw [hm] at hg hO
  simp only at hg hO
  cases ok with
  | true =>
   refine ⟨_, _, rfl, F8 _ ?_ fun x hx => ?_⟩
   ·rw [oL]; have := hO.2.1; omega
   ·exact IT (Q := fun x => T.size x ≤ 100000000000000000) (by decide) (fun y hy => Nat.le_trans (hg y hy) (by decide)) _ x hx
  | false => exact ⟨_, _, rfl, F8 [] (by simp) fun x hx => by cases hx⟩
 have ka : ∃ (w : T) (u : Bool), EV (T.app onm f p b t) = .tup [.agg (T.enc w), .bool u] ∧ T.size w ≤ 100000000000000000 := by
  cases h : T.app onm f p b t with
  | none => exact ⟨T.zero, false, rfl, by decide⟩
  | some x => exact ⟨x, true, rfl, KO hts h⟩
 obtain ⟨A, x, e1, kA⟩ := kt
 obtain ⟨w, u, e2, hw⟩ := ka
 have kS := GQ w hw
 rw [e1] at k1 k2
 rw [e2] at k3 k4
 obtain ⟨ya, yb, yc, yd, hye⟩ := aK t
 obtain ⟨ca, cb, cc, cd, hce⟩ := aK w
 rw [hye] at k1 k2 k3 k4 htt ⊢
 rw [hce] at k3 k4 kS
 have hwf : AM.wk (.agg [.int .i64 fa, .int .i64 fb, .int .i64 fc, .sl fl fd]) = .agg (T.enc f) := by
  obtain ⟨ga, gb, gc, gd, hge⟩ := aK f
  obtain ⟨qa, qb, qc, qd, hqe⟩ := aK p
  simp only [opC, opE, hge, hqe, List.cons_append, List.nil_append, wkL, AM.wk, List.cons.injEq, AV.int.injEq, AV.sl.injEq, AV.str.injEq, true_and, and_true] at he
  obtain ⟨h0, h1, h2, h3, h4, _⟩ := he
  simp only [hge, wkL, AM.wk, h1, h2, h3, h4]
 have htf : inR aB (.agg [.int .i64 fa, .int .i64 fb, .int .i64 fc, .sl fl fd]) = true := by
  simp only [inL, inR, Bool.true_and, Bool.and_true, Bool.and_eq_true] at ht ⊢
  exact ht.1
 have hlt : LendL (fun _ => .none) [] [AV.agg [.int .i64 ya, .int .i64 yb, .int .i64 yc, .sl false yd]] [AV.agg [.int .i64 ya, .int .i64 yb, .int .i64 yc, .sl false yd]] := .cons (.same (by simp only [inR]; exact htt)) .nil
 have l1 : LendL (fun _ => .none) [] [AV.agg [.int .i64 fa, .int .i64 fb, .int .i64 fc, .sl fl fd], AV.agg [.int .i64 ya, .int .i64 yb, .int .i64 yc, .sl false yd]] [AV.agg (T.enc f), AV.agg [.int .i64 ya, .int .i64 yb, .int .i64 yc, .sl false yd]] := .cons (mG (.same htf) hwf) hlt
 have l2 : LendL (fun _ => .none) [] [AV.agg [.str nm, .int .i64 fa, .int .i64 fb, .int .i64 fc, .sl fl fd, .int .i64 pa, .int .i64 pb, .int .i64 pc, .sl pl pd, .int .i64 z], AV.agg [.int .i64 ya, .int .i64 yb, .int .i64 yc, .sl false yd]] [AV.agg (opE onm f p b), AV.agg [.int .i64 ya, .int .i64 yb, .int .i64 yc, .sl false yd]] := .cons (mG (.same (by simp only [inR]; exact ht)) (by rw [AM.wk, he]; rfl)) hlt
 exact ⟨nm, fa, fb, fc, fl, fd, pa, pb, pc, pl, pd, z, ya, yb, yc, yd, rfl, rfl, A, x, ca, cb, cc, cd, u, k1.lend hG0 l1, k2.lend hG0 l1, k3.lend hG0 l2, k4.lend hG0 l2, kA, kS⟩
def KL (o x : List AV) : List (List AV) := sK ++ [o, x]
theorem R8 (o x : OpT) (ho : OpS o) (hx : OpS x) (NL : List T) (hN : ∀ t ∈ NL, T.size t ≤ 1000000000000) (i n : Nat) (hi : i < 26) (hn : n < NL.length) : ∃ e c, (KL (opC o) (opC x))[i]? = some e ∧ (NL.map T.enc)[n]? = some c ∧ MOK e c := by
 obtain ⟨t, ht⟩ : ∃ t, NL[n]? = some t := ⟨_, List.getElem?_eq_getElem hn⟩
 have hts := hN t (List.mem_of_getElem? ht)
 have hw : ∀ o : OpT, shp (opC o) = true ∧ inL aB (opC o) = true ∧ wkL (opC o) = opC o := fun o => ⟨by
  obtain ⟨nm, f, p, b⟩ := o
  obtain ⟨ga, gb, gc, gd, hge⟩ := aK f
  obtain ⟨qa, qb, qc, qd, hqe⟩ := aK p
  simp only [opC, opE, hge, hqe, List.cons_append, List.nil_append, shp], eG _ _ _ _, OX _ _ _ _⟩
 by_cases h : i < 24
 ·obtain ⟨e, he⟩ : ∃ e, sK[i]? = some e := ⟨_, List.getElem?_eq_getElem (by rw [iS]; exact h)⟩
  have hm := List.mem_of_getElem? he
  have hw2 : (LH.map opC)[i]? = some (wkL e) := by rw [← ON, List.getElem?_map, he]; rfl
  rw [List.getElem?_map] at hw2
  obtain ⟨o', ho', hoe⟩ := Option.map_eq_some_iff.1 hw2
  have hos := OM o' (List.mem_of_getElem? ho')
  exact ⟨e, _, by rw [KL, List.getElem?_append_left (by rw [iS]; exact h)]; exact he, by rw [List.getElem?_map, ht]; rfl, mok o' ⟨Nat.le_trans hos.1 (by decide), Nat.le_trans hos.2 (by decide)⟩ e (List.all_eq_true.1 LD e hm) (B7 sJ e hm) hoe.symm t hts⟩
 ·have h2 : i = 24 ∨ i = 25 := by omega
  rcases h2 with rfl | rfl
  ·obtain ⟨h1, h2, h3⟩ := hw o
   exact ⟨opC o, _, by rw [KL, List.getElem?_append_right (by rw [iS]; omega), iS]; rfl, by rw [List.getElem?_map, ht]; rfl, mok o ho _ h1 h2 h3 t hts⟩
  ·obtain ⟨h1, h2, h3⟩ := hw x
   exact ⟨opC x, _, by rw [KL, List.getElem?_append_right (by rw [iS]; omega), iS]; rfl, by rw [List.getElem?_map, ht]; rfl, mok x hx _ h1 h2 h3 t hts⟩
set_option maxHeartbeats 16000000 in
theorem QU (hlv : Pure Tryz.prog G0 14 [] (.bool true)) (l k : List Int) (at0 how by0 : Int) (c t t2 s u r : T) (o x : OpT) (ho : OpS o) (hx : OpS x) (htz : T.size t ≤ 1000000000000) (ht2z : T.size t2 ≤ 1000000000000) (huz : T.size u ≤ 1000000000000)
  (kc : Pure Tryz.prog G0 8 [cD l] (.agg (T.enc c))) (kt : Pure Tryz.prog G0 7 [.agg (T.enc c), .int .i64 at0] (.agg (T.enc t))) (kt2 : Pure Tryz.prog G0 7 [.agg (T.enc c), .int .i64 how] (.agg (T.enc t2))) (ks : Pure Tryz.prog G0 7 [.agg (T.enc c), .int .i64 by0] (.agg (T.enc s)))
  (ko : Pure Tryz.prog G0 6 [.agg (T.enc t), .agg (T.enc s), cD k] (.agg (opC o))) (kx : Pure Tryz.prog G0 10 [.agg (opC o), .int .i64 at0, .int .i64 how, .int .i64 by0] (.agg (opC x))) (ku : Pure Tryz.prog G0 16 [.agg (T.enc t), .int .i64 by0, .int .i64 how, .int .i64 at0] (.agg (T.enc u)))
  (kz : Pure Tryz.prog G0 13 [.agg (T.enc r)] (.int .i64 (T.size r : Nat))) :
  Pure Tryz.prog G0 4 [cD l, cD k, .int .i64 at0, .int .i64 how, .int .i64 by0, .agg (T.enc r)] (.bool true) := by
 have kst := RC
 rw [LC] at kst
 have hsl := iS
 have hst := sJ
 have hsa := LG
 have hM := fun NL hN => R8 o x ho hx NL hN
 have hl1 : inR aB (cD l) = true := eZ l
 have hk1 : inR aB (cD k) = true := eZ k
 have hr1 := T.enc_tree r
 have htt := T.enc_tree t
 have htv := T.enc_tree t2
 have htu := T.enc_tree u
 have oto : inL aB (opC o) = true := eG _ _ _ _
 have otx : inL aB (opC x) = true := eG _ _ _ _
 have htL : inE aB (KL (opC o) (opC x)) = true := iE fun e he => by
  rcases List.mem_append.1 he with he | he
  ·exact B7 sJ e he
  ·rcases List.mem_cons.1 he with rfl | he
   ·exact oto
   ·rw [List.mem_singleton.1 he]; exact otx
 have hLl : (KL (opC o) (opC x)).length = 26 := by rw [KL, List.length_append, iS]; rfl
 have hLe : KL (opC o) (opC x) = sK ++ [opC o, opC x] := rfl
 generalize KL (opC o) (opC x) = LE at hM htL hLl hLe
 have hNe3 : [t, t2, u].map T.enc = [T.enc t, T.enc t2, T.enc u] := rfl
 have hNe4 : [t, t2, u, r].map T.enc = [T.enc t, T.enc t2, T.enc u, T.enc r] := rfl
 obtain ⟨ca, cb, cc, cd, hce⟩ := aK c
 obtain ⟨ta, tb, tc, td, hte⟩ := aK t
 obtain ⟨va, vb, vc, vd, hve⟩ := aK t2
 obtain ⟨sa, sb, sc, sd, hse⟩ := aK s
 obtain ⟨ua, ub, uc, ud, hue⟩ := aK u
 obtain ⟨ra, rb, rc, rd, hre⟩ := aK r
 obtain ⟨onm, of', op, oob⟩ := o
 obtain ⟨xnm, xf, xp, xob⟩ := x
 obtain ⟨ofa, ofb, ofc, ofd, hfe⟩ := aK of'
 obtain ⟨opa, opb, opc, opd, hpe⟩ := aK op
 obtain ⟨xfa, xfb, xfc, xfd, hge⟩ := aK xf
 obtain ⟨xpa, xpb, xpc, xpd, hqe⟩ := aK xp
 simp only [opC, opE, hfe, hpe, hge, hqe, hce, hte, hve, hse, hue, hre, List.cons_append, List.nil_append] at kc kt kt2 ks ko kx ku kz hLe oto otx hr1 hNe3 hNe4 ⊢
 simp only [cD] at kc ko hl1 hk1 ⊢
 generalize (l.map fun n => [AV.int .i64 n]) = EL at kc hl1
 generalize (k.map fun n => [AV.int .i64 n]) = EK at ko hk1
 rw [hte] at htt
 rw [hve] at htv
 rw [hue] at htu
 clear hfe hpe hge hqe hce hte hve hse hue hre ho hx
 generalize sK = SL at kst hsl hst hsa hLe
 have h10 : ∀ e ∈ LE, e.length = 10 := fun e he => by
  rw [hLe] at he
  rcases List.mem_append.1 he with he | he
  ·simpa using List.all_eq_true.1 hsa e he
  ·rcases List.mem_cons.1 he with rfl | he
   ·rfl
   ·rw [List.mem_singleton.1 he]; rfl
 have hcs : SL.flatten ++ [AV.str onm, AV.int IntKind.i64 ofa, AV.int IntKind.i64 ofb, AV.int IntKind.i64 ofc, AV.sl false ofd, AV.int IntKind.i64 opa, AV.int IntKind.i64 opb, AV.int IntKind.i64 opc, AV.sl false opd, AV.int IntKind.i64 oob, AV.str xnm, AV.int IntKind.i64 xfa, AV.int IntKind.i64 xfb, AV.int IntKind.i64 xfc, AV.sl false xfd, AV.int IntKind.i64 xpa, AV.int IntKind.i64 xpb, AV.int IntKind.i64 xpc, AV.sl false xpd, AV.int IntKind.i64 xob] = LE.flatten := by rw [hLe, List.flatten_append]; simp only [List.flatten_cons, List.flatten_nil, List.cons_append, List.nil_append, List.append_nil]
 have hN3 : inE aB ([t, t2, u].map T.enc) = true := iE fun e he => by
  obtain ⟨t, _, rfl⟩ := List.mem_map.1 he
  exact T.enc_tree t
 have hN4 : inE aB ([t, t2, u, r].map T.enc) = true := iE fun e he => by
  obtain ⟨t, _, rfl⟩ := List.mem_map.1 he
  exact T.enc_tree t
 refine aM hG0 Tryz.func4 rfl (by kernel_rfl) (by simp [Tryz.ntmps4]) (by simp only [inL, Bool.and_true, Bool.and_eq_true]; exact ⟨hl1, hk1, rfl, rfl, rfl, by simp only [inR, inL]; exact hr1⟩) (by rfl) ?_
 simp only [Tryz.ntmps4, aF, Nat.reduceAdd]
 repeat' (first | with_reducible (first | refine u'1 fun _ _ => ?_ | refine u'W ?_ | (first | refine u'R ?_ | refine u'5 fun _ _ _ _ => ?_ | refine u'6 (fun hg => ?_) (fun hg => ?_) <;> try simp only [hg]) <;> simp only [wS, simprocAttr]) | (refine aA hG0 (kc) ?_; simp only [wS, simprocAttr]) | (refine aA hG0 (kt) ?_; simp only [wS, simprocAttr]) | (refine aA hG0 (kt2) ?_; simp only [wS, simprocAttr]) | (refine aA hG0 (ks) ?_; simp only [wS, simprocAttr]) | (refine aA hG0 (ko) ?_; simp only [wS, simprocAttr]) | (refine aA hG0 (kst) ?_; simp only [wS, simprocAttr]) | (refine aA hG0 (kx) ?_; simp only [wS, simprocAttr]) | (refine aA hG0 (ku) ?_; simp only [wS, simprocAttr]) | (refine gC (es := SL) (sz := 10) (by' := 120) (mm := 2) (new := [AV.str onm, AV.int IntKind.i64 ofa, AV.int IntKind.i64 ofb, AV.int IntKind.i64 ofc, AV.sl false ofd, AV.int IntKind.i64 opa, AV.int IntKind.i64 opb, AV.int IntKind.i64 opc, AV.sl false opd, AV.int IntKind.i64 oob, AV.str xnm, AV.int IntKind.i64 xfa, AV.int IntKind.i64 xfb, AV.int IntKind.i64 xfc, AV.sl false xfd, AV.int IntKind.i64 xpa, AV.int IntKind.i64 xpb, AV.int IntKind.i64 xpc, AV.sl false xpd, AV.int IntKind.i64 xob]) (by kernel_rfl) (by simp only [wS, simprocAttr]; try exact rfl) hsa (by simp [cU]) (by decide) (by omega) ?_; simp only [wS, simprocAttr]) | with_reducible refine And.intro (by kernel_rfl) ?_)
 rename Cont _ _ _ _ (Code.seq (Code.seq (Code.region 7 _ _) _) _) _ _ => hK
 replace hK := And.intro trivial hK
 have fin := fun (s : AS) (NL : List T) (hN : ∀ t ∈ NL, T.size t ≤ 1000000000000) (hNn : NL.length ≤ 4) (r : Ref G0 150 0 s ⟨mkF [(15, .sl false LE), (16, .sl false (NL.map T.enc))], []⟩) => hK.2.go (fB r (by
  have hM' := hM NL hN
  have hNt : inE aB (NL.map T.enc) = true := iE fun e he => by
   obtain ⟨t, _, rfl⟩ := List.mem_map.1 he
   exact T.enc_tree t
  have hNl : (NL.map T.enc).length = NL.length := List.length_map _
  generalize NL.map T.enc = NE at hM' hNt hNl ⊢
  clear kc kt kt2 ks ko kx ku kz kst hLe hsa hst h10 oto otx hM hNe3 hNe4 hl1 hk1 hr1 htz ht2z huz hN
  repeat' (first | with_reducible (first | refine u'1 fun _ _ => ?_ | refine u'W ?_ | (first | refine u'R ?_ | refine u'5 fun _ _ _ _ => ?_ | refine u'6 (fun hg => ?_) (fun hg => ?_) <;> try simp only [hg]) <;> simp only [wS, simprocAttr]))
  refine aQ (α := {i : Nat // i ≤ 26}) (fun i => [(15, .sl false LE), (16, .sl false NE), (17, .int .i64 (i.1 : Nat))]) (fun i => []) (fun i => 26 - i.1) ⟨0, Nat.zero_le _⟩ (Weak.ref ⟨?_, .inl ?_⟩) ?_
  ·simp only [wS, simprocAttr]; try exact rfl
  ·simp only [wS, simprocAttr]; try exact rfl
  ·rintro ⟨i, hi⟩ K1 hK1
   try simp only at hi
   by_cases hlt : i < 26
   ·have c1 : decide (((i : Nat) : Int) < 26) = true := by simp; omega
    have e3 := aO (k := i) hlt (by omega)
    repeat' (first | with_reducible (first | refine u'1 fun _ _ => ?_ | refine u'W ?_ | (first | refine u'R ?_ | refine u'5 fun _ _ _ _ => ?_ | refine u'6 (fun hg => ?_) (fun hg => ?_) <;> try simp only [hg]) <;> simp only [wS, simprocAttr, hLl, c1, e3]) | with_reducible first | refine ⟨fun _ => ?_, fun _ => ?_⟩ | refine u'A ?_)
    refine aQ (α := {n : Nat // n ≤ NE.length}) (fun n => [(15, .sl false LE), (16, .sl false NE), (17, .int .i64 (i : Nat)), (18, .int .i64 (n.1 : Nat))]) (fun n => []) (fun n => NE.length - n.1) ⟨0, Nat.zero_le _⟩ (Weak.ref ⟨?_, .inl ?_⟩) ?_
    ·simp only [wS, simprocAttr]; try exact rfl
    ·simp only [wS, simprocAttr]; try exact rfl
    ·rintro ⟨n, hn⟩ K2 hK2
     try simp only at hn
     by_cases hlt2 : n < NE.length
     ·have c2 : decide (((n : Nat) : Int) < ((NE.length : Nat) : Int)) = true := by simp; omega
      have f3 := aO (k := n) hlt2 (by omega)
      obtain ⟨e, c, g1, g2, nm, fa, fb, fc, fl, fd, pa, pb, pc, pl, pd, z, ya, yb, yc, yd, rfl, rfl, A, x, qa, qb, qc, qd, u, k1, k2, k3, k4, k5, k6⟩ := hM' i n hlt (by omega)
      have hi' : i < LE.length := by omega
      have b1 : (x == x) = true := by simp
      have b2 : (u == u) = true := by simp
      repeat' (first | with_reducible (first | refine u'1 fun _ _ => ?_ | refine u'W ?_ | (first | refine u'R ?_ | refine u'5 fun _ _ _ _ => ?_ | refine u'6 (fun hg => ?_) (fun hg => ?_) <;> try simp only [hg]) <;> simp only [wS, simprocAttr, g1, g2, hi', hlt2, c2, f3, b1, b2, Bool.not_true]) | (refine aA hG0 (k1) ?_; simp only [wS, simprocAttr, g1, g2, hi', hlt2, c2, f3, b1, b2, Bool.not_true]) | (refine aA hG0 (k2) ?_; simp only [wS, simprocAttr, g1, g2, hi', hlt2, c2, f3, b1, b2, Bool.not_true]) | (refine aA hG0 (k3) ?_; simp only [wS, simprocAttr, g1, g2, hi', hlt2, c2, f3, b1, b2, Bool.not_true]) | (refine aA hG0 (k4) ?_; simp only [wS, simprocAttr, g1, g2, hi', hlt2, c2, f3, b1, b2, Bool.not_true]) | (refine aA hG0 (k5) ?_; simp only [wS, simprocAttr, g1, g2, hi', hlt2, c2, f3, b1, b2, Bool.not_true]) | (refine aA hG0 (k6) ?_; simp only [wS, simprocAttr, g1, g2, hi', hlt2, c2, f3, b1, b2, Bool.not_true]) | with_reducible first | refine ⟨fun _ => ?_, fun _ => ?_⟩ | refine u'A ?_)
      refine hK2.go ⟨n + 1, hlt2⟩ (Weak.ref ⟨?_, .inr ⟨by first | exact Nat.zero_le _ | exact Nat.le_refl _ | simp, ?_, fun g cs hg => bO (hG0 g cs hg), ?_, ?_⟩⟩) (by simp only; omega)
      ·simp only [wS, simprocAttr]; try exact rfl
      ·simp only [wS, simprocAttr]; try exact rfl
      ·intro z hz
       simp only [List.mem_cons, List.not_mem_nil, or_false] at hz
       rcases hz with rfl | rfl | rfl | rfl <;> first | rfl | (simp only [inR]; first | exact aC htL | exact aC hNt)
      ·simp only [List.all_cons, List.all_nil, Bool.and_true, Bool.and_eq_true]; try exact rfl
     ·have c2 : decide (((n : Nat) : Int) < ((NE.length : Nat) : Int)) = false := by simp; omega
      repeat' (first | with_reducible (first | refine u'1 fun _ _ => ?_ | refine u'W ?_ | (first | refine u'R ?_ | refine u'5 fun _ _ _ _ => ?_ | refine u'6 (fun hg => ?_) (fun hg => ?_) <;> try simp only [hg]) <;> simp only [wS, simprocAttr, c2, e3]) | with_reducible first | refine ⟨fun _ => ?_, fun _ => ?_⟩ | refine u'A ?_)
      refine hK1.go ⟨i + 1, hlt⟩ (Weak.ref ⟨?_, .inr ⟨by first | exact Nat.zero_le _ | exact Nat.le_refl _ | simp, ?_, fun g cs hg => bO (hG0 g cs hg), ?_, ?_⟩⟩) (by simp only; omega)
      ·simp only [wS, simprocAttr]; try exact rfl
      ·simp only [wS, simprocAttr]; try exact rfl
      ·intro z hz
       simp only [List.mem_cons, List.not_mem_nil, or_false] at hz
       rcases hz with rfl | rfl | rfl <;> first | rfl | (simp only [inR]; first | exact aC htL | exact aC hNt)
      ·simp only [List.all_cons, List.all_nil, Bool.and_true, Bool.and_eq_true]; try exact rfl
   ·have c1 : decide (((i : Nat) : Int) < 26) = false := by simp; omega
    repeat' (first | with_reducible (first | refine u'1 fun _ _ => ?_ | refine u'W ?_ | (first | refine u'R ?_ | refine u'5 fun _ _ _ _ => ?_ | refine u'6 (fun hg => ?_) (fun hg => ?_) <;> try simp only [hg]) <;> simp only [wS, simprocAttr, hLl, c1]) | (refine aA hG0 (hlv) ?_; simp only [wS, simprocAttr]) | with_reducible first | refine ⟨fun _ => ?_, fun _ => ?_⟩ | refine u'A ?_)
    refine aE rfl ?_
    simp only [wS, simprocAttr]))
 clear hM
 by_cases hsz : T.size r ≤ 100
 ·have cz : decide (((T.size r : Nat) : Int) ≤ 100) = true := by simp; omega
  repeat' (first | with_reducible (first | refine u'1 fun _ _ => ?_ | refine u'W ?_ | (first | refine u'R ?_ | refine u'5 fun _ _ _ _ => ?_ | refine u'6 (fun hg => ?_) (fun hg => ?_) <;> try simp only [hg]) <;> simp only [wS, simprocAttr, cz]) | (refine aA hG0 (kz) ?_; simp only [wS, simprocAttr, cz]) | (refine gC (es := [[AV.int IntKind.i64 ta, AV.int IntKind.i64 tb, AV.int IntKind.i64 tc, AV.sl false td], [AV.int IntKind.i64 va, AV.int IntKind.i64 vb, AV.int IntKind.i64 vc, AV.sl false vd], [AV.int IntKind.i64 ua, AV.int IntKind.i64 ub, AV.int IntKind.i64 uc, AV.sl false ud]]) (sz := 4) (by' := 48) (mm := 1) (new := [AV.int IntKind.i64 ra, AV.int IntKind.i64 rb, AV.int IntKind.i64 rc, AV.sl false rd]) (by kernel_rfl) (by simp only [wS, simprocAttr]; try exact rfl) (by rfl) (by simp [cU]) (by decide) (by simp only [List.length_cons, List.length_nil]; decide) ?_; simp only [wS, simprocAttr]) | with_reducible first | refine ⟨fun _ => ?_, fun _ => ?_⟩ | refine u'A ?_)
  refine fin _ [t, t2, u, r] (by simp only [List.mem_cons, List.not_mem_nil, or_false, forall_eq_or_imp, forall_eq]; exact ⟨htz, ht2z, huz, by omega⟩) (by simp) (cB [3, 4] (kp []) hG0 (fun r hr => absurd hr (Nat.not_lt_zero r)) ?_ ?_ ?_)
  ·simp only [wS, simprocAttr, dX, Frz, and_true, true_or, hNe4]
   refine ⟨.osl (cs := LE.flatten) (by simp) (by simp only [wS, simprocAttr, hcs]; try exact rfl) (by omega) h10 (by rw [List.drop_zero, List.take_of_length_le (by rw [b9 h10]; omega)]) htL, .osl (cs := [[AV.int .i64 ta, .int .i64 tb, .int .i64 tc, .sl false td], [.int .i64 va, .int .i64 vb, .int .i64 vc, .sl false vd], [.int .i64 ua, .int .i64 ub, .int .i64 uc, .sl false ud], [.int .i64 ra, .int .i64 rb, .int .i64 rc, .sl false rd]].flatten) (by simp) rfl rfl (by simp) rfl (by simp only [inE, htt, htv, htu, hr1, Bool.and_self])⟩
  ·simp only [List.all_cons, List.all_nil, Bool.and_true, Bool.and_eq_true, inR]; exact ⟨aC htL, aC hN4⟩
  ·simp only [wS, simprocAttr]
   simp only [ToH, and_true]
   exact ⟨rfl, rfl, rfl, rfl, rfl⟩
 ·have cz : decide (((T.size r : Nat) : Int) ≤ 100) = false := by simp; omega
  repeat' (first | with_reducible (first | refine u'1 fun _ _ => ?_ | refine u'W ?_ | (first | refine u'R ?_ | refine u'5 fun _ _ _ _ => ?_ | refine u'6 (fun hg => ?_) (fun hg => ?_) <;> try simp only [hg]) <;> simp only [wS, simprocAttr, cz]) | (refine aA hG0 (kz) ?_; simp only [wS, simprocAttr, cz]) | with_reducible first | refine ⟨fun _ => ?_, fun _ => ?_⟩ | refine u'A ?_)
  refine fin _ [t, t2, u] (by simp only [List.mem_cons, List.not_mem_nil, or_false, forall_eq_or_imp, forall_eq]; exact ⟨htz, ht2z, huz⟩) (by simp) (cB [3] (kp []) hG0 (fun r hr => absurd hr (Nat.not_lt_zero r)) ?_ ?_ ?_)
  ·simp only [wS, simprocAttr, dX, Frz, and_true, true_or, hNe3]
   refine ⟨.osl (cs := LE.flatten) (by simp) (by simp only [wS, simprocAttr, hcs]; try exact rfl) (by omega) h10 (by rw [List.drop_zero, List.take_of_length_le (by rw [b9 h10]; omega)]) htL, .inr (.full (by simp only [inE, htt, htv, htu, Bool.and_self]))⟩
  ·simp only [List.all_cons, List.all_nil, Bool.and_true, Bool.and_eq_true, inR]; exact ⟨aC htL, aC hN3⟩
  ·simp only [wS, simprocAttr]
   simp only [ToH, and_true]
   exact ⟨rfl, rfl, rfl, rfl⟩
theorem tI (l k : List Int) (x y z : Int) (hl : ∀ x ∈ l, bR x) (hk : ∀ x ∈ k, bR x) (ha : bR x) (hh : bR y) (hb : bR z) (r : T) (hr : T.size r ≤ 1000000000000) : Pure Tryz.prog G0 4 [cD l, cD k, .int .i64 x, .int .i64 y, .int .i64 z, .agg (T.enc r)] (.bool true) := by
 obtain ⟨c, kc, hc⟩ := L9 (Nat.le_refl _) (LU l hl)
 obtain ⟨t, kt, hts⟩ := DU c (by omega) x ha
 obtain ⟨t2, kt2, hts2⟩ := DU c (by omega) y hh
 obtain ⟨s, ks, hss⟩ := DU c (by omega) z hb
 obtain ⟨_, ⟨on, of', op, ob, rfl, ho1, ho2⟩, ko⟩ := P6 k hk t s (by omega) (by omega)
 obtain ⟨_, ⟨xn, xf, xp, xb, rfl, hx1, hx2⟩, kx⟩ := GI 16000000000 (by decide) on of' op ob ho1 ho2 x y z ha hh hb
 obtain ⟨_, ⟨u, rfl, hu⟩, ku⟩ := DK t (by omega) z y x hb hh ha
 exact QU RD l k x y z c t t2 s u r (on, of', op, ob) (xn, xf, xp, xb) ⟨by show T.size of' ≤ _; omega, by show T.size op ≤ _; omega⟩ ⟨by show T.size xf ≤ _; omega, by show T.size xp ≤ _; omega⟩ (by omega) (by omega) (by omega) kc kt kt2 ks ko kx ku (sS _ r (Nat.le_refl _) hr)
end Go.Proofs.YtblfpppnkdokdaaGreatDoor
