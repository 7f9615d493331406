import Derived.Test.YtblfpppnkdokdaaGreatDoorSJ
import Derived.Test.YtblfpppnkdokdaaGreatDoorVJ
import Derived.Test.YtblfpppnkdokdaaGreatDoorSF
import Derived.Test.YtblfpppnkdokdaaGreatDoorSA
set_option linter.unusedVariables false
set_option linter.unusedSimpArgs false
namespace Go.Proofs.YtblfpppnkdokdaaGreatDoor
open Go.AM
attribute [local irreducible] AWp aP aT bC bH bN aI aL bG
set_option maxRecDepth 100000
set_option maxHeartbeats 8000000 in
theorem OR (L : List T) (nn : Int) : ∀ (N : Nat) (x : T), T.size x ≤ N → N ≤ 1000000000000 → T.hok (fun n => 0 ≤ n ∧ n < (L.length : Int)) x → Pure Tryz.prog G0 59 [.agg (T.enc x), .sl false (T.encs L), .int .i64 nn] (.agg (T.enc (T.rput L nn x))) := by
 intro N
 induction N with
 | zero => intro x h; have := T.size_pos x; omega
 | succ N ih =>
  intro x hx hN hh
  have htx := T.enc_tree x
  have hot := T.enc_tree (T.rput L nn x)
  have how := T.wk_enc (T.rput L nn x)
  obtain ⟨k, n, m, es⟩ := x
  have ih2 : ∀ e ∈ es, T.hok (fun n => 0 ≤ n ∧ n < (L.length : Int)) e → Pure Tryz.prog G0 59 [.agg (T.enc e), .sl false (T.encs L), .int .i64 nn] (.agg (T.enc (T.rput L nn e))) := fun e he h => ih e (by have := T.size_mem he; simp only [T.size] at hx; omega) (by omega) h
  have hls := T.len_sizes es
  simp only [T.size] at hx
  have hLt := T.encs_tree L
  have hLg := fun (i : Nat) (e : T) => T.encs_get (es := L) (i := i) (e := e)
  have hLl := T.encs_len L
  obtain ⟨out, hout⟩ : ∃ o, o = T.rput L nn (.mk k n m es) := ⟨_, rfl⟩
  rw [← hout] at hot how ⊢
  rw [T.rput] at hout
  rw [T.hok] at hh
  simp only [T.enc] at htx ⊢
  have hgt := fun (i : Nat) (e : T) => T.encs_get (es := es) (i := i) (e := e)
  have hln := T.encs_len es
  have hte := T.encs_tree es
  generalize T.encs es = XE at htx hgt hln hte ⊢
  generalize T.encs L = LE at ih2 hLt hLg hLl ⊢
  refine bK hG0 Tryz.func59 rfl (by kernel_rfl) (by simp [Tryz.ntmps59]) (by simp only [inL, inR, Bool.true_and, Bool.and_true, Bool.and_eq_true]; exact ⟨hte, hLt⟩) (by simp only [inR]; exact hot) ?_
  simp only [Tryz.ntmps59, aF, Nat.reduceAdd]
  by_cases hk : k = 28
  ·have e28 : (k == 28) = true := by simp [hk]
   rw [if_pos hk] at hout hh
   obtain ⟨kn, rfl⟩ : ∃ j : Nat, n = j := ⟨n.toNat, by omega⟩
   have hkl : kn < L.length := by omega
   obtain ⟨y, hy⟩ : ∃ y, L[kn]? = some y := ⟨_, List.getElem?_eq_getElem hkl⟩
   rw [Int.toNat_natCast, hy, Option.getD_some] at hout
   subst hout
   have gy := hLg kn out hy
   have hA : kn < LE.length := by omega
   obtain ⟨oa, ob, oc, od, hoe⟩ := aK out
   rw [hoe] at gy how ⊢
   repeat' (first | with_reducible (first | refine u'1 fun _ _ => ?_ | refine u'W ?_ | (first | refine u'R ?_ | refine u'5 fun _ _ _ _ => ?_ | refine u'6 (fun hg => ?_) (fun hg => ?_) <;> try simp only [hg]) <;> simp only [wS, simprocAttr, e28, gy, hA]) | with_reducible first | refine ⟨fun _ => ?_, fun _ => ?_⟩ | refine u'A ?_)
   exact dJ (v := .agg [.int .i64 oa, .int .i64 ob, .int .i64 oc, .sl false od]) rfl (by simp only [wS, simprocAttr]; try exact rfl) (by rw [AM.wk, how])
  ·have e28 : (k == 28) = false := by simp [hk]
   rw [if_neg hk] at hout hh
   obtain ⟨n', hn'⟩ : ∃ x : Int, x = (if n = -100 then nn else n) := ⟨_, rfl⟩
   rw [← hn', T.rputs_map] at hout
   have hpt : ∀ l : List T, inE aB (l.map fun e => T.enc (T.rput L nn e)) = true := fun l => by
    have := T.encs_tree (l.map (T.rput L nn))
    rw [T.encs_map, List.map_map] at this
    exact this
   have hps : ∀ l : List T, ∀ e ∈ l.map (fun e => T.enc (T.rput L nn e)), e.length = 4 := fun l e he => by
    obtain ⟨y, _, rfl⟩ := List.mem_map.1 he
    exact T.enc_len _
   have hoe : T.enc out = [.int .i64 k, .int .i64 n', .int .i64 m, .sl false (es.map fun e => T.enc (T.rput L nn e))] := by
    rw [hout, T.enc, T.encs_map, List.map_map]; rfl
   rw [hoe] at hot how ⊢
   have hnn : (n == -100) = true ∧ n' = nn ∨ (n == -100) = false ∧ n' = n := by
    by_cases h : n = -100
    ·exact .inl ⟨by simp [h], by rw [hn', if_pos h]⟩
    ·exact .inr ⟨by simp [h], by rw [hn', if_neg h]⟩
   rcases hnn with ⟨e100, e'⟩ | ⟨e100, e'⟩
   all_goals
    repeat' (first | with_reducible (first | refine u'1 fun _ _ => ?_ | refine u'W ?_ | (first | refine u'R ?_ | refine u'5 fun _ _ _ _ => ?_ | refine u'6 (fun hg => ?_) (fun hg => ?_) <;> try simp only [hg]) <;> simp only [wS, simprocAttr, e28, e100]))
    refine aQ (α := {i : Nat // i ≤ es.length}) (fun i => [(1, .sl false LE), (2, .int .i64 nn), (3, .ptr 0 0 0), (6, .ptr 1 0 0), (7, .ptr 2 0 0), (8, .int .i64 (i.1 : Nat))]) (fun i => [.cells 0 [.int .i64 k, .int .i64 n, .int .i64 m, .sl false XE], .cells 0 [.int .i64 0, .int .i64 0, .int .i64 0, .sl true []], .cells 0 [.int .i64 k, .int .i64 n', .int .i64 m, rv 3 (i.1 - 1) 4 ((es.take i.1).map fun e => T.enc (T.rput L nn e))], rvR (i.1 - 1) ((es.take i.1).map fun e => T.enc (T.rput L nn e))]) (fun i => es.length - i.1) ⟨0, Nat.zero_le _⟩ (cB [] (kp [0, 1, 2, 3]) hG0 (fun r hr => absurd hr (Nat.not_lt_zero r)) ?_ ?_ ?_) ?_
    ·simp only [wS, simprocAttr, dX, Frz, and_true, true_or]
    ·simp only [List.all_cons, List.all_nil, inR, aC hLt, Bool.true_and, Bool.and_true]; rfl
    ·simp only [wS, simprocAttr, List.take_zero, List.map_nil, f5, jY, e']
     simp only [ToH, and_true]
     exact ⟨kr rfl (by simp only [aD, inL, inR, Bool.true_and, Bool.and_true]; exact aC hte) (by simp), kr rfl rfl (by simp), .inr ⟨rfl, rfl, .inr ⟨.inl (by simp), .inr ⟨0, _, _, rfl, rfl, .inl rfl, .inl rfl, .inl rfl, .inr .toRsv, trivial⟩⟩⟩⟩
    ·rintro ⟨i, hi⟩ K3 hK3
     try simp only at hi
     have hal : ((es.take i).map fun e => T.enc (T.rput L nn e)).length = i := by rw [List.length_map, List.length_take]; omega
     by_cases hlt : i < es.length
     ·have c1 : decide (((i : Nat) : Int) < ((XE.length : Nat) : Int)) = true := by simp; omega
      have hltE : i < XE.length := by omega
      obtain ⟨e, he⟩ : ∃ e, es[i]? = some e := ⟨_, List.getElem?_eq_getElem hlt⟩
      have hg := hgt i e he
      have hce := ih2 e (List.mem_of_getElem? he) (T.hoks_mem hh e (List.mem_of_getElem? he))
      have htk := mF (f := fun e => T.enc (T.rput L nn e)) he
      have e3 := aO (k := i) hlt (by omega)
      obtain ⟨xa, xb, xc, xd, hxe⟩ := aK e
      obtain ⟨pa, pb, pc, pd, hpp⟩ := aK (T.rput L nn e)
      rw [hxe] at hg hce
      rw [hpp] at hce htk
      have hps' := hps (es.take i)
      have hvv : i = if ((es.take i).map fun e => T.enc (T.rput L nn e)) = [] then 0 else i - 1 + 1 := by
       by_cases h0 : ((es.take i).map fun e => T.enc (T.rput L nn e)) = []
       ·rw [if_pos h0]; rw [h0] at hal; simpa using hal.symm
       ·rw [if_neg h0]
        have : i ≠ 0 := fun hz => h0 (by rw [hz]; rfl)
        omega
      repeat' (first | with_reducible (first | refine u'1 fun _ _ => ?_ | refine u'W ?_ | (first | refine u'R ?_ | refine u'5 fun _ _ _ _ => ?_ | refine u'6 (fun hg => ?_) (fun hg => ?_) <;> try simp only [hg]) <;> simp only [wS, simprocAttr, hg, hltE, c1, e3, ↓aR, ↓aJ]) | (refine aA hG0 (hce) ?_; simp only [wS, simprocAttr, hg, hltE, c1, e3, ↓aR, ↓aJ]) | (refine gB (v' := i) (es := [[.int .i64 pa, .int .i64 pb, .int .i64 pc, .sl false pd]]) (by' := 48) (by kernel_rfl) (by (simp only [wS, simprocAttr]; try exact rfl)) hvv hps' (by simp [cU]) (by simp) (by rw [hal]; simp only [List.length_singleton]; omega) ?_; simp only [wS, simprocAttr, hg, hltE, c1, e3, ↓aR, ↓aJ]) | with_reducible first | refine ⟨fun _ => ?_, fun _ => ?_⟩ | refine u'A ?_)
      refine hK3.go ⟨i + 1, hlt⟩ (Weak.ref ⟨?_, .inr ⟨by first | exact Nat.zero_le _ | exact Nat.le_refl _ | simp, ?_, fun g cs hg => bO (hG0 g cs hg), ?_, ?_⟩⟩) (by simp only; omega)
      ·simp only [wS, simprocAttr, ↓aR, ↓aJ]; try exact rfl
      ·simp only [wS, simprocAttr, Nat.add_sub_cancel, htk]; try exact rfl
      ·intro z hz
       simp only [List.mem_cons, List.not_mem_nil, or_false] at hz
       rcases hz with rfl | rfl | rfl | rfl | rfl | rfl <;> first | rfl | (simp only [inR]; exact aC hLt)
      ·simp only [List.all_cons, List.all_nil, Bool.and_true, Bool.and_eq_true]; try exact ⟨(by simp only [aD, inL, inR, Bool.true_and, Bool.and_true]; exact aC hte), rfl, by simp only [aD, inL, inR, Bool.true_and, Bool.and_true]; exact fE rfl, eF (aC (hpt _))⟩
     ·have c1 : decide (((i : Nat) : Int) < ((XE.length : Nat) : Int)) = false := by simp; omega
      obtain rfl : i = es.length := by omega
      rw [List.take_length] at hal
      repeat' (first | with_reducible (first | refine u'1 fun _ _ => ?_ | refine u'X ?_ | (first | refine u'R ?_ | refine u'5 fun _ _ _ _ => ?_ | refine u'6 (fun hg => ?_) (fun hg => ?_) <;> try simp only [hg]) <;> simp only [wS, simprocAttr, List.take_length, c1]))
      refine Cont.go (by assumption) ?_
      repeat' (first | with_reducible (first | refine u'1 fun _ _ => ?_ | refine u'X ?_ | (first | refine u'R ?_ | refine u'5 fun _ _ _ _ => ?_ | refine u'6 (fun hg => ?_) (fun hg => ?_) <;> try simp only [hg]) <;> simp only [wS, simprocAttr, List.take_length, c1]))
      refine Cont.go (by assumption) (fB (cB [3] (kp [0, 1, 2]) (l := [(6, .ptr 1 0 0), (7, .ptr 2 0 0)]) (h := [.cells 0 [.int .i64 k, .int .i64 n, .int .i64 m, .sl false XE], .cells 0 [.int .i64 0, .int .i64 0, .int .i64 0, .sl true []], .cells 0 [.int .i64 k, .int .i64 n', .int .i64 m, .sl false (es.map fun e => T.enc (T.rput L nn e))]]) hG0 (fun r hr => absurd hr (Nat.not_lt_zero r)) ?_ ?_ ?_) ?_)
      ·simp only [wS, simprocAttr, dX, Frz, and_true, true_or]
      ·rfl
      ·simp only [wS, simprocAttr, List.take_length]
       simp only [ToH, and_true]
       exact ⟨kr rfl (by simp only [aD, inL, inR, Bool.true_and, Bool.and_true]; exact aC hte) (by simp), kr rfl rfl (by simp), .inr ⟨rfl, by simp only [aD, inL, inR, Bool.true_and, Bool.and_true]; exact aC (hpt es), .inr ⟨.inl (by simp), .inr ⟨0, _, _, rfl, rfl, .inl rfl, .inl rfl, .inl rfl, .inr (fV (v := es.length - 1) rfl (by simp) (hps es) (hpt es)), trivial⟩⟩⟩, rfl⟩
      repeat' (first | with_reducible (first | refine u'1 fun _ _ => ?_ | refine u'W ?_ | (first | refine u'R ?_ | refine u'5 fun _ _ _ _ => ?_ | refine u'6 (fun hg => ?_) (fun hg => ?_) <;> try simp only [hg]) <;> simp only [wS, simprocAttr]))
      exact dJ (v := .agg [.int .i64 k, .int .i64 n', .int .i64 m, .sl false (es.map fun e => T.enc (T.rput L nn e))]) rfl (by simp only [wS, simprocAttr]; try exact rfl) (by rw [AM.wk, how])
set_option maxHeartbeats 8000000 in
theorem IK (nm : ByteArray) (f p : T) (b : Int) (hf : T.size f ≤ 100000000000) (hp : T.size p ≤ 100000000000) (t : T) (ht : T.size t ≤ 1000000000000) : Pure Tryz.prog G0 20 [.agg (opE nm f p b), .agg (T.enc t)] (EV (T.app nm f p b t)) := by
 have kv := GD nm f p b (by omega) (by omega)
 have ho := eG nm f p b
 have h2t := T.enc_tree t
 have km := BV f t hf ht
 obtain ⟨res, hres⟩ : ∃ r, r = T.app nm f p b t := ⟨_, rfl⟩
 have hrt := yK res
 have hvs : fD nm f p b = true → T.size p ≤ 32 := kZ
 have hvh := fun (hv : fD nm f p b = true) mp (hm : T.mat f t true [] = (true, mp)) => GE hv hm
 have hg := T.mat_good f t true [] ht (fun y hy => (by cases hy))
 unfold T.app at hres
 rw [show T.app nm f p b t = res from hres.symm]
 generalize fD nm f p b = V at kv hres hvs hvh
 rcases hm : T.mat f t true [] with ⟨ok, mp⟩
 rw [hm] at km hg
 simp only at hg
 simp only [hm] at hres hvh
 cases V with
 | false =>
  simp only [Bool.false_eq_true, if_false] at hres
  obtain ⟨tk, tn, tm, TE, hte⟩ := aK t
  obtain ⟨fk, fn, fm, FE, hfe⟩ := aK f
  obtain ⟨pk, pn, pm, PE', hpe⟩ := aK p
  simp only [opE, hfe, hpe, hte, List.cons_append, List.nil_append] at ho h2t kv km ⊢
  refine bK hG0 Tryz.func20 rfl (by kernel_rfl) (by simp [Tryz.ntmps20]) (by simp only [inL, inR, Bool.true_and, Bool.and_true, Bool.and_eq_true] at ho h2t ⊢; exact ⟨ho, h2t⟩) (by exact hrt) ?_
  simp only [Tryz.ntmps20, aF, Nat.reduceAdd]
  repeat' (first | with_reducible (first | refine u'1 fun _ _ => ?_ | refine u'W ?_ | (first | refine u'R ?_ | refine u'5 fun _ _ _ _ => ?_ | refine u'6 (fun hg => ?_) (fun hg => ?_) <;> try simp only [hg]) <;> simp only [wS, simprocAttr, Bool.not_true, Bool.not_false]) | (refine aA hG0 (kv) ?_; simp only [wS, simprocAttr, Bool.not_true, Bool.not_false]) | (refine aA hG0 (km) ?_; simp only [wS, simprocAttr, Bool.not_true, Bool.not_false]) | with_reducible first | refine ⟨fun _ => ?_, fun _ => ?_⟩ | refine u'A ?_)
  refine c8 (v := .agg [.int .i64 0, .int .i64 0, .int .i64 0, .sl true []]) rfl ?_ ?_
  ·simp only [wS, simprocAttr]
  ·simp only [wS, simprocAttr]
   rw [hres]; rfl
 | true =>
  have hp32 := hvs rfl
  simp only [if_true] at hres
  cases ok with
  | false =>
   simp only [tT] at km
   obtain ⟨tk, tn, tm, TE, hte⟩ := aK t
   obtain ⟨fk, fn, fm, FE, hfe⟩ := aK f
   obtain ⟨pk, pn, pm, PE', hpe⟩ := aK p
   simp only [opE, hfe, hpe, hte, List.cons_append, List.nil_append] at ho h2t kv km ⊢
   refine bK hG0 Tryz.func20 rfl (by kernel_rfl) (by simp [Tryz.ntmps20]) (by simp only [inL, inR, Bool.true_and, Bool.and_true, Bool.and_eq_true] at ho h2t ⊢; exact ⟨ho, h2t⟩) (by exact hrt) ?_
   simp only [Tryz.ntmps20, aF, Nat.reduceAdd]
   repeat' (first | with_reducible (first | refine u'1 fun _ _ => ?_ | refine u'W ?_ | (first | refine u'R ?_ | refine u'5 fun _ _ _ _ => ?_ | refine u'6 (fun hg => ?_) (fun hg => ?_) <;> try simp only [hg]) <;> simp only [wS, simprocAttr, Bool.not_true, Bool.not_false]) | (refine aA hG0 (kv) ?_; simp only [wS, simprocAttr, Bool.not_true, Bool.not_false]) | (refine aA hG0 (km) ?_; simp only [wS, simprocAttr, Bool.not_true, Bool.not_false]) | with_reducible first | refine ⟨fun _ => ?_, fun _ => ?_⟩ | refine u'A ?_)
   refine c8 (v := .agg [.int .i64 0, .int .i64 0, .int .i64 0, .sl true []]) rfl ?_ ?_
   ·simp only [wS, simprocAttr]
   ·simp only [wS, simprocAttr]
    rw [hres]; rfl
  | true =>
   obtain ⟨hO, hh1, hh2⟩ := hvh rfl mp rfl
   replace hres : res = EW (T.cmp (T.put mp t.num p) t) (T.put mp t.num p) := hres
   simp only [tT] at km
   have hps : T.size (T.put mp t.num p) ≤ T.size p * 1000000000000 := T.put_size hg (by decide) _ _
   rw [T.put_rput t.num p hh1] at hres hps
   have kp := OR (nK mp (c9 mp + 1).toNat) t.num _ p (Nat.le_refl _) (by omega) (T.hok_mono (fun n h => ⟨h.1, by rw [oL]; have := hO.2.1; omega⟩) p hh2)
   generalize nK mp (c9 mp + 1).toNat = L at km kp hres hps
   have ks := y7 (T.rput L t.num p) t (by omega)
   have htn : ∀ (a b c : Int) (l : List (List AV)), T.enc t = [.int .i64 a, .int .i64 b, .int .i64 c, .sl false l] → t.num = b := fun a b c l h => by
    obtain ⟨k, n, m, es⟩ := t
    simp only [T.enc, List.cons.injEq, AV.int.injEq, true_and] at h
    exact h.2.1
   have hLt := T.encs_tree L
   generalize T.cmp (T.rput L t.num p) t = cv at hres ks
   generalize hout : T.rput L t.num p = out at hres ks kp
   have hot := T.wk_enc out
   have hott := T.enc_tree out
   obtain ⟨tk, tn, tm, TE, hte⟩ := aK t
   rw [htn _ _ _ _ hte] at kp
   obtain ⟨fk, fn, fm, FE, hfe⟩ := aK f
   obtain ⟨pk, pn, pm, PE', hpe⟩ := aK p
   obtain ⟨oa, ob, oc, OE, hoe⟩ := aK out
   simp only [opE, hfe, hpe, hte, hoe, List.cons_append, List.nil_append] at ho h2t kv km kp ks hot hott ⊢
   generalize T.encs L = LE at km kp hLt
   refine bK hG0 Tryz.func20 rfl (by kernel_rfl) (by simp [Tryz.ntmps20]) (by simp only [inL, inR, Bool.true_and, Bool.and_true, Bool.and_eq_true] at ho h2t ⊢; exact ⟨ho, h2t⟩) (by exact hrt) ?_
   simp only [Tryz.ntmps20, aF, Nat.reduceAdd]
   repeat' (first | with_reducible (first | refine u'1 fun _ _ => ?_ | refine u'W ?_ | (first | refine u'R ?_ | refine u'5 fun _ _ _ _ => ?_ | refine u'6 (fun hg => ?_) (fun hg => ?_) <;> try simp only [hg]) <;> simp only [wS, simprocAttr, Bool.not_true, Bool.not_false]) | (refine aA hG0 (kv) ?_; simp only [wS, simprocAttr, Bool.not_true, Bool.not_false]) | (refine aA hG0 (km) ?_; simp only [wS, simprocAttr, Bool.not_true, Bool.not_false]) | (refine aA hG0 (kp) ?_; simp only [wS, simprocAttr, Bool.not_true, Bool.not_false]) | (refine aA hG0 (ks) ?_; simp only [wS, simprocAttr, Bool.not_true, Bool.not_false]) | with_reducible first | refine ⟨fun _ => ?_, fun _ => ?_⟩ | refine u'A ?_)
   ·rw [EW, if_pos (by simp_all)] at hres
    refine c8 (v := .agg [.int .i64 0, .int .i64 0, .int .i64 0, .sl true []]) rfl ?_ ?_
    ·simp only [wS, simprocAttr]
    ·simp only [wS, simprocAttr]
     rw [hres]; rfl
   ·rw [EW, if_neg (by simp_all)] at hres
    refine c8 (v := .agg [.int .i64 oa, .int .i64 ob, .int .i64 oc, .sl false OE]) rfl ?_ ?_
    ·simp only [wS, simprocAttr]
    ·simp only [wS, simprocAttr]
     rw [hres]
     simp only [EV, AM.wk, wkL, hoe] at hot ⊢
     simp only [List.cons.injEq, AV.sl.injEq, true_and, and_true] at hot
     rw [hot]
namespace T
def outU (mp : MP) : Nat → List (List AV)
 | 0 => []
 | h + 1 => match bW mp (h : Int) with
  | none => outU mp h
  | some x => outU mp h ++ List.replicate (h - (outU mp h).length) zc ++ [T.enc x]
theorem outU_spec (mp : MP) : ∀ h : Nat, (outU mp h).length ≤ h ∧
  (∀ i : Nat, i < (outU mp h).length → (outU mp h)[i]? = some (match bW mp (i : Int) with | some x => T.enc x | none => zc)) ∧
  (∀ (i : Nat) (x : T), i < h → bW mp (i : Int) = some x → i < (outU mp h).length) ∧
  ((outU mp h).length = 0 ∨ ∃ x, bW mp (((outU mp h).length - 1 : Nat) : Int) = some x)
 | 0 => ⟨Nat.le_refl _, fun i hi => absurd hi (Nat.not_lt_zero _), fun i x hi => absurd hi (Nat.not_lt_zero _), .inl rfl⟩
 | h + 1 => by
  obtain ⟨h1, h2, h3, h4⟩ := outU_spec mp h
  rw [outU]
  cases hl : bW mp (h : Int) with
  | none =>
   refine ⟨by simp only; omega, h2, fun i x hi hx => ?_, h4⟩
   by_cases hh : i = h
   ·subst hh; rw [hl] at hx; cases hx
   ·exact h3 i x (by omega) hx
  | some y =>
   have hn : (outU mp h ++ List.replicate (h - (outU mp h).length) zc ++ [T.enc y]).length = h + 1 := by simp; omega
   simp only [hn]
   refine ⟨Nat.le_refl _, fun i hi => ?_, fun i x hi _ => hi, .inr ⟨y, by simpa using hl⟩⟩
   by_cases hh : i = h
   ·subst hh
    rw [hl, List.getElem?_append_right (by simp; omega)]
    have : i - (outU mp i ++ List.replicate (i - (outU mp i).length) zc).length = 0 := by simp; omega
    rw [this]; rfl
   ·rw [List.getElem?_append_left (by simp; omega)]
    by_cases hi2 : i < (outU mp h).length
    ·rw [List.getElem?_append_left hi2]; exact h2 i hi2
    ·rw [List.getElem?_append_right (by omega), List.getElem?_replicate, if_pos (by omega)]
     cases hx : bW mp (i : Int) with
     | none => rfl
     | some x => exact absurd (h3 i x (by omega) hx) hi2
theorem oK {Q : List AV → Prop} (hz : Q zc) (ht : ∀ t : T, Q (T.enc t)) (mp : MP) : ∀ h : Nat, ∀ e ∈ outU mp h, Q e
 | 0, e, he => by cases he
 | h + 1, e, he => by
  rw [outU] at he
  cases hl : bW mp (h : Int) with
  | none => rw [hl] at he; exact oK hz ht mp h e he
  | some x =>
   rw [hl] at he
   rcases List.mem_append.1 he with he | he
   ·rcases List.mem_append.1 he with he | he
    ·exact oK hz ht mp h e he
    ·rw [(List.mem_replicate.1 he).2]; exact hz
   ·rw [List.mem_singleton.1 he]; exact ht x
theorem outU_len4 (mp : MP) (h : Nat) : ∀ e ∈ outU mp h, e.length = 4 := oK (Q := fun e => e.length = 4) rfl T.enc_len mp h
theorem outU_tree (mp : MP) (h : Nat) : inE aB (outU mp h) = true := iE (oK (Q := fun e => inL aB e = true) rfl T.enc_tree mp h)
theorem xK : ∀ (mp : MP) (x : Int × T), x ∈ mp → ∃ y, bW mp x.1 = some y
 | [], _, h => by cases h
 | z :: mp, x, h => by
  rw [bW]
  by_cases e : x.1 = z.1
  ·exact ⟨_, if_pos e⟩
  ·rw [if_neg e]
   rcases List.mem_cons.1 h with rfl | h
   ·exact absurd rfl e
   ·exact xK mp x h
theorem GV (mp : MP) : c9 mp = -1 ∨ ∃ x ∈ mp, x.1 = c9 mp := by
 suffices h : ∀ (mp : MP) (m : Int), mp.foldl (fun m x => max m x.1) m = m ∨ ∃ x ∈ mp, x.1 = mp.foldl (fun m x => max m x.1) m from h mp (-1)
 intro mp
 induction mp with
 | nil => intro m; exact .inl rfl
 | cons y mp ih =>
  intro m
  rw [List.foldl_cons]
  rcases ih (max m y.1) with h | ⟨x, hx, h⟩
  ·rw [h]
   by_cases hm : y.1 ≤ m
   ·exact .inl (by omega)
   ·exact .inr ⟨y, by simp, by omega⟩
  ·exact .inr ⟨x, by simp [hx], h⟩
theorem xB (i : Nat) : ∀ (mp : MP) (l : List T), (∀ x ∈ mp, 0 ≤ x.1) → bW mp (i : Int) = none → (mp.foldl (fun l x => l.set x.1.toNat x.2) l)[i]? = l[i]?
 | [], _, _, _ => rfl
 | y :: mp, l, h0, h => by
  rw [bW] at h
  by_cases e : (i : Int) = y.1
  ·rw [if_pos e] at h; cases h
  ·rw [if_neg e] at h
   rw [List.foldl_cons, xB i mp _ (fun x hx => h0 x (by simp [hx])) h, List.getElem?_set_ne (by have := h0 y (by simp); omega)]
theorem outU_outF {mp : MP} (hg : oW mp) : (outU mp 8).length = (c9 mp + 1).toNat ∧ (outU mp 8).map wkL = T.encs (nK mp (c9 mp + 1).toNat) := by
 obtain ⟨g1, g2, g3⟩ := hg
 obtain ⟨h1, h2, h3, h4⟩ := outU_spec mp 8
 have hn : (outU mp 8).length = (c9 mp + 1).toNat := by
  rcases GV mp with h | ⟨x, hx, h⟩
  ·rcases h4 with h4 | ⟨y, hy⟩
   ·omega
   ·have := (g3 _ _ hy).2.1
    omega
  ·obtain ⟨y, hy⟩ := xK mp x hx
   have hx7 := g1 x hx
   have a1 := h3 x.1.toNat y (by omega) (by rw [Int.toNat_of_nonneg hx7.1]; exact hy)
   rcases h4 with h4 | ⟨z, hz⟩
   ·omega
   ·have := (g3 _ _ hz).2.1
    omega
 refine ⟨hn, List.ext_getElem? fun i => ?_⟩
 rw [T.encs_map, List.getElem?_map, List.getElem?_map]
 by_cases hi : i < (outU mp 8).length
 ·rw [h2 i hi]
  cases hx : bW mp (i : Int) with
  | none =>
   have : (nK mp (c9 mp + 1).toNat)[i]? = some T.zero := by
    rw [nK, xB i mp _ (fun x hx => (g1 x hx).1) hx, List.getElem?_replicate, if_pos (by omega)]
   rw [this]; rfl
  | some x =>
   have := (g3 _ _ hx).2.2 (c9 mp + 1).toNat (by omega)
   rw [Int.toNat_natCast] at this
   rw [this]
   simp only [Option.map_some, T.wk_enc]
 ·rw [List.getElem?_eq_none (by omega), List.getElem?_eq_none (by rw [oL]; omega)]; rfl
end T
set_option maxHeartbeats 8000000 in
theorem IY (f t : T) (hf : T.size f ≤ 1000000000000) (ht : T.size t ≤ 1000000000000) : Pure Tryz.prog G0 17 [.agg (T.enc f), .agg (T.enc t)] (tT (T.mat f t true [])) := by
 have h1t := T.enc_tree f
 have h2t := T.enc_tree t
 have km := fun rows h3 => N7 _ (Nat.le_refl _) f hf t ht true [] (fun y hy => by cases hy) rows h3
 have hg := T.mat_good f t true [] ht (fun y hy => by cases hy)
 obtain ⟨hO, _, _⟩ := T.mat_goodO f t true [] mH
 rcases hm : T.mat f t true [] with ⟨ok, mp⟩
 rw [hm] at km hg hO
 simp only at hg hO
 obtain ⟨xa, xb, xc, xd, hxe⟩ := aK f
 obtain ⟨ya, yb, yc, yd, hye⟩ := aK t
 rw [hxe] at h1t km ⊢
 rw [hye] at h2t km ⊢
 have htree : inR aB (tT (ok, mp)) = true := by cases ok <;> simp only [tT, inR, inL, inE, T.encs_tree, Bool.and_self]
 have hxd : inE aB xd = true := by simpa only [inL, inR, Bool.true_and, Bool.and_true] using h1t
 have hyd : inE aB yd = true := by simpa only [inL, inR, Bool.true_and, Bool.and_true] using h2t
 refine bK hG0 Tryz.func17 rfl (by kernel_rfl) (by simp [Tryz.ntmps17]) (by simp only [inL, inR, Bool.true_and, Bool.and_true, Bool.and_eq_true] at h1t h2t ⊢; exact ⟨h1t, h2t⟩) (by exact htree) ?_
 simp only [Tryz.ntmps17, aF, Nat.reduceAdd]
 have e0 : ARow.map [] [] = bI [] := rfl
 repeat' (first | with_reducible (first | refine u'1 fun _ _ => ?_ | refine u'X ?_ | (first | refine u'R ?_ | refine u'5 fun _ _ _ _ => ?_ | refine u'6 (fun hg => ?_) (fun hg => ?_) <;> try simp only [hg]) <;> simp only [wS, simprocAttr]))
 refine Cont.go (by assumption) (fB (cB [] (kp [0, 1]) (l := [(2, .ptr 0 0 0), (3, .ptr 1 0 0), (4, .sl true []), (5, .bool false)]) (h := [.cells 0 [.int .i64 xa, .int .i64 xb, .int .i64 xc, .sl false xd], .cells 0 [.int .i64 ya, .int .i64 yb, .int .i64 yc, .sl false yd], .none]) hG0 (fun r hr => absurd hr (Nat.not_lt_zero r)) ?_ ?_ ?_) ?_)
 ·simp only [wS, simprocAttr, dX, Frz, and_true, true_or]
 ·simp only [List.all_cons, List.all_nil, Bool.and_true, inR]; rfl
 ·simp only [wS, simprocAttr]
  simp only [ToH, and_true]
  exact ⟨kr rfl (by simp only [aD, inL, inR, Bool.true_and, Bool.and_true]; exact aC hxd) (by simp), kr rfl (by simp only [aD, inL, inR, Bool.true_and, Bool.and_true]; exact aC hyd) (by simp)⟩
 cases ok with
 | false =>
  repeat' (first | with_reducible (first | refine u'1 fun _ _ => ?_ | refine u'W ?_ | (first | refine u'R ?_ | refine u'5 fun _ _ _ _ => ?_ | refine u'6 (fun hg => ?_) (fun hg => ?_) <;> try simp only [hg]) <;> simp only [wS, simprocAttr, Bool.not_true, Bool.not_false, e0]) | (refine cK (km _ (by simp only [wS, simprocAttr]; try exact rfl)) ?_; simp only [wS, simprocAttr, Bool.not_true, Bool.not_false, e0]) | with_reducible first | refine ⟨fun _ => ?_, fun _ => ?_⟩ | refine u'A ?_)
  refine dK rfl ?_
  simp only [wS, simprocAttr]
  rfl
 | true =>
  repeat' (first | with_reducible (first | refine u'1 fun _ _ => ?_ | refine u'W ?_ | (first | refine u'R ?_ | refine u'5 fun _ _ _ _ => ?_ | refine u'6 (fun hg => ?_) (fun hg => ?_) <;> try simp only [hg]) <;> simp only [wS, simprocAttr, Bool.not_true, Bool.not_false, e0]) | (refine cK (km _ (by simp only [wS, simprocAttr]; try exact rfl)) ?_; simp only [wS, simprocAttr, Bool.not_true, Bool.not_false, e0]) | with_reducible first | refine ⟨fun _ => ?_, fun _ => ?_⟩ | refine u'A ?_)
  obtain ⟨hUl, hUw⟩ := T.outU_outF hO
  refine aQ (α := {x : Nat × Nat // x.1 ≤ 8}) (fun x => [(6, .omp 3), (7, rv 4 x.1.2 4 (T.outU mp x.1.1)), (17, .int .i64 (x.1.1 : Nat))]) (fun x => [.none, .none, .none, bI mp, rvR x.1.2 (T.outU mp x.1.1)]) (fun x => 8 - x.1.1) ⟨(0, 0), Nat.zero_le _⟩ (cB [] (kp [3, 4]) hG0 (fun r hr => absurd hr (Nat.not_lt_zero r)) ?_ ?_ ?_) ?_
  ·simp only [wS, simprocAttr, dX, Frz, and_true, true_or, T.outU, f5]; try exact .toRsv
  ·simp only [List.all_cons, List.all_nil, Bool.and_true, Bool.and_eq_true]; exact ⟨rfl, fE rfl, rfl⟩
  ·simp only [wS, simprocAttr, T.outU, jY]
   simp only [ToH, and_true]
   exact ⟨.inl rfl, .inl rfl, .inl rfl, kr rfl (cJ _) (by simp)⟩
  ·rintro ⟨⟨h, v⟩, hh⟩ K hK
   try simp only at hh
   by_cases hlt : h < 8
   ·have c1 : decide (((h : Nat) : Int) < 8) = true := by simp; omega
    have e3 := aO (k := h) hlt (by omega)
    cases hf : iM (mV mp) (h : Int) 0 with
    | none =>
     have hlk := iY mp h 0 hf
     have hU : T.outU mp (h + 1) = T.outU mp h := by rw [T.outU, hlk]
     repeat' (first | with_reducible (first | refine u'1 fun _ _ => ?_ | refine u'W ?_ | (first | refine u'R ?_ | refine u'5 fun _ _ _ _ => ?_ | refine u'6 (fun hg => ?_) (fun hg => ?_) <;> try simp only [hg]) <;> simp only [wS, simprocAttr, bI, eM, hf, c1, e3]) | with_reducible first | refine ⟨fun _ => ?_, fun _ => ?_⟩ | refine u'A ?_)
     refine hK.go ⟨(h + 1, v), hlt⟩ (Weak.ref ⟨?_, .inr ⟨by first | exact Nat.zero_le _ | exact Nat.le_refl _ | simp, ?_, fun g cs hg => bO (hG0 g cs hg), ?_, ?_⟩⟩) (by simp only; omega)
     ·simp only [wS, simprocAttr, hU]; try exact rfl
     ·simp only [wS, simprocAttr, hU]; try exact rfl
     ·intro z hz
      simp only [List.mem_cons, List.not_mem_nil, or_false] at hz
      rcases hz with rfl | rfl | rfl <;> first | rfl | exact fE rfl
     ·simp only [List.all_cons, List.all_nil, Bool.and_true, Bool.and_eq_true]; try exact ⟨rfl, rfl, rfl, cJ _, eF (aC (T.outU_tree mp _))⟩
    | some j =>
     obtain ⟨x, _, hx, hlk⟩ := iX mp h 0 j hf
     rw [Nat.sub_zero] at hx
     have hv := pQ hx
     obtain ⟨za, zb, zc', zd, hze⟩ := aK x
     rw [hze] at hv
     have hU4 : ∀ e ∈ T.outU mp h, e.length = 4 := T.outU_len4 mp h
     have hUle := (T.outU_spec mp h).1
     have hLn : ∀ rows : Nat → ARow, rows 4 = rvR v (T.outU mp h) → qM Tryz.prog 23 (rv 4 v 4 (T.outU mp h)) rows = some (.int .i64 ((T.outU mp h).length : Nat)) := fun rows h => G9 (et := 25) (by kernel_rfl) h
     have eS : IntKind.i64.wrap (((h : Nat) : Int) - ((T.outU mp h).length : Nat)) = ((h - (T.outU mp h).length : Nat) : Int) := by rw [cZ (by omega) (by omega)]; omega
     have kcl := G3 _ x (Nat.le_refl _) (by have := hg _ (List.mem_of_getElem? hx); simpa using this)
     rw [hze] at kcl
     have hAp : ∀ e ∈ T.outU mp h ++ List.replicate (h - (T.outU mp h).length) zc, e.length = 4 := fun e he => by
      rcases List.mem_append.1 he with he | he
      ·exact hU4 e he
      ·rw [(List.mem_replicate.1 he).2]; rfl
     have hApl : (T.outU mp h ++ List.replicate (h - (T.outU mp h).length) zc).length = h := by simp; omega
     have hU : T.outU mp (h + 1) = T.outU mp h ++ List.replicate (h - (T.outU mp h).length) zc ++ [[.int .i64 za, .int .i64 zb, .int .i64 zc', .sl false zd]] := by rw [T.outU, hlk]; simp only [hze]
     repeat' (first | with_reducible (first | refine u'1 fun _ _ => ?_ | refine u'W ?_ | (first | refine u'R ?_ | refine u'5 fun _ _ _ _ => ?_ | refine u'6 (fun hg => ?_) (fun hg => ?_) <;> try simp only [hg]) <;> simp only [wS, simprocAttr, bI, eM, hf, hv, c1, e3, ↓hLn, eS]) | (refine MF (by' := 48) (z := zc) (m := h - (T.outU mp h).length) (by kernel_rfl) (by simp only [wS, simprocAttr]; try exact rfl) (by simp only [wS, simprocAttr]; try exact rfl) (by (try simp only [wS, simprocAttr]); (try simp); (try omega)) hU4 (by omega) (by omega) (by omega) ?_; simp only [wS, simprocAttr]) | (refine aA hG0 (kcl) ?_; simp only [wS, simprocAttr]) | (refine gB (by' := 48) (es := [[.int .i64 za, .int .i64 zb, .int .i64 zc', .sl false zd]]) (by kernel_rfl) (by simp only [wS, simprocAttr]; try exact rfl) rfl hAp (by simp [cU]) (by simp) (by rw [hApl]; simp only [List.length_singleton]; omega) ?_; simp only [wS, simprocAttr]) | with_reducible first | refine ⟨fun _ => ?_, fun _ => ?_⟩ | refine u'A ?_)
     refine hK.go ⟨(h + 1, if T.outU mp h ++ List.replicate (h - (T.outU mp h).length) zc = [] then 0 else (if h - (T.outU mp h).length = 0 then v else rvN v (T.outU mp h)) + 1), hlt⟩ (Weak.ref ⟨?_, .inr ⟨by first | exact Nat.zero_le _ | exact Nat.le_refl _ | simp, ?_, fun g cs hg => bO (hG0 g cs hg), ?_, ?_⟩⟩) (by simp only; omega)
     ·simp only [wS, simprocAttr, hU]; try exact rfl
     ·simp only [wS, simprocAttr, hU]; try exact rfl
     ·intro z hz
      simp only [List.mem_cons, List.not_mem_nil, or_false] at hz
      rcases hz with rfl | rfl | rfl <;> first | rfl | exact fE rfl
     ·simp only [List.all_cons, List.all_nil, Bool.and_true, Bool.and_eq_true]; try exact ⟨rfl, rfl, rfl, cJ _, eF (aC (T.outU_tree mp _))⟩
   ·have c1 : decide (((h : Nat) : Int) < 8) = false := by simp; omega
    obtain rfl : h = 8 := by omega
    have hU4 : ∀ e ∈ T.outU mp 8, e.length = 4 := T.outU_len4 mp 8
    repeat' (first | with_reducible (first | refine u'1 fun _ _ => ?_ | refine u'X ?_ | (first | refine u'R ?_ | refine u'5 fun _ _ _ _ => ?_ | refine u'6 (fun hg => ?_) (fun hg => ?_) <;> try simp only [hg]) <;> simp only [wS, simprocAttr, c1]))
    refine Cont.go (by assumption) ?_
    repeat' (first | with_reducible (first | refine u'1 fun _ _ => ?_ | refine u'X ?_ | (first | refine u'R ?_ | refine u'5 fun _ _ _ _ => ?_ | refine u'6 (fun hg => ?_) (fun hg => ?_) <;> try simp only [hg]) <;> simp only [wS, simprocAttr, c1]))
    refine Cont.go (by assumption) (fB (cB [4] (kp []) (l := [(7, .sl false (T.outU mp 8))]) (h := []) hG0 (fun r hr => absurd hr (Nat.not_lt_zero r)) ?_ ?_ ?_) ?_)
    ·simp only [wS, simprocAttr, dX, Frz, and_true, true_or]; exact .inr (fV (v := v) rfl (by simp) hU4 (T.outU_tree mp 8))
    ·simp only [List.all_cons, List.all_nil, Bool.and_true, inR]; exact aC (T.outU_tree mp 8)
    ·simp only [wS, simprocAttr]
     simp only [ToH, and_true]
     exact ⟨rfl, rfl, rfl, rfl, rfl⟩
    repeat' (first | with_reducible (first | refine u'1 fun _ _ => ?_ | refine u'W ?_ | (first | refine u'R ?_ | refine u'5 fun _ _ _ _ => ?_ | refine u'6 (fun hg => ?_) (fun hg => ?_) <;> try simp only [hg]) <;> simp only [wS, simprocAttr]))
    refine dK rfl ?_
    simp only [wS, simprocAttr]
    rw [AM.wk]
    simp only [wkL, AM.wk, hI, hUw, tT]
set_option maxHeartbeats 8000000 in
theorem F8 (l : List T) (hl : l.length ≤ 1000000000000000) (hp : ∀ x ∈ l, T.size x ≤ 100000000000000000) : Pure Tryz.prog G0 21 [.sl false (T.encs l), .sl false (T.encs l)] (.bool true) := by
 have ht := T.encs_tree l
 have hn : (T.encs l).length = l.length := by rw [T.encs_map, List.length_map]
 have hg : ∀ (i : Nat) (x : T), l[i]? = some x → (T.encs l)[i]? = some (T.enc x) := fun i x h => T.encs_get h
 generalize T.encs l = A at ht hn hg ⊢
 refine aM hG0 Tryz.func21 rfl (by kernel_rfl) (by simp [Tryz.ntmps21]) (by simp only [inL, inR, ht, Bool.and_self]) (by rfl) ?_
 simp only [Tryz.ntmps21, aF, Nat.reduceAdd]
 have c0 : (((A.length : Nat) : Int) != ((A.length : Nat) : Int)) = false := by simp
 repeat' (first | with_reducible (first | refine u'1 fun _ _ => ?_ | refine u'W ?_ | (first | refine u'R ?_ | refine u'5 fun _ _ _ _ => ?_ | refine u'6 (fun hg => ?_) (fun hg => ?_) <;> try simp only [hg]) <;> simp only [wS, simprocAttr, c0]))
 refine aQ (α := {i : Nat // i ≤ l.length}) (fun i => [(0, .sl false A), (1, .sl false A), (5, .int .i64 (i.1 : Nat))]) (fun i => []) (fun i => l.length - i.1) ⟨0, Nat.zero_le _⟩ (Weak.ref ⟨?_, .inl ?_⟩) ?_
 ·simp only [wS, simprocAttr]; try exact rfl
 ·simp only [wS, simprocAttr]; try exact rfl
 ·rintro ⟨i, hi⟩ K hK
  try simp only at hi
  by_cases hlt : i < l.length
  ·have c1 : decide (((i : Nat) : Int) < ((A.length : Nat) : Int)) = true := by simp; omega
   obtain ⟨x, hx⟩ : ∃ x, l[i]? = some x := ⟨_, List.getElem?_eq_getElem hlt⟩
   have gx := hg i x hx
   have e3 := aO (k := i) hlt (by omega)
   have hA : i < A.length := by omega
   have kc := y7 x x (hp x (List.mem_of_getElem? hx))
   rw [(T.cmp_zero x x).2 rfl] at kc
   have e0 : ((0 : Int) == 0) = true := rfl
   obtain ⟨xa, xb, xc, xd, hxe⟩ := aK x
   rw [hxe] at gx kc
   repeat' (first | with_reducible (first | refine u'1 fun _ _ => ?_ | refine u'W ?_ | (first | refine u'R ?_ | refine u'5 fun _ _ _ _ => ?_ | refine u'6 (fun hg => ?_) (fun hg => ?_) <;> try simp only [hg]) <;> simp only [wS, simprocAttr, gx, hA, c1, e3, e0, Bool.not_true]) | (refine aA hG0 (kc) ?_; simp only [wS, simprocAttr, gx, hA, c1, e3, e0, Bool.not_true]) | with_reducible first | refine ⟨fun _ => ?_, fun _ => ?_⟩ | refine u'A ?_)
   refine hK.go ⟨i + 1, hlt⟩ (Weak.ref ⟨?_, .inr ⟨by first | exact Nat.zero_le _ | exact Nat.le_refl _ | simp, ?_, fun g cs hg => bO (hG0 g cs hg), ?_, ?_⟩⟩) (by simp only; omega)
   ·simp only [wS, simprocAttr]; try exact rfl
   ·simp only [wS, simprocAttr]; try exact rfl
   ·intro z hz
    simp only [List.mem_cons, List.not_mem_nil, or_false] at hz
    rcases hz with rfl | rfl | rfl <;> first | rfl | (simp only [inR]; exact aC ht)
   ·simp only [List.all_cons, List.all_nil, Bool.and_true, Bool.and_eq_true]; try exact rfl
  ·have c1 : decide (((i : Nat) : Int) < ((A.length : Nat) : Int)) = false := by simp; omega
   repeat' (first | with_reducible (first | refine u'1 fun _ _ => ?_ | refine u'W ?_ | (first | refine u'R ?_ | refine u'5 fun _ _ _ _ => ?_ | refine u'6 (fun hg => ?_) (fun hg => ?_) <;> try simp only [hg]) <;> simp only [wS, simprocAttr, c1]) | with_reducible first | refine ⟨fun _ => ?_, fun _ => ?_⟩ | refine u'A ?_)
   refine aE rfl ?_
   simp only [wS, simprocAttr]
end Go.Proofs.YtblfpppnkdokdaaGreatDoor
