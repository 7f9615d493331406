import Derived.Test.YtblfpppnkdokdaaGreatDoorHP
import Derived.Test.YtblfpppnkdokdaaGreatDoorT0
import Derived.Test.YtblfpppnkdokdaaGreatDoorVD
set_option linter.unusedVariables false
set_option linter.unusedSimpArgs false
namespace Go.Proofs.YtblfpppnkdokdaaGreatDoor
open Go.AM
attribute [local irreducible] AWp aP aT bC bH bN aI aL bG
set_option maxRecDepth 100000
theorem DU (t : T) (ht : T.size t ≤ 100000000000) (at0 : Int) (ha : bR at0) : ∃ u, Pure Tryz.prog G0 7 [.agg (T.enc t), .int .i64 at0] (.agg (T.enc u)) ∧ T.size u ≤ T.size t := by
 have htr := T.enc_tree t
 have hp6 := rT _ t (Nat.le_refl _) ht
 have hSl : (T.paths t).length = T.size t := T.paths_len t
 have hsp := T.size_pos t
 obtain ⟨ia, hia, kar⟩ := cF at0 ha (T.paths t).length (by omega)
 obtain ⟨p, hp⟩ : ∃ p, (T.paths t)[ia]? = some p := ⟨_, List.getElem?_eq_getElem hia⟩
 obtain ⟨hpl, x, hx, hxs⟩ := T.paths_sub t p (List.mem_of_getElem? hp)
 have kat : Pure Tryz.prog G0 31 [.agg (T.enc t), .sl false (dQ p)] (.tup [.agg (T.enc x), .bool true]) := PS p false t x (by omega) hx
 have hcg := s9 hp
 have hcl := iC (T.paths t)
 have hctr := gR (T.paths t)
 rw [← hcl] at kar hia
 generalize PE (T.paths t) = SEs at hp6 hcg hcl hctr kar hia
 have hit : inE aB (dQ p) = true := cG p
 generalize dQ p = ip at hcg kat hit
 have hxr := T.enc_tree x
 refine ⟨x, ?_, hxs⟩
 obtain ⟨xk, xn, xm, xe, hxe⟩ := aK x
 obtain ⟨tk, tn, tm, te, hte⟩ := aK t
 rw [hte] at hp6 kat htr ⊢
 rw [hxe] at kat hxr ⊢
 refine aM hG0 Tryz.func7 rfl (by kernel_rfl) (by simp [Tryz.ntmps7]) (by simp only [inL, inR, Bool.and_true, Bool.true_and] at htr ⊢; exact htr) (by simp only [inR]; exact hxr) ?_
 simp only [Tryz.ntmps7, aF, Nat.reduceAdd]
 repeat' (first | with_reducible (first | refine u'1 fun _ _ => ?_ | refine u'W ?_ | (first | refine u'R ?_ | refine u'5 fun _ _ _ _ => ?_ | refine u'6 (fun hg => ?_) (fun hg => ?_) <;> try simp only [hg]) <;> simp only [wS, simprocAttr, hcg, hia]) | (refine aA hG0 (hp6) ?_; simp only [wS, simprocAttr, hcg, hia]) | (refine aA hG0 (kar) ?_; simp only [wS, simprocAttr, hcg, hia]) | (refine aA hG0 (kat) ?_; simp only [wS, simprocAttr, hcg, hia]) | with_reducible first | refine ⟨fun _ => ?_, fun _ => ?_⟩ | refine u'A ?_)
 exact dJ (v := .agg [.int .i64 xk, .int .i64 xn, .int .i64 xm, .sl false xe]) rfl (by simp only [wS, simprocAttr]; try exact rfl) rfl
theorem jE (z : Int) : Pure Tryz.prog G0 37 [.int .i64 z] (.agg (T.enc (.mk 28 z 0 []))) := by
 refine bK hG0 Tryz.func37 rfl (by kernel_rfl) (by simp [Tryz.ntmps37]) (by simp only [inL, inR, Bool.and_self]) (by simp only [inR]; exact T.enc_tree _) ?_
 simp only [Tryz.ntmps37, aF, Nat.reduceAdd]
 repeat' (first | with_reducible (first | refine u'1 fun _ _ => ?_ | refine u'W ?_ | (first | refine u'R ?_ | refine u'5 fun _ _ _ _ => ?_ | refine u'6 (fun hg => ?_) (fun hg => ?_) <;> try simp only [hg]) <;> simp only [wS, simprocAttr]))
 exact dJ (v := .agg [.int .i64 28, .int .i64 z, .int .i64 0, .sl true []]) rfl (by simp only [wS, simprocAttr]; try exact rfl) rfl
namespace T
def nx (at0 : Int) (i : Nat) : Int := IntKind.i64.wrap (IntKind.i64.wrap (IntKind.i64.wrap (3 * at0) + (i : Int)) + 1)
mutual
def pat (A : Int → Int) (H : Int) (kn : List Int) : Int → T → T
 | at0, mk k n m es => if (decide (at0 > 0) && decide (A at0 < H)) = true then mk 28 (if kn = [] then (A at0).tmod 3 else kn.getD ((A at0).tmod kn.length).toNat 0) 0 [] else mk k n m (pats A H kn at0 0 es)
def pats (A : Int → Int) (H : Int) (kn : List Int) : Int → Nat → List T → List T
 | _, _, [] => []
 | at0, i, e :: es => pat A H kn (nx at0 i) e :: pats A H kn at0 (i + 1) es
end
theorem pats_take {A : Int → Int} {H : Int} {kn : List Int} {at0 : Int} {e : T} : ∀ {es : List T} {i j : Nat}, es[i]? = some e → pats A H kn at0 j (es.take (i + 1)) = pats A H kn at0 j (es.take i) ++ [pat A H kn (nx at0 (j + i)) e]
 | [], _, _, h => by simp at h
 | x :: es, 0, j, h => by
  obtain rfl : x = e := by simpa using h
  simp [pats]
 | x :: es, i + 1, j, h => by
  have := pats_take (A := A) (H := H) (kn := kn) (at0 := at0) (e := e) (es := es) (i := i) (j := j + 1) (by simpa using h)
  rw [List.take_succ_cons, List.take_succ_cons, pats, pats, this, List.cons_append]
  rw [show j + 1 + i = j + (i + 1) by omega]
theorem pats_len {A : Int → Int} {H : Int} {kn : List Int} {at0 : Int} : ∀ (es : List T) (j : Nat), (pats A H kn at0 j es).length = es.length
 | [], _ => by simp [pats]
 | x :: es, j => by rw [pats, List.length_cons, pats_len es, List.length_cons]
mutual
theorem size_pat {A : Int → Int} {H : Int} {kn : List Int} : ∀ (t : T) (at0 : Int), size (pat A H kn at0 t) ≤ size t
 | mk k n m es, at0 => by
  rw [pat]
  split
  ·simp only [size, sizes]; omega
  ·have := sR (A := A) (H := H) (kn := kn) es at0 0
   simp only [size]; omega
theorem sR {A : Int → Int} {H : Int} {kn : List Int} : ∀ (es : List T) (at0 : Int) (i : Nat), sizes (pats A H kn at0 i es) ≤ sizes es
 | [], _, _ => by simp [pats]
 | e :: es, at0, i => by
  have := size_pat (A := A) (H := H) (kn := kn) e (nx at0 i)
  have := sR (A := A) (H := H) (kn := kn) es at0 (i + 1)
  simp only [pats, sizes]; omega
end
theorem encs_app : ∀ a b : List T, encs (a ++ b) = encs a ++ encs b
 | [], _ => rfl
 | x :: a, b => by rw [List.cons_append, encs, encs, encs_app a b, List.cons_append]
end T
set_option maxHeartbeats 8000000 in
theorem w8 (L : List Int) (hL : ∀ x ∈ L, bR x) (H : Int) (kn : List Int) (b : Bool) (hkn : kn.length ≤ 1000000000000) : ∀ (N : Nat) (t : T) (at0 : Int), T.size t ≤ N → N ≤ 1000000000000 → Pure Tryz.prog G0 27 [.agg (T.enc t), cD L, .int .i64 at0, .int .i64 H, .sl b (nE kn)] (.agg (T.enc (T.pat (fun i => atS L i 8) H kn at0 t))) := by
 intro N
 induction N with
 | zero => intro t _ h; have := T.size_pos t; omega
 | succ N ih =>
  intro t at0 ht hN
  obtain ⟨A, hA⟩ : ∃ A : Int → Int, A = fun i => atS L i 8 := ⟨_, rfl⟩
  rw [← hA] at ih ⊢
  have kA := uZ L at0 8 hL (by decide)
  have hA8 := KM L at0 8 (by decide)
  rw [show atS L at0 8 = A at0 by rw [hA]] at kA hA8
  clear hA
  obtain ⟨k, n, m, es⟩ := t
  have ih2 : ∀ e ∈ es, ∀ a1, Pure Tryz.prog G0 27 [.agg (T.enc e), cD L, .int .i64 a1, .int .i64 H, .sl b (nE kn)] (.agg (T.enc (T.pat A H kn a1 e))) := fun e he a1 => ih e a1 (by have := T.size_mem he; simp only [T.size] at ht; omega) (by omega)
  clear ih
  have htr := T.enc_tree (.mk k n m es)
  have hls := T.len_sizes es
  have hLt : inE aB (L.map fun n => [AV.int .i64 n]) = true := cG L
  simp only [cD] at ih2 kA ⊢
  generalize (L.map fun n => [AV.int .i64 n]) = LE at ih2 kA hLt
  simp only [T.size] at ht
  have hkt := j5 kn
  have hkl := zS kn
  have hkg : ∀ (i : Nat) (z : Int), kn[i]? = some z → (nE kn)[i]? = some [.int .i64 z] := fun i z h => by rw [nE, List.getElem?_map, h]; rfl
  have hto := T.enc_tree (T.pat A H kn at0 (.mk k n m es))
  generalize nE kn = KE at ih2 hkt hkl hkg
  obtain ⟨R, hR⟩ : ∃ R, R = T.pat A H kn at0 (.mk k n m es) := ⟨_, rfl⟩
  rw [← hR] at hto ⊢
  rw [T.pat] at hR
  refine bK hG0 Tryz.func27 rfl (by kernel_rfl) (by simp [Tryz.ntmps27]) (by simp only [inL, inR, htr, hLt, hkt, Bool.and_self]) (by simp only [inR]; exact hto) ?_
  simp only [Tryz.ntmps27, aF, Nat.reduceAdd, T.enc]
  have hgt := fun (i : Nat) (e : T) => T.encs_get (es := es) (i := i) (e := e)
  have hln := T.encs_len es
  have hte := T.encs_tree es
  generalize T.encs es = EE at hgt hln hte
  by_cases hh : (decide (at0 > 0) && decide (A at0 < H)) = true
  ·rw [if_pos hh] at hR
   rw [Bool.and_eq_true] at hh
   obtain ⟨g1, g2⟩ := hh
   by_cases hk : kn = []
   ·have gk : decide (((KE.length : Nat) : Int) > 0) = false := decide_eq_false (by rw [hkl, hk]; simp)
    rw [if_pos hk] at hR
    have kh := jE ((A at0).tmod 3)
    rw [← hR] at kh
    have hwk := T.wk_enc R
    have hq0 : True := trivial
    have hq1 : True := trivial
    have hq2 : True := trivial
    obtain ⟨ra, rb, rc, rd, hre⟩ := aK R
    rw [hre] at kh hwk ⊢
    repeat' (first | with_reducible (first | refine u'1 fun _ _ => ?_ | refine u'W ?_ | (first | refine u'R ?_ | refine u'5 fun _ _ _ _ => ?_ | refine u'6 (fun hg => ?_) (fun hg => ?_) <;> try simp only [hg]) <;> simp only [wS, simprocAttr, g1, g2, gk, hq0, hq1, hq2]) | (refine aA hG0 (kA) ?_; simp only [wS, simprocAttr, g1, g2, gk, hq0, hq1, hq2]) | (refine aA hG0 (kh) ?_; simp only [wS, simprocAttr, g1, g2, gk, hq0, hq1, hq2]) | with_reducible first | refine ⟨fun _ => ?_, fun _ => ?_⟩ | refine u'A ?_)
    exact dJ (v := .agg [.int .i64 ra, .int .i64 rb, .int .i64 rc, .sl false rd]) rfl (by simp only [wS, simprocAttr]; try exact rfl) (by rw [AM.wk, hwk])
   ·have hkp : 0 < kn.length := List.length_pos_iff.2 hk
    have gk : decide (((KE.length : Nat) : Int) > 0) = true := decide_eq_true (by omega)
    rw [if_neg hk] at hR
    have hb1 := Int.tmod_nonneg (kn.length : Int) hA8.1
    have hb2 := Int.tmod_lt_of_pos (A at0) (show (0 : Int) < (kn.length : Int) by omega)
    obtain ⟨q, hq⟩ : ∃ q : Nat, (A at0).tmod (kn.length : Int) = (q : Nat) := ⟨((A at0).tmod (kn.length : Int)).toNat, by omega⟩
    rw [hq] at hR hb2
    have hq1 : q < KE.length := by omega
    obtain ⟨z, hz⟩ : ∃ z, kn[q]? = some z := ⟨_, List.getElem?_eq_getElem (by omega)⟩
    have hq2 := hkg q z hz
    have kh := jE z
    rw [Int.toNat_natCast, List.getD_eq_getElem?_getD, hz, Option.getD_some] at hR
    rw [← hR] at kh
    rw [← hkl] at hq
    have hwk := T.wk_enc R
    have hq0 : ¬ (((KE.length : Nat) : Int) = 0) := by omega
    obtain ⟨ra, rb, rc, rd, hre⟩ := aK R
    rw [hre] at kh hwk ⊢
    repeat' (first | with_reducible (first | refine u'1 fun _ _ => ?_ | refine u'W ?_ | (first | refine u'R ?_ | refine u'5 fun _ _ _ _ => ?_ | refine u'6 (fun hg => ?_) (fun hg => ?_) <;> try simp only [hg]) <;> simp only [wS, simprocAttr, hq, g1, g2, gk, hq0, hq1, hq2]) | (refine aA hG0 (kA) ?_; simp only [wS, simprocAttr, hq, g1, g2, gk, hq0, hq1, hq2]) | (refine aA hG0 (kh) ?_; simp only [wS, simprocAttr, hq, g1, g2, gk, hq0, hq1, hq2]) | with_reducible first | refine ⟨fun _ => ?_, fun _ => ?_⟩ | refine u'A ?_)
    exact dJ (v := .agg [.int .i64 ra, .int .i64 rb, .int .i64 rc, .sl false rd]) rfl (by simp only [wS, simprocAttr]; try exact rfl) (by rw [AM.wk, hwk])
  ·rw [if_neg hh] at hR
   have hwk := T.wk_enc R
   have hE4 : ∀ l : List T, ∀ e ∈ T.encs l, e.length = 4 := fun l e he => by
    rw [T.encs_map] at he
    obtain ⟨y, _, rfl⟩ := List.mem_map.1 he
    exact T.enc_len y
   have hEt := fun l : List T => T.encs_tree l
   have hRe : T.enc R = [.int .i64 k, .int .i64 n, .int .i64 m, .sl false (T.encs (T.pats A H kn at0 0 es))] := by rw [hR]; rfl
   rw [hRe] at hwk ⊢
   have hc : (decide (at0 > 0) = false ∧ True) ∨ (decide (at0 > 0) = true ∧ decide (A at0 < H) = false) := by
    cases h1 : decide (at0 > 0) with
    | false => exact .inl ⟨rfl, trivial⟩
    | true => rw [h1, Bool.true_and] at hh; exact .inr ⟨rfl, by simpa using hh⟩
   rcases hc with ⟨g1, g2⟩ | ⟨g1, g2⟩
   all_goals
    repeat' (first | with_reducible (first | refine u'1 fun _ _ => ?_ | refine u'W ?_ | (first | refine u'R ?_ | refine u'5 fun _ _ _ _ => ?_ | refine u'6 (fun hg => ?_) (fun hg => ?_) <;> try simp only [hg]) <;> simp only [wS, simprocAttr, g1, g2]) | (refine aA hG0 (kA) ?_; simp only [wS, simprocAttr, g1, g2]) | with_reducible first | refine ⟨fun _ => ?_, fun _ => ?_⟩ | refine u'A ?_)
    refine aQ (α := {i : Nat // i ≤ es.length}) (fun i => [(1, .sl false LE), (2, .int .i64 at0), (3, .int .i64 H), (4, .sl b KE), (5, .ptr 0 0 0), (10, .ptr 1 0 0), (12, .ptr 2 0 0), (13, .int .i64 (i.1 : Nat))]) (fun i => [.cells 0 [.int .i64 k, .int .i64 n, .int .i64 m, .sl false EE], .cells 0 [.int .i64 0, .int .i64 0, .int .i64 0, .sl true []], .cells 0 [.int .i64 k, .int .i64 n, .int .i64 m, rv 3 (i.1 - 1) 4 (T.encs (T.pats A H kn at0 0 (es.take i.1)))], rvR (i.1 - 1) (T.encs (T.pats A H kn at0 0 (es.take i.1)))]) (fun i => es.length - i.1) ⟨0, Nat.zero_le _⟩ (cB [] (kp [0, 1, 2, 3]) hG0 (fun r hr => absurd hr (Nat.not_lt_zero r)) ?_ ?_ ?_) ?_
    ·simp only [wS, simprocAttr, dX, Frz, and_true, true_or]
    ·simp only [List.all_cons, List.all_nil, Bool.and_true, Bool.and_eq_true, inR, aC hLt, aC hkt, true_and]; try exact ⟨rfl, rfl, rfl⟩
    ·simp only [wS, simprocAttr, List.take_zero, T.pats, T.encs, f5, jY]
     simp only [ToH, and_true]
     exact ⟨.inr ⟨rfl, by simp only [aD, inL, inR, aC hte, Bool.and_self], .inr ⟨.inl (by simp), .inl rfl⟩⟩, .inr ⟨rfl, rfl, .inr ⟨.inl (by simp), .inl rfl⟩⟩, .inr ⟨rfl, rfl, .inr ⟨.inl (by simp), .inr ⟨0, _, _, rfl, rfl, .inl rfl, .inl rfl, .inl rfl, .inr .toRsv, trivial⟩⟩⟩⟩
    rintro ⟨i, hi⟩ K3 hK3
    try simp only at hi
    have hal : (T.encs (T.pats A H kn at0 0 (es.take i))).length = i := by rw [T.encs_len, T.pats_len, List.length_take]; omega
    repeat' (first | with_reducible (first | refine u'1 fun _ _ => ?_ | refine u'W ?_ | (first | refine u'R ?_ | refine u'5 fun _ _ _ _ => ?_ | refine u'6 (fun hg => ?_) (fun hg => ?_) <;> try simp only [hg]) <;> simp only [wS, simprocAttr, ↓aR, ↓aJ]))
    refine ⟨fun h => ?_, fun h => ?_⟩
    ·have hlt : i < es.length := by simpa [hln] using h
     have hltE : i < EE.length := by omega
     obtain ⟨e, he⟩ : ∃ e, es[i]? = some e := ⟨_, List.getElem?_eq_getElem hlt⟩
     have hg := hgt i e he
     have hce := ih2 e (List.mem_of_getElem? he) (T.nx at0 i)
     have htk : T.encs (T.pats A H kn at0 0 (es.take (i + 1))) = T.encs (T.pats A H kn at0 0 (es.take i)) ++ [T.enc (T.pat A H kn (T.nx at0 i) e)] := by
      rw [T.pats_take he, T.encs_app, Nat.zero_add]; rfl
     have e3 := aO (k := i) hlt (by omega)
     have hge : decide (((i : Nat) : Int) ≥ ((EE.length : Nat) : Int)) = false := by simp; omega
     have hps' := hE4 (T.pats A H kn at0 0 (es.take i))
     have hpn := hEt (T.pats A H kn at0 0 (es.take (i + 1)))
     obtain ⟨ea, eb, ec, ed, hee⟩ := aK e
     obtain ⟨pa, pb, pc, pd, hpp⟩ := aK (T.pat A H kn (T.nx at0 i) e)
     rw [hee] at hg hce
     rw [hpp] at hce htk
     unfold T.nx at hce
     have hvv : i = if T.encs (T.pats A H kn at0 0 (es.take i)) = [] then 0 else i - 1 + 1 := by
      by_cases h0 : T.encs (T.pats A H kn at0 0 (es.take i)) = []
      ·rw [if_pos h0]; rw [h0] at hal; simpa using hal.symm
      ·rw [if_neg h0]
       have : i ≠ 0 := fun hz => h0 (by rw [hz]; rfl)
       omega
     repeat' (first | with_reducible (first | refine u'1 fun _ _ => ?_ | refine u'W ?_ | (first | refine u'R ?_ | refine u'5 fun _ _ _ _ => ?_ | refine u'6 (fun hg => ?_) (fun hg => ?_) <;> try simp only [hg]) <;> simp only [wS, simprocAttr, hg, hltE, hlt, hge, ↓aR, ↓aJ]))
     refine aA hG0 hce ?_
     simp only [wS, simprocAttr, ↓aR, ↓aJ]
     refine gB (v' := i) (es := [[.int .i64 pa, .int .i64 pb, .int .i64 pc, .sl false pd]]) (by' := 48) (by kernel_rfl) (by (simp only [wS, simprocAttr]; try exact rfl)) hvv hps' (by simp [cU]) (by simp) (by rw [hal]; simp only [List.length_singleton]; omega) ?_
     simp only [wS, simprocAttr, ↓aR, ↓aJ]
     repeat' (first | with_reducible (first | refine u'1 fun _ _ => ?_ | refine u'W ?_ | (first | refine u'R ?_ | refine u'5 fun _ _ _ _ => ?_ | refine u'6 (fun hg => ?_) (fun hg => ?_) <;> try simp only [hg]) <;> simp only [wS, simprocAttr, e3, ↓aR, ↓aJ]))
     try refine ⟨by kernel_rfl, ?_⟩
     repeat' (first | with_reducible (first | refine u'1 fun _ _ => ?_ | refine u'W ?_ | (first | refine u'R ?_ | refine u'5 fun _ _ _ _ => ?_ | refine u'6 (fun hg => ?_) (fun hg => ?_) <;> try simp only [hg]) <;> simp only [wS, simprocAttr, e3, ↓aR, ↓aJ]))
     refine hK3.go ⟨i + 1, hlt⟩ (Weak.ref ⟨?_, .inr ⟨Nat.zero_le _, ?_, fun g cs hg => bO (hG0 g cs hg), ?_, ?_⟩⟩) (by simp only; omega)
     ·simp only [wS, simprocAttr]; try exact rfl
     ·simp only [wS, simprocAttr, Nat.add_sub_cancel, htk]; try exact rfl
     ·simp only [List.mem_cons, List.not_mem_nil, or_false, forall_eq_or_imp, forall_eq, inR]
      simp only [aC hLt, aC hkt, true_and, and_true, Bool.true_and]
      trivial
     ·simp only [List.all_cons, List.all_nil, Bool.and_true, Bool.and_eq_true]
      exact ⟨by simp only [aD, inL, inR, aC hte, Bool.and_self], rfl, by simp only [aD, inL, inR, Bool.true_and, Bool.and_true]; exact fE rfl, eF (aC (hEt _))⟩
    ·have hge : i = es.length := by simp [hln] at h; omega
     subst hge
     rw [List.take_length] at hal
     repeat' (first | with_reducible (first | refine u'1 fun _ _ => ?_ | refine u'X ?_ | (first | refine u'R ?_ | refine u'5 fun _ _ _ _ => ?_ | refine u'6 (fun hg => ?_) (fun hg => ?_) <;> try simp only [hg]) <;> simp only [wS, simprocAttr, List.take_length]))
     refine Cont.go (by assumption) (fB (cB [3] (kp [0, 1, 2]) (l := [(5, .ptr 0 0 0), (10, .ptr 1 0 0), (12, .ptr 2 0 0)]) (h := [.cells 0 [.int .i64 k, .int .i64 n, .int .i64 m, .sl false EE], .cells 0 [.int .i64 0, .int .i64 0, .int .i64 0, .sl true []], .cells 0 [.int .i64 k, .int .i64 n, .int .i64 m, .sl false (T.encs (T.pats A H kn at0 0 es))]]) hG0 (fun r hr => absurd hr (Nat.not_lt_zero r)) ?_ ?_ ?_) ?_)
     ·simp only [wS, simprocAttr, dX, Frz, and_true, true_or]
     ·rfl
     ·simp only [wS, simprocAttr, List.take_length]
      simp only [ToH, and_true]
      exact ⟨.inr ⟨rfl, by simp only [aD, inL, inR, aC hte, Bool.and_self], .inr ⟨.inl (by simp), .inl rfl⟩⟩, .inr ⟨rfl, rfl, .inr ⟨.inl (by simp), .inl rfl⟩⟩, .inr ⟨rfl, by simp only [aD, inL, inR, Bool.true_and, Bool.and_true]; exact aC (hEt _), .inr ⟨.inl (by simp), .inr ⟨0, _, _, rfl, rfl, .inl rfl, .inl rfl, .inl rfl, .inr (fV (v := es.length - 1) rfl (by simp) (hE4 _) (hEt _)), trivial⟩⟩⟩, rfl⟩
     repeat' (first | with_reducible (first | refine u'1 fun _ _ => ?_ | refine u'W ?_ | (first | refine u'R ?_ | refine u'5 fun _ _ _ _ => ?_ | refine u'6 (fun hg => ?_) (fun hg => ?_) <;> try simp only [hg]) <;> simp only [wS, simprocAttr]))
     exact dJ (v := .agg [.int .i64 k, .int .i64 n, .int .i64 m, .sl false (T.encs (T.pats A H kn at0 0 es))]) rfl (by simp only [wS, simprocAttr]; try exact rfl) (by rw [AM.wk, hwk])
end Go.Proofs.YtblfpppnkdokdaaGreatDoor
