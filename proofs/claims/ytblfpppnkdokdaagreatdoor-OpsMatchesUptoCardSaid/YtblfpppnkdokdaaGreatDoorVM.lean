import Derived.Test.YtblfpppnkdokdaaGreatDoorVG
import Derived.Test.YtblfpppnkdokdaaGreatDoorVK
set_option linter.unusedVariables false
set_option linter.unusedSimpArgs false
namespace Go.Proofs.YtblfpppnkdokdaaGreatDoor
open Go.AM
attribute [local irreducible] AWp aP aT bC bH bN aI aL bG
set_option maxRecDepth 100000
theorem F3 : ∀ a b : List AV, AM.wkL (a ++ b) = AM.wkL a ++ AM.wkL b
 | [], _ => by simp [AM.wkL]
 | x :: a, b => by simp only [List.cons_append, AM.wkL, F3 a b]
theorem qU (nm : ByteArray) (f p : T) (b : Int) : AM.wk (.agg (opE nm f p b)) = .agg (opE nm f p b) := by
 simp only [AM.wk, opE, AM.wkL, F3, T.wk_enc]
def OpV (B : Nat) (v : AV) : Prop := ∃ nm f p b, v = .agg (opE nm f p b) ∧ T.size f ≤ B ∧ T.size p ≤ B
theorem OpV.tree {B : Nat} {v : AV} (h : OpV B v) : inR aB v = true := by
 obtain ⟨nm, f, p, b, rfl, _⟩ := h
 simp only [inR]
 exact eG nm f p b
def BQ (t : T) : T := .mk t.kind (-100) t.low t.kids
theorem wW (t : T) : T.size (BQ t) = T.size t := by cases t; rfl
set_option maxHeartbeats 16000000 in
theorem P6 (L : List Int) (hL : ∀ x ∈ L, bR x) (t s : T) (ht : T.size t ≤ 16000000000) (hs : T.size s ≤ 16000000000) : EP Tryz.prog G0 6 [.agg (T.enc t), .agg (T.enc s), cD L] (OpV 16000000000) := by
 have htt := T.enc_tree t
 have hst := T.enc_tree s
 have k0 := w8 L hL 5 [] true (by simp) _ t 0 (Nat.le_refl _) (by omega)
 have hF := T.size_pat (A := fun i => atS L i 8) (H := 5) (kn := []) t 0
 generalize T.pat (fun i => atS L i 8) 5 [] 0 t = F at k0 hF
 have kn0 := mD _ F (Nat.le_refl _) (by omega)
 have kn1 := mD _ (BQ F) (Nat.le_refl _) (by rw [wW]; omega)
 have hn0 := T.nums_len F
 have hn1 := T.nums_len (BQ F)
 rw [wW] at hn1
 have k1 := fun kn (h : kn.length ≤ 1000000000000) => w8 L hL 4 kn false h _ s 1 (Nat.le_refl _) (by omega)
 have k10 := k1 (T.nums F) (by omega)
 have k11 := k1 (T.nums (BQ F)) (by omega)
 clear k1
 have hP0 := T.size_pat (A := fun i => atS L i 8) (H := 4) (kn := T.nums F) s 1
 have hP1 := T.size_pat (A := fun i => atS L i 8) (H := 4) (kn := T.nums (BQ F)) s 1
 generalize T.pat (fun i => atS L i 8) 4 (T.nums F) 1 s = P0 at k10 hP0
 generalize T.pat (fun i => atS L i 8) 4 (T.nums (BQ F)) 1 s = P1 at k11 hP1
 generalize nE (T.nums F) = N0 at kn0 k10
 generalize nE (T.nums (BQ F)) = N1 at kn1 k11
 have a7 := uZ L 7 4 hL (by decide)
 have a8 := uZ L 8 2 hL (by decide)
 have a9 := uZ L 9 3 hL (by decide)
 have a10 := uZ L 10 25 hL (by decide)
 have h9 := KM L 9 3 (by decide)
 generalize atS L 7 4 = z7 at a7
 generalize atS L 8 2 = z8 at a8
 generalize atS L 10 25 = z10 at a10
 obtain ⟨i9, hi9⟩ : ∃ i : Nat, atS L 9 3 = (i : Nat) := ⟨(atS L 9 3).toNat, by omega⟩
 rw [hi9] at a9 h9
 have hi3 : i9 < 3 := by omega
 obtain ⟨nm, hnm⟩ : ∃ nm, ([[AV.str ⟨#[109, 97, 100, 101]⟩], [AV.str ⟨#[120]⟩], [AV.str ⟨#[115, 119, 97, 112]⟩]] : List (List AV))[i9]? = some [.str nm] := by
  have : i9 = 0 ∨ i9 = 1 ∨ i9 = 2 := by omega
  rcases this with rfl | rfl | rfl <;> exact ⟨_, rfl⟩
 have hLt : inE aB (L.map fun n => [AV.int .i64 n]) = true := cG L
 simp only [cD, nE, List.map_nil] at k0 k10 k11 a7 a8 a9 a10 ⊢
 generalize (L.map fun n => [AV.int .i64 n]) = LE at k0 k10 k11 a7 a8 a9 a10 hLt
 obtain ⟨tk, tn, tm, ts⟩ := t
 obtain ⟨sk, sn, sm, ss⟩ := s
 obtain ⟨fk, fn, fm, fs⟩ := F
 obtain ⟨pk, pn, pm, ps⟩ := P0
 obtain ⟨qk, qn, qm, qs⟩ := P1
 simp only [BQ, T.kind, T.num, T.low, T.kids, T.enc] at k0 kn0 kn1 k10 k11 htt hst ⊢
 simp only [T.size] at ht hs hF hP0 hP1
 refine fJ hG0 Tryz.func6 rfl (by kernel_rfl) (by simp [Tryz.ntmps6]) (by simp only [inL, inR, Bool.and_true, Bool.true_and] at htt hst ⊢; simp only [htt, hst, hLt, Bool.and_self]) (fun _ h => h.tree) ?_
 simp only [Tryz.ntmps6, aF, Nat.reduceAdd]
 have e100 : ((-100 : Int) == -100) = true := rfl
 repeat' (first | with_reducible (first | refine v'1 fun _ _ => ?_ | refine v'W ?_ | (first | refine v'R ?_ | refine v'5 fun _ _ _ _ => ?_ | refine v'6 (fun hg => ?_) (fun hg => ?_) <;> try simp only [hg]) <;> simp only [wS, simprocAttr, hnm, hi3, e100]) | (refine aW hG0 k0 ?_; simp only [wS, simprocAttr, hnm, hi3, e100]) | (refine aW hG0 kn0 ?_; simp only [wS, simprocAttr, hnm, hi3, e100]) | (refine aW hG0 kn1 ?_; simp only [wS, simprocAttr, hnm, hi3, e100]) | (refine aW hG0 k10 ?_; simp only [wS, simprocAttr, hnm, hi3, e100]) | (refine aW hG0 k11 ?_; simp only [wS, simprocAttr, hnm, hi3, e100]) | (refine aW hG0 a7 ?_; simp only [wS, simprocAttr, hnm, hi3, e100]) | (refine aW hG0 a8 ?_; simp only [wS, simprocAttr, hnm, hi3, e100]) | (refine aW hG0 a9 ?_; simp only [wS, simprocAttr, hnm, hi3, e100]) | (refine aW hG0 a10 ?_; simp only [wS, simprocAttr, hnm, hi3, e100]) | with_reducible refine bX (by kernel_rfl) ?_ | refine aN (fun _ => ?_) (fun _ => ?_))
 all_goals (refine gW (v := ?_) rfl ?_ ?_; rotate_left; focus (simp only [wS, simprocAttr]; exact rfl))
 all_goals first
  | exact ⟨_, ⟨nm, .mk _ _ _ fs, .mk _ _ _ ss, _, qU nm (.mk _ _ _ fs) (.mk _ _ _ ss) _, by simp only [T.size]; omega, by simp only [T.size]; omega⟩, rfl⟩
  | exact ⟨_, ⟨nm, .mk _ _ _ fs, .mk _ _ _ ps, _, qU nm (.mk _ _ _ fs) (.mk _ _ _ ps) _, by simp only [T.size]; omega, by simp only [T.size]; omega⟩, rfl⟩
  | exact ⟨_, ⟨nm, .mk _ _ _ fs, .mk _ _ _ qs, _, qU nm (.mk _ _ _ fs) (.mk _ _ _ qs) _, by simp only [T.size]; omega, by simp only [T.size]; omega⟩, rfl⟩
set_option maxHeartbeats 16000000 in
theorem BN (B : Nat) (hB : B ≤ 100000000000) (nm : ByteArray) (f p : T) (b : Int) (hf : T.size f ≤ B) (hp : T.size p ≤ B) (at0 how by0 : Int) (ha : bR at0) (hh : bR how) (hb : bR by0) (w : Nat) (hw : w < 4) (kho : Pure Tryz.prog G0 32 [.int .i64 how, .int .i64 6] (.int .i64 (w : Nat))) : EP Tryz.prog G0 10 [.agg (opE nm f p b), .int .i64 at0, .int .i64 how, .int .i64 by0] (OpV (6 * B)) := by
 have ho := eG nm f p b
 obtain ⟨i5, hi5, kb5⟩ := cF by0 hb 5 (by decide)
 obtain ⟨nm', hnm⟩ : ∃ nm, ([[AV.str ⟨#[]⟩], [AV.str ⟨#[65]⟩], [AV.str ⟨#[97, 32, 98]⟩], [AV.str ⟨#[97, 98, 99, 100, 101, 102, 103, 104, 105, 106, 107, 108, 109, 110, 111, 112, 113]⟩], [AV.str ⟨#[97, 98, 99, 100, 101, 102, 103, 104, 105, 106, 107, 108, 109, 110, 111, 112]⟩]] : List (List AV))[i5]? = some [.str nm] := by
  have : i5 = 0 ∨ i5 = 1 ∨ i5 = 2 ∨ i5 = 3 ∨ i5 = 4 := by omega
  rcases this with rfl | rfl | rfl | rfl | rfl <;> exact ⟨_, rfl⟩
 obtain ⟨z5, hz5⟩ : ∃ z, ([[AV.int .i64 (-2)], [AV.int .i64 (-1)], [AV.int .i64 23], [AV.int .i64 24], [AV.int .i64 by0]] : List (List AV))[i5]? = some [.int .i64 z] := by
  have : i5 = 0 ∨ i5 = 1 ∨ i5 = 2 ∨ i5 = 3 ∨ i5 = 4 := by omega
  rcases this with rfl | rfl | rfl | rfl | rfl <;> exact ⟨_, rfl⟩
 obtain ⟨_, ⟨u, rfl, hu⟩, kf⟩ := lA B hB f hf at0 by0 how ha hb hh
 obtain ⟨_, ⟨v, rfl, hv⟩, kp⟩ := lA B hB p hp at0 by0 how ha hb hh
 obtain ⟨fk, fn, fm, fs⟩ := f
 obtain ⟨pk, pn, pm, ps⟩ := p
 obtain ⟨uk, un, um, us⟩ := u
 obtain ⟨vk, vn, vm, vs⟩ := v
 have kb : Pure Tryz.prog G0 32 [.int .i64 by0, .int .i64 5] (.int .i64 (i5 : Nat)) := kb5
 simp only [opE, T.enc, List.cons_append, List.nil_append] at ho kf kp ⊢
 refine fJ hG0 Tryz.func10 rfl (by kernel_rfl) (by simp [Tryz.ntmps10]) (by simpa only [inL, inR, Bool.and_true, Bool.true_and] using ho) (fun _ h => h.tree) ?_
 simp only [Tryz.ntmps10, aF, Nat.reduceAdd]
 have hws : w = 0 ∨ w = 1 ∨ w = 2 ∨ w = 3 := by omega
 have kw : (Pure Tryz.prog G0 32 [.int .i64 how, .int .i64 6] (.int .i64 0)) ∨ (Pure Tryz.prog G0 32 [.int .i64 how, .int .i64 6] (.int .i64 1)) ∨ (Pure Tryz.prog G0 32 [.int .i64 how, .int .i64 6] (.int .i64 2)) ∨ (Pure Tryz.prog G0 32 [.int .i64 how, .int .i64 6] (.int .i64 3)) := by
  rcases hws with rfl | rfl | rfl | rfl
  ·exact .inl kho
  ·exact .inr (.inl kho)
  ·exact .inr (.inr (.inl kho))
  ·exact .inr (.inr (.inr kho))
 clear kho hws
 rcases kw with kho | kho | kho | kho
 all_goals
  repeat' (first | with_reducible (first | refine v'1 fun _ _ => ?_ | refine v'W ?_ | (first | refine v'R ?_ | refine v'5 fun _ _ _ _ => ?_ | refine v'6 (fun hg => ?_) (fun hg => ?_) <;> try simp only [hg]) <;> simp only [wS, simprocAttr, hnm, hz5, hi5]) | (refine aW hG0 kho ?_; simp only [wS, simprocAttr, hnm, hz5, hi5]) | (refine aW hG0 kb ?_; simp only [wS, simprocAttr, hnm, hz5, hi5]) | (refine aW hG0 kf ?_; simp only [wS, simprocAttr, hnm, hz5, hi5]) | (refine aW hG0 kp ?_; simp only [wS, simprocAttr, hnm, hz5, hi5]) | with_reducible refine bX (by kernel_rfl) ?_ | refine aN (fun _ => ?_) (fun _ => ?_))
  all_goals (refine gW (v := ?_) rfl ?_ ?_; rotate_left; focus (simp only [wS, simprocAttr]; exact rfl))
  all_goals first
   | exact ⟨_, ⟨_, .mk _ _ _ fs, .mk _ _ _ ps, _, qU _ (.mk _ _ _ fs) (.mk _ _ _ ps) _, Nat.le_trans hf (by omega), Nat.le_trans hp (by omega)⟩, rfl⟩
   | exact ⟨_, ⟨_, .mk _ _ _ us, .mk _ _ _ ps, _, qU _ (.mk _ _ _ us) (.mk _ _ _ ps) _, hu, Nat.le_trans hp (by omega)⟩, rfl⟩
   | exact ⟨_, ⟨_, .mk _ _ _ fs, .mk _ _ _ vs, _, qU _ (.mk _ _ _ fs) (.mk _ _ _ vs) _, Nat.le_trans hf (by omega), hv⟩, rfl⟩
set_option maxHeartbeats 16000000 in
theorem GK (B : Nat) (hB : B ≤ 100000000000) (nm : ByteArray) (f p : T) (b : Int) (hf : T.size f ≤ B) (hp : T.size p ≤ B) (at0 how by0 : Int) (ha : bR at0) (hb : bR by0) (kho : Pure Tryz.prog G0 32 [.int .i64 how, .int .i64 6] (.int .i64 4)) : EP Tryz.prog G0 10 [.agg (opE nm f p b), .int .i64 at0, .int .i64 how, .int .i64 by0] (OpV (6 * B)) := by
 have ho := eG nm f p b
 have hz : T.size p ≤ B := by assumption
 have kp6 := rT _ p (Nat.le_refl _) (by omega)
 have hSl : (T.paths p).length = T.size p := T.paths_len p
 have hsp := T.size_pos p
 obtain ⟨ia, hia, kar⟩ := cF at0 ha (T.paths p).length (by omega)
 obtain ⟨pt, hpt⟩ : ∃ pz, (T.paths p)[ia]? = some pz := ⟨_, List.getElem?_eq_getElem hia⟩
 obtain ⟨hpl, y, hy, hys⟩ := T.paths_sub p pt (List.mem_of_getElem? hpt)
 have hcg := s9 hpt
 have hcl := iC (T.paths p)
 have hctr := gR (T.paths p)
 rw [← hcl] at kar hia
 generalize PE (T.paths p) = SEs at kp6 hcg hcl hctr kar hia
 obtain ⟨j, hj, kj⟩ := cF by0 hb 6 (by decide)
 obtain ⟨xa, xb, xc, q, E, xs, hel, hwk, hxs, hEt⟩ : ∃ (xa xb xc : Int) (q : Bool) (E : List (List AV)) (xs : List T), ([[.int .i64 28, .int .i64 7, .int .i64 0, .sl false []], [.int .i64 28, .int .i64 8, .int .i64 0, .sl false []], [.int .i64 28, .int .i64 (-1), .int .i64 0, .sl false []], [.int .i64 28, .int .i64 0, .int .i64 1, .sl true []], [.int .i64 25, .int .i64 (-100), .int .i64 0, .sl true []], [.int .i64 28, .int .i64 0, .int .i64 0, .sl false []]] : List (List AV))[j]? = some [.int .i64 xa, .int .i64 xb, .int .i64 xc, .sl q E] ∧ AM.wk (.sl q E) = .sl false (T.encs xs) ∧ T.sizes xs ≤ 1 ∧ inE aB E = true := by
  have : j = 0 ∨ j = 1 ∨ j = 2 ∨ j = 3 ∨ j = 4 ∨ j = 5 := by omega
  rcases this with rfl | rfl | rfl | rfl | rfl | rfl
  ·exact ⟨_, _, _, _, _, [], rfl, rfl, by decide, rfl⟩
  ·exact ⟨_, _, _, _, _, [], rfl, rfl, by decide, rfl⟩
  ·exact ⟨_, _, _, _, _, [], rfl, rfl, by decide, rfl⟩
  ·exact ⟨_, _, _, _, _, [], rfl, rfl, by decide, rfl⟩
  ·exact ⟨_, _, _, _, _, [], rfl, rfl, by decide, rfl⟩
  ·exact ⟨_, _, _, _, _, [], rfl, rfl, by decide, rfl⟩
 obtain ⟨u, kset, hu⟩ := y6 pt false p (.mk xa xb xc xs) y (by omega) (by omega) hy
 have hu2 : T.size u ≤ 6 * B := by simp only [T.size] at hu; omega
 have hpr : inE aB (dQ pt) = true := cG pt
 generalize dQ pt = ip at hcg kset hpr
 have hxt := T.encs_tree xs
 have h7 := jE 7
 have h8 := jE 8
 have hm := jE (-1)
 have h0 := jE 0
 have kb : Pure Tryz.prog G0 32 [.int .i64 by0, .int .i64 6] (.int .i64 (j : Nat)) := kj
 clear kj hy hys hpl hpt hu
 obtain ⟨fk, fn, fm, fs⟩ := f
 obtain ⟨pk, pn, pm, ps⟩ := p
 obtain ⟨uk, un, um, us⟩ := u
 simp only [T.enc] at kset kp6 h7 h8 hm h0
 simp only [T.encs] at h7 h8 hm h0
 simp only [opE, T.enc, List.cons_append, List.nil_append] at ho ⊢
 refine fJ hG0 Tryz.func10 rfl (by kernel_rfl) (by simp [Tryz.ntmps10]) (by simpa only [inL, inR, Bool.and_true, Bool.true_and] using ho) (fun _ h => h.tree) ?_
 simp only [Tryz.ntmps10, aF, Nat.reduceAdd]
 repeat' (first | with_reducible (first | refine v'1 fun _ _ => ?_ | refine v'W ?_ | (first | refine v'R ?_ | refine v'5 fun _ _ _ _ => ?_ | refine v'6 (fun hg => ?_) (fun hg => ?_) <;> try simp only [hg]) <;> simp only [wS, simprocAttr, hcg, hia]) | (refine aW hG0 kho ?_; simp only [wS, simprocAttr, hcg, hia]) | (refine aW hG0 kp6 ?_; simp only [wS, simprocAttr, hcg, hia]) | (refine aW hG0 h7 ?_; simp only [wS, simprocAttr, hcg, hia]) | (refine aW hG0 h8 ?_; simp only [wS, simprocAttr, hcg, hia]) | (refine aW hG0 hm ?_; simp only [wS, simprocAttr, hcg, hia]) | (refine aW hG0 h0 ?_; simp only [wS, simprocAttr, hcg, hia]) | with_reducible refine bX (by kernel_rfl) ?_ | refine aN (fun _ => ?_) (fun _ => ?_))
 refine aW hG0 kb ?_
 simp only [wS, simprocAttr, hel, hj]
 repeat' (first | with_reducible (first | refine v'1 fun _ _ => ?_ | refine v'X ?_ | (first | refine v'R ?_ | refine v'5 fun _ _ _ _ => ?_ | refine v'6 (fun hg => ?_) (fun hg => ?_) <;> try simp only [hg]) <;> simp only [wS, simprocAttr, hel, hj]))
 refine ContE.go (by assumption) (eX (cB [] (kp [0, 1, 2]) (l := [(1, .int .i64 at0), (4, .ptr 0 0 0), (8, .ptr 1 0 0), (9, .sl false SEs), (10, .ptr 2 0 0)]) (h := [.cells 0 [.str nm, .int .i64 fk, .int .i64 fn, .int .i64 fm, .sl false (T.encs fs), .int .i64 pk, .int .i64 pn, .int .i64 pm, .sl false (T.encs ps), .int .i64 b], .cells 0 [.str ⟨#[]⟩, .int .i64 0, .int .i64 0, .int .i64 0, .sl true [], .int .i64 0, .int .i64 0, .int .i64 0, .sl true [], .int .i64 0], .cells 0 [.int .i64 xa, .int .i64 xb, .int .i64 xc, .sl false (T.encs xs)]]) hG0 (fun r hr => absurd hr (Nat.not_lt_zero r)) ?_ ?_ ?_) ?_)
 ·simp only [wS, simprocAttr, dX, Frz, and_true, true_or]
 ·simp only [List.all_cons, List.all_nil, Bool.and_true, Bool.and_eq_true, inR, aC hctr]; exact ⟨trivial, rfl, rfl, trivial, rfl⟩
 ·simp only [wS, simprocAttr]
  simp only [ToH, and_true]
  exact ⟨.inr ⟨rfl, by simp only [aD]; exact bO ho, .inr ⟨.inl (by simp), .inl rfl⟩⟩, .inr ⟨rfl, rfl, .inr ⟨.inl (by simp), .inl rfl⟩⟩, .inr ⟨rfl, by simp only [aD, inL, inR, Bool.true_and, Bool.and_true]; exact aC hxt, .inr ⟨.inl (by simp), .inr ⟨0, _, _, rfl, rfl, .inl rfl, .inl rfl, .inl rfl, .inr (mG (.same (by simp only [inR]; exact hEt)) hwk), trivial⟩⟩⟩⟩
 repeat' (first | with_reducible (first | refine v'1 fun _ _ => ?_ | refine v'W ?_ | (first | refine v'R ?_ | refine v'5 fun _ _ _ _ => ?_ | refine v'6 (fun hg => ?_) (fun hg => ?_) <;> try simp only [hg]) <;> simp only [wS, simprocAttr, hcg, hia]) | (refine aW hG0 kar ?_; simp only [wS, simprocAttr, hcg, hia]) | (refine aW hG0 kset ?_; simp only [wS, simprocAttr, hcg, hia]) | with_reducible refine bX (by kernel_rfl) ?_ | refine aN (fun _ => ?_) (fun _ => ?_))
 all_goals (refine gW (v := ?_) rfl ?_ ?_; rotate_left; focus (simp only [wS, simprocAttr]; exact rfl))
 exact ⟨_, ⟨_, .mk _ _ _ fs, .mk _ _ _ us, _, qU _ (.mk _ _ _ fs) (.mk _ _ _ us) _, Nat.le_trans hf (by omega), hu2⟩, rfl⟩
set_option maxHeartbeats 16000000 in
theorem GJ (B : Nat) (hB : B ≤ 100000000000) (nm : ByteArray) (f p : T) (b : Int) (hf : T.size f ≤ B) (hp : T.size p ≤ B) (at0 how by0 : Int) (ha : bR at0) (hb : bR by0) (kho : Pure Tryz.prog G0 32 [.int .i64 how, .int .i64 6] (.int .i64 5)) : EP Tryz.prog G0 10 [.agg (opE nm f p b), .int .i64 at0, .int .i64 how, .int .i64 by0] (OpV (6 * B)) := by
 have ho := eG nm f p b
 have hz : T.size f ≤ B := by assumption
 have kp6 := rT _ f (Nat.le_refl _) (by omega)
 have hSl : (T.paths f).length = T.size f := T.paths_len f
 have hsp := T.size_pos f
 obtain ⟨ia, hia, kar⟩ := cF at0 ha (T.paths f).length (by omega)
 obtain ⟨pt, hpt⟩ : ∃ pz, (T.paths f)[ia]? = some pz := ⟨_, List.getElem?_eq_getElem hia⟩
 obtain ⟨hpl, y, hy, hys⟩ := T.paths_sub f pt (List.mem_of_getElem? hpt)
 have hcg := s9 hpt
 have hcl := iC (T.paths f)
 have hctr := gR (T.paths f)
 rw [← hcl] at kar hia
 generalize PE (T.paths f) = SEs at kp6 hcg hcl hctr kar hia
 obtain ⟨j, hj, kj⟩ := cF by0 hb 6 (by decide)
 obtain ⟨xa, xb, xc, q, E, xs, hel, hwk, hxs, hEt⟩ : ∃ (xa xb xc : Int) (q : Bool) (E : List (List AV)) (xs : List T), ([[.int .i64 28, .int .i64 7, .int .i64 0, .sl false []], [.int .i64 28, .int .i64 8, .int .i64 0, .sl false []], [.int .i64 28, .int .i64 (-1), .int .i64 0, .sl false []], [.int .i64 28, .int .i64 0, .int .i64 0, .sl true [[.int .i64 0, .int .i64 0, .int .i64 0, .sl true []]]], [.int .i64 25, .int .i64 (-100), .int .i64 0, .sl true []], [.int .i64 28, .int .i64 0, .int .i64 0, .sl false []]] : List (List AV))[j]? = some [.int .i64 xa, .int .i64 xb, .int .i64 xc, .sl q E] ∧ AM.wk (.sl q E) = .sl false (T.encs xs) ∧ T.sizes xs ≤ 1 ∧ inE aB E = true := by
  have : j = 0 ∨ j = 1 ∨ j = 2 ∨ j = 3 ∨ j = 4 ∨ j = 5 := by omega
  rcases this with rfl | rfl | rfl | rfl | rfl | rfl
  ·exact ⟨_, _, _, _, _, [], rfl, rfl, by decide, rfl⟩
  ·exact ⟨_, _, _, _, _, [], rfl, rfl, by decide, rfl⟩
  ·exact ⟨_, _, _, _, _, [], rfl, rfl, by decide, rfl⟩
  ·exact ⟨_, _, _, _, _, [.mk 0 0 0 []], rfl, rfl, by decide, rfl⟩
  ·exact ⟨_, _, _, _, _, [], rfl, rfl, by decide, rfl⟩
  ·exact ⟨_, _, _, _, _, [], rfl, rfl, by decide, rfl⟩
 obtain ⟨u, kset, hu⟩ := y6 pt false f (.mk xa xb xc xs) y (by omega) (by omega) hy
 have hu2 : T.size u ≤ 6 * B := by simp only [T.size] at hu; omega
 have hpr : inE aB (dQ pt) = true := cG pt
 generalize dQ pt = ip at hcg kset hpr
 have hxt := T.encs_tree xs
 have h7 := jE 7
 have h8 := jE 8
 have hm := jE (-1)
 have h0 := jE 0
 have kb : Pure Tryz.prog G0 32 [.int .i64 by0, .int .i64 6] (.int .i64 (j : Nat)) := kj
 clear kj hy hys hpl hpt hu
 obtain ⟨fk, fn, fm, fs⟩ := f
 obtain ⟨pk, pn, pm, ps⟩ := p
 obtain ⟨uk, un, um, us⟩ := u
 simp only [T.enc] at kset kp6 h7 h8 hm h0
 simp only [T.encs] at h7 h8 hm h0
 simp only [opE, T.enc, List.cons_append, List.nil_append] at ho ⊢
 refine fJ hG0 Tryz.func10 rfl (by kernel_rfl) (by simp [Tryz.ntmps10]) (by simpa only [inL, inR, Bool.and_true, Bool.true_and] using ho) (fun _ h => h.tree) ?_
 simp only [Tryz.ntmps10, aF, Nat.reduceAdd]
 repeat' (first | with_reducible (first | refine v'1 fun _ _ => ?_ | refine v'W ?_ | (first | refine v'R ?_ | refine v'5 fun _ _ _ _ => ?_ | refine v'6 (fun hg => ?_) (fun hg => ?_) <;> try simp only [hg]) <;> simp only [wS, simprocAttr, hcg, hia]) | (refine aW hG0 kho ?_; simp only [wS, simprocAttr, hcg, hia]) | (refine aW hG0 kp6 ?_; simp only [wS, simprocAttr, hcg, hia]) | (refine aW hG0 h7 ?_; simp only [wS, simprocAttr, hcg, hia]) | (refine aW hG0 h8 ?_; simp only [wS, simprocAttr, hcg, hia]) | (refine aW hG0 hm ?_; simp only [wS, simprocAttr, hcg, hia]) | (refine aW hG0 h0 ?_; simp only [wS, simprocAttr, hcg, hia]) | with_reducible refine bX (by kernel_rfl) ?_ | refine aN (fun _ => ?_) (fun _ => ?_))
 refine aW hG0 kb ?_
 simp only [wS, simprocAttr, hel, hj]
 repeat' (first | with_reducible (first | refine v'1 fun _ _ => ?_ | refine v'X ?_ | (first | refine v'R ?_ | refine v'5 fun _ _ _ _ => ?_ | refine v'6 (fun hg => ?_) (fun hg => ?_) <;> try simp only [hg]) <;> simp only [wS, simprocAttr, hel, hj]))
 refine ContE.go (by assumption) (eX (cB [] (kp [0, 1, 2]) (l := [(1, .int .i64 at0), (4, .ptr 0 0 0), (8, .ptr 1 0 0), (11, .sl false SEs), (12, .ptr 2 0 0)]) (h := [.cells 0 [.str nm, .int .i64 fk, .int .i64 fn, .int .i64 fm, .sl false (T.encs fs), .int .i64 pk, .int .i64 pn, .int .i64 pm, .sl false (T.encs ps), .int .i64 b], .cells 0 [.str ⟨#[]⟩, .int .i64 0, .int .i64 0, .int .i64 0, .sl true [], .int .i64 0, .int .i64 0, .int .i64 0, .sl true [], .int .i64 0], .cells 0 [.int .i64 xa, .int .i64 xb, .int .i64 xc, .sl false (T.encs xs)]]) hG0 (fun r hr => absurd hr (Nat.not_lt_zero r)) ?_ ?_ ?_) ?_)
 ·simp only [wS, simprocAttr, dX, Frz, and_true, true_or]
 ·simp only [List.all_cons, List.all_nil, Bool.and_true, Bool.and_eq_true, inR, aC hctr]; exact ⟨trivial, rfl, rfl, trivial, rfl⟩
 ·simp only [wS, simprocAttr]
  simp only [ToH, and_true]
  exact ⟨.inr ⟨rfl, by simp only [aD]; exact bO ho, .inr ⟨.inl (by simp), .inl rfl⟩⟩, .inr ⟨rfl, rfl, .inr ⟨.inl (by simp), .inl rfl⟩⟩, .inr ⟨rfl, by simp only [aD, inL, inR, Bool.true_and, Bool.and_true]; exact aC hxt, .inr ⟨.inl (by simp), .inr ⟨0, _, _, rfl, rfl, .inl rfl, .inl rfl, .inl rfl, .inr (mG (.same (by simp only [inR]; exact hEt)) hwk), trivial⟩⟩⟩⟩
 repeat' (first | with_reducible (first | refine v'1 fun _ _ => ?_ | refine v'W ?_ | (first | refine v'R ?_ | refine v'5 fun _ _ _ _ => ?_ | refine v'6 (fun hg => ?_) (fun hg => ?_) <;> try simp only [hg]) <;> simp only [wS, simprocAttr, hcg, hia]) | (refine aW hG0 kar ?_; simp only [wS, simprocAttr, hcg, hia]) | (refine aW hG0 kset ?_; simp only [wS, simprocAttr, hcg, hia]) | with_reducible refine bX (by kernel_rfl) ?_ | refine aN (fun _ => ?_) (fun _ => ?_))
 all_goals (refine gW (v := ?_) rfl ?_ ?_; rotate_left; focus (simp only [wS, simprocAttr]; exact rfl))
 exact ⟨_, ⟨_, .mk _ _ _ us, .mk _ _ _ ps, _, qU _ (.mk _ _ _ us) (.mk _ _ _ ps) _, hu2, Nat.le_trans hp (by omega)⟩, rfl⟩
theorem GI (B : Nat) (hB : B ≤ 100000000000) (nm : ByteArray) (f p : T) (b : Int) (hf : T.size f ≤ B) (hp : T.size p ≤ B) (at0 how by0 : Int) (ha : bR at0) (hh : bR how) (hb : bR by0) : EP Tryz.prog G0 10 [.agg (opE nm f p b), .int .i64 at0, .int .i64 how, .int .i64 by0] (OpV (6 * B)) := by
 obtain ⟨w, hw, kho⟩ := cF how hh 6 (by decide)
 by_cases h4 : w < 4
 ·exact BN B hB nm f p b hf hp at0 how by0 ha hh hb w h4 kho
 ·have : w = 4 ∨ w = 5 := by omega
  rcases this with rfl | rfl
  ·exact GK B hB nm f p b hf hp at0 how by0 ha hb kho
  ·exact GJ B hB nm f p b hf hp at0 how by0 ha hb kho
end Go.Proofs.YtblfpppnkdokdaaGreatDoor
