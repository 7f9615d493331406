import Derived.Test.YtblfpppnkdokdaaGreatDoorV2
import Derived.Test.YtblfpppnkdokdaaGreatDoorV7
import Derived.Test.YtblfpppnkdokdaaGreatDoorVJ
import Derived.Test.YtblfpppnkdokdaaGreatDoorVM
set_option linter.unusedVariables false
set_option linter.unusedSimpArgs false
namespace Go.Proofs.YtblfpppnkdokdaaGreatDoor
open Go.AM
attribute [local irreducible] AWp rgnS callR callV effR valR guardR stepR nextR
set_option maxRecDepth 100000
set_option maxHeartbeats 16000000 in
theorem law_v (hlv : Pure Tryz.prog G0 14 [] (.bool true)) (l m k : List Int) (hl : ∀ x ∈ l, Small64 x) (hm : ∀ x ∈ m, Small64 x) (hk : ∀ x ∈ k, Small64 x) (at0 how by0 : Int) (ha : Small64 at0) (hh : Small64 how) (hb : Small64 by0) (nm : ByteArray) (f p : T) (b : Int) (hf : T.size f ≤ 1000000000000) (hp : T.size p ≤ 1000000000000) : Pure Tryz.prog G0 3 [encI l, encI m, encI k, .int .i64 at0, .int .i64 how, .int .i64 by0, .agg (opE nm f p b)] (.bool true) := by
  obtain ⟨c, kc, hc⟩ := tree_of (Nat.le_refl _) (prog_ok l hl)
  obtain ⟨d, kd, hd⟩ := tree_of (Nat.le_refl _) (sample_ok m hm)
  obtain ⟨t, kt, hts⟩ := pick_c c (by omega) at0 ha
  obtain ⟨s, ks, hss⟩ := pick_c d (by omega) by0 hb
  obtain ⟨_, ⟨on, of', op, ob, rfl, ho1, ho2⟩, ko⟩ := made_c k hk t s (by omega) (by omega)
  obtain ⟨_, ⟨xn, xf, xp, xb, rfl, hx1, hx2⟩, kx⟩ := spoiltO_c 16000000000 (by decide) on of' op ob ho1 ho2 at0 how by0 ha hh hb
  obtain ⟨_, ⟨yn, yf, yp, yb, rfl, hy1, hy2⟩, ky⟩ := spoiltO_c (6 * 16000000000) (by decide) xn xf xp xb hx1 hx2 by0 at0 how hb ha hh
  have v1 := valid_c on of' op ob (by omega) (by omega)
  have v2 := valid_c xn xf xp xb (by omega) (by omega)
  have v3 := valid_c yn yf yp yb (by omega) (by omega)
  have v4 := valid_c nm f p b hf hp
  have r1 := valid_ref on of' op ob (by omega) (by omega)
  have r2 := valid_ref xn xf xp xb (by omega) (by omega)
  have r3 := valid_ref yn yf yp yb (by omega) (by omega)
  have r4 := valid_ref nm f p b hf hp
  have z1 := size_ref _ f (Nat.le_refl _) hf
  have z2 := size_ref _ p (Nat.le_refl _) hp
  have o1 := opE_tree nm f p b
  have o2 := T.enc_tree t
  generalize validS on of' op ob = V1 at v1 r1
  generalize validS xn xf xp xb = V2 at v2 r2
  generalize validS yn yf yp yb = V3 at v3 r3
  generalize validS nm f p b = V4 at v4 r4
  have hl1 : inR noRef (encI l) = true := tree_encI l
  have hm1 : inR noRef (encI m) = true := tree_encI m
  have hk1 : inR noRef (encI k) = true := tree_encI k
  simp only [encI] at kc kd ko hl1 hm1 hk1 ⊢
  generalize (l.map fun n => [AV.int .i64 n]) = LE at kc hl1
  generalize (m.map fun n => [AV.int .i64 n]) = ME at kd hm1
  generalize (k.map fun n => [AV.int .i64 n]) = KE at ko hk1
  obtain ⟨ca, cb, cc, ce, hce⟩ := enc_ex c
  obtain ⟨da, db, dc, de, hde⟩ := enc_ex d
  obtain ⟨ta, tb, tc, te, hte⟩ := enc_ex t
  obtain ⟨sa, sb, sc, se, hse⟩ := enc_ex s
  rw [hce] at kc kt
  rw [hde] at kd ks
  rw [hte] at kt ko
  rw [hse] at ks ko
  clear hts hss hc hd ho1 ho2 hx1 hx2 hy1 hy2 hf hp
  obtain ⟨fk, fn, fm, fs⟩ := f
  obtain ⟨pk, pn, pm, ps⟩ := p
  obtain ⟨gk, gn, gm, gs⟩ := of'
  obtain ⟨qk, qn, qm, qs⟩ := op
  obtain ⟨xk, xl, xm, xs⟩ := xf
  obtain ⟨wk', wn, wm, ws⟩ := xp
  obtain ⟨yk, yl, ym, ys⟩ := yf
  obtain ⟨uk, un, um, us⟩ := yp
  refine pure_of_body hG0 Tryz.func3 rfl (by kernel_rfl) (by simp [Tryz.ntmps3]) (by simp only [inL, Bool.and_true, Bool.and_eq_true]; exact ⟨hl1, hm1, hk1, rfl, rfl, rfl, by simp only [inR]; exact o1⟩) rfl ?_
  simp only [Tryz.ntmps3, enterF, Nat.reduceAdd]
  simp only [opE, T.enc, List.cons_append, List.nil_append] at ko kx ky v1 v2 v3 v4 r1 r2 r3 r4 z1 z2 ⊢
  have b1 : (V1 == V1) = true := by simp
  have b2 : (V2 == V2) = true := by simp
  have b3 : (V3 == V3) = true := by simp
  have b4 : (V4 == V4) = true := by simp
  repeat' (first | with_reducible (first | refine u'1 fun _ _ => ?_ | refine u'2 ?_ | (first | refine u'3 ?_ | refine u'4 ?_ | refine u'5 fun _ _ _ _ => ?_ | refine u'6 (fun hg => ?_) (fun hg => ?_) <;> try simp only [hg]) <;> simp only [wS, simprocAttr, b1, b2, b3, b4, Bool.not_true, Bool.not_false] | (first | refine u's ?_ | refine u'e ?_ | refine u'r ?_) <;> try simp only [wE, simprocAttr] | refine u'8 ?_ | refine u'9 ?_) | (refine callR_tree hG0 (kc) ?_; simp only [wS, simprocAttr, b1, b2, b3, b4, Bool.not_true, Bool.not_false]) | (refine callR_tree hG0 (kd) ?_; simp only [wS, simprocAttr, b1, b2, b3, b4, Bool.not_true, Bool.not_false]) | (refine callR_tree hG0 (kt) ?_; simp only [wS, simprocAttr, b1, b2, b3, b4, Bool.not_true, Bool.not_false]) | (refine callR_tree hG0 (ks) ?_; simp only [wS, simprocAttr, b1, b2, b3, b4, Bool.not_true, Bool.not_false]) | (refine callR_tree hG0 (ko) ?_; simp only [wS, simprocAttr, b1, b2, b3, b4, Bool.not_true, Bool.not_false]) | (refine callR_tree hG0 (kx) ?_; simp only [wS, simprocAttr, b1, b2, b3, b4, Bool.not_true, Bool.not_false]) | (refine callR_tree hG0 (ky) ?_; simp only [wS, simprocAttr, b1, b2, b3, b4, Bool.not_true, Bool.not_false]) | (refine callR_tree hG0 (v1) ?_; simp only [wS, simprocAttr, b1, b2, b3, b4, Bool.not_true, Bool.not_false]) | (refine callR_tree hG0 (r1) ?_; simp only [wS, simprocAttr, b1, b2, b3, b4, Bool.not_true, Bool.not_false]) | (refine callR_tree hG0 (v2) ?_; simp only [wS, simprocAttr, b1, b2, b3, b4, Bool.not_true, Bool.not_false]) | (refine callR_tree hG0 (r2) ?_; simp only [wS, simprocAttr, b1, b2, b3, b4, Bool.not_true, Bool.not_false]) | (refine callR_tree hG0 (v3) ?_; simp only [wS, simprocAttr, b1, b2, b3, b4, Bool.not_true, Bool.not_false]) | (refine callR_tree hG0 (r3) ?_; simp only [wS, simprocAttr, b1, b2, b3, b4, Bool.not_true, Bool.not_false]) | (refine callR_tree hG0 (v4) ?_; simp only [wS, simprocAttr, b1, b2, b3, b4, Bool.not_true, Bool.not_false]) | (refine callR_tree hG0 (r4) ?_; simp only [wS, simprocAttr, b1, b2, b3, b4, Bool.not_true, Bool.not_false]) | (refine callR_tree hG0 (z1) ?_; simp only [wS, simprocAttr, b1, b2, b3, b4, Bool.not_true, Bool.not_false]) | (refine callR_tree hG0 (z2) ?_; simp only [wS, simprocAttr, b1, b2, b3, b4, Bool.not_true, Bool.not_false]) | (refine callR_tree hG0 (hlv) ?_; simp only [wS, simprocAttr, b1, b2, b3, b4, Bool.not_true, Bool.not_false]) | with_reducible refine And.intro (fun _ => ?_) (fun _ => ?_) | with_reducible refine And.intro (by kernel_rfl) ?_)
  all_goals (refine body_ret1 rfl ?_; simp only [wS, simprocAttr])
end Go.Proofs.YtblfpppnkdokdaaGreatDoor
