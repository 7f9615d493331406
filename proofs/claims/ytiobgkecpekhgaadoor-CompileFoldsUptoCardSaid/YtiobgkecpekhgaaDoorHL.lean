import Derived.Test.YtiobgkecpekhgaaDoorFE
import Derived.Test.YtiobgkecpekhgaaDoorHF
import Derived.Test.YtiobgkecpekhgaaDoorHP
import Derived.Test.YtiobgkecpekhgaaDoorHT
import Derived.Test.YtiobgkecpekhgaaDoorV2
import Derived.Test.YtiobgkecpekhgaaDoorR
import Derived.Test.YtiobgkecpekhgaaDoorV7
set_option linter.unusedVariables false
set_option linter.unusedSimpArgs false
namespace Go.Proofs.YtiobgkecpekhgaaDoor
open Go.AM
attribute [local irreducible] AWp rgnS callR callV effR valR guardR stepR nextR
set_option maxRecDepth 100000
def TL (l : List (List AV)) : Prop := ∀ e ∈ l, ∃ c : T, e = T.enc c ∧ T.size c ≤ 100000000000
theorem TL.tree {l : List (List AV)} (h : TL l) : inE noRef l = true := by
  induction l with
  | nil => rfl
  | cons a l ih =>
    obtain ⟨c, hc, _⟩ := h a (by simp)
    rw [hc]
    simp only [inE, T.enc_tree, ih fun e he => h e (by simp [he]), Bool.and_self]
set_option maxHeartbeats 8000000 in
theorem law_3 (l m : List Int) (at0 how by0 : Int) (raw : T) (hl : ∀ x ∈ l, Small64 x) (hm : ∀ x ∈ m, Small64 x) (ha : Small64 at0) (hh : Small64 how) (hb : Small64 by0) (hraw : T.size raw ≤ 1048576) : Pure Tryd.prog G0 3 [encI l, encI m, .int .i64 at0, .int .i64 how, .int .i64 by0, .agg (T.enc raw)] (.bool true) := by
  obtain ⟨cp, hpr, hcp⟩ := tree_of (by decide) (prog_ok l hl)
  obtain ⟨cq, hsa, hcq⟩ := tree_of (by decide) (sample_ok m hm)
  obtain ⟨ct, htr, hct⟩ := tree_of (by decide) (tree_5 m hm)
  obtain ⟨_, ⟨cu, rfl, hcu⟩, ku⟩ := spoilt_ref cp hcp at0 how by0 ha hh hb
  obtain ⟨_, ⟨cv, rfl, hcv⟩, kv⟩ := spoilt_ref cq hcq by0 how at0 hb hh ha
  have hlives := lives_ok
  have hp6 := paths_6 _ cp (Nat.le_refl _) (by omega)
  have hSl : (T.paths cp).length = T.size cp := T.paths_len cp
  have hsp := T.size_pos cp
  have hsub := fun (k : Nat) (p : List Int) (h : (T.paths cp)[k]? = some p) => T.paths_sub cp p (List.mem_of_getElem? h)
  have hcg := fun (k : Nat) (p : List Int) => pe_get (i := k) (p := p) (l := T.paths cp)
  have hcl := pe_len (T.paths cp)
  have hctr := pe_tree (T.paths cp)
  generalize T.paths cp = SS at hp6 hSl hsub hcg hcl hctr
  generalize hSE : PE SS = SEs at hp6 hcg hcl hctr
  obtain ⟨ia, hia, kar⟩ := around_nat at0 ha SS.length (by omega)
  obtain ⟨p, hp⟩ : ∃ p, SS[ia]? = some p := ⟨_, List.getElem?_eq_getElem hia⟩
  obtain ⟨hpl, x, hx, hxs⟩ := hsub ia p hp
  have kat : Pure Tryd.prog G0 6 [.agg (T.enc cp), .sl false (ints p)] (.tup [.agg (T.enc x), .bool true]) := at_7 p false cp x (by omega) hx
  have hga := hcg ia p hp
  have hia' : ia < SEs.length := by omega
  rw [← hcl] at kar
  generalize ints p = ip at hga kat
  clear hsub hcg hSE hx hp
  have ksz := size_ref _ raw (Nat.le_refl _) (by omega)
  have hrt := T.enc_tree raw
  have hTL : TL [T.enc cp, T.enc x, T.enc cq, T.enc ct, T.enc cu, T.enc cv] := by
    intro e he
    simp only [List.mem_cons, List.not_mem_nil, or_false] at he
    rcases he with rfl | rfl | rfl | rfl | rfl | rfl
    · exact ⟨cp, rfl, by omega⟩
    · exact ⟨x, rfl, by omega⟩
    · exact ⟨cq, rfl, by omega⟩
    · exact ⟨ct, rfl, by omega⟩
    · exact ⟨cu, rfl, hcu⟩
    · exact ⟨cv, rfl, hcv⟩
  have hTL7 : TL ([T.enc cp, T.enc x, T.enc cq, T.enc ct, T.enc cu, T.enc cv] ++ [T.enc raw]) := by
    intro e he
    rcases List.mem_append.1 he with he | he
    · exact hTL e he
    · rw [List.mem_singleton.1 he]; exact ⟨raw, rfl, by omega⟩
  obtain ⟨p1, p2, p3, p4, hpe⟩ := enc_ex cp
  obtain ⟨q1, q2, q3, q4, hqe⟩ := enc_ex x
  obtain ⟨s1, s2, s3, s4, hse⟩ := enc_ex cq
  obtain ⟨t1, t2, t3, t4, hte⟩ := enc_ex ct
  obtain ⟨u1, u2, u3, u4, hue⟩ := enc_ex cu
  obtain ⟨v1, v2, v3, v4, hve⟩ := enc_ex cv
  obtain ⟨r1, r2, r3, r4, hre⟩ := enc_ex raw
  rw [hpe, hqe, hse, hte, hue, hve] at hTL hTL7
  rw [hre] at hTL7 ksz hrt
  rw [hpe] at hpr hp6 kat ku
  rw [hqe] at kat
  rw [hse] at hsa kv
  rw [hte] at htr
  rw [hue] at ku
  rw [hve] at kv
  rw [hre]
  refine pure_of_body hG0 Tryd.func3 rfl (by kernel_rfl) (by simp [Tryd.ntmps3]) (by simp only [inL, inR, tree_encI, Bool.true_and, Bool.and_true] at hrt ⊢; exact hrt) (by simp [inR]) ?_
  simp only [Tryd.ntmps3, enterF, Nat.reduceAdd]
  obtain ⟨el, hel⟩ : ∃ es, encI l = .sl false es := ⟨_, rfl⟩
  obtain ⟨em, hem⟩ : ∃ es, encI m = .sl false es := ⟨_, rfl⟩
  rw [hel, hem]
  rw [hel] at hpr
  rw [hem] at hsa htr
  repeat' (first | with_reducible (first | refine u'1 fun _ _ => ?_ | refine u'2 ?_ | (first | refine u'3 ?_ | refine u'4 ?_ | refine u'5 fun _ _ _ _ => ?_ | refine u'6 (fun hg => ?_) (fun hg => ?_) <;> try simp only [hg]) <;> simp only [wS, simprocAttr, hga, hia'] | (first | refine u's ?_ | refine u'e ?_ | refine u'r ?_) <;> try simp only [wE, simprocAttr] | refine u'8 ?_ | refine u'9 ?_) | (refine callR_tree hG0 (hpr) ?_; simp only [wS, simprocAttr, hga, hia']) | (refine callR_tree hG0 (hp6) ?_; simp only [wS, simprocAttr, hga, hia']) | (refine callR_tree hG0 (kar) ?_; simp only [wS, simprocAttr, hga, hia']) | (refine callR_tree hG0 (kat) ?_; simp only [wS, simprocAttr, hga, hia']) | (refine callR_tree hG0 (hsa) ?_; simp only [wS, simprocAttr, hga, hia']) | (refine callR_tree hG0 (htr) ?_; simp only [wS, simprocAttr, hga, hia']) | (refine callR_tree hG0 (ku) ?_; simp only [wS, simprocAttr, hga, hia']) | (refine callR_tree hG0 (kv) ?_; simp only [wS, simprocAttr, hga, hia']) | (refine callR_tree hG0 (ksz) ?_; simp only [wS, simprocAttr, hga, hia']) | with_reducible refine And.intro (fun _ => ?_) (fun _ => ?_) | with_reducible refine And.intro (by kernel_rfl) ?_)
  · refine eff_new (es := [[.int .i64 p1, .int .i64 p2, .int .i64 p3, .sl false p4], [.int .i64 q1, .int .i64 q2, .int .i64 q3, .sl false q4], [.int .i64 s1, .int .i64 s2, .int .i64 s3, .sl false s4], [.int .i64 t1, .int .i64 t2, .int .i64 t3, .sl false t4], [.int .i64 u1, .int .i64 u2, .int .i64 u3, .sl false u4], [.int .i64 v1, .int .i64 v2, .int .i64 v3, .sl false v4]]) (sz := 4) (by' := 48) (mm := 1) (new := [.int .i64 r1, .int .i64 r2, .int .i64 r3, .sl false r4]) (by kernel_rfl) (by (simp only [wS, simprocAttr]; try exact rfl)) rfl (by simp [srcA]) (by decide) (by simp) ?_
    simp only [wS, simprocAttr]
    repeat' (first | with_reducible (first | refine u'1 fun _ _ => ?_ | refine u'2 ?_ | (first | refine u'3 ?_ | refine u'4 ?_ | refine u'5 fun _ _ _ _ => ?_ | refine u'6 (fun hg => ?_) (fun hg => ?_) <;> try simp only [hg]) <;> simp only [wS, simprocAttr] | (first | refine u's ?_ | refine u'e ?_ | refine u'r ?_) <;> try simp only [wE, simprocAttr] | refine u'9 ?_))
    refine Cont.go (by assumption) (awp_ref (ref_to [3] (kp []) (l := [(17, .sl false ([[.int .i64 p1, .int .i64 p2, .int .i64 p3, .sl false p4], [.int .i64 q1, .int .i64 q2, .int .i64 q3, .sl false q4], [.int .i64 s1, .int .i64 s2, .int .i64 s3, .sl false s4], [.int .i64 t1, .int .i64 t2, .int .i64 t3, .sl false t4], [.int .i64 u1, .int .i64 u2, .int .i64 u3, .sl false u4], [.int .i64 v1, .int .i64 v2, .int .i64 v3, .sl false v4]] ++ [[.int .i64 r1, .int .i64 r2, .int .i64 r3, .sl false r4]]))]) (h := []) hG0 (fun r hr => absurd hr (Nat.not_lt_zero r)) ?_ ?_ ?_) ?_)
    · simp only [wS, simprocAttr, FrzF, Frz, and_true, true_or]
      exact .osl (cs := [.int .i64 p1, .int .i64 p2, .int .i64 p3, .sl false p4, .int .i64 q1, .int .i64 q2, .int .i64 q3, .sl false q4, .int .i64 s1, .int .i64 s2, .int .i64 s3, .sl false s4, .int .i64 t1, .int .i64 t2, .int .i64 t3, .sl false t4, .int .i64 u1, .int .i64 u2, .int .i64 u3, .sl false u4, .int .i64 v1, .int .i64 v2, .int .i64 v3, .sl false v4, .int .i64 r1, .int .i64 r2, .int .i64 r3, .sl false r4]) (by simp) rfl rfl (by simp) rfl hTL7.tree
    · simp only [List.all_cons, List.all_nil, Bool.and_true, inR]; exact inE_no hTL7.tree
    · simp only [wS, simprocAttr]; simp only [ToH, and_true]; exact ⟨rfl, rfl, rfl, rfl⟩
    obtain ⟨LS, hLS⟩ : ∃ x : List (List AV), x = [[.int .i64 p1, .int .i64 p2, .int .i64 p3, .sl false p4], [.int .i64 q1, .int .i64 q2, .int .i64 q3, .sl false q4], [.int .i64 s1, .int .i64 s2, .int .i64 s3, .sl false s4], [.int .i64 t1, .int .i64 t2, .int .i64 t3, .sl false t4], [.int .i64 u1, .int .i64 u2, .int .i64 u3, .sl false u4], [.int .i64 v1, .int .i64 v2, .int .i64 v3, .sl false v4]] ++ [[.int .i64 r1, .int .i64 r2, .int .i64 r3, .sl false r4]] := ⟨_, rfl⟩
    rw [← hLS] at hTL7
    have hLl : LS.length ≤ 7 := by rw [hLS]; exact Nat.le_refl _
    repeat' (first | with_reducible (first | refine u'1 fun _ _ => ?_ | refine u'2 ?_ | (first | refine u'3 ?_ | refine u'4 ?_ | refine u'5 fun _ _ _ _ => ?_ | refine u'6 (fun hg => ?_) (fun hg => ?_) <;> try simp only [hg]) <;> simp only [wS, simprocAttr] | (first | refine u's ?_ | refine u'e ?_ | refine u'r ?_) <;> try simp only [wE, simprocAttr] | refine u'8 ?_ | refine u'9 ?_))
    refine awp_loop_r (α := {i : Nat // i ≤ LS.length}) (fun i => [(17, .sl false LS), (18, .int .i64 (i.1 : Nat))]) (fun i => []) (fun i => LS.length - i.1) ⟨0, Nat.zero_le _⟩ (Weak.ref ⟨?_, .inl ?_⟩) ?_
    · simp only [wS, simprocAttr, hLS]; try exact rfl
    · simp only [wS, simprocAttr]; try exact rfl
    · replace hTL := hTL7
      clear hLS
      rintro ⟨i, hi⟩ K1 hK1
      repeat' (first | with_reducible (first | refine u'1 fun _ _ => ?_ | refine u'2 ?_ | (first | refine u'3 ?_ | refine u'4 ?_ | refine u'5 fun _ _ _ _ => ?_ | refine u'6 (fun hg => ?_) (fun hg => ?_) <;> try simp only [hg]) <;> simp only [wS, simprocAttr] | (first | refine u's ?_ | refine u'e ?_ | refine u'r ?_) <;> try simp only [wE, simprocAttr] | refine u'8 ?_ | refine u'9 ?_))
      refine ⟨fun h => ?_, fun h => ?_⟩
      · have hlt : i < LS.length := by simpa using h
        have e1 := wrap_succ (k := i) hlt (by omega)
        obtain ⟨_, hx⟩ : ∃ e, LS[i]? = some e := ⟨_, List.getElem?_eq_getElem hlt⟩
        obtain ⟨c, rfl, hc⟩ := hTL _ (List.mem_of_getElem? hx)
        have kf := fold_8 c hc
        have kg := ref_Fold c hc
        have ks := same_ref (T.fold oC oV c).1 (by have := T.size_fold oC oV c; omega)
        generalize (T.fold oC oV c).1 = d at kf kg ks
        obtain ⟨c1, c2, c3, c4, hce⟩ := enc_ex c
        obtain ⟨d1, d2, d3, d4, hde⟩ := enc_ex d
        rw [hce] at hx kf kg
        rw [hde] at kf kg ks
        repeat' (first | with_reducible (first | refine u'1 fun _ _ => ?_ | refine u'2 ?_ | (first | refine u'3 ?_ | refine u'4 ?_ | refine u'5 fun _ _ _ _ => ?_ | refine u'6 (fun hg => ?_) (fun hg => ?_) <;> try simp only [hg]) <;> simp only [wS, simprocAttr, hx, hlt, e1, Bool.not_true] | (first | refine u's ?_ | refine u'e ?_ | refine u'r ?_) <;> try simp only [wE, simprocAttr] | refine u'8 ?_ | refine u'9 ?_) | (refine callR_tree hG0 (kf) ?_; simp only [wS, simprocAttr, hx, hlt, e1, Bool.not_true]) | (refine callR_tree hG0 (kg) ?_; simp only [wS, simprocAttr, hx, hlt, e1, Bool.not_true]) | (refine callR_tree hG0 (ks) ?_; simp only [wS, simprocAttr, hx, hlt, e1, Bool.not_true]) | with_reducible refine And.intro (fun _ => ?_) (fun _ => ?_) | with_reducible refine And.intro (by kernel_rfl) ?_)
        refine hK1.go ⟨i + 1, hlt⟩ (Weak.ref ⟨?_, .inr ⟨Nat.zero_le _, ?_, fun g cs hg => inL_no (hG0 g cs hg), ?_, ?_⟩⟩) (by simp only; omega)
        · simp only [wS, simprocAttr]; try exact rfl
        · simp only [wS, simprocAttr]; try exact rfl
        · intro z hz
          simp only [List.mem_cons, List.not_mem_nil, or_false] at hz
          rcases hz with rfl | rfl <;> first | rfl | exact inE_no hTL.tree
        · rfl
      · repeat' (first | with_reducible (first | refine u'1 fun _ _ => ?_ | refine u'2 ?_ | (first | refine u'3 ?_ | refine u'4 ?_ | refine u'5 fun _ _ _ _ => ?_ | refine u'6 (fun hg => ?_) (fun hg => ?_) <;> try simp only [hg]) <;> simp only [wS, simprocAttr] | (first | refine u's ?_ | refine u'e ?_ | refine u'r ?_) <;> try simp only [wE, simprocAttr] | refine u'8 ?_ | refine u'9 ?_))
        refine callR_tree hG0 hlives ?_
        simp only [wS, simprocAttr]
        repeat' (first | with_reducible (first | refine u'1 fun _ _ => ?_ | refine u'2 ?_ | (first | refine u'3 ?_ | refine u'4 ?_ | refine u'5 fun _ _ _ _ => ?_ | refine u'6 (fun hg => ?_) (fun hg => ?_) <;> try simp only [hg]) <;> simp only [wS, simprocAttr] | (first | refine u's ?_ | refine u'e ?_ | refine u'r ?_) <;> try simp only [wE, simprocAttr] | refine u'8 ?_ | refine u'9 ?_))
        refine body_ret1 rfl ?_
        simp only [wS, simprocAttr]
  · obtain ⟨LS, hLS⟩ : ∃ x : List (List AV), x = [[.int .i64 p1, .int .i64 p2, .int .i64 p3, .sl false p4], [.int .i64 q1, .int .i64 q2, .int .i64 q3, .sl false q4], [.int .i64 s1, .int .i64 s2, .int .i64 s3, .sl false s4], [.int .i64 t1, .int .i64 t2, .int .i64 t3, .sl false t4], [.int .i64 u1, .int .i64 u2, .int .i64 u3, .sl false u4], [.int .i64 v1, .int .i64 v2, .int .i64 v3, .sl false v4]] := ⟨_, rfl⟩
    have hTt := hTL.tree
    rw [← hLS] at hTL
    have hLl : LS.length ≤ 7 := by rw [hLS]; simp
    refine awp_loop_r (α := {i : Nat // i ≤ LS.length}) (fun i => [(17, .sl false LS), (18, .int .i64 (i.1 : Nat))]) (fun i => []) (fun i => LS.length - i.1) ⟨0, Nat.zero_le _⟩ (ref_to [] (kp []) hG0 (fun r hr => absurd hr (Nat.not_lt_zero r)) ?_ ?_ ?_) ?_
    · simp only [wS, simprocAttr, hLS, FrzF, Frz, and_true, true_or, Int.natCast_zero]
      exact .inr (.full hTt)
    · simp only [List.all_cons, List.all_nil, Bool.and_true, inR]; exact inE_no hTL.tree
    · simp only [wS, simprocAttr]; simp only [ToH, and_true]; try exact ⟨rfl, rfl, rfl⟩
    · clear hTL7 hLS
      rintro ⟨i, hi⟩ K1 hK1
      repeat' (first | with_reducible (first | refine u'1 fun _ _ => ?_ | refine u'2 ?_ | (first | refine u'3 ?_ | refine u'4 ?_ | refine u'5 fun _ _ _ _ => ?_ | refine u'6 (fun hg => ?_) (fun hg => ?_) <;> try simp only [hg]) <;> simp only [wS, simprocAttr] | (first | refine u's ?_ | refine u'e ?_ | refine u'r ?_) <;> try simp only [wE, simprocAttr] | refine u'8 ?_ | refine u'9 ?_))
      refine ⟨fun h => ?_, fun h => ?_⟩
      · have hlt : i < LS.length := by simpa using h
        have e1 := wrap_succ (k := i) hlt (by omega)
        obtain ⟨_, hx⟩ : ∃ e, LS[i]? = some e := ⟨_, List.getElem?_eq_getElem hlt⟩
        obtain ⟨c, rfl, hc⟩ := hTL _ (List.mem_of_getElem? hx)
        have kf := fold_8 c hc
        have kg := ref_Fold c hc
        have ks := same_ref (T.fold oC oV c).1 (by have := T.size_fold oC oV c; omega)
        generalize (T.fold oC oV c).1 = d at kf kg ks
        obtain ⟨c1, c2, c3, c4, hce⟩ := enc_ex c
        obtain ⟨d1, d2, d3, d4, hde⟩ := enc_ex d
        rw [hce] at hx kf kg
        rw [hde] at kf kg ks
        repeat' (first | with_reducible (first | refine u'1 fun _ _ => ?_ | refine u'2 ?_ | (first | refine u'3 ?_ | refine u'4 ?_ | refine u'5 fun _ _ _ _ => ?_ | refine u'6 (fun hg => ?_) (fun hg => ?_) <;> try simp only [hg]) <;> simp only [wS, simprocAttr, hx, hlt, e1, Bool.not_true] | (first | refine u's ?_ | refine u'e ?_ | refine u'r ?_) <;> try simp only [wE, simprocAttr] | refine u'8 ?_ | refine u'9 ?_) | (refine callR_tree hG0 (kf) ?_; simp only [wS, simprocAttr, hx, hlt, e1, Bool.not_true]) | (refine callR_tree hG0 (kg) ?_; simp only [wS, simprocAttr, hx, hlt, e1, Bool.not_true]) | (refine callR_tree hG0 (ks) ?_; simp only [wS, simprocAttr, hx, hlt, e1, Bool.not_true]) | with_reducible refine And.intro (fun _ => ?_) (fun _ => ?_) | with_reducible refine And.intro (by kernel_rfl) ?_)
        refine hK1.go ⟨i + 1, hlt⟩ (Weak.ref ⟨?_, .inr ⟨Nat.zero_le _, ?_, fun g cs hg => inL_no (hG0 g cs hg), ?_, ?_⟩⟩) (by simp only; omega)
        · simp only [wS, simprocAttr]; try exact rfl
        · simp only [wS, simprocAttr]; try exact rfl
        · intro z hz
          simp only [List.mem_cons, List.not_mem_nil, or_false] at hz
          rcases hz with rfl | rfl <;> first | rfl | exact inE_no hTL.tree
        · rfl
      · repeat' (first | with_reducible (first | refine u'1 fun _ _ => ?_ | refine u'2 ?_ | (first | refine u'3 ?_ | refine u'4 ?_ | refine u'5 fun _ _ _ _ => ?_ | refine u'6 (fun hg => ?_) (fun hg => ?_) <;> try simp only [hg]) <;> simp only [wS, simprocAttr] | (first | refine u's ?_ | refine u'e ?_ | refine u'r ?_) <;> try simp only [wE, simprocAttr] | refine u'8 ?_ | refine u'9 ?_))
        refine callR_tree hG0 hlives ?_
        simp only [wS, simprocAttr]
        repeat' (first | with_reducible (first | refine u'1 fun _ _ => ?_ | refine u'2 ?_ | (first | refine u'3 ?_ | refine u'4 ?_ | refine u'5 fun _ _ _ _ => ?_ | refine u'6 (fun hg => ?_) (fun hg => ?_) <;> try simp only [hg]) <;> simp only [wS, simprocAttr] | (first | refine u's ?_ | refine u'e ?_ | refine u'r ?_) <;> try simp only [wE, simprocAttr] | refine u'8 ?_ | refine u'9 ?_))
        refine body_ret1 rfl ?_
        simp only [wS, simprocAttr]
end Go.Proofs.YtiobgkecpekhgaaDoor
