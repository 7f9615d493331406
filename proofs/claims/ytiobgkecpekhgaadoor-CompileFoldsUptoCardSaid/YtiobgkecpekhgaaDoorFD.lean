import Derived.Test.YtiobgkecpekhgaaDoorAE
import Derived.Test.YtiobgkecpekhgaaDoorF3
import Derived.Test.YtiobgkecpekhgaaDoorN1
set_option linter.unusedVariables false
set_option linter.unusedSimpArgs false
namespace Go.Proofs.YtiobgkecpekhgaaDoor
open Go.AM
attribute [local irreducible] AWp rgnS callR callV effR valR guardR stepR nextR
set_option maxRecDepth 100000
theorem cut_take : ∀ (l : List Mk) (i : Nat), (idxF Mk.ends l i = -1 ∧ Mk.cut l = l) ∨ ∃ j : Nat, idxF Mk.ends l i = ((i + j : Nat) : Int) ∧ j < l.length ∧ Mk.cut l = l.take (j + 1)
  | [], i => .inl ⟨rfl, rfl⟩
  | e :: l, i => by
    rw [idxF, Mk.cut]
    by_cases h : Mk.ends e = true
    · rw [if_pos h, if_pos h]
      exact .inr ⟨0, rfl, by simp, by simp⟩
    · rw [if_neg h, if_neg h]
      rcases cut_take l (i + 1) with ⟨h1, h2⟩ | ⟨j, h1, h2, h3⟩
      · exact .inl ⟨h1, by rw [h2]⟩
      · exact .inr ⟨j + 1, by rw [h1]; congr 1; omega, by simp only [List.length_cons]; omega, by rw [h3]; simp⟩
theorem parts_take {ks : List Mk} {i : Nat} {e : Mk} (h : ks[i]? = some e) : (ks.take (i + 1)).flatMap Mk.part = (ks.take i).flatMap Mk.part ++ Mk.part e := by
  rw [List.take_add_one, h, List.flatMap_append]; simp
theorem parts_len : ∀ ks : List Mk, (ks.flatMap Mk.part).length ≤ Mk.sizes ks
  | [] => by simp
  | e :: ks => by
    have h1 := parts_len ks
    have h2 : (Mk.part e).length ≤ Mk.size e := by
      cases e with
      | mk k n m i g es =>
      have := Mk.len_sizes es
      unfold Mk.part
      simp only [Mk.kind, Mk.kids, Mk.gone, Mk.size]
      by_cases h1 : k = 13 <;> by_cases h2 : g = true <;> simp [h1, h2] <;> omega
    simp only [List.flatMap_cons, List.length_append, Mk.sizes]; omega
theorem sizes_take_m : ∀ (ks : List Mk) (i : Nat), Mk.sizes (ks.take i) ≤ Mk.sizes ks
  | [], i => by simp
  | e :: ks, 0 => by simp [Mk.sizes]
  | e :: ks, i + 1 => by
    have := sizes_take_m ks i
    simp only [List.take_succ_cons, Mk.sizes]; omega
theorem enc6 (e : Mk) : (Mk.enc e).length = 6 := by cases e; rfl
theorem encs_app (a b : List Mk) : Mk.encs (a ++ b) = Mk.encs a ++ Mk.encs b := by rw [Mk.encs_map, Mk.encs_map, Mk.encs_map, List.map_append]
theorem encs_sz (l : List Mk) : ∀ e ∈ Mk.encs l, e.length = 6 := fun e he => by
  rw [Mk.encs_map] at he
  obtain ⟨y, _, rfl⟩ := List.mem_map.1 he
  exact enc6 y
theorem encs_all (l : List Mk) : (Mk.encs l).all (fun e => decide (e.length = 6)) = true := List.all_eq_true.2 fun e he => by simpa using encs_sz l e he
theorem wk_sl (l : List Mk) (b : Bool) : AM.wk (.sl b (Mk.encs l)) = .sl false (Mk.encs l) := by simp only [AM.wk, wkE_eq, Mk.wk_encs]
theorem encs_take (l : List Mk) (i : Nat) : (Mk.encs l).take i = Mk.encs (l.take i) := by rw [Mk.encs_map, Mk.encs_map, List.map_take]
set_option maxHeartbeats 4000000 in
theorem flat_36 (b : Bool) (ks : List Mk) (hl : Mk.sizes ks ≤ 100000000000) : Pure Tryd.prog G0 44 [.sl b (Mk.encs ks)] (.sl false (Mk.encs (Mk.flat ks))) := by
  have hgt := fun (i : Nat) (e : Mk) => Mk.encs_get (es := ks) (i := i) (e := e)
  have hln := Mk.encs_len ks
  have hte := Mk.encs_tree ks
  have hls := Mk.len_sizes ks
  generalize Mk.encs ks = ME at hgt hln hte
  refine pure_of_bodyW hG0 Tryd.func44 rfl (by kernel_rfl) (by simp [Tryd.ntmps44]) (by simp only [inL, inR, hte, Bool.and_self]) (by simp only [inR]; exact Mk.encs_tree _) ?_
  simp only [Tryd.ntmps44, enterF, Nat.reduceAdd]
  repeat' (first | with_reducible (first | refine u'1 fun _ _ => ?_ | refine u'2 ?_ | (first | refine u'3 ?_ | refine u'4 ?_ | refine u'5 fun _ _ _ _ => ?_ | refine u'6 (fun hg => ?_) (fun hg => ?_) <;> try simp only [hg]) <;> simp only [wS, simprocAttr] | (first | refine u's ?_ | refine u'e ?_ | refine u'r ?_) <;> try simp only [wE, simprocAttr] | refine u'8 ?_ | refine u'9 ?_))
  refine awp_loop_r (α := {p : Nat × Nat // p.1 ≤ ks.length}) (fun p => [(3, rv 0 p.1.2 6 (Mk.encs ((ks.take p.1.1).flatMap Mk.part))), (7, .sl b ME), (8, .int .i64 (ks.length : Nat)), (9, .int .i64 (p.1.1 : Nat))]) (fun p => [rvR p.1.2 (Mk.encs ((ks.take p.1.1).flatMap Mk.part))]) (fun p => ks.length - p.1.1) ⟨(0, 0), Nat.zero_le _⟩ (ref_to [] (kp [0]) hG0 (by simp) ?_ ?_ ?_) ?_
  · simp only [wS, simprocAttr, hln, FrzF, Frz, List.take_zero, List.flatMap_nil, Mk.encs, rv_nil]
    exact .toRsv
  · simp only [List.all_cons, List.all_nil, Bool.and_true, Bool.and_eq_true, List.take_zero, List.flatMap_nil, Mk.encs, rv_nil, inR]
    exact ⟨trivial, inE_no hte⟩
  · simp only [wS, simprocAttr, List.take_zero, List.flatMap_nil, Mk.encs, rvR_nil]; simp only [ToH, and_self]
  · rintro ⟨⟨i, v⟩, hi⟩ K3 hK3
    simp only at hi
    have hpl := parts_len (ks.take i)
    have hst := sizes_take_m ks i
    obtain ⟨app, happ⟩ : ∃ x, x = (ks.take i).flatMap Mk.part := ⟨_, rfl⟩
    rw [← happ] at hpl ⊢
    repeat' (first | with_reducible (first | refine u'1 fun _ _ => ?_ | refine u'2 ?_ | (first | refine u'3 ?_ | refine u'4 ?_ | refine u'5 fun _ _ _ _ => ?_ | refine u'6 (fun hg => ?_) (fun hg => ?_) <;> try simp only [hg]) <;> simp only [wS, simprocAttr] | (first | refine u's ?_ | refine u'e ?_ | refine u'r ?_) <;> try simp only [wE, simprocAttr] | refine u'8 ?_ | refine u'9 ?_))
    refine ⟨fun h => ?_, fun h => ?_⟩
    · have hlt : i < ks.length := by simpa using h
      have hltE : i < ME.length := by omega
      obtain ⟨e, he⟩ : ∃ e, ks[i]? = some e := ⟨_, List.getElem?_eq_getElem hlt⟩
      have hg := hgt i e he
      have e3 := wrap_succ (k := i) hlt (by omega)
      have hpt := parts_take he
      rw [← happ] at hpt
      have hsz := Mk.size_mem (List.mem_of_getElem? he)
      have hme := Mk.enc_tree e
      obtain ⟨k, n, m, i0, g, es⟩ := e
      have hle := Mk.len_sizes es
      simp only [Mk.size] at hsz
      simp only [Mk.enc] at hg hme
      have hal := encs_sz app
      have hel := Mk.encs_len app
      have hep := Mk.encs_len es
      repeat' (first | with_reducible (first | refine u'1 fun _ _ => ?_ | refine u'2 ?_ | (first | refine u'3 ?_ | refine u'4 ?_ | refine u'5 fun _ _ _ _ => ?_ | refine u'6 (fun hg => ?_) (fun hg => ?_) <;> try simp only [hg]) <;> simp only [wS, simprocAttr, hg, hltE, hlt] | (first | refine u's ?_ | refine u'e ?_ | refine u'r ?_) <;> try simp only [wE, simprocAttr] | refine u'8 ?_ | refine u'9 ?_))
      refine ⟨fun h2 => ?_, fun h2 => ?_⟩
      · have hk : k = 13 := by simpa using h2
        have hpe : Mk.part (.mk k n m i0 g es) = es := by rw [Mk.part]; simp [Mk.kind, Mk.kids, hk]
        rw [hpe] at hpt
        repeat' (first | with_reducible (first | refine u'1 fun _ _ => ?_ | refine u'2 ?_ | (first | refine u'3 ?_ | refine u'4 ?_ | refine u'5 fun _ _ _ _ => ?_ | refine u'6 (fun hg => ?_) (fun hg => ?_) <;> try simp only [hg]) <;> simp only [wS, simprocAttr] | (first | refine u's ?_ | refine u'e ?_ | refine u'r ?_) <;> try simp only [wE, simprocAttr] | refine u'8 ?_ | refine u'9 ?_))
        refine eff_rvN (by' := 64) (es := Mk.encs es) (by kernel_rfl) (by simp only [wS, simprocAttr]) (by simp only [wS, simprocAttr]) (by simp only [wS, simprocAttr]; try simp) hal (src_sl (encs_all es)) (by rw [hel, hep]; omega) ?_
        rw [← encs_app]
        simp only [wS, simprocAttr]
        repeat' (first | with_reducible (first | refine u'1 fun _ _ => ?_ | refine u'2 ?_ | (first | refine u'3 ?_ | refine u'4 ?_ | refine u'5 fun _ _ _ _ => ?_ | refine u'6 (fun hg => ?_) (fun hg => ?_) <;> try simp only [hg]) <;> simp only [wS, simprocAttr, e3] | (first | refine u's ?_ | refine u'e ?_ | refine u'r ?_) <;> try simp only [wE, simprocAttr] | refine u'8 ?_ | refine u'9 ?_))
        refine hK3.go ⟨(i + 1, rvN v (Mk.encs app)), hlt⟩ (Weak.ref ⟨?_, .inr ⟨Nat.zero_le _, ?_, fun g cs hg => inL_no (hG0 g cs hg), ?_, ?_⟩⟩) (by simp only; omega)
        · simp only [wS, simprocAttr, hpt]; try exact rfl
        · simp only [wS, simprocAttr, hpt]; try exact rfl
        · simp only [List.mem_cons, List.not_mem_nil, or_false, forall_eq_or_imp, forall_eq, inR]
          exact ⟨inR_rv rfl, inE_no hte, trivial, trivial⟩
        · simp only [List.all_cons, List.all_nil, Bool.and_true]; exact rowIn_rv (inE_no (Mk.encs_tree _))
      · have hk : ¬ k = 13 := by simpa using h2
        repeat' (first | with_reducible (first | refine u'1 fun _ _ => ?_ | refine u'2 ?_ | (first | refine u'3 ?_ | refine u'4 ?_ | refine u'5 fun _ _ _ _ => ?_ | refine u'6 (fun hg => ?_) (fun hg => ?_) <;> try simp only [hg]) <;> simp only [wS, simprocAttr] | (first | refine u's ?_ | refine u'e ?_ | refine u'r ?_) <;> try simp only [wE, simprocAttr] | refine u'8 ?_ | refine u'9 ?_))
        refine ⟨fun h3 => ?_, fun h3 => ?_⟩
        · have hg0 : g = false := by simpa using h3
          have hpe : Mk.part (.mk k n m i0 g es) = [.mk k n m i0 g es] := by rw [Mk.part]; simp [Mk.kind, Mk.kids, Mk.gone, hk, hg0]
          rw [hpe] at hpt
          repeat' (first | with_reducible (first | refine u'1 fun _ _ => ?_ | refine u'2 ?_ | (first | refine u'3 ?_ | refine u'4 ?_ | refine u'5 fun _ _ _ _ => ?_ | refine u'6 (fun hg => ?_) (fun hg => ?_) <;> try simp only [hg]) <;> simp only [wS, simprocAttr] | (first | refine u's ?_ | refine u'e ?_ | refine u'r ?_) <;> try simp only [wE, simprocAttr] | refine u'8 ?_ | refine u'9 ?_))
          refine eff_rvN (by' := 64) (es := Mk.encs [.mk k n m i0 g es]) (by kernel_rfl) (by simp only [wS, simprocAttr]) (by simp only [wS, simprocAttr]) (by simp only [wS, simprocAttr]; try simp) hal (by simp [srcA, Mk.encs, Mk.enc]) (by rw [hel, Mk.encs_len]; simp only [List.length_cons, List.length_nil]; omega) ?_
          rw [← encs_app]
          simp only [wS, simprocAttr]
          repeat' (first | with_reducible (first | refine u'1 fun _ _ => ?_ | refine u'2 ?_ | (first | refine u'3 ?_ | refine u'4 ?_ | refine u'5 fun _ _ _ _ => ?_ | refine u'6 (fun hg => ?_) (fun hg => ?_) <;> try simp only [hg]) <;> simp only [wS, simprocAttr, e3] | (first | refine u's ?_ | refine u'e ?_ | refine u'r ?_) <;> try simp only [wE, simprocAttr] | refine u'8 ?_ | refine u'9 ?_))
          refine hK3.go ⟨(i + 1, rvN v (Mk.encs app)), hlt⟩ (Weak.ref ⟨?_, .inr ⟨Nat.zero_le _, ?_, fun g cs hg => inL_no (hG0 g cs hg), ?_, ?_⟩⟩) (by simp only; omega)
          · simp only [wS, simprocAttr, hpt]; try exact rfl
          · simp only [wS, simprocAttr, hpt]; try exact rfl
          · simp only [List.mem_cons, List.not_mem_nil, or_false, forall_eq_or_imp, forall_eq, inR]
            exact ⟨inR_rv rfl, inE_no hte, trivial, trivial⟩
          · simp only [List.all_cons, List.all_nil, Bool.and_true]; exact rowIn_rv (inE_no (Mk.encs_tree _))
        · have hg0 : g = true := by simpa using h3
          have hpe : Mk.part (.mk k n m i0 g es) = [] := by rw [Mk.part]; simp [Mk.kind, Mk.kids, Mk.gone, hk, hg0]
          rw [hpe, List.append_nil] at hpt
          repeat' (first | with_reducible (first | refine u'1 fun _ _ => ?_ | refine u'2 ?_ | (first | refine u'3 ?_ | refine u'4 ?_ | refine u'5 fun _ _ _ _ => ?_ | refine u'6 (fun hg => ?_) (fun hg => ?_) <;> try simp only [hg]) <;> simp only [wS, simprocAttr, e3] | (first | refine u's ?_ | refine u'e ?_ | refine u'r ?_) <;> try simp only [wE, simprocAttr] | refine u'8 ?_ | refine u'9 ?_))
          refine hK3.go ⟨(i + 1, v), hlt⟩ (Weak.ref ⟨?_, .inr ⟨Nat.zero_le _, ?_, fun g cs hg => inL_no (hG0 g cs hg), ?_, ?_⟩⟩) (by simp only; omega)
          · simp only [wS, simprocAttr, hpt]; try exact rfl
          · simp only [wS, simprocAttr, hpt]; try exact rfl
          · simp only [List.mem_cons, List.not_mem_nil, or_false, forall_eq_or_imp, forall_eq, inR]
            exact ⟨inR_rv rfl, inE_no hte, trivial, trivial⟩
          · simp only [List.all_cons, List.all_nil, Bool.and_true]; exact rowIn_rv (inE_no (Mk.encs_tree _))
    · have hge : i = ks.length := by simp at h; omega
      have hta : ks.take i = ks := by rw [hge, List.take_length]
      rw [hta] at happ
      have hfl : Mk.flat ks = Mk.cut app := by rw [Mk.flat, happ]
      rw [hta] at hpl
      have hix := index_48 59 [] Mk.ends rfl ends_49 false app (by omega)
      repeat' (first | with_reducible (first | refine u'1 fun _ _ => ?_ | refine u'2 ?_ | (first | refine u'3 ?_ | refine u'4 ?_ | refine u'5 fun _ _ _ _ => ?_ | refine u'6 (fun hg => ?_) (fun hg => ?_) <;> try simp only [hg]) <;> simp only [wS, simprocAttr] | (first | refine u's ?_ | refine u'e ?_ | refine u'r ?_) <;> try simp only [wE, simprocAttr] | refine u'9 ?_))
      refine Cont.go (by assumption) (awp_ref (ref_to [0] (kp []) (l := [(3, .sl false (Mk.encs app))]) (h := []) hG0 (fun r hr => absurd hr (Nat.not_lt_zero r)) ?_ ?_ ?_) ?_)
      · simp only [wS, simprocAttr, FrzF]
        exact .inr (lend_rv (v := v) rfl (by simp) (encs_sz app) (Mk.encs_tree app))
      · simp only [List.all_cons, List.all_nil, Bool.and_true, inR]; exact inE_no (Mk.encs_tree app)
      · simp only [wS, simprocAttr]; simp only [ToH, and_true]; rfl
      have hel := Mk.encs_len app
      have htk := encs_take app
      rcases cut_take app 0 with ⟨h1, h2⟩ | ⟨j, h1, h2, h3⟩
      · rw [h1] at hix
        repeat' (first | with_reducible (first | refine u'1 fun _ _ => ?_ | refine u'2 ?_ | (first | refine u'3 ?_ | refine u'4 ?_ | refine u'5 fun _ _ _ _ => ?_ | refine u'6 (fun hg => ?_) (fun hg => ?_) <;> try simp only [hg]) <;> simp only [wS, simprocAttr] | (first | refine u's ?_ | refine u'e ?_ | refine u'r ?_) <;> try simp only [wE, simprocAttr] | refine u'8 ?_ | refine u'9 ?_))
        refine callR_tree hG0 hix ?_
        simp only [wS, simprocAttr]
        repeat' (first | with_reducible (first | refine u'1 fun _ _ => ?_ | refine u'2 ?_ | (first | refine u'3 ?_ | refine u'4 ?_ | refine u'5 fun _ _ _ _ => ?_ | refine u'6 (fun hg => ?_) (fun hg => ?_) <;> try simp only [hg]) <;> simp only [wS, simprocAttr] | (first | refine u's ?_ | refine u'e ?_ | refine u'r ?_) <;> try simp only [wE, simprocAttr] | refine u'8 ?_ | refine u'9 ?_))
        refine body_ret1 rfl ?_
        simp only [wS, simprocAttr]
        rw [wk_sl, hfl, h2]
      · rw [h1, Nat.zero_add] at hix
        have e3 := wrap_succ (k := j) h2 (by omega)
        have hjl : j + 1 ≤ (Mk.encs app).length := by omega
        have hall := encs_all app
        have hj0 : decide (((j : Nat) : Int) ≥ 0) = true := by simp
        repeat' (first | with_reducible (first | refine u'1 fun _ _ => ?_ | refine u'2 ?_ | (first | refine u'3 ?_ | refine u'4 ?_ | refine u'5 fun _ _ _ _ => ?_ | refine u'6 (fun hg => ?_) (fun hg => ?_) <;> try simp only [hg]) <;> simp only [wS, simprocAttr] | (first | refine u's ?_ | refine u'e ?_ | refine u'r ?_) <;> try simp only [wE, simprocAttr] | refine u'8 ?_ | refine u'9 ?_))
        refine callR_tree hG0 hix ?_
        simp only [wS, simprocAttr, hj0]
        repeat' (first | with_reducible (first | refine u'1 fun _ _ => ?_ | refine u'2 ?_ | (first | refine u'3 ?_ | refine u'4 ?_ | refine u'5 fun _ _ _ _ => ?_ | refine u'6 (fun hg => ?_) (fun hg => ?_) <;> try simp only [hg]) <;> simp only [wS, simprocAttr, e3, hj0, hjl, htk, List.drop_zero, hall, if_true] | (first | refine u's ?_ | refine u'e ?_ | refine u'r ?_) <;> try simp only [wE, simprocAttr] | refine u'8 ?_ | refine u'9 ?_))
        refine body_ret1 rfl ?_
        simp only [wS, simprocAttr]
        rw [wk_sl, hfl, h3]
end Go.Proofs.YtiobgkecpekhgaaDoor
