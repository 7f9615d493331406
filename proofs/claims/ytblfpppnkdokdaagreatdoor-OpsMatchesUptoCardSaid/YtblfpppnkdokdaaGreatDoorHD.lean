import Derived.Test.YtblfpppnkdokdaaGreatDoorHS
import Derived.Test.YtblfpppnkdokdaaGreatDoorT0
set_option linter.unusedVariables false
set_option linter.unusedSimpArgs false
namespace Go.Proofs.YtblfpppnkdokdaaGreatDoor
open Go.AM
attribute [local irreducible] AWp aP aT bC bH bN aI aL bG
set_option maxRecDepth 100000
theorem T.sizes_set : ∀ {es : List T} {j : Nat} {e u : T}, es[j]? = some e → T.sizes (es.set j u) + T.size e = T.sizes es + T.size u
 | [], j, e, u, h => by simp at h
 | x :: es, 0, e, u, h => by
  obtain rfl : x = e := by simpa using h
  simp only [List.set_cons_zero, T.sizes]; omega
 | x :: es, j + 1, e, u, h => by
  have := T.sizes_set (es := es) (j := j) (e := e) (u := u) (by simpa using h)
  simp only [List.set_cons_succ, T.sizes]; omega
set_option maxHeartbeats 8000000 in
theorem y6 : ∀ (p : List Int) (b : Bool) (t x t' : T), p.length ≤ 1000000000000 → T.size t ≤ 1000000000000 → T.sub t p = some t' → ∃ u : T, Pure Tryz.prog G0 38 [.agg (T.enc t), .sl b (dQ p), .agg (T.enc x)] (.tup [.agg (T.enc u), .int .i64 0]) ∧ T.size u ≤ T.size t + T.size x := by
 intro p
 induction p with
 | nil =>
  intro b t x t' _ hsz _
  refine ⟨x, ?_, by omega⟩
  have htr := T.enc_tree t
  have hxt := T.enc_tree x
  obtain ⟨ta, tb, tc, td, hee⟩ := aK t
  obtain ⟨xa, xb, xc, xd, hxx⟩ := aK x
  rw [hee] at htr
  rw [hxx] at hxt
  rw [hee, hxx]
  refine aM hG0 Tryz.func38 rfl (by kernel_rfl) (by simp [Tryz.ntmps38]) (by simp only [inL, inR, Bool.and_true, Bool.true_and] at htr hxt ⊢; simp [htr, hxt, dQ, inE]) (by simp only [inL, inR, Bool.and_true, Bool.true_and] at hxt ⊢; exact hxt) ?_
  simp only [Tryz.ntmps38, aF, Nat.reduceAdd, dQ, List.map_nil]
  repeat' (first | with_reducible (first | refine u'1 fun _ _ => ?_ | refine u'W ?_ | (first | refine u'R ?_ | refine u'5 fun _ _ _ _ => ?_ | refine u'6 (fun hg => ?_) (fun hg => ?_) <;> try simp only [hg]) <;> simp only [wS, simprocAttr]))
  exact c8 (v := .agg [.int .i64 xa, .int .i64 xb, .int .i64 xc, .sl false xd]) rfl (by simp only [wS, simprocAttr]; try exact rfl) (by simp only [wS, simprocAttr]; try exact rfl)
 | cons z p ih =>
  intro b t x t' hl hsz h
  cases t with
  | mk k n m es =>
  simp only [T.sub] at h
  split at h
  ·rename_i hz
   split at h
   ·rename_i e he
    obtain ⟨j, rfl⟩ : ∃ j : Nat, z = j := ⟨z.toNat, (Int.toNat_of_nonneg hz).symm⟩
    simp only [Int.toNat_natCast, T.kids] at he
    have hls := T.len_sizes es
    have hse := T.size_mem (List.mem_of_getElem? he)
    simp only [T.size] at hsz
    simp only [List.length_cons] at hl
    obtain ⟨u, hu, hus⟩ := ih b e x t' (by omega) (by omega) h
    have dB := T.sizes_set (u := u) he
    obtain ⟨os, hos⟩ : ∃ l, l = es.set j u := ⟨_, rfl⟩
    rw [← hos] at dB
    refine ⟨.mk k n m os, ?_, by simp only [T.size]; omega⟩
    have htr := T.enc_tree (.mk k n m es)
    have hto := T.enc_tree (.mk k n m os)
    have hxt := T.enc_tree x
    have hut := T.enc_tree u
    have hip : inE aB (dQ ((j : Int) :: p)) = true := cG _
    have hol : os.length = es.length := by rw [hos, List.length_set]
    have hlt : j < es.length := (List.getElem?_eq_some_iff.1 he).1
    have hg := T.encs_get he
    have hgt := fun (i : Nat) (e : T) => T.encs_get (es := es) (i := i) (e := e)
    have hln := T.encs_len es
    have hte := T.encs_tree es
    obtain ⟨ea, eb, ec, ed, hee⟩ := aK e
    obtain ⟨ua, ub, uc, ud, huu⟩ := aK u
    obtain ⟨xa, xb, xc, xd, hxx⟩ := aK x
    have huE := huu
    rw [hee] at hg hu
    rw [huu] at hu hut
    rw [hxx] at hu hxt ⊢
    refine bK hG0 Tryz.func38 rfl (by kernel_rfl) (by simp [Tryz.ntmps38]) (by simp only [inL, inR, htr, hip, Bool.and_true, Bool.true_and] at hxt ⊢; exact hxt) (by simp only [inR, inL, hto, Bool.and_self]) ?_
    simp only [Tryz.ntmps38, aF, Nat.reduceAdd, T.enc, dQ, List.map_cons] at hip ⊢
    simp only [dQ] at hu
    have hltE : j < (T.encs es).length := by omega
    have e1 : (((p.length + 1 : Nat) : Int) == 0) = false := by simp; omega
    have e2 : decide (((j : Nat) : Int) < 0) = false := by simp
    have e3 : decide (((j : Nat) : Int) ≥ ((T.encs es).length : Int)) = false := by simp; omega
    generalize T.encs es = ME at hg hgt hln hte hltE e3
    have hsl : (p.map fun x => [AV.int .i64 x]).all (fun e => decide (e.length = 1)) = true := by simp
    have htk0 : (p.map fun x => [AV.int .i64 x]).take p.length = p.map fun x => [AV.int .i64 x] := List.take_of_length_le (by simp)
    have hle : (p.length ≤ p.length) = True := by simp
    have hpl : (p.map fun x => [AV.int .i64 x]).length = p.length := by simp
    have hip2 : inE aB (p.map fun x => [AV.int .i64 x]) = true := cG _
    generalize (p.map fun x => [AV.int .i64 x]) = IP at hu hip hsl htk0 hpl hip2
    rw [← hpl] at e1 htk0 hle
    have h00 : ((0 : Int) != 0) = false := rfl
    simp only [inL, inR, Bool.true_and, Bool.and_true] at hxt hut
    repeat' (first | with_reducible (first | refine u'1 fun _ _ => ?_ | refine u'W ?_ | (first | refine u'R ?_ | refine u'5 fun _ _ _ _ => ?_ | refine u'6 (fun hg => ?_) (fun hg => ?_) <;> try simp only [hg]) <;> simp only [wS, simprocAttr, e1, e2, e3, hg, hltE, List.length_cons, hle, if_true, hsl, htk0, Nat.add_sub_cancel, List.drop_succ_cons, List.drop_zero, decide_true, Bool.true_and, beq_self_eq_true, Bool.and_true]))
    refine aA hG0 hu ?_
    simp only [wS, simprocAttr]
    try refine ⟨by kernel_rfl, ?_⟩
    clear e1 e2 e3 hg hltE hle hsl htk0
    repeat' (first | with_reducible (first | refine u'1 fun _ _ => ?_ | refine u'W ?_ | (first | refine u'R ?_ | refine u'5 fun _ _ _ _ => ?_ | refine u'6 (fun hg => ?_) (fun hg => ?_) <;> try simp only [hg]) <;> simp only [wS, simprocAttr, h00]))
    refine aQ (α := {i : Nat // i ≤ es.length}) (fun i => [(1, .sl b ([.int .i64 (j : Nat)] :: IP)), (3, .ptr 0 0 0), (6, .ptr 2 0 0), (7, .int .i64 0), (8, .ptr 3 0 0), (10, .ptr 4 0 0), (11, .int .i64 (i.1 : Nat))]) (fun i => [.cells 0 [.int .i64 k, .int .i64 n, .int .i64 m, .sl false ME], .cells 0 [.int .i64 xa, .int .i64 xb, .int .i64 xc, .sl false xd], .cells 0 [.int .i64 0, .int .i64 0, .int .i64 0, .sl true []], .cells 0 [.int .i64 ua, .int .i64 ub, .int .i64 uc, .sl false ud], .cells 0 [.int .i64 k, .int .i64 n, .int .i64 m, rv 5 (i.1 - 1) 4 (T.encs (os.take i.1))], rvR (i.1 - 1) (T.encs (os.take i.1))]) (fun i => es.length - i.1) ⟨0, Nat.zero_le _⟩ (cB [] (kp [0, 1, 2, 3, 4, 5]) hG0 (fun r hr => absurd hr (Nat.not_lt_zero r)) ?_ ?_ ?_) ?_
    ·simp only [wS, simprocAttr, dX, Frz, and_true, true_or]
    ·simp only [List.all_cons, List.all_nil, Bool.and_true, Bool.and_eq_true, inR]; exact ⟨aC hip, rfl, rfl, trivial, rfl, rfl⟩
    ·simp only [wS, simprocAttr, List.take_zero, T.encs, f5, jY]
     simp only [ToH, and_true]
     have keep : ∀ (s : AS) (r : Nat) (y : ARow), iP s.row [] r y y := fun s r y => .inr ⟨.inl (by simp), .inl rfl⟩
     exact ⟨.inr ⟨rfl, by simp only [aD, inL, inR, aC hte, Bool.and_self], keep _ _ _⟩, .inr ⟨rfl, by simp only [aD, inL, inR, aC hxt, Bool.and_self], keep _ _ _⟩, .inr ⟨rfl, rfl, keep _ _ _⟩, .inr ⟨rfl, by simp only [aD, inL, inR, aC hut, Bool.and_self], keep _ _ _⟩, .inr ⟨rfl, rfl, .inr ⟨.inl (by simp), .inr ⟨0, _, _, rfl, rfl, .inl rfl, .inl rfl, .inl rfl, .inr .toRsv, trivial⟩⟩⟩⟩
    ·rintro ⟨i, hi⟩ K3 hK3
     try simp only at hi
     have hal : (T.encs (os.take i)).length = i := by rw [T.encs_len, List.length_take]; omega
     have hps : ∀ e ∈ T.encs (os.take i), e.length = 4 := fun e he => by
      rw [T.encs_map] at he
      obtain ⟨y, _, rfl⟩ := List.mem_map.1 he
      exact T.enc_len y
     repeat' (first | with_reducible (first | refine u'1 fun _ _ => ?_ | refine u'W ?_ | (first | refine u'R ?_ | refine u'5 fun _ _ _ _ => ?_ | refine u'6 (fun hg => ?_) (fun hg => ?_) <;> try simp only [hg]) <;> simp only [wS, simprocAttr, ↓aR, ↓aJ]))
     refine ⟨fun h => ?_, fun h => ?_⟩
     ·have hlt2 : i < es.length := by simpa [hln] using h
      have hltE : i < ME.length := by omega
      have e3 := aO (k := i) hlt2 (by omega)
      have hge : decide (((i : Nat) : Int) ≥ ((ME.length : Nat) : Int)) = false := by simp; omega
      have hvv : i = if T.encs (os.take i) = [] then 0 else i - 1 + 1 := by
       by_cases h0 : T.encs (os.take i) = []
       ·rw [if_pos h0]; rw [h0] at hal; simpa using hal.symm
       ·rw [if_neg h0]
        have : i ≠ 0 := fun hz => h0 (by rw [hz]; rfl)
        omega
      by_cases hij : i = j
      ·have eij : (((i : Nat) : Int) == ((j : Nat) : Int)) = true := by simp [hij]
       have htk : T.encs (os.take (i + 1)) = T.encs (os.take i) ++ [[.int .i64 ua, .int .i64 ub, .int .i64 uc, .sl false ud]] := by
        have : os[i]? = some u := by rw [hos, hij, List.getElem?_set_self hlt]
        rw [T.encs_map, T.encs_map, mF this, huE]
       repeat' (first | with_reducible (first | refine u'1 fun _ _ => ?_ | refine u'W ?_ | (first | refine u'R ?_ | refine u'5 fun _ _ _ _ => ?_ | refine u'6 (fun hg => ?_) (fun hg => ?_) <;> try simp only [hg]) <;> simp only [wS, simprocAttr, eij, ↓aR, ↓aJ]))
       refine gB (v' := i) (es := [[.int .i64 ua, .int .i64 ub, .int .i64 uc, .sl false ud]]) (by' := 48) (by kernel_rfl) (by (simp only [wS, simprocAttr]; try exact rfl)) hvv hps (by simp [cU]) (by simp) (by rw [hal]; simp only [List.length_singleton]; omega) ?_
       simp only [wS, simprocAttr, ↓aR, ↓aJ]
       try refine ⟨by kernel_rfl, ?_⟩
       repeat' (first | with_reducible (first | refine u'1 fun _ _ => ?_ | refine u'W ?_ | (first | refine u'R ?_ | refine u'5 fun _ _ _ _ => ?_ | refine u'6 (fun hg => ?_) (fun hg => ?_) <;> try simp only [hg]) <;> simp only [wS, simprocAttr, e3, ↓aR, ↓aJ]))
       refine hK3.go ⟨i + 1, hlt2⟩ (Weak.ref ⟨?_, .inr ⟨Nat.zero_le _, ?_, fun g cs hg => bO (hG0 g cs hg), ?_, ?_⟩⟩) (by simp only; omega)
       ·simp only [wS, simprocAttr]; try exact rfl
       ·simp only [wS, simprocAttr, Nat.add_sub_cancel, htk]; try exact rfl
       ·intro z hz
        simp only [List.mem_cons, List.not_mem_nil, or_false] at hz
        rcases hz with rfl | rfl | rfl | rfl | rfl | rfl | rfl <;> first | rfl | exact aC hip
       ·simp only [List.all_cons, List.all_nil, Bool.and_true, Bool.and_eq_true]
        exact ⟨by simp only [aD, inL, inR, aC hte, Bool.and_self], by simp only [aD, inL, inR, aC hxt, Bool.and_self], rfl, by simp only [aD, inL, inR, aC hut, Bool.and_self], by simp only [aD, inL, inR, Bool.true_and, Bool.and_true]; exact fE rfl, eF (aC (T.encs_tree _))⟩
      ·have eij : (((i : Nat) : Int) == ((j : Nat) : Int)) = false := by simp; omega
       obtain ⟨e', he'⟩ : ∃ e, es[i]? = some e := ⟨_, List.getElem?_eq_getElem hlt2⟩
       have hg' := hgt i e' he'
       obtain ⟨ya, yb, yc, yd, hyy⟩ := aK e'
       have htk : T.encs (os.take (i + 1)) = T.encs (os.take i) ++ [[.int .i64 ya, .int .i64 yb, .int .i64 yc, .sl false yd]] := by
        have : os[i]? = some e' := by rw [hos, List.getElem?_set_ne (fun h => hij h.symm), he']
        rw [T.encs_map, T.encs_map, mF this, hyy]
       rw [hyy] at hg'
       repeat' (first | with_reducible (first | refine u'1 fun _ _ => ?_ | refine u'W ?_ | (first | refine u'R ?_ | refine u'5 fun _ _ _ _ => ?_ | refine u'6 (fun hg => ?_) (fun hg => ?_) <;> try simp only [hg]) <;> simp only [wS, simprocAttr, eij, hg', hltE, hge, ↓aR, ↓aJ]))
       refine gB (v' := i) (es := [[.int .i64 ya, .int .i64 yb, .int .i64 yc, .sl false yd]]) (by' := 48) (by kernel_rfl) (by (simp only [wS, simprocAttr]; try exact rfl)) hvv hps (by simp [cU]) (by simp) (by rw [hal]; simp only [List.length_singleton]; omega) ?_
       simp only [wS, simprocAttr, ↓aR, ↓aJ]
       try refine ⟨by kernel_rfl, ?_⟩
       repeat' (first | with_reducible (first | refine u'1 fun _ _ => ?_ | refine u'W ?_ | (first | refine u'R ?_ | refine u'5 fun _ _ _ _ => ?_ | refine u'6 (fun hg => ?_) (fun hg => ?_) <;> try simp only [hg]) <;> simp only [wS, simprocAttr, e3, ↓aR, ↓aJ]))
       refine hK3.go ⟨i + 1, hlt2⟩ (Weak.ref ⟨?_, .inr ⟨Nat.zero_le _, ?_, fun g cs hg => bO (hG0 g cs hg), ?_, ?_⟩⟩) (by simp only; omega)
       ·simp only [wS, simprocAttr]; try exact rfl
       ·simp only [wS, simprocAttr, Nat.add_sub_cancel, htk]; try exact rfl
       ·intro z hz
        simp only [List.mem_cons, List.not_mem_nil, or_false] at hz
        rcases hz with rfl | rfl | rfl | rfl | rfl | rfl | rfl <;> first | rfl | exact aC hip
       ·simp only [List.all_cons, List.all_nil, Bool.and_true, Bool.and_eq_true]
        exact ⟨by simp only [aD, inL, inR, aC hte, Bool.and_self], by simp only [aD, inL, inR, aC hxt, Bool.and_self], rfl, by simp only [aD, inL, inR, aC hut, Bool.and_self], by simp only [aD, inL, inR, Bool.true_and, Bool.and_true]; exact fE rfl, eF (aC (T.encs_tree _))⟩
     ·have hge : i = es.length := by simp [hln] at h; omega
      have hta : os.take i = os := List.take_of_length_le (by omega)
      rw [hta] at hal hps
      repeat' (first | with_reducible (first | refine u'1 fun _ _ => ?_ | refine u'X ?_ | (first | refine u'R ?_ | refine u'5 fun _ _ _ _ => ?_ | refine u'6 (fun hg => ?_) (fun hg => ?_) <;> try simp only [hg]) <;> simp only [wS, simprocAttr, hta]))
      refine Cont.go (by assumption) (fB (cB [5] (kp [0, 1, 2, 3, 4]) (l := [(6, .ptr 2 0 0), (7, .int .i64 0), (10, .ptr 4 0 0)]) (h := [.cells 0 [.int .i64 k, .int .i64 n, .int .i64 m, .sl false ME], .cells 0 [.int .i64 xa, .int .i64 xb, .int .i64 xc, .sl false xd], .cells 0 [.int .i64 0, .int .i64 0, .int .i64 0, .sl true []], .cells 0 [.int .i64 ua, .int .i64 ub, .int .i64 uc, .sl false ud], .cells 0 [.int .i64 k, .int .i64 n, .int .i64 m, .sl false (T.encs os)]]) hG0 (fun r hr => absurd hr (Nat.not_lt_zero r)) ?_ ?_ ?_) ?_)
      ·simp only [wS, simprocAttr, dX, Frz, and_true, true_or]
      ·rfl
      ·simp only [wS, simprocAttr, hta]
       simp only [ToH, and_true]
       have keep : ∀ (s : AS) (r : Nat) (y : ARow), iP s.row [5] r y y → True := fun _ _ _ _ => trivial
       exact ⟨.inr ⟨rfl, by simp only [aD, inL, inR, aC hte, Bool.and_self], .inr ⟨.inl (by simp), .inl rfl⟩⟩, .inr ⟨rfl, by simp only [aD, inL, inR, aC hxt, Bool.and_self], .inr ⟨.inl (by simp), .inl rfl⟩⟩, .inr ⟨rfl, rfl, .inr ⟨.inl (by simp), .inl rfl⟩⟩, .inr ⟨rfl, by simp only [aD, inL, inR, aC hut, Bool.and_self], .inr ⟨.inl (by simp), .inl rfl⟩⟩, .inr ⟨rfl, by simp only [aD, inL, inR, Bool.true_and, Bool.and_true]; exact aC (T.encs_tree os), .inr ⟨.inl (by simp), .inr ⟨0, _, _, rfl, rfl, .inl rfl, .inl rfl, .inl rfl, .inr (fV (v := i - 1) rfl (by simp) hps (T.encs_tree os)), trivial⟩⟩⟩, rfl⟩
      repeat' (first | with_reducible (first | refine u'1 fun _ _ => ?_ | refine u'W ?_ | (first | refine u'R ?_ | refine u'5 fun _ _ _ _ => ?_ | refine u'6 (fun hg => ?_) (fun hg => ?_) <;> try simp only [hg]) <;> simp only [wS, simprocAttr]))
      exact c8 (v := .agg [.int .i64 k, .int .i64 n, .int .i64 m, .sl false (T.encs os)]) rfl (by simp only [wS, simprocAttr]; try exact rfl) (congrArg (fun z => AV.tup [AV.agg z, AV.int .i64 0]) (T.wk_enc (.mk k n m os)))
   ·cases h
  ·cases h
end Go.Proofs.YtblfpppnkdokdaaGreatDoor
