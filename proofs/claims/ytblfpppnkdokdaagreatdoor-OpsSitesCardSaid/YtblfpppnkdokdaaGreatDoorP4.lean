import Derived.Test.YtblfpppnkdokdaaGreatDoorP1
import Derived.Test.YtblfpppnkdokdaaGreatDoorR0
import Derived.Test.YtblfpppnkdokdaaGreatDoorHP
set_option linter.unusedVariables false
set_option linter.unusedSimpArgs false
namespace Go.Proofs.YtblfpppnkdokdaaGreatDoor
open Go.AM
attribute [local irreducible] AWp aR aV bI bN bR aO aQ bK
set_option maxRecDepth 100000
theorem MQ {ver : Nat} {row4 : List AV} (c0 : List AV) (hc0 : inL aC c0 = true) (c : List AV) (hc : inL aC c = true) (qs : List (List Int)) (h4 : inL aC row4 = true) : ([R0 qs, LP c0, .cells 0 [.yld 1], .cells 0 [.fn (.func 107) [] [.ptr 2 0 0, .ptr 3 0 0]], .cells ver row4, .dead, R6 qs, .cells 0 c] : List ARow).all (aE fun r => decide (r < 8)) = true := by
 have m : ∀ x : List AV, inL aC x = true → inL (fun r => decide (r < 8)) x = true := fun x => aU (p := aC) (fun r hr => by cases hr)
 simp only [List.all_cons, List.all_nil, Bool.and_true, Bool.and_eq_true]
 exact ⟨mA rfl, i6 hc0 rfl, rfl, rfl, m _ h4, rfl, kY, m _ hc⟩
def iK : Nat → List AV
 | 0 => []
 | i + 1 => [.int .i64 (i : Nat)]
theorem nR {q : Nat → Bool} (i : Nat) : inL q (iK i) = true := by cases i <;> rfl
theorem JT {p : List Int} {i : Nat} {x : List AV} : List.take (p.length * 1) (cI p ++ iK i) ++ x ++ List.drop ((p.length + 1) * 1) (cI p ++ iK i) = cI p ++ x := by
 have hl := u1 p
 have h2 : (iK i).length ≤ 1 := by cases i <;> simp [iK]
 rw [Nat.mul_one, Nat.mul_one, List.take_append_of_le_length (by omega), List.take_of_length_le (by omega), List.drop_eq_nil_of_le (by rw [List.length_append]; omega), List.append_nil]
set_option maxHeartbeats 4000000 in
theorem LR {D : Nat} (ih : DR 4 D) (c0 : List AV) (hc0 : inL aC c0 = true) (c : T) (hc : T.size c ≤ D + 1) (p : List Int) (hp : p ≠ []) (hpl : p.length + (D + 1) ≤ 1000000000000) (ps : List (List Int)) (hps : ps ≠ []) (hlen : ps.length + (dT p c).length ≤ 4398046511104) (ver : Nat) (rows : Nat → ARow)
  (h0 : rows 0 = R0 ps) (h1 : rows 1 = LP c0) (h2 : rows 2 = .cells 0 [.yld 1]) (h3 : rows 3 = .cells 0 [.fn (.func 107) [] [.ptr 2 0 0, .ptr 3 0 0]]) (h4 : rows 4 = .cells ver (cI p)) (h6 : rows 6 = R6 ps) :
  cB Tryz.prog G0 107 [.agg (T.enc c), .osl 4 ver 0 p.length 1 true, .ptr 2 0 0, .ptr 3 0 0] rows [4, 0, 1, 2, 3, 6] ⟨.bool true, [(0, R0 (ps ++ dT p c)), (6, R6 (ps ++ dT p c))]⟩ := by
 have hctree := T.enc_tree c
 obtain ⟨kk, nn, mm, ks⟩ := c
 rw [T.enc] at hctree ⊢
 have hEt := T.encs_tree ks
 have hgt := fun (i : Nat) (e : T) => T.encs_get (es := ks) (i := i) (e := e)
 have hln := T.encs_len ks
 have hls := T.len_sizes ks
 simp only [T.size] at hc
 generalize hEE : T.encs ks = EE at hctree hEt hgt hln ⊢
 have hPne : PE ps ≠ [] := fun e => hps ((LJ ps).1 e)
 rw [rU] at hlen ⊢
 simp only [List.length_cons] at hlen
 have hcl := u1 p
 have hpos : 0 < p.length := List.length_pos_iff.2 hp
 refine bG [R0 ps, LP c0, .cells 0 [.yld 1], .cells 0 [.fn (.func 107) [] [.ptr 2 0 0, .ptr 3 0 0]], .cells ver (cI p), .dead, R6 ps] hG0 Tryz.func107 rfl (by kernel_rfl) (by simp [Tryz.ntmps107]) ?_ ?_ ?_ ?_ ?_ ?_ ?_
 ·intro r hr
  simp only [List.mem_cons, List.not_mem_nil, or_false] at hr
  rcases hr with rfl | rfl | rfl | rfl | rfl | rfl
  ·exact h4.symm
  ·exact h0.symm
  ·exact h1.symm
  ·exact h2.symm
  ·exact h3.symm
  ·exact h6.symm
 ·intro r hr
  match r, hr with
  | 0, hr => exact absurd (by simp) hr
  | 1, hr => exact absurd (by simp) hr
  | 2, hr => exact absurd (by simp) hr
  | 3, hr => exact absurd (by simp) hr
  | 4, hr => exact absurd (by simp) hr
  | 5, _ => simp
  | 6, hr => exact absurd (by simp) hr
  | r + 7, _ => simp
 ·simp only [inL, inR, List.length_cons, List.length_nil, Nat.reduceAdd, Nat.reduceLT, decide_true, Bool.true_and, Bool.and_true]
  exact dB (p := aC) (fun r hr => by cases hr) hEt
 ·intro r hr
  simp only [List.mem_cons, List.not_mem_nil, or_false] at hr
  rcases hr with rfl | rfl | rfl | rfl | rfl | rfl
  ·rw [h4]; exact fA _ p
  ·rw [h0]; exact mA rfl
  ·rw [h1]; exact i6 hc0 rfl
  ·rw [h2]; rfl
  ·rw [h3]; rfl
  ·rw [h6]; exact kY
 ·intro r hr h
  simp only [List.mem_cons, List.not_mem_nil, or_false] at hr
  simp only [List.length_cons, List.length_nil] at h
  omega
 ·simp
 simp only [Tryz.ntmps107, aF, Nat.reduceAdd, List.length_cons, List.length_nil]
 repeat' (first | with_reducible (first | refine u'1 fun _ _ => ?_ | refine u'W ?_ | (first | refine u'R ?_ | refine u'5 fun _ _ _ _ => ?_ | refine u'6 (fun hg => ?_) (fun hg => ?_) <;> try simp only [hg]) <;> simp only [wS, simprocAttr]))
 refine cQ (DB p hp (by omega) ver true _ (by simp only [wS, simprocAttr]) (by simp only [wS, simprocAttr]; try exact rfl)) ?_
 simp only [wS, simprocAttr, qF]
 refine DV (wL [8] (DU c0 hc0 ps (by omega) p _ (by simp only [wS, simprocAttr]) (by simp only [wS, simprocAttr]) (by simp only [wS, simprocAttr])) ⟨.inr (.osl (cs := cI p) (by simp) (by simp only [wS, simprocAttr]; try exact rfl) (by simp) (by intro e he; obtain ⟨x, _, rfl⟩ := List.mem_map.1 he; rfl) (by rw [List.drop_zero, List.take_of_length_le (by omega), GJ]) (bJ p)), trivial⟩ (by decide)) ?_
 simp only [wS, simprocAttr]
 repeat' (first | with_reducible (first | refine u'1 fun _ _ => ?_ | refine u'W ?_ | (first | refine u'R ?_ | refine u'5 fun _ _ _ _ => ?_ | refine u'6 (fun hg => ?_) (fun hg => ?_) <;> try simp only [hg]) <;> simp only [wS, simprocAttr]))
 refine ⟨by kernel_rfl, ?_⟩
 repeat' (first | with_reducible (first | refine u'1 fun _ _ => ?_ | refine u'W ?_ | (first | refine u'R ?_ | refine u'5 fun _ _ _ _ => ?_ | refine u'6 (fun hg => ?_) (fun hg => ?_) <;> try simp only [hg]) <;> simp only [wS, simprocAttr, Bool.not_true, Bool.not_false, eK, CV, hln]))
 refine nX (α := {i : Nat // i ≤ ks.length}) (fun i => [(1, .osl 4 ver 0 p.length 1 true), (2, .ptr 2 0 0), (3, .ptr 3 0 0), (15, .sl false EE), (16, .int .i64 (ks.length : Nat)), (17, .int .i64 (i.1 : Nat))]) (fun i => [R0 (ps ++ p :: iE p 0 (ks.take i.1)), LP c0, .cells 0 [.yld 1], .cells 0 [.fn (.func 107) [] [.ptr 2 0 0, .ptr 3 0 0]], .cells ver (cI p), .dead, R6 (ps ++ p :: iE p 0 (ks.take i.1)), .cells 0 [.int .i64 kk, .int .i64 nn, .int .i64 mm, .sl false EE]]) (fun i => ks.length - i.1) ⟨0, Nat.zero_le _⟩ ⟨?_, .inr ⟨?_, ?_, ?_, ?_, ?_⟩⟩ ?_
 ·simp only [wS, simprocAttr]; try exact rfl
 ·simp only [wS, simprocAttr]; try exact rfl
 ·simp only [wS, simprocAttr, iE, iK, eK, CV]; try exact rfl
 ·exact fun g cs hg => aU (p := aC) (fun r hr => by cases hr) (hG0 g cs hg)
 ·intro q hq
  simp only [List.mem_cons, List.not_mem_nil, or_false] at hq
  rcases hq with rfl | rfl | rfl | rfl | rfl | rfl <;> first | rfl | exact dB (p := aC) (fun r hr => by cases hr) hEt
 ·exact MQ (ver := ver) (row4 := cI p) c0 hc0 [.int .i64 kk, .int .i64 nn, .int .i64 mm, .sl false EE] hctree _ (by exact fA _ _)
 ·rintro ⟨i, hi⟩ K3 hK3
  repeat' (first | with_reducible (first | refine u'1 fun _ _ => ?_ | refine u'W ?_ | (first | refine u'R ?_ | refine u'5 fun _ _ _ _ => ?_ | refine u'6 (fun hg => ?_) (fun hg => ?_) <;> try simp only [hg]) <;> simp only [wS, simprocAttr]))
  refine ⟨fun h => ?_, fun h => ?_⟩
  ·have hlt : i < ks.length := by simpa using h
   obtain ⟨e, he⟩ : ∃ e, ks[i]? = some e := ⟨_, List.getElem?_eq_getElem hlt⟩
   have hne2 : T.size e ≤ D := by have := T.size_mem (List.mem_of_getElem? he); omega
   have hg := hgt i e he
   have hltE : i < EE.length := by omega
   have htk := pS (p := p) he
   have hle := y6 p ks (i + 1)
   rw [htk, List.length_append] at hle
   have e3 := aM (k := i) hlt (by omega)
   obtain ⟨ea, eb, ec, ed, hee⟩ := aK e
   rw [hee] at hg
   repeat' (first | with_reducible (first | refine u'1 fun _ _ => ?_ | refine u'W ?_ | (first | refine u'R ?_ | refine u'5 fun _ _ _ _ => ?_ | refine u'6 (fun hg => ?_) (fun hg => ?_) <;> try simp only [hg]) <;> simp only [wS, simprocAttr, hg, hltE, hlt]))
   refine KR (sz := 1) (by' := 8) (mm := 1) (new := [.int .i64 (i : Int)]) (cs := cI p) (by kernel_rfl) ?ha (by omega) ?hb ?hc (by decide) (by omega) ?_
   case ha => simp only [wS, simprocAttr]
   case hb => simp only [wS, simprocAttr]; try exact rfl
   case hc => simp [cV]
   have hcut : List.take (p.length * 1) (List.drop 0 (cI p)) = cI p := by rw [List.drop_zero, List.take_of_length_le (by omega)]
   rw [hcut]
   simp only [wS, simprocAttr]
   refine cQ (y5 (I5 (b := 9) (by decide) ih) hc0 hne2 hee i (by omega) (ps := ps ++ p :: iE p 0 (ks.take i)) (by simp) (by simp only [List.length_append, List.length_cons]; omega) 0 _ (by simp only [wS, simprocAttr]) (by simp only [wS, simprocAttr]) (by simp only [wS, simprocAttr]) (by simp only [wS, simprocAttr]) (by simp only [wS, simprocAttr]; try exact rfl) (by simp only [wS, simprocAttr])) ?_
   simp only [wS, simprocAttr]
   refine ⟨by kernel_rfl, ?_⟩
   repeat' (first | with_reducible (first | refine u'1 fun _ _ => ?_ | refine u'W ?_ | (first | refine u'R ?_ | refine u'5 fun _ _ _ _ => ?_ | refine u'6 (fun hg => ?_) (fun hg => ?_) <;> try simp only [hg]) <;> simp only [wS, simprocAttr, Bool.not_true, Bool.not_false, e3]))
   refine hK3.go ⟨i + 1, hlt⟩ ⟨?_, .inr ⟨?_, ?_, ?_, ?_, ?_⟩⟩ (by simp only; omega)
   ·simp only [wS, simprocAttr]; try exact rfl
   ·simp only [wS, simprocAttr]; try exact rfl
   ·simp only [wS, simprocAttr, htk, List.append_assoc, iK]; try exact rfl
   ·exact fun g cs hg => aU (p := aC) (fun r hr => by cases hr) (hG0 g cs hg)
   ·intro q hq
    simp only [List.mem_cons, List.not_mem_nil, or_false] at hq
    rcases hq with rfl | rfl | rfl | rfl | rfl | rfl <;> first | rfl | exact dB (p := aC) (fun r hr => by cases hr) hEt
   ·exact MQ (ver := ver) (row4 := cI p) c0 hc0 [.int .i64 kk, .int .i64 nn, .int .i64 mm, .sl false EE] hctree _ (by exact fA _ _)
  ·have hge : i = ks.length := by simp at h; omega
   repeat' (first | with_reducible (first | refine u'1 fun _ _ => ?_ | refine u'W ?_ | (first | refine u'R ?_ | refine u'5 fun _ _ _ _ => ?_ | refine u'6 (fun hg => ?_) (fun hg => ?_) <;> try simp only [hg]) <;> simp only [wS, simprocAttr]))
   refine aD rfl ?_
   simp only [wS, simprocAttr, inR, hge, List.take_length, eK, T.kids]
   intro r hr
   simp only [List.mem_cons, List.not_mem_nil, or_false] at hr
   rcases hr with rfl | rfl | rfl | rfl | rfl | rfl
   ·exact ⟨h4.symm, by exact fA _ p⟩
   ·exact ⟨rfl, mA rfl⟩
   ·exact ⟨h1.symm, i6 hc0 rfl⟩
   ·exact ⟨h2.symm, rfl⟩
   ·exact ⟨h3.symm, rfl⟩
   ·exact ⟨rfl, kY⟩
set_option maxHeartbeats 4000000 in
theorem LQ {D : Nat} (ih : DR 4 D) (c0 : List AV) (hc0 : inL aC c0 = true) (c : T) (hc : T.size c ≤ D + 1) (p : List Int) (hp : p ≠ []) (hpl : p.length + (D + 1) ≤ 1000000000000) (ps : List (List Int)) (hps : ps ≠ []) (hlen : ps.length + (dT p c).length ≤ 4398046511104) (ver : Nat) (rows : Nat → ARow)
  (h0 : rows 0 = R0 ps) (h1 : rows 1 = LP c0) (h2 : rows 2 = .cells 0 [.yld 1]) (h3 : rows 3 = .cells 0 [.fn (.func 107) [] [.ptr 2 0 0, .ptr 3 0 0]]) (h4 : rows 4 = .cells ver (cI p)) (h6 : rows 6 = R6 ps) :
  cB Tryz.prog G0 107 [.agg (T.enc c), .rsl 4 ver 0 p.length 1, .ptr 2 0 0, .ptr 3 0 0] rows [4, 0, 1, 2, 3, 6] ⟨.bool true, [(0, R0 (ps ++ dT p c)), (6, R6 (ps ++ dT p c)), (4, .cells ver (cI p ++ iK (T.kids c).length))]⟩ := by
 have hctree := T.enc_tree c
 obtain ⟨kk, nn, mm, ks⟩ := c
 rw [T.enc] at hctree ⊢
 have hEt := T.encs_tree ks
 have hgt := fun (i : Nat) (e : T) => T.encs_get (es := ks) (i := i) (e := e)
 have hln := T.encs_len ks
 have hls := T.len_sizes ks
 simp only [T.size] at hc
 generalize hEE : T.encs ks = EE at hctree hEt hgt hln ⊢
 have hPne : PE ps ≠ [] := fun e => hps ((LJ ps).1 e)
 rw [rU] at hlen ⊢
 simp only [List.length_cons] at hlen
 have hcl := u1 p
 have hpos : 0 < p.length := List.length_pos_iff.2 hp
 refine bG [R0 ps, LP c0, .cells 0 [.yld 1], .cells 0 [.fn (.func 107) [] [.ptr 2 0 0, .ptr 3 0 0]], .cells ver (cI p), .dead, R6 ps] hG0 Tryz.func107 rfl (by kernel_rfl) (by simp [Tryz.ntmps107]) ?_ ?_ ?_ ?_ ?_ ?_ ?_
 ·intro r hr
  simp only [List.mem_cons, List.not_mem_nil, or_false] at hr
  rcases hr with rfl | rfl | rfl | rfl | rfl | rfl
  ·exact h4.symm
  ·exact h0.symm
  ·exact h1.symm
  ·exact h2.symm
  ·exact h3.symm
  ·exact h6.symm
 ·intro r hr
  match r, hr with
  | 0, hr => exact absurd (by simp) hr
  | 1, hr => exact absurd (by simp) hr
  | 2, hr => exact absurd (by simp) hr
  | 3, hr => exact absurd (by simp) hr
  | 4, hr => exact absurd (by simp) hr
  | 5, _ => simp
  | 6, hr => exact absurd (by simp) hr
  | r + 7, _ => simp
 ·simp only [inL, inR, List.length_cons, List.length_nil, Nat.reduceAdd, Nat.reduceLT, decide_true, Bool.true_and, Bool.and_true]
  exact dB (p := aC) (fun r hr => by cases hr) hEt
 ·intro r hr
  simp only [List.mem_cons, List.not_mem_nil, or_false] at hr
  rcases hr with rfl | rfl | rfl | rfl | rfl | rfl
  ·rw [h4]; exact fA _ p
  ·rw [h0]; exact mA rfl
  ·rw [h1]; exact i6 hc0 rfl
  ·rw [h2]; rfl
  ·rw [h3]; rfl
  ·rw [h6]; exact kY
 ·intro r hr h
  simp only [List.mem_cons, List.not_mem_nil, or_false] at hr
  simp only [List.length_cons, List.length_nil] at h
  omega
 ·simp
 simp only [Tryz.ntmps107, aF, Nat.reduceAdd, List.length_cons, List.length_nil]
 repeat' (first | with_reducible (first | refine u'1 fun _ _ => ?_ | refine u'W ?_ | (first | refine u'R ?_ | refine u'5 fun _ _ _ _ => ?_ | refine u'6 (fun hg => ?_) (fun hg => ?_) <;> try simp only [hg]) <;> simp only [wS, simprocAttr]))
 refine cQ (uX (DB p hp (by omega) ver false _ (by simp only [wS, simprocAttr]) (by simp only [wS, simprocAttr]; try exact rfl))) ?_
 simp only [wS, simprocAttr, qF]
 refine DV (wL [8] (DU c0 hc0 ps (by omega) p _ (by simp only [wS, simprocAttr]) (by simp only [wS, simprocAttr]) (by simp only [wS, simprocAttr])) ⟨.inr (.osl (cs := cI p) (by simp) (by simp only [wS, simprocAttr]; try exact rfl) (by simp) (by intro e he; obtain ⟨x, _, rfl⟩ := List.mem_map.1 he; rfl) (by rw [List.drop_zero, List.take_of_length_le (by omega), GJ]) (bJ p)), trivial⟩ (by decide)) ?_
 simp only [wS, simprocAttr]
 repeat' (first | with_reducible (first | refine u'1 fun _ _ => ?_ | refine u'W ?_ | (first | refine u'R ?_ | refine u'5 fun _ _ _ _ => ?_ | refine u'6 (fun hg => ?_) (fun hg => ?_) <;> try simp only [hg]) <;> simp only [wS, simprocAttr]))
 refine ⟨by kernel_rfl, ?_⟩
 repeat' (first | with_reducible (first | refine u'1 fun _ _ => ?_ | refine u'W ?_ | (first | refine u'R ?_ | refine u'5 fun _ _ _ _ => ?_ | refine u'6 (fun hg => ?_) (fun hg => ?_) <;> try simp only [hg]) <;> simp only [wS, simprocAttr, Bool.not_true, Bool.not_false, eK, CV, hln]))
 refine nX (α := {i : Nat // i ≤ ks.length}) (fun i => [(1, .rsl 4 ver 0 p.length 1), (2, .ptr 2 0 0), (3, .ptr 3 0 0), (15, .sl false EE), (16, .int .i64 (ks.length : Nat)), (17, .int .i64 (i.1 : Nat))]) (fun i => [R0 (ps ++ p :: iE p 0 (ks.take i.1)), LP c0, .cells 0 [.yld 1], .cells 0 [.fn (.func 107) [] [.ptr 2 0 0, .ptr 3 0 0]], .cells ver (cI p ++ iK i.1), .dead, R6 (ps ++ p :: iE p 0 (ks.take i.1)), .cells 0 [.int .i64 kk, .int .i64 nn, .int .i64 mm, .sl false EE]]) (fun i => ks.length - i.1) ⟨0, Nat.zero_le _⟩ ⟨?_, .inr ⟨?_, ?_, ?_, ?_, ?_⟩⟩ ?_
 ·simp only [wS, simprocAttr]; try exact rfl
 ·simp only [wS, simprocAttr]; try exact rfl
 ·simp only [wS, simprocAttr, iE, iK, eK, CV]; try exact rfl
 ·exact fun g cs hg => aU (p := aC) (fun r hr => by cases hr) (hG0 g cs hg)
 ·intro q hq
  simp only [List.mem_cons, List.not_mem_nil, or_false] at hq
  rcases hq with rfl | rfl | rfl | rfl | rfl | rfl <;> first | rfl | exact dB (p := aC) (fun r hr => by cases hr) hEt
 ·exact MQ (ver := ver) (row4 := cI p ++ iK 0) c0 hc0 [.int .i64 kk, .int .i64 nn, .int .i64 mm, .sl false EE] hctree _ (by exact iL (fA _ _) (nR _))
 ·rintro ⟨i, hi⟩ K3 hK3
  repeat' (first | with_reducible (first | refine u'1 fun _ _ => ?_ | refine u'W ?_ | (first | refine u'R ?_ | refine u'5 fun _ _ _ _ => ?_ | refine u'6 (fun hg => ?_) (fun hg => ?_) <;> try simp only [hg]) <;> simp only [wS, simprocAttr]))
  refine ⟨fun h => ?_, fun h => ?_⟩
  ·have hlt : i < ks.length := by simpa using h
   obtain ⟨e, he⟩ : ∃ e, ks[i]? = some e := ⟨_, List.getElem?_eq_getElem hlt⟩
   have hne2 : T.size e ≤ D := by have := T.size_mem (List.mem_of_getElem? he); omega
   have hg := hgt i e he
   have hltE : i < EE.length := by omega
   have htk := pS (p := p) he
   have hle := y6 p ks (i + 1)
   rw [htk, List.length_append] at hle
   have e3 := aM (k := i) hlt (by omega)
   obtain ⟨ea, eb, ec, ed, hee⟩ := aK e
   rw [hee] at hg
   repeat' (first | with_reducible (first | refine u'1 fun _ _ => ?_ | refine u'W ?_ | (first | refine u'R ?_ | refine u'5 fun _ _ _ _ => ?_ | refine u'6 (fun hg => ?_) (fun hg => ?_) <;> try simp only [hg]) <;> simp only [wS, simprocAttr, hg, hltE, hlt]))
   refine KQ (sz := 1) (by' := 8) (new := [.int .i64 (i : Int)]) (cs := cI p ++ iK i) (by kernel_rfl) ?ha (by rw [List.length_append]; omega) ?hc ?_
   case ha => simp only [wS, simprocAttr]
   case hc => simp [cV]
   rw [JT]
   simp only [wS, simprocAttr]
   refine cQ (y5 ih hc0 hne2 hee i (by omega) (ps := ps ++ p :: iE p 0 (ks.take i)) (by simp) (by simp only [List.length_append, List.length_cons]; omega) ver _ (by simp only [wS, simprocAttr]) (by simp only [wS, simprocAttr]) (by simp only [wS, simprocAttr]) (by simp only [wS, simprocAttr]) (by simp only [wS, simprocAttr]; try exact rfl) (by simp only [wS, simprocAttr])) ?_
   simp only [wS, simprocAttr]
   refine ⟨by kernel_rfl, ?_⟩
   repeat' (first | with_reducible (first | refine u'1 fun _ _ => ?_ | refine u'W ?_ | (first | refine u'R ?_ | refine u'5 fun _ _ _ _ => ?_ | refine u'6 (fun hg => ?_) (fun hg => ?_) <;> try simp only [hg]) <;> simp only [wS, simprocAttr, Bool.not_true, Bool.not_false, e3]))
   refine hK3.go ⟨i + 1, hlt⟩ ⟨?_, .inr ⟨?_, ?_, ?_, ?_, ?_⟩⟩ (by simp only; omega)
   ·simp only [wS, simprocAttr]; try exact rfl
   ·simp only [wS, simprocAttr]; try exact rfl
   ·simp only [wS, simprocAttr, htk, List.append_assoc, iK]; try exact rfl
   ·exact fun g cs hg => aU (p := aC) (fun r hr => by cases hr) (hG0 g cs hg)
   ·intro q hq
    simp only [List.mem_cons, List.not_mem_nil, or_false] at hq
    rcases hq with rfl | rfl | rfl | rfl | rfl | rfl <;> first | rfl | exact dB (p := aC) (fun r hr => by cases hr) hEt
   ·exact MQ (ver := ver) (row4 := cI p ++ iK (i + 1)) c0 hc0 [.int .i64 kk, .int .i64 nn, .int .i64 mm, .sl false EE] hctree _ (by exact iL (fA _ _) (nR _))
  ·have hge : i = ks.length := by simp at h; omega
   repeat' (first | with_reducible (first | refine u'1 fun _ _ => ?_ | refine u'W ?_ | (first | refine u'R ?_ | refine u'5 fun _ _ _ _ => ?_ | refine u'6 (fun hg => ?_) (fun hg => ?_) <;> try simp only [hg]) <;> simp only [wS, simprocAttr]))
   refine aD rfl ?_
   simp only [wS, simprocAttr, inR, hge, List.take_length, eK, T.kids]
   intro r hr
   simp only [List.mem_cons, List.not_mem_nil, or_false] at hr
   rcases hr with rfl | rfl | rfl | rfl | rfl | rfl
   ·exact ⟨rfl, by show inL _ (cI p ++ iK ks.length) = true; exact iL (fA _ _) (nR _)⟩
   ·exact ⟨rfl, mA rfl⟩
   ·exact ⟨h1.symm, i6 hc0 rfl⟩
   ·exact ⟨h2.symm, rfl⟩
   ·exact ⟨h3.symm, rfl⟩
   ·exact ⟨rfl, kY⟩
theorem LN {D : Nat} (ih : DR 4 D) : DR 4 (D + 1) := by
 intro c0 hc0 c hc p hp hpl ps hps hlen ver rows h0 h1 h2 h3 h4 h6
 have hl := u1 p
 have m0 : ∀ (w : List (Nat × ARow)) q, q ≠ 0 → q ≠ 6 → upd rows [(0, R0 (ps ++ dT p c)), (6, R6 (ps ++ dT p c))] q = rows q := fun _ q a b => by rw [jX, if_neg b, if_neg a]
 refine DG (pre := [.agg (T.enc c)]) (post := [.ptr 2 0 0, .ptr 3 0 0]) (r := 4) (cs := cI p) (LR ih c0 hc0 c hc p hp hpl ps hps hlen ver rows h0 h1 h2 h3 h4 h6) (LQ ih c0 hc0 c hc p hp hpl ps hps hlen ver rows h0 h1 h2 h3 h4 h6) (by simp) h4 ?_ ?_ ?_ ?_ ?_ ?_
 ·intro q hq
  simp only [List.mem_cons, List.not_mem_nil, or_false] at hq
  rcases hq with rfl | rfl <;> simp
 ·exact ⟨cI p, by rw [jX]; exact h4, by rw [List.take_length]⟩
 ·exact ⟨_, by rw [eK, if_pos rfl], by rw [List.take_append_of_le_length (Nat.le_refl _), List.take_length]⟩
 ·intro q _ _; rfl
 ·intro q _ hq
  rw [eK, if_neg hq, jX]
 ·rw [jX]; exact h4
theorem NJ : ∀ D, DR 4 D
 | 0 => fun c0 hc0 c hc => by
  have := T.size_pos c
  omega
 | D + 1 => LN (NJ D)
theorem RY (c0 : List AV) (hc0 : inL aC c0 = true) (c : List AV) (hc : inL aC c = true) (qs : List (List Int)) : ([R0 qs, LP c0, .cells 0 [.yld 1], .cells 0 [.fn (.func 107) [] [.ptr 2 0 0, .ptr 3 0 0]], .dead, .cells 0 c, R6 qs] : List ARow).all (aE fun r => decide (r < 7)) = true := by
 have m : ∀ x : List AV, inL aC x = true → inL (fun r => decide (r < 7)) x = true := fun x => aU (p := aC) (fun r hr => by cases hr)
 simp only [List.all_cons, List.all_nil, Bool.and_true, Bool.and_eq_true]
 exact ⟨mA rfl, i6 hc0 rfl, rfl, rfl, rfl, m _ hc, kY⟩
set_option maxHeartbeats 4000000 in
theorem LO {D : Nat} (c0 : List AV) (hc0 : inL aC c0 = true) (c : T) (hc : T.size c ≤ D + 1) (hD : D + 1 ≤ 1000000000000) (hlen : (dT [] c).length ≤ 4398046511104) (rows : Nat → ARow)
  (h0 : rows 0 = R0 []) (h1 : rows 1 = LP c0) (h2 : rows 2 = .cells 0 [.yld 1]) (h3 : rows 3 = .cells 0 [.fn (.func 107) [] [.ptr 2 0 0, .ptr 3 0 0]]) (h6 : rows 6 = .none) :
  cB Tryz.prog G0 107 [.agg (T.enc c), .sl true [], .ptr 2 0 0, .ptr 3 0 0] rows [0, 1, 2, 3, 6] ⟨.bool true, [(0, R0 (dT [] c)), (6, R6 (dT [] c))]⟩ := by
 have hctree := T.enc_tree c
 obtain ⟨kk, nn, mm, ks⟩ := c
 rw [T.enc] at hctree ⊢
 have hEt := T.encs_tree ks
 have hgt := fun (i : Nat) (e : T) => T.encs_get (es := ks) (i := i) (e := e)
 have hln := T.encs_len ks
 have hls := T.len_sizes ks
 simp only [T.size] at hc
 generalize hEE : T.encs ks = EE at hctree hEt hgt hln ⊢
 rw [rU] at hlen ⊢
 simp only [List.length_cons] at hlen
 refine bG [R0 [], LP c0, .cells 0 [.yld 1], .cells 0 [.fn (.func 107) [] [.ptr 2 0 0, .ptr 3 0 0]], .dead] hG0 Tryz.func107 rfl (by kernel_rfl) (by simp [Tryz.ntmps107]) ?_ ?_ ?_ ?_ ?_ ?_ ?_
 ·intro r hr
  simp only [List.mem_cons, List.not_mem_nil, or_false] at hr
  rcases hr with rfl | rfl | rfl | rfl | rfl
  ·exact h0.symm
  ·exact h1.symm
  ·exact h2.symm
  ·exact h3.symm
  ·exact h6.symm
 ·intro r hr
  match r, hr with
  | 0, hr => exact absurd (by simp) hr
  | 1, hr => exact absurd (by simp) hr
  | 2, hr => exact absurd (by simp) hr
  | 3, hr => exact absurd (by simp) hr
  | 4, _ => simp
  | 5, _ => simp
  | 6, hr => exact absurd (by simp) hr
  | r + 7, _ => simp
 ·simp only [inL, inR, inE, List.length_cons, List.length_nil, Nat.reduceAdd, Nat.reduceLT, decide_true, Bool.true_and, Bool.and_true]
  exact dB (p := aC) (fun r hr => by cases hr) hEt
 ·intro r hr
  simp only [List.mem_cons, List.not_mem_nil, or_false] at hr
  rcases hr with rfl | rfl | rfl | rfl | rfl
  ·rw [h0]; rfl
  ·rw [h1]; exact i6 hc0 rfl
  ·rw [h2]; rfl
  ·rw [h3]; rfl
  ·rw [h6]; rfl
 ·intro r hr h
  simp only [List.mem_cons, List.not_mem_nil, or_false] at hr
  simp only [List.length_cons, List.length_nil] at h
  rcases hr with rfl | rfl | rfl | rfl | rfl
  ·omega
  ·omega
  ·omega
  ·omega
  ·exact h6
 ·simp
 simp only [Tryz.ntmps107, aF, Nat.reduceAdd, List.length_cons, List.length_nil]
 repeat' (first | with_reducible (first | refine u'1 fun _ _ => ?_ | refine u'W ?_ | (first | refine u'R ?_ | refine u'5 fun _ _ _ _ => ?_ | refine u'6 (fun hg => ?_) (fun hg => ?_) <;> try simp only [hg]) <;> simp only [wS, simprocAttr]))
 refine aA hG0 (Pure.lend hG0 yI (.cons (.full rfl) .nil)) ?_
 simp only [wS, simprocAttr, qF]
 refine DV (DU c0 hc0 [] (by simp) [] _ (by simp only [wS, simprocAttr]) (by simp only [wS, simprocAttr]) (by simp only [wS, simprocAttr]; try exact rfl)) ?_
 simp only [wS, simprocAttr]
 repeat' (first | with_reducible (first | refine u'1 fun _ _ => ?_ | refine u'W ?_ | (first | refine u'R ?_ | refine u'5 fun _ _ _ _ => ?_ | refine u'6 (fun hg => ?_) (fun hg => ?_) <;> try simp only [hg]) <;> simp only [wS, simprocAttr]))
 refine ⟨by kernel_rfl, ?_⟩
 repeat' (first | with_reducible (first | refine u'1 fun _ _ => ?_ | refine u'W ?_ | (first | refine u'R ?_ | refine u'5 fun _ _ _ _ => ?_ | refine u'6 (fun hg => ?_) (fun hg => ?_) <;> try simp only [hg]) <;> simp only [wS, simprocAttr, Bool.not_true, Bool.not_false, eK, CV, hln]))
 refine nX (α := {i : Nat // i ≤ ks.length}) (fun i => [(1, .sl true []), (2, .ptr 2 0 0), (3, .ptr 3 0 0), (15, .sl false EE), (16, .int .i64 (ks.length : Nat)), (17, .int .i64 (i.1 : Nat))]) (fun i => [R0 ([] :: iE [] 0 (ks.take i.1)), LP c0, .cells 0 [.yld 1], .cells 0 [.fn (.func 107) [] [.ptr 2 0 0, .ptr 3 0 0]], .dead, .cells 0 [.int .i64 kk, .int .i64 nn, .int .i64 mm, .sl false EE], R6 ([] :: iE [] 0 (ks.take i.1))]) (fun i => ks.length - i.1) ⟨0, Nat.zero_le _⟩ ⟨?_, .inl ?_⟩ ?_
 ·simp only [wS, simprocAttr]; try exact rfl
 ·simp only [wS, simprocAttr, iE]; try exact rfl
 ·rintro ⟨i, hi⟩ K3 hK3
  repeat' (first | with_reducible (first | refine u'1 fun _ _ => ?_ | refine u'W ?_ | (first | refine u'R ?_ | refine u'5 fun _ _ _ _ => ?_ | refine u'6 (fun hg => ?_) (fun hg => ?_) <;> try simp only [hg]) <;> simp only [wS, simprocAttr]))
  refine ⟨fun h => ?_, fun h => ?_⟩
  ·have hlt : i < ks.length := by simpa using h
   obtain ⟨e, he⟩ : ∃ e, ks[i]? = some e := ⟨_, List.getElem?_eq_getElem hlt⟩
   have hne2 : T.size e ≤ D := by have := T.size_mem (List.mem_of_getElem? he); omega
   have hg := hgt i e he
   have hltE : i < EE.length := by omega
   have htk := pS (p := []) he
   have hle := y6 [] ks (i + 1)
   rw [htk, List.length_append] at hle
   have e3 := aM (k := i) hlt (by omega)
   obtain ⟨ea, eb, ec, ed, hee⟩ := aK e
   rw [hee] at hg
   repeat' (first | with_reducible (first | refine u'1 fun _ _ => ?_ | refine u'W ?_ | (first | refine u'R ?_ | refine u'5 fun _ _ _ _ => ?_ | refine u'6 (fun hg => ?_) (fun hg => ?_) <;> try simp only [hg]) <;> simp only [wS, simprocAttr, hg, hltE, hlt]))
   refine gL (sz := 1) (by' := 8) (mm := 1) (new := [.int .i64 (i : Int)]) (es := []) (by kernel_rfl) ?hb (by simp) ?hc (by decide) (by simp) ?_
   case hb => simp only [wS, simprocAttr]; try exact rfl
   case hc => simp [cV]
   simp only [wS, simprocAttr]
   refine cQ (y5 (p := []) (I5 (b := 8) (by decide) (NJ D)) hc0 hne2 hee i (by simpa using hD) (ps := [] :: iE [] 0 (ks.take i)) (by simp) (by simp only [List.length_cons]; omega) 0 _ (by simp only [wS, simprocAttr]) (by simp only [wS, simprocAttr]) (by simp only [wS, simprocAttr]) (by simp only [wS, simprocAttr]) (by simp only [wS, simprocAttr]; try exact rfl) (by simp only [wS, simprocAttr])) ?_
   simp only [wS, simprocAttr]
   refine ⟨by kernel_rfl, ?_⟩
   repeat' (first | with_reducible (first | refine u'1 fun _ _ => ?_ | refine u'W ?_ | (first | refine u'R ?_ | refine u'5 fun _ _ _ _ => ?_ | refine u'6 (fun hg => ?_) (fun hg => ?_) <;> try simp only [hg]) <;> simp only [wS, simprocAttr, Bool.not_true, Bool.not_false, e3]))
   refine hK3.go ⟨i + 1, hlt⟩ ⟨?_, .inr ⟨?_, ?_, ?_, ?_, ?_⟩⟩ (by simp only; omega)
   ·simp only [wS, simprocAttr]; try exact rfl
   ·simp only [wS, simprocAttr]; try exact rfl
   ·simp only [wS, simprocAttr, htk, List.append_assoc]; try exact rfl
   ·exact fun g cs hg => aU (p := aC) (fun r hr => by cases hr) (hG0 g cs hg)
   ·intro q hq
    simp only [List.mem_cons, List.not_mem_nil, or_false] at hq
    rcases hq with rfl | rfl | rfl | rfl | rfl | rfl <;> first | rfl | exact dB (p := aC) (fun r hr => by cases hr) hEt
   ·exact RY c0 hc0 [.int .i64 kk, .int .i64 nn, .int .i64 mm, .sl false EE] hctree _
  ·have hge : i = ks.length := by simp at h; omega
   repeat' (first | with_reducible (first | refine u'1 fun _ _ => ?_ | refine u'W ?_ | (first | refine u'R ?_ | refine u'5 fun _ _ _ _ => ?_ | refine u'6 (fun hg => ?_) (fun hg => ?_) <;> try simp only [hg]) <;> simp only [wS, simprocAttr]))
   refine aD rfl ?_
   simp only [wS, simprocAttr, inR, hge, List.take_length, eK]
   intro r hr
   simp only [List.mem_cons, List.not_mem_nil, or_false] at hr
   rcases hr with rfl | rfl | rfl | rfl | rfl
   ·exact ⟨rfl, mA rfl⟩
   ·exact ⟨h1.symm, i6 hc0 rfl⟩
   ·exact ⟨h2.symm, rfl⟩
   ·exact ⟨h3.symm, rfl⟩
   ·exact ⟨rfl, kY (ps := [] :: iE [] 0 ks)⟩
theorem EH {D : Nat} (c0 : List AV) (hc0 : inL aC c0 = true) (c : T) (hc : T.size c ≤ D + 1) (hD : D + 1 ≤ 1000000000000) (hlen : (dT [] c).length ≤ 4398046511104) (rows : Nat → ARow)
  (h0 : rows 0 = R0 []) (h1 : rows 1 = LP c0) (h6 : rows 6 = .none) : cB Tryz.prog G0 106 [.yld 1, .imm (T.enc c)] rows [0, 1, 6] ⟨.tup [], [(0, R0 (dT [] c)), (6, R6 (dT [] c))]⟩ := by
 have hctree := T.enc_tree c
 generalize hvis : dT [] c = qs at hlen ⊢
 obtain ⟨a0, b0, d0, e0, hee⟩ := aK c
 have hEt : inE aC e0 = true := by rw [hee] at hctree; simpa only [inL, inR, Bool.true_and, Bool.and_true] using hctree
 refine bG [R0 [], LP c0] hG0 Tryz.func106 rfl (by kernel_rfl) (by simp [Tryz.ntmps106]) ?_ ?_ ?_ ?_ ?_ ?_ ?_
 ·intro r hr
  simp only [List.mem_cons, List.not_mem_nil, or_false] at hr
  rcases hr with rfl | rfl | rfl
  ·exact h0.symm
  ·exact h1.symm
  ·exact h6.symm
 ·intro r hr
  match r, hr with
  | 0, hr => exact absurd (by simp) hr
  | 1, hr => exact absurd (by simp) hr
  | r + 2, _ => simp
 ·rw [hee]
  simp only [inL, inR, inE, List.length_cons, List.length_nil, Nat.reduceAdd, Nat.reduceLT, decide_true, Bool.true_and, Bool.and_true]
  exact dB (p := aC) (fun r hr => by cases hr) hEt
 ·intro r hr
  simp only [List.mem_cons, List.not_mem_nil, or_false] at hr
  rcases hr with rfl | rfl | rfl
  ·rw [h0]; rfl
  ·rw [h1]; exact i6 hc0 rfl
  ·rw [h6]; rfl
 ·intro r hr h
  simp only [List.mem_cons, List.not_mem_nil, or_false] at hr
  simp only [List.length_cons, List.length_nil] at h
  rcases hr with rfl | rfl | rfl
  ·omega
  ·omega
  ·exact h6
 ·simp
 simp only [Tryz.ntmps106, aF, Nat.reduceAdd, List.length_cons, List.length_nil]
 rw [hee]
 repeat' (first | with_reducible (first | refine u'1 fun _ _ => ?_ | refine u'W ?_ | (first | refine u'R ?_ | refine u'5 fun _ _ _ _ => ?_ | refine u'6 (fun hg => ?_) (fun hg => ?_) <;> try simp only [hg]) <;> simp only [wS, simprocAttr]))
 have key := fun rows a b c' d e => LO c0 hc0 c hc hD (by rw [hvis]; exact hlen) rows a b c' d e
 rw [hvis, hee] at key
 refine cQ (key _ (by simp only [wS, simprocAttr]) (by simp only [wS, simprocAttr]) (by simp only [wS, simprocAttr]) (by simp only [wS, simprocAttr]) (by simp only [wS, simprocAttr]; try exact rfl)) ?_
 simp only [wS, simprocAttr]
 repeat' (first | with_reducible (first | refine u'1 fun _ _ => ?_ | refine u'W ?_ | (first | refine u'R ?_ | refine u'5 fun _ _ _ _ => ?_ | refine u'6 (fun hg => ?_) (fun hg => ?_) <;> try simp only [hg]) <;> simp only [wS, simprocAttr]))
 refine iB rfl ?_
 simp only [wS, simprocAttr, inR, inL]
 intro r hr
 simp only [List.mem_cons, List.not_mem_nil, or_false] at hr
 rcases hr with rfl | rfl | rfl
 ·exact ⟨rfl, mA (ps := qs) rfl⟩
 ·exact ⟨h1.symm, i6 hc0 rfl⟩
 ·exact ⟨rfl, kY (ps := qs)⟩
theorem Q6 [rd : Rnd] {b : Nat} (hround : rd.round = none) (hbase : rd.base = some b) {D : Nat} (c : T) (hc : T.size c ≤ D + 1) (hD : D + 1 ≤ 1000000000000) (hlen : (dT [] c).length ≤ 4398046511104) {cd : Code} (hcd : Tryz.f105.body = some cd) (Q : Exit → AS → Prop)
  (hQ : ∀ s, s.get 4 = .sl false (PE (dT [] c)) → s.h = [] → Q .ret s) : AWp Tryz.prog G0 13 0 cd (fun e s => ∃ s', Ref G0 13 0 s s' ∧ Q e s') ⟨mkF (aF 0 [.sl true [], .fn (.func 106) [] [.imm (T.enc c)]]), []⟩ := by
 simp only [Tryz.f105, Option.some.injEq] at hcd
 subst hcd
 have hct := T.enc_tree c
 simp only [aF, Nat.reduceAdd]
 repeat' (first | with_reducible (first | refine u'1 fun _ _ => ?_ | refine u'W ?_ | (first | refine u'R ?_ | refine u'5 fun _ _ _ _ => ?_ | refine u'6 (fun hg => ?_) (fun hg => ?_) <;> try simp only [hg]) <;> simp only [wS, simprocAttr]))
 obtain ⟨q0, qs, hqs⟩ : ∃ q0 qs, dT [] c = q0 :: qs := by
  obtain ⟨kk, nn, mm, ks⟩ := c
  exact ⟨_, _, rU _ _ _ _ _⟩
 have key := EH (T.enc c) hct c hc hD hlen
 rw [hqs] at key hQ
 have hav : fF [] 6 1 (PE (q0 :: qs)) = .osl 6 qs.length 0 (qs.length + 1) 1 false := by simp [fF, PE]
 have har : R6 (q0 :: qs) = .cells qs.length (PE (q0 :: qs)).flatten := by simp [R6, cK, PE]
 refine gM (gf := 106) (first := []) (cap := [.imm (T.enc c)]) (fp := [0, 1, 6]) (eff := ⟨.tup [], [(0, R0 (q0 :: qs)), (6, R6 (q0 :: qs))]⟩) hround hbase ?hg (key _ ?h0 ?h1 ?h6) (.inl ⟨FR (T.enc c), pX.1, pX.2.1, pX.2.2, ?hl, ?hk⟩)
 case hg => simp only [wS, simprocAttr]
 case h0 => rfl
 case h1 => rfl
 case h6 => rfl
 case hl => rfl
 case hk =>
 simp only [wS, simprocAttr]
 repeat' (first | with_reducible (first | refine u'1 fun _ _ => ?_ | refine u'W ?_ | (first | refine u'R ?_ | refine u'5 fun _ _ _ _ => ?_ | refine u'6 (fun hg => ?_) (fun hg => ?_) <;> try simp only [hg]) <;> simp only [wS, simprocAttr, R0, hav]))
 refine ⟨_, FU [] hG0 (t := 4) (r := 6) (ver := qs.length) (m := qs.length + 1) (sz := 1) (full := false) (es := PE (q0 :: qs)) (cs := (PE (q0 :: qs)).flatten) (by simp only [wS, simprocAttr]) (by simp only [wS, simprocAttr]; exact har) ?_ (by simp [PE]) (LI _) (mP _) trivial (by simp), hQ _ ?_ rfl⟩
 ·rw [List.take_of_length_le (by rw [cA (LI _)]; simp [PE])]
 ·simp only [wS, simprocAttr]
theorem QP {D : Nat} (c : T) (hc : T.size c ≤ D + 1) (hD : D + 1 ≤ 1000000000000) (hlen : (dT [] c).length ≤ 4398046511104) : Pure Tryz.prog G0 105 [.sl true [], .fn (.func 106) [] [.imm (T.enc c)]] (.sl false (PE (dT [] c))) := by
 refine ⟨by simp only [inR]; exact mP _, fun rows => ?_⟩
 refine lT (H := []) ⟨hG0, by simp, fun r _ => by simp, by simp, by simp⟩ Tryz.func105 rfl (by kernel_rfl) (by simp [Tryz.ntmps105]) ?_ (by simp) fun b => ?_
 ·simp only [inL, inR, inE, Bool.true_and, Bool.and_true]
  exact aU (p := aC) (fun r hr => by cases hr) (T.enc_tree c)
 refine @sA ⟨none, some b⟩ _ _ _ _ _ _ _ ?_
 refine @Q6 ⟨none, some b⟩ b rfl rfl D c hc hD hlen _ rfl _ fun s h4 hh => ?_
 refine aD rfl ?_
 rw [h4]
 refine ⟨rfl, ?_, fun r hr => by cases hr⟩
 simp only [inR]
 exact dB (p := aC) (fun r hr => by cases hr) (mP _)
theorem F3 {D : Nat} (c : T) (hc : T.size c ≤ D + 1) (hD : D + 1 ≤ 1000000000000) (hlen : (dT [] c).length ≤ 4398046511104) : Pure Tryz.prog G0 93 [.fn (.func 106) [] [.imm (T.enc c)]] (.sl false (PE (dT [] c))) := by
 refine aL hG0 Tryz.func93 rfl (by kernel_rfl) (by simp [Tryz.ntmps93]) (by simp [inL, inR, (T.enc_tree c)]) (by simp only [inR]; exact mP _) ?_
 simp only [Tryz.ntmps93, aF, Nat.reduceAdd]
 repeat' (first | with_reducible (first | refine u'1 fun _ _ => ?_ | refine u'W ?_ | (first | refine u'R ?_ | refine u'5 fun _ _ _ _ => ?_ | refine u'6 (fun hg => ?_) (fun hg => ?_) <;> try simp only [hg]) <;> simp only [wS, simprocAttr]))
 refine aA hG0 (QP c hc hD hlen) ?_
 simp only [wS, simprocAttr]
 repeat' (first | with_reducible (first | refine u'1 fun _ _ => ?_ | refine u'W ?_ | (first | refine u'R ?_ | refine u'5 fun _ _ _ _ => ?_ | refine u'6 (fun hg => ?_) (fun hg => ?_) <;> try simp only [hg]) <;> simp only [wS, simprocAttr]))
 refine aD rfl ?_
 simp only [wS, simprocAttr]
theorem H5 (c : List AV) (hc : inL aC c = true) (h4 : ∃ k n m b es, c = [.int .i64 k, .int .i64 n, .int .i64 m, .sl b es]) (rows : Nat → ARow) (h1 : rows 1 = .none) : cB Tryz.prog G0 94 [.agg c] rows [1] ⟨.fn (.func 106) [] [.ptr 1 0 0], [(1, .cells 0 c)]⟩ := by
 obtain ⟨k, n, m, b, es, rfl⟩ := h4
 have hm : ∀ q : Nat → Bool, inL q [.int .i64 k, .int .i64 n, .int .i64 m, .sl b es] = true := fun q => aU (p := aC) (fun r hr => by cases hr) hc
 refine bG [.dead] hG0 Tryz.func94 rfl (by kernel_rfl) (by simp [Tryz.ntmps94]) ?_ ?_ ?_ ?_ ?_ ?_ ?_
 ·intro r hr
  rw [List.mem_singleton.1 hr]; exact h1.symm
 ·intro r hr
  match r, hr with
  | 0, _ => simp
  | 1, hr => exact absurd (by simp) hr
  | r + 2, _ => simp
 ·have := hm (fun r => decide (r < [ARow.dead].length))
  simp only [inL, inR, Bool.and_true] at this ⊢
  exact this
 ·intro r hr
  rw [List.mem_singleton.1 hr, h1]; rfl
 ·intro r hr _
  rw [List.mem_singleton.1 hr]; exact h1
 ·simp
 simp only [Tryz.ntmps94, aF, Nat.reduceAdd, List.length_cons, List.length_nil]
 repeat' (first | with_reducible (first | refine u'1 fun _ _ => ?_ | refine u'W ?_ | (first | refine u'R ?_ | refine u'5 fun _ _ _ _ => ?_ | refine u'6 (fun hg => ?_) (fun hg => ?_) <;> try simp only [hg]) <;> simp only [wS, simprocAttr]))
 refine aD rfl ?_
 simp only [wS, simprocAttr, inR, inL]
 refine ⟨rfl, fun r hr => ?_⟩
 rw [List.mem_singleton.1 hr]
 exact ⟨rfl, hm _⟩
theorem J9 {D : Nat} (c : T) (hc : T.size c ≤ D + 1) (hD : D + 1 ≤ 1000000000000) (hlen : (dT [] c).length ≤ 4398046511104) : Pure Tryz.prog G0 61 [.agg (T.enc c)] (.sl false (PE (dT [] c))) := by
 have hct := T.enc_tree c
 have hc4 : ∃ k n m b es, T.enc c = [.int .i64 k, .int .i64 n, .int .i64 m, .sl b es] := by
  obtain ⟨a, b, d, e, h⟩ := aK c
  exact ⟨_, _, _, _, _, h⟩
 have k20 := H5 (T.enc c) hct hc4
 have k19 := F3 c hc hD hlen
 refine aL hG0 Tryz.func61 rfl (by kernel_rfl) (by simp [Tryz.ntmps61]) (by simp only [inL, inR, Bool.and_true]; exact hct) (by simp only [inR]; exact mP _) ?_
 simp only [Tryz.ntmps61, aF, Nat.reduceAdd]
 obtain ⟨k, n, m, b, es, hee⟩ := hc4
 rw [hee] at k20 k19 hct ⊢
 repeat' (first | with_reducible (first | refine u'1 fun _ _ => ?_ | refine u'W ?_ | (first | refine u'R ?_ | refine u'5 fun _ _ _ _ => ?_ | refine u'6 (fun hg => ?_) (fun hg => ?_) <;> try simp only [hg]) <;> simp only [wS, simprocAttr]))
 refine cQ (k20 _ (by simp only [wS, simprocAttr]; try exact rfl)) ?_
 simp only [wS, simprocAttr]
 refine cQ (nW [1] (k19.2 _) ⟨.inr (.fn .nil (.cons (.ptr (by simp) (by simp only [wS, simprocAttr]; try exact rfl) (.cons (.same rfl) (.cons (.same rfl) (.cons (.same rfl) (.cons (.same ?_) .nil))))) .nil)), trivial⟩ (by simp)) ?_
 ·simp only [inL, inR, Bool.true_and, Bool.and_true] at hct ⊢
  exact hct
 simp only [wS, simprocAttr]
 repeat' (first | with_reducible (first | refine u'1 fun _ _ => ?_ | refine u'W ?_ | (first | refine u'R ?_ | refine u'5 fun _ _ _ _ => ?_ | refine u'6 (fun hg => ?_) (fun hg => ?_) <;> try simp only [hg]) <;> simp only [wS, simprocAttr]))
 refine aD rfl ?_
 simp only [wS, simprocAttr]
end Go.Proofs.YtblfpppnkdokdaaGreatDoor
set_option maxRecDepth 100000
namespace Go.Proofs.YtblfpppnkdokdaaGreatDoor
open Go.AM
theorem I6 (t : T) : dT [] t = T.paths t := by simp [dT]
theorem tI (t : T) (ht : T.size t ≤ 100000000000) : Pure Tryz.prog G0 61 [.agg (T.enc t)] (.sl false (PE (T.paths t))) := by
 have h := J9 (D := 100000000000) t (by omega) (by decide) (by rw [I7]; omega)
 rwa [I6] at h
theorem qW {f : FuncId} {a c : List AV} {res : AV} (h : Pure Tryz.prog G0 f [.agg c] res) (ht : inL aC a = true) (e : wkL a = c) : Pure Tryz.prog G0 f [.agg a] res :=
 h.lend hG0 (.cons (oR (.same (by simpa only [inR] using ht)) (by rw [AM.wk, e])) .nil)
def NS : T := .mk 17 0 0 [.mk 9 10 0 [.mk 9 0 0 [.mk 6 0 0 [], .mk 4 1 0 []], .mk 4 2 0 []], .mk 13 0 0 [.mk 25 0 0 []], .mk 13 0 0 []]
theorem EI : Pure Tryz.prog G0 61 [jP] (.sl false [[.sl false []], [.sl false [[.int .i64 0]]], [.sl false [[.int .i64 0], [.int .i64 0]]], [.sl false [[.int .i64 0], [.int .i64 0], [.int .i64 0]]], [.sl false [[.int .i64 0], [.int .i64 0], [.int .i64 1]]], [.sl false [[.int .i64 0], [.int .i64 1]]], [.sl false [[.int .i64 1]]], [.sl false [[.int .i64 1], [.int .i64 0]]], [.sl false [[.int .i64 2]]]]) :=
 qW (c := T.enc NS) (tI NS (by decide)) (by decide +kernel) (by kernel_rfl)
end Go.Proofs.YtblfpppnkdokdaaGreatDoor
