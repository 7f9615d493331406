import Derived.Test.YtblfpppnkdokdaaGreatDoorP1
import Derived.Test.YtblfpppnkdokdaaGreatDoorR0
import Derived.Test.YtblfpppnkdokdaaGreatDoorHP
set_option linter.unusedVariables false
set_option linter.unusedSimpArgs false
namespace Go.Proofs.YtblfpppnkdokdaaGreatDoor
open Go.AM
attribute [local irreducible] AWp aP aT bC bH bN aI aL bG
set_option maxRecDepth 100000
theorem M7 {ver : Nat} {row4 : List AV} (c0 : List AV) (hc0 : inL aB c0 = true) (c : List AV) (hc : inL aB c = true) (qs : List (List Int)) (h4 : inL aB row4 = true) : ([R0 qs, LP c0, .cells 0 [.yld 1], .cells 0 [.fn (.func 107) [] [.ptr 2 0 0, .ptr 3 0 0]], .cells ver row4, .dead, R6 qs, .cells 0 c] : List ARow).all (aD fun r => decide (r < 8)) = true := by
 have m : ∀ x : List AV, inL aB x = true → inL (fun r => decide (r < 8)) x = true := fun x => aV (p := aB) (fun r hr => by cases hr)
 simp only [List.all_cons, List.all_nil, Bool.and_true, Bool.and_eq_true]
 exact ⟨lZ rfl, i6 hc0 rfl, rfl, rfl, m _ h4, rfl, kX, m _ hc⟩
def iF : Nat → List AV
 | 0 => []
 | i + 1 => [.int .i64 (i : Nat)]
theorem nP {q : Nat → Bool} (i : Nat) : inL q (iF i) = true := by cases i <;> rfl
theorem JE {p : List Int} {i : Nat} {x : List AV} : List.take (p.length * 1) (cI p ++ iF i) ++ x ++ List.drop ((p.length + 1) * 1) (cI p ++ iF i) = cI p ++ x := by
 have hl := uT p
 have h2 : (iF i).length ≤ 1 := by cases i <;> simp [iF]
 rw [Nat.mul_one, Nat.mul_one, List.take_append_of_le_length (by omega), List.take_of_length_le (by omega), List.drop_eq_nil_of_le (by rw [List.length_append]; omega), List.append_nil]
set_option maxHeartbeats 4000000 in
theorem L7 {D : Nat} (ih : DE 4 D) (c0 : List AV) (hc0 : inL aB c0 = true) (c : T) (hc : T.size c ≤ D + 1) (p : List Int) (hp : p ≠ []) (hpl : p.length + (D + 1) ≤ 1000000000000) (ps : List (List Int)) (hps : ps ≠ []) (hlen : ps.length + (dP p c).length ≤ 4398046511104) (ver : Nat) (rows : Nat → ARow)
  (h0 : rows 0 = R0 ps) (h1 : rows 1 = LP c0) (h2 : rows 2 = .cells 0 [.yld 1]) (h3 : rows 3 = .cells 0 [.fn (.func 107) [] [.ptr 2 0 0, .ptr 3 0 0]]) (h4 : rows 4 = .cells ver (cI p)) (h6 : rows 6 = R6 ps) :
  cC Tryz.prog G0 107 [.agg (T.enc c), .osl 4 ver 0 p.length 1 true, .ptr 2 0 0, .ptr 3 0 0] rows [4, 0, 1, 2, 3, 6] ⟨.bool true, [(0, R0 (ps ++ dP p c)), (6, R6 (ps ++ dP p c))]⟩ := by
 have hctree := T.enc_tree c
 obtain ⟨kk, nn, mm, ks⟩ := c
 rw [T.enc] at hctree ⊢
 have hEt := T.encs_tree ks
 have hgt := fun (i : Nat) (e : T) => T.encs_get (es := ks) (i := i) (e := e)
 have hln := T.encs_len ks
 have hls := T.len_sizes ks
 simp only [T.size] at hc
 generalize hEE : T.encs ks = EE at hctree hEt hgt hln ⊢
 have hPne : PE ps ≠ [] := fun e => hps ((KY ps).1 e)
 rw [rO] at hlen ⊢
 simp only [List.length_cons] at hlen
 have hcl := uT p
 have hpos : 0 < p.length := List.length_pos_iff.2 hp
 refine bE [R0 ps, LP c0, .cells 0 [.yld 1], .cells 0 [.fn (.func 107) [] [.ptr 2 0 0, .ptr 3 0 0]], .cells ver (cI p), .dead, R6 ps] hG0 Tryz.func107 rfl (by kernel_rfl) (by simp [Tryz.ntmps107]) ?_ ?_ ?_ ?_ ?_ ?_ ?_
 ·intro r hr
  simp only [List.mem_cons, List.not_mem_nil, or_false] at hr
  rcases hr with rfl | rfl | rfl | rfl | rfl | rfl
  ·exact h4.symm
  ·exact h0.symm
  ·exact h1.symm
  ·exact h2.symm
  ·exact h3.symm
  ·exact h6.symm
 ·intro r hr
  match r, hr with
  | 0, hr => exact absurd (by simp) hr
  | 1, hr => exact absurd (by simp) hr
  | 2, hr => exact absurd (by simp) hr
  | 3, hr => exact absurd (by simp) hr
  | 4, hr => exact absurd (by simp) hr
  | 5, _ => simp
  | 6, hr => exact absurd (by simp) hr
  | r + 7, _ => simp
 ·simp only [inL, inR, List.length_cons, List.length_nil, Nat.reduceAdd, Nat.reduceLT, decide_true, Bool.true_and, Bool.and_true]
  exact dA (p := aB) (fun r hr => by cases hr) hEt
 ·intro r hr
  simp only [List.mem_cons, List.not_mem_nil, or_false] at hr
  rcases hr with rfl | rfl | rfl | rfl | rfl | rfl
  ·rw [h4]; exact e8 _ p
  ·rw [h0]; exact lZ rfl
  ·rw [h1]; exact i6 hc0 rfl
  ·rw [h2]; rfl
  ·rw [h3]; rfl
  ·rw [h6]; exact kX
 ·intro r hr h
  simp only [List.mem_cons, List.not_mem_nil, or_false] at hr
  simp only [List.length_cons, List.length_nil] at h
  omega
 ·simp
 simp only [Tryz.ntmps107, aF, Nat.reduceAdd, List.length_cons, List.length_nil]
 repeat' (first | with_reducible (first | refine u'1 fun _ _ => ?_ | refine u'W ?_ | (first | refine u'R ?_ | refine u'5 fun _ _ _ _ => ?_ | refine u'6 (fun hg => ?_) (fun hg => ?_) <;> try simp only [hg]) <;> simp only [wS, simprocAttr]))
 refine cK (CX p hp (by omega) ver true _ (by simp only [wS, simprocAttr]) (by simp only [wS, simprocAttr]; try exact rfl)) ?_
 simp only [wS, simprocAttr, qE]
 refine DI (wG [8] (DH c0 hc0 ps (by omega) p _ (by simp only [wS, simprocAttr]) (by simp only [wS, simprocAttr]) (by simp only [wS, simprocAttr])) ⟨.inr (.osl (cs := cI p) (by simp) (by simp only [wS, simprocAttr]; try exact rfl) (by simp) (by intro e he; obtain ⟨x, _, rfl⟩ := List.mem_map.1 he; rfl) (by rw [List.drop_zero, List.take_of_length_le (by omega), G6]) (cG p)), trivial⟩ (by decide)) ?_
 simp only [wS, simprocAttr]
 repeat' (first | with_reducible (first | refine u'1 fun _ _ => ?_ | refine u'W ?_ | (first | refine u'R ?_ | refine u'5 fun _ _ _ _ => ?_ | refine u'6 (fun hg => ?_) (fun hg => ?_) <;> try simp only [hg]) <;> simp only [wS, simprocAttr]))
 refine ⟨by kernel_rfl, ?_⟩
 repeat' (first | with_reducible (first | refine u'1 fun _ _ => ?_ | refine u'W ?_ | (first | refine u'R ?_ | refine u'5 fun _ _ _ _ => ?_ | refine u'6 (fun hg => ?_) (fun hg => ?_) <;> try simp only [hg]) <;> simp only [wS, simprocAttr, Bool.not_true, Bool.not_false, eI, CJ, hln]))
 refine nW (α := {i : Nat // i ≤ ks.length}) (fun i => [(1, .osl 4 ver 0 p.length 1 true), (2, .ptr 2 0 0), (3, .ptr 3 0 0), (15, .sl false EE), (16, .int .i64 (ks.length : Nat)), (17, .int .i64 (i.1 : Nat))]) (fun i => [R0 (ps ++ p :: hX p 0 (ks.take i.1)), LP c0, .cells 0 [.yld 1], .cells 0 [.fn (.func 107) [] [.ptr 2 0 0, .ptr 3 0 0]], .cells ver (cI p), .dead, R6 (ps ++ p :: hX p 0 (ks.take i.1)), .cells 0 [.int .i64 kk, .int .i64 nn, .int .i64 mm, .sl false EE]]) (fun i => ks.length - i.1) ⟨0, Nat.zero_le _⟩ ⟨?_, .inr ⟨?_, ?_, ?_, ?_, ?_⟩⟩ ?_
 ·simp only [wS, simprocAttr]; try exact rfl
 ·simp only [wS, simprocAttr]; try exact rfl
 ·simp only [wS, simprocAttr, hX, iF, eI, CJ]; try exact rfl
 ·exact fun g cs hg => aV (p := aB) (fun r hr => by cases hr) (hG0 g cs hg)
 ·intro q hq
  simp only [List.mem_cons, List.not_mem_nil, or_false] at hq
  rcases hq with rfl | rfl | rfl | rfl | rfl | rfl <;> first | rfl | exact dA (p := aB) (fun r hr => by cases hr) hEt
 ·exact M7 (ver := ver) (row4 := cI p) c0 hc0 [.int .i64 kk, .int .i64 nn, .int .i64 mm, .sl false EE] hctree _ (by exact e8 _ _)
 ·rintro ⟨i, hi⟩ K3 hK3
  repeat' (first | with_reducible (first | refine u'1 fun _ _ => ?_ | refine u'W ?_ | (first | refine u'R ?_ | refine u'5 fun _ _ _ _ => ?_ | refine u'6 (fun hg => ?_) (fun hg => ?_) <;> try simp only [hg]) <;> simp only [wS, simprocAttr]))
  refine ⟨fun h => ?_, fun h => ?_⟩
  ·have hlt : i < ks.length := by simpa using h
   obtain ⟨e, he⟩ : ∃ e, ks[i]? = some e := ⟨_, List.getElem?_eq_getElem hlt⟩
   have hne2 : T.size e ≤ D := by have := T.size_mem (List.mem_of_getElem? he); omega
   have hg := hgt i e he
   have hltE : i < EE.length := by omega
   have htk := pP (p := p) he
   have hle := yT p ks (i + 1)
   rw [htk, List.length_append] at hle
   have e3 := aO (k := i) hlt (by omega)
   obtain ⟨ea, eb, ec, ed, hee⟩ := aK e
   rw [hee] at hg
   repeat' (first | with_reducible (first | refine u'1 fun _ _ => ?_ | refine u'W ?_ | (first | refine u'R ?_ | refine u'5 fun _ _ _ _ => ?_ | refine u'6 (fun hg => ?_) (fun hg => ?_) <;> try simp only [hg]) <;> simp only [wS, simprocAttr, hg, hltE, hlt]))
   refine KA (sz := 1) (by' := 8) (mm := 1) (new := [.int .i64 (i : Int)]) (cs := cI p) (by kernel_rfl) ?ha (by omega) ?hb ?hc (by decide) (by omega) ?_
   case ha => simp only [wS, simprocAttr]
   case hb => simp only [wS, simprocAttr]; try exact rfl
   case hc => simp [cU]
   have hcut : List.take (p.length * 1) (List.drop 0 (cI p)) = cI p := by rw [List.drop_zero, List.take_of_length_le (by omega)]
   rw [hcut]
   simp only [wS, simprocAttr]
   refine cK (yS (HU (b := 9) (by decide) ih) hc0 hne2 hee i (by omega) (ps := ps ++ p :: hX p 0 (ks.take i)) (by simp) (by simp only [List.length_append, List.length_cons]; omega) 0 _ (by simp only [wS, simprocAttr]) (by simp only [wS, simprocAttr]) (by simp only [wS, simprocAttr]) (by simp only [wS, simprocAttr]) (by simp only [wS, simprocAttr]; try exact rfl) (by simp only [wS, simprocAttr])) ?_
   simp only [wS, simprocAttr]
   refine ⟨by kernel_rfl, ?_⟩
   repeat' (first | with_reducible (first | refine u'1 fun _ _ => ?_ | refine u'W ?_ | (first | refine u'R ?_ | refine u'5 fun _ _ _ _ => ?_ | refine u'6 (fun hg => ?_) (fun hg => ?_) <;> try simp only [hg]) <;> simp only [wS, simprocAttr, Bool.not_true, Bool.not_false, e3]))
   refine hK3.go ⟨i + 1, hlt⟩ ⟨?_, .inr ⟨?_, ?_, ?_, ?_, ?_⟩⟩ (by simp only; omega)
   ·simp only [wS, simprocAttr]; try exact rfl
   ·simp only [wS, simprocAttr]; try exact rfl
   ·simp only [wS, simprocAttr, htk, List.append_assoc, iF]; try exact rfl
   ·exact fun g cs hg => aV (p := aB) (fun r hr => by cases hr) (hG0 g cs hg)
   ·intro q hq
    simp only [List.mem_cons, List.not_mem_nil, or_false] at hq
    rcases hq with rfl | rfl | rfl | rfl | rfl | rfl <;> first | rfl | exact dA (p := aB) (fun r hr => by cases hr) hEt
   ·exact M7 (ver := ver) (row4 := cI p) c0 hc0 [.int .i64 kk, .int .i64 nn, .int .i64 mm, .sl false EE] hctree _ (by exact e8 _ _)
  ·have hge : i = ks.length := by simp at h; omega
   repeat' (first | with_reducible (first | refine u'1 fun _ _ => ?_ | refine u'W ?_ | (first | refine u'R ?_ | refine u'5 fun _ _ _ _ => ?_ | refine u'6 (fun hg => ?_) (fun hg => ?_) <;> try simp only [hg]) <;> simp only [wS, simprocAttr]))
   refine aE rfl ?_
   simp only [wS, simprocAttr, inR, hge, List.take_length, eI, T.kids]
   intro r hr
   simp only [List.mem_cons, List.not_mem_nil, or_false] at hr
   rcases hr with rfl | rfl | rfl | rfl | rfl | rfl
   ·exact ⟨h4.symm, by exact e8 _ p⟩
   ·exact ⟨rfl, lZ rfl⟩
   ·exact ⟨h1.symm, i6 hc0 rfl⟩
   ·exact ⟨h2.symm, rfl⟩
   ·exact ⟨h3.symm, rfl⟩
   ·exact ⟨rfl, kX⟩
set_option maxHeartbeats 4000000 in
theorem L6 {D : Nat} (ih : DE 4 D) (c0 : List AV) (hc0 : inL aB c0 = true) (c : T) (hc : T.size c ≤ D + 1) (p : List Int) (hp : p ≠ []) (hpl : p.length + (D + 1) ≤ 1000000000000) (ps : List (List Int)) (hps : ps ≠ []) (hlen : ps.length + (dP p c).length ≤ 4398046511104) (ver : Nat) (rows : Nat → ARow)
  (h0 : rows 0 = R0 ps) (h1 : rows 1 = LP c0) (h2 : rows 2 = .cells 0 [.yld 1]) (h3 : rows 3 = .cells 0 [.fn (.func 107) [] [.ptr 2 0 0, .ptr 3 0 0]]) (h4 : rows 4 = .cells ver (cI p)) (h6 : rows 6 = R6 ps) :
  cC Tryz.prog G0 107 [.agg (T.enc c), .rsl 4 ver 0 p.length 1, .ptr 2 0 0, .ptr 3 0 0] rows [4, 0, 1, 2, 3, 6] ⟨.bool true, [(0, R0 (ps ++ dP p c)), (6, R6 (ps ++ dP p c)), (4, .cells ver (cI p ++ iF (T.kids c).length))]⟩ := by
 have hctree := T.enc_tree c
 obtain ⟨kk, nn, mm, ks⟩ := c
 rw [T.enc] at hctree ⊢
 have hEt := T.encs_tree ks
 have hgt := fun (i : Nat) (e : T) => T.encs_get (es := ks) (i := i) (e := e)
 have hln := T.encs_len ks
 have hls := T.len_sizes ks
 simp only [T.size] at hc
 generalize hEE : T.encs ks = EE at hctree hEt hgt hln ⊢
 have hPne : PE ps ≠ [] := fun e => hps ((KY ps).1 e)
 rw [rO] at hlen ⊢
 simp only [List.length_cons] at hlen
 have hcl := uT p
 have hpos : 0 < p.length := List.length_pos_iff.2 hp
 refine bE [R0 ps, LP c0, .cells 0 [.yld 1], .cells 0 [.fn (.func 107) [] [.ptr 2 0 0, .ptr 3 0 0]], .cells ver (cI p), .dead, R6 ps] hG0 Tryz.func107 rfl (by kernel_rfl) (by simp [Tryz.ntmps107]) ?_ ?_ ?_ ?_ ?_ ?_ ?_
 ·intro r hr
  simp only [List.mem_cons, List.not_mem_nil, or_false] at hr
  rcases hr with rfl | rfl | rfl | rfl | rfl | rfl
  ·exact h4.symm
  ·exact h0.symm
  ·exact h1.symm
  ·exact h2.symm
  ·exact h3.symm
  ·exact h6.symm
 ·intro r hr
  match r, hr with
  | 0, hr => exact absurd (by simp) hr
  | 1, hr => exact absurd (by simp) hr
  | 2, hr => exact absurd (by simp) hr
  | 3, hr => exact absurd (by simp) hr
  | 4, hr => exact absurd (by simp) hr
  | 5, _ => simp
  | 6, hr => exact absurd (by simp) hr
  | r + 7, _ => simp
 ·simp only [inL, inR, List.length_cons, List.length_nil, Nat.reduceAdd, Nat.reduceLT, decide_true, Bool.true_and, Bool.and_true]
  exact dA (p := aB) (fun r hr => by cases hr) hEt
 ·intro r hr
  simp only [List.mem_cons, List.not_mem_nil, or_false] at hr
  rcases hr with rfl | rfl | rfl | rfl | rfl | rfl
  ·rw [h4]; exact e8 _ p
  ·rw [h0]; exact lZ rfl
  ·rw [h1]; exact i6 hc0 rfl
  ·rw [h2]; rfl
  ·rw [h3]; rfl
  ·rw [h6]; exact kX
 ·intro r hr h
  simp only [List.mem_cons, List.not_mem_nil, or_false] at hr
  simp only [List.length_cons, List.length_nil] at h
  omega
 ·simp
 simp only [Tryz.ntmps107, aF, Nat.reduceAdd, List.length_cons, List.length_nil]
 repeat' (first | with_reducible (first | refine u'1 fun _ _ => ?_ | refine u'W ?_ | (first | refine u'R ?_ | refine u'5 fun _ _ _ _ => ?_ | refine u'6 (fun hg => ?_) (fun hg => ?_) <;> try simp only [hg]) <;> simp only [wS, simprocAttr]))
 refine cK (uQ (CX p hp (by omega) ver false _ (by simp only [wS, simprocAttr]) (by simp only [wS, simprocAttr]; try exact rfl))) ?_
 simp only [wS, simprocAttr, qE]
 refine DI (wG [8] (DH c0 hc0 ps (by omega) p _ (by simp only [wS, simprocAttr]) (by simp only [wS, simprocAttr]) (by simp only [wS, simprocAttr])) ⟨.inr (.osl (cs := cI p) (by simp) (by simp only [wS, simprocAttr]; try exact rfl) (by simp) (by intro e he; obtain ⟨x, _, rfl⟩ := List.mem_map.1 he; rfl) (by rw [List.drop_zero, List.take_of_length_le (by omega), G6]) (cG p)), trivial⟩ (by decide)) ?_
 simp only [wS, simprocAttr]
 repeat' (first | with_reducible (first | refine u'1 fun _ _ => ?_ | refine u'W ?_ | (first | refine u'R ?_ | refine u'5 fun _ _ _ _ => ?_ | refine u'6 (fun hg => ?_) (fun hg => ?_) <;> try simp only [hg]) <;> simp only [wS, simprocAttr]))
 refine ⟨by kernel_rfl, ?_⟩
 repeat' (first | with_reducible (first | refine u'1 fun _ _ => ?_ | refine u'W ?_ | (first | refine u'R ?_ | refine u'5 fun _ _ _ _ => ?_ | refine u'6 (fun hg => ?_) (fun hg => ?_) <;> try simp only [hg]) <;> simp only [wS, simprocAttr, Bool.not_true, Bool.not_false, eI, CJ, hln]))
 refine nW (α := {i : Nat // i ≤ ks.length}) (fun i => [(1, .rsl 4 ver 0 p.length 1), (2, .ptr 2 0 0), (3, .ptr 3 0 0), (15, .sl false EE), (16, .int .i64 (ks.length : Nat)), (17, .int .i64 (i.1 : Nat))]) (fun i => [R0 (ps ++ p :: hX p 0 (ks.take i.1)), LP c0, .cells 0 [.yld 1], .cells 0 [.fn (.func 107) [] [.ptr 2 0 0, .ptr 3 0 0]], .cells ver (cI p ++ iF i.1), .dead, R6 (ps ++ p :: hX p 0 (ks.take i.1)), .cells 0 [.int .i64 kk, .int .i64 nn, .int .i64 mm, .sl false EE]]) (fun i => ks.length - i.1) ⟨0, Nat.zero_le _⟩ ⟨?_, .inr ⟨?_, ?_, ?_, ?_, ?_⟩⟩ ?_
 ·simp only [wS, simprocAttr]; try exact rfl
 ·simp only [wS, simprocAttr]; try exact rfl
 ·simp only [wS, simprocAttr, hX, iF, eI, CJ]; try exact rfl
 ·exact fun g cs hg => aV (p := aB) (fun r hr => by cases hr) (hG0 g cs hg)
 ·intro q hq
  simp only [List.mem_cons, List.not_mem_nil, or_false] at hq
  rcases hq with rfl | rfl | rfl | rfl | rfl | rfl <;> first | rfl | exact dA (p := aB) (fun r hr => by cases hr) hEt
 ·exact M7 (ver := ver) (row4 := cI p ++ iF 0) c0 hc0 [.int .i64 kk, .int .i64 nn, .int .i64 mm, .sl false EE] hctree _ (by exact iG (e8 _ _) (nP _))
 ·rintro ⟨i, hi⟩ K3 hK3
  repeat' (first | with_reducible (first | refine u'1 fun _ _ => ?_ | refine u'W ?_ | (first | refine u'R ?_ | refine u'5 fun _ _ _ _ => ?_ | refine u'6 (fun hg => ?_) (fun hg => ?_) <;> try simp only [hg]) <;> simp only [wS, simprocAttr]))
  refine ⟨fun h => ?_, fun h => ?_⟩
  ·have hlt : i < ks.length := by simpa using h
   obtain ⟨e, he⟩ : ∃ e, ks[i]? = some e := ⟨_, List.getElem?_eq_getElem hlt⟩
   have hne2 : T.size e ≤ D := by have := T.size_mem (List.mem_of_getElem? he); omega
   have hg := hgt i e he
   have hltE : i < EE.length := by omega
   have htk := pP (p := p) he
   have hle := yT p ks (i + 1)
   rw [htk, List.length_append] at hle
   have e3 := aO (k := i) hlt (by omega)
   obtain ⟨ea, eb, ec, ed, hee⟩ := aK e
   rw [hee] at hg
   repeat' (first | with_reducible (first | refine u'1 fun _ _ => ?_ | refine u'W ?_ | (first | refine u'R ?_ | refine u'5 fun _ _ _ _ => ?_ | refine u'6 (fun hg => ?_) (fun hg => ?_) <;> try simp only [hg]) <;> simp only [wS, simprocAttr, hg, hltE, hlt]))
   refine K8 (sz := 1) (by' := 8) (new := [.int .i64 (i : Int)]) (cs := cI p ++ iF i) (by kernel_rfl) ?ha (by rw [List.length_append]; omega) ?hc ?_
   case ha => simp only [wS, simprocAttr]
   case hc => simp [cU]
   rw [JE]
   simp only [wS, simprocAttr]
   refine cK (yS ih hc0 hne2 hee i (by omega) (ps := ps ++ p :: hX p 0 (ks.take i)) (by simp) (by simp only [List.length_append, List.length_cons]; omega) ver _ (by simp only [wS, simprocAttr]) (by simp only [wS, simprocAttr]) (by simp only [wS, simprocAttr]) (by simp only [wS, simprocAttr]) (by simp only [wS, simprocAttr]; try exact rfl) (by simp only [wS, simprocAttr])) ?_
   simp only [wS, simprocAttr]
   refine ⟨by kernel_rfl, ?_⟩
   repeat' (first | with_reducible (first | refine u'1 fun _ _ => ?_ | refine u'W ?_ | (first | refine u'R ?_ | refine u'5 fun _ _ _ _ => ?_ | refine u'6 (fun hg => ?_) (fun hg => ?_) <;> try simp only [hg]) <;> simp only [wS, simprocAttr, Bool.not_true, Bool.not_false, e3]))
   refine hK3.go ⟨i + 1, hlt⟩ ⟨?_, .inr ⟨?_, ?_, ?_, ?_, ?_⟩⟩ (by simp only; omega)
   ·simp only [wS, simprocAttr]; try exact rfl
   ·simp only [wS, simprocAttr]; try exact rfl
   ·simp only [wS, simprocAttr, htk, List.append_assoc, iF]; try exact rfl
   ·exact fun g cs hg => aV (p := aB) (fun r hr => by cases hr) (hG0 g cs hg)
   ·intro q hq
    simp only [List.mem_cons, List.not_mem_nil, or_false] at hq
    rcases hq with rfl | rfl | rfl | rfl | rfl | rfl <;> first | rfl | exact dA (p := aB) (fun r hr => by cases hr) hEt
   ·exact M7 (ver := ver) (row4 := cI p ++ iF (i + 1)) c0 hc0 [.int .i64 kk, .int .i64 nn, .int .i64 mm, .sl false EE] hctree _ (by exact iG (e8 _ _) (nP _))
  ·have hge : i = ks.length := by simp at h; omega
   repeat' (first | with_reducible (first | refine u'1 fun _ _ => ?_ | refine u'W ?_ | (first | refine u'R ?_ | refine u'5 fun _ _ _ _ => ?_ | refine u'6 (fun hg => ?_) (fun hg => ?_) <;> try simp only [hg]) <;> simp only [wS, simprocAttr]))
   refine aE rfl ?_
   simp only [wS, simprocAttr, inR, hge, List.take_length, eI, T.kids]
   intro r hr
   simp only [List.mem_cons, List.not_mem_nil, or_false] at hr
   rcases hr with rfl | rfl | rfl | rfl | rfl | rfl
   ·exact ⟨rfl, by show inL _ (cI p ++ iF ks.length) = true; exact iG (e8 _ _) (nP _)⟩
   ·exact ⟨rfl, lZ rfl⟩
   ·exact ⟨h1.symm, i6 hc0 rfl⟩
   ·exact ⟨h2.symm, rfl⟩
   ·exact ⟨h3.symm, rfl⟩
   ·exact ⟨rfl, kX⟩
theorem L4 {D : Nat} (ih : DE 4 D) : DE 4 (D + 1) := by
 intro c0 hc0 c hc p hp hpl ps hps hlen ver rows h0 h1 h2 h3 h4 h6
 have hl := uT p
 have m0 : ∀ (w : List (Nat × ARow)) q, q ≠ 0 → q ≠ 6 → upd rows [(0, R0 (ps ++ dP p c)), (6, R6 (ps ++ dP p c))] q = rows q := fun _ q a b => by rw [jW, if_neg b, if_neg a]
 refine D1 (pre := [.agg (T.enc c)]) (post := [.ptr 2 0 0, .ptr 3 0 0]) (r := 4) (cs := cI p) (L7 ih c0 hc0 c hc p hp hpl ps hps hlen ver rows h0 h1 h2 h3 h4 h6) (L6 ih c0 hc0 c hc p hp hpl ps hps hlen ver rows h0 h1 h2 h3 h4 h6) (by simp) h4 ?_ ?_ ?_ ?_ ?_ ?_
 ·intro q hq
  simp only [List.mem_cons, List.not_mem_nil, or_false] at hq
  rcases hq with rfl | rfl <;> simp
 ·exact ⟨cI p, by rw [jW]; exact h4, by rw [List.take_length]⟩
 ·exact ⟨_, by rw [eI, if_pos rfl], by rw [List.take_append_of_le_length (Nat.le_refl _), List.take_length]⟩
 ·intro q _ _; rfl
 ·intro q _ hq
  rw [eI, if_neg hq, jW]
 ·rw [jW]; exact h4
theorem MW : ∀ D, DE 4 D
 | 0 => fun c0 hc0 c hc => by
  have := T.size_pos c
  omega
 | D + 1 => L4 (MW D)
theorem RH (c0 : List AV) (hc0 : inL aB c0 = true) (c : List AV) (hc : inL aB c = true) (qs : List (List Int)) : ([R0 qs, LP c0, .cells 0 [.yld 1], .cells 0 [.fn (.func 107) [] [.ptr 2 0 0, .ptr 3 0 0]], .dead, .cells 0 c, R6 qs] : List ARow).all (aD fun r => decide (r < 7)) = true := by
 have m : ∀ x : List AV, inL aB x = true → inL (fun r => decide (r < 7)) x = true := fun x => aV (p := aB) (fun r hr => by cases hr)
 simp only [List.all_cons, List.all_nil, Bool.and_true, Bool.and_eq_true]
 exact ⟨lZ rfl, i6 hc0 rfl, rfl, rfl, rfl, m _ hc, kX⟩
set_option maxHeartbeats 4000000 in
theorem L5 {D : Nat} (c0 : List AV) (hc0 : inL aB c0 = true) (c : T) (hc : T.size c ≤ D + 1) (hD : D + 1 ≤ 1000000000000) (hlen : (dP [] c).length ≤ 4398046511104) (rows : Nat → ARow)
  (h0 : rows 0 = R0 []) (h1 : rows 1 = LP c0) (h2 : rows 2 = .cells 0 [.yld 1]) (h3 : rows 3 = .cells 0 [.fn (.func 107) [] [.ptr 2 0 0, .ptr 3 0 0]]) (h6 : rows 6 = .none) :
  cC Tryz.prog G0 107 [.agg (T.enc c), .sl true [], .ptr 2 0 0, .ptr 3 0 0] rows [0, 1, 2, 3, 6] ⟨.bool true, [(0, R0 (dP [] c)), (6, R6 (dP [] c))]⟩ := by
 have hctree := T.enc_tree c
 obtain ⟨kk, nn, mm, ks⟩ := c
 rw [T.enc] at hctree ⊢
 have hEt := T.encs_tree ks
 have hgt := fun (i : Nat) (e : T) => T.encs_get (es := ks) (i := i) (e := e)
 have hln := T.encs_len ks
 have hls := T.len_sizes ks
 simp only [T.size] at hc
 generalize hEE : T.encs ks = EE at hctree hEt hgt hln ⊢
 rw [rO] at hlen ⊢
 simp only [List.length_cons] at hlen
 refine bE [R0 [], LP c0, .cells 0 [.yld 1], .cells 0 [.fn (.func 107) [] [.ptr 2 0 0, .ptr 3 0 0]], .dead] hG0 Tryz.func107 rfl (by kernel_rfl) (by simp [Tryz.ntmps107]) ?_ ?_ ?_ ?_ ?_ ?_ ?_
 ·intro r hr
  simp only [List.mem_cons, List.not_mem_nil, or_false] at hr
  rcases hr with rfl | rfl | rfl | rfl | rfl
  ·exact h0.symm
  ·exact h1.symm
  ·exact h2.symm
  ·exact h3.symm
  ·exact h6.symm
 ·intro r hr
  match r, hr with
  | 0, hr => exact absurd (by simp) hr
  | 1, hr => exact absurd (by simp) hr
  | 2, hr => exact absurd (by simp) hr
  | 3, hr => exact absurd (by simp) hr
  | 4, _ => simp
  | 5, _ => simp
  | 6, hr => exact absurd (by simp) hr
  | r + 7, _ => simp
 ·simp only [inL, inR, inE, List.length_cons, List.length_nil, Nat.reduceAdd, Nat.reduceLT, decide_true, Bool.true_and, Bool.and_true]
  exact dA (p := aB) (fun r hr => by cases hr) hEt
 ·intro r hr
  simp only [List.mem_cons, List.not_mem_nil, or_false] at hr
  rcases hr with rfl | rfl | rfl | rfl | rfl
  ·rw [h0]; rfl
  ·rw [h1]; exact i6 hc0 rfl
  ·rw [h2]; rfl
  ·rw [h3]; rfl
  ·rw [h6]; rfl
 ·intro r hr h
  simp only [List.mem_cons, List.not_mem_nil, or_false] at hr
  simp only [List.length_cons, List.length_nil] at h
  rcases hr with rfl | rfl | rfl | rfl | rfl
  ·omega
  ·omega
  ·omega
  ·omega
  ·exact h6
 ·simp
 simp only [Tryz.ntmps107, aF, Nat.reduceAdd, List.length_cons, List.length_nil]
 repeat' (first | with_reducible (first | refine u'1 fun _ _ => ?_ | refine u'W ?_ | (first | refine u'R ?_ | refine u'5 fun _ _ _ _ => ?_ | refine u'6 (fun hg => ?_) (fun hg => ?_) <;> try simp only [hg]) <;> simp only [wS, simprocAttr]))
 refine aA hG0 (Pure.lend hG0 H8 (.cons (.full rfl) .nil)) ?_
 simp only [wS, simprocAttr, qE]
 refine DI (DH c0 hc0 [] (by simp) [] _ (by simp only [wS, simprocAttr]) (by simp only [wS, simprocAttr]) (by simp only [wS, simprocAttr]; try exact rfl)) ?_
 simp only [wS, simprocAttr]
 repeat' (first | with_reducible (first | refine u'1 fun _ _ => ?_ | refine u'W ?_ | (first | refine u'R ?_ | refine u'5 fun _ _ _ _ => ?_ | refine u'6 (fun hg => ?_) (fun hg => ?_) <;> try simp only [hg]) <;> simp only [wS, simprocAttr]))
 refine ⟨by kernel_rfl, ?_⟩
 repeat' (first | with_reducible (first | refine u'1 fun _ _ => ?_ | refine u'W ?_ | (first | refine u'R ?_ | refine u'5 fun _ _ _ _ => ?_ | refine u'6 (fun hg => ?_) (fun hg => ?_) <;> try simp only [hg]) <;> simp only [wS, simprocAttr, Bool.not_true, Bool.not_false, eI, CJ, hln]))
 refine nW (α := {i : Nat // i ≤ ks.length}) (fun i => [(1, .sl true []), (2, .ptr 2 0 0), (3, .ptr 3 0 0), (15, .sl false EE), (16, .int .i64 (ks.length : Nat)), (17, .int .i64 (i.1 : Nat))]) (fun i => [R0 ([] :: hX [] 0 (ks.take i.1)), LP c0, .cells 0 [.yld 1], .cells 0 [.fn (.func 107) [] [.ptr 2 0 0, .ptr 3 0 0]], .dead, .cells 0 [.int .i64 kk, .int .i64 nn, .int .i64 mm, .sl false EE], R6 ([] :: hX [] 0 (ks.take i.1))]) (fun i => ks.length - i.1) ⟨0, Nat.zero_le _⟩ ⟨?_, .inl ?_⟩ ?_
 ·simp only [wS, simprocAttr]; try exact rfl
 ·simp only [wS, simprocAttr, hX]; try exact rfl
 ·rintro ⟨i, hi⟩ K3 hK3
  repeat' (first | with_reducible (first | refine u'1 fun _ _ => ?_ | refine u'W ?_ | (first | refine u'R ?_ | refine u'5 fun _ _ _ _ => ?_ | refine u'6 (fun hg => ?_) (fun hg => ?_) <;> try simp only [hg]) <;> simp only [wS, simprocAttr]))
  refine ⟨fun h => ?_, fun h => ?_⟩
  ·have hlt : i < ks.length := by simpa using h
   obtain ⟨e, he⟩ : ∃ e, ks[i]? = some e := ⟨_, List.getElem?_eq_getElem hlt⟩
   have hne2 : T.size e ≤ D := by have := T.size_mem (List.mem_of_getElem? he); omega
   have hg := hgt i e he
   have hltE : i < EE.length := by omega
   have htk := pP (p := []) he
   have hle := yT [] ks (i + 1)
   rw [htk, List.length_append] at hle
   have e3 := aO (k := i) hlt (by omega)
   obtain ⟨ea, eb, ec, ed, hee⟩ := aK e
   rw [hee] at hg
   repeat' (first | with_reducible (first | refine u'1 fun _ _ => ?_ | refine u'W ?_ | (first | refine u'R ?_ | refine u'5 fun _ _ _ _ => ?_ | refine u'6 (fun hg => ?_) (fun hg => ?_) <;> try simp only [hg]) <;> simp only [wS, simprocAttr, hg, hltE, hlt]))
   refine gC (sz := 1) (by' := 8) (mm := 1) (new := [.int .i64 (i : Int)]) (es := []) (by kernel_rfl) ?hb (by simp) ?hc (by decide) (by simp) ?_
   case hb => simp only [wS, simprocAttr]; try exact rfl
   case hc => simp [cU]
   simp only [wS, simprocAttr]
   refine cK (yS (p := []) (HU (b := 8) (by decide) (MW D)) hc0 hne2 hee i (by simpa using hD) (ps := [] :: hX [] 0 (ks.take i)) (by simp) (by simp only [List.length_cons]; omega) 0 _ (by simp only [wS, simprocAttr]) (by simp only [wS, simprocAttr]) (by simp only [wS, simprocAttr]) (by simp only [wS, simprocAttr]) (by simp only [wS, simprocAttr]; try exact rfl) (by simp only [wS, simprocAttr])) ?_
   simp only [wS, simprocAttr]
   refine ⟨by kernel_rfl, ?_⟩
   repeat' (first | with_reducible (first | refine u'1 fun _ _ => ?_ | refine u'W ?_ | (first | refine u'R ?_ | refine u'5 fun _ _ _ _ => ?_ | refine u'6 (fun hg => ?_) (fun hg => ?_) <;> try simp only [hg]) <;> simp only [wS, simprocAttr, Bool.not_true, Bool.not_false, e3]))
   refine hK3.go ⟨i + 1, hlt⟩ ⟨?_, .inr ⟨?_, ?_, ?_, ?_, ?_⟩⟩ (by simp only; omega)
   ·simp only [wS, simprocAttr]; try exact rfl
   ·simp only [wS, simprocAttr]; try exact rfl
   ·simp only [wS, simprocAttr, htk, List.append_assoc]; try exact rfl
   ·exact fun g cs hg => aV (p := aB) (fun r hr => by cases hr) (hG0 g cs hg)
   ·intro q hq
    simp only [List.mem_cons, List.not_mem_nil, or_false] at hq
    rcases hq with rfl | rfl | rfl | rfl | rfl | rfl <;> first | rfl | exact dA (p := aB) (fun r hr => by cases hr) hEt
   ·exact RH c0 hc0 [.int .i64 kk, .int .i64 nn, .int .i64 mm, .sl false EE] hctree _
  ·have hge : i = ks.length := by simp at h; omega
   repeat' (first | with_reducible (first | refine u'1 fun _ _ => ?_ | refine u'W ?_ | (first | refine u'R ?_ | refine u'5 fun _ _ _ _ => ?_ | refine u'6 (fun hg => ?_) (fun hg => ?_) <;> try simp only [hg]) <;> simp only [wS, simprocAttr]))
   refine aE rfl ?_
   simp only [wS, simprocAttr, inR, hge, List.take_length, eI]
   intro r hr
   simp only [List.mem_cons, List.not_mem_nil, or_false] at hr
   rcases hr with rfl | rfl | rfl | rfl | rfl
   ·exact ⟨rfl, lZ rfl⟩
   ·exact ⟨h1.symm, i6 hc0 rfl⟩
   ·exact ⟨h2.symm, rfl⟩
   ·exact ⟨h3.symm, rfl⟩
   ·exact ⟨rfl, kX (ps := [] :: hX [] 0 ks)⟩
theorem DT {D : Nat} (c0 : List AV) (hc0 : inL aB c0 = true) (c : T) (hc : T.size c ≤ D + 1) (hD : D + 1 ≤ 1000000000000) (hlen : (dP [] c).length ≤ 4398046511104) (rows : Nat → ARow)
  (h0 : rows 0 = R0 []) (h1 : rows 1 = LP c0) (h6 : rows 6 = .none) : cC Tryz.prog G0 106 [.yld 1, .imm (T.enc c)] rows [0, 1, 6] ⟨.tup [], [(0, R0 (dP [] c)), (6, R6 (dP [] c))]⟩ := by
 have hctree := T.enc_tree c
 generalize hvis : dP [] c = qs at hlen ⊢
 obtain ⟨a0, b0, d0, e0, hee⟩ := aK c
 have hEt : inE aB e0 = true := by rw [hee] at hctree; simpa only [inL, inR, Bool.true_and, Bool.and_true] using hctree
 refine bE [R0 [], LP c0] hG0 Tryz.func106 rfl (by kernel_rfl) (by simp [Tryz.ntmps106]) ?_ ?_ ?_ ?_ ?_ ?_ ?_
 ·intro r hr
  simp only [List.mem_cons, List.not_mem_nil, or_false] at hr
  rcases hr with rfl | rfl | rfl
  ·exact h0.symm
  ·exact h1.symm
  ·exact h6.symm
 ·intro r hr
  match r, hr with
  | 0, hr => exact absurd (by simp) hr
  | 1, hr => exact absurd (by simp) hr
  | r + 2, _ => simp
 ·rw [hee]
  simp only [inL, inR, inE, List.length_cons, List.length_nil, Nat.reduceAdd, Nat.reduceLT, decide_true, Bool.true_and, Bool.and_true]
  exact dA (p := aB) (fun r hr => by cases hr) hEt
 ·intro r hr
  simp only [List.mem_cons, List.not_mem_nil, or_false] at hr
  rcases hr with rfl | rfl | rfl
  ·rw [h0]; rfl
  ·rw [h1]; exact i6 hc0 rfl
  ·rw [h6]; rfl
 ·intro r hr h
  simp only [List.mem_cons, List.not_mem_nil, or_false] at hr
  simp only [List.length_cons, List.length_nil] at h
  rcases hr with rfl | rfl | rfl
  ·omega
  ·omega
  ·exact h6
 ·simp
 simp only [Tryz.ntmps106, aF, Nat.reduceAdd, List.length_cons, List.length_nil]
 rw [hee]
 repeat' (first | with_reducible (first | refine u'1 fun _ _ => ?_ | refine u'W ?_ | (first | refine u'R ?_ | refine u'5 fun _ _ _ _ => ?_ | refine u'6 (fun hg => ?_) (fun hg => ?_) <;> try simp only [hg]) <;> simp only [wS, simprocAttr]))
 have key := fun rows a b c' d e => L5 c0 hc0 c hc hD (by rw [hvis]; exact hlen) rows a b c' d e
 rw [hvis, hee] at key
 refine cK (key _ (by simp only [wS, simprocAttr]) (by simp only [wS, simprocAttr]) (by simp only [wS, simprocAttr]) (by simp only [wS, simprocAttr]) (by simp only [wS, simprocAttr]; try exact rfl)) ?_
 simp only [wS, simprocAttr]
 repeat' (first | with_reducible (first | refine u'1 fun _ _ => ?_ | refine u'W ?_ | (first | refine u'R ?_ | refine u'5 fun _ _ _ _ => ?_ | refine u'6 (fun hg => ?_) (fun hg => ?_) <;> try simp only [hg]) <;> simp only [wS, simprocAttr]))
 refine g8 rfl ?_
 simp only [wS, simprocAttr, inR, inL]
 intro r hr
 simp only [List.mem_cons, List.not_mem_nil, or_false] at hr
 rcases hr with rfl | rfl | rfl
 ·exact ⟨rfl, lZ (ps := qs) rfl⟩
 ·exact ⟨h1.symm, i6 hc0 rfl⟩
 ·exact ⟨rfl, kX (ps := qs)⟩
theorem PQ [rd : Rnd] {b : Nat} (hround : rd.round = none) (hbase : rd.base = some b) {D : Nat} (c : T) (hc : T.size c ≤ D + 1) (hD : D + 1 ≤ 1000000000000) (hlen : (dP [] c).length ≤ 4398046511104) {cd : Code} (hcd : Tryz.f105.body = some cd) (Q : Exit → AS → Prop)
  (hQ : ∀ s, s.get 4 = .sl false (PE (dP [] c)) → s.h = [] → Q .ret s) : AWp Tryz.prog G0 13 0 cd (fun e s => ∃ s', Ref G0 13 0 s s' ∧ Q e s') ⟨mkF (aF 0 [.sl true [], .fn (.func 106) [] [.imm (T.enc c)]]), []⟩ := by
 simp only [Tryz.f105, Option.some.injEq] at hcd
 subst hcd
 have hct := T.enc_tree c
 simp only [aF, Nat.reduceAdd]
 repeat' (first | with_reducible (first | refine u'1 fun _ _ => ?_ | refine u'W ?_ | (first | refine u'R ?_ | refine u'5 fun _ _ _ _ => ?_ | refine u'6 (fun hg => ?_) (fun hg => ?_) <;> try simp only [hg]) <;> simp only [wS, simprocAttr]))
 obtain ⟨q0, qs, hqs⟩ : ∃ q0 qs, dP [] c = q0 :: qs := by
  obtain ⟨kk, nn, mm, ks⟩ := c
  exact ⟨_, _, rO _ _ _ _ _⟩
 have key := DT (T.enc c) hct c hc hD hlen
 rw [hqs] at key hQ
 have hav : fC [] 6 1 (PE (q0 :: qs)) = .osl 6 qs.length 0 (qs.length + 1) 1 false := by simp [fC, PE]
 have har : R6 (q0 :: qs) = .cells qs.length (PE (q0 :: qs)).flatten := by simp [R6, cL, PE]
 refine gD (gf := 106) (first := []) (cap := [.imm (T.enc c)]) (fp := [0, 1, 6]) (eff := ⟨.tup [], [(0, R0 (q0 :: qs)), (6, R6 (q0 :: qs))]⟩) hround hbase ?hg (key _ ?h0 ?h1 ?h6) (.inl ⟨FR (T.enc c), pV.1, pV.2.1, pV.2.2, ?hl, ?hk⟩)
 case hg => simp only [wS, simprocAttr]
 case h0 => rfl
 case h1 => rfl
 case h6 => rfl
 case hl => rfl
 case hk =>
 simp only [wS, simprocAttr]
 repeat' (first | with_reducible (first | refine u'1 fun _ _ => ?_ | refine u'W ?_ | (first | refine u'R ?_ | refine u'5 fun _ _ _ _ => ?_ | refine u'6 (fun hg => ?_) (fun hg => ?_) <;> try simp only [hg]) <;> simp only [wS, simprocAttr, R0, hav]))
 refine ⟨_, LT [] hG0 (t := 4) (r := 6) (ver := qs.length) (m := qs.length + 1) (sz := 1) (full := false) (es := PE (q0 :: qs)) (cs := (PE (q0 :: qs)).flatten) (by simp only [wS, simprocAttr]) (by simp only [wS, simprocAttr]; exact har) ?_ (by simp [PE]) (KX _) (mO _) trivial (by simp), hQ _ ?_ rfl⟩
 ·rw [List.take_of_length_le (by rw [b9 (KX _)]; simp [PE])]
 ·simp only [wS, simprocAttr]
theorem QA {D : Nat} (c : T) (hc : T.size c ≤ D + 1) (hD : D + 1 ≤ 1000000000000) (hlen : (dP [] c).length ≤ 4398046511104) : Pure Tryz.prog G0 105 [.sl true [], .fn (.func 106) [] [.imm (T.enc c)]] (.sl false (PE (dP [] c))) := by
 refine ⟨by simp only [inR]; exact mO _, fun rows => ?_⟩
 refine lT (H := []) ⟨hG0, by simp, fun r _ => by simp, by simp, by simp⟩ Tryz.func105 rfl (by kernel_rfl) (by simp [Tryz.ntmps105]) ?_ (by simp) fun b => ?_
 ·simp only [inL, inR, inE, Bool.true_and, Bool.and_true]
  exact aV (p := aB) (fun r hr => by cases hr) (T.enc_tree c)
 refine @AK ⟨none, some b⟩ _ _ _ _ _ _ _ ?_
 refine @PQ ⟨none, some b⟩ b rfl rfl D c hc hD hlen _ rfl _ fun s h4 hh => ?_
 refine aE rfl ?_
 rw [h4]
 refine ⟨rfl, ?_, fun r hr => by cases hr⟩
 simp only [inR]
 exact dA (p := aB) (fun r hr => by cases hr) (mO _)
theorem EN {D : Nat} (c : T) (hc : T.size c ≤ D + 1) (hD : D + 1 ≤ 1000000000000) (hlen : (dP [] c).length ≤ 4398046511104) : Pure Tryz.prog G0 93 [.fn (.func 106) [] [.imm (T.enc c)]] (.sl false (PE (dP [] c))) := by
 refine aM hG0 Tryz.func93 rfl (by kernel_rfl) (by simp [Tryz.ntmps93]) (by simp [inL, inR, (T.enc_tree c)]) (by simp only [inR]; exact mO _) ?_
 simp only [Tryz.ntmps93, aF, Nat.reduceAdd]
 repeat' (first | with_reducible (first | refine u'1 fun _ _ => ?_ | refine u'W ?_ | (first | refine u'R ?_ | refine u'5 fun _ _ _ _ => ?_ | refine u'6 (fun hg => ?_) (fun hg => ?_) <;> try simp only [hg]) <;> simp only [wS, simprocAttr]))
 refine aA hG0 (QA c hc hD hlen) ?_
 simp only [wS, simprocAttr]
 repeat' (first | with_reducible (first | refine u'1 fun _ _ => ?_ | refine u'W ?_ | (first | refine u'R ?_ | refine u'5 fun _ _ _ _ => ?_ | refine u'6 (fun hg => ?_) (fun hg => ?_) <;> try simp only [hg]) <;> simp only [wS, simprocAttr]))
 refine aE rfl ?_
 simp only [wS, simprocAttr]
theorem GS (c : List AV) (hc : inL aB c = true) (h4 : ∃ k n m b es, c = [.int .i64 k, .int .i64 n, .int .i64 m, .sl b es]) (rows : Nat → ARow) (h1 : rows 1 = .none) : cC Tryz.prog G0 94 [.agg c] rows [1] ⟨.fn (.func 106) [] [.ptr 1 0 0], [(1, .cells 0 c)]⟩ := by
 obtain ⟨k, n, m, b, es, rfl⟩ := h4
 have hm : ∀ q : Nat → Bool, inL q [.int .i64 k, .int .i64 n, .int .i64 m, .sl b es] = true := fun q => aV (p := aB) (fun r hr => by cases hr) hc
 refine bE [.dead] hG0 Tryz.func94 rfl (by kernel_rfl) (by simp [Tryz.ntmps94]) ?_ ?_ ?_ ?_ ?_ ?_ ?_
 ·intro r hr
  rw [List.mem_singleton.1 hr]; exact h1.symm
 ·intro r hr
  match r, hr with
  | 0, _ => simp
  | 1, hr => exact absurd (by simp) hr
  | r + 2, _ => simp
 ·have := hm (fun r => decide (r < [ARow.dead].length))
  simp only [inL, inR, Bool.and_true] at this ⊢
  exact this
 ·intro r hr
  rw [List.mem_singleton.1 hr, h1]; rfl
 ·intro r hr _
  rw [List.mem_singleton.1 hr]; exact h1
 ·simp
 simp only [Tryz.ntmps94, aF, Nat.reduceAdd, List.length_cons, List.length_nil]
 repeat' (first | with_reducible (first | refine u'1 fun _ _ => ?_ | refine u'W ?_ | (first | refine u'R ?_ | refine u'5 fun _ _ _ _ => ?_ | refine u'6 (fun hg => ?_) (fun hg => ?_) <;> try simp only [hg]) <;> simp only [wS, simprocAttr]))
 refine aE rfl ?_
 simp only [wS, simprocAttr, inR, inL]
 refine ⟨rfl, fun r hr => ?_⟩
 rw [List.mem_singleton.1 hr]
 exact ⟨rfl, hm _⟩
theorem IR {D : Nat} (c : T) (hc : T.size c ≤ D + 1) (hD : D + 1 ≤ 1000000000000) (hlen : (dP [] c).length ≤ 4398046511104) : Pure Tryz.prog G0 61 [.agg (T.enc c)] (.sl false (PE (dP [] c))) := by
 have hct := T.enc_tree c
 have hc4 : ∃ k n m b es, T.enc c = [.int .i64 k, .int .i64 n, .int .i64 m, .sl b es] := by
  obtain ⟨a, b, d, e, h⟩ := aK c
  exact ⟨_, _, _, _, _, h⟩
 have k20 := GS (T.enc c) hct hc4
 have k19 := EN c hc hD hlen
 refine aM hG0 Tryz.func61 rfl (by kernel_rfl) (by simp [Tryz.ntmps61]) (by simp only [inL, inR, Bool.and_true]; exact hct) (by simp only [inR]; exact mO _) ?_
 simp only [Tryz.ntmps61, aF, Nat.reduceAdd]
 obtain ⟨k, n, m, b, es, hee⟩ := hc4
 rw [hee] at k20 k19 hct ⊢
 repeat' (first | with_reducible (first | refine u'1 fun _ _ => ?_ | refine u'W ?_ | (first | refine u'R ?_ | refine u'5 fun _ _ _ _ => ?_ | refine u'6 (fun hg => ?_) (fun hg => ?_) <;> try simp only [hg]) <;> simp only [wS, simprocAttr]))
 refine cK (k20 _ (by simp only [wS, simprocAttr]; try exact rfl)) ?_
 simp only [wS, simprocAttr]
 refine cK (nV [1] (k19.2 _) ⟨.inr (.fn .nil (.cons (.ptr (by simp) (by simp only [wS, simprocAttr]; try exact rfl) (.cons (.same rfl) (.cons (.same rfl) (.cons (.same rfl) (.cons (.same ?_) .nil))))) .nil)), trivial⟩ (by simp)) ?_
 ·simp only [inL, inR, Bool.true_and, Bool.and_true] at hct ⊢
  exact hct
 simp only [wS, simprocAttr]
 repeat' (first | with_reducible (first | refine u'1 fun _ _ => ?_ | refine u'W ?_ | (first | refine u'R ?_ | refine u'5 fun _ _ _ _ => ?_ | refine u'6 (fun hg => ?_) (fun hg => ?_) <;> try simp only [hg]) <;> simp only [wS, simprocAttr]))
 refine aE rfl ?_
 simp only [wS, simprocAttr]
end Go.Proofs.YtblfpppnkdokdaaGreatDoor
set_option maxRecDepth 100000
namespace Go.Proofs.YtblfpppnkdokdaaGreatDoor
open Go.AM
theorem HV (t : T) : dP [] t = T.paths t := by simp [dP]
theorem DV (t : T) (ht : T.size t ≤ 100000000000) : Pure Tryz.prog G0 61 [.agg (T.enc t)] (.sl false (PE (T.paths t))) := by
 have h := IR (D := 100000000000) t (by omega) (by decide) (by rw [HW]; omega)
 rwa [HV] at h
theorem qT {f : FuncId} {a c : List AV} {res : AV} (h : Pure Tryz.prog G0 f [.agg c] res) (ht : inL aB a = true) (e : wkL a = c) : Pure Tryz.prog G0 f [.agg a] res :=
 h.lend hG0 (.cons (mG (.same (by simpa only [inR] using ht)) (by rw [AM.wk, e])) .nil)
def NA : T := .mk 17 0 0 [.mk 9 10 0 [.mk 9 0 0 [.mk 6 0 0 [], .mk 4 1 0 []], .mk 4 2 0 []], .mk 13 0 0 [.mk 25 0 0 []], .mk 13 0 0 []]
theorem DW : Pure Tryz.prog G0 61 [jO] (.sl false [[.sl false []], [.sl false [[.int .i64 0]]], [.sl false [[.int .i64 0], [.int .i64 0]]], [.sl false [[.int .i64 0], [.int .i64 0], [.int .i64 0]]], [.sl false [[.int .i64 0], [.int .i64 0], [.int .i64 1]]], [.sl false [[.int .i64 0], [.int .i64 1]]], [.sl false [[.int .i64 1]]], [.sl false [[.int .i64 1], [.int .i64 0]]], [.sl false [[.int .i64 2]]]]) :=
 qT (c := T.enc NA) (DV NA (by decide)) (by decide +kernel) (by kernel_rfl)
end Go.Proofs.YtblfpppnkdokdaaGreatDoor
