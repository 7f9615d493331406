import Derived.Test.YtblfpppnkdokdaaGreatDoorSN
set_option linter.unusedVariables false
set_option linter.unusedSimpArgs false
namespace Go.Proofs.YtblfpppnkdokdaaGreatDoor
open Go.AM
attribute [local irreducible] AWp aR aV bI bN bR aO aQ bK
set_option maxRecDepth 100000
def fH : List Int → List Int → Int
 | [], [] => 0
 | [], _ :: _ => -1
 | _ :: _, [] => 1
 | x :: a, y :: b => if cP x y ≠ 0 then cP x y else fH a b
def gX (a b : List Int × Nat) : Int := if fH a.1 b.1 ≠ 0 then fH a.1 b.1 else cP a.2 b.2
theorem mJ (x : Int) : cP x x = 0 := cJ.2 rfl
theorem p6 : ∀ a : List Int, fH a a = 0
 | [] => rfl
 | x :: a => by rw [fH, mJ, if_neg (by simp), p6 a]
theorem xP {a b : List Int} {i : Nat} {x y : Int} (ha : a[i]? = some x) (hb : b[i]? = some y) : fH (a.drop i) (b.drop i) = if cP x y ≠ 0 then cP x y else fH (a.drop (i + 1)) (b.drop (i + 1)) := by
 obtain ⟨h1, h2⟩ := List.getElem?_eq_some_iff.1 ha
 obtain ⟨h3, h4⟩ := List.getElem?_eq_some_iff.1 hb
 rw [List.drop_eq_getElem_cons h1, List.drop_eq_getElem_cons h3, h2, h4, fH]
theorem t5 {a b : List Int} {i : Nat} (h : fH a b = fH (a.drop i) (b.drop i)) (h1 : i ≤ a.length) (h2 : i ≤ b.length) (h3 : i = a.length ∨ i = b.length) : fH a b = cP (a.length : Int) (b.length : Int) := by
 rw [h]
 rcases h3 with rfl | rfl
 ·rw [List.drop_length]
  cases hb : b.drop a.length with
  | nil => have := List.drop_eq_nil_iff.1 hb; rw [fH, cP, if_neg (by omega), if_neg (by omega)]
  | cons y ys =>
   have := congrArg List.length hb
   simp only [List.length_drop, List.length_cons] at this
   rw [fH, cP, if_pos (by omega)]
 ·rw [List.drop_length]
  cases hb : a.drop b.length with
  | nil => have := List.drop_eq_nil_iff.1 hb; rw [fH, cP, if_neg (by omega), if_neg (by omega)]
  | cons y ys =>
   have := congrArg List.length hb
   simp only [List.length_drop, List.length_cons] at this
   rw [fH, cP, if_neg (by omega), if_pos (by omega)]
theorem RD (a b : List Int) (ha : a.length ≤ 1000000000000000) : Pure Tryz.prog G0 66 [.sl false (bD a), .sl false (bD b)] (.int .i64 (fH a b)) := by
 have h1t : inE aC (bD a) = true := bJ a
 have h2t : inE aC (bD b) = true := bJ b
 have hga : ∀ (i : Nat) (x : Int), a[i]? = some x → (bD a)[i]? = some [.int .i64 x] := fun i x h => by simp [bD, h]
 have hgb : ∀ (i : Nat) (x : Int), b[i]? = some x → (bD b)[i]? = some [.int .i64 x] := fun i x h => by simp [bD, h]
 have hna : (bD a).length = a.length := by simp [bD]
 have hnb : (bD b).length = b.length := by simp [bD]
 generalize bD a = A at h1t hga hna ⊢
 generalize bD b = B at h2t hgb hnb ⊢
 refine aL hG0 Tryz.func66 rfl (by kernel_rfl) (by simp [Tryz.ntmps66]) (by simp only [inL, inR, h1t, h2t, Bool.and_self]) (by simp [inR]) ?_
 simp only [Tryz.ntmps66, aF, Nat.reduceAdd]
 repeat' (first | with_reducible (first | refine u'1 fun _ _ => ?_ | refine u'W ?_ | (first | refine u'R ?_ | refine u'5 fun _ _ _ _ => ?_ | refine u'6 (fun hg => ?_) (fun hg => ?_) <;> try simp only [hg]) <;> simp only [wS, simprocAttr]))
 refine aN (α := {i : Nat // i ≤ a.length ∧ i ≤ b.length ∧ fH a b = fH (a.drop i) (b.drop i)}) (fun i => [(0, .sl false A), (1, .sl false B), (9, .sl false A), (10, .int .i64 (A.length : Nat)), (11, .int .i64 (i.1 : Nat))]) (fun i => []) (fun i => a.length - i.1) ⟨0, Nat.zero_le _, Nat.zero_le _, rfl⟩ (Weak.ref ⟨?_, .inl ?_⟩) ?_
 ·simp only [wS, simprocAttr]; try exact rfl
 ·simp only [wS, simprocAttr]; try exact rfl
 ·rintro ⟨i, hi1, hi2, hi3⟩ K hK
  try simp only at hi1 hi2 hi3
  by_cases hlt : i < a.length
  ·have c1 : decide (((i : Nat) : Int) < ((A.length : Nat) : Int)) = true := by simp; omega
   obtain ⟨x, hx⟩ : ∃ x, a[i]? = some x := ⟨_, List.getElem?_eq_getElem hlt⟩
   have gx := hga i x hx
   have e3 := aM (k := i) hlt (by omega)
   have hA : i < A.length := by omega
   by_cases hlb : i < b.length
   ·have c2 : decide (((i : Nat) : Int) ≥ ((B.length : Nat) : Int)) = false := by simp; omega
    obtain ⟨y, hy⟩ : ∃ y, b[i]? = some y := ⟨_, List.getElem?_eq_getElem hlb⟩
    have gy := hgb i y hy
    have hB : i < B.length := by omega
    have hd := xP hx hy
    have kc := D8 x y
    generalize cP x y = cv at hd kc
    repeat' (first | with_reducible (first | refine u'1 fun _ _ => ?_ | refine u'W ?_ | (first | refine u'R ?_ | refine u'5 fun _ _ _ _ => ?_ | refine u'6 (fun hg => ?_) (fun hg => ?_) <;> try simp only [hg]) <;> simp only [wS, simprocAttr, gx, gy, hA, hB, c1, c2, e3]) | (refine aA hG0 (kc) ?_; simp only [wS, simprocAttr, gx, gy, hA, hB, c1, c2, e3]) | with_reducible first | refine ⟨fun _ => ?_, fun _ => ?_⟩ | refine u'A ?_)
    ·refine aD rfl ?_
     simp only [wS, simprocAttr]
     rw [hi3, hd, if_pos (by simp_all)]
    ·refine hK.go ⟨i + 1, hlt, hlb, by rw [hi3, hd, if_neg (by simp_all)]⟩ (Weak.ref ⟨?_, .inr ⟨by first | exact Nat.zero_le _ | exact Nat.le_refl _ | simp, ?_, fun g cs hg => aZ (hG0 g cs hg), ?_, ?_⟩⟩) (by simp only; omega)
     ·simp only [wS, simprocAttr]; try exact rfl
     ·simp only [wS, simprocAttr]; try exact rfl
     ·intro z hz
      simp only [List.mem_cons, List.not_mem_nil, or_false] at hz
      rcases hz with rfl | rfl | rfl | rfl | rfl <;> first | rfl | (simp only [inR]; first | exact aB h1t | exact aB h2t)
     ·simp only [List.all_cons, List.all_nil, Bool.and_true, Bool.and_eq_true]; try exact rfl
   ·have c2 : decide (((i : Nat) : Int) ≥ ((B.length : Nat) : Int)) = true := by simp; omega
    have he := t5 hi3 hi1 hi2 (.inr (by omega))
    repeat' (first | with_reducible (first | refine u'1 fun _ _ => ?_ | refine u'W ?_ | (first | refine u'R ?_ | refine u'5 fun _ _ _ _ => ?_ | refine u'6 (fun hg => ?_) (fun hg => ?_) <;> try simp only [hg]) <;> simp only [wS, simprocAttr, gx, hA, c1, c2]) | with_reducible first | refine ⟨fun _ => ?_, fun _ => ?_⟩ | refine u'A ?_)
    refine aD rfl ?_
    simp only [wS, simprocAttr]
    rw [he, cP, if_neg (by omega), if_pos (by omega)]
  ·have c1 : decide (((i : Nat) : Int) < ((A.length : Nat) : Int)) = false := by simp; omega
   have he := t5 hi3 hi1 hi2 (.inl (by omega))
   repeat' (first | with_reducible (first | refine u'1 fun _ _ => ?_ | refine u'W ?_ | (first | refine u'R ?_ | refine u'5 fun _ _ _ _ => ?_ | refine u'6 (fun hg => ?_) (fun hg => ?_) <;> try simp only [hg]) <;> simp only [wS, simprocAttr, c1]) | with_reducible first | refine ⟨fun _ => ?_, fun _ => ?_⟩ | refine u'A ?_)
   ·refine aD rfl ?_
    simp only [wS, simprocAttr]
    rw [he, cP, if_pos (by simp_all)]
   ·refine aD rfl ?_
    simp only [wS, simprocAttr]
    rw [he, cP, if_neg (by simp_all), if_neg (by simp_all <;> omega)]
theorem P5 (a b : List Int × Nat) (ha : a.1.length ≤ 1000000000000000) : Pure Tryz.prog G0 26 [.agg [.sl false (bD a.1), .int .i64 (a.2 : Nat)], .agg [.sl false (bD b.1), .int .i64 (b.2 : Nat)]] (.int .i64 (gX a b)) := by
 have kl := RD a.1 b.1 ha
 have kc := D8 a.2 b.2
 obtain ⟨p, x⟩ := a
 obtain ⟨q, y⟩ := b
 have h1t : inE aC (bD p) = true := bJ p
 have h2t : inE aC (bD q) = true := bJ q
 have ko : Pure Tryz.prog G0 65 [.sl true [[.int .i64 (fH p q)], [.int .i64 (cP x y)]]] _ := QT true [fH p q, cP x y] (by simp)
 have hv : gX (p, x) (q, y) = f8 [fH p q, cP x y] := by
  simp only [gX, f8]
  split
  ·rfl
  ·split
   ·rfl
   ·rename_i h; exact Decidable.not_not.1 h
 rw [hv]
 simp only at kl kc
 generalize bD p = ip at kl h1t ⊢
 generalize bD q = iq at kl h2t ⊢
 refine aL hG0 Tryz.func26 rfl (by kernel_rfl) (by simp [Tryz.ntmps26]) (by simp only [inL, inR, h1t, h2t, Bool.and_self]) (by simp [inR]) ?_
 simp only [Tryz.ntmps26, aF, Nat.reduceAdd]
 repeat' (first | with_reducible (first | refine u'1 fun _ _ => ?_ | refine u'W ?_ | (first | refine u'R ?_ | refine u'5 fun _ _ _ _ => ?_ | refine u'6 (fun hg => ?_) (fun hg => ?_) <;> try simp only [hg]) <;> simp only [wS, simprocAttr]) | (refine aA hG0 (kl) ?_; simp only [wS, simprocAttr]) | (refine aA hG0 (kc) ?_; simp only [wS, simprocAttr]) | (refine aA hG0 (ko) ?_; simp only [wS, simprocAttr]) | with_reducible first | refine ⟨fun _ => ?_, fun _ => ?_⟩ | refine u'A ?_)
 refine aD rfl ?_
 simp only [wS, simprocAttr]
set_option maxHeartbeats 8000000 in
theorem M4 (a b : List Int × Nat) (ha : a.1.length ≤ 1000000000000000) : Pure Tryz.prog G0 64 [.agg [.sl false (bD a.1), .int .i64 (a.2 : Nat)], .agg [.sl false (bD b.1), .int .i64 (b.2 : Nat)]] (.int .i64 (gX a b)) := by
 obtain ⟨a, u⟩ := a
 obtain ⟨b, v⟩ := b
 simp only at ha ⊢
 have h1t : inE aC (bD a) = true := bJ a
 have h2t : inE aC (bD b) = true := bJ b
 have hga : ∀ (i : Nat) (x : Int), a[i]? = some x → (bD a)[i]? = some [.int .i64 x] := fun i x h => by simp [bD, h]
 have hgb : ∀ (i : Nat) (x : Int), b[i]? = some x → (bD b)[i]? = some [.int .i64 x] := fun i x h => by simp [bD, h]
 have hna : (bD a).length = a.length := by simp [bD]
 have hnb : (bD b).length = b.length := by simp [bD]
 generalize bD a = A at h1t hga hna ⊢
 generalize bD b = B at h2t hgb hnb ⊢
 obtain ⟨V, hV⟩ : ∃ x, x = gX (a, u) (b, v) := ⟨_, rfl⟩
 rw [← hV]
 simp only [gX] at hV
 refine aL hG0 Tryz.func64 rfl (by kernel_rfl) (by simp [Tryz.ntmps64]) (by simp only [inL, inR, h1t, h2t, Bool.and_self]) (by simp [inR]) ?_
 simp only [Tryz.ntmps64, aF, Nat.reduceAdd]
 repeat' (first | with_reducible (first | refine u'1 fun _ _ => ?_ | refine u'W ?_ | (first | refine u'R ?_ | refine u'5 fun _ _ _ _ => ?_ | refine u'6 (fun hg => ?_) (fun hg => ?_) <;> try simp only [hg]) <;> simp only [wS, simprocAttr]))
 refine aN (α := {i : Nat // i ≤ a.length ∧ i ≤ b.length ∧ fH a b = fH (a.drop i) (b.drop i)}) (fun i => [(2, .ptr 0 0 0), (3, .ptr 1 0 0), (5, .int .i64 (i.1 : Nat))]) (fun i => [.cells 0 [.sl false A, .int .i64 (u : Nat)], .cells 0 [.sl false B, .int .i64 (v : Nat)]]) (fun i => a.length - i.1) ⟨0, Nat.zero_le _, Nat.zero_le _, rfl⟩ (Weak.ref ⟨?_, .inl ?_⟩) ?_
 ·simp only [wS, simprocAttr]; try exact rfl
 ·simp only [wS, simprocAttr]; try exact rfl
 ·rintro ⟨i, hi1, hi2, hi3⟩ K hK
  try simp only at hi1 hi2 hi3
  have end' : (i = a.length ∨ i = b.length) → V = if ((A.length : Nat) : Int) = ((B.length : Nat) : Int) then cP u v else cP ((A.length : Nat) : Int) ((B.length : Nat) : Int) := fun h => by
   rw [hV, t5 hi3 hi1 hi2 h, hna, hnb]
   by_cases he : ((a.length : Nat) : Int) = ((b.length : Nat) : Int)
   ·rw [if_pos he, if_neg (by rw [he, mJ]; simp)]
   ·rw [if_neg he, if_pos (fun h => he (cJ.1 h))]
  by_cases hlt : i < a.length
  ·have c1 : decide (((i : Nat) : Int) < ((A.length : Nat) : Int)) = true := by simp; omega
   obtain ⟨x, hx⟩ : ∃ x, a[i]? = some x := ⟨_, List.getElem?_eq_getElem hlt⟩
   have gx := hga i x hx
   have e3 := aM (k := i) hlt (by omega)
   have hA : i < A.length := by omega
   by_cases hlb : i < b.length
   ·have c2 : decide (((i : Nat) : Int) < ((B.length : Nat) : Int)) = true := by simp; omega
    obtain ⟨y, hy⟩ : ∃ y, b[i]? = some y := ⟨_, List.getElem?_eq_getElem hlb⟩
    have gy := hgb i y hy
    have hB : i < B.length := by omega
    have hd := xP hx hy
    clear end'
    repeat' (first | with_reducible (first | refine u'1 fun _ _ => ?_ | refine u'W ?_ | (first | refine u'R ?_ | refine u'5 fun _ _ _ _ => ?_ | refine u'6 (fun hg => ?_) (fun hg => ?_) <;> try simp only [hg]) <;> simp only [wS, simprocAttr, gx, gy, hA, hB, c1, c2, e3]) | with_reducible first | refine ⟨fun _ => ?_, fun _ => ?_⟩ | refine u'A ?_)
    ·have hc : cP x y = -1 := by rw [cP, if_pos (by simp_all)]
     refine aD rfl ?_
     simp only [wS, simprocAttr]
     rw [hV, hi3, hd, hc]; rfl
    ·have hc : cP x y = 1 := by rw [cP, if_neg (by simp_all <;> omega), if_pos (by simp_all)]
     refine aD rfl ?_
     simp only [wS, simprocAttr]
     rw [hV, hi3, hd, hc]; rfl
    ·have hc : cP x y = 0 := by rw [cP, if_neg (by simp_all <;> omega), if_neg (by simp_all <;> omega)]
     refine hK.go ⟨i + 1, hlt, hlb, by rw [hi3, hd, if_neg (by simp [hc])]⟩ (Weak.ref ⟨?_, .inr ⟨by first | exact Nat.zero_le _ | exact Nat.le_refl _ | simp, ?_, fun g cs hg => aZ (hG0 g cs hg), ?_, ?_⟩⟩) (by simp only; omega)
     ·simp only [wS, simprocAttr]; try exact rfl
     ·simp only [wS, simprocAttr]; try exact rfl
     ·intro z hz
      simp only [List.mem_cons, List.not_mem_nil, or_false] at hz
      rcases hz with rfl | rfl | rfl <;> first | rfl | rfl
     ·simp only [List.all_cons, List.all_nil, Bool.and_true, Bool.and_eq_true]; try exact ⟨by simp only [aE, inL, inR, Bool.true_and, Bool.and_true]; exact aB h1t, by simp only [aE, inL, inR, Bool.true_and, Bool.and_true]; exact aB h2t⟩
   ·have c2 : decide (((i : Nat) : Int) < ((B.length : Nat) : Int)) = false := by simp; omega
    have hv := end' (.inr (by omega))
    clear end'
    repeat' (first | with_reducible (first | refine u'1 fun _ _ => ?_ | refine u'W ?_ | (first | refine u'R ?_ | refine u'5 fun _ _ _ _ => ?_ | refine u'6 (fun hg => ?_) (fun hg => ?_) <;> try simp only [hg]) <;> simp only [wS, simprocAttr, c1, c2]) | with_reducible first | refine ⟨fun _ => ?_, fun _ => ?_⟩ | refine u'A ?_)
    all_goals (refine aD rfl ?_; simp only [wS, simprocAttr]; refine congrArg (AV.int .i64) ?_; rw [hv]; simp_all [cP] <;> omega)
  ·have c1 : decide (((i : Nat) : Int) < ((A.length : Nat) : Int)) = false := by simp; omega
   have c2 : True := trivial
   have hv := end' (.inl (by omega))
   clear end'
   repeat' (first | with_reducible (first | refine u'1 fun _ _ => ?_ | refine u'W ?_ | (first | refine u'R ?_ | refine u'5 fun _ _ _ _ => ?_ | refine u'6 (fun hg => ?_) (fun hg => ?_) <;> try simp only [hg]) <;> simp only [wS, simprocAttr, c1, c2]) | with_reducible first | refine ⟨fun _ => ?_, fun _ => ?_⟩ | refine u'A ?_)
   all_goals (refine aD rfl ?_; simp only [wS, simprocAttr]; refine congrArg (AV.int .i64) ?_; rw [hv]; simp_all [cP] <;> omega)
theorem C4 (l : List (List Int × Nat)) (hl : l.length ≤ 1000000000000000) (hp : ∀ x ∈ l, x.1.length ≤ 1000000000000000) : Pure Tryz.prog G0 24 [.sl false (SE l), .sl false (SE l)] (.bool true) := by
 have ht := gC l
 have hn := B6 l
 have hg : ∀ (i : Nat) (x : List Int × Nat), l[i]? = some x → (SE l)[i]? = some [.sl false (bD x.1), .int .i64 (x.2 : Nat)] := fun i x h => by simp only [SE, List.getElem?_map, h, Option.map_some]
 generalize SE l = A at ht hn hg ⊢
 refine aL hG0 Tryz.func24 rfl (by kernel_rfl) (by simp [Tryz.ntmps24]) (by simp only [inL, inR, ht, Bool.and_self]) (by simp [inR]) ?_
 simp only [Tryz.ntmps24, aF, Nat.reduceAdd]
 have c0 : (((A.length : Nat) : Int) != ((A.length : Nat) : Int)) = false := by simp
 repeat' (first | with_reducible (first | refine u'1 fun _ _ => ?_ | refine u'W ?_ | (first | refine u'R ?_ | refine u'5 fun _ _ _ _ => ?_ | refine u'6 (fun hg => ?_) (fun hg => ?_) <;> try simp only [hg]) <;> simp only [wS, simprocAttr, c0]))
 refine aN (α := {i : Nat // i ≤ l.length}) (fun i => [(0, .sl false A), (1, .sl false A), (5, .int .i64 (i.1 : Nat))]) (fun i => []) (fun i => l.length - i.1) ⟨0, Nat.zero_le _⟩ (Weak.ref ⟨?_, .inl ?_⟩) ?_
 ·simp only [wS, simprocAttr]; try exact rfl
 ·simp only [wS, simprocAttr]; try exact rfl
 ·rintro ⟨i, hi⟩ K hK
  try simp only at hi
  by_cases hlt : i < l.length
  ·have c1 : decide (((i : Nat) : Int) < ((A.length : Nat) : Int)) = true := by simp; omega
   obtain ⟨x, hx⟩ : ∃ x, l[i]? = some x := ⟨_, List.getElem?_eq_getElem hlt⟩
   have gx := hg i x hx
   have e3 := aM (k := i) hlt (by omega)
   have hA : i < A.length := by omega
   have kc := M4 x x (hp x (List.mem_of_getElem? hx))
   have hz : gX x x = 0 := by rw [gX, p6, if_neg (by simp), mJ]
   have e0 : ((0 : Int) != 0) = false := rfl
   rw [hz] at kc
   generalize bD x.1 = ip at gx kc
   repeat' (first | with_reducible (first | refine u'1 fun _ _ => ?_ | refine u'W ?_ | (first | refine u'R ?_ | refine u'5 fun _ _ _ _ => ?_ | refine u'6 (fun hg => ?_) (fun hg => ?_) <;> try simp only [hg]) <;> simp only [wS, simprocAttr, gx, hA, c1, e3, e0]) | (refine aA hG0 (kc) ?_; simp only [wS, simprocAttr, gx, hA, c1, e3, e0]) | with_reducible first | refine ⟨fun _ => ?_, fun _ => ?_⟩ | refine u'A ?_)
   refine hK.go ⟨i + 1, hlt⟩ (Weak.ref ⟨?_, .inr ⟨by first | exact Nat.zero_le _ | exact Nat.le_refl _ | simp, ?_, fun g cs hg => aZ (hG0 g cs hg), ?_, ?_⟩⟩) (by simp only; omega)
   ·simp only [wS, simprocAttr]; try exact rfl
   ·simp only [wS, simprocAttr]; try exact rfl
   ·intro z hz
    simp only [List.mem_cons, List.not_mem_nil, or_false] at hz
    rcases hz with rfl | rfl | rfl <;> first | rfl | (simp only [inR]; exact aB ht)
   ·simp only [List.all_cons, List.all_nil, Bool.and_true, Bool.and_eq_true]; try exact rfl
  ·have c1 : decide (((i : Nat) : Int) < ((A.length : Nat) : Int)) = false := by simp; omega
   repeat' (first | with_reducible (first | refine u'1 fun _ _ => ?_ | refine u'W ?_ | (first | refine u'R ?_ | refine u'5 fun _ _ _ _ => ?_ | refine u'6 (fun hg => ?_) (fun hg => ?_) <;> try simp only [hg]) <;> simp only [wS, simprocAttr, c1]) | with_reducible first | refine ⟨fun _ => ?_, fun _ => ?_⟩ | refine u'A ?_)
   refine aD rfl ?_
   simp only [wS, simprocAttr]
theorem A6 {x y : Int} (h : x < y) (p q : List Int) : fH (x :: p) (y :: q) = -1 := by rw [fH, cP, if_pos h, if_pos (by decide)]
theorem t6 (x : Int) (p q : List Int) : fH (x :: p) (x :: q) = fH p q := by rw [fH, mJ, if_neg (by simp)]
namespace T
theorem lG : ∀ (es : List T) (i : Nat) (p : List Int), p ∈ pathss es i → ∃ (j : Int) (q : List Int), p = j :: q ∧ (i : Int) ≤ j
 | [], _, _, h => by cases h
 | e :: es, i, p, h => by
  rw [pathss] at h
  rcases List.mem_append.1 h with h | h
  ·obtain ⟨q, _, rfl⟩ := List.mem_map.1 h
   exact ⟨_, q, rfl, Int.le_refl _⟩
  ·obtain ⟨j, q, rfl, hj⟩ := lG es (i + 1) p h
   exact ⟨j, q, rfl, by omega⟩
mutual
theorem paths_sorted : ∀ t : T, (paths t).Pairwise fun p q => fH p q = -1
 | mk k n m es => by
  rw [paths, List.pairwise_cons]
  refine ⟨fun q hq => ?_, mW es 0⟩
  obtain ⟨j, r, rfl, _⟩ := lG es 0 q hq
  rfl
theorem mW : ∀ (es : List T) (i : Nat), (pathss es i).Pairwise fun p q => fH p q = -1
 | [], _ => List.Pairwise.nil
 | e :: es, i => by
  rw [pathss, List.pairwise_append]
  refine ⟨?_, mW es (i + 1), fun p hp q hq => ?_⟩
  ·rw [List.pairwise_map]
   exact (paths_sorted e).imp fun h => by rw [t6]; exact h
  ·obtain ⟨r, _, rfl⟩ := List.mem_map.1 hp
   obtain ⟨j, s, rfl, hj⟩ := lG es (i + 1) q hq
   exact A6 (by omega) _ _
end
end T
theorem oZ (t : T) (p : List Int) : ∀ (ol : List OpT) (k : Nat), ∀ x ∈ dP t p ol k, x.1 = p ∧ k ≤ x.2
 | [], _, x, h => by cases h
 | o :: ol, k, x, h => by
  rw [dP] at h
  rcases List.mem_append.1 h with h | h
  ·have : x = (p, k) := by cases ha : B1 o t <;> rw [ha] at h <;> simp [uE] at h; exact h
   rw [this]; exact ⟨rfl, Nat.le_refl _⟩
  ·obtain ⟨h1, h2⟩ := oZ t p ol (k + 1) x h
   exact ⟨h1, by omega⟩
theorem E8 {x y : List Int × Nat} (h : x.1 = y.1) (hlt : x.2 < y.2) : gX x y = -1 := by
 rw [gX, h, p6, if_neg (by simp), cP, if_pos (by omega)]
theorem H2 {x y : List Int × Nat} (h : fH x.1 y.1 = -1) : gX x y = -1 := by rw [gX, h]; rfl
theorem rA (t : T) (p : List Int) : ∀ (ol : List OpT) (k : Nat), (dP t p ol k).Pairwise fun x y => gX x y = -1
 | [], _ => List.Pairwise.nil
 | o :: ol, k => by
  rw [dP, List.pairwise_append]
  refine ⟨?_, rA t p ol (k + 1), fun x hx y hy => ?_⟩
  ·cases B1 o t <;> simp [uE]
  ·have : x = (p, k) := by cases ha : B1 o t <;> rw [ha] at hx <;> simp [uE] at hx; exact hx
   obtain ⟨h1, h2⟩ := oZ t p ol (k + 1) y hy
   exact E8 (by rw [this, h1]) (by rw [this]; exact h2)
theorem nC (t : T) (ol : List OpT) : ∀ (ps : List (List Int)), ∀ x ∈ cD t ol ps, x.1 ∈ ps
 | [], x, h => by cases h
 | p :: ps, x, h => by
  rw [cD] at h
  rcases List.mem_append.1 h with h | h
  ·cases hs : T.sub t p with
   | none => rw [hs] at h; cases h
   | some t' =>
    rw [hs] at h
    rw [(oZ t' p ol 0 x h).1]; exact List.mem_cons_self ..
  ·exact List.mem_cons_of_mem _ (nC t ol ps x h)
theorem mU (t : T) (ol : List OpT) : ∀ (ps : List (List Int)), ps.Pairwise (fun p q => fH p q = -1) → (cD t ol ps).Pairwise fun x y => gX x y = -1
 | [], _ => List.Pairwise.nil
 | p :: ps, h => by
  rw [List.pairwise_cons] at h
  rw [cD, List.pairwise_append]
  refine ⟨?_, mU t ol ps h.2, fun x hx y hy => ?_⟩
  ·cases T.sub t p with
   | none => exact List.Pairwise.nil
   | some t' => exact rA t' p ol 0
  ·cases hs : T.sub t p with
   | none => rw [hs] at hx; cases hx
   | some t' =>
    rw [hs] at hx
    have h1 := (oZ t' p ol 0 x hx).1
    exact H2 (by rw [h1]; exact h.1 _ (nC t ol ps y hy))
theorem vJ (t : T) (ol : List OpT) {i : Nat} {x y : List Int × Nat} (hx : (eQ t ol)[i]? = some x) (hy : (eQ t ol)[i + 1]? = some y) : gX x y = -1 := by
 have h : (eQ t ol).Pairwise fun x y => gX x y = -1 := by
  unfold eQ
  split
  ·exact List.Pairwise.nil
  ·exact mU t ol _ (T.paths_sorted t)
 obtain ⟨h1, rfl⟩ := List.getElem?_eq_some_iff.1 hx
 obtain ⟨h2, rfl⟩ := List.getElem?_eq_some_iff.1 hy
 exact List.pairwise_iff_getElem.1 h i (i + 1) h1 h2 (by omega)
theorem DZ (t : T) (ol : List OpT) : ∀ x ∈ eQ t ol, x.1.length < T.size t := fun x hx => by
 unfold eQ at hx
 split at hx
 ·cases hx
 ·exact (T.paths_sub t x.1 (nC t ol _ x hx)).1
theorem E4 (t : T) (ol : List OpT) : (eQ t ol).length ≤ T.size t * 24 := by
 unfold eQ
 split
 ·simp
 ·have := j1 t ol (T.paths t)
  rw [T.paths_len] at this
  exact Nat.le_trans this (Nat.mul_le_mul (Nat.le_refl _) (by omega))
end Go.Proofs.YtblfpppnkdokdaaGreatDoor
