import Derived.Test.YtblfpppnkdokdaaGreatDoorHS
import Derived.Test.YtblfpppnkdokdaaGreatDoorP4
import Derived.Test.YtblfpppnkdokdaaGreatDoorT0
set_option linter.unusedVariables false
set_option linter.unusedSimpArgs false
namespace Go.Proofs.YtblfpppnkdokdaaGreatDoor
open Go.AM
attribute [local irreducible] AWp aP aT bC bH bN aI aL bG
set_option maxRecDepth 100000
def f7 (x y : Int) : Int := if x < y then -1 else if y < x then 1 else 0
theorem cS {x y : Int} : f7 x y = 0 ↔ x = y := by
 unfold f7
 split
 ·constructor <;> intro h <;> omega
 ·split
  ·constructor <;> intro h <;> omega
  ·constructor <;> intro h <;> omega
def gV : List Int → Int
 | [] => 0
 | x :: xs => if x ≠ 0 then x else gV xs
theorem A1 {xs : List Int} {i : Nat} {x : Int} (h : xs[i]? = some x) : gV (xs.drop i) = if x ≠ 0 then x else gV (xs.drop (i + 1)) := by
 obtain ⟨h1, h2⟩ := List.getElem?_eq_some_iff.1 h
 rw [List.drop_eq_getElem_cons h1, h2, gV]
namespace T
mutual
def cmp : T → T → Int
 | mk k n m es, mk k' n' m' es' => if f7 k k' ≠ 0 then f7 k k' else if f7 n n' ≠ 0 then f7 n n' else if f7 m m' ≠ 0 then f7 m m' else cmps es es'
def cmps : List T → List T → Int
 | [], [] => 0
 | [], _ :: _ => -1
 | _ :: _, [] => 1
 | e :: es, e' :: es' => if cmp e e' ≠ 0 then cmp e e' else cmps es es'
end
mutual
theorem cmp_zero : ∀ a b : T, cmp a b = 0 ↔ a = b
 | mk k n m es, mk k' n' m' es' => by
  have h := yA es es'
  rw [cmp]
  split
  ·rename_i h1; exact ⟨fun h2 => absurd h2 h1, fun h2 => by injection h2 with a; exact absurd (cS.2 a) h1⟩
  ·rename_i h1
   split
   ·rename_i h2; exact ⟨fun h3 => absurd h3 h2, fun h3 => by injection h3 with _ a; exact absurd (cS.2 a) h2⟩
   ·rename_i h2
    split
    ·rename_i h3; exact ⟨fun h4 => absurd h4 h3, fun h4 => by injection h4 with _ _ a; exact absurd (cS.2 a) h3⟩
    ·rename_i h3
     rw [h, cS.1 (Decidable.not_not.1 h1), cS.1 (Decidable.not_not.1 h2), cS.1 (Decidable.not_not.1 h3)]
     simp
theorem yA : ∀ a b : List T, cmps a b = 0 ↔ a = b
 | [], [] => by simp [cmps]
 | [], _ :: _ => by simp [cmps]
 | _ :: _, [] => by simp [cmps]
 | e :: es, e' :: es' => by
  have h1 := cmp_zero e e'
  have h2 := yA es es'
  rw [cmps]
  split
  ·rename_i h; exact ⟨fun h3 => absurd h3 h, fun h3 => by injection h3 with a; exact absurd (h1.2 a) h⟩
  ·rename_i h
   rw [h2, h1.1 (Decidable.not_not.1 h)]
   simp
end
theorem cmps_drop {a b : List T} {i : Nat} {x y : T} (ha : a[i]? = some x) (hb : b[i]? = some y) : cmps (a.drop i) (b.drop i) = if cmp x y ≠ 0 then cmp x y else cmps (a.drop (i + 1)) (b.drop (i + 1)) := by
 obtain ⟨h1, h2⟩ := List.getElem?_eq_some_iff.1 ha
 obtain ⟨h3, h4⟩ := List.getElem?_eq_some_iff.1 hb
 rw [List.drop_eq_getElem_cons h1, List.drop_eq_getElem_cons h3, h2, h4, cmps]
theorem cmps_end {a b : List T} {i : Nat} (h : cmps a b = cmps (a.drop i) (b.drop i)) (h1 : i ≤ a.length) (h2 : i ≤ b.length) (h3 : i = a.length ∨ i = b.length) : cmps a b = f7 (a.length : Int) (b.length : Int) := by
 rw [h]
 rcases h3 with rfl | rfl
 ·rw [List.drop_length]
  cases hb : b.drop a.length with
  | nil => have := List.drop_eq_nil_iff.1 hb; rw [cmps, f7, if_neg (by omega), if_neg (by omega)]
  | cons y ys =>
   have := congrArg List.length hb
   simp only [List.length_drop, List.length_cons] at this
   rw [cmps, f7, if_pos (by omega)]
 ·rw [List.drop_length]
  cases hb : a.drop b.length with
  | nil => have := List.drop_eq_nil_iff.1 hb; rw [cmps, f7, if_neg (by omega), if_neg (by omega)]
  | cons y ys =>
   have := congrArg List.length hb
   simp only [List.length_drop, List.length_cons] at this
   rw [cmps, f7, if_neg (by omega), if_pos (by omega)]
end T
theorem N6 (n : Int) : Pure Tryz.prog G0 96 [.int .i64 n] (.bool false) := by
 have e : (n != n) = false := by simp
 refine aM hG0 Tryz.func96 rfl (by kernel_rfl) (by simp [Tryz.ntmps96]) (by simp [inL, inR]) (by simp [inR]) ?_
 simp only [Tryz.ntmps96, aF, Nat.reduceAdd]
 repeat' (first | with_reducible (first | refine u'1 fun _ _ => ?_ | refine u'W ?_ | (first | refine u'R ?_ | refine u'5 fun _ _ _ _ => ?_ | refine u'6 (fun hg => ?_) (fun hg => ?_) <;> try simp only [hg]) <;> simp only [wS, simprocAttr, e]) | with_reducible first | refine ⟨fun _ => ?_, fun _ => ?_⟩ | refine u'A ?_)
 all_goals (refine aE rfl ?_; simp only [wS, simprocAttr, e])
theorem KF (x y : Int) : Pure Tryz.prog G0 67 [.int .i64 x, .int .i64 y] (.int .i64 (f7 x y)) := by
 have k1 := N6 x
 have k2 := N6 y
 have e0 : (x == x) = true := by simp
 have e1 : (y == y) = true := by simp
 refine aM hG0 Tryz.func67 rfl (by kernel_rfl) (by simp [Tryz.ntmps67]) (by simp [inL, inR]) (by simp [inR]) ?_
 simp only [Tryz.ntmps67, aF, Nat.reduceAdd]
 repeat' (first | with_reducible (first | refine u'1 fun _ _ => ?_ | refine u'W ?_ | (first | refine u'R ?_ | refine u'5 fun _ _ _ _ => ?_ | refine u'6 (fun hg => ?_) (fun hg => ?_) <;> try simp only [hg]) <;> simp only [wS, simprocAttr]) | (refine aA hG0 (k1) ?_; simp only [wS, simprocAttr]) | (refine aA hG0 (k2) ?_; simp only [wS, simprocAttr]) | with_reducible first | refine ⟨fun _ => ?_, fun _ => ?_⟩ | refine u'A ?_)
 all_goals (refine aE rfl ?_; simp only [wS, simprocAttr]; refine congrArg (AV.int .i64) ?_; simp_all [f7] <;> omega)
theorem ID (x y : Int) : Pure Tryz.prog G0 92 [.int .i64 x, .int .i64 y] (.int .i64 (f7 x y)) := by
 refine aM hG0 Tryz.func92 rfl (by kernel_rfl) (by simp [Tryz.ntmps92]) (by simp [inL, inR]) (by simp [inR]) ?_
 simp only [Tryz.ntmps92, aF, Nat.reduceAdd]
 repeat' (first | with_reducible (first | refine u'1 fun _ _ => ?_ | refine u'W ?_ | (first | refine u'R ?_ | refine u'5 fun _ _ _ _ => ?_ | refine u'6 (fun hg => ?_) (fun hg => ?_) <;> try simp only [hg]) <;> simp only [wS, simprocAttr]) | with_reducible first | refine ⟨fun _ => ?_, fun _ => ?_⟩ | refine u'A ?_)
 all_goals (refine aE rfl ?_; simp only [wS, simprocAttr]; refine congrArg (AV.int .i64) ?_; simp_all [f7] <;> omega)
theorem PN (N : Nat) (ih : ∀ x y : T, T.size x ≤ N → Pure Tryz.prog G0 58 [.agg (T.enc x), .agg (T.enc y)] (.int .i64 (T.cmp x y))) (a b : List T) (ha : T.sizes a ≤ N) (hN : N ≤ 100000000000000000) :
  Pure Tryz.prog G0 91 [.sl false (T.encs a), .sl false (T.encs b), .fn (.func 58) [] []] (.int .i64 (T.cmps a b)) := by
 have h1t := T.encs_tree a
 have h2t := T.encs_tree b
 have hla := T.len_sizes a
 have hga := fun (i : Nat) (e : T) => T.encs_get (es := a) (i := i) (e := e)
 have hgb := fun (i : Nat) (e : T) => T.encs_get (es := b) (i := i) (e := e)
 have hna := T.encs_len a
 have hnb := T.encs_len b
 refine aM hG0 Tryz.func91 rfl (by kernel_rfl) (by simp [Tryz.ntmps91]) (by simp only [inL, inR, h1t, h2t, Bool.and_self]) (by simp [inR]) ?_
 simp only [Tryz.ntmps91, aF, Nat.reduceAdd]
 generalize T.encs a = A at h1t hga hna ⊢
 generalize T.encs b = B at h2t hgb hnb ⊢
 repeat' (first | with_reducible (first | refine u'1 fun _ _ => ?_ | refine u'W ?_ | (first | refine u'R ?_ | refine u'5 fun _ _ _ _ => ?_ | refine u'6 (fun hg => ?_) (fun hg => ?_) <;> try simp only [hg]) <;> simp only [wS, simprocAttr]))
 refine aQ (α := {i : Nat // i ≤ a.length ∧ i ≤ b.length ∧ T.cmps a b = T.cmps (a.drop i) (b.drop i)}) (fun i => [(0, .sl false A), (1, .sl false B), (2, .fn (.func 58) [] []), (11, .sl false A), (12, .int .i64 (A.length : Nat)), (13, .int .i64 (i.1 : Nat))]) (fun i => []) (fun i => a.length - i.1) ⟨0, Nat.zero_le _, Nat.zero_le _, rfl⟩ (Weak.ref ⟨?_, .inl ?_⟩) ?_
 ·simp only [wS, simprocAttr]; try exact rfl
 ·simp only [wS, simprocAttr]; try exact rfl
 ·rintro ⟨i, hi1, hi2, hi3⟩ K hK
  try simp only at hi1 hi2 hi3
  by_cases hlt : i < a.length
  ·have c1 : decide (((i : Nat) : Int) < ((A.length : Nat) : Int)) = true := by simp; omega
   obtain ⟨x, hx⟩ : ∃ x, a[i]? = some x := ⟨_, List.getElem?_eq_getElem hlt⟩
   have gx := hga i x hx
   have e3 := aO (k := i) hlt (by omega)
   have hA : i < A.length := by omega
   by_cases hlb : i < b.length
   ·have c2 : decide (((i : Nat) : Int) ≥ ((B.length : Nat) : Int)) = false := by simp; omega
    obtain ⟨y, hy⟩ : ∃ y, b[i]? = some y := ⟨_, List.getElem?_eq_getElem hlb⟩
    have gy := hgb i y hy
    have hB : i < B.length := by omega
    have hd := T.cmps_drop hx hy
    have kc := ih x y (by have := T.size_mem (List.mem_of_getElem? hx); omega)
    generalize T.cmp x y = cv at hd kc
    obtain ⟨xa, xb, xc, xd, hxe⟩ := aK x
    obtain ⟨ya, yb, yc, yd, hye⟩ := aK y
    rw [hxe] at gx kc
    rw [hye] at gy kc
    repeat' (first | with_reducible (first | refine u'1 fun _ _ => ?_ | refine u'W ?_ | (first | refine u'R ?_ | refine u'5 fun _ _ _ _ => ?_ | refine u'6 (fun hg => ?_) (fun hg => ?_) <;> try simp only [hg]) <;> simp only [wS, simprocAttr, gx, gy, hA, hB, c1, c2, e3]) | (refine aA hG0 (kc) ?_; simp only [wS, simprocAttr, gx, gy, hA, hB, c1, c2, e3]) | with_reducible first | refine ⟨fun _ => ?_, fun _ => ?_⟩ | refine u'A ?_)
    ·refine aE rfl ?_
     simp only [wS, simprocAttr]
     rw [hi3, hd, if_pos (by simp_all)]
    ·refine hK.go ⟨i + 1, hlt, hlb, by rw [hi3, hd, if_neg (by simp_all)]⟩ (Weak.ref ⟨?_, .inr ⟨by first | exact Nat.zero_le _ | exact Nat.le_refl _ | simp, ?_, fun g cs hg => bO (hG0 g cs hg), ?_, ?_⟩⟩) (by simp only; omega)
     ·simp only [wS, simprocAttr]; try exact rfl
     ·simp only [wS, simprocAttr]; try exact rfl
     ·intro z hz
      simp only [List.mem_cons, List.not_mem_nil, or_false] at hz
      rcases hz with rfl | rfl | rfl | rfl | rfl | rfl <;> first | rfl | (simp only [inR]; first | exact aC h1t | exact aC h2t)
     ·simp only [List.all_cons, List.all_nil, Bool.and_true, Bool.and_eq_true]; try exact rfl
   ·have c2 : decide (((i : Nat) : Int) ≥ ((B.length : Nat) : Int)) = true := by simp; omega
    have he := T.cmps_end hi3 hi1 hi2 (.inr (by omega))
    obtain ⟨xa, xb, xc, xd, hxe⟩ := aK x
    rw [hxe] at gx
    repeat' (first | with_reducible (first | refine u'1 fun _ _ => ?_ | refine u'W ?_ | (first | refine u'R ?_ | refine u'5 fun _ _ _ _ => ?_ | refine u'6 (fun hg => ?_) (fun hg => ?_) <;> try simp only [hg]) <;> simp only [wS, simprocAttr, gx, hA, c1, c2]) | with_reducible first | refine ⟨fun _ => ?_, fun _ => ?_⟩ | refine u'A ?_)
    refine aE rfl ?_
    simp only [wS, simprocAttr]
    rw [he, f7, if_neg (by omega), if_pos (by omega)]
  ·have c1 : decide (((i : Nat) : Int) < ((A.length : Nat) : Int)) = false := by simp; omega
   have he := T.cmps_end hi3 hi1 hi2 (.inl (by omega))
   repeat' (first | with_reducible (first | refine u'1 fun _ _ => ?_ | refine u'W ?_ | (first | refine u'R ?_ | refine u'5 fun _ _ _ _ => ?_ | refine u'6 (fun hg => ?_) (fun hg => ?_) <;> try simp only [hg]) <;> simp only [wS, simprocAttr, c1]) | with_reducible first | refine ⟨fun _ => ?_, fun _ => ?_⟩ | refine u'A ?_)
   ·refine aE rfl ?_
    simp only [wS, simprocAttr]
    rw [he, f7, if_pos (by simp_all)]
   ·refine aE rfl ?_
    simp only [wS, simprocAttr]
    rw [he, f7, if_neg (by simp_all), if_neg (by simp_all <;> omega)]
theorem RG (b : Bool) (xs : List Int) (hx : xs.length ≤ 1000000) : Pure Tryz.prog G0 65 [.sl b (dQ xs)] (.int .i64 (gV xs)) := by
 have ht : inE aB (dQ xs) = true := cG xs
 have hn : (dQ xs).length = xs.length := by simp [dQ]
 have hg : ∀ (i : Nat) (v : Int), xs[i]? = some v → (dQ xs)[i]? = some [.int .i64 v] := fun i v h => by simp [dQ, h]
 generalize dQ xs = LE at ht hn hg ⊢
 refine aM hG0 Tryz.func65 rfl (by kernel_rfl) (by simp [Tryz.ntmps65]) (by simp only [inL, inR, ht, Bool.and_self]) (by simp [inR]) ?_
 simp only [Tryz.ntmps65, aF, Nat.reduceAdd]
 repeat' (first | with_reducible (first | refine u'1 fun _ _ => ?_ | refine u'W ?_ | (first | refine u'R ?_ | refine u'5 fun _ _ _ _ => ?_ | refine u'6 (fun hg => ?_) (fun hg => ?_) <;> try simp only [hg]) <;> simp only [wS, simprocAttr]))
 refine aQ (α := {i : Nat // i ≤ xs.length ∧ gV (xs.drop i) = gV xs}) (fun i => [(3, .int .i64 0), (6, .sl b LE), (7, .int .i64 (LE.length : Nat)), (8, .int .i64 (i.1 : Nat))]) (fun i => []) (fun i => xs.length - i.1) ⟨0, Nat.zero_le _, rfl⟩ (Weak.ref ⟨?_, .inl ?_⟩) ?_
 ·simp only [wS, simprocAttr]; try exact rfl
 ·simp only [wS, simprocAttr]; try exact rfl
 ·rintro ⟨i, hi, hf⟩ K hK
  try simp only at hi hf
  by_cases hlt : i < xs.length
  ·have c1 : decide (((i : Nat) : Int) < ((LE.length : Nat) : Int)) = true := by simp; omega
   obtain ⟨v, hx⟩ : ∃ v, xs[i]? = some v := ⟨_, List.getElem?_eq_getElem (by omega)⟩
   have gx := hg i v hx
   have hE : i < LE.length := by omega
   have e3 := aO (k := i) hlt (by omega)
   have hd := A1 hx
   repeat' (first | with_reducible (first | refine u'1 fun _ _ => ?_ | refine u'W ?_ | (first | refine u'R ?_ | refine u'5 fun _ _ _ _ => ?_ | refine u'6 (fun hg => ?_) (fun hg => ?_) <;> try simp only [hg]) <;> simp only [wS, simprocAttr, gx, hE, c1, e3]) | with_reducible first | refine ⟨fun _ => ?_, fun _ => ?_⟩ | refine u'A ?_)
   ·refine aE rfl ?_
    simp only [wS, simprocAttr]
    rw [← hf, hd, if_pos (by simp_all)]
   ·refine hK.go ⟨i + 1, hlt, by rw [← hf, hd, if_neg (by simp_all)]⟩ (Weak.ref ⟨?_, .inr ⟨by first | exact Nat.zero_le _ | exact Nat.le_refl _ | simp, ?_, fun g cs hg => bO (hG0 g cs hg), ?_, ?_⟩⟩) (by simp only; omega)
    ·simp only [wS, simprocAttr]; try exact rfl
    ·simp only [wS, simprocAttr]; try exact rfl
    ·intro z hz
     simp only [List.mem_cons, List.not_mem_nil, or_false] at hz
     rcases hz with rfl | rfl | rfl | rfl <;> first | rfl | (simp only [inR]; exact aC ht)
    ·simp only [List.all_cons, List.all_nil, Bool.and_true, Bool.and_eq_true]; try exact rfl
  ·have c1 : decide (((i : Nat) : Int) < ((LE.length : Nat) : Int)) = false := by simp; omega
   have : i = xs.length := by omega
   repeat' (first | with_reducible (first | refine u'1 fun _ _ => ?_ | refine u'W ?_ | (first | refine u'R ?_ | refine u'5 fun _ _ _ _ => ?_ | refine u'6 (fun hg => ?_) (fun hg => ?_) <;> try simp only [hg]) <;> simp only [wS, simprocAttr, c1]) | with_reducible first | refine ⟨fun _ => ?_, fun _ => ?_⟩ | refine u'A ?_)
   refine aE rfl ?_
   simp only [wS, simprocAttr]
   rw [← hf, this, List.drop_length]; rfl
theorem RI (a b c d : Int) : gV [a, b, c, d] = if a ≠ 0 then a else if b ≠ 0 then b else if c ≠ 0 then c else d := by
 simp only [gV]
 split <;> (try rfl)
 split <;> (try rfl)
 split <;> (try rfl)
 split
 ·rfl
 ·rename_i h; exact (Decidable.not_not.1 h).symm
theorem I2 : ∀ (N : Nat) (a b : T), T.size a ≤ N → N ≤ 100000000000000000 → Pure Tryz.prog G0 58 [.agg (T.enc a), .agg (T.enc b)] (.int .i64 (T.cmp a b)) := by
 intro N
 induction N with
 | zero => intro a b h; have := T.size_pos a; omega
 | succ N ih =>
  intro a b hs hN
  have h1t := T.enc_tree a
  have h2t := T.enc_tree b
  obtain ⟨k, n, m, es⟩ := a
  obtain ⟨k', n', m', es'⟩ := b
  simp only [T.size] at hs
  have kf := PN N (fun x y h => ih x y h (by omega)) es es' (by omega) (by omega)
  have k1 := KF k k'
  have k2 := KF n n'
  have k3 := KF m m'
  have k4 : Pure Tryz.prog G0 65 [.sl true [[.int .i64 (f7 k k')], [.int .i64 (f7 n n')], [.int .i64 (f7 m m')], [.int .i64 (T.cmps es es')]]] _ := RG true [f7 k k', f7 n n', f7 m m', T.cmps es es'] (by simp)
  rw [T.cmp, ← RI]
  refine aM hG0 Tryz.func58 rfl (by kernel_rfl) (by simp [Tryz.ntmps58]) (by simp only [inL, inR, h1t, h2t, Bool.and_self]) (by simp [inR]) ?_
  simp only [Tryz.ntmps58, aF, Nat.reduceAdd]
  simp only [T.enc]
  repeat' (first | with_reducible (first | refine u'1 fun _ _ => ?_ | refine u'W ?_ | (first | refine u'R ?_ | refine u'5 fun _ _ _ _ => ?_ | refine u'6 (fun hg => ?_) (fun hg => ?_) <;> try simp only [hg]) <;> simp only [wS, simprocAttr]) | (refine aA hG0 (k1) ?_; simp only [wS, simprocAttr]) | (refine aA hG0 (k2) ?_; simp only [wS, simprocAttr]) | (refine aA hG0 (k3) ?_; simp only [wS, simprocAttr]) | (refine aA hG0 (kf) ?_; simp only [wS, simprocAttr]) | (refine aA hG0 (k4) ?_; simp only [wS, simprocAttr]) | with_reducible first | refine ⟨fun _ => ?_, fun _ => ?_⟩ | refine u'A ?_)
  refine aE rfl ?_
  simp only [wS, simprocAttr]
theorem OT : ∀ (N : Nat) (a b : T), T.size a ≤ N → N ≤ 100000000000000000 → Pure Tryz.prog G0 60 [.agg (T.enc a), .agg (T.enc b)] (.int .i64 (T.cmp a b)) := by
 intro N
 induction N with
 | zero => intro a b h; have := T.size_pos a; omega
 | succ N ih =>
  intro a b hs hN
  have h1t := T.enc_tree a
  have h2t := T.enc_tree b
  obtain ⟨k, n, m, es⟩ := a
  obtain ⟨k', n', m', es'⟩ := b
  simp only [T.size] at hs
  have hls := T.len_sizes es
  obtain ⟨V, hV⟩ : ∃ v, v = T.cmp (.mk k n m es) (.mk k' n' m' es') := ⟨_, rfl⟩
  rw [← hV]
  rw [T.cmp] at hV
  refine aM hG0 Tryz.func60 rfl (by kernel_rfl) (by simp [Tryz.ntmps60]) (by simp only [inL, inR, h1t, h2t, Bool.and_self]) (by simp [inR]) ?_
  simp only [Tryz.ntmps60, aF, Nat.reduceAdd]
  simp only [T.enc]
  have hgt := fun (i : Nat) (e : T) => T.encs_get (es := es) (i := i) (e := e)
  have hgt' := fun (i : Nat) (e : T) => T.encs_get (es := es') (i := i) (e := e)
  have hln := T.encs_len es
  have hln' := T.encs_len es'
  have hte := T.encs_tree es
  have hte' := T.encs_tree es'
  generalize T.encs es = EE at hgt hln hte
  generalize T.encs es' = EE' at hgt' hln' hte'
  have hsg := ID (EE.length : Nat) (EE'.length : Nat)
  repeat' (first | with_reducible (first | refine u'1 fun _ _ => ?_ | refine u'W ?_ | (first | refine u'R ?_ | refine u'5 fun _ _ _ _ => ?_ | refine u'6 (fun hg => ?_) (fun hg => ?_) <;> try simp only [hg]) <;> simp only [wS, simprocAttr]))
  obtain ⟨XX, hXX⟩ : ∃ x : List (List AV), x = [[.int .i64 k], [.int .i64 n], [.int .i64 m]] := ⟨_, rfl⟩
  obtain ⟨YY, hYY⟩ : ∃ x : List (List AV), x = [[.int .i64 k'], [.int .i64 n'], [.int .i64 m']] := ⟨_, rfl⟩
  obtain ⟨F, hF⟩ : ∃ F : Nat → Int × Int, F = fun i => if i = 0 then (k, k') else if i = 1 then (n, n') else (m, m') := ⟨_, rfl⟩
  have hXl : XX.length = 3 := by rw [hXX]; rfl
  have hYl : YY.length = 3 := by rw [hYY]; rfl
  have hXt : inE aB XX = true := by rw [hXX]; rfl
  have hYt : inE aB YY = true := by rw [hYY]; rfl
  have hXg : ∀ i, i < 3 → XX[i]? = some [AV.int .i64 (F i).1] ∧ YY[i]? = some [AV.int .i64 (F i).2] := fun i hi => by
   have : i = 0 ∨ i = 1 ∨ i = 2 := by omega
   rw [hXX, hYY, hF]
   rcases this with rfl | rfl | rfl <;> exact ⟨rfl, rfl⟩
  have hfin : (∀ j, j < 3 → (F j).1 = (F j).2) → V = T.cmps es es' := fun h => by
   have a1 : k = k' := by have := h 0 (by decide); rw [hF] at this; exact this
   have a2 : n = n' := by have := h 1 (by decide); rw [hF] at this; exact this
   have a3 : m = m' := by have := h 2 (by decide); rw [hF] at this; exact this
   rw [hV, if_neg (by simp [cS.2 a1]), if_neg (by simp [cS.2 a2]), if_neg (by simp [cS.2 a3])]
  have hbad : ∀ i, i < 3 → (∀ j, j < i → (F j).1 = (F j).2) → (F i).1 ≠ (F i).2 → V = f7 (F i).1 (F i).2 := fun i hi h hne => by
   have : i = 0 ∨ i = 1 ∨ i = 2 := by omega
   have e0 : F 0 = (k, k') := by rw [hF]; rfl
   have e1 : F 1 = (n, n') := by rw [hF]; rfl
   have e2 : F 2 = (m, m') := by rw [hF]; rfl
   rcases this with rfl | rfl | rfl
   ·rw [e0] at hne ⊢
    rw [hV, if_pos (fun h => hne (cS.1 h))]
   ·have a1 := h 0 (by decide)
    rw [e0] at a1; rw [e1] at hne ⊢
    rw [hV, if_neg (by simp [cS.2 a1]), if_pos (fun h => hne (cS.1 h))]
   ·have a1 := h 0 (by decide)
    have a2 := h 1 (by decide)
    rw [e0] at a1; rw [e1] at a2; rw [e2] at hne ⊢
    rw [hV, if_neg (by simp [cS.2 a1]), if_neg (by simp [cS.2 a2]), if_pos (fun h => hne (cS.1 h))]
  refine aQ (α := {i : Nat // i ≤ 3 ∧ ∀ j, j < i → (F j).1 = (F j).2}) (fun i => [(2, .ptr 0 0 0), (3, .ptr 1 0 0), (5, .sl true XX), (6, .sl true YY), (7, .int .i64 (i.1 : Nat))]) (fun i => [.cells 0 [.int .i64 k, .int .i64 n, .int .i64 m, .sl false EE], .cells 0 [.int .i64 k', .int .i64 n', .int .i64 m', .sl false EE']]) (fun i => 3 - i.1) ⟨0, Nat.zero_le _, fun j h => absurd h (Nat.not_lt_zero j)⟩ (Weak.ref ⟨?_, .inl ?_⟩) ?_
  ·simp only [wS, simprocAttr, hXX, hYY]; try exact rfl
  ·simp only [wS, simprocAttr]; try exact rfl
  ·clear hF hXX hYY hV h1t h2t
   rintro ⟨i, hi, hpre⟩ K hK
   by_cases hlt : i < 3
   ·have c1 : decide (((i : Nat) : Int) < 3) = true := by simp; omega
    obtain ⟨gx, gy⟩ := hXg i hlt
    have e3 := aO (k := i) hlt (by omega)
    have hA : i < XX.length := by omega
    have hB : i < YY.length := by omega
    have hb := hbad i hlt hpre
    have ks := ID (F i).1 (F i).2
    have hnext : (F i).1 = (F i).2 → ∀ j, j < i + 1 → (F j).1 = (F j).2 := fun h j hj => by
     rcases Nat.lt_succ_iff_lt_or_eq.1 hj with hj | rfl
     ·exact hpre j hj
     ·exact h
    generalize (F i).1 = fa at gx hb ks hnext
    generalize (F i).2 = fb at gy hb ks hnext
    repeat' (first | with_reducible (first | refine u'1 fun _ _ => ?_ | refine u'W ?_ | (first | refine u'R ?_ | refine u'5 fun _ _ _ _ => ?_ | refine u'6 (fun hg => ?_) (fun hg => ?_) <;> try simp only [hg]) <;> simp only [wS, simprocAttr, gx, gy, hA, hB, c1, e3]) | (refine aA hG0 (ks) ?_; simp only [wS, simprocAttr, gx, gy, hA, hB, c1, e3]) | with_reducible first | refine ⟨fun _ => ?_, fun _ => ?_⟩ | refine u'A ?_)
    ·refine aE rfl ?_
     simp only [wS, simprocAttr]
     rw [hb (by simp_all)]
    ·refine hK.go ⟨i + 1, hlt, hnext (by simp_all)⟩ (Weak.ref ⟨?_, .inr ⟨by first | exact Nat.zero_le _ | exact Nat.le_refl _ | simp, ?_, fun g cs hg => bO (hG0 g cs hg), ?_, ?_⟩⟩) (by simp only; omega)
     ·simp only [wS, simprocAttr]; try exact rfl
     ·simp only [wS, simprocAttr]; try exact rfl
     ·intro z hz
      simp only [List.mem_cons, List.not_mem_nil, or_false] at hz
      rcases hz with rfl | rfl | rfl | rfl | rfl <;> first | rfl | (simp only [inR]; first | exact aC hXt | exact aC hYt)
     ·simp only [List.all_cons, List.all_nil, Bool.and_true, Bool.and_eq_true]; try exact ⟨by simp only [aD, inL, inR, Bool.true_and, aC hte, Bool.and_self], by simp only [aD, inL, inR, Bool.true_and, aC hte', Bool.and_self]⟩
   ·have c1 : decide (((i : Nat) : Int) < 3) = false := by simp; omega
    have hV := hfin fun j hj => hpre j (by omega)
    clear hbad hXg
    repeat' (first | with_reducible (first | refine u'1 fun _ _ => ?_ | refine u'W ?_ | (first | refine u'R ?_ | refine u'5 fun _ _ _ _ => ?_ | refine u'6 (fun hg => ?_) (fun hg => ?_) <;> try simp only [hg]) <;> simp only [wS, simprocAttr, c1]))
    refine aQ (α := {i : Nat // i ≤ es.length ∧ i ≤ es'.length ∧ T.cmps es es' = T.cmps (es.drop i) (es'.drop i)}) (fun i => [(2, .ptr 0 0 0), (3, .ptr 1 0 0), (8, .int .i64 (i.1 : Nat))]) (fun i => [.cells 0 [.int .i64 k, .int .i64 n, .int .i64 m, .sl false EE], .cells 0 [.int .i64 k', .int .i64 n', .int .i64 m', .sl false EE']]) (fun i => es.length - i.1) ⟨0, Nat.zero_le _, Nat.zero_le _, rfl⟩ (Weak.ref ⟨?_, .inl ?_⟩) ?_
    ·simp only [wS, simprocAttr]; try exact rfl
    ·simp only [wS, simprocAttr]; try exact rfl
    ·clear hK hpre hlt c1
     rintro ⟨i, hi1, hi2, hi3⟩ K hK
     by_cases hlt : i < es.length
     ·have c1 : decide (((i : Nat) : Int) < ((EE.length : Nat) : Int)) = true := by simp; omega
      obtain ⟨x, hx⟩ : ∃ x, es[i]? = some x := ⟨_, List.getElem?_eq_getElem hlt⟩
      have gx := hgt i x hx
      have e3 := aO (k := i) hlt (by omega)
      have hA : i < EE.length := by omega
      by_cases hlb : i < es'.length
      ·have c2 : decide (((i : Nat) : Int) < ((EE'.length : Nat) : Int)) = true := by simp; omega
       obtain ⟨y, hy⟩ : ∃ y, es'[i]? = some y := ⟨_, List.getElem?_eq_getElem hlb⟩
       have gy := hgt' i y hy
       have hB : i < EE'.length := by omega
       have hd := T.cmps_drop hx hy
       have kc := ih x y (by have := T.size_mem (List.mem_of_getElem? hx); omega) (by omega)
       generalize T.cmp x y = cv at hd kc
       obtain ⟨xa, xb, xc, xd, hxe⟩ := aK x
       obtain ⟨ya, yb, yc, yd, hye⟩ := aK y
       rw [hxe] at gx kc
       rw [hye] at gy kc
       repeat' (first | with_reducible (first | refine u'1 fun _ _ => ?_ | refine u'W ?_ | (first | refine u'R ?_ | refine u'5 fun _ _ _ _ => ?_ | refine u'6 (fun hg => ?_) (fun hg => ?_) <;> try simp only [hg]) <;> simp only [wS, simprocAttr, gx, gy, hA, hB, c1, c2, e3]) | (refine aA hG0 (kc) ?_; simp only [wS, simprocAttr, gx, gy, hA, hB, c1, c2, e3]) | with_reducible first | refine ⟨fun _ => ?_, fun _ => ?_⟩ | refine u'A ?_)
       ·refine aE rfl ?_
        simp only [wS, simprocAttr]
        rw [hV, hi3, hd, if_pos (by simp_all)]
       ·refine hK.go ⟨i + 1, hlt, hlb, by rw [hi3, hd, if_neg (by simp_all)]⟩ (Weak.ref ⟨?_, .inr ⟨by first | exact Nat.zero_le _ | exact Nat.le_refl _ | simp, ?_, fun g cs hg => bO (hG0 g cs hg), ?_, ?_⟩⟩) (by simp only; omega)
        ·simp only [wS, simprocAttr]; try exact rfl
        ·simp only [wS, simprocAttr]; try exact rfl
        ·intro z hz
         simp only [List.mem_cons, List.not_mem_nil, or_false] at hz
         rcases hz with rfl | rfl | rfl <;> first | rfl | rfl
        ·simp only [List.all_cons, List.all_nil, Bool.and_true, Bool.and_eq_true]; try exact ⟨by simp only [aD, inL, inR, Bool.true_and, aC hte, Bool.and_self], by simp only [aD, inL, inR, Bool.true_and, aC hte', Bool.and_self]⟩
      ·have c2 : decide (((i : Nat) : Int) < ((EE'.length : Nat) : Int)) = false := by simp; omega
       have he := T.cmps_end hi3 hi1 hi2 (.inr (by omega))
       repeat' (first | with_reducible (first | refine u'1 fun _ _ => ?_ | refine u'W ?_ | (first | refine u'R ?_ | refine u'5 fun _ _ _ _ => ?_ | refine u'6 (fun hg => ?_) (fun hg => ?_) <;> try simp only [hg]) <;> simp only [wS, simprocAttr, c1, c2]) | (refine aA hG0 (hsg) ?_; simp only [wS, simprocAttr, c1, c2]) | with_reducible first | refine ⟨fun _ => ?_, fun _ => ?_⟩ | refine u'A ?_)
       refine aE rfl ?_
       simp only [wS, simprocAttr]
       rw [hV, he, hln, hln']
     ·have c1 : decide (((i : Nat) : Int) < ((EE.length : Nat) : Int)) = false := by simp; omega
      have he := T.cmps_end hi3 hi1 hi2 (.inl (by omega))
      have c2 : True := trivial
      repeat' (first | with_reducible (first | refine u'1 fun _ _ => ?_ | refine u'W ?_ | (first | refine u'R ?_ | refine u'5 fun _ _ _ _ => ?_ | refine u'6 (fun hg => ?_) (fun hg => ?_) <;> try simp only [hg]) <;> simp only [wS, simprocAttr, c1, c2]) | (refine aA hG0 (hsg) ?_; simp only [wS, simprocAttr, c1, c2]) | with_reducible first | refine ⟨fun _ => ?_, fun _ => ?_⟩ | refine u'A ?_)
      refine aE rfl ?_
      simp only [wS, simprocAttr]
      rw [hV, he, hln, hln']
theorem y7 (a b : T) (h : T.size a ≤ 100000000000000000) : Pure Tryz.prog G0 22 [.agg (T.enc a), .agg (T.enc b)] (.bool (T.cmp a b == 0)) := by
 have h1t := T.enc_tree a
 have h2t := T.enc_tree b
 have kc := OT _ a b (Nat.le_refl _) h
 refine aM hG0 Tryz.func22 rfl (by kernel_rfl) (by simp [Tryz.ntmps22]) (by simp only [inL, inR, h1t, h2t, Bool.and_self]) (by simp [inR]) ?_
 simp only [Tryz.ntmps22, aF, Nat.reduceAdd]
 obtain ⟨xa, xb, xc, xd, hxe⟩ := aK a
 obtain ⟨ya, yb, yc, yd, hye⟩ := aK b
 rw [hxe, hye] at kc ⊢
 repeat' (first | with_reducible (first | refine u'1 fun _ _ => ?_ | refine u'W ?_ | (first | refine u'R ?_ | refine u'5 fun _ _ _ _ => ?_ | refine u'6 (fun hg => ?_) (fun hg => ?_) <;> try simp only [hg]) <;> simp only [wS, simprocAttr]) | (refine aA hG0 (kc) ?_; simp only [wS, simprocAttr]) | with_reducible first | refine ⟨fun _ => ?_, fun _ => ?_⟩ | refine u'A ?_)
 refine aE rfl ?_
 simp only [wS, simprocAttr]
end Go.Proofs.YtblfpppnkdokdaaGreatDoor
