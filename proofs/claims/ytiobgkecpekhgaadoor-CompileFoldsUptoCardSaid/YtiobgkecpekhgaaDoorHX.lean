import Derived.Test.YtiobgkecpekhgaaDoorHW
import Derived.Test.YtiobgkecpekhgaaDoorN1
set_option linter.unusedVariables false
set_option linter.unusedSimpArgs false
namespace Go.Proofs.YtiobgkecpekhgaaDoor
open Go.AM
attribute [local irreducible] AWp rgnS callR callV effR valR guardR stepR nextR
set_option maxRecDepth 100000
def wrapR (n : Int) : Int := if n.tmod 16 < -8 then n.tmod 16 + 16 else if 7 < n.tmod 16 then n.tmod 16 - 16 else n.tmod 16
theorem wrapR_b (n : Int) : -8 ≤ wrapR n ∧ wrapR n ≤ 7 := by
  have hb : -16 < n.tmod 16 ∧ n.tmod 16 < 16 := ⟨by have := Int.lt_tmod_of_pos n (b := 16) (by omega); omega, Int.tmod_lt_of_pos n (by omega)⟩
  unfold wrapR
  split
  · omega
  · split <;> omega
theorem wrap_ref (n : Int) : Pure Tryd.prog G0 74 [.int .i64 n] (.int .i64 (wrapR n)) := by
  have hb : -16 < n.tmod 16 ∧ n.tmod 16 < 16 := ⟨by have := Int.lt_tmod_of_pos n (b := 16) (by omega); omega, Int.tmod_lt_of_pos n (by omega)⟩
  have h16 : (16 : Int) ≠ 0 := by omega
  refine pure_of_body hG0 Tryd.func74 rfl (by kernel_rfl) (by simp [Tryd.ntmps74]) (by simp [inL, inR]) (by simp [inR]) ?_
  simp only [Tryd.ntmps74, enterF, Nat.reduceAdd]
  unfold wrapR
  have hc : n.tmod 16 < -8 ∨ (¬ n.tmod 16 < -8 ∧ 7 < n.tmod 16) ∨ (¬ n.tmod 16 < -8 ∧ ¬ 7 < n.tmod 16) := by omega
  rcases hc with h1 | ⟨h1, h2⟩ | ⟨h1, h2⟩
  · have d1 : decide (n.tmod 16 < -8) = true := decide_eq_true h1
    have e1 : IntKind.i64.wrap (n.tmod 16 + 16) = n.tmod 16 + 16 := wrap_id (by omega) (by omega)
    rw [if_pos h1]
    repeat' (first | with_reducible (first | refine u'1 fun _ _ => ?_ | refine u'2 ?_ | (first | refine u'3 ?_ | refine u'4 ?_ | refine u'5 fun _ _ _ _ => ?_ | refine u'6 (fun hg => ?_) (fun hg => ?_) <;> try simp only [hg]) <;> simp only [wS, simprocAttr, h16, d1, e1] | (first | refine u's ?_ | refine u'e ?_ | refine u'r ?_) <;> try simp only [wE, simprocAttr] | refine u'8 ?_ | refine u'9 ?_))
    exact body_ret1 rfl (by simp only [wS, simprocAttr])
  · have d1 : decide (n.tmod 16 < -8) = false := decide_eq_false h1
    have d2 : decide (n.tmod 16 > 7) = true := decide_eq_true h2
    have e1 : IntKind.i64.wrap (n.tmod 16 - 16) = n.tmod 16 - 16 := wrap_id (by omega) (by omega)
    rw [if_neg h1, if_pos h2]
    repeat' (first | with_reducible (first | refine u'1 fun _ _ => ?_ | refine u'2 ?_ | (first | refine u'3 ?_ | refine u'4 ?_ | refine u'5 fun _ _ _ _ => ?_ | refine u'6 (fun hg => ?_) (fun hg => ?_) <;> try simp only [hg]) <;> simp only [wS, simprocAttr, h16, d1, d2, e1] | (first | refine u's ?_ | refine u'e ?_ | refine u'r ?_) <;> try simp only [wE, simprocAttr] | refine u'8 ?_ | refine u'9 ?_))
    exact body_ret1 rfl (by simp only [wS, simprocAttr])
  · have d1 : decide (n.tmod 16 < -8) = false := decide_eq_false h1
    have d2 : decide (n.tmod 16 > 7) = false := decide_eq_false h2
    rw [if_neg h1, if_neg h2]
    repeat' (first | with_reducible (first | refine u'1 fun _ _ => ?_ | refine u'2 ?_ | (first | refine u'3 ?_ | refine u'4 ?_ | refine u'5 fun _ _ _ _ => ?_ | refine u'6 (fun hg => ?_) (fun hg => ?_) <;> try simp only [hg]) <;> simp only [wS, simprocAttr, h16, d1, d2] | (first | refine u's ?_ | refine u'e ?_ | refine u'r ?_) <;> try simp only [wE, simprocAttr] | refine u'8 ?_ | refine u'9 ?_))
    exact body_ret1 rfl (by simp only [wS, simprocAttr])
theorem bits_ref (n : Int) : Pure Tryd.prog G0 78 [.int .i64 n] (.int .i64 ((wrapR n + 16).tmod 16)) := by
  have hw := wrap_ref n
  have hb := wrapR_b n
  generalize wrapR n = r at hw hb
  have e1 : IntKind.i64.wrap (r + 16) = r + 16 := wrap_id (by omega) (by omega)
  have h16 : (16 : Int) ≠ 0 := by omega
  refine pure_of_body hG0 Tryd.func78 rfl (by kernel_rfl) (by simp [Tryd.ntmps78]) (by simp [inL, inR]) (by simp [inR]) ?_
  simp only [Tryd.ntmps78, enterF, Nat.reduceAdd]
  repeat' (first | with_reducible (first | refine u'1 fun _ _ => ?_ | refine u'2 ?_ | (first | refine u'3 ?_ | refine u'4 ?_ | refine u'5 fun _ _ _ _ => ?_ | refine u'6 (fun hg => ?_) (fun hg => ?_) <;> try simp only [hg]) <;> simp only [wS, simprocAttr, e1, h16] | (first | refine u's ?_ | refine u'e ?_ | refine u'r ?_) <;> try simp only [wE, simprocAttr] | refine u'8 ?_ | refine u'9 ?_) | (refine callR_tree hG0 (hw) ?_; simp only [wS, simprocAttr, e1, h16]) | with_reducible refine And.intro (fun _ => ?_) (fun _ => ?_) | with_reducible refine And.intro (by kernel_rfl) ?_)
  exact body_ret1 rfl (by simp only [wS, simprocAttr])
def bwC (o t b : Bool) (p q : Int) : Bool := (p.tmod 2 == 1 && (q.tmod 2 == 1 && b)) || ((p.tmod 2 == 1 && (!(q.tmod 2 == 1) && o)) || (!(p.tmod 2 == 1) && (q.tmod 2 == 1 && t)))
def bwSt (o t b : Bool) (x y : Int) : Nat → Int × Int × Int × Int
  | 0 => (x, y, 0, 1)
  | i + 1 => ((bwSt o t b x y i).1.tdiv 2, (bwSt o t b x y i).2.1.tdiv 2, if bwC o t b (bwSt o t b x y i).1 (bwSt o t b x y i).2.1 then (bwSt o t b x y i).2.2.1 + (bwSt o t b x y i).2.2.2 else (bwSt o t b x y i).2.2.1, (bwSt o t b x y i).2.2.2 * 2)
theorem bwSt_b (o t b : Bool) (x y : Int) (hx : 0 ≤ x ∧ x ≤ 15) (hy : 0 ≤ y ∧ y ≤ 15) : ∀ i : Nat, i ≤ 4 → (0 ≤ (bwSt o t b x y i).1 ∧ (bwSt o t b x y i).1 ≤ 15) ∧ (0 ≤ (bwSt o t b x y i).2.1 ∧ (bwSt o t b x y i).2.1 ≤ 15) ∧ 0 ≤ (bwSt o t b x y i).2.2.1 ∧ (bwSt o t b x y i).2.2.1 < (bwSt o t b x y i).2.2.2 ∧ (bwSt o t b x y i).2.2.2 ≤ 2 ^ i
  | 0, _ => by simp [bwSt]; omega
  | i + 1, h => by
    obtain ⟨h1, h2, h3, h4, h5⟩ := bwSt_b o t b x y hx hy i (by omega)
    have d : ∀ z : Int, 0 ≤ z ∧ z ≤ 15 → 0 ≤ z.tdiv 2 ∧ z.tdiv 2 ≤ 15 := fun z hz => by rw [Int.tdiv_eq_ediv_of_nonneg hz.1]; omega
    simp only [bwSt, Int.pow_succ]
    refine ⟨d _ h1, d _ h2, ?_⟩
    generalize (bwSt o t b x y i).2.2.1 = s at h3 h4
    generalize (bwSt o t b x y i).2.2.2 = v at h4 h5
    generalize (2 : Int) ^ i = w at h5
    split <;> omega
set_option maxHeartbeats 4000000 in
theorem bitwise_ref (x y : Int) (o t b : Bool) (hf : (o = false ∧ t = false ∧ b = true) ∨ (o = true ∧ t = true ∧ b = true) ∨ (o = true ∧ t = true ∧ b = false)) : Pure Tryd.prog G0 76 [.int .i64 x, .int .i64 y, .bool o, .bool t, .bool b] (.int .i64 (wrapR (bwSt o t b ((wrapR x + 16).tmod 16) ((wrapR y + 16).tmod 16) 4).2.2.1)) := by
  have hb1 := bits_ref x
  have hb2 := bits_ref y
  have d : ∀ z : Int, -8 ≤ z ∧ z ≤ 7 → 0 ≤ (z + 16).tmod 16 ∧ (z + 16).tmod 16 ≤ 15 := fun z hz => by
    have h1 := Int.tmod_nonneg (a := z + 16) 16 (by omega)
    have h2 := Int.tmod_lt_of_pos (z + 16) (b := 16) (by omega)
    omega
  have h1 := d _ (wrapR_b x)
  have h2 := d _ (wrapR_b y)
  generalize (wrapR x + 16).tmod 16 = x' at hb1 h1
  generalize (wrapR y + 16).tmod 16 = y' at hb2 h2
  have hbd := bwSt_b o t b x' y' h1 h2
  have hwr := fun z => wrap_ref z
  have h2n : (2 : Int) ≠ 0 := by omega
  refine pure_of_body hG0 Tryd.func76 rfl (by kernel_rfl) (by simp [Tryd.ntmps76]) (by simp [inL, inR]) (by simp [inR]) ?_
  simp only [Tryd.ntmps76, enterF, Nat.reduceAdd]
  repeat' (first | with_reducible (first | refine u'1 fun _ _ => ?_ | refine u'2 ?_ | (first | refine u'3 ?_ | refine u'4 ?_ | refine u'5 fun _ _ _ _ => ?_ | refine u'6 (fun hg => ?_) (fun hg => ?_) <;> try simp only [hg]) <;> simp only [wS, simprocAttr] | (first | refine u's ?_ | refine u'e ?_ | refine u'r ?_) <;> try simp only [wE, simprocAttr] | refine u'8 ?_ | refine u'9 ?_) | (refine callR_tree hG0 (hb1) ?_; simp only [wS, simprocAttr]) | (refine callR_tree hG0 (hb2) ?_; simp only [wS, simprocAttr]) | with_reducible refine And.intro (fun _ => ?_) (fun _ => ?_) | with_reducible refine And.intro (by kernel_rfl) ?_)
  refine awp_loop_r (α := {i : Nat // i ≤ 4}) (fun i => [(2, .bool o), (3, .bool t), (4, .bool b), (11, .int .i64 (bwSt o t b x' y' i.1).1), (12, .int .i64 (bwSt o t b x' y' i.1).2.1), (13, .int .i64 (bwSt o t b x' y' i.1).2.2.1), (14, .int .i64 (bwSt o t b x' y' i.1).2.2.2), (15, .int .i64 (i.1 : Nat))]) (fun i => []) (fun i => 4 - i.1) ⟨0, Nat.zero_le _⟩ (Weak.ref ⟨?_, .inl ?_⟩) ?_
  · simp only [wS, simprocAttr, bwSt]; try exact rfl
  · simp only [wS, simprocAttr]; try exact rfl
  · rintro ⟨i, hi⟩ K1 hK1
    have hbi := hbd i hi
    have hnx : bwSt o t b x' y' (i + 1) = ((bwSt o t b x' y' i).1.tdiv 2, (bwSt o t b x' y' i).2.1.tdiv 2, if bwC o t b (bwSt o t b x' y' i).1 (bwSt o t b x' y' i).2.1 then (bwSt o t b x' y' i).2.2.1 + (bwSt o t b x' y' i).2.2.2 else (bwSt o t b x' y' i).2.2.1, (bwSt o t b x' y' i).2.2.2 * 2) := rfl
    have hp4 : (2 : Int) ^ i ≤ 16 := by
      have : i = 0 ∨ i = 1 ∨ i = 2 ∨ i = 3 ∨ i = 4 := by omega
      rcases this with rfl | rfl | rfl | rfl | rfl <;> decide
    generalize hst : bwSt o t b x' y' i = st at hbi hnx
    obtain ⟨p, q, s, v⟩ := st
    simp only at hbi hnx ⊢
    repeat' (first | with_reducible (first | refine u'1 fun _ _ => ?_ | refine u'2 ?_ | (first | refine u'3 ?_ | refine u'4 ?_ | refine u'5 fun _ _ _ _ => ?_ | refine u'6 (fun hg => ?_) (fun hg => ?_) <;> try simp only [hg]) <;> simp only [wS, simprocAttr] | (first | refine u's ?_ | refine u'e ?_ | refine u'r ?_) <;> try simp only [wE, simprocAttr] | refine u'8 ?_ | refine u'9 ?_))
    refine ⟨fun h => ?_, fun h => ?_⟩
    · have hlt : i < 4 := by simp at h; omega
      have e1 := wrap_succ (k := i) hlt (by omega)
      have e2 : IntKind.i64.wrap (s + v) = s + v := wrap_id (by omega) (by omega)
      have e3 : IntKind.i64.wrap (v * 2) = v * 2 := wrap_id (by omega) (by omega)
      have e4 : IntKind.i64.wrap (p.tdiv 2) = p.tdiv 2 := by rw [Int.tdiv_eq_ediv_of_nonneg hbi.1.1]; exact wrap_id (by omega) (by omega)
      have e5 : IntKind.i64.wrap (q.tdiv 2) = q.tdiv 2 := by rw [Int.tdiv_eq_ediv_of_nonneg hbi.2.1.1]; exact wrap_id (by omega) (by omega)
      unfold bwC at hnx
      rcases hf with ⟨rfl, rfl, rfl⟩ | ⟨rfl, rfl, rfl⟩ | ⟨rfl, rfl, rfl⟩
      all_goals cases hP : (p.tmod 2 == 1) <;> cases hQ : (q.tmod 2 == 1)
      all_goals
        simp only [hP, hQ, Bool.and_true, Bool.and_false, Bool.true_and, Bool.false_and, Bool.or_false, Bool.false_or, Bool.or_true, Bool.true_or, Bool.not_true, Bool.not_false, if_true, if_false, Bool.false_eq_true] at hnx
        repeat' (first | with_reducible (first | refine u'1 fun _ _ => ?_ | refine u'2 ?_ | (first | refine u'3 ?_ | refine u'4 ?_ | refine u'5 fun _ _ _ _ => ?_ | refine u'6 (fun hg => ?_) (fun hg => ?_) <;> try simp only [hg]) <;> simp only [wS, simprocAttr, hP, hQ, h2n, e1, e2, e3, e4, e5, Bool.not_true, Bool.not_false] | (first | refine u's ?_ | refine u'e ?_ | refine u'r ?_) <;> try simp only [wE, simprocAttr] | refine u'8 ?_ | refine u'9 ?_))
        refine hK1.go ⟨i + 1, hlt⟩ (Weak.ref ⟨?_, .inl ?_⟩) (by simp only; omega)
        · simp only [wS, simprocAttr, hnx, e4, e5]; try exact rfl
        · simp only [wS, simprocAttr]; try exact rfl
    · have hge : i = 4 := by simp at h; omega
      subst hge
      repeat' (first | with_reducible (first | refine u'1 fun _ _ => ?_ | refine u'2 ?_ | (first | refine u'3 ?_ | refine u'4 ?_ | refine u'5 fun _ _ _ _ => ?_ | refine u'6 (fun hg => ?_) (fun hg => ?_) <;> try simp only [hg]) <;> simp only [wS, simprocAttr] | (first | refine u's ?_ | refine u'e ?_ | refine u'r ?_) <;> try simp only [wE, simprocAttr] | refine u'8 ?_ | refine u'9 ?_) | (refine callR_tree hG0 (hwr _) ?_; simp only [wS, simprocAttr]) | with_reducible refine And.intro (fun _ => ?_) (fun _ => ?_) | with_reducible refine And.intro (by kernel_rfl) ?_)
      refine body_ret1 rfl ?_
      simp only [wS, simprocAttr]
      rw [hst]
set_option maxHeartbeats 4000000 in
theorem op_bits (n x y : Int) (hn : n = 5 ∨ n = 6 ∨ n = 7) : Pure Tryd.prog G0 60 [.int .i64 n, .int .i64 x, .int .i64 y] (.tup [.int .i64 (wrapR (bwSt (decide (n ≠ 5)) (decide (n ≠ 5)) (decide (n ≠ 7)) ((wrapR (wrapR x) + 16).tmod 16) ((wrapR (wrapR y) + 16).tmod 16) 4).2.2.1), .int .i64 0]) := by
  have w1 := wrap_ref x
  have w2 := wrap_ref y
  have b1 := bitwise_ref (wrapR x) (wrapR y) (decide (n ≠ 5)) (decide (n ≠ 5)) (decide (n ≠ 7)) (by rcases hn with rfl | rfl | rfl <;> decide)
  generalize wrapR x = x' at w1 b1
  generalize wrapR y = y' at w2 b1
  refine pure_of_body hG0 Tryd.func60 rfl (by kernel_rfl) (by simp [Tryd.ntmps60]) (by simp [inL, inR]) (by simp [inR, inL]) ?_
  simp only [Tryd.ntmps60, enterF, Nat.reduceAdd]
  rcases hn with rfl | rfl | rfl
  all_goals
    simp only [ne_eq, Int.reduceEq, not_true_eq_false, not_false_eq_true, decide_true, decide_false] at b1 ⊢
    repeat' (first | with_reducible (first | refine u'1 fun _ _ => ?_ | refine u'2 ?_ | (first | refine u'3 ?_ | refine u'4 ?_ | refine u'5 fun _ _ _ _ => ?_ | refine u'6 (fun hg => ?_) (fun hg => ?_) <;> try simp only [hg]) <;> simp only [wS, simprocAttr] | (first | refine u's ?_ | refine u'e ?_ | refine u'r ?_) <;> try simp only [wE, simprocAttr] | refine u'8 ?_ | refine u'9 ?_) | (refine callR_tree hG0 (w1) ?_; simp only [wS, simprocAttr]) | (refine callR_tree hG0 (w2) ?_; simp only [wS, simprocAttr]) | (refine callR_tree hG0 (b1) ?_; simp only [wS, simprocAttr]) | with_reducible refine And.intro (fun _ => ?_) (fun _ => ?_) | with_reducible refine And.intro (by kernel_rfl) ?_)
    exact body_ret2 rfl (by simp only [wS, simprocAttr])
theorem bits_tab (n : Int) (hn : n = 5 ∨ n = 6 ∨ n = 7) : ∀ x ∈ words, ∀ y ∈ words, wrapR (bwSt (decide (n ≠ 5)) (decide (n ≠ 5)) (decide (n ≠ 7)) ((wrapR (wrapR x) + 16).tmod 16) ((wrapR (wrapR y) + 16).tmod 16) 4).2.2.1 = opV n x y := by
  rcases hn with rfl | rfl | rfl <;> decide +kernel
end Go.Proofs.YtiobgkecpekhgaaDoor
