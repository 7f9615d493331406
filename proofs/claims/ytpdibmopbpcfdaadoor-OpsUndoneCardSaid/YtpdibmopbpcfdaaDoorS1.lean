import Derived.Test.YtpdibmopbpcfdaaDoorP7
set_option linter.unusedVariables false
set_option linter.unusedSimpArgs false
namespace Go.Proofs.YtpdibmopbpcfdaaDoor
open Go.AM
set_option maxRecDepth 100000
def firstNZ : List Int → Int
  | [] => 0
  | x :: xs => if x ≠ 0 then x else firstNZ xs
theorem firstNZ_drop {xs : List Int} {i : Nat} {x : Int} (h : xs[i]? = some x) : firstNZ (xs.drop i) = if x ≠ 0 then x else firstNZ (xs.drop (i + 1)) := by
  obtain ⟨h1, h2⟩ := List.getElem?_eq_some_iff.1 h
  rw [List.drop_eq_getElem_cons h1, h2, firstNZ]
theorem or_16g (b : Bool) (xs : List Int) (hl : xs.length ≤ 1000000) : Pure Tryd.prog G0 16 [.sl b (xs.map fun x => [AV.int .i64 x])] (.int .i64 (firstNZ xs)) := by
  refine pure_of_body hG0 Tryd.func16 rfl (by kernel_rfl) (by simp [Tryd.ntmps16]) (by simp only [inL, inR, tree_ints, Bool.and_self]) (by simp [inR]) ?_
  simp only [Tryd.ntmps16, enterF, Nat.reduceAdd]
  have hml : (xs.map fun x => [AV.int .i64 x]).length = xs.length := by simp
  have hget : ∀ (i : Nat) (x : Int), xs[i]? = some x → (xs.map fun x => [AV.int .i64 x])[i]? = some [.int .i64 x] := fun i x h => by simp [h]
  generalize hys : (xs.map fun x => [AV.int .i64 x]) = ys at hml hget
  repeat' (first | refine u'1 fun _ _ => ?_ | refine u'2 ?_ | (first | refine u'3 ?_ | refine u'4 ?_ | refine u'5 fun _ _ _ _ => ?_ | (refine u'6 (fun hg => ?_) (fun hg => ?_) <;> try simp only [hg])) <;> simp only [wS, simprocAttr] | (refine u'7 ?_; try simp only [wE, simprocAttr]) | refine u'8 ?_ | refine u'9 ?_)
  refine awp_loop_k (α := {i : Nat // i ≤ xs.length ∧ firstNZ (xs.drop i) = firstNZ xs}) (fun i => [(3, .int .i64 0), (6, .sl b ys), (7, .int .i64 (ys.length : Nat)), (8, .int .i64 (i.1 : Nat))]) (fun i => []) (fun i => xs.length - i.1) ⟨0, Nat.zero_le _, rfl⟩ ⟨?_, .inl ?_⟩ ?_
  · simp only [wS, simprocAttr]; try exact rfl
  · simp only [wS, simprocAttr]; try exact rfl
  · rintro ⟨i, hi, hf⟩ K3 hK3
    repeat' (first | refine u'1 fun _ _ => ?_ | refine u'2 ?_ | (first | refine u'3 ?_ | refine u'4 ?_ | refine u'5 fun _ _ _ _ => ?_ | (refine u'6 (fun hg => ?_) (fun hg => ?_) <;> try simp only [hg])) <;> simp only [wS, simprocAttr] | (refine u'7 ?_; try simp only [wE, simprocAttr]) | refine u'8 ?_ | refine u'9 ?_)
    refine ⟨fun h => ?_, fun h => ?_⟩
    · have hlt : i < xs.length := by simp [hml] at h; omega
      obtain ⟨x, hx⟩ : ∃ x, xs[i]? = some x := ⟨_, List.getElem?_eq_getElem hlt⟩
      have hg := hget i x hx
      have hlt2 : i < ys.length := by omega
      have hd := firstNZ_drop hx
      have e3 := wrap_succ (k := i) hlt (by omega)
      repeat' (first | refine u'1 fun _ _ => ?_ | refine u'2 ?_ | (first | refine u'3 ?_ | refine u'4 ?_ | refine u'5 fun _ _ _ _ => ?_ | (refine u'6 (fun hg => ?_) (fun hg => ?_) <;> try simp only [hg])) <;> simp only [wS, simprocAttr, hg, hlt2] | (refine u'7 ?_; try simp only [wE, simprocAttr]) | refine u'8 ?_ | refine u'9 ?_)
      refine ⟨fun h => ?_, fun h => ?_⟩
      · have hne : x ≠ 0 := by simpa using h
        repeat' (first | refine u'1 fun _ _ => ?_ | refine u'2 ?_ | (first | refine u'3 ?_ | refine u'4 ?_ | refine u'5 fun _ _ _ _ => ?_ | (refine u'6 (fun hg => ?_) (fun hg => ?_) <;> try simp only [hg])) <;> simp only [wS, simprocAttr] | (refine u'7 ?_; try simp only [wE, simprocAttr]) | refine u'8 ?_ | refine u'9 ?_)
        refine body_ret1 rfl ?_
        simp only [wS, simprocAttr]
        rw [← hf, hd, if_pos hne]
      · have hne : x = 0 := by simpa using h
        repeat' (first | refine u'1 fun _ _ => ?_ | refine u'2 ?_ | (first | refine u'3 ?_ | refine u'4 ?_ | refine u'5 fun _ _ _ _ => ?_ | (refine u'6 (fun hg => ?_) (fun hg => ?_) <;> try simp only [hg])) <;> simp only [wS, simprocAttr, e3] | (refine u'7 ?_; try simp only [wE, simprocAttr]) | refine u'8 ?_ | refine u'9 ?_)
        refine hK3.go ⟨i + 1, hlt, by rw [← hf, hd, if_neg (by simpa using hne)]⟩ ⟨?_, .inl ?_⟩ (by simp only; omega)
        · simp only [wS, simprocAttr]; try exact rfl
        · simp only [wS, simprocAttr]; try exact rfl
    · have hge : i = xs.length := by simp [hml] at h; omega
      repeat' (first | refine u'1 fun _ _ => ?_ | refine u'2 ?_ | (first | refine u'3 ?_ | refine u'4 ?_ | refine u'5 fun _ _ _ _ => ?_ | (refine u'6 (fun hg => ?_) (fun hg => ?_) <;> try simp only [hg])) <;> simp only [wS, simprocAttr] | (refine u'7 ?_; try simp only [wE, simprocAttr]) | refine u'8 ?_ | refine u'9 ?_)
      refine body_ret1 rfl ?_
      simp only [wS, simprocAttr]
      rw [← hf, hge, List.drop_length]; rfl
def cmpL (f : List AV → List AV → Int) : List (List AV) → List (List AV) → Int
  | [], [] => 0
  | [], _ :: _ => -1
  | _ :: _, [] => 1
  | e :: es, e' :: es' => if f e e' ≠ 0 then f e e' else cmpL f es es'
def cmpT : Nat → List AV → List AV → Int
  | D + 1, [.int _ k, .int _ n, .int _ m, .sl _ es], [.int _ k', .int _ n', .int _ m', .sl _ es'] => firstNZ [cmpI k k', cmpI n n', cmpI m m', cmpL (cmpT D) es es']
  | _, _, _ => 0
theorem cmpL_drop {f : List AV → List AV → Int} {a b : List (List AV)} {i : Nat} {x y : List AV} (ha : a[i]? = some x) (hb : b[i]? = some y) : cmpL f (a.drop i) (b.drop i) = if f x y ≠ 0 then f x y else cmpL f (a.drop (i + 1)) (b.drop (i + 1)) := by
  obtain ⟨h1, h2⟩ := List.getElem?_eq_some_iff.1 ha
  obtain ⟨h3, h4⟩ := List.getElem?_eq_some_iff.1 hb
  rw [List.drop_eq_getElem_cons h1, List.drop_eq_getElem_cons h3, h2, h4, cmpL]
theorem cmpf_41 {D D' : Nat} {f : List AV → List AV → Int} (hf : ∀ x y, NodeV D x → NodeV D' y → Pure Tryd.prog G0 15 [.agg x, .agg y] (.int .i64 (f x y))) (p q : Bool) (a b : List (List AV)) (ha : ∀ e ∈ a, NodeV D e) (hb : ∀ e ∈ b, NodeV D' e) (hla : a.length ≤ 6) (hlb : b.length ≤ 6) :
    Pure Tryd.prog G0 41 [.sl p a, .sl q b, .fn (.func 15) [] []] (.int .i64 (cmpL f a b)) := by
  refine pure_of_body hG0 Tryd.func41 rfl (by kernel_rfl) (by simp [Tryd.ntmps41]) (by simp only [inL, inR, nodes_tree ha, nodes_tree hb, Bool.and_self]) (by simp [inR]) ?_
  simp only [Tryd.ntmps41, enterF, Nat.reduceAdd]
  repeat' (first | refine u'1 fun _ _ => ?_ | refine u'2 ?_ | (first | refine u'3 ?_ | refine u'4 ?_ | refine u'5 fun _ _ _ _ => ?_ | (refine u'6 (fun hg => ?_) (fun hg => ?_) <;> try simp only [hg])) <;> simp only [wS, simprocAttr] | (refine u'7 ?_; try simp only [wE, simprocAttr]) | refine u'8 ?_ | refine u'9 ?_)
  refine awp_loop_k (α := {i : Nat // i ≤ a.length ∧ i ≤ b.length ∧ cmpL f a b = cmpL f (a.drop i) (b.drop i)}) (fun i => [(0, .sl p a), (1, .sl q b), (2, .fn (.func 15) [] []), (11, .sl p a), (12, .int .i64 (a.length : Nat)), (13, .int .i64 (i.1 : Nat))]) (fun i => []) (fun i => a.length - i.1) ⟨0, Nat.zero_le _, Nat.zero_le _, rfl⟩ ⟨?_, .inl ?_⟩ ?_
  · simp only [wS, simprocAttr]; try exact rfl
  · simp only [wS, simprocAttr]; try exact rfl
  · rintro ⟨i, hi1, hi2, hi3⟩ K3 hK3
    repeat' (first | refine u'1 fun _ _ => ?_ | refine u'2 ?_ | (first | refine u'3 ?_ | refine u'4 ?_ | refine u'5 fun _ _ _ _ => ?_ | (refine u'6 (fun hg => ?_) (fun hg => ?_) <;> try simp only [hg])) <;> simp only [wS, simprocAttr] | (refine u'7 ?_; try simp only [wE, simprocAttr]) | refine u'8 ?_ | refine u'9 ?_)
    refine ⟨fun h => ?_, fun h => ?_⟩
    · have hlt : i < a.length := by simpa using h
      obtain ⟨x, hx⟩ : ∃ x, a[i]? = some x := ⟨_, List.getElem?_eq_getElem hlt⟩
      have hnx := ha x (List.mem_of_getElem? hx)
      have hnx2 := hnx
      cases hnx with
      | @mk _ d1 hd1 k1 n1 m1 b1 es1 hl1 hh1 =>
      repeat' (first | refine u'1 fun _ _ => ?_ | refine u'2 ?_ | (first | refine u'3 ?_ | refine u'4 ?_ | refine u'5 fun _ _ _ _ => ?_ | (refine u'6 (fun hg => ?_) (fun hg => ?_) <;> try simp only [hg])) <;> simp only [wS, simprocAttr, hx, hlt] | (refine u'7 ?_; try simp only [wE, simprocAttr]) | refine u'8 ?_ | refine u'9 ?_)
      refine ⟨fun h => ?_, fun h => ?_⟩
      · have hge : i = b.length := by simp at h; omega
        have hb0 : b.drop i = [] := by rw [hge, List.drop_length]
        repeat' (first | refine u'1 fun _ _ => ?_ | refine u'2 ?_ | (first | refine u'3 ?_ | refine u'4 ?_ | refine u'5 fun _ _ _ _ => ?_ | (refine u'6 (fun hg => ?_) (fun hg => ?_) <;> try simp only [hg])) <;> simp only [wS, simprocAttr] | (refine u'7 ?_; try simp only [wE, simprocAttr]) | refine u'8 ?_ | refine u'9 ?_)
        refine body_ret1 rfl ?_
        simp only [wS, simprocAttr]
        rw [hi3, hb0, List.drop_eq_getElem_cons hlt, cmpL]
      · have hlb : i < b.length := by simp at h; omega
        obtain ⟨y, hy⟩ : ∃ y, b[i]? = some y := ⟨_, List.getElem?_eq_getElem hlb⟩
        have hny := hb y (List.mem_of_getElem? hy)
        have hny2 := hny
        have hd := cmpL_drop (f := f) hx hy
        have e3 := wrap_succ (k := i) hlt (by omega)
        cases hny with
        | @mk _ d2 hd2 k2 n2 m2 b2 es2 hl2 hh2 =>
        repeat' (first | refine u'1 fun _ _ => ?_ | refine u'2 ?_ | (first | refine u'3 ?_ | refine u'4 ?_ | refine u'5 fun _ _ _ _ => ?_ | (refine u'6 (fun hg => ?_) (fun hg => ?_) <;> try simp only [hg])) <;> simp only [wS, simprocAttr, hy, hlb] | (refine u'7 ?_; try simp only [wE, simprocAttr]) | refine u'8 ?_ | refine u'9 ?_)
        refine callR_tree hG0 (hf _ _ hnx2 hny2) ?_
        simp only [wS, simprocAttr]
        repeat' (first | refine u'1 fun _ _ => ?_ | refine u'2 ?_ | (first | refine u'3 ?_ | refine u'4 ?_ | refine u'5 fun _ _ _ _ => ?_ | (refine u'6 (fun hg => ?_) (fun hg => ?_) <;> try simp only [hg])) <;> simp only [wS, simprocAttr] | (refine u'7 ?_; try simp only [wE, simprocAttr]) | refine u'8 ?_ | refine u'9 ?_)
        generalize hfv : f [.int .i64 k1, .int .i64 n1, .int .i64 m1, .sl b1 es1] [.int .i64 k2, .int .i64 n2, .int .i64 m2, .sl b2 es2] = fv at hd
        refine ⟨fun h => ?_, fun h => ?_⟩
        · have hne : fv ≠ 0 := by simpa [hfv] using h
          repeat' (first | refine u'1 fun _ _ => ?_ | refine u'2 ?_ | (first | refine u'3 ?_ | refine u'4 ?_ | refine u'5 fun _ _ _ _ => ?_ | (refine u'6 (fun hg => ?_) (fun hg => ?_) <;> try simp only [hg])) <;> simp only [wS, simprocAttr] | (refine u'7 ?_; try simp only [wE, simprocAttr]) | refine u'8 ?_ | refine u'9 ?_)
          refine body_ret1 rfl ?_
          simp only [wS, simprocAttr]
          rw [hi3, hd, if_pos hne, hfv]
        · have hne : fv = 0 := by simpa [hfv] using h
          repeat' (first | refine u'1 fun _ _ => ?_ | refine u'2 ?_ | (first | refine u'3 ?_ | refine u'4 ?_ | refine u'5 fun _ _ _ _ => ?_ | (refine u'6 (fun hg => ?_) (fun hg => ?_) <;> try simp only [hg])) <;> simp only [wS, simprocAttr, e3] | (refine u'7 ?_; try simp only [wE, simprocAttr]) | refine u'8 ?_ | refine u'9 ?_)
          refine hK3.go ⟨i + 1, hlt, hlb, by rw [hi3, hd, if_neg (by simp [hne])]⟩ ⟨?_, .inr ⟨Nat.le_refl _, ?_, ?_, ?_, rfl⟩⟩ (by simp only; omega)
          · simp only [wS, simprocAttr]; try exact rfl
          · simp only [wS, simprocAttr]; try exact rfl
          · exact fun g cs hg => inL_mono (p := noRef) (fun r hr => by cases hr) (hG0 g cs hg)
          · intro z hz
            simp only [List.mem_cons, List.not_mem_nil, or_false] at hz
            rcases hz with rfl | rfl | rfl | rfl | rfl | rfl <;> first | rfl | exact inE_mono (p := noRef) (fun r hr => by cases hr) (nodes_tree ha) | exact inE_mono (p := noRef) (fun r hr => by cases hr) (nodes_tree hb)
    · have hge : i = a.length := by simp at h; omega
      repeat' (first | refine u'1 fun _ _ => ?_ | refine u'2 ?_ | (first | refine u'3 ?_ | refine u'4 ?_ | refine u'5 fun _ _ _ _ => ?_ | (refine u'6 (fun hg => ?_) (fun hg => ?_) <;> try simp only [hg])) <;> simp only [wS, simprocAttr] | (refine u'7 ?_; try simp only [wE, simprocAttr]) | refine u'8 ?_ | refine u'9 ?_)
      refine ⟨fun h => ?_, fun h => ?_⟩
      · have hlt : a.length < b.length := by simpa using h
        repeat' (first | refine u'1 fun _ _ => ?_ | refine u'2 ?_ | (first | refine u'3 ?_ | refine u'4 ?_ | refine u'5 fun _ _ _ _ => ?_ | (refine u'6 (fun hg => ?_) (fun hg => ?_) <;> try simp only [hg])) <;> simp only [wS, simprocAttr] | (refine u'7 ?_; try simp only [wE, simprocAttr]) | refine u'8 ?_ | refine u'9 ?_)
        refine body_ret1 rfl ?_
        simp only [wS, simprocAttr]
        rw [hi3, hge, List.drop_length, List.drop_eq_getElem_cons hlt, cmpL]
      · have hlt : a.length = b.length := by simp at h; omega
        repeat' (first | refine u'1 fun _ _ => ?_ | refine u'2 ?_ | (first | refine u'3 ?_ | refine u'4 ?_ | refine u'5 fun _ _ _ _ => ?_ | (refine u'6 (fun hg => ?_) (fun hg => ?_) <;> try simp only [hg])) <;> simp only [wS, simprocAttr] | (refine u'7 ?_; try simp only [wE, simprocAttr]) | refine u'8 ?_ | refine u'9 ?_)
        refine body_ret1 rfl ?_
        simp only [wS, simprocAttr]
        rw [hi3, hge, List.drop_length, hlt, List.drop_length, cmpL]
theorem cmp_15 : ∀ (D : Nat) (x y : List AV), NodeV D x → NodeV D y → Pure Tryd.prog G0 15 [.agg x, .agg y] (.int .i64 (cmpT D x y))
  | 0, x, y, hx, _ => by
    cases hx with
    | @mk _ d hd => exact absurd hd (Nat.not_lt_zero _)
  | D + 1, x, y, hx, hy => by
    have tx := hx.tree
    have ty := hy.tree
    cases hx with
    | @mk _ d1 hd1 k1 n1 m1 b1 es1 hl1 hh1 =>
    cases hy with
    | @mk _ d2 hd2 k2 n2 m2 b2 es2 hl2 hh2 =>
    have k41 := cmpf_41 (cmp_15 D) b1 b2 es1 es2 (fun e he => (hh1 e he).up (Nat.le_of_lt_succ hd1)) (fun e he => (hh2 e he).up (Nat.le_of_lt_succ hd2)) hl1 hl2
    refine pure_of_body hG0 Tryd.func15 rfl (by kernel_rfl) (by simp [Tryd.ntmps15]) (by simp only [inL, inR, nodes_tree hh1, nodes_tree hh2, Bool.and_self]) (by simp [inR]) ?_
    simp only [Tryd.ntmps15, enterF, Nat.reduceAdd]
    repeat' (first | refine u'1 fun _ _ => ?_ | refine u'2 ?_ | (first | refine u'3 ?_ | refine u'4 ?_ | refine u'5 fun _ _ _ _ => ?_ | (refine u'6 (fun hg => ?_) (fun hg => ?_) <;> try simp only [hg])) <;> simp only [wS, simprocAttr] | (refine u'7 ?_; try simp only [wE, simprocAttr]) | refine u'8 ?_ | refine u'9 ?_)
    refine callR_tree hG0 (cmp_18 k1 k2) ?_
    simp only [wS, simprocAttr]
    refine callR_tree hG0 (cmp_18 n1 n2) ?_
    simp only [wS, simprocAttr]
    refine callR_tree hG0 (cmp_18 m1 m2) ?_
    simp only [wS, simprocAttr]
    refine callR_tree hG0 k41 ?_
    simp only [wS, simprocAttr]
    refine callR_tree hG0 (or_16g true [cmpI k1 k2, cmpI n1 n2, cmpI m1 m2, cmpL (cmpT D) es1 es2] (by simp)) ?_
    simp only [wS, simprocAttr]
    repeat' (first | refine u'1 fun _ _ => ?_ | refine u'2 ?_ | (first | refine u'3 ?_ | refine u'4 ?_ | refine u'5 fun _ _ _ _ => ?_ | (refine u'6 (fun hg => ?_) (fun hg => ?_) <;> try simp only [hg])) <;> simp only [wS, simprocAttr] | (refine u'7 ?_; try simp only [wE, simprocAttr]) | refine u'8 ?_ | refine u'9 ?_)
    refine body_ret1 rfl ?_
    simp only [wS, simprocAttr]
    rfl
end Go.Proofs.YtpdibmopbpcfdaaDoor
