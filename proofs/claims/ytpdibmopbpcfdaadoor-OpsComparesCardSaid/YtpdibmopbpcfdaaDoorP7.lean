import Derived.Test.YtpdibmopbpcfdaaDoorP6
set_option linter.unusedVariables false
set_option linter.unusedSimpArgs false
namespace Go.Proofs.YtpdibmopbpcfdaaDoor
open Go.AM

set_option maxRecDepth 100000
/-! ### comparing -/
def cmpI (x y : Int) : Int := if x < y then -1 else if y < x then 1 else 0
def lexC : List Int → List Int → Int
  | [], [] => 0
  | [], _ :: _ => -1
  | _ :: _, [] => 1
  | x :: a, y :: b => if cmpI x y ≠ 0 then cmpI x y else lexC a b
def siteC (a b : List Int) (x y : Int) : Int := if lexC a b ≠ 0 then lexC a b else cmpI x y
theorem nan_42 (n : Int) : Pure Tryd.prog G0 42 [.int .i64 n] (.bool false) := by
  refine pure_of_body hG0 Tryd.func42 rfl (by kernel_rfl) (by simp [Tryd.ntmps42]) (by simp [inL, inR]) (by simp [inR]) ?_
  simp only [Tryd.ntmps42, enterF, Nat.reduceAdd]
  have e : (n == n) = true := by simp
  repeat' (first | refine u'1 fun _ _ => ?_ | refine u'2 ?_ | ((first | refine u'3 ?_ | refine u'4 ?_ | refine u'5 fun _ _ _ _ => ?_) <;> simp only [wS, simprocAttr, e, bne]) | (refine u'6 (fun hg => ?_) (fun hg => ?_) <;> simp only [hg, wS, simprocAttr, e, bne]) | (refine u'7 ?_; try simp only [wE, simprocAttr]) | refine u'8 ?_ | refine u'9 ?_)
  refine body_ret1 rfl ?_
  simp only [wS, simprocAttr, Bool.not_true]
theorem cmp_18 (x y : Int) : Pure Tryd.prog G0 18 [.int .i64 x, .int .i64 y] (.int .i64 (cmpI x y)) := by
  refine pure_of_body hG0 Tryd.func18 rfl (by kernel_rfl) (by simp [Tryd.ntmps18]) (by simp [inL, inR]) (by simp [inR]) ?_
  simp only [Tryd.ntmps18, enterF, Nat.reduceAdd]
  repeat' (first | refine u'1 fun _ _ => ?_ | refine u'2 ?_ | ((first | refine u'3 ?_ | refine u'4 ?_ | refine u'5 fun _ _ _ _ => ?_) <;> simp only [wS, simprocAttr]) | (refine u'6 (fun hg => ?_) (fun hg => ?_) <;> simp only [hg, wS, simprocAttr]) | (refine u'7 ?_; try simp only [wE, simprocAttr]) | refine u'8 ?_ | refine u'9 ?_)
  refine callR_tree hG0 (nan_42 x) ?_
  simp only [wS, simprocAttr]
  repeat' (first | refine u'1 fun _ _ => ?_ | refine u'2 ?_ | ((first | refine u'3 ?_ | refine u'4 ?_ | refine u'5 fun _ _ _ _ => ?_) <;> simp only [wS, simprocAttr]) | (refine u'6 (fun hg => ?_) (fun hg => ?_) <;> simp only [hg, wS, simprocAttr]) | (refine u'7 ?_; try simp only [wE, simprocAttr]) | refine u'8 ?_ | refine u'9 ?_)
  refine callR_tree hG0 (nan_42 y) ?_
  simp only [wS, simprocAttr]
  repeat' (first | refine u'1 fun _ _ => ?_ | refine u'2 ?_ | ((first | refine u'3 ?_ | refine u'4 ?_ | refine u'5 fun _ _ _ _ => ?_) <;> simp only [wS, simprocAttr]) | (refine u'6 (fun hg => ?_) (fun hg => ?_) <;> simp only [hg, wS, simprocAttr]) | (refine u'7 ?_; try simp only [wE, simprocAttr]) | refine u'8 ?_ | refine u'9 ?_)
  refine ⟨fun h => ?_, fun h => ?_⟩
  · have hlt : x < y := by simpa using h
    repeat' (first | refine u'1 fun _ _ => ?_ | refine u'2 ?_ | ((first | refine u'3 ?_ | refine u'4 ?_ | refine u'5 fun _ _ _ _ => ?_) <;> simp only [wS, simprocAttr]) | (refine u'6 (fun hg => ?_) (fun hg => ?_) <;> simp only [hg, wS, simprocAttr]) | (refine u'7 ?_; try simp only [wE, simprocAttr]) | refine u'8 ?_ | refine u'9 ?_)
    refine body_ret1 rfl ?_
    simp only [wS, simprocAttr]
    rw [cmpI, if_pos hlt]
  · have hlt : ¬ x < y := by simpa using h
    repeat' (first | refine u'1 fun _ _ => ?_ | refine u'2 ?_ | ((first | refine u'3 ?_ | refine u'4 ?_ | refine u'5 fun _ _ _ _ => ?_) <;> simp only [wS, simprocAttr]) | (refine u'6 (fun hg => ?_) (fun hg => ?_) <;> simp only [hg, wS, simprocAttr]) | (refine u'7 ?_; try simp only [wE, simprocAttr]) | refine u'8 ?_ | refine u'9 ?_)
    refine ⟨fun h => ?_, fun h => ?_⟩
    · have hgt : y < x := by simpa using h
      repeat' (first | refine u'1 fun _ _ => ?_ | refine u'2 ?_ | ((first | refine u'3 ?_ | refine u'4 ?_ | refine u'5 fun _ _ _ _ => ?_) <;> simp only [wS, simprocAttr]) | (refine u'6 (fun hg => ?_) (fun hg => ?_) <;> simp only [hg, wS, simprocAttr]) | (refine u'7 ?_; try simp only [wE, simprocAttr]) | refine u'8 ?_ | refine u'9 ?_)
      refine body_ret1 rfl ?_
      simp only [wS, simprocAttr]
      rw [cmpI, if_neg hlt, if_pos hgt]
    · have hgt : ¬ y < x := by simpa using h
      repeat' (first | refine u'1 fun _ _ => ?_ | refine u'2 ?_ | ((first | refine u'3 ?_ | refine u'4 ?_ | refine u'5 fun _ _ _ _ => ?_) <;> simp only [wS, simprocAttr]) | (refine u'6 (fun hg => ?_) (fun hg => ?_) <;> simp only [hg, wS, simprocAttr]) | (refine u'7 ?_; try simp only [wE, simprocAttr]) | refine u'8 ?_ | refine u'9 ?_)
      refine body_ret1 rfl ?_
      simp only [wS, simprocAttr]
      rw [cmpI, if_neg hlt, if_neg hgt]
theorem lexC_drop {a b : List Int} {i : Nat} {x y : Int} (ha : a[i]? = some x) (hb : b[i]? = some y) : lexC (a.drop i) (b.drop i) = if cmpI x y ≠ 0 then cmpI x y else lexC (a.drop (i + 1)) (b.drop (i + 1)) := by
  obtain ⟨h1, h2⟩ := List.getElem?_eq_some_iff.1 ha
  obtain ⟨h3, h4⟩ := List.getElem?_eq_some_iff.1 hb
  rw [List.drop_eq_getElem_cons h1, List.drop_eq_getElem_cons h3, h2, h4, lexC]
theorem lex_17 (a b : List Int) (ha : a.length ≤ 4611686018427387904) (hb : b.length ≤ 4611686018427387904) : Pure Tryd.prog G0 17 [encI a, encI b] (.int .i64 (lexC a b)) := by
  refine pure_of_body hG0 Tryd.func17 rfl (by kernel_rfl) (by simp [Tryd.ntmps17]) (by simp [inL, tree_encI]) (by simp [inR]) ?_
  simp only [Tryd.ntmps17, enterF, Nat.reduceAdd, encI]
  repeat' (first | refine u'1 fun _ _ => ?_ | refine u'2 ?_ | ((first | refine u'3 ?_ | refine u'4 ?_ | refine u'5 fun _ _ _ _ => ?_) <;> simp only [wS, simprocAttr]) | (refine u'6 (fun hg => ?_) (fun hg => ?_) <;> simp only [hg, wS, simprocAttr]) | (refine u'7 ?_; try simp only [wE, simprocAttr]) | refine u'8 ?_ | refine u'9 ?_)
  refine awp_loop_k (α := {i : Nat // i ≤ a.length ∧ i ≤ b.length ∧ lexC a b = lexC (a.drop i) (b.drop i)}) (fun i => [(0, encI a), (1, encI b), (9, encI a), (10, .int .i64 (a.length : Nat)), (11, .int .i64 (i.1 : Nat))]) (fun i => []) (fun i => a.length - i.1) ⟨0, Nat.zero_le _, Nat.zero_le _, rfl⟩ ⟨?_, .inl ?_⟩ ?_
  · simp only [wS, simprocAttr, encI]; try exact rfl
  · simp only [wS, simprocAttr]; try exact rfl
  · rintro ⟨i, hi1, hi2, hi3⟩ K3 hK3
    simp only [encI]
    repeat' (first | refine u'1 fun _ _ => ?_ | refine u'2 ?_ | ((first | refine u'3 ?_ | refine u'4 ?_ | refine u'5 fun _ _ _ _ => ?_) <;> simp only [wS, simprocAttr]) | (refine u'6 (fun hg => ?_) (fun hg => ?_) <;> simp only [hg, wS, simprocAttr]) | (refine u'7 ?_; try simp only [wE, simprocAttr]) | refine u'8 ?_ | refine u'9 ?_)
    refine ⟨fun h => ?_, fun h => ?_⟩
    · have hlt : i < a.length := by simpa using h
      obtain ⟨x, hx⟩ : ∃ x, a[i]? = some x := ⟨_, List.getElem?_eq_getElem hlt⟩
      have hx' := List.getElem?_eq_some_iff.1 hx
      repeat' (first | refine u'1 fun _ _ => ?_ | refine u'2 ?_ | ((first | refine u'3 ?_ | refine u'4 ?_ | refine u'5 fun _ _ _ _ => ?_) <;> simp only [wS, simprocAttr, hx, hlt]) | (refine u'6 (fun hg => ?_) (fun hg => ?_) <;> simp only [hg, wS, simprocAttr, hx, hlt]) | (refine u'7 ?_; try simp only [wE, simprocAttr]) | refine u'8 ?_ | refine u'9 ?_)
      refine ⟨fun h => ?_, fun h => ?_⟩
      · have hge : i = b.length := by simp at h; omega
        repeat' (first | refine u'1 fun _ _ => ?_ | refine u'2 ?_ | ((first | refine u'3 ?_ | refine u'4 ?_ | refine u'5 fun _ _ _ _ => ?_) <;> simp only [wS, simprocAttr]) | (refine u'6 (fun hg => ?_) (fun hg => ?_) <;> simp only [hg, wS, simprocAttr]) | (refine u'7 ?_; try simp only [wE, simprocAttr]) | refine u'8 ?_ | refine u'9 ?_)
        refine body_ret1 rfl ?_
        simp only [wS, simprocAttr]
        have hb0 : b.drop i = [] := by rw [hge, List.drop_length]
        rw [hi3, hb0, List.drop_eq_getElem_cons hlt, lexC]
      · have hlb : i < b.length := by simp at h; omega
        obtain ⟨y, hy⟩ : ∃ y, b[i]? = some y := ⟨_, List.getElem?_eq_getElem hlb⟩
        have hd := lexC_drop hx hy
        have e3 := wrap_succ (k := i) hlt ha
        repeat' (first | refine u'1 fun _ _ => ?_ | refine u'2 ?_ | ((first | refine u'3 ?_ | refine u'4 ?_ | refine u'5 fun _ _ _ _ => ?_) <;> simp only [wS, simprocAttr, hy, hlb]) | (refine u'6 (fun hg => ?_) (fun hg => ?_) <;> simp only [hg, wS, simprocAttr, hy, hlb]) | (refine u'7 ?_; try simp only [wE, simprocAttr]) | refine u'8 ?_ | refine u'9 ?_)
        refine callR_tree hG0 (cmp_18 x y) ?_
        simp only [wS, simprocAttr]
        repeat' (first | refine u'1 fun _ _ => ?_ | refine u'2 ?_ | ((first | refine u'3 ?_ | refine u'4 ?_ | refine u'5 fun _ _ _ _ => ?_) <;> simp only [wS, simprocAttr]) | (refine u'6 (fun hg => ?_) (fun hg => ?_) <;> simp only [hg, wS, simprocAttr]) | (refine u'7 ?_; try simp only [wE, simprocAttr]) | refine u'8 ?_ | refine u'9 ?_)
        refine ⟨fun h => ?_, fun h => ?_⟩
        · have hne : cmpI x y ≠ 0 := by simpa using h
          repeat' (first | refine u'1 fun _ _ => ?_ | refine u'2 ?_ | ((first | refine u'3 ?_ | refine u'4 ?_ | refine u'5 fun _ _ _ _ => ?_) <;> simp only [wS, simprocAttr]) | (refine u'6 (fun hg => ?_) (fun hg => ?_) <;> simp only [hg, wS, simprocAttr]) | (refine u'7 ?_; try simp only [wE, simprocAttr]) | refine u'8 ?_ | refine u'9 ?_)
          refine body_ret1 rfl ?_
          simp only [wS, simprocAttr]
          rw [hi3, hd, if_pos hne]
        · have hne : cmpI x y = 0 := by simpa using h
          repeat' (first | refine u'1 fun _ _ => ?_ | refine u'2 ?_ | ((first | refine u'3 ?_ | refine u'4 ?_ | refine u'5 fun _ _ _ _ => ?_) <;> simp only [wS, simprocAttr, e3]) | (refine u'6 (fun hg => ?_) (fun hg => ?_) <;> simp only [hg, wS, simprocAttr, e3]) | (refine u'7 ?_; try simp only [wE, simprocAttr]) | refine u'8 ?_ | refine u'9 ?_)
          refine hK3.go ⟨i + 1, hlt, hlb, by rw [hi3, hd, if_neg (by simp [hne])]⟩ ⟨?_, .inl ?_⟩ (by simp only; omega)
          · simp only [wS, simprocAttr, encI]; try exact rfl
          · simp only [wS, simprocAttr]; try exact rfl
    · have hge : i = a.length := by simp at h; omega
      repeat' (first | refine u'1 fun _ _ => ?_ | refine u'2 ?_ | ((first | refine u'3 ?_ | refine u'4 ?_ | refine u'5 fun _ _ _ _ => ?_) <;> simp only [wS, simprocAttr]) | (refine u'6 (fun hg => ?_) (fun hg => ?_) <;> simp only [hg, wS, simprocAttr]) | (refine u'7 ?_; try simp only [wE, simprocAttr]) | refine u'8 ?_ | refine u'9 ?_)
      refine ⟨fun h => ?_, fun h => ?_⟩
      · have hlt : a.length < b.length := by simpa using h
        repeat' (first | refine u'1 fun _ _ => ?_ | refine u'2 ?_ | ((first | refine u'3 ?_ | refine u'4 ?_ | refine u'5 fun _ _ _ _ => ?_) <;> simp only [wS, simprocAttr]) | (refine u'6 (fun hg => ?_) (fun hg => ?_) <;> simp only [hg, wS, simprocAttr]) | (refine u'7 ?_; try simp only [wE, simprocAttr]) | refine u'8 ?_ | refine u'9 ?_)
        refine body_ret1 rfl ?_
        simp only [wS, simprocAttr]
        rw [hi3, hge, List.drop_length, List.drop_eq_getElem_cons hlt, lexC]
      · have hlt : a.length = b.length := by simp at h; omega
        repeat' (first | refine u'1 fun _ _ => ?_ | refine u'2 ?_ | ((first | refine u'3 ?_ | refine u'4 ?_ | refine u'5 fun _ _ _ _ => ?_) <;> simp only [wS, simprocAttr]) | (refine u'6 (fun hg => ?_) (fun hg => ?_) <;> simp only [hg, wS, simprocAttr]) | (refine u'7 ?_; try simp only [wE, simprocAttr]) | refine u'8 ?_ | refine u'9 ?_)
        refine body_ret1 rfl ?_
        simp only [wS, simprocAttr]
        rw [hi3, hge, List.drop_length, hlt, List.drop_length, lexC]
theorem or_16 (x y : Int) (b : Bool) : Pure Tryd.prog G0 16 [.sl b [[.int .i64 x], [.int .i64 y]]] (.int .i64 (if x ≠ 0 then x else y)) := by
  refine pure_of_body hG0 Tryd.func16 rfl (by kernel_rfl) (by simp [Tryd.ntmps16]) (by simp [inL, inR, inE]) (by simp [inR]) ?_
  simp only [Tryd.ntmps16, enterF, Nat.reduceAdd]
  repeat' (first | refine u'1 fun _ _ => ?_ | refine u'2 ?_ | ((first | refine u'3 ?_ | refine u'4 ?_ | refine u'5 fun _ _ _ _ => ?_) <;> simp only [wS, simprocAttr]) | (refine u'6 (fun hg => ?_) (fun hg => ?_) <;> simp only [hg, wS, simprocAttr]) | (refine u'7 ?_; try simp only [wE, simprocAttr]) | refine u'8 ?_ | refine u'9 ?_)
  refine awp_loop_k (α := {i : Nat // i = 0 ∨ (i = 1 ∧ x = 0) ∨ (i = 2 ∧ x = 0 ∧ y = 0)}) (fun i => [(3, .int .i64 0), (6, .sl b [[.int .i64 x], [.int .i64 y]]), (7, .int .i64 2), (8, .int .i64 (i.1 : Nat))]) (fun i => []) (fun i => 2 - i.1) ⟨0, .inl rfl⟩ ⟨?_, .inl ?_⟩ ?_
  · simp only [wS, simprocAttr]; try exact ⟨rfl, rfl⟩
  · simp only [wS, simprocAttr]; try exact rfl
  · rintro ⟨i, hi⟩ K3 hK3
    have e1 : IntKind.i64.wrap (0 + 1) = 1 := rfl
    have e2 : IntKind.i64.wrap (1 + 1) = 2 := rfl
    rcases hi with rfl | ⟨rfl, hx⟩ | ⟨rfl, hx, hy⟩
    · repeat' (first | refine u'1 fun _ _ => ?_ | refine u'2 ?_ | ((first | refine u'3 ?_ | refine u'4 ?_ | refine u'5 fun _ _ _ _ => ?_) <;> simp only [wS, simprocAttr, Int.cast_ofNat_Int, e1]) | (refine u'6 (fun hg => ?_) (fun hg => ?_) <;> simp only [hg, wS, simprocAttr, Int.cast_ofNat_Int, e1]) | (refine u'7 ?_; try simp only [wE, simprocAttr]) | refine u'8 ?_ | refine u'9 ?_)
      refine ⟨fun h => ?_, fun h => ?_⟩
      · have hne : x ≠ 0 := by simpa using h
        repeat' (first | refine u'1 fun _ _ => ?_ | refine u'2 ?_ | ((first | refine u'3 ?_ | refine u'4 ?_ | refine u'5 fun _ _ _ _ => ?_) <;> simp only [wS, simprocAttr]) | (refine u'6 (fun hg => ?_) (fun hg => ?_) <;> simp only [hg, wS, simprocAttr]) | (refine u'7 ?_; try simp only [wE, simprocAttr]) | refine u'8 ?_ | refine u'9 ?_)
        refine body_ret1 rfl ?_
        simp only [wS, simprocAttr]
        rw [if_pos hne]
      · have hne : x = 0 := by simpa using h
        repeat' (first | refine u'1 fun _ _ => ?_ | refine u'2 ?_ | ((first | refine u'3 ?_ | refine u'4 ?_ | refine u'5 fun _ _ _ _ => ?_) <;> simp only [wS, simprocAttr, Int.cast_ofNat_Int, e1]) | (refine u'6 (fun hg => ?_) (fun hg => ?_) <;> simp only [hg, wS, simprocAttr, Int.cast_ofNat_Int, e1]) | (refine u'7 ?_; try simp only [wE, simprocAttr]) | refine u'8 ?_ | refine u'9 ?_)
        refine hK3.go ⟨1, .inr (.inl ⟨rfl, hne⟩)⟩ ⟨?_, .inl ?_⟩ (by simp)
        · simp only [wS, simprocAttr]; try exact rfl
        · simp only [wS, simprocAttr]; try exact rfl
    · repeat' (first | refine u'1 fun _ _ => ?_ | refine u'2 ?_ | ((first | refine u'3 ?_ | refine u'4 ?_ | refine u'5 fun _ _ _ _ => ?_) <;> simp only [wS, simprocAttr, Int.cast_ofNat_Int, e2]) | (refine u'6 (fun hg => ?_) (fun hg => ?_) <;> simp only [hg, wS, simprocAttr, Int.cast_ofNat_Int, e2]) | (refine u'7 ?_; try simp only [wE, simprocAttr]) | refine u'8 ?_ | refine u'9 ?_)
      refine ⟨fun h => ?_, fun h => ?_⟩
      · have hne : y ≠ 0 := by simpa using h
        repeat' (first | refine u'1 fun _ _ => ?_ | refine u'2 ?_ | ((first | refine u'3 ?_ | refine u'4 ?_ | refine u'5 fun _ _ _ _ => ?_) <;> simp only [wS, simprocAttr]) | (refine u'6 (fun hg => ?_) (fun hg => ?_) <;> simp only [hg, wS, simprocAttr]) | (refine u'7 ?_; try simp only [wE, simprocAttr]) | refine u'8 ?_ | refine u'9 ?_)
        refine body_ret1 rfl ?_
        simp only [wS, simprocAttr]
        rw [if_neg (by simpa using hx)]
      · have hne : y = 0 := by simpa using h
        repeat' (first | refine u'1 fun _ _ => ?_ | refine u'2 ?_ | ((first | refine u'3 ?_ | refine u'4 ?_ | refine u'5 fun _ _ _ _ => ?_) <;> simp only [wS, simprocAttr, Int.cast_ofNat_Int, e2]) | (refine u'6 (fun hg => ?_) (fun hg => ?_) <;> simp only [hg, wS, simprocAttr, Int.cast_ofNat_Int, e2]) | (refine u'7 ?_; try simp only [wE, simprocAttr]) | refine u'8 ?_ | refine u'9 ?_)
        refine hK3.go ⟨2, .inr (.inr ⟨rfl, hx, hne⟩)⟩ ⟨?_, .inl ?_⟩ (by simp)
        · simp only [wS, simprocAttr]; try exact rfl
        · simp only [wS, simprocAttr]; try exact rfl
    · repeat' (first | refine u'1 fun _ _ => ?_ | refine u'2 ?_ | ((first | refine u'3 ?_ | refine u'4 ?_ | refine u'5 fun _ _ _ _ => ?_) <;> simp only [wS, simprocAttr, Int.cast_ofNat_Int]) | (refine u'6 (fun hg => ?_) (fun hg => ?_) <;> simp only [hg, wS, simprocAttr, Int.cast_ofNat_Int]) | (refine u'7 ?_; try simp only [wE, simprocAttr]) | refine u'8 ?_ | refine u'9 ?_)
      refine body_ret1 rfl ?_
      simp only [wS, simprocAttr]
      rw [if_neg (by simpa using hx), hy]
def encS (p : List Int) (x : Int) : AV := .agg [encI p, .int .i64 x]
theorem tree_encS (p : List Int) (x : Int) : inR noRef (encS p x) = true := by simp [encS, inR, inL, tree_encI]
theorem site_5 (a b : List Int) (x y : Int) (ha : a.length ≤ 4611686018427387904) (hb : b.length ≤ 4611686018427387904) : Pure Tryd.prog G0 5 [encS a x, encS b y] (.int .i64 (siteC a b x y)) := by
  have k := lex_17 a b ha hb
  refine pure_of_body hG0 Tryd.func5 rfl (by kernel_rfl) (by simp [Tryd.ntmps5]) (by simp [inL, tree_encS]) (by simp [inR]) ?_
  simp only [Tryd.ntmps5, enterF, Nat.reduceAdd, encS]
  obtain ⟨ea, hea⟩ : ∃ es, encI a = .sl false es := ⟨_, rfl⟩
  obtain ⟨eb, heb⟩ : ∃ es, encI b = .sl false es := ⟨_, rfl⟩
  rw [hea, heb] at k ⊢
  repeat' (first | refine u'1 fun _ _ => ?_ | refine u'2 ?_ | ((first | refine u'3 ?_ | refine u'4 ?_ | refine u'5 fun _ _ _ _ => ?_) <;> simp only [wS, simprocAttr]) | (refine u'6 (fun hg => ?_) (fun hg => ?_) <;> simp only [hg, wS, simprocAttr]) | (refine u'7 ?_; try simp only [wE, simprocAttr]) | refine u'8 ?_ | refine u'9 ?_)
  refine callR_tree hG0 k ?_
  simp only [wS, simprocAttr]
  refine callR_tree hG0 (cmp_18 x y) ?_
  simp only [wS, simprocAttr]
  refine callR_tree hG0 (or_16 _ _ _) ?_
  simp only [wS, simprocAttr]
  repeat' (first | refine u'1 fun _ _ => ?_ | refine u'2 ?_ | ((first | refine u'3 ?_ | refine u'4 ?_ | refine u'5 fun _ _ _ _ => ?_) <;> simp only [wS, simprocAttr]) | (refine u'6 (fun hg => ?_) (fun hg => ?_) <;> simp only [hg, wS, simprocAttr]) | (refine u'7 ?_; try simp only [wE, simprocAttr]) | refine u'8 ?_ | refine u'9 ?_)
  refine body_ret1 rfl ?_
  simp only [wS, simprocAttr]
  rfl
theorem lex_end {a b : List Int} {i : Nat} (h1 : i ≤ a.length) (h2 : i ≤ b.length) (h : lexC a b = lexC (a.drop i) (b.drop i)) (he : i = a.length ∨ i = b.length) : lexC a b = cmpI (a.length : Int) (b.length : Int) := by
  rw [h]
  rcases he with rfl | rfl
  · rw [List.drop_length]
    cases hb : b.drop a.length with
    | nil =>
      have := List.drop_eq_nil_iff.1 hb
      rw [lexC, cmpI, if_neg (by omega), if_neg (by omega)]
    | cons y ys =>
      have hlt : a.length < b.length := by
        rcases Nat.lt_or_ge a.length b.length with h | h
        · exact h
        · rw [List.drop_eq_nil_of_le h] at hb; cases hb
      rw [lexC, cmpI, if_pos (by omega)]
  · rw [List.drop_length]
    cases hb : a.drop b.length with
    | nil =>
      have := List.drop_eq_nil_iff.1 hb
      rw [lexC, cmpI, if_neg (by omega), if_neg (by omega)]
    | cons y ys =>
      have hlt : b.length < a.length := by
        rcases Nat.lt_or_ge b.length a.length with h | h
        · exact h
        · rw [List.drop_eq_nil_of_le h] at hb; cases hb
      rw [lexC, cmpI, if_neg (by omega), if_pos (by omega)]
theorem ref_6 (a b : List Int) (x y : Int) (ha : a.length ≤ 4611686018427387904) (hb : b.length ≤ 4611686018427387904) : Pure Tryd.prog G0 6 [encS a x, encS b y] (.int .i64 (siteC a b x y)) := by
  refine pure_of_body hG0 Tryd.func6 rfl (by kernel_rfl) (by simp [Tryd.ntmps6]) (by simp [inL, tree_encS]) (by simp [inR]) ?_
  simp only [Tryd.ntmps6, enterF, Nat.reduceAdd, encS]
  repeat' (first | refine u'1 fun _ _ => ?_ | refine u'2 ?_ | ((first | refine u'3 ?_ | refine u'4 ?_ | refine u'5 fun _ _ _ _ => ?_) <;> simp only [wS, simprocAttr, encI]) | (refine u'6 (fun hg => ?_) (fun hg => ?_) <;> simp only [hg, wS, simprocAttr, encI]) | (refine u'7 ?_; try simp only [wE, simprocAttr]) | refine u'8 ?_ | refine u'9 ?_)
  refine awp_loop_k (α := {i : Nat // i ≤ a.length ∧ i ≤ b.length ∧ lexC a b = lexC (a.drop i) (b.drop i)}) (fun i => [(2, .ptr 0 0 0), (3, .ptr 1 0 0), (5, .int .i64 (i.1 : Nat))]) (fun i => [.cells 0 [encI a, .int .i64 x], .cells 0 [encI b, .int .i64 y]]) (fun i => a.length - i.1) ⟨0, Nat.zero_le _, Nat.zero_le _, rfl⟩ ⟨?_, .inl ?_⟩ ?_
  · simp only [wS, simprocAttr, encI]; try exact rfl
  · simp only [wS, simprocAttr]; try exact rfl
  · rintro ⟨i, hi1, hi2, hi3⟩ K3 hK3
    simp only [encI]
    repeat' (first | refine u'1 fun _ _ => ?_ | refine u'2 ?_ | ((first | refine u'3 ?_ | refine u'4 ?_ | refine u'5 fun _ _ _ _ => ?_) <;> simp only [wS, simprocAttr]) | (refine u'6 (fun hg => ?_) (fun hg => ?_) <;> simp only [hg, wS, simprocAttr]) | (refine u'7 ?_; try simp only [wE, simprocAttr]) | refine u'8 ?_ | refine u'9 ?_)
    · have hlt : i < a.length := by simpa using hg
      refine ⟨fun h => ?_, fun h => ?_⟩
      · have hlb : i < b.length := by simpa using h
        obtain ⟨u, hu⟩ : ∃ u, a[i]? = some u := ⟨_, List.getElem?_eq_getElem hlt⟩
        obtain ⟨v, hv⟩ : ∃ v, b[i]? = some v := ⟨_, List.getElem?_eq_getElem hlb⟩
        have hd := lexC_drop hu hv
        have e3 := wrap_succ (k := i) hlt ha
        repeat' (first | refine u'1 fun _ _ => ?_ | refine u'2 ?_ | ((first | refine u'3 ?_ | refine u'4 ?_ | refine u'5 fun _ _ _ _ => ?_) <;> simp only [wS, simprocAttr, hu, hv, hlt, hlb]) | (refine u'6 (fun hg => ?_) (fun hg => ?_) <;> simp only [hg, wS, simprocAttr, hu, hv, hlt, hlb]) | (refine u'7 ?_; try simp only [wE, simprocAttr]) | refine u'8 ?_ | refine u'9 ?_)
        refine ⟨fun h => ?_, fun h => ?_⟩
        · have h1 : u < v := by simpa using h
          have hc : cmpI u v = -1 := by rw [cmpI, if_pos h1]
          repeat' (first | refine u'1 fun _ _ => ?_ | refine u'2 ?_ | ((first | refine u'3 ?_ | refine u'4 ?_ | refine u'5 fun _ _ _ _ => ?_) <;> simp only [wS, simprocAttr]) | (refine u'6 (fun hg => ?_) (fun hg => ?_) <;> simp only [hg, wS, simprocAttr]) | (refine u'7 ?_; try simp only [wE, simprocAttr]) | refine u'8 ?_ | refine u'9 ?_)
          refine body_ret1 rfl ?_
          simp only [wS, simprocAttr]
          rw [siteC, hi3, hd, hc]; rfl
        · have h1 : ¬ u < v := by simpa using h
          repeat' (first | refine u'1 fun _ _ => ?_ | refine u'2 ?_ | ((first | refine u'3 ?_ | refine u'4 ?_ | refine u'5 fun _ _ _ _ => ?_) <;> simp only [wS, simprocAttr, hu, hv, hlt, hlb]) | (refine u'6 (fun hg => ?_) (fun hg => ?_) <;> simp only [hg, wS, simprocAttr, hu, hv, hlt, hlb]) | (refine u'7 ?_; try simp only [wE, simprocAttr]) | refine u'8 ?_ | refine u'9 ?_)
          refine ⟨fun h => ?_, fun h => ?_⟩
          · have h2 : v < u := by simpa using h
            have hc : cmpI u v = 1 := by rw [cmpI, if_neg h1, if_pos h2]
            repeat' (first | refine u'1 fun _ _ => ?_ | refine u'2 ?_ | ((first | refine u'3 ?_ | refine u'4 ?_ | refine u'5 fun _ _ _ _ => ?_) <;> simp only [wS, simprocAttr]) | (refine u'6 (fun hg => ?_) (fun hg => ?_) <;> simp only [hg, wS, simprocAttr]) | (refine u'7 ?_; try simp only [wE, simprocAttr]) | refine u'8 ?_ | refine u'9 ?_)
            refine body_ret1 rfl ?_
            simp only [wS, simprocAttr]
            rw [siteC, hi3, hd, hc]; rfl
          · have h2 : ¬ v < u := by simpa using h
            have hc : cmpI u v = 0 := by rw [cmpI, if_neg h1, if_neg h2]
            repeat' (first | refine u'1 fun _ _ => ?_ | refine u'2 ?_ | ((first | refine u'3 ?_ | refine u'4 ?_ | refine u'5 fun _ _ _ _ => ?_) <;> simp only [wS, simprocAttr, e3]) | (refine u'6 (fun hg => ?_) (fun hg => ?_) <;> simp only [hg, wS, simprocAttr, e3]) | (refine u'7 ?_; try simp only [wE, simprocAttr]) | refine u'8 ?_ | refine u'9 ?_)
            refine hK3.go ⟨i + 1, hlt, hlb, by rw [hi3, hd, if_neg (by simp [hc])]⟩ ⟨?_, .inl ?_⟩ (by simp only; omega)
            · simp only [wS, simprocAttr, encI]; try exact rfl
            · simp only [wS, simprocAttr, encI]; try exact rfl
      · have hge : i = b.length := by simp at h; omega
        have hend := lex_end hi1 hi2 hi3 (.inr hge)
        repeat' (first | refine u'1 fun _ _ => ?_ | refine u'2 ?_ | ((first | refine u'3 ?_ | refine u'4 ?_ | refine u'5 fun _ _ _ _ => ?_) <;> simp only [wS, simprocAttr]) | (refine u'6 (fun hg => ?_) (fun hg => ?_) <;> simp only [hg, wS, simprocAttr]) | (refine u'7 ?_; try simp only [wE, simprocAttr]) | refine u'8 ?_ | refine u'9 ?_)
        refine ⟨fun h => ?_, fun h => ?_⟩
        · have heq : (a.length : Int) = (b.length : Int) := by simpa using h
          have hs : siteC a b x y = cmpI x y := by rw [siteC, hend, heq]; simp [cmpI]
          repeat' (first | refine u'1 fun _ _ => ?_ | refine u'2 ?_ | ((first | refine u'3 ?_ | refine u'4 ?_ | refine u'5 fun _ _ _ _ => ?_) <;> simp only [wS, simprocAttr]) | (refine u'6 (fun hg => ?_) (fun hg => ?_) <;> simp only [hg, wS, simprocAttr]) | (refine u'7 ?_; try simp only [wE, simprocAttr]) | refine u'8 ?_ | refine u'9 ?_)
          refine ⟨fun h2 => ?_, fun h2 => ?_⟩
          · have hlt : x < y := by simpa using h2
            repeat' (first | refine u'1 fun _ _ => ?_ | refine u'2 ?_ | ((first | refine u'3 ?_ | refine u'4 ?_ | refine u'5 fun _ _ _ _ => ?_) <;> simp only [wS, simprocAttr]) | (refine u'6 (fun hg => ?_) (fun hg => ?_) <;> simp only [hg, wS, simprocAttr]) | (refine u'7 ?_; try simp only [wE, simprocAttr]) | refine u'8 ?_ | refine u'9 ?_)
            refine body_ret1 rfl ?_
            simp only [wS, simprocAttr]
            rw [hs, cmpI, if_pos hlt]
          · have hlt : ¬ x < y := by simpa using h2
            repeat' (first | refine u'1 fun _ _ => ?_ | refine u'2 ?_ | ((first | refine u'3 ?_ | refine u'4 ?_ | refine u'5 fun _ _ _ _ => ?_) <;> simp only [wS, simprocAttr]) | (refine u'6 (fun hg => ?_) (fun hg => ?_) <;> simp only [hg, wS, simprocAttr]) | (refine u'7 ?_; try simp only [wE, simprocAttr]) | refine u'8 ?_ | refine u'9 ?_)
            refine ⟨fun h3 => ?_, fun h3 => ?_⟩
            · have hgt : y < x := by simpa using h3
              repeat' (first | refine u'1 fun _ _ => ?_ | refine u'2 ?_ | ((first | refine u'3 ?_ | refine u'4 ?_ | refine u'5 fun _ _ _ _ => ?_) <;> simp only [wS, simprocAttr]) | (refine u'6 (fun hg => ?_) (fun hg => ?_) <;> simp only [hg, wS, simprocAttr]) | (refine u'7 ?_; try simp only [wE, simprocAttr]) | refine u'8 ?_ | refine u'9 ?_)
              refine body_ret1 rfl ?_
              simp only [wS, simprocAttr]
              rw [hs, cmpI, if_neg hlt, if_pos hgt]
            · have hgt : ¬ y < x := by simpa using h3
              repeat' (first | refine u'1 fun _ _ => ?_ | refine u'2 ?_ | ((first | refine u'3 ?_ | refine u'4 ?_ | refine u'5 fun _ _ _ _ => ?_) <;> simp only [wS, simprocAttr]) | (refine u'6 (fun hg => ?_) (fun hg => ?_) <;> simp only [hg, wS, simprocAttr]) | (refine u'7 ?_; try simp only [wE, simprocAttr]) | refine u'8 ?_ | refine u'9 ?_)
              refine body_ret1 rfl ?_
              simp only [wS, simprocAttr]
              rw [hs, cmpI, if_neg hlt, if_neg hgt]
        · have hne : (a.length : Int) ≠ (b.length : Int) := by simpa using h
          have hs : siteC a b x y = cmpI (a.length : Int) (b.length : Int) := by
            rw [siteC, hend, if_pos]
            unfold cmpI
            split
            · decide
            · rw [if_pos (by omega)]; decide
          repeat' (first | refine u'1 fun _ _ => ?_ | refine u'2 ?_ | ((first | refine u'3 ?_ | refine u'4 ?_ | refine u'5 fun _ _ _ _ => ?_) <;> simp only [wS, simprocAttr]) | (refine u'6 (fun hg => ?_) (fun hg => ?_) <;> simp only [hg, wS, simprocAttr]) | (refine u'7 ?_; try simp only [wE, simprocAttr]) | refine u'8 ?_ | refine u'9 ?_)
          refine ⟨fun h2 => ?_, fun h2 => ?_⟩
          · have hlt : (a.length : Int) < (b.length : Int) := by simpa using h2
            repeat' (first | refine u'1 fun _ _ => ?_ | refine u'2 ?_ | ((first | refine u'3 ?_ | refine u'4 ?_ | refine u'5 fun _ _ _ _ => ?_) <;> simp only [wS, simprocAttr]) | (refine u'6 (fun hg => ?_) (fun hg => ?_) <;> simp only [hg, wS, simprocAttr]) | (refine u'7 ?_; try simp only [wE, simprocAttr]) | refine u'8 ?_ | refine u'9 ?_)
            refine body_ret1 rfl ?_
            simp only [wS, simprocAttr]
            rw [hs, cmpI, if_pos hlt]
          · have hlt : ¬ (a.length : Int) < (b.length : Int) := by simpa using h2
            repeat' (first | refine u'1 fun _ _ => ?_ | refine u'2 ?_ | ((first | refine u'3 ?_ | refine u'4 ?_ | refine u'5 fun _ _ _ _ => ?_) <;> simp only [wS, simprocAttr]) | (refine u'6 (fun hg => ?_) (fun hg => ?_) <;> simp only [hg, wS, simprocAttr]) | (refine u'7 ?_; try simp only [wE, simprocAttr]) | refine u'8 ?_ | refine u'9 ?_)
            refine ⟨fun h3 => ?_, fun h3 => ?_⟩
            · have hgt : (b.length : Int) < (a.length : Int) := by simpa using h3
              repeat' (first | refine u'1 fun _ _ => ?_ | refine u'2 ?_ | ((first | refine u'3 ?_ | refine u'4 ?_ | refine u'5 fun _ _ _ _ => ?_) <;> simp only [wS, simprocAttr]) | (refine u'6 (fun hg => ?_) (fun hg => ?_) <;> simp only [hg, wS, simprocAttr]) | (refine u'7 ?_; try simp only [wE, simprocAttr]) | refine u'8 ?_ | refine u'9 ?_)
              refine body_ret1 rfl ?_
              simp only [wS, simprocAttr]
              rw [hs, cmpI, if_neg hlt, if_pos hgt]
            · have hgt : ¬ (b.length : Int) < (a.length : Int) := by simpa using h3
              repeat' (first | refine u'1 fun _ _ => ?_ | refine u'2 ?_ | ((first | refine u'3 ?_ | refine u'4 ?_ | refine u'5 fun _ _ _ _ => ?_) <;> simp only [wS, simprocAttr]) | (refine u'6 (fun hg => ?_) (fun hg => ?_) <;> simp only [hg, wS, simprocAttr]) | (refine u'7 ?_; try simp only [wE, simprocAttr]) | refine u'8 ?_ | refine u'9 ?_)
              refine body_ret1 rfl ?_
              simp only [wS, simprocAttr]
              rw [hs, cmpI, if_neg hlt, if_neg hgt]
    · have hge : i = a.length := by simp at hg; omega
      have hend := lex_end hi1 hi2 hi3 (.inl hge)
      refine ⟨fun h => ?_, fun h => ?_⟩
      · have heq : (a.length : Int) = (b.length : Int) := by simpa using h
        have hs : siteC a b x y = cmpI x y := by rw [siteC, hend, heq]; simp [cmpI]
        repeat' (first | refine u'1 fun _ _ => ?_ | refine u'2 ?_ | ((first | refine u'3 ?_ | refine u'4 ?_ | refine u'5 fun _ _ _ _ => ?_) <;> simp only [wS, simprocAttr]) | (refine u'6 (fun hg => ?_) (fun hg => ?_) <;> simp only [hg, wS, simprocAttr]) | (refine u'7 ?_; try simp only [wE, simprocAttr]) | refine u'8 ?_ | refine u'9 ?_)
        refine ⟨fun h2 => ?_, fun h2 => ?_⟩
        · have hlt : x < y := by simpa using h2
          repeat' (first | refine u'1 fun _ _ => ?_ | refine u'2 ?_ | ((first | refine u'3 ?_ | refine u'4 ?_ | refine u'5 fun _ _ _ _ => ?_) <;> simp only [wS, simprocAttr]) | (refine u'6 (fun hg => ?_) (fun hg => ?_) <;> simp only [hg, wS, simprocAttr]) | (refine u'7 ?_; try simp only [wE, simprocAttr]) | refine u'8 ?_ | refine u'9 ?_)
          refine body_ret1 rfl ?_
          simp only [wS, simprocAttr]
          rw [hs, cmpI, if_pos hlt]
        · have hlt : ¬ x < y := by simpa using h2
          repeat' (first | refine u'1 fun _ _ => ?_ | refine u'2 ?_ | ((first | refine u'3 ?_ | refine u'4 ?_ | refine u'5 fun _ _ _ _ => ?_) <;> simp only [wS, simprocAttr]) | (refine u'6 (fun hg => ?_) (fun hg => ?_) <;> simp only [hg, wS, simprocAttr]) | (refine u'7 ?_; try simp only [wE, simprocAttr]) | refine u'8 ?_ | refine u'9 ?_)
          refine ⟨fun h3 => ?_, fun h3 => ?_⟩
          · have hgt : y < x := by simpa using h3
            repeat' (first | refine u'1 fun _ _ => ?_ | refine u'2 ?_ | ((first | refine u'3 ?_ | refine u'4 ?_ | refine u'5 fun _ _ _ _ => ?_) <;> simp only [wS, simprocAttr]) | (refine u'6 (fun hg => ?_) (fun hg => ?_) <;> simp only [hg, wS, simprocAttr]) | (refine u'7 ?_; try simp only [wE, simprocAttr]) | refine u'8 ?_ | refine u'9 ?_)
            refine body_ret1 rfl ?_
            simp only [wS, simprocAttr]
            rw [hs, cmpI, if_neg hlt, if_pos hgt]
          · have hgt : ¬ y < x := by simpa using h3
            repeat' (first | refine u'1 fun _ _ => ?_ | refine u'2 ?_ | ((first | refine u'3 ?_ | refine u'4 ?_ | refine u'5 fun _ _ _ _ => ?_) <;> simp only [wS, simprocAttr]) | (refine u'6 (fun hg => ?_) (fun hg => ?_) <;> simp only [hg, wS, simprocAttr]) | (refine u'7 ?_; try simp only [wE, simprocAttr]) | refine u'8 ?_ | refine u'9 ?_)
            refine body_ret1 rfl ?_
            simp only [wS, simprocAttr]
            rw [hs, cmpI, if_neg hlt, if_neg hgt]
      · have hne : (a.length : Int) ≠ (b.length : Int) := by simpa using h
        have hs : siteC a b x y = cmpI (a.length : Int) (b.length : Int) := by
          rw [siteC, hend, if_pos]
          unfold cmpI
          split
          · decide
          · rw [if_pos (by omega)]; decide
        repeat' (first | refine u'1 fun _ _ => ?_ | refine u'2 ?_ | ((first | refine u'3 ?_ | refine u'4 ?_ | refine u'5 fun _ _ _ _ => ?_) <;> simp only [wS, simprocAttr]) | (refine u'6 (fun hg => ?_) (fun hg => ?_) <;> simp only [hg, wS, simprocAttr]) | (refine u'7 ?_; try simp only [wE, simprocAttr]) | refine u'8 ?_ | refine u'9 ?_)
        refine ⟨fun h2 => ?_, fun h2 => ?_⟩
        · have hlt : (a.length : Int) < (b.length : Int) := by simpa using h2
          repeat' (first | refine u'1 fun _ _ => ?_ | refine u'2 ?_ | ((first | refine u'3 ?_ | refine u'4 ?_ | refine u'5 fun _ _ _ _ => ?_) <;> simp only [wS, simprocAttr]) | (refine u'6 (fun hg => ?_) (fun hg => ?_) <;> simp only [hg, wS, simprocAttr]) | (refine u'7 ?_; try simp only [wE, simprocAttr]) | refine u'8 ?_ | refine u'9 ?_)
          refine body_ret1 rfl ?_
          simp only [wS, simprocAttr]
          rw [hs, cmpI, if_pos hlt]
        · have hlt : ¬ (a.length : Int) < (b.length : Int) := by simpa using h2
          repeat' (first | refine u'1 fun _ _ => ?_ | refine u'2 ?_ | ((first | refine u'3 ?_ | refine u'4 ?_ | refine u'5 fun _ _ _ _ => ?_) <;> simp only [wS, simprocAttr]) | (refine u'6 (fun hg => ?_) (fun hg => ?_) <;> simp only [hg, wS, simprocAttr]) | (refine u'7 ?_; try simp only [wE, simprocAttr]) | refine u'8 ?_ | refine u'9 ?_)
          refine ⟨fun h3 => ?_, fun h3 => ?_⟩
          · have hgt : (b.length : Int) < (a.length : Int) := by simpa using h3
            repeat' (first | refine u'1 fun _ _ => ?_ | refine u'2 ?_ | ((first | refine u'3 ?_ | refine u'4 ?_ | refine u'5 fun _ _ _ _ => ?_) <;> simp only [wS, simprocAttr]) | (refine u'6 (fun hg => ?_) (fun hg => ?_) <;> simp only [hg, wS, simprocAttr]) | (refine u'7 ?_; try simp only [wE, simprocAttr]) | refine u'8 ?_ | refine u'9 ?_)
            refine body_ret1 rfl ?_
            simp only [wS, simprocAttr]
            rw [hs, cmpI, if_neg hlt, if_pos hgt]
          · have hgt : ¬ (b.length : Int) < (a.length : Int) := by simpa using h3
            repeat' (first | refine u'1 fun _ _ => ?_ | refine u'2 ?_ | ((first | refine u'3 ?_ | refine u'4 ?_ | refine u'5 fun _ _ _ _ => ?_) <;> simp only [wS, simprocAttr]) | (refine u'6 (fun hg => ?_) (fun hg => ?_) <;> simp only [hg, wS, simprocAttr]) | (refine u'7 ?_; try simp only [wE, simprocAttr]) | refine u'8 ?_ | refine u'9 ?_)
            refine body_ret1 rfl ?_
            simp only [wS, simprocAttr]
            rw [hs, cmpI, if_neg hlt, if_neg hgt]

end Go.Proofs.YtpdibmopbpcfdaaDoor
