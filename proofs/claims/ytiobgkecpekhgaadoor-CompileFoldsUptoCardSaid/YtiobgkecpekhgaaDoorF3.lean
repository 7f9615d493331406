import Derived.Test.YtiobgkecpekhgaaDoorAH
import Derived.Test.YtiobgkecpekhgaaDoorF1
import Derived.Test.YtiobgkecpekhgaaDoorM1
import Derived.Test.YtiobgkecpekhgaaDoorN1
set_option linter.unusedVariables false
set_option linter.unusedSimpArgs false
namespace Go.Proofs.YtiobgkecpekhgaaDoor
open Go.AM
attribute [local irreducible] AWp rgnS callR callV effR valR guardR stepR nextR
set_option maxRecDepth 100000
namespace T
mutual
def enc : T → List AV | mk k n m es => [.int .i64 k, .int .i64 n, .int .i64 m, .sl false (encs es)]
def encs : List T → List (List AV)
  | [] => []
  | e :: es => enc e :: encs es
end
theorem encs_map (es : List T) : encs es = es.map enc := by induction es <;> simp_all [encs]
mutual
theorem enc_tree : ∀ t : T, inL noRef (enc t) = true
  | mk k n m es => by simp only [enc, inL, inR, encs_tree es, Bool.and_self]
theorem encs_tree : ∀ es : List T, inE noRef (encs es) = true
  | [] => rfl
  | e :: es => by simp only [encs, inE, enc_tree e, encs_tree es, Bool.and_self]
end
theorem encs_len (es : List T) : (encs es).length = es.length := by rw [encs_map, List.length_map]
theorem encs_get {es : List T} {i : Nat} {e : T} (h : es[i]? = some e) : (encs es)[i]? = some (enc e) := by rw [encs_map, List.getElem?_map, h]; rfl
theorem sizes_take {es : List T} {i : Nat} {e : T} (h : es[i]? = some e) : sizes (es.take (i + 1)) = sizes (es.take i) + size e := by
  rw [List.take_add_one, h, sizes_app]; simp [sizes]
theorem sizes_take_le : ∀ (es : List T) (i : Nat), sizes (es.take i) ≤ sizes es
  | [], i => by simp
  | e :: es, 0 => by simp [sizes]
  | e :: es, i + 1 => by
    have := sizes_take_le es i
    simp only [List.take_succ_cons, sizes]; omega
theorem len_sizes : ∀ es : List T, es.length ≤ sizes es
  | [] => by simp
  | e :: es => by
    have h1 := len_sizes es
    have h2 := size_pos e
    simp only [List.length_cons, sizes]; omega
end T
end Go.Proofs.YtiobgkecpekhgaaDoor
set_option linter.unusedVariables false
set_option linter.unusedSimpArgs false
namespace Go.Proofs.YtiobgkecpekhgaaDoor
open Go.AM
attribute [local irreducible] AWp rgnS callR callV effR valR guardR stepR nextR
set_option maxRecDepth 100000
namespace Mk
mutual
def enc : Mk → List AV | mk k n m i g es => [.int .i64 k, .int .i64 n, .int .i64 m, .int .i64 i, .bool g, .sl false (encs es)]
def encs : List Mk → List (List AV)
  | [] => []
  | e :: es => enc e :: encs es
end
theorem encs_map (es : List Mk) : encs es = es.map enc := by induction es <;> simp_all [encs]
mutual
theorem enc_tree : ∀ t : Mk, inL noRef (enc t) = true
  | mk k n m i g es => by simp only [enc, inL, inR, encs_tree es, Bool.and_self]
theorem encs_tree : ∀ es : List Mk, inE noRef (encs es) = true
  | [] => rfl
  | e :: es => by simp only [encs, inE, enc_tree e, encs_tree es, Bool.and_self]
end
theorem encs_len (es : List Mk) : (encs es).length = es.length := by rw [encs_map, List.length_map]
theorem encs_get {es : List Mk} {i : Nat} {e : Mk} (h : es[i]? = some e) : (encs es)[i]? = some (enc e) := by rw [encs_map, List.getElem?_map, h]; rfl
end Mk
theorem ends_49 (x : Mk) : Pure Tryd.prog G0 59 [.agg (Mk.enc x)] (.bool (Mk.ends x)) := by
  have htr := Mk.enc_tree x
  cases x with
  | mk k n m i g es =>
  refine pure_of_body hG0 Tryd.func59 rfl (by kernel_rfl) (by simp [Tryd.ntmps59]) (by simp only [inL, inR, htr, Bool.and_self]) rfl ?_
  simp only [Tryd.ntmps59, enterF, Nat.reduceAdd, Mk.enc]
  by_cases h1 : k = 19
  · have e1 : (k == 19) = true := by simp [h1]
    repeat' (first | with_reducible (first | refine u'1 fun _ _ => ?_ | refine u'2 ?_ | (first | refine u'3 ?_ | refine u'4 ?_ | refine u'5 fun _ _ _ _ => ?_ | refine u'6 (fun hg => ?_) (fun hg => ?_) <;> try simp only [hg]) <;> simp only [wS, simprocAttr, e1] | (first | refine u's ?_ | refine u'e ?_ | refine u'r ?_) <;> try simp only [wE, simprocAttr] | refine u'8 ?_ | refine u'9 ?_))
    refine body_ret1 rfl ?_
    simp only [wS, simprocAttr, Mk.ends, Mk.kind, h1]
    try rfl
  · have e1 : (k == 19) = false := by simp [h1]
    repeat' (first | with_reducible (first | refine u'1 fun _ _ => ?_ | refine u'2 ?_ | (first | refine u'3 ?_ | refine u'4 ?_ | refine u'5 fun _ _ _ _ => ?_ | refine u'6 (fun hg => ?_) (fun hg => ?_) <;> try simp only [hg]) <;> simp only [wS, simprocAttr, e1] | (first | refine u's ?_ | refine u'e ?_ | refine u'r ?_) <;> try simp only [wE, simprocAttr] | refine u'8 ?_ | refine u'9 ?_))
    refine body_ret1 rfl ?_
    simp only [wS, simprocAttr, Mk.ends, Mk.kind]
    by_cases h2 : k = 20 <;> simp [h1, h2]
theorem const_34 (kd : Int) (x : Mk) : Pure Tryd.prog G0 42 [.agg (Mk.enc x), .int .i64 kd] (.bool (Mk.cst kd x)) := by
  have htr := Mk.enc_tree x
  cases x with
  | mk k n m i g es =>
  refine pure_of_body hG0 Tryd.func42 rfl (by kernel_rfl) (by simp [Tryd.ntmps42]) (by simp only [inL, inR, htr, Bool.and_self]) rfl ?_
  simp only [Tryd.ntmps42, enterF, Nat.reduceAdd, Mk.enc]
  have hln := Mk.encs_len es
  by_cases h1 : k = kd
  · have e1 : (k != kd) = false := by simp [h1]
    by_cases h2 : m = 0
    · have e2 : (m != 0) = false := by simp [h2]
      by_cases h3 : es.length = 0
      · have e3 : decide (((Mk.encs es).length : Int) > 0) = false := by rw [hln, h3]; rfl
        have h3' : es = [] := List.length_eq_zero_iff.1 h3
        by_cases h5 : kd = 5
        · have e5 : (kd == 5) = true := by simp [h5]
          by_cases h6 : n = 0
          · have e6 : (n == 0) = true := by simp [h6]
            repeat' (first | with_reducible (first | refine u'1 fun _ _ => ?_ | refine u'2 ?_ | (first | refine u'3 ?_ | refine u'4 ?_ | refine u'5 fun _ _ _ _ => ?_ | refine u'6 (fun hg => ?_) (fun hg => ?_) <;> try simp only [hg]) <;> simp only [wS, simprocAttr, e1, e2, e3, e5, e6] | (first | refine u's ?_ | refine u'e ?_ | refine u'r ?_) <;> try simp only [wE, simprocAttr] | refine u'8 ?_ | refine u'9 ?_))
            refine body_ret1 rfl ?_
            simp only [wS, simprocAttr, e6]
            simp [Mk.cst, Mk.kind, Mk.low, Mk.kids, Mk.num, h1, h2, h3', h5, h6]
          · have e6 : (n == 0) = false := by simp [h6]
            repeat' (first | with_reducible (first | refine u'1 fun _ _ => ?_ | refine u'2 ?_ | (first | refine u'3 ?_ | refine u'4 ?_ | refine u'5 fun _ _ _ _ => ?_ | refine u'6 (fun hg => ?_) (fun hg => ?_) <;> try simp only [hg]) <;> simp only [wS, simprocAttr, e1, e2, e3, e5, e6] | (first | refine u's ?_ | refine u'e ?_ | refine u'r ?_) <;> try simp only [wE, simprocAttr] | refine u'8 ?_ | refine u'9 ?_))
            refine body_ret1 rfl ?_
            simp only [wS, simprocAttr, e6]
            by_cases h7 : n = 1 <;> simp [Mk.cst, Mk.kind, Mk.low, Mk.kids, Mk.num, h1, h2, h3', h5, h6, h7]
        · have e5 : (kd == 5) = false := by simp [h5]
          by_cases h6 : -8 ≤ n
          · have e6 : decide (n ≥ -8) = true := by simp; omega
            repeat' (first | with_reducible (first | refine u'1 fun _ _ => ?_ | refine u'2 ?_ | (first | refine u'3 ?_ | refine u'4 ?_ | refine u'5 fun _ _ _ _ => ?_ | refine u'6 (fun hg => ?_) (fun hg => ?_) <;> try simp only [hg]) <;> simp only [wS, simprocAttr, e1, e2, e3, e5, e6] | (first | refine u's ?_ | refine u'e ?_ | refine u'r ?_) <;> try simp only [wE, simprocAttr] | refine u'8 ?_ | refine u'9 ?_))
            refine body_ret1 rfl ?_
            simp only [wS, simprocAttr, e6]
            simp [Mk.cst, Mk.kind, Mk.low, Mk.kids, Mk.num, h1, h2, h3', h5, h6]
          · have e6 : decide (n ≥ -8) = false := by simp; omega
            repeat' (first | with_reducible (first | refine u'1 fun _ _ => ?_ | refine u'2 ?_ | (first | refine u'3 ?_ | refine u'4 ?_ | refine u'5 fun _ _ _ _ => ?_ | refine u'6 (fun hg => ?_) (fun hg => ?_) <;> try simp only [hg]) <;> simp only [wS, simprocAttr, e1, e2, e3, e5, e6] | (first | refine u's ?_ | refine u'e ?_ | refine u'r ?_) <;> try simp only [wE, simprocAttr] | refine u'8 ?_ | refine u'9 ?_))
            refine body_ret1 rfl ?_
            simp only [wS, simprocAttr, e6]
            simp [Mk.cst, Mk.kind, Mk.low, Mk.kids, Mk.num, h1, h2, h3', h5, h6]
      · have e3 : decide (((Mk.encs es).length : Int) > 0) = true := by rw [hln]; simp only [decide_eq_true_eq]; omega
        repeat' (first | with_reducible (first | refine u'1 fun _ _ => ?_ | refine u'2 ?_ | (first | refine u'3 ?_ | refine u'4 ?_ | refine u'5 fun _ _ _ _ => ?_ | refine u'6 (fun hg => ?_) (fun hg => ?_) <;> try simp only [hg]) <;> simp only [wS, simprocAttr, e1, e2, e3] | (first | refine u's ?_ | refine u'e ?_ | refine u'r ?_) <;> try simp only [wE, simprocAttr] | refine u'8 ?_ | refine u'9 ?_))
        refine body_ret1 rfl ?_
        simp only [wS, simprocAttr]
        have : es ≠ [] := fun e => h3 (by rw [e]; rfl)
        simp [Mk.cst, Mk.kids, this]
    · have e2 : (m != 0) = true := by simp [h2]
      repeat' (first | with_reducible (first | refine u'1 fun _ _ => ?_ | refine u'2 ?_ | (first | refine u'3 ?_ | refine u'4 ?_ | refine u'5 fun _ _ _ _ => ?_ | refine u'6 (fun hg => ?_) (fun hg => ?_) <;> try simp only [hg]) <;> simp only [wS, simprocAttr, e1, e2] | (first | refine u's ?_ | refine u'e ?_ | refine u'r ?_) <;> try simp only [wE, simprocAttr] | refine u'8 ?_ | refine u'9 ?_))
      refine body_ret1 rfl ?_
      simp only [wS, simprocAttr]
      simp [Mk.cst, Mk.low, h2]
  · have e1 : (k != kd) = true := by simp [h1]
    repeat' (first | with_reducible (first | refine u'1 fun _ _ => ?_ | refine u'2 ?_ | (first | refine u'3 ?_ | refine u'4 ?_ | refine u'5 fun _ _ _ _ => ?_ | refine u'6 (fun hg => ?_) (fun hg => ?_) <;> try simp only [hg]) <;> simp only [wS, simprocAttr, e1] | (first | refine u's ?_ | refine u'e ?_ | refine u'r ?_) <;> try simp only [wE, simprocAttr] | refine u'8 ?_ | refine u'9 ?_))
    refine body_ret1 rfl ?_
    simp only [wS, simprocAttr]
    simp [Mk.cst, Mk.kind, h1]
end Go.Proofs.YtiobgkecpekhgaaDoor
set_option linter.unusedVariables false
set_option linter.unusedSimpArgs false
namespace Go.Proofs.YtiobgkecpekhgaaDoor
open Go.AM
attribute [local irreducible] AWp rgnS callR callV effR valR guardR stepR nextR
set_option maxRecDepth 100000
theorem body_retCT {P : Program} {fn : Func} {Rp : AV → AS → Prop} {s : AS} {t u : Tmp} {ty : TypeId} {v : AV} (h : fn.results = #[.cell t ty, .tmp u]) (hl : aLoad P ty (s.get t) s.row = some v) (hR : Rp (.tup [v, s.get u]) s) : bodyA P fn Rp .ret s := ⟨_, by simp [aResults, aResultL, aResult, h, hl], hR⟩
namespace T
def sub : T → List Int → Option T
  | t, [] => some t
  | t, i :: p => if 0 ≤ i then (match t.kids[i.toNat]? with | some e => sub e p | none => none) else none
end T
theorem at_7 : ∀ (p : List Int) (b : Bool) (t t' : T), p.length ≤ 1000000000000 → T.sub t p = some t' → Pure Tryd.prog G0 6 [.agg (T.enc t), .sl b (p.map fun x => [AV.int .i64 x])] (.tup [.agg (T.enc t'), .bool true]) := by
  intro p
  induction p with
  | nil =>
    intro b t t' _ h
    simp only [T.sub, Option.some.injEq] at h
    subst h
    have htr := T.enc_tree t
    cases t with
    | mk k n m es =>
    refine pure_of_body hG0 Tryd.func6 rfl (by kernel_rfl) (by simp [Tryd.ntmps6]) (by simp only [inL, inR, htr, List.map_nil, inE, Bool.and_self]) (by simp only [inR, inL, htr, Bool.and_self]) ?_
    simp only [Tryd.ntmps6, enterF, Nat.reduceAdd, T.enc, List.map_nil]
    repeat' (first | with_reducible (first | refine u'1 fun _ _ => ?_ | refine u'2 ?_ | (first | refine u'3 ?_ | refine u'4 ?_ | refine u'5 fun _ _ _ _ => ?_ | refine u'6 (fun hg => ?_) (fun hg => ?_) <;> try simp only [hg]) <;> simp only [wS, simprocAttr] | (first | refine u's ?_ | refine u'e ?_ | refine u'r ?_) <;> try simp only [wE, simprocAttr] | refine u'8 ?_ | refine u'9 ?_))
    refine body_retCT (v := .agg (T.enc (.mk k n m es))) rfl (by simp only [wS, simprocAttr, T.enc]; try exact rfl) (by simp only [wS, simprocAttr]; try exact rfl)
  | cons i p ih =>
    intro b t t' hl h
    simp only [T.sub] at h
    split at h
    · rename_i hi
      split at h
      · rename_i e he
        have htr := T.enc_tree t
        have htr' := T.enc_tree t'
        have htp : inE noRef ((i :: p).map fun x => [AV.int .i64 x]) = true := tree_ints _
        cases t with
        | mk k n m es =>
        obtain ⟨j, rfl⟩ : ∃ j : Nat, i = j := ⟨i.toNat, (Int.toNat_of_nonneg hi).symm⟩
        simp only [Int.toNat_natCast, T.kids] at he
        have hlt : j < es.length := (List.getElem?_eq_some_iff.1 he).1
        have hg := T.encs_get he
        have hln := T.encs_len es
        simp only [List.length_cons] at hl
        have hih := fun b => ih b e t' (by omega) h
        have hee : ∃ a b c d, T.enc e = [.int .i64 a, .int .i64 b, .int .i64 c, .sl false d] := by cases e; exact ⟨_, _, _, _, rfl⟩
        have hee' : ∃ a b c d, T.enc t' = [.int .i64 a, .int .i64 b, .int .i64 c, .sl false d] := by cases t'; exact ⟨_, _, _, _, rfl⟩
        obtain ⟨ek, en, em, ees, hee⟩ := hee
        obtain ⟨fk, fn, fm, fes, hee'⟩ := hee'
        rw [hee] at hg hih
        rw [hee'] at hih htr' ⊢
        refine pure_of_body hG0 Tryd.func6 rfl (by kernel_rfl) (by simp [Tryd.ntmps6]) (by simp only [inL, inR, htr, htp, Bool.and_self]) (by simp only [inR, inL, Bool.and_true, Bool.true_and] at htr' ⊢; exact htr') ?_
        simp only [Tryd.ntmps6, enterF, Nat.reduceAdd, T.enc, List.map_cons]
        have hltE : j < (T.encs es).length := by omega
        have e1 : (((p.length + 1 : Nat) : Int) == 0) = false := by simp; omega
        have e2 : decide (((j : Nat) : Int) < 0) = false := by simp
        have e3 : decide (((j : Nat) : Int) ≥ ((T.encs es).length : Int)) = false := by simp; omega
        have hsl : (p.map fun x => [AV.int .i64 x]).all (fun e => decide (e.length = 1)) = true := by simp
        have htk : (p.map fun x => [AV.int .i64 x]).take p.length = p.map fun x => [AV.int .i64 x] := List.take_of_length_le (by simp)
        have hle : (p.length ≤ p.length) = True := by simp
        repeat' (first | with_reducible (first | refine u'1 fun _ _ => ?_ | refine u'2 ?_ | (first | refine u'3 ?_ | refine u'4 ?_ | refine u'5 fun _ _ _ _ => ?_ | refine u'6 (fun hg => ?_) (fun hg => ?_) <;> try simp only [hg]) <;> simp only [wS, simprocAttr, e1, e2, e3, hg, hltE, List.length_cons, hle, if_true, hsl, htk, Nat.add_sub_cancel, List.drop_succ_cons, List.drop_zero, decide_true, Bool.true_and] | (first | refine u's ?_ | refine u'e ?_ | refine u'r ?_) <;> try simp only [wE, simprocAttr] | refine u'8 ?_ | refine u'9 ?_))
        refine callR_tree hG0 (hih _) ?_
        simp only [wS, simprocAttr]
        refine ⟨by kernel_rfl, ?_⟩
        repeat' (first | with_reducible (first | refine u'1 fun _ _ => ?_ | refine u'2 ?_ | (first | refine u'3 ?_ | refine u'4 ?_ | refine u'5 fun _ _ _ _ => ?_ | refine u'6 (fun hg => ?_) (fun hg => ?_) <;> try simp only [hg]) <;> simp only [wS, simprocAttr] | (first | refine u's ?_ | refine u'e ?_ | refine u'r ?_) <;> try simp only [wE, simprocAttr] | refine u'8 ?_ | refine u'9 ?_))
        refine body_retCT (v := .agg [.int .i64 fk, .int .i64 fn, .int .i64 fm, .sl false fes]) rfl (by simp only [wS, simprocAttr]; try exact rfl) (by simp only [wS, simprocAttr]; try exact rfl)
      · cases h
    · cases h
end Go.Proofs.YtiobgkecpekhgaaDoor
set_option linter.unusedVariables false
set_option linter.unusedSimpArgs false
namespace Go.Proofs.YtiobgkecpekhgaaDoor
open Go.AM
attribute [local irreducible] AWp rgnS callR callV effR valR guardR stepR nextR
set_option maxRecDepth 100000
theorem body_retC {P : Program} {fn : Func} {Rp : AV → AS → Prop} {s : AS} {t : Tmp} {ty : TypeId} {v : AV} (h : fn.results = #[.cell t ty]) (hl : aLoad P ty (s.get t) s.row = some v) (hR : Rp v s) : bodyA P fn Rp .ret s := ⟨v, by simp [aResults, aResultL, aResult, h, hl], hR⟩
theorem ref_refl [Rnd] {n k : Nat} {s : AS} : Ref G0 n k s s := fun E a i => ⟨E, rfl, (Ext.refl E).toK k, i⟩
theorem ref_kill [Rnd] {n k : Nat} {s : AS} (q : Nat) (l : List (Nat × AV)) {H H' : List ARow} (hh : s.h = H) (hq : H.getD q .none ≠ .none) (hlt : q < H.length) (hl : holdsF l s.get) (he : deadH [q] 0 H = H') : Ref G0 n k s ⟨mkF l, H'⟩ := by
  subst he hh
  exact ref_freeze [q] l _ (by simpa using hlt) (frzF_same hl) (frzH_dead 0 s.h fun i hi _ => by
    have : i = q := by simpa using hi
    subst this
    exact hq)
mutual
theorem T.wk_enc : ∀ t : T, wkL (T.enc t) = T.enc t
  | .mk k n m es => by
    have h := T.wk_encs es
    simp only [T.enc, wkL, AM.wk, wkE_eq, h]
theorem T.wk_encs : ∀ es : List T, (T.encs es).map wkL = T.encs es
  | [] => rfl
  | e :: es => by rw [T.encs, List.map_cons, T.wk_enc e, T.wk_encs es]
end
theorem T.enc_len (t : T) : (T.enc t).length = 4 := by cases t; rfl
theorem Mk.size_mem : ∀ {es : List Mk} {e : Mk}, e ∈ es → Mk.size e ≤ Mk.sizes es
  | x :: es, e, h => by
    simp only [Mk.sizes]
    rcases List.mem_cons.1 h with rfl | h
    · omega
    · have := Mk.size_mem h; omega
theorem Mk.size_pos (t : Mk) : 1 ≤ Mk.size t := by cases t; simp only [Mk.size]; omega
theorem Mk.len_sizes : ∀ es : List Mk, es.length ≤ Mk.sizes es
  | [] => by simp
  | e :: es => by
    have h1 := Mk.len_sizes es
    have h2 := Mk.size_pos e
    simp only [List.length_cons, Mk.sizes]; omega
theorem map_takeF {α : Type} {f : α → List AV} {es : List α} {i : Nat} {e : α} (h : es[i]? = some e) : (es.take (i + 1)).map f = (es.take i).map f ++ [f e] := by
  rw [List.take_add_one, h, List.map_append]; rfl
set_option maxHeartbeats 4000000 in
theorem plain_19 : ∀ (N : Nat) (x : Mk), Mk.size x ≤ N → N ≤ 1000000000000 → Pure Tryd.prog G0 26 [.agg (Mk.enc x)] (.agg (T.enc (Mk.plain x))) := by
  intro N
  induction N with
  | zero => intro x h; have := Mk.size_pos x; omega
  | succ N ih =>
    intro x hx hN
    cases x with
    | mk k n m i0 g es =>
    have ih2 : ∀ e ∈ es, Pure Tryd.prog G0 26 [.agg (Mk.enc e)] (.agg (T.enc (Mk.plain e))) := fun e he => ih e (by have := Mk.size_mem he; simp only [Mk.size] at hx; omega) (by omega)
    have htr := Mk.enc_tree (.mk k n m i0 g es)
    have hto := T.enc_tree (Mk.plain (.mk k n m i0 g es))
    have hls := Mk.len_sizes es
    simp only [Mk.size] at hx
    have hpt : ∀ l : List Mk, inE noRef (l.map fun e => T.enc (Mk.plain e)) = true := fun l => by
      have := T.encs_tree (l.map Mk.plain)
      rw [T.encs_map, List.map_map] at this
      exact this
    have hps : ∀ l : List Mk, ∀ e ∈ l.map (fun e => T.enc (Mk.plain e)), e.length = 4 := fun l e he => by
      obtain ⟨y, _, rfl⟩ := List.mem_map.1 he
      exact T.enc_len _
    have hout : T.enc (Mk.plain (.mk k n m i0 g es)) = [.int .i64 k, .int .i64 n, .int .i64 m, .sl false (es.map fun e => T.enc (Mk.plain e))] := by
      rw [Mk.plain, T.enc, T.encs_map, Mk.plains_map, List.map_map]; rfl
    rw [hout] at hto ⊢
    refine pure_of_bodyW hG0 Tryd.func26 rfl (by kernel_rfl) (by simp [Tryd.ntmps26]) (by simp only [inL, inR, htr, Bool.and_self]) (by simp only [inR]; exact hto) ?_
    simp only [Tryd.ntmps26, enterF, Nat.reduceAdd, Mk.enc]
    have hgt := fun (i : Nat) (e : Mk) => Mk.encs_get (es := es) (i := i) (e := e)
    have hln := Mk.encs_len es
    have hte := Mk.encs_tree es
    generalize Mk.encs es = ME at hgt hln hte
    have hteq : ∀ q : Nat → Bool, inE q ME = true := fun q => inE_mono (p := noRef) (fun r hr => by cases hr) hte
    refine awp_end ?_
    repeat' (first | with_reducible (first | refine u'1 fun _ _ => ?_ | refine u'2 ?_ | (first | refine u'3 ?_ | refine u'4 ?_ | refine u'5 fun _ _ _ _ => ?_ | refine u'6 (fun hg => ?_) (fun hg => ?_) <;> try simp only [hg]) <;> simp only [wS, simprocAttr] | (first | refine u's ?_ | refine u'e ?_ | refine u'r ?_) <;> try simp only [wE, simprocAttr] | refine u'8 ?_ | refine u'9 ?_))
    refine awp_loop_r (α := {i : Nat // i ≤ es.length}) (fun i => [(1, .ptr 0 0 0), (2, .ptr 1 0 0), (3, .ptr 2 0 0), (14, .sl false ME), (15, .int .i64 (es.length : Nat)), (16, .int .i64 (i.1 : Nat))]) (fun i => if i.1 = 0 then [.cells 0 [.int .i64 k, .int .i64 n, .int .i64 m, .int .i64 i0, .bool g, .sl false ME], .cells 0 [.int .i64 0, .int .i64 0, .int .i64 0, .sl true []], .cells 0 [.int .i64 k, .int .i64 n, .int .i64 m, .sl true []]] else [.cells 0 [.int .i64 k, .int .i64 n, .int .i64 m, .int .i64 i0, .bool g, .sl false ME], .cells 0 [.int .i64 0, .int .i64 0, .int .i64 0, .sl true []], .cells 0 [.int .i64 k, .int .i64 n, .int .i64 m, .osl 4 (i.1 - 1) 0 i.1 4 false], .dead, .cells (i.1 - 1) ((es.take i.1).map fun e => T.enc (Mk.plain e)).flatten]) (fun i => es.length - i.1) ⟨0, Nat.zero_le _⟩ (Weak.ref ⟨?_, .inl ?_⟩) ?_
    · simp only [wS, simprocAttr, hln]; try exact rfl
    · simp only [wS, simprocAttr, if_true]; try exact rfl
    · rintro ⟨i, hi⟩ K3 hK3
      have e3 : i < es.length → IntKind.i64.wrap ((i : Int) + 1) = ((i + 1 : Nat) : Int) := fun h => wrap_succ (k := i) h (by omega)
      rcases i with _ | q
      · simp only [if_true]
        repeat' (first | with_reducible (first | refine u'1 fun _ _ => ?_ | refine u'2 ?_ | (first | refine u'3 ?_ | refine u'4 ?_ | refine u'5 fun _ _ _ _ => ?_ | refine u'6 (fun hg => ?_) (fun hg => ?_) <;> try simp only [hg]) <;> simp only [wS, simprocAttr] | (first | refine u's ?_ | refine u'e ?_ | refine u'r ?_) <;> try simp only [wE, simprocAttr] | refine u'8 ?_ | refine u'9 ?_))
        refine ⟨fun h => ?_, fun h => ?_⟩
        · have hlt : 0 < es.length := by simpa using h
          have hltE : 0 < ME.length := by omega
          obtain ⟨e, he⟩ : ∃ e, es[0]? = some e := ⟨_, List.getElem?_eq_getElem hlt⟩
          have hg := hgt 0 e he
          have hce := ih2 e (List.mem_of_getElem? he)
          have htk := map_takeF (f := fun e => T.enc (Mk.plain e)) he
          have hee : ∃ a b c d f h, Mk.enc e = [.int .i64 a, .int .i64 b, .int .i64 c, .int .i64 d, .bool f, .sl false h] := by cases e; exact ⟨_, _, _, _, _, _, rfl⟩
          obtain ⟨ea, eb, ec, ed, ef, eg, hee⟩ := hee
          have hpp : ∃ a b c d, T.enc (Mk.plain e) = [.int .i64 a, .int .i64 b, .int .i64 c, .sl false d] := by cases e; exact ⟨_, _, _, _, rfl⟩
          obtain ⟨pa, pb, pc, pd, hpp⟩ := hpp
          rw [hee] at hg hce
          rw [hpp] at hce htk
          repeat' (first | with_reducible (first | refine u'1 fun _ _ => ?_ | refine u'2 ?_ | (first | refine u'3 ?_ | refine u'4 ?_ | refine u'5 fun _ _ _ _ => ?_ | refine u'6 (fun hg => ?_) (fun hg => ?_) <;> try simp only [hg]) <;> simp only [wS, simprocAttr, hg, hltE, hlt] | (first | refine u's ?_ | refine u'e ?_ | refine u'r ?_) <;> try simp only [wE, simprocAttr] | refine u'8 ?_ | refine u'9 ?_))
          refine callR_tree hG0 hce ?_
          simp only [wS, simprocAttr]
          refine eff_new (sz := 4) (by' := 48) (mm := 1) (new := [.int .i64 pa, .int .i64 pb, .int .i64 pc, .sl false pd]) (es := []) (by kernel_rfl) ?hb (by simp) ?hc (by decide) (by simp) ?_
          case hb => simp only [wS, simprocAttr]; try exact rfl
          case hc => simp [srcA]
          simp only [wS, simprocAttr]
          refine ⟨by kernel_rfl, ?_⟩
          repeat' (first | with_reducible (first | refine u'1 fun _ _ => ?_ | refine u'2 ?_ | (first | refine u'3 ?_ | refine u'4 ?_ | refine u'5 fun _ _ _ _ => ?_ | refine u'6 (fun hg => ?_) (fun hg => ?_) <;> try simp only [hg]) <;> simp only [wS, simprocAttr, e3 hlt] | (first | refine u's ?_ | refine u'e ?_ | refine u'r ?_) <;> try simp only [wE, simprocAttr] | refine u'8 ?_ | refine u'9 ?_))
          refine hK3.go ⟨1, hlt⟩ (ref_kill 3 _ (H := [.cells 0 [.int .i64 k, .int .i64 n, .int .i64 m, .int .i64 i0, .bool g, .sl false ME], .cells 0 [.int .i64 0, .int .i64 0, .int .i64 0, .sl true []], .cells 0 [.int .i64 k, .int .i64 n, .int .i64 m, .osl 4 0 0 1 4 false], .cells 0 [.int .i64 ea, .int .i64 eb, .int .i64 ec, .int .i64 ed, .bool ef, .sl false eg], .cells 0 [.int .i64 pa, .int .i64 pb, .int .i64 pc, .sl false pd]]) ?_ (by simp) (by simp) ?_ ?_) (by simp only; omega)
          · simp only [wS, simprocAttr]; try exact rfl
          · simp only [wS, simprocAttr]; try exact rfl
          · simp only [htk, List.take_zero, List.map_nil, List.nil_append]; rfl
        · have hge : es = [] := by simpa using h
          subst hge
          repeat' (first | with_reducible (first | refine u'1 fun _ _ => ?_ | refine u'2 ?_ | (first | refine u'3 ?_ | refine u'4 ?_ | refine u'5 fun _ _ _ _ => ?_ | refine u'6 (fun hg => ?_) (fun hg => ?_) <;> try simp only [hg]) <;> simp only [wS, simprocAttr] | (first | refine u's ?_ | refine u'e ?_ | refine u'r ?_) <;> try simp only [wE, simprocAttr] | refine u'8 ?_ | refine u'9 ?_))
          refine ⟨_, ref_refl, body_retC (v := .agg [.int .i64 k, .int .i64 n, .int .i64 m, .sl true []]) rfl ?_ ?_⟩
          · simp only [wS, simprocAttr]; try exact rfl
          · rfl
      · have hlm : ((es.take (q + 1)).map fun e => T.enc (Mk.plain e)).length = q + 1 := by rw [List.length_map, List.length_take]; omega
        simp only [Nat.succ_ne_zero, if_false, Nat.add_sub_cancel, Nat.add_eq_zero_iff, Nat.one_ne_zero, and_false]
        repeat' (first | with_reducible (first | refine u'1 fun _ _ => ?_ | refine u'2 ?_ | (first | refine u'3 ?_ | refine u'4 ?_ | refine u'5 fun _ _ _ _ => ?_ | refine u'6 (fun hg => ?_) (fun hg => ?_) <;> try simp only [hg]) <;> simp only [wS, simprocAttr] | (first | refine u's ?_ | refine u'e ?_ | refine u'r ?_) <;> try simp only [wE, simprocAttr] | refine u'8 ?_ | refine u'9 ?_))
        refine ⟨fun h => ?_, fun h => ?_⟩
        · have hlt : q + 1 < es.length := by simp at h; omega
          have hltE : q + 1 < ME.length := by omega
          obtain ⟨e, he⟩ : ∃ e, es[q + 1]? = some e := ⟨_, List.getElem?_eq_getElem hlt⟩
          have hg := hgt (q + 1) e he
          have hce := ih2 e (List.mem_of_getElem? he)
          have htk := map_takeF (f := fun e => T.enc (Mk.plain e)) he
          have hee : ∃ a b c d f h, Mk.enc e = [.int .i64 a, .int .i64 b, .int .i64 c, .int .i64 d, .bool f, .sl false h] := by cases e; exact ⟨_, _, _, _, _, _, rfl⟩
          obtain ⟨ea, eb, ec, ed, ef, eg, hee⟩ := hee
          have hpp : ∃ a b c d, T.enc (Mk.plain e) = [.int .i64 a, .int .i64 b, .int .i64 c, .sl false d] := by cases e; exact ⟨_, _, _, _, rfl⟩
          obtain ⟨pa, pb, pc, pd, hpp⟩ := hpp
          rw [hee] at hg hce
          rw [hpp] at hce htk
          repeat' (first | with_reducible (first | refine u'1 fun _ _ => ?_ | refine u'2 ?_ | (first | refine u'3 ?_ | refine u'4 ?_ | refine u'5 fun _ _ _ _ => ?_ | refine u'6 (fun hg => ?_) (fun hg => ?_) <;> try simp only [hg]) <;> simp only [wS, simprocAttr, hg, hltE, hlt] | (first | refine u's ?_ | refine u'e ?_ | refine u'r ?_) <;> try simp only [wE, simprocAttr] | refine u'8 ?_ | refine u'9 ?_))
          refine callR_tree hG0 hce ?_
          simp only [wS, simprocAttr]
          refine eff_own (cs := ((es.take (q + 1)).map fun e => T.enc (Mk.plain e)).flatten) (sz := 4) (by' := 48) (mm := 1) (new := [.int .i64 pa, .int .i64 pb, .int .i64 pc, .sl false pd]) (by kernel_rfl) ?hb (by rw [flat_sz (hps _), hlm]) ?hd (by omega) ?_
          case hb => simp only [wS, simprocAttr]
          case hd => simp [srcA]
          simp only [wS, simprocAttr]
          refine ⟨by kernel_rfl, ?_⟩
          repeat' (first | with_reducible (first | refine u'1 fun _ _ => ?_ | refine u'2 ?_ | (first | refine u'3 ?_ | refine u'4 ?_ | refine u'5 fun _ _ _ _ => ?_ | refine u'6 (fun hg => ?_) (fun hg => ?_) <;> try simp only [hg]) <;> simp only [wS, simprocAttr, e3 hlt] | (first | refine u's ?_ | refine u'e ?_ | refine u'r ?_) <;> try simp only [wE, simprocAttr] | refine u'8 ?_ | refine u'9 ?_))
          refine hK3.go ⟨q + 1 + 1, hlt⟩ (Weak.ref ⟨?_, .inr ⟨Nat.zero_le _, ?_, ?_, ?_, ?_⟩⟩) (by simp only; omega)
          · simp only [wS, simprocAttr]; try exact rfl
          · simp only [Nat.succ_ne_zero, if_false, Nat.add_sub_cancel, Nat.add_eq_zero_iff, Nat.one_ne_zero, and_false, htk, List.flatten_append, List.flatten_cons, List.flatten_nil, List.append_nil]
            simp only [wS, simprocAttr]; try exact rfl
          · exact fun g cs hg => inL_mono (p := noRef) (fun r hr => by cases hr) (hG0 g cs hg)
          · simp only [Nat.succ_ne_zero, if_false, Nat.add_eq_zero_iff, Nat.one_ne_zero, and_false]
            intro z hz
            simp only [List.mem_cons, List.not_mem_nil, or_false] at hz
            rcases hz with rfl | rfl | rfl | rfl | rfl | rfl <;> first | rfl | exact hteq _
          · simp only [Nat.succ_ne_zero, if_false, Nat.add_eq_zero_iff, Nat.one_ne_zero, and_false, List.all_cons, List.all_nil, Bool.and_true, Bool.and_eq_true]
            exact ⟨by simp only [rowIn, inL, inR, hteq, Bool.and_self], rfl, rfl, rfl, inL_flat (inE_mono (p := noRef) (fun r hr => by cases hr) (hpt _))⟩
        · have hge : es.length = q + 1 := by simp at h; omega
          have hta : es.take (q + 1) = es := by rw [← hge, List.take_length]
          have hlm2 : (es.map fun e => T.enc (Mk.plain e)).length = q + 1 := by rw [List.length_map, hge]
          repeat' (first | with_reducible (first | refine u'1 fun _ _ => ?_ | refine u'2 ?_ | (first | refine u'3 ?_ | refine u'4 ?_ | refine u'5 fun _ _ _ _ => ?_ | refine u'6 (fun hg => ?_) (fun hg => ?_) <;> try simp only [hg]) <;> simp only [wS, simprocAttr] | (first | refine u's ?_ | refine u'e ?_ | refine u'r ?_) <;> try simp only [wE, simprocAttr] | refine u'8 ?_ | refine u'9 ?_))
          rw [hta] at *
          refine ⟨_, ref_freeze [4] [(2, .ptr 1 0 0)] [.cells 0 [.int .i64 k, .int .i64 n, .int .i64 m, .int .i64 i0, .bool g, .sl false ME], .cells 0 [.int .i64 k, .int .i64 n, .int .i64 m, .sl false (es.map fun e => T.enc (Mk.plain e))], .cells 0 [.int .i64 k, .int .i64 n, .int .i64 m, .osl 4 q 0 (q + 1) 4 false], .dead, .dead] rfl ⟨.inl ?_, trivial⟩ ?_, body_retC (v := .agg [.int .i64 k, .int .i64 n, .int .i64 m, .sl false (es.map fun e => T.enc (Mk.plain e))]) rfl ?_ ?_⟩
          · simp only [wS, simprocAttr]
          · refine ⟨.inr ⟨by simp, .inl rfl⟩, .inr ⟨by simp, .inr ⟨0, _, _, rfl, rfl, .inl rfl, .inl rfl, .inl rfl, .inr (.osl (cs := (es.map fun e => T.enc (Mk.plain e)).flatten) (by simp) (by simp only [wS, simprocAttr]) hlm2 (hps es) ?_ (hpt es)), trivial⟩⟩, .inr ⟨by simp, .inl rfl⟩, .inr ⟨by simp, .inl rfl⟩, .inl ⟨by simp, rfl, by simp⟩, trivial⟩
            rw [List.drop_zero, List.take_of_length_le (by rw [flat_sz (hps es), hlm2]; exact Nat.le_refl _)]
          · simp only [wS, simprocAttr]
          · rw [← hout]
            exact congrArg AV.agg (T.wk_enc _)
end Go.Proofs.YtiobgkecpekhgaaDoor
set_option linter.unusedVariables false
set_option linter.unusedSimpArgs false
namespace Go.Proofs.YtiobgkecpekhgaaDoor
open Go.AM
attribute [local irreducible] AWp rgnS callR callV effR valR guardR stepR nextR
set_option maxRecDepth 100000
mutual
theorem Mk.wk_enc : ∀ t : Mk, wkL (Mk.enc t) = Mk.enc t
  | .mk k n m i g es => by
    have h := Mk.wk_encs es
    simp only [Mk.enc, wkL, AM.wk, wkE_eq, h]
theorem Mk.wk_encs : ∀ es : List Mk, (Mk.encs es).map wkL = Mk.encs es
  | [] => rfl
  | e :: es => by rw [Mk.encs, List.map_cons, Mk.wk_enc e, Mk.wk_encs es]
end
theorem ref_kills7 [Rnd] {n k : Nat} {s : AS} (qs : List Nat) (l : List (Nat × AV)) {H H' : List ARow} (hh : s.h = H) (hlt : qs.all (fun q => decide (q < H.length)) = true) (hq : ∀ i, qs.contains i = true → H.getD i .none ≠ .none) (hl : holdsF l s.get) (he : deadH qs 0 H = H') : Ref G0 n k s ⟨mkF l, H'⟩ := by
  subst he hh
  exact ref_freeze qs l _ hlt (frzF_same hl) (frzH_dead 0 s.h fun i hi _ => hq i (by simpa using hi))
theorem Mk.marks_len : ∀ (es : List T) (i : Int), (Mk.marks es i).length = es.length
  | [], _ => rfl
  | e :: es, i => by rw [Mk.marks, List.length_cons, Mk.marks_len es, List.length_cons]
theorem Mk.marks_get : ∀ {es : List T} {i : Int} {j : Nat} {e : T}, es[j]? = some e → (Mk.marks es i)[j]? = some (Mk.mark e (i + (T.sizes (es.take j) : Nat)))
  | [], _, _, _, h => by simp at h
  | x :: es, i, 0, e, h => by
    obtain rfl : x = e := by simpa using h
    simp [Mk.marks, T.sizes]
  | x :: es, i, j + 1, e, h => by
    have := Mk.marks_get (es := es) (i := i + T.size x) (j := j) (e := e) (by simpa using h)
    rw [Mk.marks, List.getElem?_cons_succ, this]
    simp only [List.take_succ_cons, T.sizes, Int.natCast_add, Int.add_assoc]
set_option maxHeartbeats 4000000 in
theorem mark_17 : ∀ (N : Nat) (x : T) (i0 : Int), T.size x ≤ N → N ≤ 1000000000000 → 0 ≤ i0 → i0 + (T.size x : Nat) ≤ 2000000000000 → Pure Tryd.prog G0 24 [.agg (T.enc x), .int .i64 i0] (.tup [.agg (Mk.enc (Mk.mark x i0)), .int .i64 (i0 + (T.size x : Nat))]) := by
  intro N
  induction N with
  | zero => intro x _ h; have := T.size_pos x; omega
  | succ N ih =>
    intro x i0 hx hN hi0 hi1
    cases x with
    | mk k n m es =>
    have htr := T.enc_tree (.mk k n m es)
    have hto := Mk.enc_tree (Mk.mark (.mk k n m es) i0)
    have hls := T.len_sizes es
    simp only [T.size] at hx hi1
    have hpt : ∀ l : List Mk, inE noRef (l.map Mk.enc) = true := fun l => by
      have := Mk.encs_tree l
      rw [Mk.encs_map] at this
      exact this
    have hps : ∀ l : List Mk, ∀ e ∈ l.map Mk.enc, e.length = 6 := fun l e he => by
      obtain ⟨y, _, rfl⟩ := List.mem_map.1 he
      cases y; rfl
    have hout : Mk.enc (Mk.mark (.mk k n m es) i0) = [.int .i64 k, .int .i64 n, .int .i64 m, .int .i64 i0, .bool false, .sl false ((Mk.marks es (i0 + 1)).map Mk.enc)] := by
      rw [Mk.mark, Mk.enc, Mk.encs_map]
    rw [hout] at hto ⊢
    have hml := Mk.marks_len es (i0 + 1)
    have hmg := fun (j : Nat) (e : T) => Mk.marks_get (es := es) (i := i0 + 1) (j := j) (e := e)
    obtain ⟨ML, hML⟩ : ∃ x, x = Mk.marks es (i0 + 1) := ⟨_, rfl⟩
    rw [← hML] at hout hto hml hmg ⊢
    have hst : ∀ j, T.sizes (es.take j) ≤ T.sizes es := fun j => T.sizes_take_le es j
    refine pure_of_bodyW hG0 Tryd.func24 rfl (by kernel_rfl) (by simp [Tryd.ntmps24]) (by simp only [inL, inR, htr, Bool.and_self]) (by simp only [inR, inL, Bool.and_true] at hto ⊢; exact hto) ?_
    simp only [Tryd.ntmps24, enterF, Nat.reduceAdd, T.enc]
    have hgt := fun (i : Nat) (e : T) => T.encs_get (es := es) (i := i) (e := e)
    have hln := T.encs_len es
    have hte := T.encs_tree es
    generalize T.encs es = ME at hgt hln hte
    have e0 : IntKind.i64.wrap (i0 + 1) = i0 + 1 := wrap_id (by omega) (by omega)
    have hteq : ∀ q : Nat → Bool, inE q ME = true := fun q => inE_mono (p := noRef) (fun r hr => by cases hr) hte
    refine awp_end ?_
    repeat' (first | with_reducible (first | refine u'1 fun _ _ => ?_ | refine u'2 ?_ | (first | refine u'3 ?_ | refine u'4 ?_ | refine u'5 fun _ _ _ _ => ?_ | refine u'6 (fun hg => ?_) (fun hg => ?_) <;> try simp only [hg]) <;> simp only [wS, simprocAttr, e0] | (first | refine u's ?_ | refine u'e ?_ | refine u'r ?_) <;> try simp only [wE, simprocAttr] | refine u'8 ?_ | refine u'9 ?_))
    refine awp_loop_r (α := {i : Nat // i ≤ es.length}) (fun i => [(1, .int .i64 (i0 + 1 + (T.sizes (es.take i.1) : Nat))), (2, .ptr 0 0 0), (4, .ptr 1 0 0), (6, .ptr 2 0 0), (21, .sl false ME), (22, .int .i64 (es.length : Nat)), (23, .int .i64 (i.1 : Nat))]) (fun i => if i.1 = 0 then [.cells 0 [.int .i64 k, .int .i64 n, .int .i64 m, .sl false ME], .cells 0 [.int .i64 0, .int .i64 0, .int .i64 0, .int .i64 0, .bool false, .sl true []], .cells 0 [.int .i64 k, .int .i64 n, .int .i64 m, .int .i64 i0, .bool false, .sl true []]] else [.cells 0 [.int .i64 k, .int .i64 n, .int .i64 m, .sl false ME], .cells 0 [.int .i64 0, .int .i64 0, .int .i64 0, .int .i64 0, .bool false, .sl true []], .cells 0 [.int .i64 k, .int .i64 n, .int .i64 m, .int .i64 i0, .bool false, .osl 5 (i.1 - 1) 0 i.1 6 false], .dead, .dead, .cells (i.1 - 1) ((ML.take i.1).map Mk.enc).flatten]) (fun i => es.length - i.1) ⟨0, Nat.zero_le _⟩ (Weak.ref ⟨?_, .inl ?_⟩) ?_
    · simp only [wS, simprocAttr, hln, List.take_zero, T.sizes]; try exact rfl
      try (simp)
    · simp only [wS, simprocAttr, if_true]; try exact rfl
    · rintro ⟨i, hi⟩ K3 hK3
      have e3 : i < es.length → IntKind.i64.wrap ((i : Int) + 1) = ((i + 1 : Nat) : Int) := fun h => wrap_succ (k := i) h (by omega)
      rcases i with _ | q
      · simp only [if_true]
        repeat' (first | with_reducible (first | refine u'1 fun _ _ => ?_ | refine u'2 ?_ | (first | refine u'3 ?_ | refine u'4 ?_ | refine u'5 fun _ _ _ _ => ?_ | refine u'6 (fun hg => ?_) (fun hg => ?_) <;> try simp only [hg]) <;> simp only [wS, simprocAttr] | (first | refine u's ?_ | refine u'e ?_ | refine u'r ?_) <;> try simp only [wE, simprocAttr] | refine u'8 ?_ | refine u'9 ?_))
        refine ⟨fun h => ?_, fun h => ?_⟩
        · have hlt : 0 < es.length := by simpa using h
          have hltE : 0 < ME.length := by omega
          obtain ⟨e, he⟩ : ∃ e, es[0]? = some e := ⟨_, List.getElem?_eq_getElem hlt⟩
          have hg := hgt 0 e he
          have hce := ih e (i0 + 1 + (T.sizes (es.take 0) : Nat)) (by have := T.size_mem (List.mem_of_getElem? he); omega) (by omega) (by omega) (by have h1 := T.sizes_take he; have h2 := hst (0 + 1); omega)
          have htk := map_takeF (f := Mk.enc) (hmg 0 e he)
          have hsz := T.sizes_take he
          have hst2 := hst (0 + 1)
          have e4 : i0 + 1 + (T.sizes (es.take 0) : Nat) + (T.size e : Nat) = i0 + 1 + (T.sizes (es.take (0 + 1)) : Nat) := by omega
          have hee : ∃ a b c d, T.enc e = [.int .i64 a, .int .i64 b, .int .i64 c, .sl false d] := by cases e; exact ⟨_, _, _, _, rfl⟩
          obtain ⟨ea, eb, ec, ed, hee⟩ := hee
          have hpp : ∃ a b c d f h, Mk.enc (Mk.mark e (i0 + 1 + (T.sizes (es.take 0) : Nat))) = [.int .i64 a, .int .i64 b, .int .i64 c, .int .i64 d, .bool f, .sl false h] := by cases e; exact ⟨_, _, _, _, _, _, rfl⟩
          obtain ⟨pa, pb, pc, pd, pe, pf, hpp⟩ := hpp
          rw [hee] at hg hce
          rw [hpp, e4] at hce
          rw [hpp] at htk
          repeat' (first | with_reducible (first | refine u'1 fun _ _ => ?_ | refine u'2 ?_ | (first | refine u'3 ?_ | refine u'4 ?_ | refine u'5 fun _ _ _ _ => ?_ | refine u'6 (fun hg => ?_) (fun hg => ?_) <;> try simp only [hg]) <;> simp only [wS, simprocAttr, hg, hltE, hlt] | (first | refine u's ?_ | refine u'e ?_ | refine u'r ?_) <;> try simp only [wE, simprocAttr] | refine u'8 ?_ | refine u'9 ?_))
          refine callR_tree hG0 hce ?_
          simp only [wS, simprocAttr]
          repeat' (first | with_reducible (first | refine u'1 fun _ _ => ?_ | refine u'2 ?_ | (first | refine u'3 ?_ | refine u'4 ?_ | refine u'5 fun _ _ _ _ => ?_ | refine u'6 (fun hg => ?_) (fun hg => ?_) <;> try simp only [hg]) <;> simp only [wS, simprocAttr] | (first | refine u's ?_ | refine u'e ?_ | refine u'r ?_) <;> try simp only [wE, simprocAttr] | refine u'8 ?_ | refine u'9 ?_))
          refine eff_new (sz := 6) (by' := 64) (mm := 1) (new := [.int .i64 pa, .int .i64 pb, .int .i64 pc, .int .i64 pd, .bool pe, .sl false pf]) (es := []) (by kernel_rfl) ?hb (by simp) ?hc (by decide) (by simp) ?_
          case hb => simp only [wS, simprocAttr]; try exact rfl
          case hc => simp [srcA]
          simp only [wS, simprocAttr]
          repeat' (first | with_reducible (first | refine u'1 fun _ _ => ?_ | refine u'2 ?_ | (first | refine u'3 ?_ | refine u'4 ?_ | refine u'5 fun _ _ _ _ => ?_ | refine u'6 (fun hg => ?_) (fun hg => ?_) <;> try simp only [hg]) <;> simp only [wS, simprocAttr, e3 hlt] | (first | refine u's ?_ | refine u'e ?_ | refine u'r ?_) <;> try simp only [wE, simprocAttr] | refine u'8 ?_ | refine u'9 ?_))
          refine hK3.go ⟨1, hlt⟩ (ref_kills7 [3, 4] _ (H := [.cells 0 [.int .i64 k, .int .i64 n, .int .i64 m, .sl false ME], .cells 0 [.int .i64 0, .int .i64 0, .int .i64 0, .int .i64 0, .bool false, .sl true []], .cells 0 [.int .i64 k, .int .i64 n, .int .i64 m, .int .i64 i0, .bool false, .osl 5 0 0 1 6 false], .cells 0 [.int .i64 ea, .int .i64 eb, .int .i64 ec, .sl false ed], .cells 0 [.int .i64 pa, .int .i64 pb, .int .i64 pc, .int .i64 pd, .bool pe, .sl false pf], .cells 0 [.int .i64 pa, .int .i64 pb, .int .i64 pc, .int .i64 pd, .bool pe, .sl false pf]]) ?_ rfl ?_ ?_ ?_) (by simp only; omega)
          · simp only [wS, simprocAttr]; try exact rfl
          · intro i hi
            match i, hi with
            | 3, _ => simp
            | 4, _ => simp
          · simp only [wS, simprocAttr]; try exact rfl
          · simp only [htk, List.take_zero, List.map_nil, List.nil_append]; rfl
        · have hge : es = [] := by simpa using h
          subst hge
          repeat' (first | with_reducible (first | refine u'1 fun _ _ => ?_ | refine u'2 ?_ | (first | refine u'3 ?_ | refine u'4 ?_ | refine u'5 fun _ _ _ _ => ?_ | refine u'6 (fun hg => ?_) (fun hg => ?_) <;> try simp only [hg]) <;> simp only [wS, simprocAttr] | (first | refine u's ?_ | refine u'e ?_ | refine u'r ?_) <;> try simp only [wE, simprocAttr] | refine u'8 ?_ | refine u'9 ?_))
          have hM0 : ML = [] := hML
          refine ⟨_, ref_refl, body_retCT (v := .agg [.int .i64 k, .int .i64 n, .int .i64 m, .int .i64 i0, .bool false, .sl true []]) rfl ?_ ?_⟩
          · simp only [wS, simprocAttr]; try exact rfl
          · have hz : (i0 + 1 + ((T.sizes [] : Nat) : Int)) = i0 + ((T.size (.mk k n m []) : Nat) : Int) := by simp only [T.size, T.sizes]; omega
            simp only [wS, simprocAttr]
            rw [hz, hM0]; rfl
      · have hlm : ((ML.take (q + 1)).map Mk.enc).length = q + 1 := by rw [List.length_map, List.length_take]; omega
        simp only [Nat.succ_ne_zero, if_false, Nat.add_sub_cancel, Nat.add_eq_zero_iff, Nat.one_ne_zero, and_false]
        repeat' (first | with_reducible (first | refine u'1 fun _ _ => ?_ | refine u'2 ?_ | (first | refine u'3 ?_ | refine u'4 ?_ | refine u'5 fun _ _ _ _ => ?_ | refine u'6 (fun hg => ?_) (fun hg => ?_) <;> try simp only [hg]) <;> simp only [wS, simprocAttr] | (first | refine u's ?_ | refine u'e ?_ | refine u'r ?_) <;> try simp only [wE, simprocAttr] | refine u'8 ?_ | refine u'9 ?_))
        refine ⟨fun h => ?_, fun h => ?_⟩
        · have hlt : q + 1 < es.length := by simp at h; omega
          have hltE : q + 1 < ME.length := by omega
          obtain ⟨e, he⟩ : ∃ e, es[q + 1]? = some e := ⟨_, List.getElem?_eq_getElem hlt⟩
          have hg := hgt (q + 1) e he
          have hce := ih e (i0 + 1 + (T.sizes (es.take (q + 1)) : Nat)) (by have := T.size_mem (List.mem_of_getElem? he); omega) (by omega) (by omega) (by have h1 := T.sizes_take he; have h2 := hst (q + 1 + 1); omega)
          have htk := map_takeF (f := Mk.enc) (hmg (q + 1) e he)
          have hsz := T.sizes_take he
          have hst2 := hst ((q + 1) + 1)
          have e4 : i0 + 1 + (T.sizes (es.take (q + 1)) : Nat) + (T.size e : Nat) = i0 + 1 + (T.sizes (es.take ((q + 1) + 1)) : Nat) := by omega
          have hee : ∃ a b c d, T.enc e = [.int .i64 a, .int .i64 b, .int .i64 c, .sl false d] := by cases e; exact ⟨_, _, _, _, rfl⟩
          obtain ⟨ea, eb, ec, ed, hee⟩ := hee
          have hpp : ∃ a b c d f h, Mk.enc (Mk.mark e (i0 + 1 + (T.sizes (es.take (q + 1)) : Nat))) = [.int .i64 a, .int .i64 b, .int .i64 c, .int .i64 d, .bool f, .sl false h] := by cases e; exact ⟨_, _, _, _, _, _, rfl⟩
          obtain ⟨pa, pb, pc, pd, pe, pf, hpp⟩ := hpp
          rw [hee] at hg hce
          rw [hpp, e4] at hce
          rw [hpp] at htk
          repeat' (first | with_reducible (first | refine u'1 fun _ _ => ?_ | refine u'2 ?_ | (first | refine u'3 ?_ | refine u'4 ?_ | refine u'5 fun _ _ _ _ => ?_ | refine u'6 (fun hg => ?_) (fun hg => ?_) <;> try simp only [hg]) <;> simp only [wS, simprocAttr, hg, hltE, hlt] | (first | refine u's ?_ | refine u'e ?_ | refine u'r ?_) <;> try simp only [wE, simprocAttr] | refine u'8 ?_ | refine u'9 ?_))
          refine callR_tree hG0 hce ?_
          simp only [wS, simprocAttr]
          repeat' (first | with_reducible (first | refine u'1 fun _ _ => ?_ | refine u'2 ?_ | (first | refine u'3 ?_ | refine u'4 ?_ | refine u'5 fun _ _ _ _ => ?_ | refine u'6 (fun hg => ?_) (fun hg => ?_) <;> try simp only [hg]) <;> simp only [wS, simprocAttr] | (first | refine u's ?_ | refine u'e ?_ | refine u'r ?_) <;> try simp only [wE, simprocAttr] | refine u'8 ?_ | refine u'9 ?_))
          refine eff_own (cs := ((ML.take (q + 1)).map Mk.enc).flatten) (sz := 6) (by' := 64) (mm := 1) (new := [.int .i64 pa, .int .i64 pb, .int .i64 pc, .int .i64 pd, .bool pe, .sl false pf]) (by kernel_rfl) ?hb (by rw [flat_sz (hps _), hlm]) ?hd (by omega) ?_
          case hb => simp only [wS, simprocAttr]
          case hd => simp [srcA]
          simp only [wS, simprocAttr]
          repeat' (first | with_reducible (first | refine u'1 fun _ _ => ?_ | refine u'2 ?_ | (first | refine u'3 ?_ | refine u'4 ?_ | refine u'5 fun _ _ _ _ => ?_ | refine u'6 (fun hg => ?_) (fun hg => ?_) <;> try simp only [hg]) <;> simp only [wS, simprocAttr, e3 hlt] | (first | refine u's ?_ | refine u'e ?_ | refine u'r ?_) <;> try simp only [wE, simprocAttr] | refine u'8 ?_ | refine u'9 ?_))
          refine hK3.go ⟨q + 1 + 1, hlt⟩ (Weak.ref ⟨?_, .inr ⟨Nat.zero_le _, ?_, ?_, ?_, ?_⟩⟩) (by simp only; omega)
          · simp only [wS, simprocAttr]; try exact rfl
          · simp only [Nat.succ_ne_zero, if_false, Nat.add_sub_cancel, Nat.add_eq_zero_iff, Nat.one_ne_zero, and_false, htk, List.flatten_append, List.flatten_cons, List.flatten_nil, List.append_nil]
            simp only [wS, simprocAttr]; try exact rfl
          · exact fun g cs hg => inL_mono (p := noRef) (fun r hr => by cases hr) (hG0 g cs hg)
          · simp only [Nat.succ_ne_zero, if_false, Nat.add_eq_zero_iff, Nat.one_ne_zero, and_false]
            intro z hz
            simp only [List.mem_cons, List.not_mem_nil, or_false] at hz
            rcases hz with rfl | rfl | rfl | rfl | rfl | rfl | rfl <;> first | rfl | exact hteq _
          · simp only [Nat.succ_ne_zero, if_false, Nat.add_eq_zero_iff, Nat.one_ne_zero, and_false, List.all_cons, List.all_nil, Bool.and_true, Bool.and_eq_true]
            exact ⟨by simp only [rowIn, inL, inR, hteq, Bool.and_self], rfl, rfl, rfl, rfl, inL_flat (inE_mono (p := noRef) (fun r hr => by cases hr) (hpt _))⟩
        · have hge : es.length = q + 1 := by simp at h; omega
          have hta : es.take (q + 1) = es := by rw [← hge, List.take_length]
          have htb : ML.take (q + 1) = ML := by rw [← hge, ← hml, List.take_length]
          have hlm2 : (ML.map Mk.enc).length = q + 1 := by rw [List.length_map, hml, hge]
          repeat' (first | with_reducible (first | refine u'1 fun _ _ => ?_ | refine u'2 ?_ | (first | refine u'3 ?_ | refine u'4 ?_ | refine u'5 fun _ _ _ _ => ?_ | refine u'6 (fun hg => ?_) (fun hg => ?_) <;> try simp only [hg]) <;> simp only [wS, simprocAttr] | (first | refine u's ?_ | refine u'e ?_ | refine u'r ?_) <;> try simp only [wE, simprocAttr] | refine u'8 ?_ | refine u'9 ?_))
          rw [hta, htb] at *
          have hz : (i0 + 1 + ((T.sizes es : Nat) : Int)) = i0 + ((T.size (.mk k n m es) : Nat) : Int) := by simp only [T.size]; omega
          refine ⟨_, ref_freeze [5] [(4, .ptr 1 0 0), (5, .int .i64 (i0 + 1 + ((T.sizes es : Nat) : Int)))] [.cells 0 [.int .i64 k, .int .i64 n, .int .i64 m, .sl false ME], .cells 0 [.int .i64 k, .int .i64 n, .int .i64 m, .int .i64 i0, .bool false, .sl false (ML.map Mk.enc)], .cells 0 [.int .i64 k, .int .i64 n, .int .i64 m, .int .i64 i0, .bool false, .osl 5 q 0 (q + 1) 6 false], .dead, .dead, .dead] rfl ⟨.inl ?_, .inl ?_, trivial⟩ ?_, body_retCT (v := .agg [.int .i64 k, .int .i64 n, .int .i64 m, .int .i64 i0, .bool false, .sl false (ML.map Mk.enc)]) rfl ?_ ?_⟩
          · simp only [wS, simprocAttr]
          · simp only [wS, simprocAttr]
          · refine ⟨.inr ⟨by simp, .inl rfl⟩, .inr ⟨by simp, .inr ⟨0, _, _, rfl, rfl, .inl rfl, .inl rfl, .inl rfl, .inl rfl, .inl rfl, .inr (.osl (cs := (ML.map Mk.enc).flatten) (by simp) (by simp only [wS, simprocAttr]) hlm2 (hps ML) ?_ (hpt ML)), trivial⟩⟩, .inr ⟨by simp, .inl rfl⟩, .inr ⟨by simp, .inl rfl⟩, .inr ⟨by simp, .inl rfl⟩, .inl ⟨by simp, rfl, by simp⟩, trivial⟩
            rw [List.drop_zero, List.take_of_length_le (by rw [flat_sz (hps ML), hlm2]; exact Nat.le_refl _)]
          · simp only [wS, simprocAttr]
          · simp only [wS, simprocAttr]
            rw [hz, ← hout]
            exact congrArg (fun c => AV.tup [.agg c, .int .i64 (i0 + ((T.size (.mk k n m es) : Nat) : Int))]) (Mk.wk_enc _)
end Go.Proofs.YtiobgkecpekhgaaDoor
set_option linter.unusedVariables false
set_option linter.unusedSimpArgs false
namespace Go.Proofs.YtiobgkecpekhgaaDoor
open Go.AM
attribute [local irreducible] AWp rgnS callR callV effR valR guardR stepR nextR
def szN : Nat → Nat
  | 0 => 0
  | D + 1 => 1 + 6 * szN D
theorem szN_mono : ∀ {d D : Nat}, d ≤ D → szN d ≤ szN D
  | 0, _, _ => Nat.zero_le _
  | d + 1, 0, h => absurd h (by omega)
  | d + 1, D + 1, h => by
    have := szN_mono (d := d) (D := D) (by omega)
    simp only [szN]; omega
theorem T.of_node {D : Nat} {c : List AV} (h : NodeV D c) : ∃ t : T, wkL c = T.enc t ∧ T.size t ≤ szN D := by
  induction h with
  | @mk D d hd k n m b es hl hh ih =>
    have key : ∀ l : List (List AV), (∀ e ∈ l, ∃ t : T, wkL e = T.enc t ∧ T.size t ≤ szN d) → ∃ ts : List T, l.map wkL = T.encs ts ∧ T.sizes ts ≤ l.length * szN d := by
      intro l
      induction l with
      | nil => intro _; exact ⟨[], rfl, by simp [T.sizes]⟩
      | cons e l ie =>
        intro hx
        obtain ⟨t, h1, h2⟩ := hx e (by simp)
        obtain ⟨ts, h3, h4⟩ := ie fun x hx' => hx x (by simp [hx'])
        refine ⟨t :: ts, by rw [List.map_cons, h1, h3, T.encs], ?_⟩
        simp only [T.sizes, List.length_cons, Nat.add_mul, Nat.one_mul]; omega
    obtain ⟨ts, h1, h2⟩ := key es ih
    refine ⟨.mk k n m ts, ?_, ?_⟩
    · simp only [wkL, AM.wk, wkE_eq]
      rw [T.enc, ← h1]
    · have h3 : es.length * szN d ≤ 6 * szN d := Nat.mul_le_mul_right _ hl
      have h4 := szN_mono (d := d + 1) (D := D) hd
      simp only [T.size, szN] at h4 ⊢; omega
end Go.Proofs.YtiobgkecpekhgaaDoor
set_option linter.unusedVariables false
set_option linter.unusedSimpArgs false
namespace Go.Proofs.YtiobgkecpekhgaaDoor
open Go.AM
attribute [local irreducible] AWp rgnS callR callV effR valR guardR stepR nextR
def idxF (f : Mk → Bool) : List Mk → Nat → Int
  | [], _ => -1
  | e :: es, i => if f e = true then (i : Nat) else idxF f es (i + 1)
theorem idxF_drop {f : Mk → Bool} {es : List Mk} {i : Nat} {e : Mk} (h : es[i]? = some e) : idxF f (es.drop i) i = if f e = true then ((i : Nat) : Int) else idxF f (es.drop (i + 1)) (i + 1) := by
  obtain ⟨hi, rfl⟩ := List.getElem?_eq_some_iff.1 h
  rw [List.drop_eq_getElem_cons hi, idxF]
set_option maxHeartbeats 4000000 in
theorem index_48 (gf : FuncId) (cap : List AV) (P : Mk → Bool) (hcap : inL noRef cap = true) (hP : ∀ e : Mk, Pure Tryd.prog G0 gf (.agg (Mk.enc e) :: cap) (.bool (P e))) (b : Bool) (es : List Mk) (hl : es.length ≤ 1000000000000) : Pure Tryd.prog G0 58 [.sl b (Mk.encs es), .fn (.func gf) [] cap] (.int .i64 (idxF P es 0)) := by
  have hgt := fun (i : Nat) (e : Mk) => Mk.encs_get (es := es) (i := i) (e := e)
  have hln := Mk.encs_len es
  have hte := Mk.encs_tree es
  generalize Mk.encs es = ME at hgt hln hte
  refine pure_of_body hG0 Tryd.func58 rfl (by kernel_rfl) (by simp [Tryd.ntmps58]) (by simp only [inL, inR, hte, hcap, Bool.and_self]) rfl ?_
  simp only [Tryd.ntmps58, enterF, Nat.reduceAdd]
  repeat' (first | with_reducible (first | refine u'1 fun _ _ => ?_ | refine u'2 ?_ | (first | refine u'3 ?_ | refine u'4 ?_ | refine u'5 fun _ _ _ _ => ?_ | refine u'6 (fun hg => ?_) (fun hg => ?_) <;> try simp only [hg]) <;> simp only [wS, simprocAttr] | (first | refine u's ?_ | refine u'e ?_ | refine u'r ?_) <;> try simp only [wE, simprocAttr] | refine u'8 ?_ | refine u'9 ?_))
  refine awp_loop_k (α := {i : Nat // i ≤ es.length ∧ idxF P (es.drop i) i = idxF P es 0}) (fun i => [(0, .sl b ME), (1, .fn (.func gf) [] cap), (7, .int .i64 (es.length : Nat)), (8, .int .i64 (i.1 : Nat))]) (fun i => []) (fun i => es.length - i.1) ⟨0, Nat.zero_le _, by rw [List.drop_zero]⟩ ⟨?_, .inl ?_⟩ ?_
  · simp only [wS, simprocAttr, hln]; try exact rfl
  · simp only [wS, simprocAttr]; try exact rfl
  · rintro ⟨i, hi, hx⟩ K hK
    repeat' (first | with_reducible (first | refine u'1 fun _ _ => ?_ | refine u'2 ?_ | (first | refine u'3 ?_ | refine u'4 ?_ | refine u'5 fun _ _ _ _ => ?_ | refine u'6 (fun hg => ?_) (fun hg => ?_) <;> try simp only [hg]) <;> simp only [wS, simprocAttr] | (first | refine u's ?_ | refine u'e ?_ | refine u'r ?_) <;> try simp only [wE, simprocAttr] | refine u'8 ?_ | refine u'9 ?_))
    refine ⟨fun h => ?_, fun h => ?_⟩
    · have hlt : i < es.length := by simpa using h
      have hltE : i < ME.length := by omega
      obtain ⟨e, he⟩ : ∃ e, es[i]? = some e := ⟨_, List.getElem?_eq_getElem hlt⟩
      have hg := hgt i e he
      have hd := idxF_drop (f := P) he
      have ke := hP e
      have e1 := wrap_succ (k := i) hlt (by omega)
      have hee : ∃ a b c d f h, Mk.enc e = [.int .i64 a, .int .i64 b, .int .i64 c, .int .i64 d, .bool f, .sl false h] := by cases e; exact ⟨_, _, _, _, _, _, rfl⟩
      obtain ⟨ea, eb, ec, ed, ef, eg, hee⟩ := hee
      rw [hee] at hg ke
      repeat' (first | with_reducible (first | refine u'1 fun _ _ => ?_ | refine u'2 ?_ | (first | refine u'3 ?_ | refine u'4 ?_ | refine u'5 fun _ _ _ _ => ?_ | refine u'6 (fun hg => ?_) (fun hg => ?_) <;> try simp only [hg]) <;> simp only [wS, simprocAttr, hg, hltE, hlt] | (first | refine u's ?_ | refine u'e ?_ | refine u'r ?_) <;> try simp only [wE, simprocAttr] | refine u'8 ?_ | refine u'9 ?_))
      refine callR_tree hG0 ke ?_
      simp only [wS, simprocAttr]
      repeat' (first | with_reducible (first | refine u'1 fun _ _ => ?_ | refine u'2 ?_ | (first | refine u'3 ?_ | refine u'4 ?_ | refine u'5 fun _ _ _ _ => ?_ | refine u'6 (fun hg => ?_) (fun hg => ?_) <;> try simp only [hg]) <;> simp only [wS, simprocAttr] | (first | refine u's ?_ | refine u'e ?_ | refine u'r ?_) <;> try simp only [wE, simprocAttr] | refine u'8 ?_ | refine u'9 ?_))
      refine ⟨fun h2 => ?_, fun h2 => ?_⟩
      · repeat' (first | with_reducible (first | refine u'1 fun _ _ => ?_ | refine u'2 ?_ | (first | refine u'3 ?_ | refine u'4 ?_ | refine u'5 fun _ _ _ _ => ?_ | refine u'6 (fun hg => ?_) (fun hg => ?_) <;> try simp only [hg]) <;> simp only [wS, simprocAttr] | (first | refine u's ?_ | refine u'e ?_ | refine u'r ?_) <;> try simp only [wE, simprocAttr] | refine u'8 ?_ | refine u'9 ?_))
        refine body_ret1 rfl ?_
        simp only [wS, simprocAttr]
        rw [← hx, hd, if_pos h2]
      · repeat' (first | with_reducible (first | refine u'1 fun _ _ => ?_ | refine u'2 ?_ | (first | refine u'3 ?_ | refine u'4 ?_ | refine u'5 fun _ _ _ _ => ?_ | refine u'6 (fun hg => ?_) (fun hg => ?_) <;> try simp only [hg]) <;> simp only [wS, simprocAttr, e1] | (first | refine u's ?_ | refine u'e ?_ | refine u'r ?_) <;> try simp only [wE, simprocAttr] | refine u'8 ?_ | refine u'9 ?_))
        refine hK.go ⟨i + 1, hlt, by rw [← hx, hd, if_neg (by rw [h2]; decide)]⟩ ⟨?_, .inl ?_⟩ (by simp only; omega)
        · simp only [wS, simprocAttr]; try exact rfl
        · simp only [wS, simprocAttr]; try exact rfl
    · have hge : i = es.length := by simp at h; omega
      repeat' (first | with_reducible (first | refine u'1 fun _ _ => ?_ | refine u'2 ?_ | (first | refine u'3 ?_ | refine u'4 ?_ | refine u'5 fun _ _ _ _ => ?_ | refine u'6 (fun hg => ?_) (fun hg => ?_) <;> try simp only [hg]) <;> simp only [wS, simprocAttr] | (first | refine u's ?_ | refine u'e ?_ | refine u'r ?_) <;> try simp only [wE, simprocAttr] | refine u'8 ?_ | refine u'9 ?_))
      refine body_ret1 rfl ?_
      simp only [wS, simprocAttr]
      rw [← hx, hge, List.drop_length]; rfl
end Go.Proofs.YtiobgkecpekhgaaDoor
