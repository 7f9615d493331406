import Derived.Test.YtijakngaipdncaaDoorF4
import Derived.Test.YtijakngaipdncaaDoorM1
set_option linter.unusedVariables false
set_option linter.unusedSimpArgs false
namespace Go.Proofs.YtijakngaipdncaaDoor
open Go.AM
attribute [local irreducible] AWp rgnS callR callV effR valR guardR stepR nextR
set_option maxRecDepth 100000
theorem body_retCT {P : Program} {fn : Func} {Rp : AV → AS → Prop} {s : AS} {t u : Tmp} {ty : TypeId} {v : AV} (h : fn.results = #[.cell t ty, .tmp u]) (hl : aLoad P ty (s.get t) s.row = some v) (hR : Rp (.tup [v, s.get u]) s) : bodyA P fn Rp .ret s := ⟨_, by simp [aResults, aResultL, aResult, h, hl], hR⟩
namespace T
def sub : T → List Int → Option T
  | t, [] => some t
  | t, i :: p => if 0 ≤ i then (match t.kids[i.toNat]? with | some e => sub e p | none => none) else none
end T
theorem at_7 : ∀ (p : List Int) (b : Bool) (t t' : T), p.length ≤ 1000000000000 → T.sub t p = some t' → Pure Tryd.prog G0 7 [.agg (T.enc t), .sl b (p.map fun x => [AV.int .i64 x])] (.tup [.agg (T.enc t'), .bool true]) := by
  intro p
  induction p with
  | nil =>
    intro b t t' _ h
    simp only [T.sub, Option.some.injEq] at h
    subst h
    have htr := T.enc_tree t
    cases t with
    | mk k n m es =>
    refine pure_of_body hG0 Tryd.func7 rfl (by kernel_rfl) (by simp [Tryd.ntmps7]) (by simp only [inL, inR, htr, List.map_nil, inE, Bool.and_self]) (by simp only [inR, inL, htr, Bool.and_self]) ?_
    simp only [Tryd.ntmps7, enterF, Nat.reduceAdd, T.enc, List.map_nil]
    repeat' (first | with_reducible (first | refine u'1 fun _ _ => ?_ | refine u'2 ?_ | (first | refine u'3 ?_ | refine u'4 ?_ | refine u'5 fun _ _ _ _ => ?_ | refine u'6 (fun hg => ?_) (fun hg => ?_) <;> try simp only [hg]) <;> simp only [wS, simprocAttr] | (first | refine u's ?_ | refine u'e ?_ | refine u'r ?_) <;> try simp only [wE, simprocAttr] | refine u'8 ?_ | refine u'9 ?_))
    refine body_retCT (v := .agg (T.enc (.mk k n m es))) rfl (by simp only [wS, simprocAttr, T.enc]; try exact rfl) (by simp only [wS, simprocAttr]; try exact rfl)
  | cons i p ih =>
    intro b t t' hl h
    simp only [T.sub] at h
    split at h
    · rename_i hi
      split at h
      · rename_i e he
        have htr := T.enc_tree t
        have htr' := T.enc_tree t'
        have htp : inE noRef ((i :: p).map fun x => [AV.int .i64 x]) = true := tree_ints _
        cases t with
        | mk k n m es =>
        obtain ⟨j, rfl⟩ : ∃ j : Nat, i = j := ⟨i.toNat, (Int.toNat_of_nonneg hi).symm⟩
        simp only [Int.toNat_natCast, T.kids] at he
        have hlt : j < es.length := (List.getElem?_eq_some_iff.1 he).1
        have hg := T.encs_get he
        have hln := T.encs_len es
        simp only [List.length_cons] at hl
        have hih := fun b => ih b e t' (by omega) h
        have hee : ∃ a b c d, T.enc e = [.int .i64 a, .int .i64 b, .int .i64 c, .sl false d] := by cases e; exact ⟨_, _, _, _, rfl⟩
        have hee' : ∃ a b c d, T.enc t' = [.int .i64 a, .int .i64 b, .int .i64 c, .sl false d] := by cases t'; exact ⟨_, _, _, _, rfl⟩
        obtain ⟨ek, en, em, ees, hee⟩ := hee
        obtain ⟨fk, fn, fm, fes, hee'⟩ := hee'
        rw [hee] at hg hih
        rw [hee'] at hih htr' ⊢
        refine pure_of_body hG0 Tryd.func7 rfl (by kernel_rfl) (by simp [Tryd.ntmps7]) (by simp only [inL, inR, htr, htp, Bool.and_self]) (by simp only [inR, inL, Bool.and_true, Bool.true_and] at htr' ⊢; exact htr') ?_
        simp only [Tryd.ntmps7, enterF, Nat.reduceAdd, T.enc, List.map_cons]
        have hltE : j < (T.encs es).length := by omega
        have e1 : (((p.length + 1 : Nat) : Int) == 0) = false := by simp; omega
        have e2 : decide (((j : Nat) : Int) < 0) = false := by simp
        have e3 : decide (((j : Nat) : Int) ≥ ((T.encs es).length : Int)) = false := by simp; omega
        have hsl : (p.map fun x => [AV.int .i64 x]).all (fun e => decide (e.length = 1)) = true := by simp
        have htk : (p.map fun x => [AV.int .i64 x]).take p.length = p.map fun x => [AV.int .i64 x] := List.take_of_length_le (by simp)
        have hle : (p.length ≤ p.length) = True := by simp
        repeat' (first | with_reducible (first | refine u'1 fun _ _ => ?_ | refine u'2 ?_ | (first | refine u'3 ?_ | refine u'4 ?_ | refine u'5 fun _ _ _ _ => ?_ | refine u'6 (fun hg => ?_) (fun hg => ?_) <;> try simp only [hg]) <;> simp only [wS, simprocAttr, e1, e2, e3, hg, hltE, List.length_cons, hle, if_true, hsl, htk, Nat.add_sub_cancel, List.drop_succ_cons, List.drop_zero, decide_true, Bool.true_and] | (first | refine u's ?_ | refine u'e ?_ | refine u'r ?_) <;> try simp only [wE, simprocAttr] | refine u'8 ?_ | refine u'9 ?_))
        refine callR_tree hG0 (hih _) ?_
        simp only [wS, simprocAttr]
        refine ⟨by kernel_rfl, ?_⟩
        repeat' (first | with_reducible (first | refine u'1 fun _ _ => ?_ | refine u'2 ?_ | (first | refine u'3 ?_ | refine u'4 ?_ | refine u'5 fun _ _ _ _ => ?_ | refine u'6 (fun hg => ?_) (fun hg => ?_) <;> try simp only [hg]) <;> simp only [wS, simprocAttr] | (first | refine u's ?_ | refine u'e ?_ | refine u'r ?_) <;> try simp only [wE, simprocAttr] | refine u'8 ?_ | refine u'9 ?_))
        refine body_retCT (v := .agg [.int .i64 fk, .int .i64 fn, .int .i64 fm, .sl false fes]) rfl (by simp only [wS, simprocAttr]; try exact rfl) (by simp only [wS, simprocAttr]; try exact rfl)
      · cases h
    · cases h
end Go.Proofs.YtijakngaipdncaaDoor
