import Derived.Test.YtijakngaipdncaaDoorF8
set_option linter.unusedVariables false
set_option linter.unusedSimpArgs false
namespace Go.Proofs.YtijakngaipdncaaDoor
open Go.AM
attribute [local irreducible] AWp rgnS callR callV effR valR guardR stepR nextR
def idxF (f : Mk → Bool) : List Mk → Nat → Int
  | [], _ => -1
  | e :: es, i => if f e = true then (i : Nat) else idxF f es (i + 1)
theorem idxF_drop {f : Mk → Bool} {es : List Mk} {i : Nat} {e : Mk} (h : es[i]? = some e) : idxF f (es.drop i) i = if f e = true then ((i : Nat) : Int) else idxF f (es.drop (i + 1)) (i + 1) := by
  obtain ⟨hi, rfl⟩ := List.getElem?_eq_some_iff.1 h
  rw [List.drop_eq_getElem_cons hi, idxF]
set_option maxHeartbeats 4000000 in
theorem index_48 (gf : FuncId) (cap : List AV) (P : Mk → Bool) (hcap : inL noRef cap = true) (hP : ∀ e : Mk, Pure Tryd.prog G0 gf (.agg (Mk.enc e) :: cap) (.bool (P e))) (b : Bool) (es : List Mk) (hl : es.length ≤ 1000000000000) : Pure Tryd.prog G0 48 [.sl b (Mk.encs es), .fn (.func gf) [] cap] (.int .i64 (idxF P es 0)) := by
  have hgt := fun (i : Nat) (e : Mk) => Mk.encs_get (es := es) (i := i) (e := e)
  have hln := Mk.encs_len es
  have hte := Mk.encs_tree es
  generalize Mk.encs es = ME at hgt hln hte
  refine pure_of_body hG0 Tryd.func48 rfl (by kernel_rfl) (by simp [Tryd.ntmps48]) (by simp only [inL, inR, hte, hcap, Bool.and_self]) rfl ?_
  simp only [Tryd.ntmps48, enterF, Nat.reduceAdd]
  repeat' (first | with_reducible (first | refine u'1 fun _ _ => ?_ | refine u'2 ?_ | (first | refine u'3 ?_ | refine u'4 ?_ | refine u'5 fun _ _ _ _ => ?_ | refine u'6 (fun hg => ?_) (fun hg => ?_) <;> try simp only [hg]) <;> simp only [wS, simprocAttr] | (first | refine u's ?_ | refine u'e ?_ | refine u'r ?_) <;> try simp only [wE, simprocAttr] | refine u'8 ?_ | refine u'9 ?_))
  refine awp_loop_k (α := {i : Nat // i ≤ es.length ∧ idxF P (es.drop i) i = idxF P es 0}) (fun i => [(0, .sl b ME), (1, .fn (.func gf) [] cap), (7, .int .i64 (es.length : Nat)), (8, .int .i64 (i.1 : Nat))]) (fun i => []) (fun i => es.length - i.1) ⟨0, Nat.zero_le _, by rw [List.drop_zero]⟩ ⟨?_, .inl ?_⟩ ?_
  · simp only [wS, simprocAttr, hln]; try exact rfl
  · simp only [wS, simprocAttr]; try exact rfl
  · rintro ⟨i, hi, hx⟩ K hK
    repeat' (first | with_reducible (first | refine u'1 fun _ _ => ?_ | refine u'2 ?_ | (first | refine u'3 ?_ | refine u'4 ?_ | refine u'5 fun _ _ _ _ => ?_ | refine u'6 (fun hg => ?_) (fun hg => ?_) <;> try simp only [hg]) <;> simp only [wS, simprocAttr] | (first | refine u's ?_ | refine u'e ?_ | refine u'r ?_) <;> try simp only [wE, simprocAttr] | refine u'8 ?_ | refine u'9 ?_))
    refine ⟨fun h => ?_, fun h => ?_⟩
    · have hlt : i < es.length := by simpa using h
      have hltE : i < ME.length := by omega
      obtain ⟨e, he⟩ : ∃ e, es[i]? = some e := ⟨_, List.getElem?_eq_getElem hlt⟩
      have hg := hgt i e he
      have hd := idxF_drop (f := P) he
      have ke := hP e
      have e1 := wrap_succ (k := i) hlt (by omega)
      have hee : ∃ a b c d f h, Mk.enc e = [.int .i64 a, .int .i64 b, .int .i64 c, .int .i64 d, .bool f, .sl false h] := by cases e; exact ⟨_, _, _, _, _, _, rfl⟩
      obtain ⟨ea, eb, ec, ed, ef, eg, hee⟩ := hee
      rw [hee] at hg ke
      repeat' (first | with_reducible (first | refine u'1 fun _ _ => ?_ | refine u'2 ?_ | (first | refine u'3 ?_ | refine u'4 ?_ | refine u'5 fun _ _ _ _ => ?_ | refine u'6 (fun hg => ?_) (fun hg => ?_) <;> try simp only [hg]) <;> simp only [wS, simprocAttr, hg, hltE, hlt] | (first | refine u's ?_ | refine u'e ?_ | refine u'r ?_) <;> try simp only [wE, simprocAttr] | refine u'8 ?_ | refine u'9 ?_))
      refine callR_tree hG0 ke ?_
      simp only [wS, simprocAttr]
      repeat' (first | with_reducible (first | refine u'1 fun _ _ => ?_ | refine u'2 ?_ | (first | refine u'3 ?_ | refine u'4 ?_ | refine u'5 fun _ _ _ _ => ?_ | refine u'6 (fun hg => ?_) (fun hg => ?_) <;> try simp only [hg]) <;> simp only [wS, simprocAttr] | (first | refine u's ?_ | refine u'e ?_ | refine u'r ?_) <;> try simp only [wE, simprocAttr] | refine u'8 ?_ | refine u'9 ?_))
      refine ⟨fun h2 => ?_, fun h2 => ?_⟩
      · repeat' (first | with_reducible (first | refine u'1 fun _ _ => ?_ | refine u'2 ?_ | (first | refine u'3 ?_ | refine u'4 ?_ | refine u'5 fun _ _ _ _ => ?_ | refine u'6 (fun hg => ?_) (fun hg => ?_) <;> try simp only [hg]) <;> simp only [wS, simprocAttr] | (first | refine u's ?_ | refine u'e ?_ | refine u'r ?_) <;> try simp only [wE, simprocAttr] | refine u'8 ?_ | refine u'9 ?_))
        refine body_ret1 rfl ?_
        simp only [wS, simprocAttr]
        rw [← hx, hd, if_pos h2]
      · repeat' (first | with_reducible (first | refine u'1 fun _ _ => ?_ | refine u'2 ?_ | (first | refine u'3 ?_ | refine u'4 ?_ | refine u'5 fun _ _ _ _ => ?_ | refine u'6 (fun hg => ?_) (fun hg => ?_) <;> try simp only [hg]) <;> simp only [wS, simprocAttr, e1] | (first | refine u's ?_ | refine u'e ?_ | refine u'r ?_) <;> try simp only [wE, simprocAttr] | refine u'8 ?_ | refine u'9 ?_))
        refine hK.go ⟨i + 1, hlt, by rw [← hx, hd, if_neg (by rw [h2]; decide)]⟩ ⟨?_, .inl ?_⟩ (by simp only; omega)
        · simp only [wS, simprocAttr]; try exact rfl
        · simp only [wS, simprocAttr]; try exact rfl
    · have hge : i = es.length := by simp at h; omega
      repeat' (first | with_reducible (first | refine u'1 fun _ _ => ?_ | refine u'2 ?_ | (first | refine u'3 ?_ | refine u'4 ?_ | refine u'5 fun _ _ _ _ => ?_ | refine u'6 (fun hg => ?_) (fun hg => ?_) <;> try simp only [hg]) <;> simp only [wS, simprocAttr] | (first | refine u's ?_ | refine u'e ?_ | refine u'r ?_) <;> try simp only [wE, simprocAttr] | refine u'8 ?_ | refine u'9 ?_))
      refine body_ret1 rfl ?_
      simp only [wS, simprocAttr]
      rw [← hx, hge, List.drop_length]; rfl
end Go.Proofs.YtijakngaipdncaaDoor
