import Derived.Test.YtijakngaipdncaaDoorAH
import Derived.Test.YtijakngaipdncaaDoorF2
set_option linter.unusedVariables false
set_option linter.unusedSimpArgs false
namespace Go.Proofs.YtijakngaipdncaaDoor
open Go.AM
attribute [local irreducible] AWp rgnS callR callV effR valR guardR stepR nextR
set_option maxRecDepth 100000
namespace T
mutual
def enc : T → List AV | mk k n m es => [.int .i64 k, .int .i64 n, .int .i64 m, .sl false (encs es)]
def encs : List T → List (List AV)
  | [] => []
  | e :: es => enc e :: encs es
end
theorem encs_map (es : List T) : encs es = es.map enc := by induction es <;> simp_all [encs]
mutual
theorem enc_tree : ∀ t : T, inL noRef (enc t) = true
  | mk k n m es => by simp only [enc, inL, inR, encs_tree es, Bool.and_self]
theorem encs_tree : ∀ es : List T, inE noRef (encs es) = true
  | [] => rfl
  | e :: es => by simp only [encs, inE, enc_tree e, encs_tree es, Bool.and_self]
end
theorem encs_len (es : List T) : (encs es).length = es.length := by rw [encs_map, List.length_map]
theorem encs_get {es : List T} {i : Nat} {e : T} (h : es[i]? = some e) : (encs es)[i]? = some (enc e) := by rw [encs_map, List.getElem?_map, h]; rfl
theorem sizes_take {es : List T} {i : Nat} {e : T} (h : es[i]? = some e) : sizes (es.take (i + 1)) = sizes (es.take i) + size e := by
  rw [List.take_add_one, h, sizes_app]; simp [sizes]
theorem sizes_take_le : ∀ (es : List T) (i : Nat), sizes (es.take i) ≤ sizes es
  | [], i => by simp
  | e :: es, 0 => by simp [sizes]
  | e :: es, i + 1 => by
    have := sizes_take_le es i
    simp only [List.take_succ_cons, sizes]; omega
theorem len_sizes : ∀ es : List T, es.length ≤ sizes es
  | [] => by simp
  | e :: es => by
    have h1 := len_sizes es
    have h2 := size_pos e
    simp only [List.length_cons, sizes]; omega
end T
set_option maxHeartbeats 4000000 in
theorem size_10 : ∀ (N : Nat) (t : T), T.size t ≤ N → N ≤ 1000000000000 → Pure Tryd.prog G0 10 [.agg (T.enc t)] (.int .i64 (T.size t : Nat)) := by
  intro N
  induction N with
  | zero => intro t h; have := T.size_pos t; omega
  | succ N ih =>
    intro t ht hN
    cases t with
    | mk k n m es =>
    have ih2 : ∀ e ∈ es, Pure Tryd.prog G0 10 [.agg (T.enc e)] (.int .i64 (T.size e : Nat)) := fun e he => ih e (by have := T.size_mem he; simp only [T.size] at ht; omega) (by omega)
    have htr := T.enc_tree (.mk k n m es)
    have hls := T.len_sizes es
    simp only [T.size] at ht
    refine pure_of_body hG0 Tryd.func10 rfl (by kernel_rfl) (by simp [Tryd.ntmps10]) (by simp only [inL, inR, htr, Bool.and_self]) rfl ?_
    simp only [Tryd.ntmps10, enterF, Nat.reduceAdd, T.enc]
    have hgt := fun (i : Nat) (e : T) => T.encs_get (es := es) (i := i) (e := e)
    have hln := T.encs_len es
    have hte := T.encs_tree es
    generalize T.encs es = EE at hgt hln hte
    repeat' (first | with_reducible (first | refine u'1 fun _ _ => ?_ | refine u'2 ?_ | (first | refine u'3 ?_ | refine u'4 ?_ | refine u'5 fun _ _ _ _ => ?_ | refine u'6 (fun hg => ?_) (fun hg => ?_) <;> try simp only [hg]) <;> simp only [wS, simprocAttr] | (first | refine u's ?_ | refine u'e ?_ | refine u'r ?_) <;> try simp only [wE, simprocAttr] | refine u'8 ?_ | refine u'9 ?_))
    refine awp_loop_r (α := {i : Nat // i ≤ es.length}) (fun i => [(1, .ptr 0 0 0), (3, .int .i64 ((1 + T.sizes (es.take i.1) : Nat))), (7, .sl false EE), (8, .int .i64 (es.length : Nat)), (9, .int .i64 (i.1 : Nat))]) (fun i => [.cells 0 [.int .i64 k, .int .i64 n, .int .i64 m, .sl false EE]]) (fun i => es.length - i.1) ⟨0, Nat.zero_le _⟩ (Weak.ref ⟨?_, .inl ?_⟩) ?_
    · simp only [wS, simprocAttr, hln, T.sizes, List.take_zero]; try exact rfl
    · simp only [wS, simprocAttr]; try exact rfl
    · rintro ⟨i, hi⟩ K2 hK2
      repeat' (first | with_reducible (first | refine u'1 fun _ _ => ?_ | refine u'2 ?_ | (first | refine u'3 ?_ | refine u'4 ?_ | refine u'5 fun _ _ _ _ => ?_ | refine u'6 (fun hg => ?_) (fun hg => ?_) <;> try simp only [hg]) <;> simp only [wS, simprocAttr] | (first | refine u's ?_ | refine u'e ?_ | refine u'r ?_) <;> try simp only [wE, simprocAttr] | refine u'8 ?_ | refine u'9 ?_))
      refine ⟨fun h => ?_, fun h => ?_⟩
      · have hlt : i < es.length := by simpa using h
        have hltE : i < EE.length := by omega
        obtain ⟨e, he⟩ : ∃ e, es[i]? = some e := ⟨_, List.getElem?_eq_getElem hlt⟩
        have hg := hgt i e he
        have hs := T.sizes_take he
        have hsl := T.sizes_take_le es (i + 1)
        have ke := ih2 e (List.mem_of_getElem? he)
        have hte' := T.enc_tree e
        have e1 := wrap_succ (k := i) hlt (by omega)
        have e2 : IntKind.i64.wrap (((1 + T.sizes (es.take i) : Nat) : Int) + ((T.size e : Nat) : Int)) = ((1 + T.sizes (es.take (i + 1)) : Nat) : Int) := by rw [wrap_id (by omega) (by omega)]; omega
        obtain ⟨ek, en, em, ees, hee⟩ : ∃ a b c d, T.enc e = [.int .i64 a, .int .i64 b, .int .i64 c, .sl false d] := by cases e; exact ⟨_, _, _, _, rfl⟩
        rw [hee] at hg ke hte'
        repeat' (first | with_reducible (first | refine u'1 fun _ _ => ?_ | refine u'2 ?_ | (first | refine u'3 ?_ | refine u'4 ?_ | refine u'5 fun _ _ _ _ => ?_ | refine u'6 (fun hg => ?_) (fun hg => ?_) <;> try simp only [hg]) <;> simp only [wS, simprocAttr, hg, hltE, hlt] | (first | refine u's ?_ | refine u'e ?_ | refine u'r ?_) <;> try simp only [wE, simprocAttr] | refine u'8 ?_ | refine u'9 ?_))
        refine callR_tree hG0 ke ?_
        simp only [wS, simprocAttr, e2]
        repeat' (first | with_reducible (first | refine u'1 fun _ _ => ?_ | refine u'2 ?_ | (first | refine u'3 ?_ | refine u'4 ?_ | refine u'5 fun _ _ _ _ => ?_ | refine u'6 (fun hg => ?_) (fun hg => ?_) <;> try simp only [hg]) <;> simp only [wS, simprocAttr, e1, e2] | (first | refine u's ?_ | refine u'e ?_ | refine u'r ?_) <;> try simp only [wE, simprocAttr] | refine u'8 ?_ | refine u'9 ?_))
        refine hK2.go ⟨i + 1, hlt⟩ (Weak.ref ⟨?_, .inr ⟨Nat.zero_le _, ?_, ?_, ?_, ?_⟩⟩) (by simp only; omega)
        · simp only [wS, simprocAttr]; try exact rfl
        · simp only [wS, simprocAttr]; try exact rfl
        · exact fun g cs hg => inL_mono (p := noRef) (fun r hr => by cases hr) (hG0 g cs hg)
        · intro z hz
          simp only [List.mem_cons, List.not_mem_nil, or_false] at hz
          rcases hz with rfl | rfl | rfl | rfl | rfl <;> first | rfl | (simp only [inR]; exact inE_mono (p := noRef) (fun r hr => by cases hr) hte)
        · simp only [List.all_cons, List.all_nil, Bool.and_true, rowIn, inL, inR, Bool.true_and]
          exact inE_mono (p := noRef) (fun r hr => by cases hr) hte
      · have hge : i = es.length := by simp at h; omega
        repeat' (first | with_reducible (first | refine u'1 fun _ _ => ?_ | refine u'2 ?_ | (first | refine u'3 ?_ | refine u'4 ?_ | refine u'5 fun _ _ _ _ => ?_ | refine u'6 (fun hg => ?_) (fun hg => ?_) <;> try simp only [hg]) <;> simp only [wS, simprocAttr] | (first | refine u's ?_ | refine u'e ?_ | refine u'r ?_) <;> try simp only [wE, simprocAttr] | refine u'8 ?_ | refine u'9 ?_))
        refine body_ret1 rfl ?_
        simp only [wS, simprocAttr]
        rw [hge, List.take_length]; simp only [T.size]
end Go.Proofs.YtijakngaipdncaaDoor
