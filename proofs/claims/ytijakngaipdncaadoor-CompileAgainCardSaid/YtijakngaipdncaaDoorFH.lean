import Derived.Test.YtijakngaipdncaaDoorF3
import Derived.Test.YtijakngaipdncaaDoorF6
import Derived.Test.YtijakngaipdncaaDoorN1
set_option linter.unusedVariables false
set_option linter.unusedSimpArgs false
namespace Go.Proofs.YtijakngaipdncaaDoor
open Go.AM
attribute [local irreducible] AWp rgnS callR callV effR valR guardR stepR nextR
set_option maxRecDepth 100000
theorem nan_37 (x : Int) : Pure Tryd.prog G0 37 [.int .i64 x] (.bool false) := by
  have e1 : (x != x) = false := by simp
  refine pure_of_body hG0 Tryd.func37 rfl (by kernel_rfl) (by simp [Tryd.ntmps37]) (by simp [inL, inR]) (by simp [inR]) ?_
  simp only [Tryd.ntmps37, enterF, Nat.reduceAdd]
  repeat' (first | with_reducible (first | refine u'1 fun _ _ => ?_ | refine u'2 ?_ | (first | refine u'3 ?_ | refine u'4 ?_ | refine u'5 fun _ _ _ _ => ?_ | refine u'6 (fun hg => ?_) (fun hg => ?_) <;> try simp only [hg]) <;> simp only [wS, simprocAttr, e1] | (first | refine u's ?_ | refine u'e ?_ | refine u'r ?_) <;> try simp only [wE, simprocAttr] | refine u'8 ?_ | refine u'9 ?_))
  refine body_ret1 rfl ?_
  simp only [wS, simprocAttr]
theorem cmp_21 (x : Int) : Pure Tryd.prog G0 21 [.int .i64 x, .int .i64 x] (.int .i64 0) := by
  have e1 : decide (x < x) = false := by simp
  have e2 : decide (x > x) = false := by simp
  refine pure_of_body hG0 Tryd.func21 rfl (by kernel_rfl) (by simp [Tryd.ntmps21]) (by simp [inL, inR]) (by simp [inR]) ?_
  simp only [Tryd.ntmps21, enterF, Nat.reduceAdd]
  repeat' (first | with_reducible (first | refine u'1 fun _ _ => ?_ | refine u'2 ?_ | (first | refine u'3 ?_ | refine u'4 ?_ | refine u'5 fun _ _ _ _ => ?_ | refine u'6 (fun hg => ?_) (fun hg => ?_) <;> try simp only [hg]) <;> simp only [wS, simprocAttr, e1, e2] | (first | refine u's ?_ | refine u'e ?_ | refine u'r ?_) <;> try simp only [wE, simprocAttr] | refine u'8 ?_ | refine u'9 ?_) | (refine callR_tree hG0 (nan_37 _) ?_; simp only [wS, simprocAttr, e1, e2]) | with_reducible refine And.intro (fun _ => ?_) (fun _ => ?_) | with_reducible refine And.intro (by kernel_rfl) ?_)
  all_goals exact body_ret1 rfl (by simp only [wS, simprocAttr])
theorem or_20 : Pure Tryd.prog G0 20 [.sl true [[.int .i64 0], [.int .i64 0], [.int .i64 0], [.int .i64 0]]] (.int .i64 0) := pure_of_call 60 60 _ [] no_table hG0 (by kernel_rfl) (by kernel_rfl) (by kernel_rfl)
theorem func_22 (es : List T) (hl : es.length ≤ 1000000000000) (ih : ∀ e ∈ es, Pure Tryd.prog G0 9 [.agg (T.enc e), .agg (T.enc e)] (.int .i64 0)) : Pure Tryd.prog G0 22 [.sl false (T.encs es), .sl false (T.encs es), .fn (.func 9) [] []] (.int .i64 0) := by
  have hgt := fun (i : Nat) (e : T) => T.encs_get (es := es) (i := i) (e := e)
  have hln := T.encs_len es
  have hte := T.encs_tree es
  generalize T.encs es = EE at hgt hln hte
  refine pure_of_body hG0 Tryd.func22 rfl (by kernel_rfl) (by simp [Tryd.ntmps22]) (by simp only [inL, inR, hte, Bool.and_self]) rfl ?_
  simp only [Tryd.ntmps22, enterF, Nat.reduceAdd]
  repeat' (first | with_reducible (first | refine u'1 fun _ _ => ?_ | refine u'2 ?_ | (first | refine u'3 ?_ | refine u'4 ?_ | refine u'5 fun _ _ _ _ => ?_ | refine u'6 (fun hg => ?_) (fun hg => ?_) <;> try simp only [hg]) <;> simp only [wS, simprocAttr] | (first | refine u's ?_ | refine u'e ?_ | refine u'r ?_) <;> try simp only [wE, simprocAttr] | refine u'8 ?_ | refine u'9 ?_))
  refine awp_loop_r (α := {i : Nat // i ≤ es.length}) (fun i => [(0, .sl false EE), (1, .sl false EE), (2, .fn (.func 9) [] []), (11, .sl false EE), (12, .int .i64 (es.length : Nat)), (13, .int .i64 (i.1 : Nat))]) (fun i => []) (fun i => es.length - i.1) ⟨0, Nat.zero_le _⟩ (Weak.ref ⟨?_, .inl ?_⟩) ?_
  · simp only [wS, simprocAttr, hln]; try exact rfl
  · simp only [wS, simprocAttr]; try exact rfl
  · rintro ⟨i, hi⟩ K3 hK3
    repeat' (first | with_reducible (first | refine u'1 fun _ _ => ?_ | refine u'2 ?_ | (first | refine u'3 ?_ | refine u'4 ?_ | refine u'5 fun _ _ _ _ => ?_ | refine u'6 (fun hg => ?_) (fun hg => ?_) <;> try simp only [hg]) <;> simp only [wS, simprocAttr] | (first | refine u's ?_ | refine u'e ?_ | refine u'r ?_) <;> try simp only [wE, simprocAttr] | refine u'8 ?_ | refine u'9 ?_))
    refine ⟨fun h => ?_, fun h => ?_⟩
    · have hlt : i < es.length := by simpa using h
      have hltE : i < EE.length := by omega
      obtain ⟨e, he⟩ : ∃ e, es[i]? = some e := ⟨_, List.getElem?_eq_getElem hlt⟩
      have hg := hgt i e he
      have ke := ih e (List.mem_of_getElem? he)
      have e3 := wrap_succ (k := i) hlt (by omega)
      have hge : decide (((i : Nat) : Int) ≥ ((EE.length : Nat) : Int)) = false := by simp; omega
      have h0 : ((0 : Int) != 0) = false := rfl
      obtain ⟨ek, en, em, ees, hee⟩ : ∃ a b c d, T.enc e = [.int .i64 a, .int .i64 b, .int .i64 c, .sl false d] := by cases e; exact ⟨_, _, _, _, rfl⟩
      rw [hee] at hg ke
      repeat' (first | with_reducible (first | refine u'1 fun _ _ => ?_ | refine u'2 ?_ | (first | refine u'3 ?_ | refine u'4 ?_ | refine u'5 fun _ _ _ _ => ?_ | refine u'6 (fun hg => ?_) (fun hg => ?_) <;> try simp only [hg]) <;> simp only [wS, simprocAttr, hg, hltE, hlt, hge] | (first | refine u's ?_ | refine u'e ?_ | refine u'r ?_) <;> try simp only [wE, simprocAttr] | refine u'8 ?_ | refine u'9 ?_))
      refine callR_tree hG0 ke ?_
      simp only [wS, simprocAttr]
      repeat' (first | with_reducible (first | refine u'1 fun _ _ => ?_ | refine u'2 ?_ | (first | refine u'3 ?_ | refine u'4 ?_ | refine u'5 fun _ _ _ _ => ?_ | refine u'6 (fun hg => ?_) (fun hg => ?_) <;> try simp only [hg]) <;> simp only [wS, simprocAttr, h0, e3] | (first | refine u's ?_ | refine u'e ?_ | refine u'r ?_) <;> try simp only [wE, simprocAttr] | refine u'8 ?_ | refine u'9 ?_))
      refine hK3.go ⟨i + 1, hlt⟩ (Weak.ref ⟨?_, .inr ⟨Nat.zero_le _, ?_, fun g cs hg => inL_no (hG0 g cs hg), ?_, ?_⟩⟩) (by simp only; omega)
      · simp only [wS, simprocAttr]; try exact rfl
      · simp only [wS, simprocAttr]; try exact rfl
      · intro z hz
        simp only [List.mem_cons, List.not_mem_nil, or_false] at hz
        rcases hz with rfl | rfl | rfl | rfl | rfl | rfl <;> first | rfl | (simp only [inR]; exact inE_no hte)
      · rfl
    · have hge : i = es.length := by simp at h; omega
      have hnl : decide (((EE.length : Nat) : Int) < ((EE.length : Nat) : Int)) = false := by simp
      repeat' (first | with_reducible (first | refine u'1 fun _ _ => ?_ | refine u'2 ?_ | (first | refine u'3 ?_ | refine u'4 ?_ | refine u'5 fun _ _ _ _ => ?_ | refine u'6 (fun hg => ?_) (fun hg => ?_) <;> try simp only [hg]) <;> simp only [wS, simprocAttr, hnl] | (first | refine u's ?_ | refine u'e ?_ | refine u'r ?_) <;> try simp only [wE, simprocAttr] | refine u'8 ?_ | refine u'9 ?_))
      exact body_ret1 rfl (by simp only [wS, simprocAttr])
theorem self_9 : ∀ (N : Nat) (t : T), T.size t ≤ N → N ≤ 1000000000000 → Pure Tryd.prog G0 9 [.agg (T.enc t), .agg (T.enc t)] (.int .i64 0) := by
  intro N
  induction N with
  | zero => intro t h; have := T.size_pos t; omega
  | succ N ih =>
    intro t ht hN
    obtain ⟨k, n, m, es⟩ := t
    have htr := T.enc_tree (.mk k n m es)
    have hls := T.len_sizes es
    simp only [T.size] at ht
    have hf := func_22 es (by omega) fun e he => ih e (by have := T.size_mem he; omega) (by omega)
    have hk := cmp_21
    refine pure_of_body hG0 Tryd.func9 rfl (by kernel_rfl) (by simp [Tryd.ntmps9]) (by simp only [inL, inR, htr, Bool.and_self]) rfl ?_
    simp only [Tryd.ntmps9, enterF, Nat.reduceAdd, T.enc]
    generalize T.encs es = EE at hf
    repeat' (first | with_reducible (first | refine u'1 fun _ _ => ?_ | refine u'2 ?_ | (first | refine u'3 ?_ | refine u'4 ?_ | refine u'5 fun _ _ _ _ => ?_ | refine u'6 (fun hg => ?_) (fun hg => ?_) <;> try simp only [hg]) <;> simp only [wS, simprocAttr] | (first | refine u's ?_ | refine u'e ?_ | refine u'r ?_) <;> try simp only [wE, simprocAttr] | refine u'8 ?_ | refine u'9 ?_) | (refine callR_tree hG0 (hk _) ?_; simp only [wS, simprocAttr]) | (refine callR_tree hG0 (hf) ?_; simp only [wS, simprocAttr]) | (refine callR_tree hG0 (or_20) ?_; simp only [wS, simprocAttr]) | with_reducible refine And.intro (fun _ => ?_) (fun _ => ?_) | with_reducible refine And.intro (by kernel_rfl) ?_)
    all_goals exact body_ret1 rfl (by simp only [wS, simprocAttr])
end Go.Proofs.YtijakngaipdncaaDoor
