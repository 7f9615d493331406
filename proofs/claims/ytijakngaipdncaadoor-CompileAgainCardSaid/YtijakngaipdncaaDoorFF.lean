import Derived.Test.YtijakngaipdncaaDoorF8
import Derived.Test.YtijakngaipdncaaDoorFE
set_option linter.unusedVariables false
set_option linter.unusedSimpArgs false
namespace Go.Proofs.YtijakngaipdncaaDoor
open Go.AM
attribute [local irreducible] AWp rgnS callR callV effR valR guardR stepR nextR
set_option maxRecDepth 100000
theorem fold_8 (t : T) (h : T.size t ≤ 100000000000) : Pure Tryd.prog G0 8 [.agg (T.enc t)] (.agg (T.enc (T.fold oC oV t).1)) := by
  have htr := T.enc_tree t
  have hto := T.enc_tree (T.fold oC oV t).1
  have h1 := mark_17 100000000000 t 0 h (by decide) (by decide) (by omega)
  have h2 := fold_18 100000000000 t 0 h (by decide)
  have hz : Mk.size (Mk.fold oC oV (Mk.mark t 0)) ≤ 100000000000 := by
    rw [← Mk.size_plain, Mk.plain_fold]
    have := T.size_fold oC oV t
    omega
  have h3 := plain_19 100000000000 _ hz (by decide)
  rw [Mk.plain_fold] at h3
  rw [enc_mk (Mk.mark t 0)] at h1 h2
  obtain ⟨a, b, c, d, he⟩ : ∃ a b c d, T.enc t = [.int .i64 a, .int .i64 b, .int .i64 c, .sl false d] := by cases t; exact ⟨_, _, _, _, rfl⟩
  obtain ⟨a', b', c', d', he'⟩ : ∃ a b c d, T.enc (T.fold oC oV t).1 = [.int .i64 a, .int .i64 b, .int .i64 c, .sl false d] := by
    generalize (T.fold oC oV t).1 = t'
    cases t'; exact ⟨_, _, _, _, rfl⟩
  rw [he] at h1 htr ⊢
  rw [he'] at h3 hto ⊢
  refine pure_of_body hG0 Tryd.func8 rfl (by kernel_rfl) (by simp [Tryd.ntmps8]) (by simpa only [inL, inR, Bool.and_true] using htr) (by simpa only [inR] using hto) ?_
  simp only [Tryd.ntmps8, enterF, Nat.reduceAdd]
  repeat' (first | with_reducible (first | refine u'1 fun _ _ => ?_ | refine u'2 ?_ | (first | refine u'3 ?_ | refine u'4 ?_ | refine u'5 fun _ _ _ _ => ?_ | refine u'6 (fun hg => ?_) (fun hg => ?_) <;> try simp only [hg]) <;> simp only [wS, simprocAttr] | (first | refine u's ?_ | refine u'e ?_ | refine u'r ?_) <;> try simp only [wE, simprocAttr] | refine u'8 ?_ | refine u'9 ?_) | (refine callR_tree hG0 (h1) ?_; simp only [wS, simprocAttr]) | (refine callR_tree hG0 (h2) ?_; simp only [wS, simprocAttr]) | (refine callR_tree hG0 (h3) ?_; simp only [wS, simprocAttr]) | with_reducible refine And.intro (fun _ => ?_) (fun _ => ?_) | with_reducible refine And.intro (by kernel_rfl) ?_)
  exact body_retC rfl (by simp only [wS, simprocAttr]; try exact rfl) rfl
end Go.Proofs.YtijakngaipdncaaDoor
