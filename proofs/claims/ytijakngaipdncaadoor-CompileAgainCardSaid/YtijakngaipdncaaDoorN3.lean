import Derived.Test.YtijakngaipdncaaDoorN2
set_option linter.unusedVariables false
set_option linter.unusedSimpArgs false
namespace Go.Proofs.YtijakngaipdncaaDoor
open Go.AM
attribute [local irreducible] AWp rgnS callR callV effR valR guardR stepR nextR
set_option maxRecDepth 100000
set_option maxHeartbeats 4000000 in
theorem leaf_ok {x : MX} (hx : x.ok) (kind : Int) : MC x 73 [.int .i64 kind] (VN 1) := by
  obtain ⟨r, f, hva⟩ := vars_ok hx
  have t0 : True := trivial
  refine mc_of_body hx.fr Tryd.func73 rfl (by kernel_rfl) (by simp [Tryd.ntmps73]) rfl fun at0 left => ?_
  simp only [Tryd.ntmps73, enterF, Nat.reduceAdd, MX.row]
  repeat' (first | with_reducible (first | refine v'1 fun _ _ => ?_ | refine v'2 ?_ | (first | refine v'3 ?_ | refine v'4 ?_ | refine v'5 fun _ _ _ _ => ?_ | refine v'6 (fun hg => ?_) (fun hg => ?_) <;> try simp only [hg]) <;> simp only [wS, simprocAttr, MX.row, t0] | (first | refine v's ?_ | refine v'e ?_ | refine v'r ?_) <;> try simp only [wE, simprocAttr] | refine v'8 ?_ | refine v'9 ?_) | (refine eg_mc (draw_ok hx.fr 10 (by decide)) _ _ (by refine ⟨?_, ?_, ?_, ?_, ?_⟩ <;> ((try simp only [wS, simprocAttr, MX.row]); try exact rfl)) ?_; rintro _ _ _ ⟨z, rfl, hz1, hz2⟩ -; obtain ⟨j, rfl⟩ : ∃ j : Nat, z = j := ⟨z.toNat, (Int.toNat_of_nonneg hz1).symm⟩; obtain ⟨y, t0⟩ : ∃ y, ([[AV.int .i64 0], [AV.int .i64 1], [AV.int .i64 2], [AV.int .i64 3], [AV.int .i64 (-1)], [AV.int .i64 7], [AV.int .i64 (-8)], [AV.int .i64 5], [AV.int .i64 4], [AV.int .i64 (-3)]] : List (List AV))[j]? = some [AV.int .i64 y] := tabG (l := [0, 1, 2, 3, -1, 7, -8, 5, 4, -3]) (Int.ofNat_lt.1 hz2); simp only [wS, simprocAttr, MX.row, t0]) | (refine eg_mc (draw_ok hx.fr _ (by decide)) _ _ (by refine ⟨?_, ?_, ?_, ?_, ?_⟩ <;> ((try simp only [wS, simprocAttr, MX.row]); try exact rfl)) ?_; rintro _ _ _ ⟨z, rfl, hz1, hz2⟩ -; simp only [wS, simprocAttr, MX.row]) | (refine eg_mc (pick_ok hx _ hva) _ _ (by refine ⟨?_, ?_, ?_, ?_, ?_⟩ <;> ((try simp only [wS, simprocAttr, MX.row]); try exact rfl)) ?_; rintro _ _ _ ⟨y, rfl, hy1, hy2⟩ -; simp only [wS, simprocAttr, MX.row]) | (refine eg_mc (node_ok hx.fr _ _ _ _ (by first | assumption | simp) (by first | exact nones | exact ones (by assumption) | exact twos (by assumption) (by assumption) | exact threes (by assumption) (by assumption) (by assumption) | assumption)) _ _ (by refine ⟨?_, ?_, ?_, ?_, ?_⟩ <;> ((try simp only [wS, simprocAttr, MX.row]); try exact rfl)) ?_; rintro _ _ _ ⟨rfl, hn⟩ -; simp only [wS, simprocAttr, MX.row]) | with_reducible refine eg_split (fun _ => ?_) (fun _ => ?_) | with_reducible refine eg_and (by kernel_rfl) ?_)
  all_goals refine eg_finM rfl (by simp only [wS, simprocAttr]; try exact rfl) (by refine ⟨?_, ?_, ?_, ?_, ?_⟩ <;> ((try simp only [wS, simprocAttr, MX.row]); try exact rfl)) ⟨_, rfl, by first | exact NodeV.up (by assumption) (by omega) | exact NodeV.up (NodeV.setM (by assumption)) (by omega)⟩
theorem funs_ok {x : MX} (hx : x.ok) : ∃ n vP bP c3, x.kv = .osl 3 vP 0 n 4 bP ∧ x.A3 = .cells vP c3 ∧ c3.length = n * 4 ∧ 1 ≤ n ∧ n ≤ 3 ∧ ∀ f, f < n → ∃ r fn tl, fn.wf ∧ at245 x r fn ∧ c3.drop (f * 4) = fn.cells r ++ tl := by
  obtain ⟨L, pk, pn, pm, F, kv, con, A2, A3, A4, A5⟩ := x
  obtain ⟨hL, hcn, hP⟩ := hx
  simp only at hP
  cases hP with
  | one f0 vP bP _ _ wf0 hF _ _ =>
    refine ⟨1, vP, bP, _, rfl, rfl, rfl, by decide, by decide, fun f hf => ?_⟩
    obtain rfl : f = 0 := by omega
    exact ⟨2, f0, [], wf0, .inl ⟨rfl, rfl⟩, by simp [Fn.cells]⟩
  | two f0 f1 vP bP _ wf0 wf1 hF _ =>
    refine ⟨2, vP, bP, _, rfl, rfl, rfl, by decide, by decide, fun f hf => ?_⟩
    match f, hf with
    | 0, _ => exact ⟨2, f0, f1.cells 4, wf0, .inl ⟨rfl, rfl⟩, by simp [Fn.cells]⟩
    | 1, _ => exact ⟨4, f1, [], wf1, .inr (.inl ⟨rfl, rfl⟩), by simp [Fn.cells]⟩
  | three f0 f1 f2 vP bP wf0 wf1 wf2 hF =>
    refine ⟨3, vP, bP, _, rfl, rfl, rfl, by decide, by decide, fun f hf => ?_⟩
    match f, hf with
    | 0, _ => exact ⟨2, f0, f1.cells 4 ++ f2.cells 5, wf0, .inl ⟨rfl, rfl⟩, by simp [Fn.cells]⟩
    | 1, _ => exact ⟨4, f1, f2.cells 5, wf1, .inr (.inl ⟨rfl, rfl⟩), by simp [Fn.cells]⟩
    | 2, _ => exact ⟨5, f2, [], wf2, .inr (.inr ⟨rfl, rfl⟩), by simp [Fn.cells]⟩
end Go.Proofs.YtijakngaipdncaaDoor
