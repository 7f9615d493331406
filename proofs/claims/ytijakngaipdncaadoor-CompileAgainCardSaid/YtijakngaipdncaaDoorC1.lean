import Derived.Test.YtijakngaipdncaaDoorN1
set_option linter.unusedVariables false
set_option linter.unusedSimpArgs false
namespace Go.Proofs.YtijakngaipdncaaDoor
open Go.AM
attribute [local irreducible] AWp rgnS callR callV effR valR guardR stepR nextR
def chR (L : List Int) (a l : Int) : ARow := .cells 0 [encI L, .int .i64 a, .int .i64 l]
theorem chR_in (L : List Int) (a l : Int) (p : Nat → Bool) : rowIn p (chR L a l) = true := by
  simp only [chR, rowIn, inL, inR, inR_mono (p := noRef) (q := p) (fun r hr => by cases hr) (tree_encI L), Bool.and_self]
def QC (L : List Int) (f : FuncId) (more : List AV) (V : AV → Prop) : Prop := ∀ rows at0 left, rows 1 = chR L at0 left → EC Tryd.prog G0 f (.ptr 1 0 0 :: more) rows [1] (fun eff => ∃ v at1 left1, eff = ⟨v, [(1, chR L at1 left1)]⟩ ∧ V v ∧ inR noRef v = true)
theorem QC.imp {L : List Int} {f : FuncId} {more : List AV} {V W : AV → Prop} (h : QC L f more V) (hw : ∀ v, V v → W v) : QC L f more W := fun rows a l hr => by
  obtain ⟨eff, ⟨v, a1, l1, e, h1, h2⟩, hc⟩ := h rows a l hr
  exact ⟨eff, ⟨v, a1, l1, e, hw v h1, h2⟩, hc⟩
theorem eg_qc {n : Nat} {d : Option Tmp} {rest : List POp} {m : Option Acc} {s : AS} {ι : Type} {R : ι → Prop} {K : ι → Option Acc → AS → Prop} {L : List Int} {f : FuncId} {more : List AV} {V : AV → Prop} (h : QC L f more V) (at0 left : Int) (hr : s.row 1 = chR L at0 left)
    (hk : ∀ v at1 left1, V v → inR noRef v = true → EG R (fun i => rgnS Tryd.prog G0 n (K i) rest (adv m [1] [1]) ((s.wr [(1, chR L at1 left1)]).put d v))) : EG R (fun i => callR Tryd.prog G0 n (K i) d rest m s f (.ptr 1 0 0 :: more)) := by
  refine eg_call (h s.row at0 left hr) ?_
  rintro eff ⟨v, a1, l1, rfl, h1, h2⟩
  exact hk v a1 l1 h1 h2
theorem qc_of_body {L : List Int} {f : FuncId} {fn : Func} {c : Code} {more : List AV} {V : AV → Prop} (hf : Tryd.prog.funcs[f]? = some fn) (hb : fn.body = some c) (hgo : goFunc Tryd.prog f = true) (hn : more.length + 1 ≤ fn.ntmps) (hmore : inL noRef more = true)
    (hbody : ∀ at0 left, EG (fun i : AV × Int × Int => V i.1 ∧ inR noRef i.1 = true) (fun i => AWp Tryd.prog G0 fn.ntmps 2 c (bodyA Tryd.prog fn fun v s => v = i.1 ∧ s.row 1 = chR L i.2.1 i.2.2) ⟨mkF (enterF 0 (.ptr 1 0 0 :: more)), [.dead, chR L at0 left]⟩)) : QC L f more V := by
  intro rows at0 left h1
  have hcon : ∀ r, ([1] : List Nat).contains r = true → decide (r < 2) = true := fun r h => by simp at h ⊢; omega
  refine ec_of_body [.dead, chR L at0 left] hG0 hf hb hgo (by simpa using hn) ?_ ?_ ?_ ?_ ?_ ?_ ?_
  · intro r hr
    obtain rfl := List.mem_singleton.1 hr
    exact h1.symm
  · intro r hr
    match r, hr with
    | 0, _ => simp
    | 1, hr => exact absurd (by simp) hr
    | r + 2, _ => simp
  · simp only [inL, inR, List.length_cons, List.length_nil, Nat.reduceAdd, Nat.reduceLT, decide_true, Bool.true_and]
    exact inL_mono (p := noRef) (fun r hr => by cases hr) hmore
  · intro r hr
    obtain rfl := List.mem_singleton.1 hr
    rw [h1]; exact chR_in _ _ _ _
  · intro r hr h
    obtain rfl := List.mem_singleton.1 hr
    simp only [List.length_cons, List.length_nil] at h
    omega
  · rintro eff ⟨v, a1, l1, rfl, _⟩ p hp
    simp at hp
    subst hp
    simp
  · obtain ⟨i, ⟨i1, i2⟩, hw⟩ := hbody at0 left
    refine EG.of ⟨i.1, [(1, chR L i.2.1 i.2.2)]⟩ ⟨_, _, _, rfl, i1, i2⟩ (awp_mono hw fun e s q => ?_)
    have key : ∀ v, (v = i.1 ∧ s.row 1 = chR L i.2.1 i.2.2) → (v = (Eff.mk i.1 [(1, chR L i.2.1 i.2.2)]).val ∨ wk v = (Eff.mk i.1 [(1, chR L i.2.1 i.2.2)]).val) ∧ inR (fun r => ([1] : List Nat).contains r) v = true ∧ ∀ r ∈ ([1] : List Nat), s.row r = upd rows (Eff.mk i.1 [(1, chR L i.2.1 i.2.2)]).wr r ∧ rowIn (fun r => ([1] : List Nat).contains r) (s.row r) = true := by
      rintro v ⟨rfl, q1⟩
      refine ⟨.inl rfl, inR_mono (p := noRef) (fun r hr => by cases hr) i2, fun r hr => ?_⟩
      obtain rfl := List.mem_singleton.1 hr
      rw [q1]; exact ⟨by simp [upd_one], chR_in _ _ _ _⟩
    cases e with
    | normal => obtain ⟨v, g1, g2⟩ := q; exact ⟨v, g1, key v g2⟩
    | ret => obtain ⟨v, g1, g2⟩ := q; exact ⟨v, g1, key v g2⟩
    | exit id => exact q.elim
    | goto l => exact q.elim
    | panic ch => exact q.elim
    | outgrown => exact q.elim
theorem num_ok {L : List Int} (hL : ∀ x ∈ L, Small64 x) (n : Int) (hn : 0 < n) : QC L 14 [.int .i64 n] (VI 0 n) := by
  refine qc_of_body Tryd.func14 rfl (by kernel_rfl) (by simp [Tryd.ntmps14]) rfl fun at0 left => ?_
  simp only [Tryd.ntmps14, enterF, Nat.reduceAdd, chR]
  repeat' (first | with_reducible (first | refine v'1 fun _ _ => ?_ | refine v'2 ?_ | (first | refine v'3 ?_ | refine v'4 ?_ | refine v'5 fun _ _ _ _ => ?_ | refine v'6 (fun hg => ?_) (fun hg => ?_) <;> try simp only [hg]) <;> simp only [wS, simprocAttr] | (first | refine v's ?_ | refine v'e ?_ | refine v'r ?_) <;> try simp only [wE, simprocAttr] | refine v'8 ?_ | refine v'9 ?_))
  refine eg_tree hG0 (at_22 L _ n hL (by omega)) ?_
  simp only [wS, simprocAttr]
  repeat' (first | with_reducible (first | refine v'1 fun _ _ => ?_ | refine v'2 ?_ | (first | refine v'3 ?_ | refine v'4 ?_ | refine v'5 fun _ _ _ _ => ?_ | refine v'6 (fun hg => ?_) (fun hg => ?_) <;> try simp only [hg]) <;> simp only [wS, simprocAttr] | (first | refine v's ?_ | refine v'e ?_ | refine v'r ?_) <;> try simp only [wE, simprocAttr] | refine v'8 ?_ | refine v'9 ?_))
  refine eg_ret1 rfl ?_
  refine EG.of (?v_0, ?a_0, ?l_0) ⟨?hV_0, ?hi_0⟩ ⟨?hv_0, ?g1_0⟩
  case hv_0 => simp only [wS, simprocAttr, chR]; exact rfl
  case g1_0 => simp only [wS, simprocAttr, chR]; exact rfl
  case hV_0 => exact ⟨_, rfl, atS_b L _ n hn⟩
  case hi_0 => exact rfl
end Go.Proofs.YtijakngaipdncaaDoor
