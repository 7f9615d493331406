import Derived.Test.YtijakngaipdncaaDoorC1
set_option linter.unusedVariables false
set_option linter.unusedSimpArgs false
namespace Go.Proofs.YtijakngaipdncaaDoor
open Go.AM
attribute [local irreducible] AWp rgnS callR callV effR valR guardR stepR nextR
set_option maxRecDepth 100000
theorem kids0 {D : Nat} : ∀ e ∈ ([] : List (List AV)), NodeV D e := fun e he => by cases he
theorem kids1 {D : Nat} {a : List AV} (ha : NodeV D a) : ∀ e ∈ [a], NodeV D e := fun e he => List.mem_singleton.1 he ▸ ha
theorem kids2 {D : Nat} {a b : List AV} (ha : NodeV D a) (hb : NodeV D b) : ∀ e ∈ [a, b], NodeV D e := fun e he => by
  rcases List.mem_cons.1 he with rfl | he
  · exact ha
  · exact kids1 hb e he
theorem kids3 {D : Nat} {a b c : List AV} (ha : NodeV D a) (hb : NodeV D b) (hc : NodeV D c) : ∀ e ∈ [a, b, c], NodeV D e := fun e he => by
  rcases List.mem_cons.1 he with rfl | he
  · exact ha
  · exact kids2 hb hc e he
theorem eg_finC {L : List Int} {a l : Int} {D : Nat} {fn : Func} {s : AS} {t : Tmp} {ty : TypeId} {v : AV} (h : fn.results = #[.cell t ty]) (hl : aLoad Tryd.prog ty (s.get t) s.row = some v) (hg : s.row 1 = chR L a l) (hV : VN D v) :
    EG (fun i : AV × Int × Int => VN D i.1 ∧ inR noRef i.1 = true) (fun i => bodyA Tryd.prog fn (fun v s => v = i.1 ∧ s.row 1 = chR L i.2.1 i.2.2) .ret s) := eg_retC h hl (EG.of (v, a, l) ⟨hV, hV.tree⟩ ⟨rfl, hg⟩)
def VL (w D : Nat) (v : AV) : Prop := ∃ b es, v = .sl b es ∧ es.length ≤ w ∧ ∀ e ∈ es, NodeV D e
set_option maxHeartbeats 4000000 in
theorem kind_ok {L : List Int} (hL : ∀ x ∈ L, Small64 x) : QC L 15 [] (VN 2) := by
  refine qc_of_body Tryd.func15 rfl (by kernel_rfl) (by simp [Tryd.ntmps15]) rfl fun at0 left => ?_
  simp only [Tryd.ntmps15, enterF, Nat.reduceAdd]
  repeat' (first | with_reducible (first | refine v'1 fun _ _ => ?_ | refine v'2 ?_ | (first | refine v'3 ?_ | refine v'4 ?_ | refine v'5 fun _ _ _ _ => ?_ | refine v'6 (fun hg => ?_) (fun hg => ?_) <;> try simp only [hg]) <;> simp only [wS, simprocAttr, chR] | (first | refine v's ?_ | refine v'e ?_ | refine v'r ?_) <;> try simp only [wE, simprocAttr] | refine v'8 ?_ | refine v'9 ?_) | (refine eg_qc (num_ok hL _ (by decide)) _ _ (by simp only [wS, simprocAttr, chR]; try exact rfl) ?_; rintro _ _ _ ⟨z, rfl, hz1, hz2⟩ -; simp only [wS, simprocAttr, chR]) | refine eg_split (fun _ => ?_) (fun _ => ?_))
  all_goals
    refine eg_finC rfl (by simp only [wS, simprocAttr]; exact rfl) (by simp only [wS, simprocAttr, chR]; exact rfl) ⟨_, rfl, .mk (d := 1) (hd := by decide) _ _ _ _ _ (by first | assumption | omega | simp) (by first | exact kids0 | exact kids1 (by first | assumption | exact (leafV _ _ _ _).up (by decide) | exact NodeV.up (by assumption) (by decide)) | exact kids2 (by first | assumption | exact (leafV _ _ _ _).up (by decide) | exact NodeV.up (by assumption) (by decide)) (by first | assumption | exact (leafV _ _ _ _).up (by decide) | exact NodeV.up (by assumption) (by decide)) | exact kids3 (by first | assumption | exact (leafV _ _ _ _).up (by decide) | exact NodeV.up (by assumption) (by decide)) (by first | assumption | exact (leafV _ _ _ _).up (by decide) | exact NodeV.up (by assumption) (by decide)) (by first | assumption | exact (leafV _ _ _ _).up (by decide) | exact NodeV.up (by assumption) (by decide)) | assumption)⟩
end Go.Proofs.YtijakngaipdncaaDoor
