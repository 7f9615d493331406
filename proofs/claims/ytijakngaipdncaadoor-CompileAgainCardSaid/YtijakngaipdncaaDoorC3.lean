import Derived.Test.YtijakngaipdncaaDoorC2
import Derived.Test.YtijakngaipdncaaDoorN4
set_option linter.unusedVariables false
set_option linter.unusedSimpArgs false
namespace Go.Proofs.YtijakngaipdncaaDoor
open Go.AM
attribute [local irreducible] AWp rgnS callR callV effR valR guardR stepR nextR
set_option maxRecDepth 100000
theorem VL.tree {w D : Nat} {v : AV} (h : VL w D v) : inR noRef v = true := by
  obtain ⟨b, es, rfl, _, hes⟩ := h
  simp only [inR]; exact nodes_tree hes
theorem eg_finQ {L : List Int} {a l : Int} {V : AV → Prop} {fn : Func} {s : AS} {t : Tmp} {v : AV} (h : fn.results = #[.tmp t]) (hl : s.get t = v) (hg : s.row 1 = chR L a l) (hV : V v) (hi : inR noRef v = true) :
    EG (fun i : AV × Int × Int => V i.1 ∧ inR noRef i.1 = true) (fun i => bodyA Tryd.prog fn (fun v s => v = i.1 ∧ s.row 1 = chR L i.2.1 i.2.2) .ret s) := eg_ret1 h (EG.of (v, a, l) ⟨hV, hi⟩ ⟨hl, hg⟩)
set_option maxHeartbeats 4000000 in
theorem some_ok {L : List Int} (hL : ∀ x ∈ L, Small64 x) {D : Nat} (depth : Int) (hd1 : -1000 < depth) (hd2 : depth < 1000) (hE : QC L 42 [.int .i64 (depth - 1)] (VN D)) : QC L 43 [.int .i64 3, .int .i64 depth] (VL 3 D) := by
  have ed : IntKind.i64.wrap (depth - 1) = depth - 1 := wrap_small (by omega) (by omega)
  refine qc_of_body Tryd.func43 rfl (by kernel_rfl) (by simp [Tryd.ntmps43]) rfl fun at0 left => ?_
  simp only [Tryd.ntmps43, enterF, Nat.reduceAdd]
  repeat' (first | with_reducible (first | refine v'1 fun _ _ => ?_ | refine v'2 ?_ | (first | refine v'3 ?_ | refine v'4 ?_ | refine v'5 fun _ _ _ _ => ?_ | refine v'6 (fun hg => ?_) (fun hg => ?_) <;> try simp only [hg]) <;> simp only [wS, simprocAttr] | (first | refine v's ?_ | refine v'e ?_ | refine v'r ?_) <;> try simp only [wE, simprocAttr] | refine v'8 ?_ | refine v'9 ?_))
  refine eg_qc (num_ok hL 4 (by decide)) at0 left (by simp only [wS, simprocAttr, chR]; try exact rfl) ?_
  rintro _ a1 l1 ⟨z, rfl, hz1, hz2⟩ -
  simp only [wS, simprocAttr]
  repeat' (first | with_reducible (first | refine v'1 fun _ _ => ?_ | refine v'2 ?_ | (first | refine v'3 ?_ | refine v'4 ?_ | refine v'5 fun _ _ _ _ => ?_ | refine v'6 (fun hg => ?_) (fun hg => ?_) <;> try simp only [hg]) <;> simp only [wS, simprocAttr] | (first | refine v's ?_ | refine v'e ?_ | refine v'r ?_) <;> try simp only [wE, simprocAttr] | refine v'8 ?_ | refine v'9 ?_))
  refine eg_loop_k (α := {p : List (List AV) × Int × Int // p.1.length ≤ 3 ∧ ∀ e ∈ p.1, NodeV D e}) (fun p => [(0, .ptr 1 0 0), (1, .int .i64 3), (2, .int .i64 depth), (7, accV [] 2 4 p.1.1), (8, .int .i64 z), (9, .int .i64 (p.1.1.length : Nat))]) (fun p => accH [.dead, chR L p.1.2.1 p.1.2.2] [] p.1.1) (fun p => 3 - p.1.1.length) ⟨([], a1, l1), by simp, by simp⟩ (Weak.ref ⟨?_, .inl ?_⟩) ?_
  · simp only [wS, simprocAttr, accV_nil]; try exact rfl
  · simp only [wS, simprocAttr, accH, if_true]; try exact rfl
  · rintro ⟨⟨app, a2, l2⟩, hl, hn⟩ K3 hK3
    simp only at hl hn
    repeat' (first | with_reducible (first | refine v'1 fun _ _ => ?_ | refine v'2 ?_ | (first | refine v'3 ?_ | refine v'4 ?_ | refine v'5 fun _ _ _ _ => ?_ | refine v'6 (fun hg => ?_) (fun hg => ?_) <;> try simp only [hg]) <;> simp only [wS, simprocAttr, accH_old] | (first | refine v's ?_ | refine v'e ?_ | refine v'r ?_) <;> try simp only [wE, simprocAttr] | refine v'8 ?_ | refine v'9 ?_))
    refine eg_split (fun h => ?_) (fun h => ?_)
    · have hlt : app.length < 3 := by simp at h; omega
      repeat' (first | with_reducible (first | refine v'1 fun _ _ => ?_ | refine v'2 ?_ | (first | refine v'3 ?_ | refine v'4 ?_ | refine v'5 fun _ _ _ _ => ?_ | refine v'6 (fun hg => ?_) (fun hg => ?_) <;> try simp only [hg]) <;> simp only [wS, simprocAttr, accH_old, ed] | (first | refine v's ?_ | refine v'e ?_ | refine v'r ?_) <;> try simp only [wE, simprocAttr] | refine v'8 ?_ | refine v'9 ?_))
      refine eg_qc hE a2 l2 (by simp only [wS, simprocAttr, accH_old]; try exact rfl) ?_
      rintro _ a3 l3 ⟨c, rfl, hc⟩ -
      obtain ⟨k1, n1, m1, b1, es1, rfl⟩ := node_ex hc
      simp only [wS, simprocAttr, accH_hset, accH_old]
      refine EG.mono (fun i h => eff_acc (H := [.dead, chR L a3 l3]) (base := []) (app := app) (e := [.int .i64 k1, .int .i64 n1, .int .i64 m1, .sl b1 es1]) (by' := 48) (by kernel_rfl) rfl (upd_acc (by simp)) rfl (fun e he => (hn e (by simpa using he)).len) (by simp [srcA]) (by simp only [List.length_nil]; omega) h) ?_
      have e3 := wrap_succ (k := app.length) hlt (by omega)
      have hac := accH_snoc [.dead, chR L a3 l3] [] app [.int .i64 k1, .int .i64 n1, .int .i64 m1, .sl b1 es1]
      simp only [List.length_cons, List.length_nil, Nat.reduceAdd] at hac
      simp only [wS, simprocAttr]
      repeat' (first | with_reducible (first | refine v'1 fun _ _ => ?_ | refine v'2 ?_ | (first | refine v'3 ?_ | refine v'4 ?_ | refine v'5 fun _ _ _ _ => ?_ | refine v'6 (fun hg => ?_) (fun hg => ?_) <;> try simp only [hg]) <;> simp only [wS, simprocAttr, e3] | (first | refine v's ?_ | refine v'e ?_ | refine v'r ?_) <;> try simp only [wE, simprocAttr] | refine v'8 ?_ | refine v'9 ?_))
      refine hK3 _ ⟨(app ++ [[.int .i64 k1, .int .i64 n1, .int .i64 m1, .sl b1 es1]], a3, l3), by simp; omega, fun e he => by
        rcases List.mem_append.1 he with he | he
        · exact hn e he
        · rw [List.mem_singleton.1 he]; exact hc⟩ (Weak.ref ⟨?_, .inl ?_⟩) (by simp; omega)
      · simp only [wS, simprocAttr, List.length_append, List.length_singleton]; try exact rfl
      · simp only [wS, simprocAttr, accH_hset, hac]; try exact rfl
    · repeat' (first | with_reducible (first | refine v'1 fun _ _ => ?_ | refine v'2 ?_ | (first | refine v'3 ?_ | refine v'4 ?_ | refine v'5 fun _ _ _ _ => ?_ | refine v'6 (fun hg => ?_) (fun hg => ?_) <;> try simp only [hg]) <;> simp only [wS, simprocAttr] | (first | refine v's ?_ | refine v'e ?_ | refine v'r ?_) <;> try simp only [wE, simprocAttr] | refine v'9 ?_))
      refine ContE.go (by assumption) (eg_ref (ref_acc (H := [.dead, chR L a2 l2]) (sz := 4) (t := 7) (app := app) [(0, .ptr 1 0 0)] (by simp) ?_ ?_ (fun e he => (hn e he).len) (nodes_tree hn) ?_ (by simp [inR]) (by simp only [List.all_cons, List.all_nil, chR_in, Bool.and_true]; rfl)) ?_)
      · simp only [wS, simprocAttr]; try exact rfl
      · simp only [wS, simprocAttr]; try exact rfl
      · simp only [wS, simprocAttr]; try exact rfl
      repeat' (first | with_reducible (first | refine v'1 fun _ _ => ?_ | refine v'2 ?_ | (first | refine v'3 ?_ | refine v'4 ?_ | refine v'5 fun _ _ _ _ => ?_ | refine v'6 (fun hg => ?_) (fun hg => ?_) <;> try simp only [hg]) <;> simp only [wS, simprocAttr] | (first | refine v's ?_ | refine v'e ?_ | refine v'r ?_) <;> try simp only [wE, simprocAttr] | refine v'8 ?_ | refine v'9 ?_))
      refine eg_finQ (V := VL 3 D) rfl (by simp only [wS, simprocAttr]; exact rfl) (by simp only [wS, simprocAttr]; exact rfl) ⟨_, _, rfl, hl, hn⟩ (by simp only [inR]; exact nodes_tree hn)
end Go.Proofs.YtijakngaipdncaaDoor
