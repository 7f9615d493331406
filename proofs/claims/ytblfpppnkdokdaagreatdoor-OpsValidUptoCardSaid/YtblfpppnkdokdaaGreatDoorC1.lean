import Derived.Test.YtblfpppnkdokdaaGreatDoorN1
import Derived.Test.YtblfpppnkdokdaaGreatDoorN4
set_option linter.unusedVariables false
set_option linter.unusedSimpArgs false
namespace Go.Proofs.YtblfpppnkdokdaaGreatDoor
open Go.AM
attribute [local irreducible] AWp rgnS callR callV effR valR guardR stepR nextR
def chR (L : List Int) (a l : Int) : ARow := .cells 0 [encI L, .int .i64 a, .int .i64 l]
theorem chR_in (L : List Int) (a l : Int) (p : Nat → Bool) : rowIn p (chR L a l) = true := by
  simp only [chR, rowIn, inL, inR, inR_mono (p := noRef) (q := p) (fun r hr => by cases hr) (tree_encI L), Bool.and_self]
def QC (L : List Int) (f : FuncId) (more : List AV) (V : AV → Prop) : Prop := ∀ rows at0 left, rows 1 = chR L at0 left → EC Tryz.prog G0 f (.ptr 1 0 0 :: more) rows [1] (fun eff => ∃ v at1 left1, eff = ⟨v, [(1, chR L at1 left1)]⟩ ∧ V v ∧ inR noRef v = true)
theorem QC.imp {L : List Int} {f : FuncId} {more : List AV} {V W : AV → Prop} (h : QC L f more V) (hw : ∀ v, V v → W v) : QC L f more W := fun rows a l hr => by
  obtain ⟨eff, ⟨v, a1, l1, e, h1, h2⟩, hc⟩ := h rows a l hr
  exact ⟨eff, ⟨v, a1, l1, e, hw v h1, h2⟩, hc⟩
theorem eg_qc {n : Nat} {d : Option Tmp} {rest : List POp} {m : Option Acc} {s : AS} {ι : Type} {R : ι → Prop} {K : ι → Option Acc → AS → Prop} {L : List Int} {f : FuncId} {more : List AV} {V : AV → Prop} (h : QC L f more V) (at0 left : Int) (hr : s.row 1 = chR L at0 left)
    (hk : ∀ v at1 left1, V v → inR noRef v = true → EG R (fun i => rgnS Tryz.prog G0 n (K i) rest (adv m [1] [1]) ((s.wr [(1, chR L at1 left1)]).put d v))) : EG R (fun i => callR Tryz.prog G0 n (K i) d rest m s f (.ptr 1 0 0 :: more)) := by
  refine eg_call (h s.row at0 left hr) ?_
  rintro eff ⟨v, a1, l1, rfl, h1, h2⟩
  exact hk v a1 l1 h1 h2
theorem qc_of_body {L : List Int} {f : FuncId} {fn : Func} {c : Code} {more : List AV} {V : AV → Prop} (hf : Tryz.prog.funcs[f]? = some fn) (hb : fn.body = some c) (hgo : goFunc Tryz.prog f = true) (hn : more.length + 1 ≤ fn.ntmps) (hmore : inL noRef more = true)
    (hbody : ∀ at0 left, EG (fun i : AV × Int × Int => V i.1 ∧ inR noRef i.1 = true) (fun i => AWp Tryz.prog G0 fn.ntmps 2 c (bodyA Tryz.prog fn fun v s => v = i.1 ∧ s.row 1 = chR L i.2.1 i.2.2) ⟨mkF (enterF 0 (.ptr 1 0 0 :: more)), [.dead, chR L at0 left]⟩)) : QC L f more V := by
  intro rows at0 left h1
  have hcon : ∀ r, ([1] : List Nat).contains r = true → decide (r < 2) = true := fun r h => by simp at h ⊢; omega
  refine ec_of_body [.dead, chR L at0 left] hG0 hf hb hgo (by simpa using hn) ?_ ?_ ?_ ?_ ?_ ?_ ?_
  · intro r hr
    obtain rfl := List.mem_singleton.1 hr
    exact h1.symm
  · intro r hr
    match r, hr with
    | 0, _ => simp
    | 1, hr => exact absurd (by simp) hr
    | r + 2, _ => simp
  · simp only [inL, inR, List.length_cons, List.length_nil, Nat.reduceAdd, Nat.reduceLT, decide_true, Bool.true_and]
    exact inL_mono (p := noRef) (fun r hr => by cases hr) hmore
  · intro r hr
    obtain rfl := List.mem_singleton.1 hr
    rw [h1]; exact chR_in _ _ _ _
  · intro r hr h
    obtain rfl := List.mem_singleton.1 hr
    simp only [List.length_cons, List.length_nil] at h
    omega
  · rintro eff ⟨v, a1, l1, rfl, _⟩ p hp
    simp at hp
    subst hp
    simp
  · obtain ⟨i, ⟨i1, i2⟩, hw⟩ := hbody at0 left
    refine EG.of ⟨i.1, [(1, chR L i.2.1 i.2.2)]⟩ ⟨_, _, _, rfl, i1, i2⟩ (awp_mono hw fun e s q => ?_)
    have key : ∀ v, (v = i.1 ∧ s.row 1 = chR L i.2.1 i.2.2) → (v = (Eff.mk i.1 [(1, chR L i.2.1 i.2.2)]).val ∨ wk v = (Eff.mk i.1 [(1, chR L i.2.1 i.2.2)]).val) ∧ inR (fun r => ([1] : List Nat).contains r) v = true ∧ ∀ r ∈ ([1] : List Nat), s.row r = upd rows (Eff.mk i.1 [(1, chR L i.2.1 i.2.2)]).wr r ∧ rowIn (fun r => ([1] : List Nat).contains r) (s.row r) = true := by
      rintro v ⟨rfl, q1⟩
      refine ⟨.inl rfl, inR_mono (p := noRef) (fun r hr => by cases hr) i2, fun r hr => ?_⟩
      obtain rfl := List.mem_singleton.1 hr
      rw [q1]; exact ⟨by simp [upd_one], chR_in _ _ _ _⟩
    cases e with
    | normal => obtain ⟨v, g1, g2⟩ := q; exact ⟨v, g1, key v g2⟩
    | ret => obtain ⟨v, g1, g2⟩ := q; exact ⟨v, g1, key v g2⟩
    | exit id => exact q.elim
    | goto l => exact q.elim
    | panic ch => exact q.elim
    | outgrown => exact q.elim
theorem num_ok {L : List Int} (hL : ∀ x ∈ L, Small64 x) (n : Int) (hn : 0 < n) : QC L 34 [.int .i64 n] (VI 0 n) := by
  refine qc_of_body Tryz.func34 rfl (by kernel_rfl) (by simp [Tryz.ntmps34]) rfl fun at0 left => ?_
  simp only [Tryz.ntmps34, enterF, Nat.reduceAdd, chR]
  repeat' (first | with_reducible (first | refine v'1 fun _ _ => ?_ | refine v'2 ?_ | (first | refine v'3 ?_ | refine v'4 ?_ | refine v'5 fun _ _ _ _ => ?_ | refine v'6 (fun hg => ?_) (fun hg => ?_) <;> try simp only [hg]) <;> simp only [wS, simprocAttr] | (first | refine v's ?_ | refine v'e ?_ | refine v'r ?_) <;> try simp only [wE, simprocAttr] | refine v'8 ?_ | refine v'9 ?_))
  refine eg_tree hG0 (at_22 L _ n hL (by omega)) ?_
  simp only [wS, simprocAttr]
  repeat' (first | with_reducible (first | refine v'1 fun _ _ => ?_ | refine v'2 ?_ | (first | refine v'3 ?_ | refine v'4 ?_ | refine v'5 fun _ _ _ _ => ?_ | refine v'6 (fun hg => ?_) (fun hg => ?_) <;> try simp only [hg]) <;> simp only [wS, simprocAttr] | (first | refine v's ?_ | refine v'e ?_ | refine v'r ?_) <;> try simp only [wE, simprocAttr] | refine v'8 ?_ | refine v'9 ?_))
  refine eg_ret1 rfl ?_
  refine EG.of (?v_0, ?a_0, ?l_0) ⟨?hV_0, ?hi_0⟩ ⟨?hv_0, ?g1_0⟩
  case hv_0 => simp only [wS, simprocAttr, chR]; exact rfl
  case g1_0 => simp only [wS, simprocAttr, chR]; exact rfl
  case hV_0 => exact ⟨_, rfl, atS_b L _ n hn⟩
  case hi_0 => exact rfl
end Go.Proofs.YtblfpppnkdokdaaGreatDoor
set_option linter.unusedVariables false
set_option linter.unusedSimpArgs false
namespace Go.Proofs.YtblfpppnkdokdaaGreatDoor
open Go.AM
attribute [local irreducible] AWp rgnS callR callV effR valR guardR stepR nextR
set_option maxRecDepth 100000
theorem kids0 {D : Nat} : ∀ e ∈ ([] : List (List AV)), NodeV D e := fun e he => by cases he
theorem kids1 {D : Nat} {a : List AV} (ha : NodeV D a) : ∀ e ∈ [a], NodeV D e := fun e he => List.mem_singleton.1 he ▸ ha
theorem kids2 {D : Nat} {a b : List AV} (ha : NodeV D a) (hb : NodeV D b) : ∀ e ∈ [a, b], NodeV D e := fun e he => by
  rcases List.mem_cons.1 he with rfl | he
  · exact ha
  · exact kids1 hb e he
theorem kids3 {D : Nat} {a b c : List AV} (ha : NodeV D a) (hb : NodeV D b) (hc : NodeV D c) : ∀ e ∈ [a, b, c], NodeV D e := fun e he => by
  rcases List.mem_cons.1 he with rfl | he
  · exact ha
  · exact kids2 hb hc e he
theorem eg_finC {L : List Int} {a l : Int} {D : Nat} {fn : Func} {s : AS} {t : Tmp} {ty : TypeId} {v : AV} (h : fn.results = #[.cell t ty]) (hl : aLoad Tryz.prog ty (s.get t) s.row = some v) (hg : s.row 1 = chR L a l) (hV : VN D v) :
    EG (fun i : AV × Int × Int => VN D i.1 ∧ inR noRef i.1 = true) (fun i => bodyA Tryz.prog fn (fun v s => v = i.1 ∧ s.row 1 = chR L i.2.1 i.2.2) .ret s) := eg_retC h hl (EG.of (v, a, l) ⟨hV, hV.tree⟩ ⟨rfl, hg⟩)
def VL (w D : Nat) (v : AV) : Prop := ∃ b es, v = .sl b es ∧ es.length ≤ w ∧ ∀ e ∈ es, NodeV D e
set_option maxHeartbeats 4000000 in
theorem kind_ok {L : List Int} (hL : ∀ x ∈ L, Small64 x) : QC L 35 [] (VN 2) := by
  refine qc_of_body Tryz.func35 rfl (by kernel_rfl) (by simp [Tryz.ntmps35]) rfl fun at0 left => ?_
  simp only [Tryz.ntmps35, enterF, Nat.reduceAdd]
  repeat' (first | with_reducible (first | refine v'1 fun _ _ => ?_ | refine v'2 ?_ | (first | refine v'3 ?_ | refine v'4 ?_ | refine v'5 fun _ _ _ _ => ?_ | refine v'6 (fun hg => ?_) (fun hg => ?_) <;> try simp only [hg]) <;> simp only [wS, simprocAttr, chR] | (first | refine v's ?_ | refine v'e ?_ | refine v'r ?_) <;> try simp only [wE, simprocAttr] | refine v'8 ?_ | refine v'9 ?_) | (refine eg_qc (num_ok hL _ (by decide)) _ _ (by simp only [wS, simprocAttr, chR]; try exact rfl) ?_; rintro _ _ _ ⟨z, rfl, hz1, hz2⟩ -; simp only [wS, simprocAttr, chR]) | refine eg_split (fun _ => ?_) (fun _ => ?_))
  all_goals
    refine eg_finC rfl (by simp only [wS, simprocAttr]; exact rfl) (by simp only [wS, simprocAttr, chR]; exact rfl) ⟨_, rfl, .mk (d := 1) (hd := by decide) _ _ _ _ _ (by first | assumption | omega | simp) (by first | exact kids0 | exact kids1 (by first | assumption | exact (leafV _ _ _ _).up (by decide) | exact NodeV.up (by assumption) (by decide)) | exact kids2 (by first | assumption | exact (leafV _ _ _ _).up (by decide) | exact NodeV.up (by assumption) (by decide)) (by first | assumption | exact (leafV _ _ _ _).up (by decide) | exact NodeV.up (by assumption) (by decide)) | exact kids3 (by first | assumption | exact (leafV _ _ _ _).up (by decide) | exact NodeV.up (by assumption) (by decide)) (by first | assumption | exact (leafV _ _ _ _).up (by decide) | exact NodeV.up (by assumption) (by decide)) (by first | assumption | exact (leafV _ _ _ _).up (by decide) | exact NodeV.up (by assumption) (by decide)) | assumption)⟩
end Go.Proofs.YtblfpppnkdokdaaGreatDoor
set_option linter.unusedVariables false
set_option linter.unusedSimpArgs false
namespace Go.Proofs.YtblfpppnkdokdaaGreatDoor
open Go.AM
attribute [local irreducible] AWp rgnS callR callV effR valR guardR stepR nextR
set_option maxRecDepth 100000
theorem VL.tree {w D : Nat} {v : AV} (h : VL w D v) : inR noRef v = true := by
  obtain ⟨b, es, rfl, _, hes⟩ := h
  simp only [inR]; exact nodes_tree hes
theorem eg_finQ {L : List Int} {a l : Int} {V : AV → Prop} {fn : Func} {s : AS} {t : Tmp} {v : AV} (h : fn.results = #[.tmp t]) (hl : s.get t = v) (hg : s.row 1 = chR L a l) (hV : V v) (hi : inR noRef v = true) :
    EG (fun i : AV × Int × Int => V i.1 ∧ inR noRef i.1 = true) (fun i => bodyA Tryz.prog fn (fun v s => v = i.1 ∧ s.row 1 = chR L i.2.1 i.2.2) .ret s) := eg_ret1 h (EG.of (v, a, l) ⟨hV, hi⟩ ⟨hl, hg⟩)
set_option maxHeartbeats 4000000 in
theorem some_ok {L : List Int} (hL : ∀ x ∈ L, Small64 x) {D : Nat} (depth : Int) (hd1 : -1000 < depth) (hd2 : depth < 1000) (hE : QC L 99 [.int .i64 (depth - 1)] (VN D)) : QC L 100 [.int .i64 3, .int .i64 depth] (VL 3 D) := by
  have ed : IntKind.i64.wrap (depth - 1) = depth - 1 := wrap_small (by omega) (by omega)
  refine qc_of_body Tryz.func100 rfl (by kernel_rfl) (by simp [Tryz.ntmps100]) rfl fun at0 left => ?_
  simp only [Tryz.ntmps100, enterF, Nat.reduceAdd]
  repeat' (first | with_reducible (first | refine v'1 fun _ _ => ?_ | refine v'2 ?_ | (first | refine v'3 ?_ | refine v'4 ?_ | refine v'5 fun _ _ _ _ => ?_ | refine v'6 (fun hg => ?_) (fun hg => ?_) <;> try simp only [hg]) <;> simp only [wS, simprocAttr] | (first | refine v's ?_ | refine v'e ?_ | refine v'r ?_) <;> try simp only [wE, simprocAttr] | refine v'8 ?_ | refine v'9 ?_))
  refine eg_qc (num_ok hL 4 (by decide)) at0 left (by simp only [wS, simprocAttr, chR]; try exact rfl) ?_
  rintro _ a1 l1 ⟨z, rfl, hz1, hz2⟩ -
  simp only [wS, simprocAttr]
  repeat' (first | with_reducible (first | refine v'1 fun _ _ => ?_ | refine v'2 ?_ | (first | refine v'3 ?_ | refine v'4 ?_ | refine v'5 fun _ _ _ _ => ?_ | refine v'6 (fun hg => ?_) (fun hg => ?_) <;> try simp only [hg]) <;> simp only [wS, simprocAttr] | (first | refine v's ?_ | refine v'e ?_ | refine v'r ?_) <;> try simp only [wE, simprocAttr] | refine v'8 ?_ | refine v'9 ?_))
  refine eg_loop_k (α := {p : List (List AV) × Int × Int // p.1.length ≤ 3 ∧ ∀ e ∈ p.1, NodeV D e}) (fun p => [(0, .ptr 1 0 0), (1, .int .i64 3), (2, .int .i64 depth), (7, accV [] 2 4 p.1.1), (8, .int .i64 z), (9, .int .i64 (p.1.1.length : Nat))]) (fun p => accH [.dead, chR L p.1.2.1 p.1.2.2] [] p.1.1) (fun p => 3 - p.1.1.length) ⟨([], a1, l1), by simp, by simp⟩ (Weak.ref ⟨?_, .inl ?_⟩) ?_
  · simp only [wS, simprocAttr, accV_nil]; try exact rfl
  · simp only [wS, simprocAttr, accH, if_true]; try exact rfl
  · rintro ⟨⟨app, a2, l2⟩, hl, hn⟩ K3 hK3
    simp only at hl hn
    repeat' (first | with_reducible (first | refine v'1 fun _ _ => ?_ | refine v'2 ?_ | (first | refine v'3 ?_ | refine v'4 ?_ | refine v'5 fun _ _ _ _ => ?_ | refine v'6 (fun hg => ?_) (fun hg => ?_) <;> try simp only [hg]) <;> simp only [wS, simprocAttr, accH_old] | (first | refine v's ?_ | refine v'e ?_ | refine v'r ?_) <;> try simp only [wE, simprocAttr] | refine v'8 ?_ | refine v'9 ?_))
    refine eg_split (fun h => ?_) (fun h => ?_)
    · have hlt : app.length < 3 := by simp at h; omega
      repeat' (first | with_reducible (first | refine v'1 fun _ _ => ?_ | refine v'2 ?_ | (first | refine v'3 ?_ | refine v'4 ?_ | refine v'5 fun _ _ _ _ => ?_ | refine v'6 (fun hg => ?_) (fun hg => ?_) <;> try simp only [hg]) <;> simp only [wS, simprocAttr, accH_old, ed] | (first | refine v's ?_ | refine v'e ?_ | refine v'r ?_) <;> try simp only [wE, simprocAttr] | refine v'8 ?_ | refine v'9 ?_))
      refine eg_qc hE a2 l2 (by simp only [wS, simprocAttr, accH_old]; try exact rfl) ?_
      rintro _ a3 l3 ⟨c, rfl, hc⟩ -
      obtain ⟨k1, n1, m1, b1, es1, rfl⟩ := node_ex hc
      simp only [wS, simprocAttr, accH_hset, accH_old]
      refine EG.mono (fun i h => eff_acc (H := [.dead, chR L a3 l3]) (base := []) (app := app) (e := [.int .i64 k1, .int .i64 n1, .int .i64 m1, .sl b1 es1]) (by' := 48) (by kernel_rfl) rfl (upd_acc (by simp)) rfl (fun e he => (hn e (by simpa using he)).len) (by simp [srcA]) (by simp only [List.length_nil]; omega) h) ?_
      have e3 := wrap_succ (k := app.length) hlt (by omega)
      have hac := accH_snoc [.dead, chR L a3 l3] [] app [.int .i64 k1, .int .i64 n1, .int .i64 m1, .sl b1 es1]
      simp only [List.length_cons, List.length_nil, Nat.reduceAdd] at hac
      simp only [wS, simprocAttr]
      repeat' (first | with_reducible (first | refine v'1 fun _ _ => ?_ | refine v'2 ?_ | (first | refine v'3 ?_ | refine v'4 ?_ | refine v'5 fun _ _ _ _ => ?_ | refine v'6 (fun hg => ?_) (fun hg => ?_) <;> try simp only [hg]) <;> simp only [wS, simprocAttr, e3] | (first | refine v's ?_ | refine v'e ?_ | refine v'r ?_) <;> try simp only [wE, simprocAttr] | refine v'8 ?_ | refine v'9 ?_))
      refine hK3 _ ⟨(app ++ [[.int .i64 k1, .int .i64 n1, .int .i64 m1, .sl b1 es1]], a3, l3), by simp; omega, fun e he => by
        rcases List.mem_append.1 he with he | he
        · exact hn e he
        · rw [List.mem_singleton.1 he]; exact hc⟩ (Weak.ref ⟨?_, .inl ?_⟩) (by simp; omega)
      · simp only [wS, simprocAttr, List.length_append, List.length_singleton]; try exact rfl
      · simp only [wS, simprocAttr, accH_hset, hac]; try exact rfl
    · repeat' (first | with_reducible (first | refine v'1 fun _ _ => ?_ | refine v'2 ?_ | (first | refine v'3 ?_ | refine v'4 ?_ | refine v'5 fun _ _ _ _ => ?_ | refine v'6 (fun hg => ?_) (fun hg => ?_) <;> try simp only [hg]) <;> simp only [wS, simprocAttr] | (first | refine v's ?_ | refine v'e ?_ | refine v'r ?_) <;> try simp only [wE, simprocAttr] | refine v'9 ?_))
      refine ContE.go (by assumption) (eg_ref (ref_acc (H := [.dead, chR L a2 l2]) (sz := 4) (t := 7) (app := app) [(0, .ptr 1 0 0)] (by simp) ?_ ?_ (fun e he => (hn e he).len) (nodes_tree hn) ?_ (by simp [inR]) (by simp only [List.all_cons, List.all_nil, chR_in, Bool.and_true]; rfl)) ?_)
      · simp only [wS, simprocAttr]; try exact rfl
      · simp only [wS, simprocAttr]; try exact rfl
      · simp only [wS, simprocAttr]; try exact rfl
      repeat' (first | with_reducible (first | refine v'1 fun _ _ => ?_ | refine v'2 ?_ | (first | refine v'3 ?_ | refine v'4 ?_ | refine v'5 fun _ _ _ _ => ?_ | refine v'6 (fun hg => ?_) (fun hg => ?_) <;> try simp only [hg]) <;> simp only [wS, simprocAttr] | (first | refine v's ?_ | refine v'e ?_ | refine v'r ?_) <;> try simp only [wE, simprocAttr] | refine v'8 ?_ | refine v'9 ?_))
      refine eg_finQ (V := VL 3 D) rfl (by simp only [wS, simprocAttr]; exact rfl) (by simp only [wS, simprocAttr]; exact rfl) ⟨_, _, rfl, hl, hn⟩ (by simp only [inR]; exact nodes_tree hn)
end Go.Proofs.YtblfpppnkdokdaaGreatDoor
set_option linter.unusedVariables false
set_option linter.unusedSimpArgs false
namespace Go.Proofs.YtblfpppnkdokdaaGreatDoor
open Go.AM
attribute [local irreducible] AWp rgnS callR callV effR valR guardR stepR nextR
set_option maxRecDepth 100000
set_option maxHeartbeats 8000000 in
theorem expr_0 {L : List Int} (hL : ∀ x ∈ L, Small64 x) : QC L 99 [.int .i64 0] (VN 1) := by
  refine qc_of_body Tryz.func99 rfl (by kernel_rfl) (by simp [Tryz.ntmps99]) rfl fun at0 left => ?_
  simp only [Tryz.ntmps99, enterF, Nat.reduceAdd]
  repeat' (first | with_reducible (first | refine v'1 fun _ _ => ?_ | refine v'2 ?_ | (first | refine v'3 ?_ | refine v'4 ?_ | refine v'5 fun _ _ _ _ => ?_ | refine v'6 (fun hg => ?_) (fun hg => ?_) <;> try simp only [hg]) <;> simp only [wS, simprocAttr, chR] | (first | refine v's ?_ | refine v'e ?_ | refine v'r ?_) <;> try simp only [wE, simprocAttr] | refine v'8 ?_ | refine v'9 ?_))
  refine eg_qc (num_ok hL 12 (by decide)) _ _ (by simp only [wS, simprocAttr, chR]; try exact rfl) ?_
  rintro _ _ _ ⟨z, rfl, hz1, hz2⟩ -
  have hz : z = 0 ∨ z = 1 ∨ z = 2 ∨ z = 3 ∨ z = 4 ∨ z = 5 ∨ z = 6 ∨ z = 7 ∨ z = 8 ∨ z = 9 ∨ z = 10 ∨ z = 11 := by omega
  rcases hz with rfl | rfl | rfl | rfl | rfl | rfl | rfl | rfl | rfl | rfl | rfl | rfl
  all_goals simp only [wS, simprocAttr, chR]
  all_goals repeat' (first | with_reducible (first | refine v'1 fun _ _ => ?_ | refine v'2 ?_ | (first | refine v'3 ?_ | refine v'4 ?_ | refine v'5 fun _ _ _ _ => ?_ | refine v'6 (fun hg => ?_) (fun hg => ?_) <;> try simp only [hg]) <;> simp only [wS, simprocAttr, chR] | (first | refine v's ?_ | refine v'e ?_ | refine v'r ?_) <;> try simp only [wE, simprocAttr] | refine v'8 ?_ | refine v'9 ?_) | (refine eg_qc (num_ok hL _ (by decide)) _ _ (by simp only [wS, simprocAttr, chR]; try exact rfl) ?_; rintro _ _ _ ⟨z, rfl, hz1, hz2⟩ -; simp only [wS, simprocAttr, chR]) | refine eg_split (fun _ => ?_) (fun _ => ?_))
  all_goals
    refine eg_finC rfl (by simp only [wS, simprocAttr]; exact rfl) (by simp only [wS, simprocAttr, chR]; exact rfl) ⟨_, rfl, .mk (d := 0) (hd := by decide) _ _ _ _ _ (by first | assumption | omega | simp) (by first | exact kids0 | exact kids1 (by first | assumption | exact (leafV _ _ _ _).up (by decide) | exact NodeV.up (by assumption) (by decide)) | exact kids2 (by first | assumption | exact (leafV _ _ _ _).up (by decide) | exact NodeV.up (by assumption) (by decide)) (by first | assumption | exact (leafV _ _ _ _).up (by decide) | exact NodeV.up (by assumption) (by decide)) | exact kids3 (by first | assumption | exact (leafV _ _ _ _).up (by decide) | exact NodeV.up (by assumption) (by decide)) (by first | assumption | exact (leafV _ _ _ _).up (by decide) | exact NodeV.up (by assumption) (by decide)) (by first | assumption | exact (leafV _ _ _ _).up (by decide) | exact NodeV.up (by assumption) (by decide)) | assumption)⟩
set_option maxHeartbeats 8000000 in
theorem expr_1 {L : List Int} (hL : ∀ x ∈ L, Small64 x) : QC L 99 [.int .i64 1] (VN 2) := by
  refine qc_of_body Tryz.func99 rfl (by kernel_rfl) (by simp [Tryz.ntmps99]) rfl fun at0 left => ?_
  simp only [Tryz.ntmps99, enterF, Nat.reduceAdd]
  repeat' (first | with_reducible (first | refine v'1 fun _ _ => ?_ | refine v'2 ?_ | (first | refine v'3 ?_ | refine v'4 ?_ | refine v'5 fun _ _ _ _ => ?_ | refine v'6 (fun hg => ?_) (fun hg => ?_) <;> try simp only [hg]) <;> simp only [wS, simprocAttr, chR] | (first | refine v's ?_ | refine v'e ?_ | refine v'r ?_) <;> try simp only [wE, simprocAttr] | refine v'8 ?_ | refine v'9 ?_) | (refine eg_qc (num_ok hL _ (by decide)) _ _ (by simp only [wS, simprocAttr, chR]; try exact rfl) ?_; rintro _ _ _ ⟨z, rfl, hz1, hz2⟩ -; simp only [wS, simprocAttr, chR]) | (refine eg_qc (expr_0 hL) _ _ (by simp only [wS, simprocAttr, chR]; try exact rfl) ?_; rintro _ _ _ ⟨c, rfl, hc⟩ -; obtain ⟨k, n, m, b, es, rfl⟩ := node_ex hc; simp only [wS, simprocAttr, chR]) | (refine eg_qc (some_ok hL 1 (by decide) (by decide) (expr_0 hL)) _ _ (by simp only [wS, simprocAttr, chR]; try exact rfl) ?_; rintro _ _ _ ⟨b, es, rfl, hl, hes⟩ -; simp only [wS, simprocAttr, chR]) | refine eg_split (fun _ => ?_) (fun _ => ?_))
  all_goals
    refine eg_finC rfl (by simp only [wS, simprocAttr]; exact rfl) (by simp only [wS, simprocAttr, chR]; exact rfl) ⟨_, rfl, .mk (d := 1) (hd := by decide) _ _ _ _ _ (by first | assumption | omega | simp) (by first | exact kids0 | exact kids1 (by first | assumption | exact (leafV _ _ _ _).up (by decide) | exact NodeV.up (by assumption) (by decide)) | exact kids2 (by first | assumption | exact (leafV _ _ _ _).up (by decide) | exact NodeV.up (by assumption) (by decide)) (by first | assumption | exact (leafV _ _ _ _).up (by decide) | exact NodeV.up (by assumption) (by decide)) | exact kids3 (by first | assumption | exact (leafV _ _ _ _).up (by decide) | exact NodeV.up (by assumption) (by decide)) (by first | assumption | exact (leafV _ _ _ _).up (by decide) | exact NodeV.up (by assumption) (by decide)) (by first | assumption | exact (leafV _ _ _ _).up (by decide) | exact NodeV.up (by assumption) (by decide)) | assumption)⟩
set_option maxHeartbeats 8000000 in
theorem expr_2 {L : List Int} (hL : ∀ x ∈ L, Small64 x) : QC L 99 [.int .i64 2] (VN 3) := by
  refine qc_of_body Tryz.func99 rfl (by kernel_rfl) (by simp [Tryz.ntmps99]) rfl fun at0 left => ?_
  simp only [Tryz.ntmps99, enterF, Nat.reduceAdd]
  repeat' (first | with_reducible (first | refine v'1 fun _ _ => ?_ | refine v'2 ?_ | (first | refine v'3 ?_ | refine v'4 ?_ | refine v'5 fun _ _ _ _ => ?_ | refine v'6 (fun hg => ?_) (fun hg => ?_) <;> try simp only [hg]) <;> simp only [wS, simprocAttr, chR] | (first | refine v's ?_ | refine v'e ?_ | refine v'r ?_) <;> try simp only [wE, simprocAttr] | refine v'8 ?_ | refine v'9 ?_) | (refine eg_qc (num_ok hL _ (by decide)) _ _ (by simp only [wS, simprocAttr, chR]; try exact rfl) ?_; rintro _ _ _ ⟨z, rfl, hz1, hz2⟩ -; simp only [wS, simprocAttr, chR]) | (refine eg_qc (expr_1 hL) _ _ (by simp only [wS, simprocAttr, chR]; try exact rfl) ?_; rintro _ _ _ ⟨c, rfl, hc⟩ -; obtain ⟨k, n, m, b, es, rfl⟩ := node_ex hc; simp only [wS, simprocAttr, chR]) | (refine eg_qc (some_ok hL 2 (by decide) (by decide) (expr_1 hL)) _ _ (by simp only [wS, simprocAttr, chR]; try exact rfl) ?_; rintro _ _ _ ⟨b, es, rfl, hl, hes⟩ -; simp only [wS, simprocAttr, chR]) | refine eg_split (fun _ => ?_) (fun _ => ?_))
  all_goals
    refine eg_finC rfl (by simp only [wS, simprocAttr]; exact rfl) (by simp only [wS, simprocAttr, chR]; exact rfl) ⟨_, rfl, .mk (d := 2) (hd := by decide) _ _ _ _ _ (by first | assumption | omega | simp) (by first | exact kids0 | exact kids1 (by first | assumption | exact (leafV _ _ _ _).up (by decide) | exact NodeV.up (by assumption) (by decide)) | exact kids2 (by first | assumption | exact (leafV _ _ _ _).up (by decide) | exact NodeV.up (by assumption) (by decide)) (by first | assumption | exact (leafV _ _ _ _).up (by decide) | exact NodeV.up (by assumption) (by decide)) | exact kids3 (by first | assumption | exact (leafV _ _ _ _).up (by decide) | exact NodeV.up (by assumption) (by decide)) (by first | assumption | exact (leafV _ _ _ _).up (by decide) | exact NodeV.up (by assumption) (by decide)) (by first | assumption | exact (leafV _ _ _ _).up (by decide) | exact NodeV.up (by assumption) (by decide)) | assumption)⟩
end Go.Proofs.YtblfpppnkdokdaaGreatDoor
