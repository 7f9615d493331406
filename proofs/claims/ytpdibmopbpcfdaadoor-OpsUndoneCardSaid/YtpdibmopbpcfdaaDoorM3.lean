import Derived.Test.YtpdibmopbpcfdaaDoorM2
set_option linter.unusedVariables false
set_option linter.unusedSimpArgs false
namespace Go.Proofs.YtpdibmopbpcfdaaDoor
open Go.AM
inductive NodeV : Nat → List AV → Prop
  | mk {D d : Nat} {hd : d < D} (k n m : Int) (b : Bool) (es : List (List AV)) (hl : es.length ≤ 6) (h : ∀ e ∈ es, NodeV d e) : NodeV D [.int .i64 k, .int .i64 n, .int .i64 m, .sl b es]
theorem NodeV.up {d D : Nat} {c : List AV} (h : NodeV d c) (hd : d ≤ D) : NodeV D c := by
  cases h with
  | @mk _ d' h' k n m b es hl hh => exact .mk (hd := Nat.lt_of_lt_of_le h' hd) k n m b es hl hh
theorem NodeV.len {D : Nat} {c : List AV} (h : NodeV D c) : c.length = 4 := by cases h; rfl
theorem NodeV.tree : ∀ {D : Nat} {c : List AV}, NodeV D c → inL noRef c = true := by
  intro D c h
  induction h with
  | mk k n m b es hl h ih =>
    have : inE noRef es = true := by
      clear hl h
      induction es with
      | nil => rfl
      | cons e es ie => simp only [inE, Bool.and_eq_true]; exact ⟨ih e (by simp), ie fun x hx => ih x (by simp [hx])⟩
    simp only [inL, inR, this, Bool.and_self]
theorem nodes_tree {D : Nat} : ∀ {es : List (List AV)}, (∀ e ∈ es, NodeV D e) → inE noRef es = true
  | [], _ => rfl
  | e :: es, h => by
    simp only [inE, Bool.and_eq_true]
    exact ⟨(h e (by simp)).tree, nodes_tree fun x hx => h x (by simp [hx])⟩
def VN (D : Nat) (v : AV) : Prop := ∃ c, v = .agg c ∧ NodeV D c
theorem VN.up {d D : Nat} {v : AV} (h : VN d v) (hd : d ≤ D) : VN D v := by
  obtain ⟨c, e, h⟩ := h
  exact ⟨c, e, h.up hd⟩
theorem VN.tree {D : Nat} {v : AV} (h : VN D v) : inR noRef v = true := by
  obtain ⟨c, rfl, h⟩ := h
  simp only [inR]
  exact h.tree
theorem vn_mk {d : Nat} (k n m : Int) (b : Bool) (es : List (List AV)) (hl : es.length ≤ 6) (h : ∀ e ∈ es, NodeV d e) : VN (d + 1) (.agg [.int .i64 k, .int .i64 n, .int .i64 m, .sl b es]) := ⟨_, rfl, .mk (hd := Nat.lt_succ_self d) k n m b es hl h⟩
theorem leafV (k n m : Int) (b : Bool) : NodeV 1 [.int .i64 k, .int .i64 n, .int .i64 m, .sl b []] := .mk (d := 0) (hd := by decide) k n m b [] (by simp) fun e he => by cases he
theorem nones : ∀ e ∈ ([] : List (List AV)), NodeV 0 e := fun e he => by cases he
def VI (lo hi : Int) (v : AV) : Prop := ∃ z, v = .int .i64 z ∧ lo ≤ z ∧ z < hi
theorem VI.tree {lo hi : Int} {v : AV} (h : VI lo hi v) : inR noRef v = true := by
  obtain ⟨c, rfl, h⟩ := h
  rfl
structure Fn where
  v : Nat
  b : Bool
  p : Nat
  q : Nat
  ks : List (List AV)
def Fn.wf (f : Fn) : Prop := f.ks.length = f.q + 1 ∧ f.p ≤ f.q ∧ f.q ≤ 5 ∧ ∀ e ∈ f.ks, NodeV 12 e
def Fn.row (f : Fn) : ARow := .cells f.v f.ks.flatten
def Fn.cells (f : Fn) (r : Nat) : List AV := [.int .i64 26, .int .i64 f.p, .int .i64 0, .osl r f.v 0 (f.q + 1) 4 f.b]
structure MX where
  L : List Int
  pk : Int
  pn : Int
  pm : Int
  F : Int
  kv : AV
  con : Bool
  A2 : ARow
  A3 : ARow
  A4 : ARow
  A5 : ARow
def MX.row (x : MX) (at0 left : Int) : ARow := .cells 0 [encI x.L, .int .i64 at0, .int .i64 left, .int .i64 x.pk, .int .i64 x.pn, .int .i64 x.pm, x.kv, .int .i64 x.F, .bool x.con]
inductive PIs (F : Int) : AV → ARow → ARow → ARow → ARow → Prop
  | one (f0 : Fn) (vP : Nat) (bP : Bool) : f0.wf → F = 0 → PIs F (.osl 3 vP 0 1 4 bP) f0.row (.cells vP (f0.cells 2)) .dead .dead
  | two (f0 f1 : Fn) (vP : Nat) (bP : Bool) : f0.wf → f1.wf → (F = 0 ∨ F = 1) → PIs F (.osl 3 vP 0 2 4 bP) f0.row (.cells vP (f0.cells 2 ++ f1.cells 4)) f1.row .dead
  | three (f0 f1 f2 : Fn) (vP : Nat) (bP : Bool) : f0.wf → f1.wf → f2.wf → (F = 0 ∨ F = 1 ∨ F = 2) → PIs F (.osl 3 vP 0 3 4 bP) f0.row (.cells vP (f0.cells 2 ++ (f1.cells 4 ++ f2.cells 5))) f1.row f2.row
def MX.ok (x : MX) : Prop := (∀ y ∈ x.L, Small64 y) ∧ (x.con = true → 0 < x.pn) ∧ PIs x.F x.kv x.A2 x.A3 x.A4 x.A5
def five : Nat → Bool := fun r => ([1, 2, 3, 4, 5] : List Nat).contains r
theorem fn_in {f : Fn} (h : f.wf) : rowIn five f.row = true := by
  simp only [Fn.row, rowIn]
  exact inL_flat (inE_mono (p := noRef) (fun r hr => by cases hr) (nodes_tree h.2.2.2))
theorem PIs.ins {F : Int} {kv : AV} {a b c d : ARow} (h : PIs F kv a b c d) : inR five kv = true ∧ rowIn five a = true ∧ rowIn five b = true ∧ rowIn five c = true ∧ rowIn five d = true := by
  cases h with
  | one f0 vP bP h0 => exact ⟨rfl, fn_in h0, rfl, rfl, rfl⟩
  | two f0 f1 vP bP h0 h1 => exact ⟨rfl, fn_in h0, rfl, fn_in h1, rfl⟩
  | three f0 f1 f2 vP bP h0 h1 h2 => exact ⟨rfl, fn_in h0, rfl, fn_in h1, fn_in h2⟩
def MR (x : MX) (rows : Nat → ARow) (at0 left : Int) : Prop := rows 1 = x.row at0 left ∧ rows 2 = x.A2 ∧ rows 3 = x.A3 ∧ rows 4 = x.A4 ∧ rows 5 = x.A5
def MC (x : MX) (f : FuncId) (more : List AV) (V : AV → Prop) : Prop := ∀ rows at0 left, MR x rows at0 left → EC Tryd.prog G0 f (.ptr 1 0 0 :: more) rows [1, 2, 3, 4, 5] (fun eff => ∃ v at1 left1, eff = ⟨v, [(1, x.row at1 left1)]⟩ ∧ V v ∧ inR noRef v = true)
theorem MC.imp {x : MX} {f : FuncId} {more : List AV} {V W : AV → Prop} (h : MC x f more V) (hw : ∀ v, V v → W v) : MC x f more W := fun rows a l hr => by
  obtain ⟨eff, ⟨v, a1, l1, e, h1, h2⟩, hc⟩ := h rows a l hr
  exact ⟨eff, ⟨v, a1, l1, e, hw v h1, h2⟩, hc⟩
theorem eg_mc {n : Nat} {d : Option Tmp} {rest : List POp} {m : Option Acc} {s : AS} {ι : Type} {R : ι → Prop} {K : ι → Option Acc → AS → Prop} {x : MX} {f : FuncId} {more : List AV} {V : AV → Prop} (h : MC x f more V) (at0 left : Int) (hr : MR x s.row at0 left)
    (hk : ∀ v at1 left1, V v → inR noRef v = true → EG R (fun i => rgnS Tryd.prog G0 n (K i) rest (adv m [1, 2, 3, 4, 5] [1]) ((s.wr [(1, x.row at1 left1)]).put d v))) : EG R (fun i => callR Tryd.prog G0 n (K i) d rest m s f (.ptr 1 0 0 :: more)) := by
  refine eg_call (h s.row at0 left hr) ?_
  rintro eff ⟨v, a1, l1, rfl, h1, h2⟩
  exact hk v a1 l1 h1 h2
theorem mc_of_body {x : MX} {f : FuncId} {fn : Func} {c : Code} {more : List AV} {V : AV → Prop} (hx : x.ok) (hf : Tryd.prog.funcs[f]? = some fn) (hb : fn.body = some c) (hgo : goFunc Tryd.prog f = true) (hn : more.length + 1 ≤ fn.ntmps) (hmore : inL noRef more = true)
    (hbody : ∀ at0 left, EG (fun i : AV × Int × Int => V i.1 ∧ inR noRef i.1 = true) (fun i => AWp Tryd.prog G0 fn.ntmps 6 c (bodyA Tryd.prog fn fun v s => v = i.1 ∧ s.row 1 = x.row i.2.1 i.2.2 ∧ s.row 2 = x.A2 ∧ s.row 3 = x.A3 ∧ s.row 4 = x.A4 ∧ s.row 5 = x.A5) ⟨mkF (enterF 0 (.ptr 1 0 0 :: more)), [.dead, x.row at0 left, x.A2, x.A3, x.A4, x.A5]⟩)) : MC x f more V := by
  intro rows at0 left hr
  obtain ⟨h1, h2, h3, h4, h5⟩ := hr
  obtain ⟨hL, hcn, hP⟩ := hx
  obtain ⟨k1, k2, k3, k4, k5⟩ := hP.ins
  have hcon : ∀ r, five r = true → decide (r < 6) = true := fun r h => by simp [five] at h ⊢; omega
  have hrow : ∀ a l, rowIn five (x.row a l) = true := fun a l => by
    simp only [MX.row, rowIn, inL, inR, inR_mono (p := noRef) (q := five) (fun r hr => by cases hr) (tree_encI x.L), k1, Bool.and_self]
  have hen : x.row at0 left = x.row at0 left := rfl
  refine ec_of_body [.dead, x.row at0 left, x.A2, x.A3, x.A4, x.A5] hG0 hf hb hgo (by simpa using hn) ?_ ?_ ?_ ?_ ?_ ?_ ?_
  · intro r hr
    simp only [List.mem_cons, List.not_mem_nil, or_false] at hr
    rcases hr with rfl | rfl | rfl | rfl | rfl
    · exact h1.symm
    · exact h2.symm
    · exact h3.symm
    · exact h4.symm
    · exact h5.symm
  · intro r hr
    match r, hr with
    | 0, _ => simp
    | 1, hr => exact absurd (by simp) hr
    | 2, hr => exact absurd (by simp) hr
    | 3, hr => exact absurd (by simp) hr
    | 4, hr => exact absurd (by simp) hr
    | 5, hr => exact absurd (by simp) hr
    | r + 6, _ => simp
  · simp only [inL, inR, List.length_cons, List.length_nil, Nat.reduceAdd, Nat.reduceLT, decide_true, Bool.true_and]
    exact inL_mono (p := noRef) (fun r hr => by cases hr) hmore
  · intro r hr
    simp only [List.mem_cons, List.not_mem_nil, or_false] at hr
    rcases hr with rfl | rfl | rfl | rfl | rfl
    · rw [h1]; exact rowIn_mono hcon (hrow _ _)
    · rw [h2]; exact rowIn_mono hcon k2
    · rw [h3]; exact rowIn_mono hcon k3
    · rw [h4]; exact rowIn_mono hcon k4
    · rw [h5]; exact rowIn_mono hcon k5
  · intro r hr h
    simp only [List.mem_cons, List.not_mem_nil, or_false] at hr
    simp only [List.length_cons, List.length_nil] at h
    omega
  · rintro eff ⟨v, a1, l1, rfl, _⟩ p hp
    simp at hp
    subst hp
    simp
  · obtain ⟨i, ⟨i1, i2⟩, hw⟩ := hbody at0 left
    refine EG.of ⟨i.1, [(1, x.row i.2.1 i.2.2)]⟩ ⟨_, _, _, rfl, i1, i2⟩ (awp_mono hw fun e s q => ?_)
    have key : ∀ v, (v = i.1 ∧ s.row 1 = x.row i.2.1 i.2.2 ∧ s.row 2 = x.A2 ∧ s.row 3 = x.A3 ∧ s.row 4 = x.A4 ∧ s.row 5 = x.A5) → (v = (Eff.mk i.1 [(1, x.row i.2.1 i.2.2)]).val ∨ wk v = (Eff.mk i.1 [(1, x.row i.2.1 i.2.2)]).val) ∧ inR (fun r => ([1, 2, 3, 4, 5] : List Nat).contains r) v = true ∧ ∀ r ∈ ([1, 2, 3, 4, 5] : List Nat), s.row r = upd rows (Eff.mk i.1 [(1, x.row i.2.1 i.2.2)]).wr r ∧ rowIn (fun r => ([1, 2, 3, 4, 5] : List Nat).contains r) (s.row r) = true := by
      rintro v ⟨rfl, q1, q2, q3, q4, q5⟩
      refine ⟨.inl rfl, inR_mono (p := noRef) (fun r hr => by cases hr) i2, fun r hr => ?_⟩
      simp only [List.mem_cons, List.not_mem_nil, or_false] at hr
      rcases hr with rfl | rfl | rfl | rfl | rfl
      · rw [q1]; exact ⟨by simp [upd_one], hrow _ _⟩
      · rw [q2]; exact ⟨by simp [upd_one, h2], k2⟩
      · rw [q3]; exact ⟨by simp [upd_one, h3], k3⟩
      · rw [q4]; exact ⟨by simp [upd_one, h4], k4⟩
      · rw [q5]; exact ⟨by simp [upd_one, h5], k5⟩
    cases e with
    | normal => obtain ⟨v, g1, g2⟩ := q; exact ⟨v, g1, key v g2⟩
    | ret => obtain ⟨v, g1, g2⟩ := q; exact ⟨v, g1, key v g2⟩
    | exit id => exact q.elim
    | goto l => exact q.elim
    | panic ch => exact q.elim
    | outgrown => exact q.elim
theorem draw_ok {x : MX} (hx : x.ok) (n : Int) (hn : 0 < n) : MC x 46 [.int .i64 n] (VI 0 n) := by
  intro rows at0 left hr
  obtain ⟨h1, h2, h3, h4, h5⟩ := hr
  obtain ⟨k1, k2, k3, k4, k5⟩ := hx.2.2.ins
  obtain ⟨eff, ⟨y, a1, e, hy⟩, hc⟩ := draw_4 rows x.L at0 left x.pk x.pn x.pm x.F x.kv x.con _ _ _ _ hx.1 h1 h2 h3 h4 h5 k1 k2 k3 k4 k5 n hn
  exact ⟨eff, ⟨_, a1, left, e, ⟨y, rfl, hy⟩, rfl⟩, hc⟩
theorem node_ok {d : Nat} {x : MX} (hx : x.ok) (k n : Int) (b : Bool) (es : List (List AV)) (hl : es.length ≤ 6) (hes : ∀ e ∈ es, NodeV d e) : MC x 61 [.int .i64 k, .int .i64 n, .sl b es] (fun v => v = .agg [.int .i64 k, .int .i64 n, .int .i64 0, .sl b es] ∧ VN (d + 1) v) := by
  intro rows at0 left hr
  obtain ⟨h1, h2, h3, h4, h5⟩ := hr
  obtain ⟨k1, k2, k3, k4, k5⟩ := hx.2.2.ins
  obtain ⟨eff, ⟨l1, e⟩, hc⟩ := node_4 rows x.L at0 left x.pk x.pn x.pm x.F x.kv x.con _ _ _ _ hx.1 h1 h2 h3 h4 h5 k1 k2 k3 k4 k5 k n b es (nodes_tree hes)
  exact ⟨eff, ⟨_, at0, l1, e, ⟨rfl, vn_mk k n 0 b es hl hes⟩, (vn_mk k n 0 b es hl hes).tree⟩, hc⟩
end Go.Proofs.YtpdibmopbpcfdaaDoor
