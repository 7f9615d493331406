import Derived.Test.YtpdibmopbpcfdaaDoorS6
set_option linter.unusedVariables false
set_option linter.unusedSimpArgs false
namespace Go.Proofs.YtpdibmopbpcfdaaDoor
open Go.AM
set_option maxRecDepth 100000
def zeroN : List AV := [.int .i64 0, .int .i64 0, .int .i64 0, .sl true []]
def lookM (mp : MP) (n : Int) : List AV := match afindI (keysM mp) n 0 with
  | some j => (match mp[j]? with | some x => x.2 | none => zeroN)
  | none => zeroN
def putS (mp : MP) (nn : Int) : Nat → List AV → List AV
  | D + 1, [.int _ k, .int _ n, .int _ m, .sl _ ps] => if k = 28 then wkL (lookM mp n) else [.int .i64 k, .int .i64 (if n = -100 then nn else n), .int .i64 m, .sl false (ps.map (putS mp nn D))]
  | _, _ => wkL zeroN
theorem lookM_node {E : Nat} (hE : 1 ≤ E) {mp : MP} (h : goodM E mp) (n : Int) : NodeV E (lookM mp n) := by
  unfold lookM
  have hz : NodeV E zeroN := (leafV 0 0 0 true).up hE
  split
  · split
    · rename_i x hx
      exact h x (List.mem_of_getElem? hx)
    · exact hz
  · exact hz
theorem putS_node {E : Nat} (hE : 1 ≤ E) {mp : MP} (h : goodM E mp) (nn : Int) : ∀ (D : Nat) (x : List AV), NodeV D x → NodeV (D + E) (putS mp nn D x)
  | 0, x, hx => by
    cases hx with
    | @mk _ d hd => exact absurd hd (Nat.not_lt_zero _)
  | D + 1, x, hx => by
    cases hx with
    | @mk _ d hd k n m b ps hl hh =>
    simp only [putS]
    split
    · exact (nodeV_wk (lookM_node hE h n)).up (by omega)
    · refine .mk (d := D + E) (hd := by omega) _ _ _ _ _ (by simpa using hl) fun e he => ?_
      obtain ⟨y, hy, rfl⟩ := List.mem_map.1 he
      exact putS_node hE h nn D y ((hh y hy).up (Nat.le_of_lt_succ hd))
theorem acc_cons {q : Nat} {app : List (List AV)} {m : Nat} (h : app.length = m + 1) : accV [] q 4 app = .osl q m 0 (m + 1) 4 false ∧ accRow [] app = .cells m app.flatten := by
  have hne : app ≠ [] := fun e => by rw [e] at h; cases h
  refine ⟨?_, ?_⟩
  · rw [accV, if_neg hne, h]; simp
  · rw [accRow, h]; simp
def putH (B : List ARow) (app : List (List AV)) : List ARow := if app = [] then B else B ++ [.dead, accRow [] app]
theorem map_takeF {f : List AV → List AV} {es : List (List AV)} {i : Nat} {e : List AV} (h : es[i]? = some e) : (es.take (i + 1)).map f = (es.take i).map f ++ [f e] := by
  rw [List.take_add_one, h]; simp
theorem wk_putS {E : Nat} (hE : 1 ≤ E) {mp : MP} (h : goodM E mp) (nn : Int) (D : Nat) (x : List AV) (hx : NodeV D x) : wkL (putS mp nn D x) = putS mp nn D x := by
  induction D generalizing x with
  | zero =>
    cases hx with
    | @mk _ d hd => exact absurd hd (Nat.not_lt_zero _)
  | succ D ih =>
    cases hx with
    | @mk _ d hd k n m b ps hl hh =>
    simp only [putS]
    split
    · exact wk_idem (lookM_node hE h n)
    · rw [wk_node, List.map_map]
      have : List.map (wkL ∘ putS mp nn D) ps = List.map (putS mp nn D) ps := List.map_congr_left fun e he => ih e ((hh e he).up (Nat.le_of_lt_succ hd))
      rw [this]
def PutC (E D : Nat) : Prop := ∀ (x : List AV), NodeV D x → ∀ (mp : MP), goodM E mp → ∀ (ck cn cm : Int) (cb : Bool) (ces : List (List AV)), NodeV E [.int .i64 ck, .int .i64 cn, .int .i64 cm, .sl cb ces] → ∀ rows : Nat → ARow,
  rows 1 = .cells 0 [.int .i64 ck, .int .i64 cn, .int .i64 cm, .sl cb ces] → rows 3 = mapRow mp → rows 4 = .cells 0 [.omp 3] → rows 5 = .cells 0 [.fn (.func 39) [] [.ptr 4 0 0, .ptr 1 0 0, .ptr 5 0 0]] →
  CallC Tryd.prog G0 39 [.agg x, .ptr 4 0 0, .ptr 1 0 0, .ptr 5 0 0] rows [1, 3, 4, 5] ⟨.agg (putS mp cn D x), []⟩
set_option maxHeartbeats 8000000 in
theorem put_39 {E : Nat} (hE : 1 ≤ E) : ∀ D : Nat, PutC E D
  | 0 => fun x hx => by
    cases hx with
    | @mk _ d hd => exact absurd hd (Nat.not_lt_zero _)
  | D + 1 => by
    intro x hx mp hm ck cn cm cb ces hc rows h1 h3 h4 h5
    have ih := put_39 hE (E := E) D
    have hot := (putS_node hE hm cn (D + 1) x hx).tree
    have hct := hc.tree
    cases hx with
    | @mk _ d hd k n m b ps hl hh =>
    have hps : ∀ e ∈ ps, NodeV D e := fun e he => (hh e he).up (Nat.le_of_lt_succ hd)
    generalize hres : putS mp cn (D + 1) [.int .i64 k, .int .i64 n, .int .i64 m, .sl b ps] = out at hot
    simp only [putS] at hres
    have ew1 : IntKind.i64.wrap 1 = 1 := rfl
    have m6 : ∀ x : List AV, inL noRef x = true → inL (fun r => decide (r < 6)) x = true := fun x => inL_mono (p := noRef) (fun r hr => by cases hr)
    refine callC_of_body [.dead, .cells 0 [.int .i64 ck, .int .i64 cn, .int .i64 cm, .sl cb ces], .dead, mapRow mp, .cells 0 [.omp 3], .cells 0 [.fn (.func 39) [] [.ptr 4 0 0, .ptr 1 0 0, .ptr 5 0 0]]] hG0 Tryd.func39 rfl (by kernel_rfl) (by simp [Tryd.ntmps39]) ?_ ?_ ?_ ?_ ?_ ?_ ?_
    · intro r hr
      simp only [List.mem_cons, List.not_mem_nil, or_false] at hr
      rcases hr with rfl | rfl | rfl | rfl
      · exact h1.symm
      · exact h3.symm
      · exact h4.symm
      · exact h5.symm
    · intro r hr
      match r, hr with
      | 0, _ => simp
      | 1, hr => exact absurd (by simp) hr
      | 2, _ => simp
      | 3, hr => exact absurd (by simp) hr
      | 4, hr => exact absurd (by simp) hr
      | 5, hr => exact absurd (by simp) hr
      | r + 6, _ => simp
    · simp only [inL, inR, List.length_cons, List.length_nil, Nat.reduceAdd, Nat.reduceLT, decide_true, Bool.true_and, Bool.and_true]
      exact inE_mono (p := noRef) (fun r hr => by cases hr) (nodes_tree hh)
    · intro r hr
      simp only [List.mem_cons, List.not_mem_nil, or_false] at hr
      rcases hr with rfl | rfl | rfl | rfl
      · rw [h1]; exact m6 _ hct
      · rw [h3]; exact mapRow_in hm
      · rw [h4]; rfl
      · rw [h5]; rfl
    · intro r hr h
      simp only [List.mem_cons, List.not_mem_nil, or_false] at hr
      simp only [List.length_cons, List.length_nil] at h
      omega
    · simp
    simp only [Tryd.ntmps39, enterF, Nat.reduceAdd, List.length_cons, List.length_nil]
    have post : ∀ s : AS, s.row 1 = .cells 0 [.int .i64 ck, .int .i64 cn, .int .i64 cm, .sl cb ces] → s.row 3 = mapRow mp → s.row 4 = .cells 0 [.omp 3] → s.row 5 = .cells 0 [.fn (.func 39) [] [.ptr 4 0 0, .ptr 1 0 0, .ptr 5 0 0]] → ∀ v, (v = .agg out ∨ AM.wk v = .agg out) → inR noRef v = true →
        (v = (Eff.mk (.agg out) []).val ∨ AM.wk v = (Eff.mk (.agg out) []).val) ∧ inR (fun r => [1, 3, 4, 5].contains r) v = true ∧ ∀ r ∈ [1, 3, 4, 5], s.row r = upd rows (Eff.mk (.agg out) []).wr r ∧ rowIn (fun r => [1, 3, 4, 5].contains r) (s.row r) = true := fun s a1 a3 a4 a5 v hv ht => by
      refine ⟨hv, inR_mono (p := noRef) (fun r hr => by cases hr) ht, fun r hr => ?_⟩
      simp only [List.mem_cons, List.not_mem_nil, or_false] at hr
      rcases hr with rfl | rfl | rfl | rfl
      · rw [a1]; exact ⟨h1.symm, inL_mono (p := noRef) (fun r hr => by cases hr) hct⟩
      · rw [a3]; exact ⟨h3.symm, mapRow_in hm⟩
      · rw [a4]; exact ⟨h4.symm, rfl⟩
      · rw [a5]; exact ⟨h5.symm, rfl⟩
    refine awp_end ?_
    by_cases hk : k = 28
    · have e28 : (k == 28) = true := by simp [hk]
      rw [if_pos hk] at hres
      have hln := lookM_node hE hm n
      have hcl := clone_40 E _ hln
      have hlt := (nodeV_wk hln).tree
      rw [hres] at hcl hlt
      have h4c : ∃ a b c e f, out = [.int .i64 a, .int .i64 b, .int .i64 c, .sl e f] := by
        have := nodeV_wk hln
        rw [hres] at this
        cases this with
        | @mk _ d hd _ _ _ _ _ => exact ⟨_, _, _, _, _, rfl⟩
      obtain ⟨oa, ob, oc, oe, of', rfl⟩ := h4c
      cases hf : afindI (keysM mp) n 0 with
      | some j =>
        have hj := afindI_lt _ _ _ _ hf
        rw [Nat.zero_add, keysM, List.length_map] at hj
        obtain ⟨y, hy⟩ : ∃ y, mp[j]? = some y := ⟨_, List.getElem?_eq_getElem hj⟩
        have hv := valsM_get hy
        have hlk : lookM mp n = y.2 := by unfold lookM; rw [hf]; simp only [hy]
        rw [hlk] at hcl
        repeat' (first | refine u'1 fun _ _ => ?_ | refine u'2 ?_ | (first | refine u'3 ?_ | refine u'4 ?_ | refine u'5 fun _ _ _ _ => ?_ | (refine u'6 (fun hg => ?_) (fun hg => ?_) <;> try simp only [hg])) <;> simp only [wS, simprocAttr, e28, mapRow, afind_int, hf, hv] | (refine u'7 ?_; try simp only [wE, simprocAttr]) | refine u'8 ?_ | refine u'9 ?_)
        refine callR_tree hG0 hcl ?_
        simp only [wS, simprocAttr, mapRow]
        repeat' (first | refine u'1 fun _ _ => ?_ | refine u'2 ?_ | (first | refine u'3 ?_ | refine u'4 ?_ | refine u'5 fun _ _ _ _ => ?_ | (refine u'6 (fun hg => ?_) (fun hg => ?_) <;> try simp only [hg])) <;> simp only [wS, simprocAttr, mapRow] | (refine u'7 ?_; try simp only [wE, simprocAttr]) | refine u'8 ?_ | refine u'9 ?_)
        refine ⟨_, ref_refl, body_retC (v := .agg [.int .i64 oa, .int .i64 ob, .int .i64 oc, .sl oe of']) rfl ?_ (post _ ?_ ?_ ?_ ?_ _ (.inl rfl) hlt)⟩ <;> (simp only [wS, simprocAttr, mapRow]; try exact rfl)
      | none =>
        have hlk : lookM mp n = zeroN := by unfold lookM; rw [hf]
        rw [hlk, zeroN] at hcl
        repeat' (first | refine u'1 fun _ _ => ?_ | refine u'2 ?_ | (first | refine u'3 ?_ | refine u'4 ?_ | refine u'5 fun _ _ _ _ => ?_ | (refine u'6 (fun hg => ?_) (fun hg => ?_) <;> try simp only [hg])) <;> simp only [wS, simprocAttr, e28, mapRow, afind_int, hf] | (refine u'7 ?_; try simp only [wE, simprocAttr]) | refine u'8 ?_ | refine u'9 ?_)
        refine callR_tree hG0 hcl ?_
        simp only [wS, simprocAttr, mapRow]
        repeat' (first | refine u'1 fun _ _ => ?_ | refine u'2 ?_ | (first | refine u'3 ?_ | refine u'4 ?_ | refine u'5 fun _ _ _ _ => ?_ | (refine u'6 (fun hg => ?_) (fun hg => ?_) <;> try simp only [hg])) <;> simp only [wS, simprocAttr, mapRow] | (refine u'7 ?_; try simp only [wE, simprocAttr]) | refine u'8 ?_ | refine u'9 ?_)
        refine ⟨_, ref_refl, body_retC (v := .agg [.int .i64 oa, .int .i64 ob, .int .i64 oc, .sl oe of']) rfl ?_ (post _ ?_ ?_ ?_ ?_ _ (.inl rfl) hlt)⟩ <;> (simp only [wS, simprocAttr, mapRow]; try exact rfl)
    · have e28 : (k == 28) = false := by simp [hk]
      rw [if_neg hk] at hres
      subst hres
      refine awp_seq_k fun K0 hK0 => ?_
      replace hK0 := And.intro trivial hK0
      repeat' (first | refine u'1 fun _ _ => ?_ | refine u'2 ?_ | (first | refine u'3 ?_ | refine u'4 ?_ | refine u'5 fun _ _ _ _ => ?_ | (refine u'6 (fun hg => ?_) (fun hg => ?_) <;> try simp only [hg])) <;> simp only [wS, simprocAttr, e28] | (refine u'7 ?_; try simp only [wE, simprocAttr]) | refine u'8 ?_ | refine u'9 ?_)
      refine hK0.2.go ?_
      refine awp_seq_k fun K1 hK1 => ?_
      replace hK1 := And.intro trivial hK1
      repeat' (first | refine u'1 fun _ _ => ?_ | refine u'2 ?_ | (first | refine u'3 ?_ | refine u'4 ?_ | refine u'5 fun _ _ _ _ => ?_ | (refine u'6 (fun hg => ?_) (fun hg => ?_) <;> try simp only [hg])) <;> simp only [wS, simprocAttr, e28] | (refine u'7 ?_; try simp only [wE, simprocAttr]) | refine u'8 ?_ | refine u'9 ?_)
      refine hK1.2.go ?_
      refine awp_seq_k fun K2 hK2 => ?_
      replace hK2 := And.intro trivial hK2
      repeat' (first | refine u'1 fun _ _ => ?_ | refine u'2 ?_ | (first | refine u'3 ?_ | refine u'4 ?_ | refine u'5 fun _ _ _ _ => ?_ | (refine u'6 (fun hg => ?_) (fun hg => ?_) <;> try simp only [hg])) <;> simp only [wS, simprocAttr] | (refine u'7 ?_; try simp only [wE, simprocAttr]) | refine u'8 ?_ | refine u'9 ?_)
      refine hK2.2.go ?_
      refine awp_seq_k fun K3 hK3 => ?_
      replace hK3 := And.intro trivial hK3
      obtain ⟨n', hn'⟩ : ∃ x : Int, x = (if n = -100 then cn else n) := ⟨_, rfl⟩
      rw [← hn'] at hot
      have hpn : ∀ e ∈ ps.map (putS mp cn D), NodeV (D + E) e := fun e he => by
        obtain ⟨y, hy, rfl⟩ := List.mem_map.1 he
        exact putS_node hE hm cn D y (hps y hy)
      have hxt : inL noRef [.int .i64 k, .int .i64 n, .int .i64 m, .sl b ps] = true := by simp only [inL, inR, nodes_tree hps, Bool.and_self]
      have key : ∀ s : AS, Ref G0 47 6 s ⟨mkF [(1, .ptr 4 0 0), (2, .ptr 1 0 0), (3, .ptr 5 0 0), (4, .ptr 6 0 0), (5, .ptr 7 0 0), (6, .ptr 8 0 0)], [.dead, .cells 0 [.int .i64 ck, .int .i64 cn, .int .i64 cm, .sl cb ces], .dead, mapRow mp, .cells 0 [.omp 3], .cells 0 [.fn (.func 39) [] [.ptr 4 0 0, .ptr 1 0 0, .ptr 5 0 0]], .cells 0 [.int .i64 k, .int .i64 n, .int .i64 m, .sl b ps], .cells 0 [.int .i64 0, .int .i64 0, .int .i64 0, .sl true []], .cells 0 [.int .i64 k, .int .i64 n', .int .i64 m, .sl true []]]⟩ → K3 s := by
        intro s hr
        refine hK3.2.go (awp_ref hr ?_)
        clear hr hK3 hK2 hK1 hK0
        repeat' (first | refine u'1 fun _ _ => ?_ | refine u'2 ?_ | (first | refine u'3 ?_ | refine u'4 ?_ | refine u'5 fun _ _ _ _ => ?_ | (refine u'6 (fun hg => ?_) (fun hg => ?_) <;> try simp only [hg])) <;> simp only [wS, simprocAttr] | (refine u'7 ?_; try simp only [wE, simprocAttr]) | refine u'8 ?_ | refine u'9 ?_)
        refine awp_loop_r (α := {i : Nat // i ≤ ps.length}) (fun i => [(1, .ptr 4 0 0), (2, .ptr 1 0 0), (3, .ptr 5 0 0), (5, .ptr 7 0 0), (6, .ptr 8 0 0), (31, .sl b ps), (32, .int .i64 (ps.length : Nat)), (33, .int .i64 (i.1 : Nat))]) (fun i => putH [.dead, .cells 0 [.int .i64 ck, .int .i64 cn, .int .i64 cm, .sl cb ces], .dead, mapRow mp, .cells 0 [.omp 3], .cells 0 [.fn (.func 39) [] [.ptr 4 0 0, .ptr 1 0 0, .ptr 5 0 0]], .cells 0 [.int .i64 k, .int .i64 n, .int .i64 m, .sl b ps], .cells 0 [.int .i64 0, .int .i64 0, .int .i64 0, .sl true []], .cells 0 [.int .i64 k, .int .i64 n', .int .i64 m, accV [] 10 4 ((ps.take i.1).map (putS mp cn D))]] ((ps.take i.1).map (putS mp cn D))) (fun i => ps.length - i.1) ⟨0, Nat.zero_le _⟩ (Weak.ref ⟨?_, .inl ?_⟩) ?_
        · simp only [wS, simprocAttr]; try exact rfl
        · simp only [wS, simprocAttr]; try exact rfl
        · rintro ⟨i, hi⟩ K4 hK4
          have e3 : i < ps.length → IntKind.i64.wrap ((i : Int) + 1) = ((i + 1 : Nat) : Int) := fun h => wrap_succ (k := i) h (by omega)
          have hlm : ((ps.take i).map (putS mp cn D)).length = i := by rw [List.length_map, List.length_take]; omega
          rcases i with _ | q
          · simp only [List.take_zero, List.map_nil, putH, if_true, accV_nil]
            repeat' (first | refine u'1 fun _ _ => ?_ | refine u'2 ?_ | (first | refine u'3 ?_ | refine u'4 ?_ | refine u'5 fun _ _ _ _ => ?_ | (refine u'6 (fun hg => ?_) (fun hg => ?_) <;> try simp only [hg])) <;> simp only [wS, simprocAttr] | (refine u'7 ?_; try simp only [wE, simprocAttr]) | refine u'8 ?_ | refine u'9 ?_)
            refine ⟨fun h => ?_, fun h => ?_⟩
            · have hlt : 0 < ps.length := by simpa using h
              obtain ⟨e, he⟩ : ∃ e, ps[0]? = some e := ⟨_, List.getElem?_eq_getElem hlt⟩
              have hne := hps e (List.mem_of_getElem? he)
              have hce := fun rows h1 h3 h4 h5 => ih e hne mp hm ck cn cm cb ces hc rows h1 h3 h4 h5
              have htk := map_takeF (f := putS mp cn D) he
              have hnp := putS_node hE hm cn D e hne
              generalize putS mp cn D e = oe at hce htk hnp
              cases hne with
              | @mk _ d2 hd2 k2 n2 m2 b2 es2 hl2 hh2 =>
              cases hnp with
              | @mk _ d3 hd3 k3 n3 m3 b3 es3 hl3 hh3 =>
              repeat' (first | refine u'1 fun _ _ => ?_ | refine u'2 ?_ | (first | refine u'3 ?_ | refine u'4 ?_ | refine u'5 fun _ _ _ _ => ?_ | (refine u'6 (fun hg => ?_) (fun hg => ?_) <;> try simp only [hg])) <;> simp only [wS, simprocAttr, he, hlt] | (refine u'7 ?_; try simp only [wE, simprocAttr]) | refine u'8 ?_ | refine u'9 ?_)
              refine ⟨_, _, hce _ (by simp only [wS, simprocAttr]) (by simp only [wS, simprocAttr]) (by simp only [wS, simprocAttr]) (by simp only [wS, simprocAttr]), ?_⟩
              simp only [wS, simprocAttr]
              refine eff_new (sz := 4) (by' := 48) (mm := 1) (new := [.int .i64 k3, .int .i64 n3, .int .i64 m3, .sl b3 es3]) (es := []) (by kernel_rfl) ?hb (by simp) ?hc (by decide) (by simp) ?_
              case hb => simp only [wS, simprocAttr]; try exact rfl
              case hc => simp [srcA]
              simp only [wS, simprocAttr]
              refine ⟨by kernel_rfl, ?_⟩
              repeat' (first | refine u'1 fun _ _ => ?_ | refine u'2 ?_ | (first | refine u'3 ?_ | refine u'4 ?_ | refine u'5 fun _ _ _ _ => ?_ | (refine u'6 (fun hg => ?_) (fun hg => ?_) <;> try simp only [hg])) <;> simp only [wS, simprocAttr, e3 hlt, ew1] | (refine u'7 ?_; try simp only [wE, simprocAttr]) | refine u'8 ?_ | refine u'9 ?_)
              refine hK4.go ⟨1, hlt⟩ (ref_kill 9 _ (H := [.dead, .cells 0 [.int .i64 ck, .int .i64 cn, .int .i64 cm, .sl cb ces], .dead, mapRow mp, .cells 0 [.omp 3], .cells 0 [.fn (.func 39) [] [.ptr 4 0 0, .ptr 1 0 0, .ptr 5 0 0]], .cells 0 [.int .i64 k, .int .i64 n, .int .i64 m, .sl b ps], .cells 0 [.int .i64 0, .int .i64 0, .int .i64 0, .sl true []], .cells 0 [.int .i64 k, .int .i64 n', .int .i64 m, .osl 10 0 0 1 4 false], .cells 0 [.int .i64 k2, .int .i64 n2, .int .i64 m2, .sl b2 es2], .cells 0 [.int .i64 k3, .int .i64 n3, .int .i64 m3, .sl b3 es3]]) ?_ (by simp) (by simp) ?_ ?_) (by simp only; omega)
              · simp only [wS, simprocAttr]; try exact rfl
              · simp only [wS, simprocAttr]; try exact rfl
              · simp only [htk, List.take_zero, List.map_nil, List.nil_append]; rfl
            · have hge : ps = [] := by simpa using h
              subst hge
              repeat' (first | refine u'1 fun _ _ => ?_ | refine u'2 ?_ | (first | refine u'3 ?_ | refine u'4 ?_ | refine u'5 fun _ _ _ _ => ?_ | (refine u'6 (fun hg => ?_) (fun hg => ?_) <;> try simp only [hg])) <;> simp only [wS, simprocAttr] | (refine u'7 ?_; try simp only [wE, simprocAttr]) | refine u'8 ?_ | refine u'9 ?_)
              refine ⟨_, ref_refl, body_retC (v := .agg [.int .i64 k, .int .i64 n', .int .i64 m, .sl true []]) rfl ?_ (post _ ?_ ?_ ?_ ?_ _ (.inr (by rw [← hn']; rfl)) rfl)⟩ <;> (simp only [wS, simprocAttr]; try exact rfl)
          · obtain ⟨hv, har⟩ := acc_cons (q := 10) hlm
            have hne0 : (ps.take (q + 1)).map (putS mp cn D) ≠ [] := fun e => by rw [e] at hlm; cases hlm
            simp only [putH, if_neg hne0, hv, har, List.cons_append, List.nil_append]
            repeat' (first | refine u'1 fun _ _ => ?_ | refine u'2 ?_ | (first | refine u'3 ?_ | refine u'4 ?_ | refine u'5 fun _ _ _ _ => ?_ | (refine u'6 (fun hg => ?_) (fun hg => ?_) <;> try simp only [hg])) <;> simp only [wS, simprocAttr] | (refine u'7 ?_; try simp only [wE, simprocAttr]) | refine u'8 ?_ | refine u'9 ?_)
            refine ⟨fun h => ?_, fun h => ?_⟩
            · have hlt : q + 1 < ps.length := by simp at h; omega
              obtain ⟨e, he⟩ : ∃ e, ps[q + 1]? = some e := ⟨_, List.getElem?_eq_getElem hlt⟩
              have hne := hps e (List.mem_of_getElem? he)
              have hce := fun rows h1 h3 h4 h5 => ih e hne mp hm ck cn cm cb ces hc rows h1 h3 h4 h5
              have htk := map_takeF (f := putS mp cn D) he
              have hnp := putS_node hE hm cn D e hne
              generalize putS mp cn D e = oe at hce htk hnp
              cases hne with
              | @mk _ d2 hd2 k2 n2 m2 b2 es2 hl2 hh2 =>
              cases hnp with
              | @mk _ d3 hd3 k3 n3 m3 b3 es3 hl3 hh3 =>
              repeat' (first | refine u'1 fun _ _ => ?_ | refine u'2 ?_ | (first | refine u'3 ?_ | refine u'4 ?_ | refine u'5 fun _ _ _ _ => ?_ | (refine u'6 (fun hg => ?_) (fun hg => ?_) <;> try simp only [hg])) <;> simp only [wS, simprocAttr, he, hlt] | (refine u'7 ?_; try simp only [wE, simprocAttr]) | refine u'8 ?_ | refine u'9 ?_)
              refine ⟨_, _, hce _ (by simp only [wS, simprocAttr]) (by simp only [wS, simprocAttr]) (by simp only [wS, simprocAttr]) (by simp only [wS, simprocAttr]), ?_⟩
              simp only [wS, simprocAttr]
              refine eff_own (cs := ((ps.take (q + 1)).map (putS mp cn D)).flatten) (sz := 4) (by' := 48) (mm := 1) (new := [.int .i64 k3, .int .i64 n3, .int .i64 m3, .sl b3 es3]) (by kernel_rfl) ?hb ?hc ?hd (by omega) ?_
              case hb => simp only [wS, simprocAttr]
              case hc => rw [flat_sz (sz := 4) fun e he => (hpn e (List.mem_map.2 (by obtain ⟨x, hx, rfl⟩ := List.mem_map.1 he; exact ⟨x, List.mem_of_mem_take hx, rfl⟩))).len, hlm]
              case hd => simp [srcA]
              simp only [wS, simprocAttr]
              refine ⟨by kernel_rfl, ?_⟩
              repeat' (first | refine u'1 fun _ _ => ?_ | refine u'2 ?_ | (first | refine u'3 ?_ | refine u'4 ?_ | refine u'5 fun _ _ _ _ => ?_ | (refine u'6 (fun hg => ?_) (fun hg => ?_) <;> try simp only [hg])) <;> simp only [wS, simprocAttr, e3 hlt, ew1] | (refine u'7 ?_; try simp only [wE, simprocAttr]) | refine u'8 ?_ | refine u'9 ?_)
              have hlm2 : ((ps.take (q + 1 + 1)).map (putS mp cn D)).length = q + 1 + 1 := by rw [List.length_map, List.length_take]; omega
              obtain ⟨hv2, har2⟩ := acc_cons (q := 10) hlm2
              have hne2 : (ps.take (q + 1 + 1)).map (putS mp cn D) ≠ [] := fun e => by rw [e] at hlm2; cases hlm2
              have hH2 : ∀ B, putH B ((ps.take (q + 1 + 1)).map (putS mp cn D)) = B ++ [.dead, accRow [] ((ps.take (q + 1 + 1)).map (putS mp cn D))] := fun B => by rw [putH, if_neg hne2]
              have htr2 : inE noRef ((ps.take (q + 1 + 1)).map (putS mp cn D)) = true := nodes_tree (D := D + E) fun e he => hpn e (by obtain ⟨x, hx, rfl⟩ := List.mem_map.1 he; exact List.mem_map.2 ⟨x, List.mem_of_mem_take hx, rfl⟩)
              refine hK4.go ⟨q + 1 + 1, hlt⟩ (Weak.ref ⟨?_, .inr ⟨?_, ?_, ?_, ?_, ?_⟩⟩) (by simp only; omega)
              · simp only [wS, simprocAttr]; try exact rfl
              · simp only [hH2]; simp
              · rw [htk] at hv2 har2 hH2
                simp only [htk, hv2, hH2, har2, List.flatten_append, List.flatten_cons, List.flatten_nil, List.append_nil]
                simp only [wS, simprocAttr]; try exact rfl
              · exact fun g cs hg => inL_mono (p := noRef) (fun r hr => by cases hr) (hG0 g cs hg)
              · simp only [hH2]
                intro z hz
                simp only [List.mem_cons, List.not_mem_nil, or_false] at hz
                rcases hz with rfl | rfl | rfl | rfl | rfl | rfl | rfl | rfl <;> first | rfl | exact inE_mono (p := noRef) (fun r hr => by cases hr) (nodes_tree hh)
              · simp only [hH2, hv2, List.cons_append, List.nil_append, List.all_cons, List.all_nil, Bool.and_true, Bool.and_eq_true]
                exact ⟨rfl, inL_mono (p := noRef) (fun r hr => by cases hr) hct, rfl, mapRow_in hm, rfl, rfl, inL_mono (p := noRef) (fun r hr => by cases hr) hxt, rfl, rfl, rfl, accRow_in htr2⟩
            · have hge : ps.length = q + 1 := by simp at h; omega
              have hta : ps.take (q + 1) = ps := by rw [← hge, List.take_length]
              repeat' (first | refine u'1 fun _ _ => ?_ | refine u'2 ?_ | (first | refine u'3 ?_ | refine u'4 ?_ | refine u'5 fun _ _ _ _ => ?_ | (refine u'6 (fun hg => ?_) (fun hg => ?_) <;> try simp only [hg])) <;> simp only [wS, simprocAttr] | (refine u'7 ?_; try simp only [wE, simprocAttr]) | refine u'8 ?_ | refine u'9 ?_)
              rw [hta] at *
              refine ⟨_, ref_freeze [10] [(5, .ptr 7 0 0)] [.dead, .cells 0 [.int .i64 ck, .int .i64 cn, .int .i64 cm, .sl cb ces], .dead, mapRow mp, .cells 0 [.omp 3], .cells 0 [.fn (.func 39) [] [.ptr 4 0 0, .ptr 1 0 0, .ptr 5 0 0]], .cells 0 [.int .i64 k, .int .i64 n, .int .i64 m, .sl b ps], .cells 0 [.int .i64 k, .int .i64 n', .int .i64 m, .sl false (ps.map (putS mp cn D))], .cells 0 [.int .i64 k, .int .i64 n', .int .i64 m, .osl 10 q 0 (q + 1) 4 false], .dead, .dead] rfl ⟨.inl ?_, trivial⟩ ?_, body_retC (v := .agg [.int .i64 k, .int .i64 n', .int .i64 m, .sl false (ps.map (putS mp cn D))]) rfl ?_ (post _ ?_ ?_ ?_ ?_ _ (.inl (by rw [← hn'])) hot)⟩
              · simp only [wS, simprocAttr]
              · simp only [wS, simprocAttr]
                refine ⟨.inr ⟨by simp, .inl rfl⟩, .inr ⟨by simp, .inl rfl⟩, .inr ⟨by simp, .inl rfl⟩, .inr ⟨by simp, .inl rfl⟩, .inr ⟨by simp, .inl rfl⟩, .inr ⟨by simp, .inl rfl⟩, .inr ⟨by simp, .inl rfl⟩, .inr ⟨by simp, .inr ⟨0, _, _, rfl, rfl, .inl rfl, .inl rfl, .inl rfl, .inr (.osl (cs := (ps.map (putS mp cn D)).flatten) (by simp) (by simp only [wS, simprocAttr]) (by rw [List.length_map, hge]) (fun e he => (hpn e he).len) ?_ (nodes_tree hpn)), trivial⟩⟩, .inr ⟨by simp, .inl rfl⟩, .inr ⟨by simp, .inl rfl⟩, .inl ⟨by simp, rfl, by simp⟩, trivial⟩
                rw [List.drop_zero, List.take_of_length_le (by rw [flat_sz (sz := 4) fun e he => (hpn e he).len, List.length_map, hge]; omega)]
              all_goals (simp only [wS, simprocAttr]; try exact rfl)
      clear hK3 hK2 hK1 hK0
      by_cases h100 : n = -100
      · have f1 : (n == -100) = true := by simpa using h100
        rw [if_pos h100] at hn'
        subst hn'
        repeat' (first | refine u'1 fun _ _ => ?_ | refine u'2 ?_ | (first | refine u'3 ?_ | refine u'4 ?_ | refine u'5 fun _ _ _ _ => ?_ | (refine u'6 (fun hg => ?_) (fun hg => ?_) <;> try simp only [hg])) <;> simp only [wS, simprocAttr, f1] | (refine u'7 ?_; try simp only [wE, simprocAttr]) | refine u'8 ?_ | refine u'9 ?_)
        refine key _ (Weak.ref ⟨?_, .inl ?_⟩)
        · simp only [wS, simprocAttr]; try exact rfl
        · simp only [wS, simprocAttr]; try exact rfl
      · have f1 : (n == -100) = false := by simpa using h100
        rw [if_neg h100] at hn'
        subst hn'
        repeat' (first | refine u'1 fun _ _ => ?_ | refine u'2 ?_ | (first | refine u'3 ?_ | refine u'4 ?_ | refine u'5 fun _ _ _ _ => ?_ | (refine u'6 (fun hg => ?_) (fun hg => ?_) <;> try simp only [hg])) <;> simp only [wS, simprocAttr, f1] | (refine u'7 ?_; try simp only [wE, simprocAttr]) | refine u'8 ?_ | refine u'9 ?_)
        refine key _ (Weak.ref ⟨?_, .inl ?_⟩)
        · simp only [wS, simprocAttr]; try exact rfl
        · simp only [wS, simprocAttr]; try exact rfl
end Go.Proofs.YtpdibmopbpcfdaaDoor
