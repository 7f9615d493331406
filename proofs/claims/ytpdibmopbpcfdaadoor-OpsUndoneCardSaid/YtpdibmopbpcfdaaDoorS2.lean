import Derived.Test.YtpdibmopbpcfdaaDoorS1
set_option linter.unusedVariables false
set_option linter.unusedSimpArgs false
namespace Go.Proofs.YtpdibmopbpcfdaaDoor
open Go.AM
set_option maxRecDepth 100000
theorem nodeV_wk {D : Nat} {c : List AV} (h : NodeV D c) : NodeV D (wkL c) := by
  induction h with
  | @mk D d hd k n m b es hl h ih =>
    simp only [wkL, AM.wk, wkE_eq]
    refine .mk (hd := hd) _ _ _ _ _ (by simpa using hl) fun e he => ?_
    obtain ⟨e', he', rfl⟩ := List.mem_map.1 he
    exact ih e' he'
theorem wk_node (k n m : Int) (b : Bool) (es : List (List AV)) : wkL [.int .i64 k, .int .i64 n, .int .i64 m, .sl b es] = [.int .i64 k, .int .i64 n, .int .i64 m, .sl false (es.map wkL)] := by simp only [wkL, AM.wk, wkE_eq]
theorem map_take {es : List (List AV)} {i : Nat} {e : List AV} (h : es[i]? = some e) : (es.take (i + 1)).map wkL = (es.take i).map wkL ++ [wkL e] := by
  rw [List.take_add_one, h]; simp
theorem nodes_wk {D : Nat} {es : List (List AV)} (h : ∀ e ∈ es, NodeV D e) : ∀ e ∈ es.map wkL, NodeV D e := fun e he => by
  obtain ⟨x, hx, rfl⟩ := List.mem_map.1 he
  exact nodeV_wk (h x hx)
def kidV (app : List (List AV)) : AV := accV [] 3 4 app
def kidH (r0 r1 : ARow) (app : List (List AV)) : List ARow := if app = [] then [r0, r1] else [r0, r1, .dead, accRow [] app]
theorem ref_refl [Rnd] {n k : Nat} {s : AS} : Ref G0 n k s s := fun E a i => ⟨E, rfl, (Ext.refl E).toK k, i⟩
theorem wk_idem {D : Nat} {c : List AV} (h : NodeV D c) : wkL (wkL c) = wkL c := by
  induction h with
  | @mk D d hd k n m b es hl h ih =>
    rw [wk_node, wk_node, List.map_map]
    have : List.map (wkL ∘ wkL) es = List.map wkL es := List.map_congr_left fun e he => ih e he
    rw [this]
theorem wk_idems {D : Nat} {es : List (List AV)} (h : ∀ e ∈ es, NodeV D e) : (es.map wkL).map wkL = es.map wkL := by
  rw [List.map_map]
  exact List.map_congr_left fun e he => wk_idem (h e he)
theorem body_retC {P : Program} {fn : Func} {Rp : AV → AS → Prop} {s : AS} {t : Tmp} {ty : TypeId} {v : AV} (h : fn.results = #[.cell t ty]) (hl : aLoad P ty (s.get t) s.row = some v) (hR : Rp v s) : bodyA P fn Rp .ret s := ⟨v, by simp [aResults, aResultL, aResult, h, hl], hR⟩
theorem ref_kill [Rnd] {n k : Nat} {s : AS} (q : Nat) (l : List (Nat × AV)) {H H' : List ARow} (hh : s.h = H) (hq : H.getD q .none ≠ .none) (hlt : q < H.length) (hl : holdsF l s.get) (he : deadH [q] 0 H = H') : Ref G0 n k s ⟨mkF l, H'⟩ := by
  subst he hh
  exact ref_freeze [q] l _ (by simpa using hlt) (frzF_same hl) (frzH_dead 0 s.h fun i hi _ => by
    have : i = q := by simpa using hi
    subst this
    exact hq)
theorem kids_nil : kidV [] = .sl true [] ∧ ∀ r0 r1, kidH r0 r1 [] = [r0, r1] := ⟨rfl, fun _ _ => rfl⟩
theorem kids_cons {app : List (List AV)} {m : Nat} (h : app.length = m + 1) : kidV app = .osl 3 m 0 (m + 1) 4 false ∧ accRow [] app = .cells m app.flatten ∧ ∀ r0 r1, kidH r0 r1 app = [r0, r1, .dead, accRow [] app] := by
  have hne : app ≠ [] := fun e => by rw [e] at h; cases h
  refine ⟨?_, ?_, fun r0 r1 => by rw [kidH, if_neg hne]⟩
  · rw [kidV, accV, if_neg hne, h]; simp
  · rw [accRow, h]; simp
set_option maxHeartbeats 4000000 in
theorem copied_37 : ∀ (D : Nat) (c : List AV), NodeV D c → Pure Tryd.prog G0 37 [.agg c] (.agg (wkL c))
  | 0, c, hc => by
    cases hc with
    | @mk _ d hd => exact absurd hd (Nat.not_lt_zero _)
  | D + 1, c, hc => by
    have hct := hc.tree
    have hwt := (nodeV_wk hc).tree
    have ih := copied_37 D
    cases hc with
    | @mk _ d hd kk nn mm bb es hl hh =>
    have hes : ∀ e ∈ es, NodeV D e := fun e he => (hh e he).up (Nat.le_of_lt_succ hd)
    refine pure_of_bodyW hG0 Tryd.func37 rfl (by kernel_rfl) (by simp [Tryd.ntmps37]) (by simp only [inL, inR, nodes_tree hh, Bool.and_self]) (by simp only [inR]; exact hwt) ?_
    simp only [Tryd.ntmps37, enterF, Nat.reduceAdd]
    refine awp_end ?_
    have ew1 : IntKind.i64.wrap 1 = 1 := rfl
    repeat' (first | refine u'1 fun _ _ => ?_ | refine u'2 ?_ | (first | refine u'3 ?_ | refine u'4 ?_ | refine u'5 fun _ _ _ _ => ?_ | (refine u'6 (fun hg => ?_) (fun hg => ?_) <;> try simp only [hg])) <;> simp only [wS, simprocAttr] | (refine u'7 ?_; try simp only [wE, simprocAttr]) | refine u'8 ?_ | refine u'9 ?_)
    refine awp_loop_r (α := {i : Nat // i ≤ es.length}) (fun i => [(1, .ptr 0 0 0), (2, .ptr 1 0 0), (9, .sl bb es), (10, .int .i64 (es.length : Nat)), (11, .int .i64 (i.1 : Nat))]) (fun i => kidH (.cells 0 [.int .i64 kk, .int .i64 nn, .int .i64 mm, kidV ((es.take i.1).map wkL)]) (.cells 0 [.int .i64 0, .int .i64 0, .int .i64 0, .sl true []]) ((es.take i.1).map wkL)) (fun i => es.length - i.1) ⟨0, Nat.zero_le _⟩ (Weak.ref ⟨?_, .inl ?_⟩) ?_
    · simp only [wS, simprocAttr]; try exact rfl
    · simp only [wS, simprocAttr]; try exact rfl
    · rintro ⟨i, hi⟩ K3 hK3
      have e3 : i < es.length → IntKind.i64.wrap ((i : Int) + 1) = ((i + 1 : Nat) : Int) := fun h => wrap_succ (k := i) h (by omega)
      have hlm : ((es.take i).map wkL).length = i := by rw [List.length_map, List.length_take]; omega
      rcases i with _ | m
      · simp only [List.take_zero, List.map_nil, kids_nil.1, kids_nil.2]
        repeat' (first | refine u'1 fun _ _ => ?_ | refine u'2 ?_ | (first | refine u'3 ?_ | refine u'4 ?_ | refine u'5 fun _ _ _ _ => ?_ | (refine u'6 (fun hg => ?_) (fun hg => ?_) <;> try simp only [hg])) <;> simp only [wS, simprocAttr] | (refine u'7 ?_; try simp only [wE, simprocAttr]) | refine u'8 ?_ | refine u'9 ?_)
        refine ⟨fun h => ?_, fun h => ?_⟩
        · have hlt : 0 < es.length := by simpa using h
          obtain ⟨e, he⟩ : ∃ e, es[0]? = some e := ⟨_, List.getElem?_eq_getElem hlt⟩
          have hne := hes e (List.mem_of_getElem? he)
          have hce := ih e hne
          have htk := map_take he
          have hct2 := (nodeV_wk hne).tree
          cases hne with
          | @mk _ d2 hd2 k2 n2 m2 b2 es2 hl2 hh2 =>
          rw [wk_node] at hce htk hct2
          repeat' (first | refine u'1 fun _ _ => ?_ | refine u'2 ?_ | (first | refine u'3 ?_ | refine u'4 ?_ | refine u'5 fun _ _ _ _ => ?_ | (refine u'6 (fun hg => ?_) (fun hg => ?_) <;> try simp only [hg])) <;> simp only [wS, simprocAttr, he, hlt] | (refine u'7 ?_; try simp only [wE, simprocAttr]) | refine u'8 ?_ | refine u'9 ?_)
          refine callR_tree hG0 hce ?_
          simp only [wS, simprocAttr]
          refine eff_new (sz := 4) (by' := 48) (mm := 1) (new := [.int .i64 k2, .int .i64 n2, .int .i64 m2, .sl false (es2.map wkL)]) (es := []) (by kernel_rfl) ?hb (by simp) ?hc (by decide) (by simp) ?_
          case hb => simp only [wS, simprocAttr]; try exact rfl
          case hc => simp [srcA]
          simp only [wS, simprocAttr]
          repeat' (first | refine u'1 fun _ _ => ?_ | refine u'2 ?_ | (first | refine u'3 ?_ | refine u'4 ?_ | refine u'5 fun _ _ _ _ => ?_ | (refine u'6 (fun hg => ?_) (fun hg => ?_) <;> try simp only [hg])) <;> simp only [wS, simprocAttr, e3 hlt] | (refine u'7 ?_; try simp only [wE, simprocAttr]) | refine u'8 ?_ | refine u'9 ?_)
          refine ⟨by kernel_rfl, ?_⟩
          repeat' (first | refine u'1 fun _ _ => ?_ | refine u'2 ?_ | (first | refine u'3 ?_ | refine u'4 ?_ | refine u'5 fun _ _ _ _ => ?_ | (refine u'6 (fun hg => ?_) (fun hg => ?_) <;> try simp only [hg])) <;> simp only [wS, simprocAttr, e3 hlt, ew1] | (refine u'7 ?_; try simp only [wE, simprocAttr]) | refine u'8 ?_ | refine u'9 ?_)
          refine hK3.go ⟨1, hlt⟩ (ref_kill 2 _ (H := [.cells 0 [.int .i64 kk, .int .i64 nn, .int .i64 mm, .osl 3 0 0 1 4 false], .cells 0 [.int .i64 0, .int .i64 0, .int .i64 0, .sl true []], .cells 0 [.int .i64 k2, .int .i64 n2, .int .i64 m2, .sl b2 es2], .cells 0 [.int .i64 k2, .int .i64 n2, .int .i64 m2, .sl false (es2.map wkL)]]) ?_ (by simp) (by simp) ?_ ?_) (by simp only; omega)
          · simp only [wS, simprocAttr]; try exact rfl
          · simp only [wS, simprocAttr]; try exact rfl
          · simp only [htk, List.take_zero, List.map_nil, List.nil_append]; rfl
        · have hge : es = [] := by simpa using h
          subst hge
          repeat' (first | refine u'1 fun _ _ => ?_ | refine u'2 ?_ | (first | refine u'3 ?_ | refine u'4 ?_ | refine u'5 fun _ _ _ _ => ?_ | (refine u'6 (fun hg => ?_) (fun hg => ?_) <;> try simp only [hg])) <;> simp only [wS, simprocAttr] | (refine u'7 ?_; try simp only [wE, simprocAttr]) | refine u'8 ?_ | refine u'9 ?_)
          refine ⟨_, ref_refl, body_retC (v := .agg [.int .i64 kk, .int .i64 nn, .int .i64 mm, .sl true []]) rfl ?_ ?_⟩
          · simp only [wS, simprocAttr]
          · rw [wk_node]; rfl
      · obtain ⟨hv, har, hH⟩ := kids_cons hlm
        simp only [hv, hH, har]
        repeat' (first | refine u'1 fun _ _ => ?_ | refine u'2 ?_ | (first | refine u'3 ?_ | refine u'4 ?_ | refine u'5 fun _ _ _ _ => ?_ | (refine u'6 (fun hg => ?_) (fun hg => ?_) <;> try simp only [hg])) <;> simp only [wS, simprocAttr] | (refine u'7 ?_; try simp only [wE, simprocAttr]) | refine u'8 ?_ | refine u'9 ?_)
        refine ⟨fun h => ?_, fun h => ?_⟩
        · have hlt : m + 1 < es.length := by simp at h; omega
          obtain ⟨e, he⟩ : ∃ e, es[m + 1]? = some e := ⟨_, List.getElem?_eq_getElem hlt⟩
          have hne := hes e (List.mem_of_getElem? he)
          have hce := ih e hne
          have htk := map_take he
          have hct2 := (nodeV_wk hne).tree
          cases hne with
          | @mk _ d2 hd2 k2 n2 m2 b2 es2 hl2 hh2 =>
          rw [wk_node] at hce htk hct2
          repeat' (first | refine u'1 fun _ _ => ?_ | refine u'2 ?_ | (first | refine u'3 ?_ | refine u'4 ?_ | refine u'5 fun _ _ _ _ => ?_ | (refine u'6 (fun hg => ?_) (fun hg => ?_) <;> try simp only [hg])) <;> simp only [wS, simprocAttr, he, hlt] | (refine u'7 ?_; try simp only [wE, simprocAttr]) | refine u'8 ?_ | refine u'9 ?_)
          refine callR_tree hG0 hce ?_
          simp only [wS, simprocAttr]
          refine eff_own (cs := ((es.take (m + 1)).map wkL).flatten) (sz := 4) (by' := 48) (mm := 1) (new := [.int .i64 k2, .int .i64 n2, .int .i64 m2, .sl false (es2.map wkL)]) (by kernel_rfl) ?hb ?hc ?hd (by omega) ?_
          case hb => simp only [wS, simprocAttr]
          case hc => rw [flat_sz (sz := 4) fun e he => (nodes_wk hes e (List.mem_map.2 (by obtain ⟨x, hx, rfl⟩ := List.mem_map.1 he; exact ⟨x, List.mem_of_mem_take hx, rfl⟩))).len, hlm]
          case hd => simp [srcA]
          simp only [wS, simprocAttr]
          repeat' (first | refine u'1 fun _ _ => ?_ | refine u'2 ?_ | (first | refine u'3 ?_ | refine u'4 ?_ | refine u'5 fun _ _ _ _ => ?_ | (refine u'6 (fun hg => ?_) (fun hg => ?_) <;> try simp only [hg])) <;> simp only [wS, simprocAttr, e3 hlt] | (refine u'7 ?_; try simp only [wE, simprocAttr]) | refine u'8 ?_ | refine u'9 ?_)
          refine ⟨by kernel_rfl, ?_⟩
          repeat' (first | refine u'1 fun _ _ => ?_ | refine u'2 ?_ | (first | refine u'3 ?_ | refine u'4 ?_ | refine u'5 fun _ _ _ _ => ?_ | (refine u'6 (fun hg => ?_) (fun hg => ?_) <;> try simp only [hg])) <;> simp only [wS, simprocAttr, e3 hlt] | (refine u'7 ?_; try simp only [wE, simprocAttr]) | refine u'8 ?_ | refine u'9 ?_)
          have hlm2 : ((es.take (m + 1 + 1)).map wkL).length = m + 1 + 1 := by rw [List.length_map, List.length_take]; omega
          obtain ⟨hv2, har2, hH2⟩ := kids_cons hlm2
          refine hK3.go ⟨m + 1 + 1, hlt⟩ (Weak.ref ⟨?_, .inr ⟨Nat.zero_le _, ?_, ?_, ?_, ?_⟩⟩) (by simp only; omega)
          · simp only [wS, simprocAttr]; try exact rfl
          · rw [htk] at hv2 har2 hH2
            simp only [htk, hv2, hH2, har2, List.flatten_append, List.flatten_cons, List.flatten_nil, List.append_nil]
            simp only [wS, simprocAttr]; try exact rfl
          · exact fun g cs hg => inL_mono (p := noRef) (fun r hr => by cases hr) (hG0 g cs hg)
          · simp only [hH2]
            intro z hz
            simp only [List.mem_cons, List.not_mem_nil, or_false] at hz
            rcases hz with rfl | rfl | rfl | rfl | rfl <;> first | rfl | exact inE_mono (p := noRef) (fun r hr => by cases hr) (nodes_tree hh)
          · simp only [hH2, hv2, List.all_cons, List.all_nil, Bool.and_true, Bool.and_eq_true]
            exact ⟨rfl, rfl, rfl, accRow_in (nodes_tree (nodes_wk fun e he => hes e (List.mem_of_mem_take he)))⟩
        · have hge : es.length = m + 1 := by simp at h; omega
          have hta : es.take (m + 1) = es := by rw [← hge, List.take_length]
          repeat' (first | refine u'1 fun _ _ => ?_ | refine u'2 ?_ | (first | refine u'3 ?_ | refine u'4 ?_ | refine u'5 fun _ _ _ _ => ?_ | (refine u'6 (fun hg => ?_) (fun hg => ?_) <;> try simp only [hg])) <;> simp only [wS, simprocAttr] | (refine u'7 ?_; try simp only [wE, simprocAttr]) | refine u'8 ?_ | refine u'9 ?_)
          rw [hta] at *
          refine ⟨_, ref_freeze [3] [(2, .ptr 1 0 0)] [.cells 0 [.int .i64 kk, .int .i64 nn, .int .i64 mm, .osl 3 m 0 (m + 1) 4 false], .cells 0 [.int .i64 kk, .int .i64 nn, .int .i64 mm, .sl false (es.map wkL)], .dead, .dead] rfl ⟨.inl ?_, trivial⟩ ?_, body_retC (v := .agg [.int .i64 kk, .int .i64 nn, .int .i64 mm, .sl false (es.map wkL)]) rfl ?_ ?_⟩
          · simp only [wS, simprocAttr]
          · refine ⟨.inr ⟨by simp, .inl rfl⟩, .inr ⟨by simp, .inr ⟨0, _, _, rfl, rfl, .inl rfl, .inl rfl, .inl rfl, .inr (.osl (cs := (es.map wkL).flatten) (by simp) (by simp only [wS, simprocAttr]) (by rw [List.length_map, hge]) (fun e he => (nodes_wk hes e he).len) ?_ (nodes_tree (nodes_wk hes))), trivial⟩⟩, .inr ⟨by simp, .inl rfl⟩, .inl ⟨by simp, rfl, by simp⟩, trivial⟩
            rw [List.drop_zero, List.take_of_length_le (by rw [flat_sz (sz := 4) fun e he => (nodes_wk hes e he).len, List.length_map, hge]; omega)]
          · simp only [wS, simprocAttr]
          · rw [wk_node]
            show AV.agg (wkL [.int .i64 kk, .int .i64 nn, .int .i64 mm, .sl false (es.map wkL)]) = _
            rw [wk_node, wk_idems hes]
end Go.Proofs.YtpdibmopbpcfdaaDoor
