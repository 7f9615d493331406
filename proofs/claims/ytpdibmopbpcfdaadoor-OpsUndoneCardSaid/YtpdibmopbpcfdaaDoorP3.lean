import Derived.Test.YtpdibmopbpcfdaaDoorP2
set_option linter.unusedVariables false
set_option linter.unusedSimpArgs false
namespace Go.Proofs.YtpdibmopbpcfdaaDoor
open Go.AM
set_option maxRecDepth 100000
def visE (f : List Int → List AV → List (List Int)) (p : List Int) : Nat → List (List AV) → List (List Int)
  | _, [] => []
  | i, e :: es => f (p ++ [(i : Int)]) e ++ visE f p (i + 1) es
def visL : Nat → List Int → List AV → List (List Int)
  | 0, p, _ => [p]
  | D + 1, p, [_, _, _, .sl _ es] => p :: visE (visL D) p 0 es
  | _ + 1, p, _ => [p]
theorem visE_app (f : List Int → List AV → List (List Int)) (p : List Int) : ∀ (a : List (List AV)) (i : Nat) (b : List (List AV)), visE f p i (a ++ b) = visE f p i a ++ visE f p (i + a.length) b
  | [], i, b => by simp [visE]
  | e :: a, i, b => by
    simp only [List.cons_append, visE, visE_app f p a (i + 1) b, List.length_cons, List.append_assoc]
    rw [show i + 1 + a.length = i + (a.length + 1) by omega]
theorem visE_take {f : List Int → List AV → List (List Int)} {p : List Int} {es : List (List AV)} {k : Nat} {e : List AV} (h : es[k]? = some e) : visE f p 0 (es.take (k + 1)) = visE f p 0 (es.take k) ++ f (p ++ [(k : Int)]) e := by
  have hk := (List.getElem?_eq_some_iff.1 h).1
  rw [List.take_add_one, h, visE_app]
  simp only [Option.toList_some, visE, List.append_nil, List.length_take, Nat.zero_add]
  rw [Nat.min_eq_left (by omega)]
theorem visE_le (f : List Int → List AV → List (List Int)) (p : List Int) (es : List (List AV)) (k : Nat) : (visE f p 0 (es.take k)).length ≤ (visE f p 0 es).length := by
  have := congrArg List.length (visE_app f p (es.take k) 0 (es.drop k))
  rw [List.take_append_drop, List.length_append] at this
  omega
def VSat (b : Nat) (D : Nat) : Prop := ∀ (c0 : List AV), inL noRef c0 = true → ∀ (c : List AV), NodeV D c → ∀ (p : List Int), p ≠ [] → p.length + D ≤ 100000 → ∀ (ps : List (List Int)), ps ≠ [] → ps.length + (visL D p c).length ≤ 4398046511104 → ∀ (ver : Nat) (rows : Nat → ARow),
  rows 0 = R0 ps → rows 1 = LP c0 → rows 2 = .cells 0 [.yld 1] → rows 3 = .cells 0 [.fn (.func 45) [] [.ptr 2 0 0, .ptr 3 0 0]] → rows b = .cells ver (cI p) → rows 6 = R6 ps →
  CallC Tryd.prog G0 45 [.agg c, .osl b ver 0 p.length 1 false, .ptr 2 0 0, .ptr 3 0 0] rows [b, 0, 1, 2, 3, 6] ⟨.bool true, [(0, R0 (ps ++ visL D p c)), (6, R6 (ps ++ visL D p c))]⟩
theorem vs_ren {b D : Nat} (hb : b ∉ [0, 1, 2, 3, 4, 6]) (h : VSat 4 D) : VSat b D := by
  intro c0 hc0 c hc p hp hpl ps hps hlen ver rows h0 h1 h2 h3 hrb h6
  have hb' : b ∉ [0, 1, 2, 3, 6] := fun hm => hb (by simp at hm ⊢; omega)
  have hb4 : b ≠ 4 := fun e => hb (by simp [e])
  have key := h c0 hc0 c hc p hp hpl ps hps hlen ver (fun r => if r = 4 then .cells ver (cI p) else rows r) (by simpa using h0) (by simpa using h1) (by simpa using h2) (by simpa using h3) rfl (by simpa using h6)
  have hin0 : ∀ r ∈ [0, 1, 2, 3, 6], rowIn (fun r => [0, 1, 2, 3, 6].contains r) (rows r) = true := by
    intro r hr
    simp only [List.mem_cons, List.not_mem_nil, or_false] at hr
    rcases hr with rfl | rfl | rfl | rfl | rfl
    · rw [h0]; exact R0_in rfl
    · rw [h1]; exact LP_in hc0 rfl
    · rw [h2]; rfl
    · rw [h3]; rfl
    · rw [h6]; exact R6_in
  have hren : renW 4 b [(0, R0 (ps ++ visL D p c)), (6, R6 (ps ++ visL D p c))] = [(0, R0 (ps ++ visL D p c)), (6, R6 (ps ++ visL D p c))] := rfl
  rw [← hren]
  refine callC_ren hG0 key (by decide) hb' ?_ ?_ ?_ ?_ rfl ?_
  · simp [hrb]
  · intro r hr
    rw [if_neg (fun e => by rw [e] at hr; exact absurd hr (by decide))]
  · intro r hr
    rcases List.mem_cons.1 hr with rfl | hr
    · rw [hrb]; exact tree_cI _ p
    · exact hin0 r hr
  · refine ⟨.inl ⟨rfl, ?_⟩, .inr ⟨ver, 0, p.length, 1, false, rfl, rfl⟩, .inl ⟨rfl, rfl⟩, .inl ⟨rfl, rfl⟩, trivial⟩
    simp only [inR]
    exact inL_mono (p := noRef) (fun r hr => by cases hr) hc.tree
  · intro r hr
    simp only [List.mem_cons, List.not_mem_nil, or_false] at hr
    rcases hr with rfl | rfl | rfl | rfl | rfl | rfl
    · exact tree_cI _ p
    · exact R0_in rfl
    · simp only [upd]; exact hin0 1 (by simp)
    · simp only [upd]; exact hin0 2 (by simp)
    · simp only [upd]; exact hin0 3 (by simp)
    · exact R6_in
theorem vs_snoc {b D : Nat} (h : VSat b D) {c0 : List AV} (hc0 : inL noRef c0 = true) {c : List AV} (hc : NodeV D c) {p : List Int} (i : Nat) (hpl : p.length + (D + 1) ≤ 100000) {ps : List (List Int)} (hps : ps ≠ []) (hlen : ps.length + (visL D (p ++ [(i : Int)]) c).length ≤ 4398046511104) (ver : Nat) (rows : Nat → ARow)
    (h0 : rows 0 = R0 ps) (h1 : rows 1 = LP c0) (h2 : rows 2 = .cells 0 [.yld 1]) (h3 : rows 3 = .cells 0 [.fn (.func 45) [] [.ptr 2 0 0, .ptr 3 0 0]]) (hb : rows b = .cells ver (cI p ++ [.int .i64 (i : Int)])) (h6 : rows 6 = R6 ps) :
    CallC Tryd.prog G0 45 [.agg c, .osl b ver 0 (p.length + 1) 1 false, .ptr 2 0 0, .ptr 3 0 0] rows [b, 0, 1, 2, 3, 6] ⟨.bool true, [(0, R0 (ps ++ visL D (p ++ [(i : Int)]) c)), (6, R6 (ps ++ visL D (p ++ [(i : Int)]) c))]⟩ := by
  have key := h c0 hc0 c hc (p ++ [(i : Int)]) (by simp) (by simp; omega) ps hps hlen ver rows h0 h1 h2 h3 (by rw [hb]; simp [cI]) h6
  rwa [List.length_append, List.length_singleton] at key
end Go.Proofs.YtpdibmopbpcfdaaDoor
