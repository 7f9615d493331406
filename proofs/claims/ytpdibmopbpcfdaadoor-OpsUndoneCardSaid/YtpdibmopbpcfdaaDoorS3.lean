import Derived.Test.YtpdibmopbpcfdaaDoorS2
set_option linter.unusedVariables false
set_option linter.unusedSimpArgs false
namespace Go.Proofs.YtpdibmopbpcfdaaDoor
open Go.AM
set_option maxRecDepth 100000
def atC : List AV → List Int → Option (List AV)
  | c, [] => some c
  | c, i :: p => if 0 ≤ i then (match (kidsC c)[i.toNat]? with | some e => atC e p | none => none) else none
theorem body_retCT {P : Program} {fn : Func} {Rp : AV → AS → Prop} {s : AS} {t u : Tmp} {ty : TypeId} {v : AV} (h : fn.results = #[.cell t ty, .tmp u]) (hl : aLoad P ty (s.get t) s.row = some v) (hR : Rp (.tup [v, s.get u]) s) : bodyA P fn Rp .ret s := ⟨_, by simp [aResults, aResultL, aResult, h, hl], hR⟩
set_option maxHeartbeats 4000000 in
theorem at_13 (D : Nat) (c : List AV) (hc : NodeV D c) (p : List Int) (hp : p.length ≤ 100000) (c' : List AV) (hat : atC c p = some c') : Pure Tryd.prog G0 13 [.agg c, encI p] (.tup [.agg (wkL c'), .bool true]) := by
  have hct := hc.tree
  have hcn : NodeV D c' := by
    have key : ∀ (p : List Int) (c : List AV), NodeV D c → atC c p = some c' → NodeV D c' := by
      intro p
      induction p with
      | nil => intro c hc h; simp only [atC, Option.some.injEq] at h; exact h ▸ hc
      | cons i p ih =>
        intro c hc h
        simp only [atC] at h
        split at h
        · split at h
          · rename_i e he
            refine ih e ?_ h
            cases hc with
            | @mk _ d hd k n m b es hl hh => exact (hh e (List.mem_of_getElem? he)).up (Nat.le_of_lt hd)
          · cases h
        · cases h
    exact key p c hc hat
  have hwt := (nodeV_wk hcn).tree
  refine pure_of_body hG0 Tryd.func13 rfl (by kernel_rfl) (by simp [Tryd.ntmps13]) (by simp only [inL, inR, hct, tree_encI, Bool.and_self]) (by simp only [inR, inL, hwt, Bool.and_self]) ?_
  simp only [Tryd.ntmps13, enterF, Nat.reduceAdd]
  have hcell : ∃ k n m b es, c = [.int .i64 k, .int .i64 n, .int .i64 m, .sl b es] := by
    cases hc with
    | @mk _ d hd k n m b es hl hh => exact ⟨_, _, _, _, _, rfl⟩
  have hml : (p.map fun n => [AV.int .i64 n]).length = p.length := by simp
  have hget : ∀ (j : Nat) (x : Int), p[j]? = some x → (p.map fun n => [AV.int .i64 n])[j]? = some [.int .i64 x] := fun j x h => by simp [h]
  have hpt := tree_ints p
  simp only [encI]
  generalize hys : (p.map fun n => [AV.int .i64 n]) = ys at hml hget hpt
  obtain ⟨k, n, m, b, es, hceq⟩ := hcell
  rw [hceq]
  repeat' (first | refine u'1 fun _ _ => ?_ | refine u'2 ?_ | (first | refine u'3 ?_ | refine u'4 ?_ | refine u'5 fun _ _ _ _ => ?_ | (refine u'6 (fun hg => ?_) (fun hg => ?_) <;> try simp only [hg])) <;> simp only [wS, simprocAttr] | (refine u'7 ?_; try simp only [wE, simprocAttr]) | refine u'8 ?_ | refine u'9 ?_)
  refine awp_loop_k (α := {x : Nat × List AV // x.1 ≤ p.length ∧ NodeV D x.2 ∧ atC x.2 (p.drop x.1) = some c'}) (fun x => [(2, .ptr 0 0 0), (4, .ptr 1 0 0), (8, .sl false ys), (9, .int .i64 (ys.length : Nat)), (10, .int .i64 (x.1.1 : Nat))]) (fun x => [.cells 0 x.1.2, .cells 0 [.int .i64 0, .int .i64 0, .int .i64 0, .sl true []]]) (fun x => p.length - x.1.1) ⟨(0, c), Nat.zero_le _, hc, hat⟩ ⟨?_, .inl ?_⟩ ?_
  · simp only [wS, simprocAttr]; try exact rfl
  · simp only [wS, simprocAttr, hceq]; try exact rfl
  · rintro ⟨⟨j, cj⟩, hj, hcj, haj⟩ K3 hK3
    simp only at hj hcj haj
    have hcj2 := hcj
    cases hcj with
    | @mk _ d1 hd1 k1 n1 m1 b1 es1 hl1 hh1 =>
    repeat' (first | refine u'1 fun _ _ => ?_ | refine u'2 ?_ | (first | refine u'3 ?_ | refine u'4 ?_ | refine u'5 fun _ _ _ _ => ?_ | (refine u'6 (fun hg => ?_) (fun hg => ?_) <;> try simp only [hg])) <;> simp only [wS, simprocAttr] | (refine u'7 ?_; try simp only [wE, simprocAttr]) | refine u'8 ?_ | refine u'9 ?_)
    refine ⟨fun h => ?_, fun h => ?_⟩
    · have hlt : j < p.length := by simp [hml] at h; omega
      obtain ⟨x, hx⟩ : ∃ x, p[j]? = some x := ⟨_, List.getElem?_eq_getElem hlt⟩
      have hgx := hget j x hx
      have hlt2 : j < ys.length := by omega
      have hdr : p.drop j = x :: p.drop (j + 1) := by
        obtain ⟨q1, q2⟩ := List.getElem?_eq_some_iff.1 hx
        rw [List.drop_eq_getElem_cons q1, q2]
      rw [hdr] at haj
      simp only [atC, kidsC] at haj
      split at haj
      · rename_i hx0
        split at haj
        · rename_i e he
          obtain ⟨q, hq⟩ : ∃ q : Nat, x = q := ⟨x.toNat, (Int.toNat_of_nonneg hx0).symm⟩
          subst hq
          rw [Int.toNat_natCast] at he
          have hqlt := (List.getElem?_eq_some_iff.1 he).1
          have hne := hh1 e (List.mem_of_getElem? he)
          have hne2 := hne.up (Nat.le_of_lt hd1)
          have e3 := wrap_succ (k := j) hlt (by omega)
          have f1 : decide ((q : Int) < 0) = false := by simp
          have f2 : decide ((q : Int) ≥ (es1.length : Int)) = false := by simp; omega
          cases hne with
          | @mk _ d2 hd2 k2 n2 m2 b2 es2 hl2 hh2 =>
          repeat' (first | refine u'1 fun _ _ => ?_ | refine u'2 ?_ | (first | refine u'3 ?_ | refine u'4 ?_ | refine u'5 fun _ _ _ _ => ?_ | (refine u'6 (fun hg => ?_) (fun hg => ?_) <;> try simp only [hg])) <;> simp only [wS, simprocAttr, hgx, hlt2, f1, f2, he, hqlt, e3] | (refine u'7 ?_; try simp only [wE, simprocAttr]) | refine u'8 ?_ | refine u'9 ?_)
          refine hK3.go ⟨(j + 1, _), hlt, hne2, haj⟩ ⟨?_, .inl ?_⟩ (by simp only; omega)
          · simp only [wS, simprocAttr]; try exact rfl
          · simp only [wS, simprocAttr]; try exact rfl
        · cases haj
      · cases haj
    · have hge : j = p.length := by simp [hml] at h; omega
      rw [hge, List.drop_length, atC, Option.some.injEq] at haj
      repeat' (first | refine u'1 fun _ _ => ?_ | refine u'2 ?_ | (first | refine u'3 ?_ | refine u'4 ?_ | refine u'5 fun _ _ _ _ => ?_ | (refine u'6 (fun hg => ?_) (fun hg => ?_) <;> try simp only [hg])) <;> simp only [wS, simprocAttr] | (refine u'7 ?_; try simp only [wE, simprocAttr]) | refine u'8 ?_ | refine u'9 ?_)
      refine callR_tree hG0 (copied_37 D _ hcj2) ?_
      rw [wk_node]
      simp only [wS, simprocAttr]
      repeat' (first | refine u'1 fun _ _ => ?_ | refine u'2 ?_ | (first | refine u'3 ?_ | refine u'4 ?_ | refine u'5 fun _ _ _ _ => ?_ | (refine u'6 (fun hg => ?_) (fun hg => ?_) <;> try simp only [hg])) <;> simp only [wS, simprocAttr] | (refine u'7 ?_; try simp only [wE, simprocAttr]) | refine u'8 ?_ | refine u'9 ?_)
      refine body_retCT (v := .agg (wkL c')) rfl ?_ ?_
      · rw [← haj, wk_node]; simp only [wS, simprocAttr]
      · simp only [wS, simprocAttr]
end Go.Proofs.YtpdibmopbpcfdaaDoor
