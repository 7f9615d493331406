import Derived.Test.YtbbgolecnmifpaaDoorAC
set_option linter.unusedVariables false
set_option linter.unusedSimpArgs false
namespace Go.Proofs.YtbbgolecnmifpaaDoor
open Go.AM

section
variable {P : Program} {G : Nat → Option (List AV)} {cx : CallX}
def runL (P : Program) (G : Nat → Option (List AV)) (cx : CallX) (N n : Nat) : List Code → AS → Option AS
  | [], s => some s
  | c :: l, s => match exX P G cx N n c s with
    | some (.normal, s') => runL P G cx N n l s'
    | _ => none
/-- Some slots and the first rows of a state. -/
def lookS (ts : List Nat) (m : Nat) (s : AS) : List AV × List ARow := (ts.map s.get, s.h.take m)
theorem runL_cons {N n : Nat} {c : Code} {l : List Code} {s s2 : AS} (h : runL P G cx N n (c :: l) s = some s2) : ∃ s1, exX P G cx N n c s = some (.normal, s1) ∧ runL P G cx N n l s1 = some s2 := by
  simp only [runL] at h
  split at h
  · exact ⟨_, by assumption, h⟩
  · cases h
theorem awp_runL {N n k : Nat} (hm : P.follows .mixedOrders = true) (hc : CallOK P G cx) {Q : Exit → AS → Prop} {y : Code} {s2 : AS} (hy : AWp P G n k y Q s2) {x1 x2 x3 x4 x5 : Code} {s : AS} (h : runL P G cx N n [x1, x2, x3, x4, x5] s = some s2) : AWp P G n k (.seq x1 (.seq x2 (.seq x3 (.seq x4 (.seq x5 y))))) Q s := by
  obtain ⟨s1, a1, h⟩ := runL_cons h
  obtain ⟨s3, a2, h⟩ := runL_cons h
  obtain ⟨s4, a3, h⟩ := runL_cons h
  obtain ⟨s5, a4, h⟩ := runL_cons h
  obtain ⟨s6, a5, h⟩ := runL_cons h
  simp only [runL, Option.some.injEq] at h
  subst h
  exact awp_seq (exX_ok hm hc _ _ _ _ _ a1 (awp_seq (exX_ok hm hc _ _ _ _ _ a2 (awp_seq (exX_ok hm hc _ _ _ _ _ a3 (awp_seq (exX_ok hm hc _ _ _ _ _ a4 (awp_seq (exX_ok hm hc _ _ _ _ _ a5 hy)))))))))
theorem holdsF_map {s : AS} : ∀ (l : List (Nat × AV)), (l.map (·.1)).map s.get = l.map (·.2) → holdsF l s.get
  | [], _ => trivial
  | p :: l, h => by
    simp only [List.map_cons, List.cons.injEq] at h
    exact ⟨h.1, holdsF_map l h.2⟩
/-- Five pieces of a body are run; of what stands behind them some slots and the first rows are kept. -/
theorem awp_pre5 {N n : Nat} (l : List (Nat × AV)) (hp : List ARow) (hm : P.follows .mixedOrders = true) (hc : CallOK P G cx) (hG : ∀ g cs, G g = some cs → inL noRef cs = true) {Q : Exit → AS → Prop} {y : Code} {x1 x2 x3 x4 x5 : Code} {s : AS} (h : (runL P G cx N n [x1, x2, x3, x4, x5] s).map (lookS (l.map (·.1)) hp.length) = some (l.map (·.2), hp))
    (h4 : ∀ p ∈ l, inR (fun r => decide (r < hp.length)) p.2 = true) (h5 : hp.all (rowIn (fun r => decide (r < hp.length))) = true) (hy : AWp P G n 0 y Q ⟨mkF l, hp⟩) :
    AWp P G n 0 (.seq x1 (.seq x2 (.seq x3 (.seq x4 (.seq x5 y))))) Q s := by
  simp only [Option.map_eq_some_iff] at h
  obtain ⟨s2, h1, h2⟩ := h
  simp only [lookS, Prod.mk.injEq] at h2
  refine awp_runL hm hc (awp_ref (Weak.ref ⟨holdsF_map l h2.1, .inr ⟨Nat.zero_le _, h2.2, fun g cs hg => inL_mono (p := noRef) (fun r hr => by cases hr) (hG g cs hg), h4, h5⟩⟩) hy) h1
end
theorem body_retC {P : Program} {fn : Func} {R : AV → AS → Prop} {s : AS} {t : Tmp} {ty : TypeId} {v : AV} (h : fn.results = #[.cell t ty]) (hl : aLoad P ty (s.get t) s.row = some v) (hR : R v s) : bodyA P fn R .ret s :=
  ⟨v, by simp [aResults, aResultL, aResult, h, hl], hR⟩
/-- A slot's value as a tree; a pointer becomes one at cells that nobody writes. -/
def frzS (rows : Nat → ARow) (v : AV) : Option AV :=
  match v with
  | .ptr r ver off => match rowCells rows r ver with
    | some cs => match frzX rows 9999 (cs.drop off) with
      | some cs' => some (.imm cs')
      | none => none
    | none => none
  | v => match frzX rows 9999 [v] with
    | some [t] => some t
    | _ => none
theorem frzS_ok {G : Nat → Option (List AV)} {E : En} (i : Inv G E) {v t : AV} {u : Value} (h : frzS E.rows v = some t) (hr : Rel E v u) : Rel (lentAll E) t u := by
  unfold frzS at h
  split at h
  · rename_i r ver off
    split at h
    case h_2 => cases h
    rename_i cs hc
    split at h
    case h_2 => cases h
    rename_i cs' hcs
    injection h with h
    subst h
    have := ptr_at hc hr
    subst this
    obtain ⟨cur', e', ws, k1, k2, k3, k4, k5⟩ := row_at i hc
    have c1 := k5.drop off
    rw [Nat.zero_add] at c1
    obtain ⟨q1, _⟩ := frzX_ok i _ _ _ _ hcs (k2.drop off)
    simp only [Rel]
    exact ⟨E.ρ r, off, ws.drop off, rfl, .inr ⟨r, by rw [rowCells_eq hc]; rfl, rfl⟩, q1, c1⟩
  · split at h
    case h_2 => cases h
    rename_i t' hcs
    injection h with h
    subst h
    have rL := (frzX_ok i _ [v] [t'] [u] hcs (by simp only [RelL]; exact ⟨u, [], rfl, hr, rfl⟩)).1
    simp only [RelL] at rL
    obtain ⟨u', rest, he, r1, _⟩ := rL
    injection he with he1 _
    subst he1
    exact r1
/-- All memory is finished: the slots that are kept become trees. -/
theorem ref_all {G : Nat → Option (List AV)} {n : Nat} {s : AS} (l : List (Nat × AV)) (hG : ∀ g cs, G g = some cs → inL noRef cs = true) (h : l.map (fun p => frzS s.row (s.get p.1)) = l.map (fun p => some p.2)) : Ref G n 0 s ⟨mkF l, []⟩ := fun E a i => by
  have hrow : s.row = E.rows := i.rows.symm
  refine ⟨lentAll E, rfl, ?_, ?_⟩
  · refine ⟨rfl, rfl, rfl, Nat.le_refl _, fun _ hb => .inl hb, fun b _ hl => ⟨rfl, fun hb => ?_⟩, fun r hr => absurd hr (by omega), fun r hr => absurd hr (by omega), fun r hr => absurd hr (by omega), fun r hr => (by cases hr)⟩
    rcases hb with hb | ⟨r, hr, rfl⟩
    · exact hb
    · exact absurd rfl (hl r hr)
  · refine ⟨⟨fun r => (by simp [RowOK, lentAll]), fun r r' hr => (by cases hr), fun b hb => ?_, fun g cs hg => ?_⟩, rfl, i.sz, fun t => ?_, i.df⟩
    · rcases hb with hb | ⟨r, hr, rfl⟩
      · exact i.inv.sb b hb
      · exact (i.inv.live hr).1
    · obtain ⟨vs, a1, a2, a3⟩ := i.inv.glob g cs hg
      exact ⟨vs, .inl a1, a2.agree (agree_lentAll E) (hG g cs hg), a3⟩
    · have key : ∀ l : List (Nat × AV), l.map (fun p => frzS s.row (s.get p.1)) = l.map (fun p => some p.2) → Rel (lentAll E) ((mkF l).getD t .undef) (a.tmps.getD t undef) := by
        intro l
        induction l with
        | nil => intro _; rw [getD_mkF_nil]; simp [Rel]
        | cons p l ih =>
          intro h
          simp only [List.map_cons, List.cons.injEq] at h
          rw [getD_mkF_cons]
          by_cases e : t = p.1
          · rw [if_pos e]
            have h1 := h.1
            rw [hrow] at h1
            subst e
            exact frzS_ok i.inv h1 (i.tm p.1)
          · rw [if_neg e]; exact ih h.2
      exact key l h
theorem awp_pre2F {P : Program} {G : Nat → Option (List AV)} {cx : CallX} {N n : Nat} (l : List (Nat × AV)) (hm : P.follows .mixedOrders = true) (hc : CallOK P G cx) (hG : ∀ g cs, G g = some cs → inL noRef cs = true) {Q : Exit → AS → Prop} {y : Code} {x1 x2 : Code} {s : AS} (h : (runL P G cx N n [x1, x2] s).map (fun s => l.map fun p => frzS s.row (s.get p.1)) = some (l.map fun p => some p.2)) (hy : AWp P G n 0 y Q ⟨mkF l, []⟩) :
    AWp P G n 0 (.seq x1 (.seq x2 y)) Q s := by
  simp only [Option.map_eq_some_iff] at h
  obtain ⟨s2, h1, h2⟩ := h
  obtain ⟨s3, a1, h1⟩ := runL_cons h1
  obtain ⟨s4, a2, h1⟩ := runL_cons h1
  simp only [runL, Option.some.injEq] at h1
  subst h1
  exact awp_seq (exX_ok hm hc _ _ _ _ _ a1 (awp_seq (exX_ok hm hc _ _ _ _ _ a2 (awp_ref (ref_all l hG h2) hy))))

end Go.Proofs.YtbbgolecnmifpaaDoor
