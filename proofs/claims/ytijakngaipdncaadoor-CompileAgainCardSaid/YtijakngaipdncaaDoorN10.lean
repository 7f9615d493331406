import Derived.Test.YtijakngaipdncaaDoorN1
import Derived.Test.YtijakngaipdncaaDoorTypes
set_option linter.unusedVariables false
set_option linter.unusedSimpArgs false
namespace Go.Proofs.YtijakngaipdncaaDoor
open Go.AM
attribute [local irreducible] AWp rgnS callR callV effR valR guardR stepR nextR
theorem ms_in {p : Nat → Bool} (L : List Int) (at0 left pk pn pm F : Int) (kv : AV) (con : Bool) (hk : inR p kv = true) : rowIn p (.cells 0 [encI L, .int .i64 at0, .int .i64 left, .int .i64 pk, .int .i64 pn, .int .i64 pm, kv, .int .i64 F, .bool con]) = true := by
  simp only [rowIn, inL, inR, inR_mono (p := noRef) (q := p) (fun r hr => by cases hr) (tree_encI L), hk, Bool.and_self]
theorem draw_0 (rows : Nat → ARow) (L : List Int) (at0 left pk pn pm F : Int) (kv : AV) (con : Bool) (hL : ∀ x ∈ L, Small64 x) (h1 : rows 1 = .cells 0 [encI L, .int .i64 at0, .int .i64 left, .int .i64 pk, .int .i64 pn, .int .i64 pm, kv, .int .i64 F, .bool con]) (hk : inR (fun r => ([1] : List Nat).contains r) kv = true) (n : Int) (hn : 0 < n) : EC Tryd.prog G0 29 [.ptr 1 0 0, .int .i64 n] rows [1] (fun eff => ∃ x at1, eff = ⟨.int .i64 x, [(1, .cells 0 [encI L, .int .i64 at1, .int .i64 left, .int .i64 pk, .int .i64 pn, .int .i64 pm, kv, .int .i64 F, .bool con])]⟩ ∧ 0 ≤ x ∧ x < n) := by
  have hcon : ∀ r, ([1] : List Nat).contains r = true → decide (r < 2) = true := fun r h => by simp at h ⊢; omega
  refine ec_of_body [.dead, .cells 0 [encI L, .int .i64 at0, .int .i64 left, .int .i64 pk, .int .i64 pn, .int .i64 pm, kv, .int .i64 F, .bool con]] hG0 Tryd.func29 rfl (by kernel_rfl) (by simp [Tryd.ntmps29]) ?_ ?_ (by simp [inL, inR]) ?_ ?_ ?_ ?_
  · intro r hr
    simp only [List.mem_cons, List.not_mem_nil, or_false] at hr
    rcases hr with rfl
    · exact h1.symm
  · intro r hr
    match r, hr with
    | 0, _ => simp
    | 1, hr => exact absurd (by simp) hr
    | r + 2, _ => simp
  · intro r hr
    simp only [List.mem_cons, List.not_mem_nil, or_false] at hr
    rcases hr with rfl
    · rw [h1]; exact rowIn_mono hcon (ms_in L _ _ _ _ _ _ _ _ hk)
  · intro r hr h
    simp only [List.mem_cons, List.not_mem_nil, or_false] at hr
    simp only [List.length_cons, List.length_nil] at h
    omega
  · rintro eff ⟨x, at1, rfl, _⟩ p hp
    simp at hp
    subst hp
    simp
  simp only [Tryd.ntmps29, enterF, Nat.reduceAdd, List.length_cons, List.length_nil]
  repeat' (first | with_reducible (first | refine v'1 fun _ _ => ?_ | refine v'2 ?_ | (first | refine v'3 ?_ | refine v'4 ?_ | refine v'5 fun _ _ _ _ => ?_ | refine v'6 (fun hg => ?_) (fun hg => ?_) <;> try simp only [hg]) <;> simp only [wS, simprocAttr] | (first | refine v's ?_ | refine v'e ?_ | refine v'r ?_) <;> try simp only [wE, simprocAttr] | refine v'8 ?_ | refine v'9 ?_))
  refine eg_tree hG0 (at_22 L _ n hL (by omega)) ?_
  simp only [wS, simprocAttr]
  repeat' (first | with_reducible (first | refine v'1 fun _ _ => ?_ | refine v'2 ?_ | (first | refine v'3 ?_ | refine v'4 ?_ | refine v'5 fun _ _ _ _ => ?_ | refine v'6 (fun hg => ?_) (fun hg => ?_) <;> try simp only [hg]) <;> simp only [wS, simprocAttr] | (first | refine v's ?_ | refine v'e ?_ | refine v'r ?_) <;> try simp only [wE, simprocAttr] | refine v'8 ?_ | refine v'9 ?_))
  refine eg_ret1 rfl ?_
  refine EG.of ⟨?v, [(1, ?row)]⟩ ?hR ⟨.inl ?hv, ?hi, ?hrow⟩
  case hv => simp only [wS, simprocAttr]; exact rfl
  case hrow =>
    intro r hr
    simp only [List.mem_cons, List.not_mem_nil, or_false] at hr
    rcases hr with rfl
    · refine ⟨by simp only [wS, simprocAttr]; exact rfl, ?_⟩
      simp only [wS, simprocAttr]
      exact ms_in L _ _ _ _ _ _ _ _ hk
  case hR => exact ⟨_, _, rfl, atS_b L _ n hn⟩
  case hi => simp only [wS, simprocAttr, inR, inL]
theorem node_0 (rows : Nat → ARow) (L : List Int) (at0 left pk pn pm F : Int) (kv : AV) (con : Bool) (hL : ∀ x ∈ L, Small64 x) (h1 : rows 1 = .cells 0 [encI L, .int .i64 at0, .int .i64 left, .int .i64 pk, .int .i64 pn, .int .i64 pm, kv, .int .i64 F, .bool con]) (hk : inR (fun r => ([1] : List Nat).contains r) kv = true) (k n : Int) (b : Bool) (es : List (List AV)) (hes : inE noRef es = true) : EC Tryd.prog G0 40 [.ptr 1 0 0, .int .i64 k, .int .i64 n, .sl b es] rows [1] (fun eff => ∃ left1, eff = ⟨.agg [.int .i64 k, .int .i64 n, .int .i64 0, .sl b es], [(1, .cells 0 [encI L, .int .i64 at0, .int .i64 left1, .int .i64 pk, .int .i64 pn, .int .i64 pm, kv, .int .i64 F, .bool con])]⟩) := by
  have hcon : ∀ r, ([1] : List Nat).contains r = true → decide (r < 2) = true := fun r h => by simp at h ⊢; omega
  refine ec_of_body [.dead, .cells 0 [encI L, .int .i64 at0, .int .i64 left, .int .i64 pk, .int .i64 pn, .int .i64 pm, kv, .int .i64 F, .bool con]] hG0 Tryd.func40 rfl (by kernel_rfl) (by simp [Tryd.ntmps40]) ?_ ?_ (by simp only [inL, inR, Bool.and_true, List.length_cons, List.length_nil, Nat.reduceAdd, Nat.reduceLT, decide_true, Bool.true_and]; exact inE_mono (p := noRef) (fun r hr => by cases hr) hes) ?_ ?_ ?_ ?_
  · intro r hr
    simp only [List.mem_cons, List.not_mem_nil, or_false] at hr
    rcases hr with rfl
    · exact h1.symm
  · intro r hr
    match r, hr with
    | 0, _ => simp
    | 1, hr => exact absurd (by simp) hr
    | r + 2, _ => simp
  · intro r hr
    simp only [List.mem_cons, List.not_mem_nil, or_false] at hr
    rcases hr with rfl
    · rw [h1]; exact rowIn_mono hcon (ms_in L _ _ _ _ _ _ _ _ hk)
  · intro r hr h
    simp only [List.mem_cons, List.not_mem_nil, or_false] at hr
    simp only [List.length_cons, List.length_nil] at h
    omega
  · rintro eff ⟨left1, rfl⟩ p hp
    simp at hp
    subst hp
    simp
  simp only [Tryd.ntmps40, enterF, Nat.reduceAdd, List.length_cons, List.length_nil]
  repeat' (first | with_reducible (first | refine v'1 fun _ _ => ?_ | refine v'2 ?_ | (first | refine v'3 ?_ | refine v'4 ?_ | refine v'5 fun _ _ _ _ => ?_ | refine v'6 (fun hg => ?_) (fun hg => ?_) <;> try simp only [hg]) <;> simp only [wS, simprocAttr] | (first | refine v's ?_ | refine v'e ?_ | refine v'r ?_) <;> try simp only [wE, simprocAttr] | refine v'8 ?_ | refine v'9 ?_))
  refine eg_retC (v := ?rv) rfl ?hl ?_
  case hl => simp only [wS, simprocAttr]; exact rfl
  refine EG.of ⟨?v, [(1, ?row)]⟩ ?hR ⟨.inl ?hv, ?hi, ?hrow⟩
  case hv => simp only [wS, simprocAttr]; exact rfl
  case hrow =>
    intro r hr
    simp only [List.mem_cons, List.not_mem_nil, or_false] at hr
    rcases hr with rfl
    · refine ⟨by simp only [wS, simprocAttr]; exact rfl, ?_⟩
      simp only [wS, simprocAttr]
      exact ms_in L _ _ _ _ _ _ _ _ hk
  case hR => exact ⟨_, rfl⟩
  case hi => simp only [wS, simprocAttr, inR, inL, Bool.true_and, Bool.and_true]; exact inE_mono (p := noRef) (fun r hr => by cases hr) hes
theorem draw_2 (rows : Nat → ARow) (L : List Int) (at0 left pk pn pm F : Int) (kv : AV) (con : Bool) (A2 A3 : ARow) (hL : ∀ x ∈ L, Small64 x) (h1 : rows 1 = .cells 0 [encI L, .int .i64 at0, .int .i64 left, .int .i64 pk, .int .i64 pn, .int .i64 pm, kv, .int .i64 F, .bool con]) (h2 : rows 2 = A2) (h3 : rows 3 = A3) (hk : inR (fun r => ([1, 2, 3] : List Nat).contains r) kv = true) (k2 : rowIn (fun r => ([1, 2, 3] : List Nat).contains r) A2 = true) (k3 : rowIn (fun r => ([1, 2, 3] : List Nat).contains r) A3 = true) (n : Int) (hn : 0 < n) : EC Tryd.prog G0 29 [.ptr 1 0 0, .int .i64 n] rows [1, 2, 3] (fun eff => ∃ x at1, eff = ⟨.int .i64 x, [(1, .cells 0 [encI L, .int .i64 at1, .int .i64 left, .int .i64 pk, .int .i64 pn, .int .i64 pm, kv, .int .i64 F, .bool con])]⟩ ∧ 0 ≤ x ∧ x < n) := by
  have hcon : ∀ r, ([1, 2, 3] : List Nat).contains r = true → decide (r < 4) = true := fun r h => by simp at h ⊢; omega
  refine ec_of_body [.dead, .cells 0 [encI L, .int .i64 at0, .int .i64 left, .int .i64 pk, .int .i64 pn, .int .i64 pm, kv, .int .i64 F, .bool con], A2, A3] hG0 Tryd.func29 rfl (by kernel_rfl) (by simp [Tryd.ntmps29]) ?_ ?_ (by simp [inL, inR]) ?_ ?_ ?_ ?_
  · intro r hr
    simp only [List.mem_cons, List.not_mem_nil, or_false] at hr
    rcases hr with rfl | rfl | rfl
    · exact h1.symm
    · exact h2.symm
    · exact h3.symm
  · intro r hr
    match r, hr with
    | 0, _ => simp
    | 1, hr => exact absurd (by simp) hr
    | 2, hr => exact absurd (by simp) hr
    | 3, hr => exact absurd (by simp) hr
    | r + 4, _ => simp
  · intro r hr
    simp only [List.mem_cons, List.not_mem_nil, or_false] at hr
    rcases hr with rfl | rfl | rfl
    · rw [h1]; exact rowIn_mono hcon (ms_in L _ _ _ _ _ _ _ _ hk)
    · rw [h2]; exact rowIn_mono hcon k2
    · rw [h3]; exact rowIn_mono hcon k3
  · intro r hr h
    simp only [List.mem_cons, List.not_mem_nil, or_false] at hr
    simp only [List.length_cons, List.length_nil] at h
    omega
  · rintro eff ⟨x, at1, rfl, _⟩ p hp
    simp at hp
    subst hp
    simp
  simp only [Tryd.ntmps29, enterF, Nat.reduceAdd, List.length_cons, List.length_nil]
  repeat' (first | with_reducible (first | refine v'1 fun _ _ => ?_ | refine v'2 ?_ | (first | refine v'3 ?_ | refine v'4 ?_ | refine v'5 fun _ _ _ _ => ?_ | refine v'6 (fun hg => ?_) (fun hg => ?_) <;> try simp only [hg]) <;> simp only [wS, simprocAttr] | (first | refine v's ?_ | refine v'e ?_ | refine v'r ?_) <;> try simp only [wE, simprocAttr] | refine v'8 ?_ | refine v'9 ?_))
  refine eg_tree hG0 (at_22 L _ n hL (by omega)) ?_
  simp only [wS, simprocAttr]
  repeat' (first | with_reducible (first | refine v'1 fun _ _ => ?_ | refine v'2 ?_ | (first | refine v'3 ?_ | refine v'4 ?_ | refine v'5 fun _ _ _ _ => ?_ | refine v'6 (fun hg => ?_) (fun hg => ?_) <;> try simp only [hg]) <;> simp only [wS, simprocAttr] | (first | refine v's ?_ | refine v'e ?_ | refine v'r ?_) <;> try simp only [wE, simprocAttr] | refine v'8 ?_ | refine v'9 ?_))
  refine eg_ret1 rfl ?_
  refine EG.of ⟨?v, [(1, ?row)]⟩ ?hR ⟨.inl ?hv, ?hi, ?hrow⟩
  case hv => simp only [wS, simprocAttr]; exact rfl
  case hrow =>
    intro r hr
    simp only [List.mem_cons, List.not_mem_nil, or_false] at hr
    rcases hr with rfl | rfl | rfl
    · refine ⟨by simp only [wS, simprocAttr]; exact rfl, ?_⟩
      simp only [wS, simprocAttr]
      exact ms_in L _ _ _ _ _ _ _ _ hk
    · refine ⟨by simp only [wS, simprocAttr]; exact h2.symm, ?_⟩
      simp only [wS, simprocAttr]
      exact k2
    · refine ⟨by simp only [wS, simprocAttr]; exact h3.symm, ?_⟩
      simp only [wS, simprocAttr]
      exact k3
  case hR => exact ⟨_, _, rfl, atS_b L _ n hn⟩
  case hi => simp only [wS, simprocAttr, inR, inL]
theorem node_2 (rows : Nat → ARow) (L : List Int) (at0 left pk pn pm F : Int) (kv : AV) (con : Bool) (A2 A3 : ARow) (hL : ∀ x ∈ L, Small64 x) (h1 : rows 1 = .cells 0 [encI L, .int .i64 at0, .int .i64 left, .int .i64 pk, .int .i64 pn, .int .i64 pm, kv, .int .i64 F, .bool con]) (h2 : rows 2 = A2) (h3 : rows 3 = A3) (hk : inR (fun r => ([1, 2, 3] : List Nat).contains r) kv = true) (k2 : rowIn (fun r => ([1, 2, 3] : List Nat).contains r) A2 = true) (k3 : rowIn (fun r => ([1, 2, 3] : List Nat).contains r) A3 = true) (k n : Int) (b : Bool) (es : List (List AV)) (hes : inE noRef es = true) : EC Tryd.prog G0 40 [.ptr 1 0 0, .int .i64 k, .int .i64 n, .sl b es] rows [1, 2, 3] (fun eff => ∃ left1, eff = ⟨.agg [.int .i64 k, .int .i64 n, .int .i64 0, .sl b es], [(1, .cells 0 [encI L, .int .i64 at0, .int .i64 left1, .int .i64 pk, .int .i64 pn, .int .i64 pm, kv, .int .i64 F, .bool con])]⟩) := by
  have hcon : ∀ r, ([1, 2, 3] : List Nat).contains r = true → decide (r < 4) = true := fun r h => by simp at h ⊢; omega
  refine ec_of_body [.dead, .cells 0 [encI L, .int .i64 at0, .int .i64 left, .int .i64 pk, .int .i64 pn, .int .i64 pm, kv, .int .i64 F, .bool con], A2, A3] hG0 Tryd.func40 rfl (by kernel_rfl) (by simp [Tryd.ntmps40]) ?_ ?_ (by simp only [inL, inR, Bool.and_true, List.length_cons, List.length_nil, Nat.reduceAdd, Nat.reduceLT, decide_true, Bool.true_and]; exact inE_mono (p := noRef) (fun r hr => by cases hr) hes) ?_ ?_ ?_ ?_
  · intro r hr
    simp only [List.mem_cons, List.not_mem_nil, or_false] at hr
    rcases hr with rfl | rfl | rfl
    · exact h1.symm
    · exact h2.symm
    · exact h3.symm
  · intro r hr
    match r, hr with
    | 0, _ => simp
    | 1, hr => exact absurd (by simp) hr
    | 2, hr => exact absurd (by simp) hr
    | 3, hr => exact absurd (by simp) hr
    | r + 4, _ => simp
  · intro r hr
    simp only [List.mem_cons, List.not_mem_nil, or_false] at hr
    rcases hr with rfl | rfl | rfl
    · rw [h1]; exact rowIn_mono hcon (ms_in L _ _ _ _ _ _ _ _ hk)
    · rw [h2]; exact rowIn_mono hcon k2
    · rw [h3]; exact rowIn_mono hcon k3
  · intro r hr h
    simp only [List.mem_cons, List.not_mem_nil, or_false] at hr
    simp only [List.length_cons, List.length_nil] at h
    omega
  · rintro eff ⟨left1, rfl⟩ p hp
    simp at hp
    subst hp
    simp
  simp only [Tryd.ntmps40, enterF, Nat.reduceAdd, List.length_cons, List.length_nil]
  repeat' (first | with_reducible (first | refine v'1 fun _ _ => ?_ | refine v'2 ?_ | (first | refine v'3 ?_ | refine v'4 ?_ | refine v'5 fun _ _ _ _ => ?_ | refine v'6 (fun hg => ?_) (fun hg => ?_) <;> try simp only [hg]) <;> simp only [wS, simprocAttr] | (first | refine v's ?_ | refine v'e ?_ | refine v'r ?_) <;> try simp only [wE, simprocAttr] | refine v'8 ?_ | refine v'9 ?_))
  refine eg_retC (v := ?rv) rfl ?hl ?_
  case hl => simp only [wS, simprocAttr]; exact rfl
  refine EG.of ⟨?v, [(1, ?row)]⟩ ?hR ⟨.inl ?hv, ?hi, ?hrow⟩
  case hv => simp only [wS, simprocAttr]; exact rfl
  case hrow =>
    intro r hr
    simp only [List.mem_cons, List.not_mem_nil, or_false] at hr
    rcases hr with rfl | rfl | rfl
    · refine ⟨by simp only [wS, simprocAttr]; exact rfl, ?_⟩
      simp only [wS, simprocAttr]
      exact ms_in L _ _ _ _ _ _ _ _ hk
    · refine ⟨by simp only [wS, simprocAttr]; exact h2.symm, ?_⟩
      simp only [wS, simprocAttr]
      exact k2
    · refine ⟨by simp only [wS, simprocAttr]; exact h3.symm, ?_⟩
      simp only [wS, simprocAttr]
      exact k3
  case hR => exact ⟨_, rfl⟩
  case hi => simp only [wS, simprocAttr, inR, inL, Bool.true_and, Bool.and_true]; exact inE_mono (p := noRef) (fun r hr => by cases hr) hes
theorem draw_3 (rows : Nat → ARow) (L : List Int) (at0 left pk pn pm F : Int) (kv : AV) (con : Bool) (A2 A3 A4 : ARow) (hL : ∀ x ∈ L, Small64 x) (h1 : rows 1 = .cells 0 [encI L, .int .i64 at0, .int .i64 left, .int .i64 pk, .int .i64 pn, .int .i64 pm, kv, .int .i64 F, .bool con]) (h2 : rows 2 = A2) (h3 : rows 3 = A3) (h4 : rows 4 = A4) (hk : inR (fun r => ([1, 2, 3, 4] : List Nat).contains r) kv = true) (k2 : rowIn (fun r => ([1, 2, 3, 4] : List Nat).contains r) A2 = true) (k3 : rowIn (fun r => ([1, 2, 3, 4] : List Nat).contains r) A3 = true) (k4 : rowIn (fun r => ([1, 2, 3, 4] : List Nat).contains r) A4 = true) (n : Int) (hn : 0 < n) : EC Tryd.prog G0 29 [.ptr 1 0 0, .int .i64 n] rows [1, 2, 3, 4] (fun eff => ∃ x at1, eff = ⟨.int .i64 x, [(1, .cells 0 [encI L, .int .i64 at1, .int .i64 left, .int .i64 pk, .int .i64 pn, .int .i64 pm, kv, .int .i64 F, .bool con])]⟩ ∧ 0 ≤ x ∧ x < n) := by
  have hcon : ∀ r, ([1, 2, 3, 4] : List Nat).contains r = true → decide (r < 5) = true := fun r h => by simp at h ⊢; omega
  refine ec_of_body [.dead, .cells 0 [encI L, .int .i64 at0, .int .i64 left, .int .i64 pk, .int .i64 pn, .int .i64 pm, kv, .int .i64 F, .bool con], A2, A3, A4] hG0 Tryd.func29 rfl (by kernel_rfl) (by simp [Tryd.ntmps29]) ?_ ?_ (by simp [inL, inR]) ?_ ?_ ?_ ?_
  · intro r hr
    simp only [List.mem_cons, List.not_mem_nil, or_false] at hr
    rcases hr with rfl | rfl | rfl | rfl
    · exact h1.symm
    · exact h2.symm
    · exact h3.symm
    · exact h4.symm
  · intro r hr
    match r, hr with
    | 0, _ => simp
    | 1, hr => exact absurd (by simp) hr
    | 2, hr => exact absurd (by simp) hr
    | 3, hr => exact absurd (by simp) hr
    | 4, hr => exact absurd (by simp) hr
    | r + 5, _ => simp
  · intro r hr
    simp only [List.mem_cons, List.not_mem_nil, or_false] at hr
    rcases hr with rfl | rfl | rfl | rfl
    · rw [h1]; exact rowIn_mono hcon (ms_in L _ _ _ _ _ _ _ _ hk)
    · rw [h2]; exact rowIn_mono hcon k2
    · rw [h3]; exact rowIn_mono hcon k3
    · rw [h4]; exact rowIn_mono hcon k4
  · intro r hr h
    simp only [List.mem_cons, List.not_mem_nil, or_false] at hr
    simp only [List.length_cons, List.length_nil] at h
    omega
  · rintro eff ⟨x, at1, rfl, _⟩ p hp
    simp at hp
    subst hp
    simp
  simp only [Tryd.ntmps29, enterF, Nat.reduceAdd, List.length_cons, List.length_nil]
  repeat' (first | with_reducible (first | refine v'1 fun _ _ => ?_ | refine v'2 ?_ | (first | refine v'3 ?_ | refine v'4 ?_ | refine v'5 fun _ _ _ _ => ?_ | refine v'6 (fun hg => ?_) (fun hg => ?_) <;> try simp only [hg]) <;> simp only [wS, simprocAttr] | (first | refine v's ?_ | refine v'e ?_ | refine v'r ?_) <;> try simp only [wE, simprocAttr] | refine v'8 ?_ | refine v'9 ?_))
  refine eg_tree hG0 (at_22 L _ n hL (by omega)) ?_
  simp only [wS, simprocAttr]
  repeat' (first | with_reducible (first | refine v'1 fun _ _ => ?_ | refine v'2 ?_ | (first | refine v'3 ?_ | refine v'4 ?_ | refine v'5 fun _ _ _ _ => ?_ | refine v'6 (fun hg => ?_) (fun hg => ?_) <;> try simp only [hg]) <;> simp only [wS, simprocAttr] | (first | refine v's ?_ | refine v'e ?_ | refine v'r ?_) <;> try simp only [wE, simprocAttr] | refine v'8 ?_ | refine v'9 ?_))
  refine eg_ret1 rfl ?_
  refine EG.of ⟨?v, [(1, ?row)]⟩ ?hR ⟨.inl ?hv, ?hi, ?hrow⟩
  case hv => simp only [wS, simprocAttr]; exact rfl
  case hrow =>
    intro r hr
    simp only [List.mem_cons, List.not_mem_nil, or_false] at hr
    rcases hr with rfl | rfl | rfl | rfl
    · refine ⟨by simp only [wS, simprocAttr]; exact rfl, ?_⟩
      simp only [wS, simprocAttr]
      exact ms_in L _ _ _ _ _ _ _ _ hk
    · refine ⟨by simp only [wS, simprocAttr]; exact h2.symm, ?_⟩
      simp only [wS, simprocAttr]
      exact k2
    · refine ⟨by simp only [wS, simprocAttr]; exact h3.symm, ?_⟩
      simp only [wS, simprocAttr]
      exact k3
    · refine ⟨by simp only [wS, simprocAttr]; exact h4.symm, ?_⟩
      simp only [wS, simprocAttr]
      exact k4
  case hR => exact ⟨_, _, rfl, atS_b L _ n hn⟩
  case hi => simp only [wS, simprocAttr, inR, inL]
theorem node_3 (rows : Nat → ARow) (L : List Int) (at0 left pk pn pm F : Int) (kv : AV) (con : Bool) (A2 A3 A4 : ARow) (hL : ∀ x ∈ L, Small64 x) (h1 : rows 1 = .cells 0 [encI L, .int .i64 at0, .int .i64 left, .int .i64 pk, .int .i64 pn, .int .i64 pm, kv, .int .i64 F, .bool con]) (h2 : rows 2 = A2) (h3 : rows 3 = A3) (h4 : rows 4 = A4) (hk : inR (fun r => ([1, 2, 3, 4] : List Nat).contains r) kv = true) (k2 : rowIn (fun r => ([1, 2, 3, 4] : List Nat).contains r) A2 = true) (k3 : rowIn (fun r => ([1, 2, 3, 4] : List Nat).contains r) A3 = true) (k4 : rowIn (fun r => ([1, 2, 3, 4] : List Nat).contains r) A4 = true) (k n : Int) (b : Bool) (es : List (List AV)) (hes : inE noRef es = true) : EC Tryd.prog G0 40 [.ptr 1 0 0, .int .i64 k, .int .i64 n, .sl b es] rows [1, 2, 3, 4] (fun eff => ∃ left1, eff = ⟨.agg [.int .i64 k, .int .i64 n, .int .i64 0, .sl b es], [(1, .cells 0 [encI L, .int .i64 at0, .int .i64 left1, .int .i64 pk, .int .i64 pn, .int .i64 pm, kv, .int .i64 F, .bool con])]⟩) := by
  have hcon : ∀ r, ([1, 2, 3, 4] : List Nat).contains r = true → decide (r < 5) = true := fun r h => by simp at h ⊢; omega
  refine ec_of_body [.dead, .cells 0 [encI L, .int .i64 at0, .int .i64 left, .int .i64 pk, .int .i64 pn, .int .i64 pm, kv, .int .i64 F, .bool con], A2, A3, A4] hG0 Tryd.func40 rfl (by kernel_rfl) (by simp [Tryd.ntmps40]) ?_ ?_ (by simp only [inL, inR, Bool.and_true, List.length_cons, List.length_nil, Nat.reduceAdd, Nat.reduceLT, decide_true, Bool.true_and]; exact inE_mono (p := noRef) (fun r hr => by cases hr) hes) ?_ ?_ ?_ ?_
  · intro r hr
    simp only [List.mem_cons, List.not_mem_nil, or_false] at hr
    rcases hr with rfl | rfl | rfl | rfl
    · exact h1.symm
    · exact h2.symm
    · exact h3.symm
    · exact h4.symm
  · intro r hr
    match r, hr with
    | 0, _ => simp
    | 1, hr => exact absurd (by simp) hr
    | 2, hr => exact absurd (by simp) hr
    | 3, hr => exact absurd (by simp) hr
    | 4, hr => exact absurd (by simp) hr
    | r + 5, _ => simp
  · intro r hr
    simp only [List.mem_cons, List.not_mem_nil, or_false] at hr
    rcases hr with rfl | rfl | rfl | rfl
    · rw [h1]; exact rowIn_mono hcon (ms_in L _ _ _ _ _ _ _ _ hk)
    · rw [h2]; exact rowIn_mono hcon k2
    · rw [h3]; exact rowIn_mono hcon k3
    · rw [h4]; exact rowIn_mono hcon k4
  · intro r hr h
    simp only [List.mem_cons, List.not_mem_nil, or_false] at hr
    simp only [List.length_cons, List.length_nil] at h
    omega
  · rintro eff ⟨left1, rfl⟩ p hp
    simp at hp
    subst hp
    simp
  simp only [Tryd.ntmps40, enterF, Nat.reduceAdd, List.length_cons, List.length_nil]
  repeat' (first | with_reducible (first | refine v'1 fun _ _ => ?_ | refine v'2 ?_ | (first | refine v'3 ?_ | refine v'4 ?_ | refine v'5 fun _ _ _ _ => ?_ | refine v'6 (fun hg => ?_) (fun hg => ?_) <;> try simp only [hg]) <;> simp only [wS, simprocAttr] | (first | refine v's ?_ | refine v'e ?_ | refine v'r ?_) <;> try simp only [wE, simprocAttr] | refine v'8 ?_ | refine v'9 ?_))
  refine eg_retC (v := ?rv) rfl ?hl ?_
  case hl => simp only [wS, simprocAttr]; exact rfl
  refine EG.of ⟨?v, [(1, ?row)]⟩ ?hR ⟨.inl ?hv, ?hi, ?hrow⟩
  case hv => simp only [wS, simprocAttr]; exact rfl
  case hrow =>
    intro r hr
    simp only [List.mem_cons, List.not_mem_nil, or_false] at hr
    rcases hr with rfl | rfl | rfl | rfl
    · refine ⟨by simp only [wS, simprocAttr]; exact rfl, ?_⟩
      simp only [wS, simprocAttr]
      exact ms_in L _ _ _ _ _ _ _ _ hk
    · refine ⟨by simp only [wS, simprocAttr]; exact h2.symm, ?_⟩
      simp only [wS, simprocAttr]
      exact k2
    · refine ⟨by simp only [wS, simprocAttr]; exact h3.symm, ?_⟩
      simp only [wS, simprocAttr]
      exact k3
    · refine ⟨by simp only [wS, simprocAttr]; exact h4.symm, ?_⟩
      simp only [wS, simprocAttr]
      exact k4
  case hR => exact ⟨_, rfl⟩
  case hi => simp only [wS, simprocAttr, inR, inL, Bool.true_and, Bool.and_true]; exact inE_mono (p := noRef) (fun r hr => by cases hr) hes
end Go.Proofs.YtijakngaipdncaaDoor
