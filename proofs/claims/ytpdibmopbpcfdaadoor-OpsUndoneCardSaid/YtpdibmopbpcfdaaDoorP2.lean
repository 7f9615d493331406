import Derived.Test.YtpdibmopbpcfdaaDoorM15
import Derived.Test.YtpdibmopbpcfdaaDoorP1
set_option linter.unusedVariables false
set_option linter.unusedSimpArgs false
namespace Go.Proofs.YtpdibmopbpcfdaaDoor
open Go.AM
set_option maxRecDepth 100000
def rfOf : Code → Option (Array Tmp × Code × Code)
  | .rangeFunc _ ps a b => some (ps, a, b)
  | .seq x y => match rfOf x with | some z => some z | none => rfOf y
  | .block _ c => rfOf c
  | _ => none
noncomputable def rf43 : Array Tmp × Code × Code := match Tryd.f43.body with
  | some c => (rfOf c).getD (#[], .skip, .skip)
  | none => (#[], .skip, .skip)
def FR (c : List AV) : List AV := [.sl true [], .fn (.func 44) [] [.imm c], .ptr 0 0 0, .undef, .sl true [], .undef, .fn (.func 44) [] [.imm c], .undef, .undef, .undef, .undef, .undef, .undef]
noncomputable def LP (c : List AV) : ARow := .loop .ready none (FR c) rf43.1 rf43.2.1 rf43.2.2
def PE (ps : List (List Int)) : List (List AV) := ps.map fun p => [encI p]
theorem PE_len (ps : List (List Int)) : (PE ps).length = ps.length := by simp [PE]
theorem PE_sz (ps : List (List Int)) : ∀ e ∈ PE ps, e.length = 1 := fun e he => by
  obtain ⟨p, _, rfl⟩ := List.mem_map.1 he
  rfl
theorem PE_tree (ps : List (List Int)) : inE noRef (PE ps) = true := by
  induction ps with
  | nil => rfl
  | cons p ps ih =>
    simp only [PE, List.map_cons, inE, inL, Bool.and_true] at ih ⊢
    rw [tree_encI, ih]; rfl
theorem PE_snoc (ps : List (List Int)) (p : List Int) : PE ps ++ [[encI p]] = PE (ps ++ [p]) := by simp [PE]
theorem PE_nil (ps : List (List Int)) : PE ps = [] ↔ ps = [] := by simp [PE]
def R0 (ps : List (List Int)) : ARow := .cells 0 [accV [] 6 1 (PE ps)]
def R6 (ps : List (List Int)) : ARow := if PE ps = [] then .none else accRow [] (PE ps)
theorem LP_in {p : Nat → Bool} {c : List AV} (hc : inL noRef c = true) (h0 : p 0 = true) : rowIn p (LP c) = true := by
  have hc' := inL_mono (p := noRef) (q := p) (fun r hr => by cases hr) hc
  simp only [LP, rowIn, FR, inL, inR, inE, hc', h0, Bool.and_self]
theorem R0_in {p : Nat → Bool} {ps : List (List Int)} (h6 : p 6 = true) : rowIn p (R0 ps) = true := by
  simp only [R0, rowIn, inL, Bool.and_true]
  exact inR_accV h6 rfl
theorem R6_in {p : Nat → Bool} {ps : List (List Int)} : rowIn p (R6 ps) = true := by
  unfold R6
  split
  · rfl
  · exact accRow_in (PE_tree ps)
theorem yld_cut (c : List AV) (hc : inL noRef c = true) (ps : List (List Int)) (rows : Nat → ARow) (h0 : rows 0 = R0 ps) (h1 : rows 1 = LP c) (h6 : rows 6 = R6 ps) : CutOK G0 (accH [R0 ps, LP c, .dead, .dead, .dead, .dead] [] (PE ps)) rows [0, 1, 6] := by
  have hl : 6 ≤ (accH [R0 ps, LP c, .dead, .dead, .dead, .dead] [] (PE ps)).length := by unfold accH; split <;> simp
  have hrow := accH_row [R0 ps, LP c, .dead, .dead, .dead, .dead] [] (PE ps)
  simp only [List.length_cons, List.length_nil, Nat.reduceAdd] at hrow
  by_cases ha : PE ps = []
  · have e : accH [R0 ps, LP c, .dead, .dead, .dead, .dead] [] (PE ps) = [R0 ps, LP c, .dead, .dead, .dead, .dead] := by rw [accH, if_pos ha]
    rw [e]
    have e6 : rows 6 = .none := by rw [h6, R6, if_pos ha]
    have e0 : accV [] 6 1 (PE ps) = .sl true [] := by rw [accV, if_pos ha]
    refine ⟨hG0, ?_, ?_, ?_, ?_⟩
    · intro r hr
      simp only [List.mem_cons, List.not_mem_nil, or_false] at hr
      rcases hr with rfl | rfl | rfl
      · exact h0.symm
      · exact h1.symm
      · exact e6.symm
    · intro r hr
      match r, hr with
      | 0, hr => exact absurd (by simp) hr
      | 1, hr => exact absurd (by simp) hr
      | 2, _ => simp
      | 3, _ => simp
      | 4, _ => simp
      | 5, _ => simp
      | 6, hr => exact absurd (by simp) hr
      | r + 7, _ => simp
    · intro r hr
      simp only [List.mem_cons, List.not_mem_nil, or_false] at hr
      rcases hr with rfl | rfl | rfl
      · rw [h0, R0, e0]; rfl
      · rw [h1]; exact LP_in hc (by simp)
      · rw [e6]; rfl
    · intro r hr h
      simp only [List.mem_cons, List.not_mem_nil, or_false] at hr
      simp only [List.length_cons, List.length_nil, Nat.reduceAdd] at h
      rcases hr with rfl | rfl | rfl
      · omega
      · omega
      · exact e6
  · have e : accH [R0 ps, LP c, .dead, .dead, .dead, .dead] [] (PE ps) = [R0 ps, LP c, .dead, .dead, .dead, .dead, accRow [] (PE ps)] := by rw [accH, if_neg ha]; rfl
    rw [e]
    have e6 : rows 6 = accRow [] (PE ps) := by rw [h6, R6, if_neg ha]
    refine ⟨hG0, ?_, ?_, ?_, ?_⟩
    · intro r hr
      simp only [List.mem_cons, List.not_mem_nil, or_false] at hr
      rcases hr with rfl | rfl | rfl
      · exact h0.symm
      · exact h1.symm
      · exact e6.symm
    · intro r hr
      match r, hr with
      | 0, hr => exact absurd (by simp) hr
      | 1, hr => exact absurd (by simp) hr
      | 2, _ => simp
      | 3, _ => simp
      | 4, _ => simp
      | 5, _ => simp
      | 6, hr => exact absurd (by simp) hr
      | r + 7, _ => simp
    · intro r hr
      simp only [List.mem_cons, List.not_mem_nil, or_false] at hr
      rcases hr with rfl | rfl | rfl
      · rw [h0]; exact R0_in (by simp)
      · rw [h1]; exact LP_in hc (by simp)
      · rw [h6]; exact R6_in
    · intro r hr h
      simp only [List.mem_cons, List.not_mem_nil, or_false] at hr
      simp only [List.length_cons, List.length_nil, Nat.reduceAdd] at h
      omega
theorem yld_ok (c : List AV) (hc : inL noRef c = true) (ps : List (List Int)) (hb : ps.length + 1 ≤ 4398046511104) (p : List Int) (rows : Nat → ARow) (h0 : rows 0 = R0 ps) (h1 : rows 1 = LP c) (h6 : rows 6 = R6 ps) : YldC Tryd.prog G0 1 [encI p] rows [0, 1, 6] ⟨.bool true, [(0, R0 (ps ++ [p])), (6, R6 (ps ++ [p]))]⟩ := by
  have hl : 6 ≤ (accH [R0 ps, LP c, .dead, .dead, .dead, .dead] [] (PE ps)).length := by unfold accH; split <;> simp
  have hR6 : R6 (ps ++ [p]) = accRow [] (PE ps ++ [[encI p]]) := by rw [R6, ← PE_snoc, if_neg (by simp)]
  have e7 : rf43.1 = #[7] := by kernel_rfl
  refine yldC_of_round (n := 13) (yld_cut c hc ps rows h0 h1 h6) h1 (by simp) (by omega) rfl (by rw [e7]; rfl) (by rw [e7]; simp) (by simp only [inL, Bool.and_true]; exact inR_mono (p := noRef) (fun r hr => by cases hr) (tree_encI p)) (by simp) fun l => ?_
  rw [e7]
  have hfr : setPs (FR c) ((#[7] : Array Tmp).toList.zip [encI p]) = mkF [(0, .sl true []), (1, .fn (.func 44) [] [.imm c]), (2, .ptr 0 0 0), (4, .sl true []), (6, .fn (.func 44) [] [.imm c]), (7, encI p), (12, .undef)] := rfl
  rw [hfr]
  obtain ⟨es, he⟩ : ∃ es, encI p = .sl false es := ⟨_, rfl⟩
  rw [he]
  refine @awp_rgn ⟨some l, none⟩ _ _ _ _ _ _ _ _ ?_
  simp only [wS, simprocAttr]
  refine ⟨FR c, #[7], rf43.2.1, rf43.2.2, ?_, ?_⟩
  · rw [← e7]
    exact accH_old [R0 ps, LP c, .dead, .dead, .dead, .dead] [] (PE ps) (r := 1) (by simp)
  refine @awp_block ⟨some l, none⟩ _ _ _ _ _ _ _ _ ?_
  refine @awp_rgn ⟨some l, none⟩ _ _ _ _ _ _ _ _ ?_
  simp only [wS, simprocAttr, accH_hset, accH_old, R0]
  refine eff_acc (H := [R0 ps, .loop .busy none (FR c) #[7] rf43.2.1 rf43.2.2, .dead, .dead, .dead, .dead]) (base := []) (app := PE ps) (e := [.sl false es]) (by' := 24) (by kernel_rfl) rfl (upd_acc (by simp)) ?_ (PE_sz ps) ?_ (by simp only [List.length_nil, PE_len]; omega) ?_
  · rfl
  · simp [srcA]
  have hav : accV [] 6 1 (PE ps ++ [[.sl false es]]) = .osl 6 (PE ps).length 0 ((PE ps).length + 1) 1 false := by
    rw [← accV_snoc]; simp
  simp only [wS, simprocAttr, accH_hset, accH_old, R0, hav]
  refine ⟨none, FR c, #[7], rf43.2.1, rf43.2.2, rfl, rfl, rfl, ?_⟩
  rw [← e7]
  have hps : PE (ps ++ [p]) = PE ps ++ [[.sl false es]] := by rw [← PE_snoc, he]
  intro q hq
  simp only [List.mem_cons, List.not_mem_nil, or_false] at hq
  rcases hq with rfl | rfl | rfl
  · exact ⟨by simp [hps, hav], by simp [rowIn, inL, inR]⟩
  · refine ⟨h1.symm, LP_in hc (by simp)⟩
  · have e6 : R6 (ps ++ [p]) = accRow [] (PE ps ++ [[.sl false es]]) := by rw [hR6, he]
    exact ⟨by simp [e6], by rw [← e6]; exact R6_in⟩
end Go.Proofs.YtpdibmopbpcfdaaDoor
