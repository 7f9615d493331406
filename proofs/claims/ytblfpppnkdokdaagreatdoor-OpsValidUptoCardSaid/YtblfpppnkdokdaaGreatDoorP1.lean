import Derived.Test.YtblfpppnkdokdaaGreatDoorAE
import Derived.Test.YtblfpppnkdokdaaGreatDoorM1
import Derived.Test.YtblfpppnkdokdaaGreatDoorT0
import Derived.Test.YtblfpppnkdokdaaGreatDoorTypes
import Derived.Test.YtblfpppnkdokdaaGreatDoorN4
import Derived.Test.YtblfpppnkdokdaaGreatDoorV0
set_option linter.unusedVariables false
set_option linter.unusedSimpArgs false
namespace Go.Proofs.YtblfpppnkdokdaaGreatDoor
open Go.AM
attribute [local irreducible] AWp rgnS callR callV effR valR guardR stepR nextR
set_option maxRecDepth 100000
section
variable {P : Program} {G : Nat → Option (List AV)} {n : Nat} {K : Option Acc → AS → Prop} {d : Option Tmp} {rest : List POp} {m : Option Acc} {s : AS} {f : FuncId} {args : List AV} {fp : List Nat} {eff : Eff}
theorem callR_c (h : CallC P G f args s.row fp eff) (hk : rgnS P G n K rest (adv m fp (eff.wr.map (·.1))) ((s.wr eff.wr).put d eff.val)) : callR P G n K d rest m s f args := by
  unfold callR
  exact ⟨_, _, h, hk⟩
theorem yldR_c {r : Nat} (h : YldC P G r args s.row fp eff) (hk : rgnS P G n K rest (adv m fp (eff.wr.map (·.1))) ((s.wr eff.wr).put d eff.val)) : yldR P G n K d rest m s r args := ⟨_, _, h, hk⟩
end
def cI (l : List Int) : List AV := l.map fun n => .int .i64 n
theorem cI_flat (l : List Int) : (l.map fun n => [AV.int .i64 n]).flatten = cI l := by
  induction l with
  | nil => rfl
  | cons x l ih => simp only [List.map_cons, List.flatten_cons, ih]; rfl
theorem tree_cI (p : Nat → Bool) (l : List Int) : inL p (cI l) = true := by
  induction l with
  | nil => rfl
  | cons x l ih => simp only [cI, List.map_cons, inL, inR, Bool.true_and] at ih ⊢; exact ih
theorem cI_len (l : List Int) : (cI l).length = l.length := by simp [cI]
theorem clone_nil : Pure Tryz.prog G0 63 [encI []] (encI []) := by
  refine pure_of_bodyW hG0 Tryz.func63 rfl (by kernel_rfl) (by simp [Tryz.ntmps63]) (by simp [inL, inR, tree_encI]) (by simp [tree_encI]) ?_
  simp only [Tryz.ntmps63, enterF, Nat.reduceAdd]
  repeat' (first | with_reducible (first | refine u'1 fun _ _ => ?_ | refine u'2 ?_ | (first | refine u'3 ?_ | refine u'4 ?_ | refine u'5 fun _ _ _ _ => ?_ | refine u'6 (fun hg => ?_) (fun hg => ?_) <;> try simp only [hg]) <;> simp only [wS, simprocAttr, encI, List.map_nil, List.isEmpty_nil, Bool.not_true] | (first | refine u's ?_ | refine u'e ?_ | refine u'r ?_) <;> try simp only [wE, simprocAttr] | refine u'8 ?_ | refine u'9 ?_))
  refine ⟨?_, ?_⟩ <;> repeat' (first | with_reducible (first | refine u'1 fun _ _ => ?_ | refine u'2 ?_ | (first | refine u'3 ?_ | refine u'4 ?_ | refine u'5 fun _ _ _ _ => ?_ | refine u'6 (fun hg => ?_) (fun hg => ?_) <;> try simp only [hg]) <;> simp only [wS, simprocAttr] | (first | refine u's ?_ | refine u'e ?_ | refine u'r ?_) <;> try simp only [wE, simprocAttr] | refine u'8 ?_ | refine u'9 ?_))
  · refine body_ret1 rfl ?_
    simp only [wS, simprocAttr]
    rfl
  · refine eff_none (sz := 1) (by' := 8) (new := []) (by kernel_rfl) (by simp) (by simp [srcA]) (by simp) ?_
    simp only [wS, simprocAttr]
    repeat' (first | with_reducible (first | refine u'1 fun _ _ => ?_ | refine u'2 ?_ | (first | refine u'3 ?_ | refine u'4 ?_ | refine u'5 fun _ _ _ _ => ?_ | refine u'6 (fun hg => ?_) (fun hg => ?_) <;> try simp only [hg]) <;> simp only [wS, simprocAttr] | (first | refine u's ?_ | refine u'e ?_ | refine u'r ?_) <;> try simp only [wE, simprocAttr] | refine u'8 ?_ | refine u'9 ?_))
    refine body_ret1 rfl ?_
    simp only [wS, simprocAttr]
    rfl
theorem clone_48 (p : List Int) (hp : p ≠ []) (hl : p.length ≤ 1000000000000) (ver : Nat) (fl : Bool) (rows : Nat → ARow) (h4 : rows 4 = .cells ver (cI p)) (h8 : rows 8 = .none) : CallC Tryz.prog G0 63 [.osl 4 ver 0 p.length 1 fl] rows [4, 8] ⟨.osl 8 0 0 p.length 1 false, [(8, .cells 0 (cI p))]⟩ := by
  refine callC_of_body [.dead, .dead, .dead, .dead, .cells ver (cI p), .dead, .dead, .dead] hG0 Tryz.func63 rfl (by kernel_rfl) (by simp [Tryz.ntmps63]) ?_ ?_ (by simp [inL, inR]) ?_ ?_ ?_ ?_
  · intro r hr
    simp only [List.mem_cons, List.not_mem_nil, or_false] at hr
    rcases hr with rfl | rfl
    · exact h4.symm
    · exact h8.symm
  · intro r hr
    match r, hr with
    | 0, _ => simp
    | 1, _ => simp
    | 2, _ => simp
    | 3, _ => simp
    | 4, hr => exact absurd (by simp) hr
    | 5, _ => simp
    | 6, _ => simp
    | 7, _ => simp
    | 8, hr => exact absurd (by simp) hr
    | r + 9, _ => simp
  · intro r hr
    simp only [List.mem_cons, List.not_mem_nil, or_false] at hr
    rcases hr with rfl | rfl
    · rw [h4]; exact tree_cI _ p
    · rw [h8]; rfl
  · intro r hr h
    simp only [List.mem_cons, List.not_mem_nil, or_false] at hr
    simp only [List.length_cons, List.length_nil] at h
    rcases hr with rfl | rfl
    · omega
    · exact h8
  · simp
  simp only [Tryz.ntmps63, enterF, Nat.reduceAdd, List.length_cons, List.length_nil]
  have hlen := cI_len p
  have hpos : 0 < p.length := List.length_pos_iff.2 hp
  repeat' (first | with_reducible (first | refine u'1 fun _ _ => ?_ | refine u'2 ?_ | (first | refine u'3 ?_ | refine u'4 ?_ | refine u'5 fun _ _ _ _ => ?_ | refine u'6 (fun hg => ?_) (fun hg => ?_) <;> try simp only [hg]) <;> simp only [wS, simprocAttr, hlen, Option.isSome_some] | (first | refine u's ?_ | refine u'e ?_ | refine u'r ?_) <;> try simp only [wE, simprocAttr] | refine u'8 ?_ | refine u'9 ?_))
  refine eff_new (sz := 1) (by' := 8) (mm := p.length) (new := cI p) (es := []) (by kernel_rfl) ?hrow (by simp) ?_ (by omega) (by simp; omega) ?_
  case hrow => simp only [wS, simprocAttr]
  · simp only [wS, simprocAttr, srcA, hlen, Nat.mul_one, true_and]
    rw [List.take_of_length_le (by omega), if_pos (Nat.le_refl _)]
  simp only [wS, simprocAttr]
  repeat' (first | with_reducible (first | refine u'1 fun _ _ => ?_ | refine u'2 ?_ | (first | refine u'3 ?_ | refine u'4 ?_ | refine u'5 fun _ _ _ _ => ?_ | refine u'6 (fun hg => ?_) (fun hg => ?_) <;> try simp only [hg]) <;> simp only [wS, simprocAttr] | (first | refine u's ?_ | refine u'e ?_ | refine u'r ?_) <;> try simp only [wE, simprocAttr] | refine u'8 ?_ | refine u'9 ?_))
  refine body_ret1 rfl ?_
  simp only [wS, simprocAttr, inR]
  refine ⟨rfl, ?_⟩
  intro r hr
  simp only [List.mem_cons, List.not_mem_nil, or_false] at hr
  rcases hr with rfl | rfl
  · exact ⟨h4.symm, tree_cI _ p⟩
  · exact ⟨rfl, tree_cI _ p⟩
end Go.Proofs.YtblfpppnkdokdaaGreatDoor
set_option linter.unusedVariables false
set_option linter.unusedSimpArgs false
namespace Go.Proofs.YtblfpppnkdokdaaGreatDoor
open Go.AM
attribute [local irreducible] AWp rgnS callR callV effR valR guardR stepR nextR
set_option maxRecDepth 100000
def rfOf : Code → Option (Array Tmp × Code × Code)
  | .rangeFunc _ ps a b => some (ps, a, b)
  | .seq x y => match rfOf x with | some z => some z | none => rfOf y
  | .block _ c => rfOf c
  | _ => none
noncomputable def rf43 : Array Tmp × Code × Code := match Tryz.f105.body with
  | some c => (rfOf c).getD (#[], .skip, .skip)
  | none => (#[], .skip, .skip)
def FR (c : List AV) : List AV := [.sl true [], .fn (.func 106) [] [.imm c], .ptr 0 0 0, .undef, .sl true [], .undef, .fn (.func 106) [] [.imm c], .undef, .undef, .undef, .undef, .undef, .undef]
noncomputable def LP (c : List AV) : ARow := .loop .ready none (FR c) rf43.1 rf43.2.1 rf43.2.2
theorem PE_sz (ps : List (List Int)) : ∀ e ∈ PE ps, e.length = 1 := pe_sz ps
theorem PE_tree (ps : List (List Int)) : inE noRef (PE ps) = true := pe_tree ps
theorem PE_len (ps : List (List Int)) : (PE ps).length = ps.length := pe_len ps
theorem PE_snoc (ps : List (List Int)) (p : List Int) : PE ps ++ [[encI p]] = PE (ps ++ [p]) := (pe_snoc ps p).symm
theorem PE_nil (ps : List (List Int)) : PE ps = [] ↔ ps = [] := by simp [PE]
def R0 (ps : List (List Int)) : ARow := .cells 0 [accV [] 6 1 (PE ps)]
def R6 (ps : List (List Int)) : ARow := if PE ps = [] then .none else accRow [] (PE ps)
theorem LP_in {p : Nat → Bool} {c : List AV} (hc : inL noRef c = true) (h0 : p 0 = true) : rowIn p (LP c) = true := by
  have hc' := inL_mono (p := noRef) (q := p) (fun r hr => by cases hr) hc
  simp only [LP, rowIn, FR, inL, inR, inE, hc', h0, Bool.and_self]
theorem R0_in {p : Nat → Bool} {ps : List (List Int)} (h6 : p 6 = true) : rowIn p (R0 ps) = true := by
  simp only [R0, rowIn, inL, Bool.and_true]
  exact inR_accV h6 rfl
theorem R6_in {p : Nat → Bool} {ps : List (List Int)} : rowIn p (R6 ps) = true := by
  unfold R6
  split
  · rfl
  · exact accRow_in (PE_tree ps)
theorem yld_cut (c : List AV) (hc : inL noRef c = true) (ps : List (List Int)) (rows : Nat → ARow) (h0 : rows 0 = R0 ps) (h1 : rows 1 = LP c) (h6 : rows 6 = R6 ps) : CutOK G0 (accH [R0 ps, LP c, .dead, .dead, .dead, .dead] [] (PE ps)) rows [0, 1, 6] := by
  have hl : 6 ≤ (accH [R0 ps, LP c, .dead, .dead, .dead, .dead] [] (PE ps)).length := by unfold accH; split <;> simp
  have hrow := accH_row [R0 ps, LP c, .dead, .dead, .dead, .dead] [] (PE ps)
  simp only [List.length_cons, List.length_nil, Nat.reduceAdd] at hrow
  by_cases ha : PE ps = []
  · have e : accH [R0 ps, LP c, .dead, .dead, .dead, .dead] [] (PE ps) = [R0 ps, LP c, .dead, .dead, .dead, .dead] := by rw [accH, if_pos ha]
    rw [e]
    have e6 : rows 6 = .none := by rw [h6, R6, if_pos ha]
    have e0 : accV [] 6 1 (PE ps) = .sl true [] := by rw [accV, if_pos ha]
    refine ⟨hG0, ?_, ?_, ?_, ?_⟩
    · intro r hr
      simp only [List.mem_cons, List.not_mem_nil, or_false] at hr
      rcases hr with rfl | rfl | rfl
      · exact h0.symm
      · exact h1.symm
      · exact e6.symm
    · intro r hr
      match r, hr with
      | 0, hr => exact absurd (by simp) hr
      | 1, hr => exact absurd (by simp) hr
      | 2, _ => simp
      | 3, _ => simp
      | 4, _ => simp
      | 5, _ => simp
      | 6, hr => exact absurd (by simp) hr
      | r + 7, _ => simp
    · intro r hr
      simp only [List.mem_cons, List.not_mem_nil, or_false] at hr
      rcases hr with rfl | rfl | rfl
      · rw [h0, R0, e0]; rfl
      · rw [h1]; exact LP_in hc (by simp)
      · rw [e6]; rfl
    · intro r hr h
      simp only [List.mem_cons, List.not_mem_nil, or_false] at hr
      simp only [List.length_cons, List.length_nil, Nat.reduceAdd] at h
      rcases hr with rfl | rfl | rfl
      · omega
      · omega
      · exact e6
  · have e : accH [R0 ps, LP c, .dead, .dead, .dead, .dead] [] (PE ps) = [R0 ps, LP c, .dead, .dead, .dead, .dead, accRow [] (PE ps)] := by rw [accH, if_neg ha]; rfl
    rw [e]
    have e6 : rows 6 = accRow [] (PE ps) := by rw [h6, R6, if_neg ha]
    refine ⟨hG0, ?_, ?_, ?_, ?_⟩
    · intro r hr
      simp only [List.mem_cons, List.not_mem_nil, or_false] at hr
      rcases hr with rfl | rfl | rfl
      · exact h0.symm
      · exact h1.symm
      · exact e6.symm
    · intro r hr
      match r, hr with
      | 0, hr => exact absurd (by simp) hr
      | 1, hr => exact absurd (by simp) hr
      | 2, _ => simp
      | 3, _ => simp
      | 4, _ => simp
      | 5, _ => simp
      | 6, hr => exact absurd (by simp) hr
      | r + 7, _ => simp
    · intro r hr
      simp only [List.mem_cons, List.not_mem_nil, or_false] at hr
      rcases hr with rfl | rfl | rfl
      · rw [h0]; exact R0_in (by simp)
      · rw [h1]; exact LP_in hc (by simp)
      · rw [h6]; exact R6_in
    · intro r hr h
      simp only [List.mem_cons, List.not_mem_nil, or_false] at hr
      simp only [List.length_cons, List.length_nil, Nat.reduceAdd] at h
      omega
theorem yld_ok (c : List AV) (hc : inL noRef c = true) (ps : List (List Int)) (hb : ps.length + 1 ≤ 4398046511104) (p : List Int) (rows : Nat → ARow) (h0 : rows 0 = R0 ps) (h1 : rows 1 = LP c) (h6 : rows 6 = R6 ps) : YldC Tryz.prog G0 1 [encI p] rows [0, 1, 6] ⟨.bool true, [(0, R0 (ps ++ [p])), (6, R6 (ps ++ [p]))]⟩ := by
  have hl : 6 ≤ (accH [R0 ps, LP c, .dead, .dead, .dead, .dead] [] (PE ps)).length := by unfold accH; split <;> simp
  have hR6 : R6 (ps ++ [p]) = accRow [] (PE ps ++ [[encI p]]) := by rw [R6, ← PE_snoc, if_neg (by simp)]
  have e7 : rf43.1 = #[7] := by kernel_rfl
  refine yldC_of_round (n := 13) (yld_cut c hc ps rows h0 h1 h6) h1 (by simp) (by omega) rfl (by rw [e7]; rfl) (by rw [e7]; simp) (by simp only [inL, Bool.and_true]; exact inR_mono (p := noRef) (fun r hr => by cases hr) (tree_encI p)) (by simp) fun l => ?_
  rw [e7]
  have hfr : setPs (FR c) ((#[7] : Array Tmp).toList.zip [encI p]) = mkF [(0, .sl true []), (1, .fn (.func 106) [] [.imm c]), (2, .ptr 0 0 0), (4, .sl true []), (6, .fn (.func 106) [] [.imm c]), (7, encI p), (12, .undef)] := rfl
  rw [hfr]
  obtain ⟨es, he⟩ : ∃ es, encI p = .sl false es := ⟨_, rfl⟩
  rw [he]
  refine @awp_rgn ⟨some l, none⟩ _ _ _ _ _ _ _ _ ?_
  simp only [wS, simprocAttr]
  refine ⟨FR c, #[7], rf43.2.1, rf43.2.2, ?_, ?_⟩
  · rw [← e7]
    exact accH_old [R0 ps, LP c, .dead, .dead, .dead, .dead] [] (PE ps) (r := 1) (by simp)
  refine @awp_block ⟨some l, none⟩ _ _ _ _ _ _ _ _ ?_
  refine @awp_rgn ⟨some l, none⟩ _ _ _ _ _ _ _ _ ?_
  simp only [wS, simprocAttr, accH_hset, accH_old, R0]
  refine eff_acc (H := [R0 ps, .loop .busy none (FR c) #[7] rf43.2.1 rf43.2.2, .dead, .dead, .dead, .dead]) (base := []) (app := PE ps) (e := [.sl false es]) (by' := 24) (by kernel_rfl) rfl (upd_acc (by simp)) ?_ (PE_sz ps) ?_ (by simp only [List.length_nil, PE_len]; omega) ?_
  · rfl
  · simp [srcA]
  have hav : accV [] 6 1 (PE ps ++ [[.sl false es]]) = .osl 6 (PE ps).length 0 ((PE ps).length + 1) 1 false := by
    rw [← accV_snoc]; simp
  simp only [wS, simprocAttr, accH_hset, accH_old, R0, hav]
  refine ⟨none, FR c, #[7], rf43.2.1, rf43.2.2, rfl, rfl, rfl, ?_⟩
  rw [← e7]
  have hps : PE (ps ++ [p]) = PE ps ++ [[.sl false es]] := by rw [← PE_snoc, he]
  intro q hq
  simp only [List.mem_cons, List.not_mem_nil, or_false] at hq
  rcases hq with rfl | rfl | rfl
  · exact ⟨by simp [hps, hav], by simp [rowIn, inL, inR]⟩
  · refine ⟨h1.symm, LP_in hc (by simp)⟩
  · have e6 : R6 (ps ++ [p]) = accRow [] (PE ps ++ [[.sl false es]]) := by rw [hR6, he]
    exact ⟨by simp [e6], by rw [← e6]; exact R6_in⟩
end Go.Proofs.YtblfpppnkdokdaaGreatDoor
set_option linter.unusedVariables false
set_option linter.unusedSimpArgs false
namespace Go.Proofs.YtblfpppnkdokdaaGreatDoor
open Go.AM
attribute [local irreducible] AWp rgnS callR callV effR valR guardR stepR nextR
set_option maxRecDepth 100000
def visE (p : List Int) (i : Nat) (es : List T) : List (List Int) := (T.pathss es i).map fun q => p ++ q
def visL (p : List Int) (t : T) : List (List Int) := (T.paths t).map fun q => p ++ q
theorem visL_mk (p : List Int) (k n m : Int) (es : List T) : visL p (.mk k n m es) = p :: visE p 0 es := by simp [visL, visE, T.paths]
theorem visL_len (p : List Int) (t : T) : (visL p t).length = T.size t := by rw [visL, List.length_map, T.paths_len]
theorem visE_len (p : List Int) (es : List T) : (visE p 0 es).length = T.sizes es := by rw [visE, List.length_map, T.pathss_len]
theorem visE_take {p : List Int} {es : List T} {k : Nat} {e : T} (h : es[k]? = some e) : visE p 0 (es.take (k + 1)) = visE p 0 (es.take k) ++ visL (p ++ [(k : Int)]) e := by
  rw [visE, T.pathss_take h, List.map_append, visE, visL, List.map_map, Nat.zero_add]
  congr 1
  exact List.map_congr_left fun q _ => by simp
theorem visE_le (p : List Int) (es : List T) (k : Nat) : (visE p 0 (es.take k)).length ≤ (visE p 0 es).length := by
  rw [visE_len, visE_len]; exact T.sizes_take_le es k
def VSat (b : Nat) (D : Nat) : Prop := ∀ (c0 : List AV), inL noRef c0 = true → ∀ (c : T), T.size c ≤ D → ∀ (p : List Int), p ≠ [] → p.length + D ≤ 1000000000000 → ∀ (ps : List (List Int)), ps ≠ [] → ps.length + (visL p c).length ≤ 4398046511104 → ∀ (ver : Nat) (rows : Nat → ARow),
  rows 0 = R0 ps → rows 1 = LP c0 → rows 2 = .cells 0 [.yld 1] → rows 3 = .cells 0 [.fn (.func 107) [] [.ptr 2 0 0, .ptr 3 0 0]] → rows b = .cells ver (cI p) → rows 6 = R6 ps →
  CallC Tryz.prog G0 107 [.agg (T.enc c), .osl b ver 0 p.length 1 false, .ptr 2 0 0, .ptr 3 0 0] rows [b, 0, 1, 2, 3, 6] ⟨.bool true, [(0, R0 (ps ++ visL p c)), (6, R6 (ps ++ visL p c))]⟩
theorem vs_ren {b D : Nat} (hb : b ∉ [0, 1, 2, 3, 4, 6]) (h : VSat 4 D) : VSat b D := by
  intro c0 hc0 c hc p hp hpl ps hps hlen ver rows h0 h1 h2 h3 hrb h6
  have hb' : b ∉ [0, 1, 2, 3, 6] := fun hm => hb (by simp at hm ⊢; omega)
  have hb4 : b ≠ 4 := fun e => hb (by simp [e])
  have key := h c0 hc0 c hc p hp hpl ps hps hlen ver (fun r => if r = 4 then .cells ver (cI p) else rows r) (by simpa using h0) (by simpa using h1) (by simpa using h2) (by simpa using h3) rfl (by simpa using h6)
  have hin0 : ∀ r ∈ [0, 1, 2, 3, 6], rowIn (fun r => [0, 1, 2, 3, 6].contains r) (rows r) = true := by
    intro r hr
    simp only [List.mem_cons, List.not_mem_nil, or_false] at hr
    rcases hr with rfl | rfl | rfl | rfl | rfl
    · rw [h0]; exact R0_in rfl
    · rw [h1]; exact LP_in hc0 rfl
    · rw [h2]; rfl
    · rw [h3]; rfl
    · rw [h6]; exact R6_in
  have hren : renW 4 b [(0, R0 (ps ++ visL p c)), (6, R6 (ps ++ visL p c))] = [(0, R0 (ps ++ visL p c)), (6, R6 (ps ++ visL p c))] := rfl
  rw [← hren]
  refine callC_ren hG0 key (by decide) hb' ?_ ?_ ?_ ?_ rfl ?_
  · simp [hrb]
  · intro r hr
    rw [if_neg (fun e => by rw [e] at hr; exact absurd hr (by decide))]
  · intro r hr
    rcases List.mem_cons.1 hr with rfl | hr
    · rw [hrb]; exact tree_cI _ p
    · exact hin0 r hr
  · refine ⟨.inl ⟨rfl, ?_⟩, .inr ⟨ver, 0, p.length, 1, false, rfl, rfl⟩, .inl ⟨rfl, rfl⟩, .inl ⟨rfl, rfl⟩, trivial⟩
    simp only [inR]
    exact inL_mono (p := noRef) (fun r hr => by cases hr) (T.enc_tree c)
  · intro r hr
    simp only [List.mem_cons, List.not_mem_nil, or_false] at hr
    rcases hr with rfl | rfl | rfl | rfl | rfl | rfl
    · exact tree_cI _ p
    · exact R0_in rfl
    · simp only [upd]; exact hin0 1 (by simp)
    · simp only [upd]; exact hin0 2 (by simp)
    · simp only [upd]; exact hin0 3 (by simp)
    · exact R6_in
theorem vs_snoc {b D : Nat} (h : VSat b D) {c0 : List AV} (hc0 : inL noRef c0 = true) {c : T} (hc : T.size c ≤ D) {ce : List AV} (hce : T.enc c = ce) {p : List Int} (i : Nat) (hpl : p.length + (D + 1) ≤ 1000000000000) {ps : List (List Int)} (hps : ps ≠ []) (hlen : ps.length + (visL (p ++ [(i : Int)]) c).length ≤ 4398046511104) (ver : Nat) (rows : Nat → ARow)
    (h0 : rows 0 = R0 ps) (h1 : rows 1 = LP c0) (h2 : rows 2 = .cells 0 [.yld 1]) (h3 : rows 3 = .cells 0 [.fn (.func 107) [] [.ptr 2 0 0, .ptr 3 0 0]]) (hb : rows b = .cells ver (cI p ++ [.int .i64 (i : Int)])) (h6 : rows 6 = R6 ps) :
    CallC Tryz.prog G0 107 [.agg ce, .osl b ver 0 (p.length + 1) 1 false, .ptr 2 0 0, .ptr 3 0 0] rows [b, 0, 1, 2, 3, 6] ⟨.bool true, [(0, R0 (ps ++ visL (p ++ [(i : Int)]) c)), (6, R6 (ps ++ visL (p ++ [(i : Int)]) c))]⟩ := by
  have key := h c0 hc0 c hc (p ++ [(i : Int)]) (by simp) (by simp; omega) ps hps hlen ver rows h0 h1 h2 h3 (by rw [hb]; simp [cI]) h6
  rwa [List.length_append, List.length_singleton, hce] at key
end Go.Proofs.YtblfpppnkdokdaaGreatDoor
