import Derived.Test.YtblfpppnkdokdaaGreatDoorAE
import Derived.Test.YtblfpppnkdokdaaGreatDoorM1
import Derived.Test.YtblfpppnkdokdaaGreatDoorT0
import Derived.Test.YtblfpppnkdokdaaGreatDoorTypes
import Derived.Test.YtblfpppnkdokdaaGreatDoorN4
import Derived.Test.YtblfpppnkdokdaaGreatDoorV0
set_option linter.unusedVariables false
set_option linter.unusedSimpArgs false
namespace Go.Proofs.YtblfpppnkdokdaaGreatDoor
open Go.AM
attribute [local irreducible] AWp aP aT bC bH bN aI aL bG
set_option maxRecDepth 100000
section
variable {P : Program} {G : Nat → Option (List AV)} {n : Nat} {K : Option Acc → AS → Prop} {d : Option Tmp} {rest : List POp} {m : Option Acc} {s : AS} {f : FuncId} {args : List AV} {fp : List Nat} {eff : Eff}
theorem cK (h : cC P G f args s.row fp eff) (hk : aP P G n K rest (adv m fp (eff.wr.map (·.1))) ((s.wr eff.wr).put d eff.val)) : aT P G n K d rest m s f args := by
 unfold aT
 exact ⟨_, _, h, hk⟩
theorem DI {r : Nat} (h : vA P G r args s.row fp eff) (hk : aP P G n K rest (adv m fp (eff.wr.map (·.1))) ((s.wr eff.wr).put d eff.val)) : NI P G n K d rest m s r args := ⟨_, _, h, hk⟩
end
def cI (l : List Int) : List AV := l.map fun n => .int .i64 n
theorem G6 (l : List Int) : (l.map fun n => [AV.int .i64 n]).flatten = cI l := by
 induction l with
 | nil => rfl
 | cons x l ih => simp only [List.map_cons, List.flatten_cons, ih]; rfl
theorem e8 (p : Nat → Bool) (l : List Int) : inL p (cI l) = true := by
 induction l with
 | nil => rfl
 | cons x l ih => simp only [cI, List.map_cons, inL, inR, Bool.true_and] at ih ⊢; exact ih
theorem uT (l : List Int) : (cI l).length = l.length := by simp [cI]
theorem H8 : Pure Tryz.prog G0 63 [cD []] (cD []) := by
 refine bK hG0 Tryz.func63 rfl (by kernel_rfl) (by simp [Tryz.ntmps63]) (by simp [inL, inR, eZ]) (by simp [eZ]) ?_
 simp only [Tryz.ntmps63, aF, Nat.reduceAdd]
 repeat' (first | with_reducible (first | refine u'1 fun _ _ => ?_ | refine u'W ?_ | (first | refine u'R ?_ | refine u'5 fun _ _ _ _ => ?_ | refine u'6 (fun hg => ?_) (fun hg => ?_) <;> try simp only [hg]) <;> simp only [wS, simprocAttr, cD, List.map_nil, List.isEmpty_nil, Bool.not_true]))
 refine ⟨?_, ?_⟩ <;> repeat' (first | with_reducible (first | refine u'1 fun _ _ => ?_ | refine u'W ?_ | (first | refine u'R ?_ | refine u'5 fun _ _ _ _ => ?_ | refine u'6 (fun hg => ?_) (fun hg => ?_) <;> try simp only [hg]) <;> simp only [wS, simprocAttr]))
 ·refine aE rfl ?_
  simp only [wS, simprocAttr]
  rfl
 ·refine o9 (sz := 1) (by' := 8) (new := []) (by kernel_rfl) (by simp) (by simp [cU]) (by simp) ?_
  simp only [wS, simprocAttr]
  repeat' (first | with_reducible (first | refine u'1 fun _ _ => ?_ | refine u'W ?_ | (first | refine u'R ?_ | refine u'5 fun _ _ _ _ => ?_ | refine u'6 (fun hg => ?_) (fun hg => ?_) <;> try simp only [hg]) <;> simp only [wS, simprocAttr]))
  refine aE rfl ?_
  simp only [wS, simprocAttr]
  rfl
theorem CX (p : List Int) (hp : p ≠ []) (hl : p.length ≤ 1000000000000) (ver : Nat) (fl : Bool) (rows : Nat → ARow) (h4 : rows 4 = .cells ver (cI p)) (h8 : rows 8 = .none) : cC Tryz.prog G0 63 [.osl 4 ver 0 p.length 1 fl] rows [4, 8] ⟨.osl 8 0 0 p.length 1 false, [(8, .cells 0 (cI p))]⟩ := by
 refine bE [.dead, .dead, .dead, .dead, .cells ver (cI p), .dead, .dead, .dead] hG0 Tryz.func63 rfl (by kernel_rfl) (by simp [Tryz.ntmps63]) ?_ ?_ (by simp [inL, inR]) ?_ ?_ ?_ ?_
 ·intro r hr
  simp only [List.mem_cons, List.not_mem_nil, or_false] at hr
  rcases hr with rfl | rfl
  ·exact h4.symm
  ·exact h8.symm
 ·intro r hr
  match r, hr with
  | 0, _ => simp
  | 1, _ => simp
  | 2, _ => simp
  | 3, _ => simp
  | 4, hr => exact absurd (by simp) hr
  | 5, _ => simp
  | 6, _ => simp
  | 7, _ => simp
  | 8, hr => exact absurd (by simp) hr
  | r + 9, _ => simp
 ·intro r hr
  simp only [List.mem_cons, List.not_mem_nil, or_false] at hr
  rcases hr with rfl | rfl
  ·rw [h4]; exact e8 _ p
  ·rw [h8]; rfl
 ·intro r hr h
  simp only [List.mem_cons, List.not_mem_nil, or_false] at hr
  simp only [List.length_cons, List.length_nil] at h
  rcases hr with rfl | rfl
  ·omega
  ·exact h8
 ·simp
 simp only [Tryz.ntmps63, aF, Nat.reduceAdd, List.length_cons, List.length_nil]
 have hlen := uT p
 have hpos : 0 < p.length := List.length_pos_iff.2 hp
 repeat' (first | with_reducible (first | refine u'1 fun _ _ => ?_ | refine u'W ?_ | (first | refine u'R ?_ | refine u'5 fun _ _ _ _ => ?_ | refine u'6 (fun hg => ?_) (fun hg => ?_) <;> try simp only [hg]) <;> simp only [wS, simprocAttr, hlen, Option.isSome_some]))
 refine gC (sz := 1) (by' := 8) (mm := p.length) (new := cI p) (es := []) (by kernel_rfl) ?hrow (by simp) ?_ (by omega) (by simp; omega) ?_
 case hrow => simp only [wS, simprocAttr]
 ·simp only [wS, simprocAttr, cU, hlen, Nat.mul_one, true_and]
  rw [List.take_of_length_le (by omega), if_pos (Nat.le_refl _)]
 simp only [wS, simprocAttr]
 repeat' (first | with_reducible (first | refine u'1 fun _ _ => ?_ | refine u'W ?_ | (first | refine u'R ?_ | refine u'5 fun _ _ _ _ => ?_ | refine u'6 (fun hg => ?_) (fun hg => ?_) <;> try simp only [hg]) <;> simp only [wS, simprocAttr]))
 refine aE rfl ?_
 simp only [wS, simprocAttr, inR]
 refine ⟨rfl, ?_⟩
 intro r hr
 simp only [List.mem_cons, List.not_mem_nil, or_false] at hr
 rcases hr with rfl | rfl
 ·exact ⟨h4.symm, e8 _ p⟩
 ·exact ⟨rfl, e8 _ p⟩
def LQ : Code → Option (Array Tmp × Code × Code)
 | .rangeFunc _ ps a b => some (ps, a, b)
 | .seq x y => match LQ x with | some z => some z | none => LQ y
 | .block _ c => LQ c
 | _ => none
noncomputable def pV : Array Tmp × Code × Code := match Tryz.f105.body with
 | some c => (LQ c).getD (#[], .skip, .skip)
 | none => (#[], .skip, .skip)
def FR (c : List AV) : List AV := [.sl true [], .fn (.func 106) [] [.imm c], .ptr 0 0 0, .undef, .sl true [], .undef, .fn (.func 106) [] [.imm c], .undef, .undef, .undef, .undef, .undef, .undef]
noncomputable def LP (c : List AV) : ARow := .loop .ready none (FR c) pV.1 pV.2.1 pV.2.2
theorem KX (ps : List (List Int)) : ∀ e ∈ PE ps, e.length = 1 := IQ ps
theorem mO (ps : List (List Int)) : inE aB (PE ps) = true := gR ps
theorem PX (ps : List (List Int)) : (PE ps).length = ps.length := iC ps
theorem GB (ps : List (List Int)) (p : List Int) : PE ps ++ [[cD p]] = PE (ps ++ [p]) := (zQ ps p).symm
theorem KY (ps : List (List Int)) : PE ps = [] ↔ ps = [] := by simp [PE]
def R0 (ps : List (List Int)) : ARow := .cells 0 [fC [] 6 1 (PE ps)]
def R6 (ps : List (List Int)) : ARow := if PE ps = [] then .none else cL [] (PE ps)
theorem i6 {p : Nat → Bool} {c : List AV} (hc : inL aB c = true) (h0 : p 0 = true) : aD p (LP c) = true := by
 have hc' := aV (p := aB) (q := p) (fun r hr => by cases hr) hc
 simp only [LP, aD, FR, inL, inR, inE, hc', h0, Bool.and_self]
theorem lZ {p : Nat → Bool} {ps : List (List Int)} (h6 : p 6 = true) : aD p (R0 ps) = true := by
 simp only [R0, aD, inL, Bool.and_true]
 exact JL h6 rfl
theorem kX {p : Nat → Bool} {ps : List (List Int)} : aD p (R6 ps) = true := by
 unfold R6
 split
 ·rfl
 ·exact HG (mO ps)
theorem L3 (c : List AV) (hc : inL aB c = true) (ps : List (List Int)) (rows : Nat → ARow) (h0 : rows 0 = R0 ps) (h1 : rows 1 = LP c) (h6 : rows 6 = R6 ps) : vB G0 (cT [R0 ps, LP c, .dead, .dead, .dead, .dead] [] (PE ps)) rows [0, 1, 6] := by
 have hl : 6 ≤ (cT [R0 ps, LP c, .dead, .dead, .dead, .dead] [] (PE ps)).length := by unfold cT; split <;> simp
 have hrow := u3 [R0 ps, LP c, .dead, .dead, .dead, .dead] [] (PE ps)
 simp only [List.length_cons, List.length_nil, Nat.reduceAdd] at hrow
 by_cases ha : PE ps = []
 ·have e : cT [R0 ps, LP c, .dead, .dead, .dead, .dead] [] (PE ps) = [R0 ps, LP c, .dead, .dead, .dead, .dead] := by rw [cT, if_pos ha]
  rw [e]
  have e6 : rows 6 = .none := by rw [h6, R6, if_pos ha]
  have e0 : fC [] 6 1 (PE ps) = .sl true [] := by rw [fC, if_pos ha]
  refine ⟨hG0, ?_, ?_, ?_, ?_⟩
  ·intro r hr
   simp only [List.mem_cons, List.not_mem_nil, or_false] at hr
   rcases hr with rfl | rfl | rfl
   ·exact h0.symm
   ·exact h1.symm
   ·exact e6.symm
  ·intro r hr
   match r, hr with
   | 0, hr => exact absurd (by simp) hr
   | 1, hr => exact absurd (by simp) hr
   | 2, _ => simp
   | 3, _ => simp
   | 4, _ => simp
   | 5, _ => simp
   | 6, hr => exact absurd (by simp) hr
   | r + 7, _ => simp
  ·intro r hr
   simp only [List.mem_cons, List.not_mem_nil, or_false] at hr
   rcases hr with rfl | rfl | rfl
   ·rw [h0, R0, e0]; rfl
   ·rw [h1]; exact i6 hc (by simp)
   ·rw [e6]; rfl
  ·intro r hr h
   simp only [List.mem_cons, List.not_mem_nil, or_false] at hr
   simp only [List.length_cons, List.length_nil, Nat.reduceAdd] at h
   rcases hr with rfl | rfl | rfl
   ·omega
   ·omega
   ·exact e6
 ·have e : cT [R0 ps, LP c, .dead, .dead, .dead, .dead] [] (PE ps) = [R0 ps, LP c, .dead, .dead, .dead, .dead, cL [] (PE ps)] := by rw [cT, if_neg ha]; rfl
  rw [e]
  have e6 : rows 6 = cL [] (PE ps) := by rw [h6, R6, if_neg ha]
  refine ⟨hG0, ?_, ?_, ?_, ?_⟩
  ·intro r hr
   simp only [List.mem_cons, List.not_mem_nil, or_false] at hr
   rcases hr with rfl | rfl | rfl
   ·exact h0.symm
   ·exact h1.symm
   ·exact e6.symm
  ·intro r hr
   match r, hr with
   | 0, hr => exact absurd (by simp) hr
   | 1, hr => exact absurd (by simp) hr
   | 2, _ => simp
   | 3, _ => simp
   | 4, _ => simp
   | 5, _ => simp
   | 6, hr => exact absurd (by simp) hr
   | r + 7, _ => simp
  ·intro r hr
   simp only [List.mem_cons, List.not_mem_nil, or_false] at hr
   rcases hr with rfl | rfl | rfl
   ·rw [h0]; exact lZ (by simp)
   ·rw [h1]; exact i6 hc (by simp)
   ·rw [h6]; exact kX
  ·intro r hr h
   simp only [List.mem_cons, List.not_mem_nil, or_false] at hr
   simp only [List.length_cons, List.length_nil, Nat.reduceAdd] at h
   omega
theorem DH (c : List AV) (hc : inL aB c = true) (ps : List (List Int)) (hb : ps.length + 1 ≤ 4398046511104) (p : List Int) (rows : Nat → ARow) (h0 : rows 0 = R0 ps) (h1 : rows 1 = LP c) (h6 : rows 6 = R6 ps) : vA Tryz.prog G0 1 [cD p] rows [0, 1, 6] ⟨.bool true, [(0, R0 (ps ++ [p])), (6, R6 (ps ++ [p]))]⟩ := by
 have hl : 6 ≤ (cT [R0 ps, LP c, .dead, .dead, .dead, .dead] [] (PE ps)).length := by unfold cT; split <;> simp
 have hR6 : R6 (ps ++ [p]) = cL [] (PE ps ++ [[cD p]]) := by rw [R6, ← GB, if_neg (by simp)]
 have e7 : pV.1 = #[7] := by kernel_rfl
 refine mR (n := 13) (L3 c hc ps rows h0 h1 h6) h1 (by simp) (by omega) rfl (by rw [e7]; rfl) (by rw [e7]; simp) (by simp only [inL, Bool.and_true]; exact eH (p := aB) (fun r hr => by cases hr) (eZ p)) (by simp) fun l => ?_
 rw [e7]
 have hfr : qS (FR c) ((#[7] : Array Tmp).toList.zip [cD p]) = mkF [(0, .sl true []), (1, .fn (.func 106) [] [.imm c]), (2, .ptr 0 0 0), (4, .sl true []), (6, .fn (.func 106) [] [.imm c]), (7, cD p), (12, .undef)] := rfl
 rw [hfr]
 obtain ⟨es, he⟩ : ∃ es, cD p = .sl false es := ⟨_, rfl⟩
 rw [he]
 refine @pH ⟨some l, none⟩ _ _ _ _ _ _ _ _ ?_
 simp only [wS, simprocAttr]
 refine ⟨FR c, #[7], pV.2.1, pV.2.2, ?_, ?_⟩
 ·rw [← e7]
  exact bY [R0 ps, LP c, .dead, .dead, .dead, .dead] [] (PE ps) (r := 1) (by simp)
 refine @jQ ⟨some l, none⟩ _ _ _ _ _ _ _ _ ?_
 refine @pH ⟨some l, none⟩ _ _ _ _ _ _ _ _ ?_
 simp only [wS, simprocAttr, fN, bY, R0]
 refine pA (H := [R0 ps, .loop .busy none (FR c) #[7] pV.2.1 pV.2.2, .dead, .dead, .dead, .dead]) (base := []) (app := PE ps) (e := [.sl false es]) (by' := 24) (by kernel_rfl) rfl (n8 (by simp)) ?_ (KX ps) ?_ (by simp only [List.length_nil, PX]; omega) ?_
 ·rfl
 ·simp [cU]
 have hav : fC [] 6 1 (PE ps ++ [[.sl false es]]) = .osl 6 (PE ps).length 0 ((PE ps).length + 1) 1 false := by
  rw [← qK]; simp
 simp only [wS, simprocAttr, fN, bY, R0, hav]
 refine ⟨none, FR c, #[7], pV.2.1, pV.2.2, rfl, rfl, rfl, ?_⟩
 rw [← e7]
 have hps : PE (ps ++ [p]) = PE ps ++ [[.sl false es]] := by rw [← GB, he]
 intro q hq
 simp only [List.mem_cons, List.not_mem_nil, or_false] at hq
 rcases hq with rfl | rfl | rfl
 ·exact ⟨by simp [hps, hav], by simp [aD, inL, inR]⟩
 ·refine ⟨h1.symm, i6 hc (by simp)⟩
 ·have e6 : R6 (ps ++ [p]) = cL [] (PE ps ++ [[.sl false es]]) := by rw [hR6, he]
  exact ⟨by simp [e6], by rw [← e6]; exact kX⟩
def hX (p : List Int) (i : Nat) (es : List T) : List (List Int) := (T.pathss es i).map fun q => p ++ q
def dP (p : List Int) (t : T) : List (List Int) := (T.paths t).map fun q => p ++ q
theorem rO (p : List Int) (k n m : Int) (es : List T) : dP p (.mk k n m es) = p :: hX p 0 es := by simp [dP, hX, T.paths]
theorem HW (p : List Int) (t : T) : (dP p t).length = T.size t := by rw [dP, List.length_map, T.paths_len]
theorem B4 (p : List Int) (es : List T) : (hX p 0 es).length = T.sizes es := by rw [hX, List.length_map, T.pathss_len]
theorem pP {p : List Int} {es : List T} {k : Nat} {e : T} (h : es[k]? = some e) : hX p 0 (es.take (k + 1)) = hX p 0 (es.take k) ++ dP (p ++ [(k : Int)]) e := by
 rw [hX, T.pathss_take h, List.map_append, hX, dP, List.map_map, Nat.zero_add]
 congr 1
 exact List.map_congr_left fun q _ => by simp
theorem yT (p : List Int) (es : List T) (k : Nat) : (hX p 0 (es.take k)).length ≤ (hX p 0 es).length := by
 rw [B4, B4]; exact T.sizes_take_le es k
def DE (b : Nat) (D : Nat) : Prop := ∀ (c0 : List AV), inL aB c0 = true → ∀ (c : T), T.size c ≤ D → ∀ (p : List Int), p ≠ [] → p.length + D ≤ 1000000000000 → ∀ (ps : List (List Int)), ps ≠ [] → ps.length + (dP p c).length ≤ 4398046511104 → ∀ (ver : Nat) (rows : Nat → ARow),
 rows 0 = R0 ps → rows 1 = LP c0 → rows 2 = .cells 0 [.yld 1] → rows 3 = .cells 0 [.fn (.func 107) [] [.ptr 2 0 0, .ptr 3 0 0]] → rows b = .cells ver (cI p) → rows 6 = R6 ps →
 cC Tryz.prog G0 107 [.agg (T.enc c), .osl b ver 0 p.length 1 false, .ptr 2 0 0, .ptr 3 0 0] rows [b, 0, 1, 2, 3, 6] ⟨.bool true, [(0, R0 (ps ++ dP p c)), (6, R6 (ps ++ dP p c))]⟩
theorem HU {b D : Nat} (hb : b ∉ [0, 1, 2, 3, 4, 6]) (h : DE 4 D) : DE b D := by
 intro c0 hc0 c hc p hp hpl ps hps hlen ver rows h0 h1 h2 h3 hrb h6
 have hb' : b ∉ [0, 1, 2, 3, 6] := fun hm => hb (by simp at hm ⊢; omega)
 have hb4 : b ≠ 4 := fun e => hb (by simp [e])
 have key := h c0 hc0 c hc p hp hpl ps hps hlen ver (fun r => if r = 4 then .cells ver (cI p) else rows r) (by simpa using h0) (by simpa using h1) (by simpa using h2) (by simpa using h3) rfl (by simpa using h6)
 have hin0 : ∀ r ∈ [0, 1, 2, 3, 6], aD (fun r => [0, 1, 2, 3, 6].contains r) (rows r) = true := by
  intro r hr
  simp only [List.mem_cons, List.not_mem_nil, or_false] at hr
  rcases hr with rfl | rfl | rfl | rfl | rfl
  ·rw [h0]; exact lZ rfl
  ·rw [h1]; exact i6 hc0 rfl
  ·rw [h2]; rfl
  ·rw [h3]; rfl
  ·rw [h6]; exact kX
 have hren : DP 4 b [(0, R0 (ps ++ dP p c)), (6, R6 (ps ++ dP p c))] = [(0, R0 (ps ++ dP p c)), (6, R6 (ps ++ dP p c))] := rfl
 rw [← hren]
 refine HB hG0 key (by decide) hb' ?_ ?_ ?_ ?_ rfl ?_
 ·simp [hrb]
 ·intro r hr
  rw [if_neg (fun e => by rw [e] at hr; exact absurd hr (by decide))]
 ·intro r hr
  rcases List.mem_cons.1 hr with rfl | hr
  ·rw [hrb]; exact e8 _ p
  ·exact hin0 r hr
 ·refine ⟨.inl ⟨rfl, ?_⟩, .inr ⟨ver, 0, p.length, 1, false, rfl, rfl⟩, .inl ⟨rfl, rfl⟩, .inl ⟨rfl, rfl⟩, trivial⟩
  simp only [inR]
  exact aV (p := aB) (fun r hr => by cases hr) (T.enc_tree c)
 ·intro r hr
  simp only [List.mem_cons, List.not_mem_nil, or_false] at hr
  rcases hr with rfl | rfl | rfl | rfl | rfl | rfl
  ·exact e8 _ p
  ·exact lZ rfl
  ·simp only [upd]; exact hin0 1 (by simp)
  ·simp only [upd]; exact hin0 2 (by simp)
  ·simp only [upd]; exact hin0 3 (by simp)
  ·exact kX
theorem yS {b D : Nat} (h : DE b D) {c0 : List AV} (hc0 : inL aB c0 = true) {c : T} (hc : T.size c ≤ D) {ce : List AV} (hce : T.enc c = ce) {p : List Int} (i : Nat) (hpl : p.length + (D + 1) ≤ 1000000000000) {ps : List (List Int)} (hps : ps ≠ []) (hlen : ps.length + (dP (p ++ [(i : Int)]) c).length ≤ 4398046511104) (ver : Nat) (rows : Nat → ARow)
  (h0 : rows 0 = R0 ps) (h1 : rows 1 = LP c0) (h2 : rows 2 = .cells 0 [.yld 1]) (h3 : rows 3 = .cells 0 [.fn (.func 107) [] [.ptr 2 0 0, .ptr 3 0 0]]) (hb : rows b = .cells ver (cI p ++ [.int .i64 (i : Int)])) (h6 : rows 6 = R6 ps) :
  cC Tryz.prog G0 107 [.agg ce, .osl b ver 0 (p.length + 1) 1 false, .ptr 2 0 0, .ptr 3 0 0] rows [b, 0, 1, 2, 3, 6] ⟨.bool true, [(0, R0 (ps ++ dP (p ++ [(i : Int)]) c)), (6, R6 (ps ++ dP (p ++ [(i : Int)]) c))]⟩ := by
 have key := h c0 hc0 c hc (p ++ [(i : Int)]) (by simp) (by simp; omega) ps hps hlen ver rows h0 h1 h2 h3 (by rw [hb]; simp [cI]) h6
 rwa [List.length_append, List.length_singleton, hce] at key
end Go.Proofs.YtblfpppnkdokdaaGreatDoor
