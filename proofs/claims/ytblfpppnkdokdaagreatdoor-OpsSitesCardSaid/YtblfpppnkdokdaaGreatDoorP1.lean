import Derived.Test.YtblfpppnkdokdaaGreatDoorAE
import Derived.Test.YtblfpppnkdokdaaGreatDoorM1
import Derived.Test.YtblfpppnkdokdaaGreatDoorT0
import Derived.Test.YtblfpppnkdokdaaGreatDoorTypes
import Derived.Test.YtblfpppnkdokdaaGreatDoorN4
import Derived.Test.YtblfpppnkdokdaaGreatDoorV0
set_option linter.unusedVariables false
set_option linter.unusedSimpArgs false
namespace Go.Proofs.YtblfpppnkdokdaaGreatDoor
open Go.AM
attribute [local irreducible] AWp aR aV bI bN bR aO aQ bK
set_option maxRecDepth 100000
section
variable {P : Program} {G : Nat → Option (List AV)} {n : Nat} {K : Option Acc → AS → Prop} {d : Option Tmp} {rest : List POp} {m : Option Acc} {s : AS} {f : FuncId} {args : List AV} {fp : List Nat} {eff : Eff}
theorem cQ (h : cB P G f args s.row fp eff) (hk : aR P G n K rest (adv m fp (eff.wr.map (·.1))) ((s.wr eff.wr).put d eff.val)) : aV P G n K d rest m s f args := by
 unfold aV
 exact ⟨_, _, h, hk⟩
theorem DV {r : Nat} (h : vG P G r args s.row fp eff) (hk : aR P G n K rest (adv m fp (eff.wr.map (·.1))) ((s.wr eff.wr).put d eff.val)) : O0 P G n K d rest m s r args := ⟨_, _, h, hk⟩
end
def cI (l : List Int) : List AV := l.map fun n => .int .i64 n
theorem GJ (l : List Int) : (l.map fun n => [AV.int .i64 n]).flatten = cI l := by
 induction l with
 | nil => rfl
 | cons x l ih => simp only [List.map_cons, List.flatten_cons, ih]; rfl
theorem fA (p : Nat → Bool) (l : List Int) : inL p (cI l) = true := by
 induction l with
 | nil => rfl
 | cons x l ih => simp only [cI, List.map_cons, inL, inR, Bool.true_and] at ih ⊢; exact ih
theorem u1 (l : List Int) : (cI l).length = l.length := by simp [cI]
theorem yI : Pure Tryz.prog G0 63 [cE []] (cE []) := by
 refine bF hG0 Tryz.func63 rfl (by kernel_rfl) (by simp [Tryz.ntmps63]) (by simp [inL, inR, e9]) (by simp [e9]) ?_
 simp only [Tryz.ntmps63, aF, Nat.reduceAdd]
 repeat' (first | with_reducible (first | refine u'1 fun _ _ => ?_ | refine u'W ?_ | (first | refine u'R ?_ | refine u'5 fun _ _ _ _ => ?_ | refine u'6 (fun hg => ?_) (fun hg => ?_) <;> try simp only [hg]) <;> simp only [wS, simprocAttr, cE, List.map_nil, List.isEmpty_nil, Bool.not_true]))
 refine ⟨?_, ?_⟩ <;> repeat' (first | with_reducible (first | refine u'1 fun _ _ => ?_ | refine u'W ?_ | (first | refine u'R ?_ | refine u'5 fun _ _ _ _ => ?_ | refine u'6 (fun hg => ?_) (fun hg => ?_) <;> try simp only [hg]) <;> simp only [wS, simprocAttr]))
 ·refine aD rfl ?_
  simp only [wS, simprocAttr]
  rfl
 ·refine pD (sz := 1) (by' := 8) (new := []) (by kernel_rfl) (by simp) (by simp [cV]) (by simp) ?_
  simp only [wS, simprocAttr]
  repeat' (first | with_reducible (first | refine u'1 fun _ _ => ?_ | refine u'W ?_ | (first | refine u'R ?_ | refine u'5 fun _ _ _ _ => ?_ | refine u'6 (fun hg => ?_) (fun hg => ?_) <;> try simp only [hg]) <;> simp only [wS, simprocAttr]))
  refine aD rfl ?_
  simp only [wS, simprocAttr]
  rfl
theorem DB (p : List Int) (hp : p ≠ []) (hl : p.length ≤ 1000000000000) (ver : Nat) (fl : Bool) (rows : Nat → ARow) (h4 : rows 4 = .cells ver (cI p)) (h8 : rows 8 = .none) : cB Tryz.prog G0 63 [.osl 4 ver 0 p.length 1 fl] rows [4, 8] ⟨.osl 8 0 0 p.length 1 false, [(8, .cells 0 (cI p))]⟩ := by
 refine bG [.dead, .dead, .dead, .dead, .cells ver (cI p), .dead, .dead, .dead] hG0 Tryz.func63 rfl (by kernel_rfl) (by simp [Tryz.ntmps63]) ?_ ?_ (by simp [inL, inR]) ?_ ?_ ?_ ?_
 ·intro r hr
  simp only [List.mem_cons, List.not_mem_nil, or_false] at hr
  rcases hr with rfl | rfl
  ·exact h4.symm
  ·exact h8.symm
 ·intro r hr
  match r, hr with
  | 0, _ => simp
  | 1, _ => simp
  | 2, _ => simp
  | 3, _ => simp
  | 4, hr => exact absurd (by simp) hr
  | 5, _ => simp
  | 6, _ => simp
  | 7, _ => simp
  | 8, hr => exact absurd (by simp) hr
  | r + 9, _ => simp
 ·intro r hr
  simp only [List.mem_cons, List.not_mem_nil, or_false] at hr
  rcases hr with rfl | rfl
  ·rw [h4]; exact fA _ p
  ·rw [h8]; rfl
 ·intro r hr h
  simp only [List.mem_cons, List.not_mem_nil, or_false] at hr
  simp only [List.length_cons, List.length_nil] at h
  rcases hr with rfl | rfl
  ·omega
  ·exact h8
 ·simp
 simp only [Tryz.ntmps63, aF, Nat.reduceAdd, List.length_cons, List.length_nil]
 have hlen := u1 p
 have hpos : 0 < p.length := List.length_pos_iff.2 hp
 repeat' (first | with_reducible (first | refine u'1 fun _ _ => ?_ | refine u'W ?_ | (first | refine u'R ?_ | refine u'5 fun _ _ _ _ => ?_ | refine u'6 (fun hg => ?_) (fun hg => ?_) <;> try simp only [hg]) <;> simp only [wS, simprocAttr, hlen, Option.isSome_some]))
 refine gL (sz := 1) (by' := 8) (mm := p.length) (new := cI p) (es := []) (by kernel_rfl) ?hrow (by simp) ?_ (by omega) (by simp; omega) ?_
 case hrow => simp only [wS, simprocAttr]
 ·simp only [wS, simprocAttr, cV, hlen, Nat.mul_one, true_and]
  rw [List.take_of_length_le (by omega), if_pos (Nat.le_refl _)]
 simp only [wS, simprocAttr]
 repeat' (first | with_reducible (first | refine u'1 fun _ _ => ?_ | refine u'W ?_ | (first | refine u'R ?_ | refine u'5 fun _ _ _ _ => ?_ | refine u'6 (fun hg => ?_) (fun hg => ?_) <;> try simp only [hg]) <;> simp only [wS, simprocAttr]))
 refine aD rfl ?_
 simp only [wS, simprocAttr, inR]
 refine ⟨rfl, ?_⟩
 intro r hr
 simp only [List.mem_cons, List.not_mem_nil, or_false] at hr
 rcases hr with rfl | rfl
 ·exact ⟨h4.symm, fA _ p⟩
 ·exact ⟨rfl, fA _ p⟩
def M7 : Code → Option (Array Tmp × Code × Code)
 | .rangeFunc _ ps a b => some (ps, a, b)
 | .seq x y => match M7 x with | some z => some z | none => M7 y
 | .block _ c => M7 c
 | _ => none
noncomputable def pX : Array Tmp × Code × Code := match Tryz.f105.body with
 | some c => (M7 c).getD (#[], .skip, .skip)
 | none => (#[], .skip, .skip)
def FR (c : List AV) : List AV := [.sl true [], .fn (.func 106) [] [.imm c], .ptr 0 0 0, .undef, .sl true [], .undef, .fn (.func 106) [] [.imm c], .undef, .undef, .undef, .undef, .undef, .undef]
noncomputable def LP (c : List AV) : ARow := .loop .ready none (FR c) pX.1 pX.2.1 pX.2.2
theorem LI (ps : List (List Int)) : ∀ e ∈ PE ps, e.length = 1 := J8 ps
theorem mP (ps : List (List Int)) : inE aC (PE ps) = true := fZ ps
theorem QC (ps : List (List Int)) : (PE ps).length = ps.length := gF ps
theorem GN (ps : List (List Int)) (p : List Int) : PE ps ++ [[cE p]] = PE (ps ++ [p]) := (zW ps p).symm
theorem LJ (ps : List (List Int)) : PE ps = [] ↔ ps = [] := by simp [PE]
def R0 (ps : List (List Int)) : ARow := .cells 0 [fF [] 6 1 (PE ps)]
def R6 (ps : List (List Int)) : ARow := if PE ps = [] then .none else cK [] (PE ps)
theorem i6 {p : Nat → Bool} {c : List AV} (hc : inL aC c = true) (h0 : p 0 = true) : aE p (LP c) = true := by
 have hc' := aU (p := aC) (q := p) (fun r hr => by cases hr) hc
 simp only [LP, aE, FR, inL, inR, inE, hc', h0, Bool.and_self]
theorem mA {p : Nat → Bool} {ps : List (List Int)} (h6 : p 6 = true) : aE p (R0 ps) = true := by
 simp only [R0, aE, inL, Bool.and_true]
 exact K8 h6 rfl
theorem kY {p : Nat → Bool} {ps : List (List Int)} : aE p (R6 ps) = true := by
 unfold R6
 split
 ·rfl
 ·exact HT (mP ps)
theorem LM (c : List AV) (hc : inL aC c = true) (ps : List (List Int)) (rows : Nat → ARow) (h0 : rows 0 = R0 ps) (h1 : rows 1 = LP c) (h6 : rows 6 = R6 ps) : vH G0 (cU [R0 ps, LP c, .dead, .dead, .dead, .dead] [] (PE ps)) rows [0, 1, 6] := by
 have hl : 6 ≤ (cU [R0 ps, LP c, .dead, .dead, .dead, .dead] [] (PE ps)).length := by unfold cU; split <;> simp
 have hrow := vB [R0 ps, LP c, .dead, .dead, .dead, .dead] [] (PE ps)
 simp only [List.length_cons, List.length_nil, Nat.reduceAdd] at hrow
 by_cases ha : PE ps = []
 ·have e : cU [R0 ps, LP c, .dead, .dead, .dead, .dead] [] (PE ps) = [R0 ps, LP c, .dead, .dead, .dead, .dead] := by rw [cU, if_pos ha]
  rw [e]
  have e6 : rows 6 = .none := by rw [h6, R6, if_pos ha]
  have e0 : fF [] 6 1 (PE ps) = .sl true [] := by rw [fF, if_pos ha]
  refine ⟨hG0, ?_, ?_, ?_, ?_⟩
  ·intro r hr
   simp only [List.mem_cons, List.not_mem_nil, or_false] at hr
   rcases hr with rfl | rfl | rfl
   ·exact h0.symm
   ·exact h1.symm
   ·exact e6.symm
  ·intro r hr
   match r, hr with
   | 0, hr => exact absurd (by simp) hr
   | 1, hr => exact absurd (by simp) hr
   | 2, _ => simp
   | 3, _ => simp
   | 4, _ => simp
   | 5, _ => simp
   | 6, hr => exact absurd (by simp) hr
   | r + 7, _ => simp
  ·intro r hr
   simp only [List.mem_cons, List.not_mem_nil, or_false] at hr
   rcases hr with rfl | rfl | rfl
   ·rw [h0, R0, e0]; rfl
   ·rw [h1]; exact i6 hc (by simp)
   ·rw [e6]; rfl
  ·intro r hr h
   simp only [List.mem_cons, List.not_mem_nil, or_false] at hr
   simp only [List.length_cons, List.length_nil, Nat.reduceAdd] at h
   rcases hr with rfl | rfl | rfl
   ·omega
   ·omega
   ·exact e6
 ·have e : cU [R0 ps, LP c, .dead, .dead, .dead, .dead] [] (PE ps) = [R0 ps, LP c, .dead, .dead, .dead, .dead, cK [] (PE ps)] := by rw [cU, if_neg ha]; rfl
  rw [e]
  have e6 : rows 6 = cK [] (PE ps) := by rw [h6, R6, if_neg ha]
  refine ⟨hG0, ?_, ?_, ?_, ?_⟩
  ·intro r hr
   simp only [List.mem_cons, List.not_mem_nil, or_false] at hr
   rcases hr with rfl | rfl | rfl
   ·exact h0.symm
   ·exact h1.symm
   ·exact e6.symm
  ·intro r hr
   match r, hr with
   | 0, hr => exact absurd (by simp) hr
   | 1, hr => exact absurd (by simp) hr
   | 2, _ => simp
   | 3, _ => simp
   | 4, _ => simp
   | 5, _ => simp
   | 6, hr => exact absurd (by simp) hr
   | r + 7, _ => simp
  ·intro r hr
   simp only [List.mem_cons, List.not_mem_nil, or_false] at hr
   rcases hr with rfl | rfl | rfl
   ·rw [h0]; exact mA (by simp)
   ·rw [h1]; exact i6 hc (by simp)
   ·rw [h6]; exact kY
  ·intro r hr h
   simp only [List.mem_cons, List.not_mem_nil, or_false] at hr
   simp only [List.length_cons, List.length_nil, Nat.reduceAdd] at h
   omega
theorem DU (c : List AV) (hc : inL aC c = true) (ps : List (List Int)) (hb : ps.length + 1 ≤ 4398046511104) (p : List Int) (rows : Nat → ARow) (h0 : rows 0 = R0 ps) (h1 : rows 1 = LP c) (h6 : rows 6 = R6 ps) : vG Tryz.prog G0 1 [cE p] rows [0, 1, 6] ⟨.bool true, [(0, R0 (ps ++ [p])), (6, R6 (ps ++ [p]))]⟩ := by
 have hl : 6 ≤ (cU [R0 ps, LP c, .dead, .dead, .dead, .dead] [] (PE ps)).length := by unfold cU; split <;> simp
 have hR6 : R6 (ps ++ [p]) = cK [] (PE ps ++ [[cE p]]) := by rw [R6, ← GN, if_neg (by simp)]
 have e7 : pX.1 = #[7] := by kernel_rfl
 refine mS (n := 13) (LM c hc ps rows h0 h1 h6) h1 (by simp) (by omega) rfl (by rw [e7]; rfl) (by rw [e7]; simp) (by simp only [inL, Bool.and_true]; exact eJ (p := aC) (fun r hr => by cases hr) (e9 p)) (by simp) fun l => ?_
 rw [e7]
 have hfr : qU (FR c) ((#[7] : Array Tmp).toList.zip [cE p]) = mkF [(0, .sl true []), (1, .fn (.func 106) [] [.imm c]), (2, .ptr 0 0 0), (4, .sl true []), (6, .fn (.func 106) [] [.imm c]), (7, cE p), (12, .undef)] := rfl
 rw [hfr]
 obtain ⟨es, he⟩ : ∃ es, cE p = .sl false es := ⟨_, rfl⟩
 rw [he]
 refine @pK ⟨some l, none⟩ _ _ _ _ _ _ _ _ ?_
 simp only [wS, simprocAttr]
 refine ⟨FR c, #[7], pX.2.1, pX.2.2, ?_, ?_⟩
 ·rw [← e7]
  exact bZ [R0 ps, LP c, .dead, .dead, .dead, .dead] [] (PE ps) (r := 1) (by simp)
 refine @jR ⟨some l, none⟩ _ _ _ _ _ _ _ _ ?_
 refine @pK ⟨some l, none⟩ _ _ _ _ _ _ _ _ ?_
 simp only [wS, simprocAttr, fR, bZ, R0]
 refine pE (H := [R0 ps, .loop .busy none (FR c) #[7] pX.2.1 pX.2.2, .dead, .dead, .dead, .dead]) (base := []) (app := PE ps) (e := [.sl false es]) (by' := 24) (by kernel_rfl) rfl (n8 (by simp)) ?_ (LI ps) ?_ (by simp only [List.length_nil, QC]; omega) ?_
 ·rfl
 ·simp [cV]
 have hav : fF [] 6 1 (PE ps ++ [[.sl false es]]) = .osl 6 (PE ps).length 0 ((PE ps).length + 1) 1 false := by
  rw [← qL]; simp
 simp only [wS, simprocAttr, fR, bZ, R0, hav]
 refine ⟨none, FR c, #[7], pX.2.1, pX.2.2, rfl, rfl, rfl, ?_⟩
 rw [← e7]
 have hps : PE (ps ++ [p]) = PE ps ++ [[.sl false es]] := by rw [← GN, he]
 intro q hq
 simp only [List.mem_cons, List.not_mem_nil, or_false] at hq
 rcases hq with rfl | rfl | rfl
 ·exact ⟨by simp [hps, hav], by simp [aE, inL, inR]⟩
 ·refine ⟨h1.symm, i6 hc (by simp)⟩
 ·have e6 : R6 (ps ++ [p]) = cK [] (PE ps ++ [[.sl false es]]) := by rw [hR6, he]
  exact ⟨by simp [e6], by rw [← e6]; exact kY⟩
def iE (p : List Int) (i : Nat) (es : List T) : List (List Int) := (T.pathss es i).map fun q => p ++ q
def dT (p : List Int) (t : T) : List (List Int) := (T.paths t).map fun q => p ++ q
theorem rU (p : List Int) (k n m : Int) (es : List T) : dT p (.mk k n m es) = p :: iE p 0 es := by simp [dT, iE, T.paths]
theorem I7 (p : List Int) (t : T) : (dT p t).length = T.size t := by rw [dT, List.length_map, T.paths_len]
theorem BF (p : List Int) (es : List T) : (iE p 0 es).length = T.sizes es := by rw [iE, List.length_map, T.pathss_len]
theorem pS {p : List Int} {es : List T} {k : Nat} {e : T} (h : es[k]? = some e) : iE p 0 (es.take (k + 1)) = iE p 0 (es.take k) ++ dT (p ++ [(k : Int)]) e := by
 rw [iE, T.pathss_take h, List.map_append, iE, dT, List.map_map, Nat.zero_add]
 congr 1
 exact List.map_congr_left fun q _ => by simp
theorem y6 (p : List Int) (es : List T) (k : Nat) : (iE p 0 (es.take k)).length ≤ (iE p 0 es).length := by
 rw [BF, BF]; exact T.sizes_take_le es k
def DR (b : Nat) (D : Nat) : Prop := ∀ (c0 : List AV), inL aC c0 = true → ∀ (c : T), T.size c ≤ D → ∀ (p : List Int), p ≠ [] → p.length + D ≤ 1000000000000 → ∀ (ps : List (List Int)), ps ≠ [] → ps.length + (dT p c).length ≤ 4398046511104 → ∀ (ver : Nat) (rows : Nat → ARow),
 rows 0 = R0 ps → rows 1 = LP c0 → rows 2 = .cells 0 [.yld 1] → rows 3 = .cells 0 [.fn (.func 107) [] [.ptr 2 0 0, .ptr 3 0 0]] → rows b = .cells ver (cI p) → rows 6 = R6 ps →
 cB Tryz.prog G0 107 [.agg (T.enc c), .osl b ver 0 p.length 1 false, .ptr 2 0 0, .ptr 3 0 0] rows [b, 0, 1, 2, 3, 6] ⟨.bool true, [(0, R0 (ps ++ dT p c)), (6, R6 (ps ++ dT p c))]⟩
theorem I5 {b D : Nat} (hb : b ∉ [0, 1, 2, 3, 4, 6]) (h : DR 4 D) : DR b D := by
 intro c0 hc0 c hc p hp hpl ps hps hlen ver rows h0 h1 h2 h3 hrb h6
 have hb' : b ∉ [0, 1, 2, 3, 6] := fun hm => hb (by simp at hm ⊢; omega)
 have hb4 : b ≠ 4 := fun e => hb (by simp [e])
 have key := h c0 hc0 c hc p hp hpl ps hps hlen ver (fun r => if r = 4 then .cells ver (cI p) else rows r) (by simpa using h0) (by simpa using h1) (by simpa using h2) (by simpa using h3) rfl (by simpa using h6)
 have hin0 : ∀ r ∈ [0, 1, 2, 3, 6], aE (fun r => [0, 1, 2, 3, 6].contains r) (rows r) = true := by
  intro r hr
  simp only [List.mem_cons, List.not_mem_nil, or_false] at hr
  rcases hr with rfl | rfl | rfl | rfl | rfl
  ·rw [h0]; exact mA rfl
  ·rw [h1]; exact i6 hc0 rfl
  ·rw [h2]; rfl
  ·rw [h3]; rfl
  ·rw [h6]; exact kY
 have hren : E9 4 b [(0, R0 (ps ++ dT p c)), (6, R6 (ps ++ dT p c))] = [(0, R0 (ps ++ dT p c)), (6, R6 (ps ++ dT p c))] := rfl
 rw [← hren]
 refine HM hG0 key (by decide) hb' ?_ ?_ ?_ ?_ rfl ?_
 ·simp [hrb]
 ·intro r hr
  rw [if_neg (fun e => by rw [e] at hr; exact absurd hr (by decide))]
 ·intro r hr
  rcases List.mem_cons.1 hr with rfl | hr
  ·rw [hrb]; exact fA _ p
  ·exact hin0 r hr
 ·refine ⟨.inl ⟨rfl, ?_⟩, .inr ⟨ver, 0, p.length, 1, false, rfl, rfl⟩, .inl ⟨rfl, rfl⟩, .inl ⟨rfl, rfl⟩, trivial⟩
  simp only [inR]
  exact aU (p := aC) (fun r hr => by cases hr) (T.enc_tree c)
 ·intro r hr
  simp only [List.mem_cons, List.not_mem_nil, or_false] at hr
  rcases hr with rfl | rfl | rfl | rfl | rfl | rfl
  ·exact fA _ p
  ·exact mA rfl
  ·simp only [upd]; exact hin0 1 (by simp)
  ·simp only [upd]; exact hin0 2 (by simp)
  ·simp only [upd]; exact hin0 3 (by simp)
  ·exact kY
theorem y5 {b D : Nat} (h : DR b D) {c0 : List AV} (hc0 : inL aC c0 = true) {c : T} (hc : T.size c ≤ D) {ce : List AV} (hce : T.enc c = ce) {p : List Int} (i : Nat) (hpl : p.length + (D + 1) ≤ 1000000000000) {ps : List (List Int)} (hps : ps ≠ []) (hlen : ps.length + (dT (p ++ [(i : Int)]) c).length ≤ 4398046511104) (ver : Nat) (rows : Nat → ARow)
  (h0 : rows 0 = R0 ps) (h1 : rows 1 = LP c0) (h2 : rows 2 = .cells 0 [.yld 1]) (h3 : rows 3 = .cells 0 [.fn (.func 107) [] [.ptr 2 0 0, .ptr 3 0 0]]) (hb : rows b = .cells ver (cI p ++ [.int .i64 (i : Int)])) (h6 : rows 6 = R6 ps) :
  cB Tryz.prog G0 107 [.agg ce, .osl b ver 0 (p.length + 1) 1 false, .ptr 2 0 0, .ptr 3 0 0] rows [b, 0, 1, 2, 3, 6] ⟨.bool true, [(0, R0 (ps ++ dT (p ++ [(i : Int)]) c)), (6, R6 (ps ++ dT (p ++ [(i : Int)]) c))]⟩ := by
 have key := h c0 hc0 c hc (p ++ [(i : Int)]) (by simp) (by simp; omega) ps hps hlen ver rows h0 h1 h2 h3 (by rw [hb]; simp [cI]) h6
 rwa [List.length_append, List.length_singleton, hce] at key
end Go.Proofs.YtblfpppnkdokdaaGreatDoor
