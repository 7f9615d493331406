import Derived.Test.YtpdibmopbpcfdaaDoorS7
set_option linter.unusedVariables false
set_option linter.unusedSimpArgs false
namespace Go.Proofs.YtpdibmopbpcfdaaDoor
open Go.AM
set_option maxRecDepth 100000
def zeroW : List AV := [.int .i64 0, .int .i64 0, .int .i64 0, .sl false []]
def nOf : List AV → Int
  | [_, .int _ n, _, _] => n
  | _ => 0
def applyS (E : Nat) (find put c : List AV) : Option (List AV) := match matchS E 8 find c true [] with
  | (true, mp) => if cmpT (8 + E) (putS mp (nOf c) 8 put) c = 0 then none else some (putS mp (nOf c) 8 put)
  | (false, _) => none
def applyV : Option (List AV) → AV
  | some x => .tup [.agg x, .bool true]
  | none => .tup [.agg zeroW, .bool false]
theorem applyS_node {E : Nat} (hE : 1 ≤ E) {find put c x : List AV} (hf : NodeV 8 find) (hp : NodeV 8 put) (hc : NodeV E c) (h : applyS E find put c = some x) : NodeV (8 + E) x ∧ wkL x = x := by
  have hg := matchS_good 8 find c true [] hf hc (fun y hy => by cases hy)
  unfold applyS at h
  split at h
  · rename_i mp hm
    rw [hm] at hg
    split at h
    · cases h
    · injection h with h
      subst h
      exact ⟨putS_node hE hg _ 8 put hp, wk_putS hE hg _ 8 put hp⟩
  · cases h
set_option maxHeartbeats 8000000 in
theorem apply_14 {E : Nat} (hE : 1 ≤ E) (nm : ByteArray) (fk fn fm : Int) (fb : Bool) (fes : List (List AV)) (pk pn pm : Int) (pb : Bool) (pes : List (List AV)) (bk : Int)
    (hf : NodeV 8 [.int .i64 fk, .int .i64 fn, .int .i64 fm, .sl fb fes]) (hp : NodeV 8 [.int .i64 pk, .int .i64 pn, .int .i64 pm, .sl pb pes])
    (hv : Pure Tryd.prog G0 27 [.agg [.str nm, .int .i64 fk, .int .i64 fn, .int .i64 fm, .sl fb fes, .int .i64 pk, .int .i64 pn, .int .i64 pm, .sl pb pes, .int .i64 bk]] (.bool true))
    (c : List AV) (hc : NodeV E c) : Pure Tryd.prog G0 14 [.agg [.str nm, .int .i64 fk, .int .i64 fn, .int .i64 fm, .sl fb fes, .int .i64 pk, .int .i64 pn, .int .i64 pm, .sl pb pes, .int .i64 bk], .agg c] (applyV (applyS E [.int .i64 fk, .int .i64 fn, .int .i64 fm, .sl fb fes] [.int .i64 pk, .int .i64 pn, .int .i64 pm, .sl pb pes] c)) := by
  have hxn := fun x => applyS_node hE (x := x) hf hp hc
  have hg := matchS_good 8 [.int .i64 fk, .int .i64 fn, .int .i64 fm, .sl fb fes] c true [] hf hc (fun y hy => by cases hy)
  have hft := hf.tree
  have hpt := hp.tree
  have hct := hc.tree
  have km := fun rows h3 => mat_38 8 _ hf c hc true [] (fun y hy => by cases hy) rows h3
  have hc2 := hc
  cases hc with
  | @mk _ d hd ck cn cm cb ces hl hh =>
  have hdef : applyS E [.int .i64 fk, .int .i64 fn, .int .i64 fm, .sl fb fes] [.int .i64 pk, .int .i64 pn, .int .i64 pm, .sl pb pes] [.int .i64 ck, .int .i64 cn, .int .i64 cm, .sl cb ces] = match matchS E 8 [.int .i64 fk, .int .i64 fn, .int .i64 fm, .sl fb fes] [.int .i64 ck, .int .i64 cn, .int .i64 cm, .sl cb ces] true [] with
    | (true, mp) => if cmpT (8 + E) (putS mp cn 8 [.int .i64 pk, .int .i64 pn, .int .i64 pm, .sl pb pes]) [.int .i64 ck, .int .i64 cn, .int .i64 cm, .sl cb ces] = 0 then none else some (putS mp cn 8 [.int .i64 pk, .int .i64 pn, .int .i64 pm, .sl pb pes])
    | (false, _) => none := rfl
  generalize applyS E [.int .i64 fk, .int .i64 fn, .int .i64 fm, .sl fb fes] [.int .i64 pk, .int .i64 pn, .int .i64 pm, .sl pb pes] [.int .i64 ck, .int .i64 cn, .int .i64 cm, .sl cb ces] = res at hdef hxn
  have hrt : inR noRef (applyV res) = true := by
    cases res with
    | none => rfl
    | some x => simp only [applyV, inR, inL, ((hxn x rfl).1).tree, Bool.and_self]
  refine pure_of_bodyW hG0 Tryd.func14 rfl (by kernel_rfl) (by simp [Tryd.ntmps14]) (by simp only [inL, inR] at hft hpt hct ⊢; simp_all) hrt ?_
  simp only [Tryd.ntmps14, enterF, Nat.reduceAdd]
  repeat' (first | refine u'1 fun _ _ => ?_ | refine u'2 ?_ | (first | refine u'3 ?_ | refine u'4 ?_ | refine u'5 fun _ _ _ _ => ?_ | (refine u'6 (fun hg => ?_) (fun hg => ?_) <;> try simp only [hg])) <;> simp only [wS, simprocAttr] | (refine u'7 ?_; try simp only [wE, simprocAttr]) | refine u'8 ?_ | refine u'9 ?_)
  refine callR_tree hG0 hv ?_
  simp only [wS, simprocAttr, Bool.not_true]
  have e0 : ARow.map [] [] = mapRow [] := rfl
  refine ⟨_, _, km _ (by simp only [wS, simprocAttr]; try exact rfl), ?_⟩
  cases hm : matchS E 8 [.int .i64 fk, .int .i64 fn, .int .i64 fm, .sl fb fes] [.int .i64 ck, .int .i64 cn, .int .i64 cm, .sl cb ces] true [] with
  | mk ok mp =>
  rw [hm] at hdef hg
  simp only at hdef hg
  cases ok with
  | false =>
    simp only [wS, simprocAttr, Bool.not_true, Bool.not_false]
    repeat' (first | refine u'1 fun _ _ => ?_ | refine u'2 ?_ | (first | refine u'3 ?_ | refine u'4 ?_ | refine u'5 fun _ _ _ _ => ?_ | (refine u'6 (fun hg => ?_) (fun hg => ?_) <;> try simp only [hg])) <;> simp only [wS, simprocAttr, Bool.not_true, Bool.not_false] | (refine u'7 ?_; try simp only [wE, simprocAttr]) | refine u'8 ?_ | refine u'9 ?_)
    refine body_retCT (v := .agg [.int .i64 0, .int .i64 0, .int .i64 0, .sl true []]) rfl ?_ ?_
    · simp only [wS, simprocAttr]
    · simp only [wS, simprocAttr]
      rw [hdef]; rfl
  | true =>
    replace hdef : res = if cmpT (8 + E) (putS mp cn 8 [.int .i64 pk, .int .i64 pn, .int .i64 pm, .sl pb pes]) [.int .i64 ck, .int .i64 cn, .int .i64 cm, .sl cb ces] = 0 then none else some (putS mp cn 8 [.int .i64 pk, .int .i64 pn, .int .i64 pm, .sl pb pes]) := hdef
    have hpn := putS_node hE hg cn 8 _ hp
    have hpw := wk_putS hE hg cn 8 _ hp
    have kp := fun rows h1 h3 h4 h5 => put_39 hE 8 _ hp mp hg ck cn cm cb ces hc2 rows h1 h3 h4 h5
    have kc := cmp_15 (8 + E) _ _ hpn (hc2.up (by omega))
    generalize putS mp cn 8 [.int .i64 pk, .int .i64 pn, .int .i64 pm, .sl pb pes] = out at hdef hpn hpw kp kc
    have hpnt := hpn.tree
    cases hpn with
    | @mk _ d3 hd3 ok on om ob oes hl3 hh3 =>
    simp only [wS, simprocAttr, Bool.not_true, Bool.not_false]
    repeat' (first | refine u'1 fun _ _ => ?_ | refine u'2 ?_ | (first | refine u'3 ?_ | refine u'4 ?_ | refine u'5 fun _ _ _ _ => ?_ | (refine u'6 (fun hg => ?_) (fun hg => ?_) <;> try simp only [hg])) <;> simp only [wS, simprocAttr, Bool.not_true, Bool.not_false] | (refine u'7 ?_; try simp only [wE, simprocAttr]) | refine u'8 ?_ | refine u'9 ?_)
    refine ⟨_, _, kp _ (by simp only [wS, simprocAttr]) (by simp only [wS, simprocAttr]) (by simp only [wS, simprocAttr]) (by simp only [wS, simprocAttr]), ?_⟩
    simp only [wS, simprocAttr]
    repeat' (first | refine u'1 fun _ _ => ?_ | refine u'2 ?_ | (first | refine u'3 ?_ | refine u'4 ?_ | refine u'5 fun _ _ _ _ => ?_ | (refine u'6 (fun hg => ?_) (fun hg => ?_) <;> try simp only [hg])) <;> simp only [wS, simprocAttr] | (refine u'7 ?_; try simp only [wE, simprocAttr]) | refine u'8 ?_ | refine u'9 ?_)
    refine callR_tree hG0 kc ?_
    simp only [wS, simprocAttr]
    repeat' (first | refine u'1 fun _ _ => ?_ | refine u'2 ?_ | (first | refine u'3 ?_ | refine u'4 ?_ | refine u'5 fun _ _ _ _ => ?_ | (refine u'6 (fun hg => ?_) (fun hg => ?_) <;> try simp only [hg])) <;> simp only [wS, simprocAttr] | (refine u'7 ?_; try simp only [wE, simprocAttr]) | refine u'8 ?_ | refine u'9 ?_)
    refine ⟨fun h => ?_, fun h => ?_⟩
    · have hz : cmpT (8 + E) [.int .i64 ok, .int .i64 on, .int .i64 om, .sl ob oes] [.int .i64 ck, .int .i64 cn, .int .i64 cm, .sl cb ces] = 0 := by simpa using h
      rw [if_pos hz] at hdef
      repeat' (first | refine u'1 fun _ _ => ?_ | refine u'2 ?_ | (first | refine u'3 ?_ | refine u'4 ?_ | refine u'5 fun _ _ _ _ => ?_ | (refine u'6 (fun hg => ?_) (fun hg => ?_) <;> try simp only [hg])) <;> simp only [wS, simprocAttr] | (refine u'7 ?_; try simp only [wE, simprocAttr]) | refine u'8 ?_ | refine u'9 ?_)
      refine body_retCT (v := .agg [.int .i64 0, .int .i64 0, .int .i64 0, .sl true []]) rfl ?_ ?_
      · simp only [wS, simprocAttr]
      · simp only [wS, simprocAttr]
        rw [hdef]; rfl
    · have hz : cmpT (8 + E) [.int .i64 ok, .int .i64 on, .int .i64 om, .sl ob oes] [.int .i64 ck, .int .i64 cn, .int .i64 cm, .sl cb ces] ≠ 0 := by simpa using h
      rw [if_neg hz] at hdef
      repeat' (first | refine u'1 fun _ _ => ?_ | refine u'2 ?_ | (first | refine u'3 ?_ | refine u'4 ?_ | refine u'5 fun _ _ _ _ => ?_ | (refine u'6 (fun hg => ?_) (fun hg => ?_) <;> try simp only [hg])) <;> simp only [wS, simprocAttr] | (refine u'7 ?_; try simp only [wE, simprocAttr]) | refine u'8 ?_ | refine u'9 ?_)
      refine body_retCT (v := .agg [.int .i64 ok, .int .i64 on, .int .i64 om, .sl ob oes]) rfl ?_ ?_
      · simp only [wS, simprocAttr]
      · simp only [wS, simprocAttr]
        rw [hdef]
        show AV.tup [.agg (wkL [.int .i64 ok, .int .i64 on, .int .i64 om, .sl ob oes]), .bool true] = _
        rw [hpw]; rfl
end Go.Proofs.YtpdibmopbpcfdaaDoor
