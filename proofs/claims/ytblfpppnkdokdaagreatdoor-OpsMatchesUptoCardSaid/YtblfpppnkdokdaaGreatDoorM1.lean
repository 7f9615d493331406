import Derived.Test.YtblfpppnkdokdaaGreatDoorAH
set_option linter.unusedVariables false
set_option linter.unusedSimpArgs false
namespace Go.Proofs.YtblfpppnkdokdaaGreatDoor
open Go.AM
attribute [local irreducible] AWp aP aT bC bH bN aI aL bG
def bR (n : Int) : Prop := -9223372036854775808 ≤ n ∧ n ≤ 9223372036854775807
def lV (n m : Int) : Int := (if n < 0 then -(n + 1) else n).tmod m
theorem yJ (n m : Int) (hn : bR n) (hm : m ≠ 0) : Pure Tryz.prog G0 32 [.int .i64 n, .int .i64 m] (.int .i64 (lV n m)) := by
 obtain ⟨h1, h2⟩ := hn
 refine aM hG0 Tryz.func32 rfl (by kernel_rfl) (by simp [Tryz.ntmps32]) (by simp [inL, inR]) (by simp [inR]) ?_
 simp only [Tryz.ntmps32, aF, Nat.reduceAdd]
 repeat' (first | with_reducible (first | refine u'1 fun _ _ => ?_ | refine u'W ?_ | (first | refine u'R ?_ | refine u'5 fun _ _ _ _ => ?_ | refine u'6 (fun hg => ?_) (fun hg => ?_) <;> try simp only [hg]) <;> simp only [wS, simprocAttr]))
 refine ⟨fun h => ?_, fun h => ?_⟩
 ·simp at h
  have e1 : IntKind.i64.wrap (n + 1) = n + 1 := cZ (by omega) (by omega)
  have e2 : IntKind.i64.wrap (0 - (n + 1)) = -(n + 1) := by rw [cZ (by omega) (by omega)]; omega
  repeat' (first | with_reducible (first | refine u'1 fun _ _ => ?_ | refine u'W ?_ | (first | refine u'R ?_ | refine u'5 fun _ _ _ _ => ?_ | refine u'6 (fun hg => ?_) (fun hg => ?_) <;> try simp only [hg]) <;> simp only [wS, simprocAttr, e1, e2, hm]))
  refine aE rfl ?_
  simp only [amS, if_true, if_false]
  rw [lV, if_pos h]
 ·simp at h
  repeat' (first | with_reducible (first | refine u'1 fun _ _ => ?_ | refine u'W ?_ | (first | refine u'R ?_ | refine u'5 fun _ _ _ _ => ?_ | refine u'6 (fun hg => ?_) (fun hg => ?_) <;> try simp only [hg]) <;> simp only [wS, simprocAttr, hm]))
  refine aE rfl ?_
  simp only [amS, if_true, if_false]
  rw [lV, if_neg (by omega)]
theorem mZ (n m : Int) (hm : 0 < m) : 0 ≤ lV n m ∧ lV n m < m := by
 unfold lV
 split
 ·exact ⟨Int.tmod_nonneg _ (by omega), Int.tmod_lt_of_pos _ hm⟩
 ·exact ⟨Int.tmod_nonneg _ (by omega), Int.tmod_lt_of_pos _ hm⟩
def cD (l : List Int) : AV := .sl false (l.map fun n => [.int .i64 n])
theorem cG : ∀ (l : List Int), inE aB (l.map fun n => [AV.int .i64 n]) = true
 | [] => by simp [inE]
 | x :: l => by simp [inE, inL, inR, cG l]
theorem eZ (l : List Int) : inR aB (cD l) = true := by simp only [cD, inR]; exact cG l
def atS (l : List Int) (i m : Int) : Int := if 0 ≤ i then (match l[i.toNat]? with | some x => lV x m | none => 0) else 0
theorem KM (l : List Int) (i m : Int) (hm : 0 < m) : 0 ≤ atS l i m ∧ atS l i m < m := by
 unfold atS
 split
 ·split
  ·exact mZ _ _ hm
  ·omega
 ·omega
theorem uZ (l : List Int) (i m : Int) (hl : ∀ x ∈ l, bR x) (hm : m ≠ 0) : Pure Tryz.prog G0 28 [cD l, .int .i64 i, .int .i64 m] (.int .i64 (atS l i m)) := by
 refine aM hG0 Tryz.func28 rfl (by kernel_rfl) (by simp [Tryz.ntmps28]) (by simp [inL, inR, eZ]) (by simp [inR]) ?_
 simp only [Tryz.ntmps28, aF, Nat.reduceAdd, cD]
 repeat' (first | with_reducible (first | refine u'1 fun _ _ => ?_ | refine u'W ?_ | (first | refine u'R ?_ | refine u'5 fun _ _ _ _ => ?_ | refine u'6 (fun hg => ?_) (fun hg => ?_) <;> try simp only [hg]) <;> simp only [wS, simprocAttr]))
 ·simp at hg
  refine aE rfl ?_
  simp only [amS, if_true, if_false]
  rw [atS, if_neg (by omega)]
 ·simp at hg
  refine ⟨fun h => ?_, fun h => ?_⟩
  ·simp at h
   repeat' (first | with_reducible (first | refine u'1 fun _ _ => ?_ | refine u'W ?_ | (first | refine u'R ?_ | refine u'5 fun _ _ _ _ => ?_ | refine u'6 (fun hg => ?_) (fun hg => ?_) <;> try simp only [hg]) <;> simp only [wS, simprocAttr]))
   refine aE rfl ?_
   simp only [amS, if_true, if_false]
   rw [atS, if_pos hg, List.getElem?_eq_none (by omega)]
  ·simp at h
   obtain ⟨k, rfl⟩ : ∃ k : Nat, i = k := ⟨i.toNat, (Int.toNat_of_nonneg hg).symm⟩
   have hlt : k < l.length := by omega
   obtain ⟨x, hx⟩ : ∃ v, l[k]? = some v := ⟨_, List.getElem?_eq_getElem hlt⟩
   repeat' (first | with_reducible (first | refine u'1 fun _ _ => ?_ | refine u'W ?_ | (first | refine u'R ?_ | refine u'5 fun _ _ _ _ => ?_ | refine u'6 (fun hg => ?_) (fun hg => ?_) <;> try simp only [hg]) <;> simp only [wS, simprocAttr, hx]))
   refine aA hG0 (yJ x m (hl x (List.mem_of_getElem? hx)) hm) ?_
   simp only [wS, simprocAttr]
   repeat' (first | with_reducible (first | refine u'1 fun _ _ => ?_ | refine u'W ?_ | (first | refine u'R ?_ | refine u'5 fun _ _ _ _ => ?_ | refine u'6 (fun hg => ?_) (fun hg => ?_) <;> try simp only [hg]) <;> simp only [wS, simprocAttr]))
   refine aE rfl ?_
   simp only [amS, if_true, if_false]
   rw [atS, if_pos hg, Int.toNat_natCast, hx]
end Go.Proofs.YtblfpppnkdokdaaGreatDoor
