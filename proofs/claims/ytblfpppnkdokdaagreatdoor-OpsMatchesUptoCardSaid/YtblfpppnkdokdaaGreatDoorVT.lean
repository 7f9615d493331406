import Derived.Test.YtblfpppnkdokdaaGreatDoorT0
import Derived.Test.YtblfpppnkdokdaaGreatDoorVA
set_option linter.unusedVariables false
set_option linter.unusedSimpArgs false
namespace Go.Proofs.YtblfpppnkdokdaaGreatDoor
open Go.AM
attribute [local irreducible] AWp aP aT bC bH bN aI aL bG
set_option maxRecDepth 100000
def asC : List AV := (List.range 256).map fun (i : Nat) => AV.bool (lcI (i : Int))
def azS : ByteArray := ⟨#[97, 98, 99, 100, 101, 102, 103, 104, 105, 106, 107, 108, 109, 110, 111, 112, 113, 114, 115, 116, 117, 118, 119, 120, 121, 122]⟩
theorem AP : asC.length = 256 := by simp [asC]
theorem pN : inL aB asC = true := by kernel_rfl
theorem PT {c : Nat} (h : c < 256) : asC.drop c = .bool (lcI c) :: asC.drop (c + 1) := by
 rw [List.drop_eq_getElem_cons (by rw [AP]; exact h)]
 simp [asC]
theorem nO {rows : Nat → ARow} {fp : List Nat} : ∀ {l : List AV}, inL aB l = true → LendL rows fp l l
 | [], _ => .nil
 | a :: l, h => by
  simp only [inL, Bool.and_eq_true] at h
  exact .cons (.same h.1) (nO h.2)
theorem Q9 : Pure Tryz.prog G0 74 [.str azS] (.tup [.agg asC, .bool true]) := fS 200 60 _ [] cQ hG0 (by kernel_rfl) (by kernel_rfl) (by kernel_rfl)
theorem uL (c : Nat) (h : c < 256) : Pure Tryz.prog G0 101 [.imm asC, .int .u8 c] (.bool (lcI c)) := by
 have hat := PT h
 have hl := AP
 have ht := pN
 generalize asC = A at hat hl ht
 have h1 : c + 1 ≤ 256 := h
 have hm : c * 1 = c := Nat.mul_one c
 refine aM hG0 Tryz.func101 rfl (by kernel_rfl) (by simp [Tryz.ntmps101]) (by simp only [inL, inR, ht, Bool.and_self]) rfl ?_
 simp only [Tryz.ntmps101, aF, Nat.reduceAdd]
 repeat' (first | with_reducible (first | refine u'1 fun _ _ => ?_ | refine u'W ?_ | (first | refine u'R ?_ | refine u'5 fun _ _ _ _ => ?_ | refine u'6 (fun hg => ?_) (fun hg => ?_) <;> try simp only [hg]) <;> simp only [wS, simprocAttr, hat, hl, h, h1, hm]))
 refine aE rfl ?_
 simp only [wS, simprocAttr]
set_option maxHeartbeats 4000000 in
theorem LO (s : ByteArray) (hs : s.size ≤ 1000000) : Pure Tryz.prog G0 76 [.str s, .imm asC] (.str (s.extract 0 (trj s s.size))) := by
 have hcc := uL
 have ht := pN
 generalize asC = A at hcc ht
 refine aM hG0 Tryz.func76 rfl (by kernel_rfl) (by simp [Tryz.ntmps76]) (by simp only [inL, inR, ht, Bool.and_self]) rfl ?_
 simp only [Tryz.ntmps76, aF, Nat.reduceAdd]
 repeat' (first | with_reducible (first | refine u'1 fun _ _ => ?_ | refine u'W ?_ | (first | refine u'R ?_ | refine u'5 fun _ _ _ _ => ?_ | refine u'6 (fun hg => ?_) (fun hg => ?_) <;> try simp only [hg]) <;> simp only [wS, simprocAttr]))
 refine aQ (α := {j : Nat // j ≤ s.size ∧ trj s j = trj s s.size}) (fun j => [(0, .str (s.extract 0 j.1)), (1, .imm A)]) (fun j => []) (fun j => j.1) ⟨s.size, Nat.le_refl _, rfl⟩ (Weak.ref ⟨?_, .inl ?_⟩) ?_
 ·simp only [wS, simprocAttr, ByteArray.extract_zero_size]; try exact rfl
 ·simp only [wS, simprocAttr]; try exact rfl
 ·rintro ⟨j, hj, hjt⟩ K1 hK1
  have hsz : (s.extract 0 j).size = j := by rw [ByteArray.size_extract]; omega
  cases j with
  | zero =>
   repeat' (first | with_reducible (first | refine u'1 fun _ _ => ?_ | refine u'W ?_ | (first | refine u'R ?_ | refine u'5 fun _ _ _ _ => ?_ | refine u'6 (fun hg => ?_) (fun hg => ?_) <;> try simp only [hg]) <;> simp only [wS, simprocAttr, hsz]))
   refine aE rfl ?_
   simp only [wS, simprocAttr]
   rw [← hjt]
   rfl
  | succ q =>
   have hpos : decide (((q + 1 : Nat) : Int) > 0) = true := by simp only [decide_eq_true_eq]; omega
   have e1 : IntKind.i64.wrap (((q + 1 : Nat) : Int) - 1) = (q : Nat) := by rw [cZ (by omega) (by omega)]; omega
   obtain ⟨b, hb, hlb⟩ := AH (s := s) (i := q) (by omega)
   have hx : (s.extract 0 (q + 1))[q]? = some b := by rw [nX hj (by omega), Nat.zero_add]; exact hb
   have hkc := hcc b.toNat b.toNat_lt
   have hex : (s.extract 0 (q + 1)).extract 0 q = s.extract 0 q := by
    rw [ByteArray.extract_extract]; congr 1 <;> omega
   have hq1 : (q ≤ q + 1) = True := eq_true (by omega)
   have hq0 : (0 : Int) ≤ (q : Nat) := by omega
   rw [trj] at hjt
   generalize hsq : s.extract 0 (q + 1) = sq at hsz hx hex
   cases hlc : lJ s q with
   | true =>
    rw [hlb] at hlc
    rw [hlb, hlc, if_pos rfl] at hjt
    rw [hlc] at hkc
    repeat' (first | with_reducible (first | refine u'1 fun _ _ => ?_ | refine u'W ?_ | (first | refine u'R ?_ | refine u'5 fun _ _ _ _ => ?_ | refine u'6 (fun hg => ?_) (fun hg => ?_) <;> try simp only [hg]) <;> simp only [wS, simprocAttr, hsz, hpos, e1, hx]))
    refine aA hG0 hkc ?_
    simp only [wS, simprocAttr, Bool.not_true]
    repeat' (first | with_reducible (first | refine u'1 fun _ _ => ?_ | refine u'W ?_ | (first | refine u'R ?_ | refine u'5 fun _ _ _ _ => ?_ | refine u'6 (fun hg => ?_) (fun hg => ?_) <;> try simp only [hg]) <;> simp only [wS, simprocAttr, hsz, e1, hex, hq1, Bool.not_true]))
    refine hK1.go ⟨q, by omega, hjt⟩ (Weak.ref ⟨?_, .inl ?_⟩) (by simp only; omega)
    ·simp only [wS, simprocAttr]; try exact rfl
    ·simp only [wS, simprocAttr]; try exact rfl
   | false =>
    rw [hlb] at hlc
    rw [hlb, hlc, if_neg (by decide)] at hjt
    rw [hlc] at hkc
    repeat' (first | with_reducible (first | refine u'1 fun _ _ => ?_ | refine u'W ?_ | (first | refine u'R ?_ | refine u'5 fun _ _ _ _ => ?_ | refine u'6 (fun hg => ?_) (fun hg => ?_) <;> try simp only [hg]) <;> simp only [wS, simprocAttr, hsz, hpos, e1, hx]))
    refine aA hG0 hkc ?_
    simp only [wS, simprocAttr, Bool.not_false]
    repeat' (first | with_reducible (first | refine u'1 fun _ _ => ?_ | refine u'W ?_ | (first | refine u'R ?_ | refine u'5 fun _ _ _ _ => ?_ | refine u'6 (fun hg => ?_) (fun hg => ?_) <;> try simp only [hg]) <;> simp only [wS, simprocAttr, Bool.not_false]))
    refine aE rfl ?_
    simp only [wS, simprocAttr]
    rw [← hjt, hsq]
set_option maxHeartbeats 4000000 in
theorem P8 (s : ByteArray) (hs : s.size ≤ 1000000) : Pure Tryz.prog G0 75 [.str s, .imm asC] (.str (s.extract (trl s s.size) s.size)) := by
 have hcc := uL
 have ht := pN
 generalize asC = A at hcc ht
 refine aM hG0 Tryz.func75 rfl (by kernel_rfl) (by simp [Tryz.ntmps75]) (by simp only [inL, inR, ht, Bool.and_self]) rfl ?_
 simp only [Tryz.ntmps75, aF, Nat.reduceAdd]
 repeat' (first | with_reducible (first | refine u'1 fun _ _ => ?_ | refine u'W ?_ | (first | refine u'R ?_ | refine u'5 fun _ _ _ _ => ?_ | refine u'6 (fun hg => ?_) (fun hg => ?_) <;> try simp only [hg]) <;> simp only [wS, simprocAttr]))
 refine aQ (α := {j : Nat // j ≤ s.size ∧ trl s j = trl s s.size}) (fun j => [(0, .str (s.extract (s.size - j.1) s.size)), (1, .imm A)]) (fun j => []) (fun j => j.1) ⟨s.size, Nat.le_refl _, rfl⟩ (Weak.ref ⟨?_, .inl ?_⟩) ?_
 ·simp only [wS, simprocAttr, Nat.sub_self, ByteArray.extract_zero_size]; try exact rfl
 ·simp only [wS, simprocAttr]; try exact rfl
 ·rintro ⟨j, hj, hjt⟩ K1 hK1
  have hsz : (s.extract (s.size - j) s.size).size = j := by rw [ByteArray.size_extract]; omega
  cases j with
  | zero =>
   rw [Nat.sub_zero] at hsz
   repeat' (first | with_reducible (first | refine u'1 fun _ _ => ?_ | refine u'W ?_ | (first | refine u'R ?_ | refine u'5 fun _ _ _ _ => ?_ | refine u'6 (fun hg => ?_) (fun hg => ?_) <;> try simp only [hg]) <;> simp only [wS, simprocAttr, hsz]))
   refine aE rfl ?_
   simp only [wS, simprocAttr]
   rw [← hjt]
   rfl
  | succ q =>
   have hpos : decide (((q + 1 : Nat) : Int) > 0) = true := by simp only [decide_eq_true_eq]; omega
   obtain ⟨b, hb, hlb⟩ := AH (s := s) (i := s.size - (q + 1)) (by omega)
   have hx : (s.extract (s.size - (q + 1)) s.size)[0]? = some b := by rw [nX (Nat.le_refl _) (by omega), Nat.add_zero]; exact hb
   have hkc := hcc b.toNat b.toNat_lt
   have hex : (s.extract (s.size - (q + 1)) s.size).extract 1 (q + 1) = s.extract (s.size - q) s.size := by
    rw [ByteArray.extract_extract]; congr 1 <;> omega
   have hq1 : (1 ≤ q + 1) = True := eq_true (by omega)
   rw [trl] at hjt
   generalize hsq : s.extract (s.size - (q + 1)) s.size = sq at hsz hx hex
   cases hlc : lJ s (s.size - (q + 1)) with
   | true =>
    rw [hlc, if_pos rfl] at hjt
    rw [hlb] at hlc
    rw [hlc] at hkc
    repeat' (first | with_reducible (first | refine u'1 fun _ _ => ?_ | refine u'W ?_ | (first | refine u'R ?_ | refine u'5 fun _ _ _ _ => ?_ | refine u'6 (fun hg => ?_) (fun hg => ?_) <;> try simp only [hg]) <;> simp only [wS, simprocAttr, hsz, hpos, hx]))
    refine aA hG0 hkc ?_
    simp only [wS, simprocAttr, Bool.not_true]
    repeat' (first | with_reducible (first | refine u'1 fun _ _ => ?_ | refine u'W ?_ | (first | refine u'R ?_ | refine u'5 fun _ _ _ _ => ?_ | refine u'6 (fun hg => ?_) (fun hg => ?_) <;> try simp only [hg]) <;> simp only [wS, simprocAttr, hsz, hex, hq1, Nat.le_refl, if_true, Bool.not_true]))
    refine hK1.go ⟨q, by omega, hjt⟩ (Weak.ref ⟨?_, .inl ?_⟩) (by simp only; omega)
    ·simp only [wS, simprocAttr]; try exact rfl
    ·simp only [wS, simprocAttr]; try exact rfl
   | false =>
    rw [hlc, if_neg (by decide)] at hjt
    rw [hlb] at hlc
    rw [hlc] at hkc
    repeat' (first | with_reducible (first | refine u'1 fun _ _ => ?_ | refine u'W ?_ | (first | refine u'R ?_ | refine u'5 fun _ _ _ _ => ?_ | refine u'6 (fun hg => ?_) (fun hg => ?_) <;> try simp only [hg]) <;> simp only [wS, simprocAttr, hsz, hpos, hx]))
    refine aA hG0 hkc ?_
    simp only [wS, simprocAttr, Bool.not_false]
    repeat' (first | with_reducible (first | refine u'1 fun _ _ => ?_ | refine u'W ?_ | (first | refine u'R ?_ | refine u'5 fun _ _ _ _ => ?_ | refine u'6 (fun hg => ?_) (fun hg => ?_) <;> try simp only [hg]) <;> simp only [wS, simprocAttr, Bool.not_false]))
    refine aE rfl ?_
    simp only [wS, simprocAttr]
    rw [← hjt, hsq]
theorem nT : (ByteArray.mk #[]).toList = [] := by kernel_rfl
theorem NJ (s : ByteArray) (hs : s.size ≤ 1000000) (h0 : s.size ≠ 0) : Pure Tryz.prog G0 39 [.str s, .str azS] (.str (sB s)) := by
 have hm := Q9
 have hr := LO s hs
 have hl := P8 (s.extract 0 (trj s s.size)) (by rw [ByteArray.size_extract]; omega)
 have hn : (s.toList == []) = false := by rw [sF]; simp [h0]
 have hz : (azS.toList == []) = false := by kernel_rfl
 have hz2 : azS.size = 26 := by kernel_rfl
 have hal := AP
 have hat := pN
 generalize asC = A at hm hr hl hal hat
 generalize azS = Z at hm hz hz2
 unfold sB
 generalize s.extract 0 (trj s s.size) = s1 at hr hl
 refine aM hG0 Tryz.func39 rfl (by kernel_rfl) (by simp [Tryz.ntmps39]) rfl rfl ?_
 simp only [Tryz.ntmps39, aF, Nat.reduceAdd]
 have hlen : A.length = 256 := hal
 repeat' (first | with_reducible (first | refine u'1 fun _ _ => ?_ | refine u'W ?_ | (first | refine u'R ?_ | refine u'5 fun _ _ _ _ => ?_ | refine u'6 (fun hg => ?_) (fun hg => ?_) <;> try simp only [hg]) <;> simp only [wS, simprocAttr, nT, hn, hz, hz2]))
 refine aA hG0 hm ?_
 simp only [wS, simprocAttr, hal]
 repeat' (first | with_reducible (first | refine u'1 fun _ _ => ?_ | refine u'W ?_ | (first | refine u'R ?_ | refine u'5 fun _ _ _ _ => ?_ | refine u'6 (fun hg => ?_) (fun hg => ?_) <;> try simp only [hg]) <;> simp only [wS, simprocAttr, hal]))
 refine uO (fp := [0]) hG0 hr (.cons (.same rfl) (.cons (.ptr (cs := A) (by simp) (by simp only [wS, simprocAttr]) (nO hat)) .nil)) (.inr rfl) ?_
 simp only [wS, simprocAttr]
 repeat' (first | with_reducible (first | refine u'1 fun _ _ => ?_ | refine u'W ?_ | (first | refine u'R ?_ | refine u'5 fun _ _ _ _ => ?_ | refine u'6 (fun hg => ?_) (fun hg => ?_) <;> try simp only [hg]) <;> simp only [wS, simprocAttr]))
 refine uO (fp := [0]) hG0 hl (.cons (.same rfl) (.cons (.ptr (cs := A) (by simp) (by simp only [wS, simprocAttr]) (nO hat)) .nil)) (.inr rfl) ?_
 simp only [wS, simprocAttr]
 repeat' (first | with_reducible (first | refine u'1 fun _ _ => ?_ | refine u'W ?_ | (first | refine u'R ?_ | refine u'5 fun _ _ _ _ => ?_ | refine u'6 (fun hg => ?_) (fun hg => ?_) <;> try simp only [hg]) <;> simp only [wS, simprocAttr]))
 exact aE rfl (by simp only [wS, simprocAttr])
end Go.Proofs.YtblfpppnkdokdaaGreatDoor
