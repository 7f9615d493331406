import Derived.Test.YtgenkkejlggmnaaB13
set_option linter.unusedVariables false
set_option linter.unusedSimpArgs false
namespace Go.Proofs.Ytgenkkejlggmnaa
open Go.AM

def cF (f : Nat → Bool) : List AV := (List.range 32).map fun i => AV.bool (f i)
def fB (f : Nat → Bool) : List Bool := (List.range 32).map f
theorem cF_cB (f : Nat → Bool) : cB (fB f) = cF f := by simp only [cB, fB, cF, List.map_map]; rfl
theorem cF_len (f : Nat → Bool) : (cF f).length = 32 := by simp [cF]
theorem cF_get (f : Nat → Bool) {i : Nat} (h : i < 32) : (cF f)[i]? = some (.bool (f i)) := by
  simp only [cF, List.getElem?_map, List.getElem?_range h, Option.map_some]
theorem cF_congr {f g : Nat → Bool} (h : ∀ i, i < 32 → f i = g i) : cF f = cF g := by
  unfold cF
  exact List.map_congr_left fun i hi => by rw [h i (List.mem_range.1 hi)]
theorem cF_set (f : Nat → Bool) {i : Nat} (h : i < 32) (b : Bool) : splice (cF f) i [.bool b] = cF (fun j => if j = i then b else f j) := by
  unfold splice
  apply List.ext_getElem?
  intro j
  by_cases hj : j < 32
  · rw [cF_get _ hj]
    rcases Nat.lt_trichotomy j i with h1 | h1 | h1
    · rw [List.append_assoc, List.getElem?_append_left (by simp [cF_len]; omega), List.getElem?_take, if_pos h1, cF_get _ hj, if_neg (by omega)]
    · subst h1
      rw [List.append_assoc, List.getElem?_append_right (by simp [cF_len]; omega)]
      have : j - (List.take j (cF f)).length = 0 := by simp [cF_len]; omega
      rw [this]
      simp
    · rw [List.getElem?_append_right (by simp [cF_len]; omega), List.getElem?_drop, if_neg (by omega)]
      have : i + [AV.bool b].length + (j - (List.take i (cF f) ++ [AV.bool b]).length) = j := by simp [cF_len]; omega
      rw [this, cF_get _ hj]
  · rw [List.getElem?_eq_none (by simp [cF_len]; omega), List.getElem?_eq_none (by simp [cF_len]; omega)]
theorem tree_cF (f : Nat → Bool) : inL noRef (cF f) = true := by rw [← cF_cB]; exact tree_cB _
def noF : Nat → Bool := fun _ => false
def orF (f g : Nat → Bool) : Nat → Bool := fun i => f i || g i
def mixF (f g : Nat → Bool) (k : Nat) : Nat → Bool := fun i => if i < k then f i || g i else f i

def cK (ks : List Int) : List AV := ks.map (AV.int .i64)
def cP (vs : List (Nat → Bool)) : List AV := vs.map fun f => AV.agg (cF f)
theorem tree_cK : ∀ (ks : List Int), inL noRef (cK ks) = true
  | [] => rfl
  | k :: ks => by simp only [cK, List.map_cons, inL, inR, Bool.true_and]; exact tree_cK ks
theorem tree_cP : ∀ (vs : List (Nat → Bool)), inL noRef (cP vs) = true
  | [] => rfl
  | f :: vs => by simp only [cP, List.map_cons, inL, inR, tree_cF, Bool.true_and]; exact tree_cP vs
def afindI : List Int → Int → Nat → Option Nat
  | [], _, _ => none
  | x :: xs, k, i => if k = x then some i else afindI xs k (i + 1)
theorem afind_int : ∀ (ks : List Int) (k : Int) (i : Nat), afind (.int .i64) (.int .i64 k) (cK ks) i = some (afindI ks k i)
  | [], k, i => rfl
  | x :: xs, k, i => by
    have e : cK (x :: xs) = .int .i64 x :: cK xs := rfl
    have ih := afind_int xs k (i + 1)
    rw [e, afind]
    by_cases h : k = x
    · have : asame (.int .i64) (.int .i64 k) (.int .i64 x) = some true := by simp [asame, h]
      simp only [this, afindI, if_pos h]
    · have : asame (.int .i64) (.int .i64 k) (.int .i64 x) = some false := by simp [asame, h]
      simp only [this, afindI, if_neg h, ih]
/-- What a map of sets gives. -/
def lookF (ks : List Int) (vs : List (Nat → Bool)) (b : Int) : Nat → Bool := match afindI ks b 0 with | some j => vs.getD j noF | none => noF
def goF (ks : List Int) (vs : List (Nat → Bool)) : List Int → (Nat → Bool) → (Nat → Bool)
  | [], f => f
  | b :: bs, f => goF ks vs bs (orF f (lookF ks vs b))
def oneF (ks : List Int) (vs : List (Nat → Bool)) (v : V) : Nat → Bool := goF ks vs v.before (fun j => if j = v.id.toNat then true else noF j)
/-- The pasts, version by version; IDs are new. -/
def pastsGo : List V → List Int → List (Nat → Bool) → List (Nat → Bool)
  | [], _, vs => vs
  | v :: l, ks, vs => pastsGo l (ks ++ [v.id]) (vs ++ [oneF ks vs v])
theorem aload (v : V) : (encV v).length = 6 := by simp [encV]

end Go.Proofs.Ytgenkkejlggmnaa
