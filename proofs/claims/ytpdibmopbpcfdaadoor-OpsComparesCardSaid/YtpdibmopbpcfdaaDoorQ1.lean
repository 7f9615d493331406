import Derived.Test.YtpdibmopbpcfdaaDoorP7
set_option linter.unusedVariables false
set_option linter.unusedSimpArgs false
namespace Go.Proofs.YtpdibmopbpcfdaaDoor
open Go.AM

theorem cmpI_lt {x y : Int} (h : x < y) : cmpI x y = -1 := by rw [cmpI, if_pos h]
theorem cmpI_gt {x y : Int} (h : y < x) : cmpI x y = 1 := by rw [cmpI, if_neg (by omega), if_pos h]
theorem cmpI_eq (x : Int) : cmpI x x = 0 := by rw [cmpI, if_neg (by omega), if_neg (by omega)]
theorem cmpI_anti (x y : Int) : cmpI y x = -cmpI x y := by
  rcases Int.lt_trichotomy x y with h | rfl | h
  · rw [cmpI_lt h, cmpI_gt h]; rfl
  · rw [cmpI_eq]; rfl
  · rw [cmpI_lt h, cmpI_gt h]
theorem lexC_anti : ∀ a b : List Int, lexC b a = -lexC a b
  | [], [] => rfl
  | [], _ :: _ => rfl
  | _ :: _, [] => rfl
  | x :: a, y :: b => by
    simp only [lexC]
    rw [cmpI_anti x y]
    by_cases h : cmpI x y = 0
    · rw [if_neg (by simp [h]), if_neg (by simp [h])]; exact lexC_anti a b
    · rw [if_pos (by omega), if_pos h]
theorem lexC_eq : ∀ {a b : List Int}, lexC a b = 0 → a = b
  | [], [], _ => rfl
  | [], _ :: _, h => by simp [lexC] at h
  | _ :: _, [], h => by simp [lexC] at h
  | x :: a, y :: b, h => by
    simp only [lexC] at h
    by_cases hc : cmpI x y = 0
    · rw [if_neg (by simp [hc])] at h
      rcases Int.lt_trichotomy x y with g | rfl | g
      · rw [cmpI_lt g] at hc; cases hc
      · rw [lexC_eq h]
      · rw [cmpI_gt g] at hc; cases hc
    · rw [if_pos hc] at h; exact absurd h hc
theorem lexC_self (a : List Int) : lexC a a = 0 := by
  have := lexC_anti a a
  omega
theorem lexC_cons (x : Int) (a b : List Int) : lexC (x :: a) (x :: b) = lexC a b := by simp only [lexC, cmpI_eq]; simp
theorem lexC_lt {x y : Int} (a b : List Int) (h : x < y) : lexC (x :: a) (y :: b) = -1 := by simp only [lexC, cmpI_lt h]; simp
theorem lexC_gt {x y : Int} (a b : List Int) (h : y < x) : lexC (x :: a) (y :: b) = 1 := by simp only [lexC, cmpI_gt h]; simp
theorem lexC_trans : ∀ {a b c : List Int}, lexC a b < 0 → lexC b c < 0 → lexC a c < 0
  | [], [], _, h, _ => by simp [lexC] at h
  | [], _ :: _, [], _, h => by simp [lexC] at h
  | [], _ :: _, _ :: _, _, _ => by simp [lexC]
  | _ :: _, [], _, h, _ => by simp [lexC] at h
  | _ :: _, _ :: _, [], _, h => by simp [lexC] at h
  | x :: a, y :: b, z :: c, h1, h2 => by
    rcases Int.lt_trichotomy x y with g | rfl | g
    · rcases Int.lt_trichotomy y z with g' | rfl | g'
      · rw [lexC_lt _ _ (Int.lt_trans g g')]; decide
      · rw [lexC_lt _ _ g]; decide
      · rw [lexC_gt _ _ g'] at h2; exact absurd h2 (by decide)
    · rcases Int.lt_trichotomy x z with g' | rfl | g'
      · rw [lexC_lt _ _ g']; decide
      · rw [lexC_cons] at h1 h2 ⊢
        exact lexC_trans h1 h2
      · rw [lexC_gt _ _ g'] at h2; exact absurd h2 (by decide)
    · rw [lexC_gt _ _ g] at h1; exact absurd h1 (by decide)
theorem siteC_anti (a b : List Int) (x y : Int) : siteC b a y x = -siteC a b x y := by
  unfold siteC
  rw [lexC_anti a b]
  by_cases h : lexC a b = 0
  · rw [if_neg (by simp [h]), if_neg (by simp [h])]; exact cmpI_anti x y
  · rw [if_pos (by omega), if_pos h]
theorem siteC_trans {a b c : List Int} {x y z : Int} (h1 : siteC a b x y < 0) (h2 : siteC b c y z < 0) : siteC a c x z < 0 := by
  by_cases hab : lexC a b = 0
  · have := lexC_eq hab
    subst this
    by_cases hbc : lexC a c = 0
    · have := lexC_eq hbc
      subst this
      unfold siteC at h1 h2 ⊢
      rw [if_neg (by simp [hab])] at h1 h2 ⊢
      rcases Int.lt_trichotomy x y with g | rfl | g
      · rcases Int.lt_trichotomy y z with g' | rfl | g'
        · rw [cmpI_lt (Int.lt_trans g g')]; decide
        · rw [cmpI_lt g]; decide
        · rw [cmpI_gt g'] at h2; exact absurd h2 (by decide)
      · exact h2
      · rw [cmpI_gt g] at h1; exact absurd h1 (by decide)
    · unfold siteC at h2 ⊢
      rw [if_pos hbc] at h2 ⊢
      exact h2
  · have h1' : lexC a b < 0 := by unfold siteC at h1; rw [if_pos hab] at h1; exact h1
    by_cases hbc : lexC b c = 0
    · have := lexC_eq hbc
      subst this
      unfold siteC
      rw [if_pos hab]; exact h1'
    · have h2' : lexC b c < 0 := by unfold siteC at h2; rw [if_pos hbc] at h2; exact h2
      have := lexC_trans h1' h2'
      unfold siteC
      rw [if_pos (by omega)]; exact this
theorem siteC_b (a b : List Int) (x y : Int) : -1 ≤ siteC a b x y ∧ siteC a b x y ≤ 1 := by
  have hc : ∀ x y : Int, -1 ≤ cmpI x y ∧ cmpI x y ≤ 1 := fun x y => by
    unfold cmpI
    split
    · decide
    · split <;> decide
  have hl : ∀ a b : List Int, -1 ≤ lexC a b ∧ lexC a b ≤ 1 := by
    intro a
    induction a with
    | nil => intro b; cases b <;> simp [lexC]
    | cons x a ih =>
      intro b
      cases b with
      | nil => simp [lexC]
      | cons y b =>
        simp only [lexC]
        split
        · exact hc x y
        · exact ih b
  unfold siteC
  split
  · exact hl a b
  · exact hc x y
/-! ### the places are in order -/
theorem lexC_app : ∀ (p u v : List Int), lexC (p ++ u) (p ++ v) = lexC u v
  | [], _, _ => rfl
  | x :: p, u, v => by rw [List.cons_append, List.cons_append, lexC_cons, lexC_app p u v]
theorem visE_mem {f : List Int → List AV → List (List Int)} {p : List Int} (hf : ∀ q e, ∀ u ∈ f q e, ∃ t, u = q ++ t) : ∀ (es : List (List AV)) (i : Nat), ∀ u ∈ visE f p i es, ∃ (j : Nat) (t : List Int), i ≤ j ∧ u = p ++ (j : Int) :: t
  | [], _, _, hu => by cases hu
  | e :: es, i, u, hu => by
    rcases List.mem_append.1 hu with hu | hu
    · obtain ⟨t, rfl⟩ := hf _ _ u hu
      exact ⟨i, t, Nat.le_refl _, by simp⟩
    · obtain ⟨j, t, h1, h2⟩ := visE_mem hf es (i + 1) u hu
      exact ⟨j, t, by omega, h2⟩
theorem visE_sorted {f : List Int → List AV → List (List Int)} {p : List Int} (hf : ∀ q e, ∀ u ∈ f q e, ∃ t, u = q ++ t) (hs : ∀ q e, (f q e).Pairwise fun u v => lexC u v = -1) : ∀ (es : List (List AV)) (i : Nat), (visE f p i es).Pairwise fun u v => lexC u v = -1
  | [], _ => .nil
  | e :: es, i => by
    refine List.pairwise_append.2 ⟨hs _ _, visE_sorted hf hs es (i + 1), fun u hu v hv => ?_⟩
    obtain ⟨t, rfl⟩ := hf _ _ u hu
    obtain ⟨j, s, h1, rfl⟩ := visE_mem hf es (i + 1) v hv
    rw [List.append_assoc, lexC_app]
    exact lexC_lt _ _ (by omega)
theorem visL_succ (D : Nat) (p : List Int) (c : List AV) : visL (D + 1) p c = p :: visE (visL D) p 0 (kidsC c) := by
  rcases c with _ | ⟨a, _ | ⟨b, _ | ⟨d, _ | ⟨v, _ | ⟨w, t⟩⟩⟩⟩⟩ <;> first | rfl | (cases v <;> rfl)
theorem visL_ok : ∀ (D : Nat) (p : List Int) (c : List AV), (∀ u ∈ visL D p c, ∃ t, u = p ++ t) ∧ (visL D p c).Pairwise fun u v => lexC u v = -1 := by
  intro D
  induction D with
  | zero => intro p c; exact ⟨fun u hu => ⟨[], by simpa [visL] using hu⟩, by simp [visL]⟩
  | succ D ih =>
    intro p c
    have one : (∀ u ∈ [p], ∃ t, u = p ++ t) ∧ [p].Pairwise fun u v => lexC u v = -1 := ⟨fun u hu => ⟨[], by simpa using hu⟩, by simp⟩
    have kids : ∀ es : List (List AV), (∀ u ∈ p :: visE (visL D) p 0 es, ∃ t, u = p ++ t) ∧ (p :: visE (visL D) p 0 es).Pairwise fun u v => lexC u v = -1 := fun es => by
      have hm := visE_mem (p := p) (fun q e => (ih q e).1) es 0
      refine ⟨fun u hu => ?_, List.pairwise_cons.2 ⟨fun u hu => ?_, visE_sorted (fun q e => (ih q e).1) (fun q e => (ih q e).2) es 0⟩⟩
      · rcases List.mem_cons.1 hu with rfl | hu
        · exact ⟨[], by simp⟩
        · obtain ⟨j, t, _, h⟩ := hm u hu
          exact ⟨_, h⟩
      · obtain ⟨j, t, _, rfl⟩ := hm u hu
        have := lexC_app p [] ((j : Int) :: t)
        rw [List.append_nil] at this
        rw [this]; rfl
    rw [visL_succ]
    exact kids _
theorem visL_next (D : Nat) (c : List AV) {i : Nat} {u v : List Int} (hu : (visL D [] c)[i]? = some u) (hv : (visL D [] c)[i + 1]? = some v) (x y : Int) : siteC u v x y = -1 := by
  obtain ⟨h1, rfl⟩ := List.getElem?_eq_some_iff.1 hu
  obtain ⟨h2, rfl⟩ := List.getElem?_eq_some_iff.1 hv
  have := List.pairwise_iff_getElem.1 (visL_ok D [] c).2 i (i + 1) h1 h2 (by omega)
  rw [siteC, this]; rfl
def szD : Nat → Nat
  | 0 => 0
  | D + 1 => 1 + 8 * szD D
theorem visL_len : ∀ (D : Nat) (p : List Int) (c : List AV), NodeV D c → (visL D p c).length ≤ szD D := by
  intro D
  induction D with
  | zero =>
    intro p c h
    cases h with
    | @mk _ d hd => exact absurd hd (Nat.not_lt_zero _)
  | succ D ih =>
    intro p c h
    cases h with
    | @mk _ d hd k n m b es hl hh =>
    show (p :: visE (visL D) p 0 es).length ≤ _
    have key : ∀ (es : List (List AV)) (i : Nat), (∀ e ∈ es, NodeV D e) → (visE (visL D) p i es).length ≤ es.length * szD D := by
      intro es
      induction es with
      | nil => intro i _; simp [visE]
      | cons e es ie =>
        intro i hes
        have h1 := ih (p ++ [(i : Int)]) e (hes e (by simp))
        have h2 := ie (i + 1) fun e he => hes e (by simp [he])
        simp only [visE, List.length_append, List.length_cons, Nat.add_mul, Nat.one_mul]
        omega
    have h3 := key es 0 fun e he => (hh e he).up (Nat.le_of_lt_succ hd)
    have h4 : es.length * szD D ≤ 8 * szD D := Nat.mul_le_mul_right _ hl
    simp only [List.length_cons, szD]
    omega
theorem visL_plen : ∀ (D : Nat) (p : List Int) (c : List AV), ∀ u ∈ visL D p c, u.length ≤ p.length + D := by
  intro D
  induction D with
  | zero =>
    intro p c u hu
    have : u = p := by simpa [visL] using hu
    subst this; omega
  | succ D ih =>
    intro p c u hu
    rw [visL_succ] at hu
    have key : ∀ (es : List (List AV)) (i : Nat), ∀ u ∈ visE (visL D) p i es, u.length ≤ p.length + (D + 1) := by
      intro es
      induction es with
      | nil => intro i u hu; cases hu
      | cons e es ie =>
        intro i u hu
        rcases List.mem_append.1 hu with hu | hu
        · have := ih _ _ u hu
          simp only [List.length_append, List.length_singleton] at this
          omega
        · exact ie (i + 1) u hu
    rcases List.mem_cons.1 hu with rfl | hu
    · omega
    · exact key _ 0 u hu
theorem visL_14 {c : List AV} (h : NodeV 14 c) : (visL 14 [] c).length ≤ 4398046511104 := Nat.le_trans (visL_len 14 [] c h) (by decide)

end Go.Proofs.YtpdibmopbpcfdaaDoor
