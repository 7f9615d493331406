import Derived.Test.YtpdibmopbpcfdaaDoorP7
set_option linter.unusedVariables false
set_option linter.unusedSimpArgs false
namespace Go.Proofs.YtpdibmopbpcfdaaDoor
open Go.AM
theorem visL_succ (D : Nat) (p : List Int) (c : List AV) : visL (D + 1) p c = p :: visE (visL D) p 0 (kidsC c) := by
  rcases c with _ | ⟨a, _ | ⟨b, _ | ⟨d, _ | ⟨v, _ | ⟨w, t⟩⟩⟩⟩⟩ <;> first | rfl | (cases v <;> rfl)
def szD : Nat → Nat
  | 0 => 0
  | D + 1 => 1 + 6 * szD D
theorem visL_len : ∀ (D : Nat) (p : List Int) (c : List AV), NodeV D c → (visL D p c).length ≤ szD D := by
  intro D
  induction D with
  | zero =>
    intro p c h
    cases h with
    | @mk _ d hd => exact absurd hd (Nat.not_lt_zero _)
  | succ D ih =>
    intro p c h
    cases h with
    | @mk _ d hd k n m b es hl hh =>
    show (p :: visE (visL D) p 0 es).length ≤ _
    have key : ∀ (es : List (List AV)) (i : Nat), (∀ e ∈ es, NodeV D e) → (visE (visL D) p i es).length ≤ es.length * szD D := by
      intro es
      induction es with
      | nil => intro i _; simp [visE]
      | cons e es ie =>
        intro i hes
        have h1 := ih (p ++ [(i : Int)]) e (hes e (by simp))
        have h2 := ie (i + 1) fun e he => hes e (by simp [he])
        simp only [visE, List.length_append, List.length_cons, Nat.add_mul, Nat.one_mul]
        omega
    have h3 := key es 0 fun e he => (hh e he).up (Nat.le_of_lt_succ hd)
    have h4 : es.length * szD D ≤ 6 * szD D := Nat.mul_le_mul_right _ hl
    simp only [List.length_cons, szD]
    omega
theorem visL_plen : ∀ (D : Nat) (p : List Int) (c : List AV), ∀ u ∈ visL D p c, u.length ≤ p.length + D := by
  intro D
  induction D with
  | zero =>
    intro p c u hu
    have : u = p := by simpa [visL] using hu
    subst this; omega
  | succ D ih =>
    intro p c u hu
    rw [visL_succ] at hu
    have key : ∀ (es : List (List AV)) (i : Nat), ∀ u ∈ visE (visL D) p i es, u.length ≤ p.length + (D + 1) := by
      intro es
      induction es with
      | nil => intro i u hu; cases hu
      | cons e es ie =>
        intro i u hu
        rcases List.mem_append.1 hu with hu | hu
        · have := ih _ _ u hu
          simp only [List.length_append, List.length_singleton] at this
          omega
        · exact ie (i + 1) u hu
    rcases List.mem_cons.1 hu with rfl | hu
    · omega
    · exact key _ 0 u hu
theorem visL_14 {c : List AV} (h : NodeV 14 c) : (visL 14 [] c).length ≤ 4398046511104 := Nat.le_trans (visL_len 14 [] c h) (by decide)
end Go.Proofs.YtpdibmopbpcfdaaDoor
