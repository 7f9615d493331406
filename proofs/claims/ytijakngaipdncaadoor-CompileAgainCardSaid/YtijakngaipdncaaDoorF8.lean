import Derived.Test.YtijakngaipdncaaDoorF7
import Derived.Test.YtijakngaipdncaaDoorN1
set_option linter.unusedVariables false
set_option linter.unusedSimpArgs false
namespace Go.Proofs.YtijakngaipdncaaDoor
open Go.AM
attribute [local irreducible] AWp rgnS callR callV effR valR guardR stepR nextR
def szN : Nat → Nat
  | 0 => 0
  | D + 1 => 1 + 6 * szN D
theorem szN_mono : ∀ {d D : Nat}, d ≤ D → szN d ≤ szN D
  | 0, _, _ => Nat.zero_le _
  | d + 1, 0, h => absurd h (by omega)
  | d + 1, D + 1, h => by
    have := szN_mono (d := d) (D := D) (by omega)
    simp only [szN]; omega
theorem T.of_node {D : Nat} {c : List AV} (h : NodeV D c) : ∃ t : T, wkL c = T.enc t ∧ T.size t ≤ szN D := by
  induction h with
  | @mk D d hd k n m b es hl hh ih =>
    have key : ∀ l : List (List AV), (∀ e ∈ l, ∃ t : T, wkL e = T.enc t ∧ T.size t ≤ szN d) → ∃ ts : List T, l.map wkL = T.encs ts ∧ T.sizes ts ≤ l.length * szN d := by
      intro l
      induction l with
      | nil => intro _; exact ⟨[], rfl, by simp [T.sizes]⟩
      | cons e l ie =>
        intro hx
        obtain ⟨t, h1, h2⟩ := hx e (by simp)
        obtain ⟨ts, h3, h4⟩ := ie fun x hx' => hx x (by simp [hx'])
        refine ⟨t :: ts, by rw [List.map_cons, h1, h3, T.encs], ?_⟩
        simp only [T.sizes, List.length_cons, Nat.add_mul, Nat.one_mul]; omega
    obtain ⟨ts, h1, h2⟩ := key es ih
    refine ⟨.mk k n m ts, ?_, ?_⟩
    · simp only [wkL, AM.wk, wkE_eq]
      rw [T.enc, ← h1]
    · have h3 : es.length * szN d ≤ 6 * szN d := Nat.mul_le_mul_right _ hl
      have h4 := szN_mono (d := d + 1) (D := D) hd
      simp only [T.size, szN] at h4 ⊢; omega
end Go.Proofs.YtijakngaipdncaaDoor
