import Derived.Test.YtgenkkejlggmnaaB24
import Derived.Test.YtgenkkejlggmnaaC2
set_option linter.unusedVariables false
set_option linter.unusedSimpArgs false
namespace Go.Proofs.Ytgenkkejlggmnaa
open Go.AM

theorem OKH_snoc {l : List V} {v : V} (h : OKH l) (hv : VOK l v) : OKH (l ++ [v]) := by
  intro i u hu
  rcases Nat.lt_or_ge i l.length with hi | hi
  · rw [List.getElem?_append_left hi] at hu
    rw [List.take_append_of_le_length (by omega)]
    exact h i u hu
  · have hi2 := (List.getElem?_eq_some_iff.1 hu).1
    have : i = l.length := by simp at hi2; omega
    subst this
    rw [List.getElem?_append_right (by omega)] at hu
    simp at hu
    subst hu
    simpa using hv
theorem hbef_pw (l : List Int) (acc : List V) (i k : Nat) (hk : k ≤ acc.length) (ho : acc.Pairwise fun u w => u.id < w.id) : (hbef l acc i k).Pairwise (· < ·) := by
  unfold hbef
  rw [List.pairwise_map]
  have h1 : (List.range k).Pairwise fun a b => a < b ∧ b < k := by
    rw [List.pairwise_iff_getElem]
    intro a b ha hb hab
    simp at ha hb ⊢
    omega
  refine (List.Pairwise.filter _ h1).imp fun {a b} hab => ?_
  have hb : b < acc.length := by omega
  have ha : a < acc.length := by omega
  have := List.pairwise_iff_getElem.1 ho a b ha hb hab.1
  simpa [List.getD_eq_getElem?_getD, List.getElem?_eq_getElem ha, List.getElem?_eq_getElem hb] using this
theorem hbef_in (l : List Int) (acc : List V) (i k : Nat) (hk : k ≤ acc.length) : ∀ b ∈ hbef l acc i k, b ∈ acc.map (·.id) := by
  intro b hb
  unfold hbef at hb
  obtain ⟨j, hj, rfl⟩ := List.mem_map.1 hb
  have hj := List.mem_range.1 (List.mem_filter.1 hj).1
  have hja : j < acc.length := by omega
  refine List.mem_map.2 ⟨acc[j], List.getElem_mem hja, ?_⟩
  simp [List.getD_eq_getElem?_getD, List.getElem?_eq_getElem hja]
theorem hist_inv (l : List Int) : ∀ n : Nat, n ≤ 14 → OKH (histN l n).1 ∧ (histN l n).1.Pairwise (fun u w => u.id < w.id) ∧ (∀ v ∈ (histN l n).1, v.id < (histN l n).2) ∧ (n : Int) ≤ (histN l n).2 ∧ (histN l n).2 ≤ 2 * (n : Int)
  | 0, _ => by simp [histN, OKH]
  | n + 1, hn => by
    obtain ⟨h1, h2, h3, h4, h5⟩ := hist_inv l n (by omega)
    have hlen := histN_len l n
    have hb := atL_bd l ((2 : Int) * n + 1) 16 (by omega)
    simp only [histN]
    generalize hacc : (histN l n).1 = acc at *
    generalize (histN l n).2 = id at *
    have hpw := hbef_pw l acc n n (by omega) h2
    have hin := hbef_in l acc n n (by omega)
    have hnx : id < hnext l n id ∧ hnext l n id ≤ id + 2 := by unfold hnext; split <;> omega
    refine ⟨OKH_snoc h1 ⟨by simp only; omega, by simp only; omega, fun u hu => h3 u (List.mem_of_getLast? hu), fun k b hb => ⟨hasL_iff.2 (hin b (List.mem_of_getElem? hb)), fun y h0 hy => ?_⟩⟩, ?_, ?_, by omega, by omega⟩
    · obtain ⟨hk, e1⟩ := List.getElem?_eq_some_iff.1 hb
      obtain ⟨hk2, e2⟩ := List.getElem?_eq_some_iff.1 hy
      have := List.pairwise_iff_getElem.1 hpw (k - 1) k hk2 hk (by omega)
      rw [← e1, ← e2]
      exact this
    · rw [List.pairwise_append]
      refine ⟨h2, by simp, fun u hu w hw => ?_⟩
      simp only [List.mem_singleton] at hw
      subst hw
      exact h3 u hu
    · intro v hv
      rcases List.mem_append.1 hv with hv | hv
      · have := h3 v hv; omega
      · simp only [List.mem_singleton] at hv; subst hv; exact hnx.1
theorem hist_valid (l : List Int) : valGo (histL l) [] (-1) = true :=
  (valGo_OKH _).2 (hist_inv l _ (Nat.min_le_left _ _)).1

end Go.Proofs.Ytgenkkejlggmnaa
