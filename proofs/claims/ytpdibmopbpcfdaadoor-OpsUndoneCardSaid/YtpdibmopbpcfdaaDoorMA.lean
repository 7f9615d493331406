import Derived.Test.YtpdibmopbpcfdaaDoorAE
import Derived.Test.YtpdibmopbpcfdaaDoorM9
set_option linter.unusedVariables false
set_option linter.unusedSimpArgs false
namespace Go.Proofs.YtpdibmopbpcfdaaDoor
open Go.AM
theorem ones {d : Nat} {c : List AV} (h : NodeV d c) : ∀ e ∈ [c], NodeV d e := fun e he => by rw [List.mem_singleton.1 he]; exact h
theorem twos {i j : Nat} {c d : List AV} (h : NodeV i c) (g : NodeV j d) : ∀ e ∈ [c, d], NodeV (max i j) e := fun e he => by
  rcases List.mem_cons.1 he with rfl | he
  · exact h.up (Nat.le_max_left _ _)
  · rw [List.mem_singleton.1 he]; exact g.up (Nat.le_max_right _ _)
theorem threes {i j l : Nat} {c d e : List AV} (h : NodeV i c) (g : NodeV j d) (k : NodeV l e) : ∀ y ∈ [c, d, e], NodeV (max i (max j l)) y := fun y hy => by
  rcases List.mem_cons.1 hy with rfl | hy
  · exact h.up (Nat.le_max_left _ _)
  · exact (twos g k y hy).up (Nat.le_max_right _ _)
theorem eg_mc_give {n : Nat} {d : Option Tmp} {rest : List POp} {m : Option Acc} {s : AS} {ι : Type} {R : ι → Prop} {K : ι → Option Acc → AS → Prop} {x : MX} {f : FuncId} {more more' : List AV} {V : AV → Prop} (lfp : List Nat) (h : MC x f more' V) (at0 left : Int) (hr : MR x s.row at0 left) (hl : FrzL s.row lfp more more') (hd : ∀ r ∈ [1, 2, 3, 4, 5], r ∉ lfp)
    (hk : ∀ v at1 left1, V v → inR noRef v = true → EG R (fun i => rgnS Tryd.prog G0 n (K i) rest (adv m ([1, 2, 3, 4, 5] ++ lfp) (1 :: lfp)) ((s.wr ((1, x.row at1 left1) :: lfp.map fun r => (r, .dead))).put d v))) : EG R (fun i => callR Tryd.prog G0 n (K i) d rest m s f (.ptr 1 0 0 :: more)) := by
  refine eg_call (ec_give lfp (h s.row at0 left hr) ⟨.inl rfl, hl⟩ hd) ?_
  rintro eff ⟨e0, ⟨v, a1, l1, rfl, h1, h2⟩, rfl⟩
  have := hk v a1 l1 h1 h2
  simpa only [List.map_cons, List.map_append, List.map_map, List.map_id', Function.comp_def, List.cons_append, List.nil_append, List.map_nil] using this
end Go.Proofs.YtpdibmopbpcfdaaDoor
