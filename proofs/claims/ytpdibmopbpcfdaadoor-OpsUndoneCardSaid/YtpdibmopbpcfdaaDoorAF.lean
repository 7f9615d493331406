import Derived.Test.YtpdibmopbpcfdaaDoorAE
set_option linter.unusedVariables false
set_option linter.unusedSimpArgs false
namespace Go.AM
theorem yldC_give {P : Program} {G : Nat → Option (List AV)} {r : Nat} {args targs : List AV} {rows : Nat → ARow} {fp : List Nat} {eff : Eff} (lfp : List Nat) (h : YldC P G r targs rows fp eff) (hl : FrzL rows lfp args targs) (hd : ∀ q ∈ fp, q ∉ lfp) :
    YldC P G r args rows (fp ++ lfp) ⟨eff.val, eff.wr ++ lfp.map fun q => (q, .dead)⟩ := by
  obtain ⟨hrf, hob, hwr, hc⟩ := h
  refine ⟨List.mem_append_left _ hrf, hob, fun p hp => ?_, fun E us i hE hus => ?_⟩
  · rcases List.mem_append.1 hp with hp | hp
    · exact List.mem_append_left _ (hwr p hp)
    · obtain ⟨q, hq, rfl⟩ := List.mem_map.1 hp
      exact List.mem_append_right _ hq
  · have hEl : ∀ q ∈ lfp, E.rows q = rows q := fun q hq => hE q (List.mem_append_right _ hq)
    obtain ⟨fn, tmps, asg, body, a, b⟩ := hc (givenEn E lfp) us (given_inv i) (fun q hq => by
      simp only [givenEn, if_neg (hd q hq)]
      exact hE q (List.mem_append_left _ hq)) (given_rel i hEl hl hus)
    refine ⟨fn, tmps, asg, body, a, b.mono fun e w' hr => ?_⟩
    obtain ⟨v, E1, rfl, rfl, h3, h4, h5, h6⟩ := hr
    refine ⟨v, E1, rfl, rfl, h3, given_ext.trans h4, h5, ?_⟩
    rw [h6, upd_app]
    funext q
    rw [upd_map (fun _ => .dead)]
    by_cases hm : q ∈ lfp
    · rw [if_pos hm, upd_notin _ _ _ fun p hp e => hd p.1 (hwr p hp) (e ▸ hm)]
      simp [givenEn, hm]
    · rw [if_neg hm]
      exact upd_local _ _ _ _ (by simp [givenEn, hm])
theorem callV_yld {P : Program} {G : Nat → Option (List AV)} {n : Nat} {K : Option Acc → AS → Prop} {d : Option Tmp} {rest : List POp} {m : Option Acc} {s : AS} {args : List AV} {r : Nat} : callV P G n K d rest m s args (.yld r) = yldR P G n K d rest m s r args := rfl
theorem upd_three {rows : Nat → ARow} {r r' r'' i : Nat} {x y z : ARow} : upd rows [(r, x), (r', y), (r'', z)] i = if i = r'' then z else if i = r' then y else if i = r then x else rows i := rfl
theorem h_wr3 {s : AS} {r r' r'' : Nat} {x y z : ARow} : (s.wr [(r, x), (r', y), (r'', z)]).h = hset (hset (hset s.h r x) r' y) r'' z := rfl
theorem eff_room {P : Program} {G : Nat → Option (List AV)} {n : Nat} {K : Option Acc → AS → Prop} {d : Option Tmp} {rest : List POp} {m : Option Acc} {fp : List Nat} {s : AS} {t u : TypeId} {sz by' : Nat} {x : AV} {rows : Nat → ARow} {nb r ver len : Nat} {new cs : List AV} (ht : appT P t u = some (sz, by')) (hr : rowCells rows r ver = some cs) (hn : len * sz ≤ cs.length) (hs : srcA sz x rows = some (1, new))
    (hk : rgnS P G n K rest (adv m fp [r]) ((s.wr [(r, .cells ver (cs.take (len * sz) ++ new ++ cs.drop ((len + 1) * sz)))]).put d (.osl r ver 0 (len + 1) sz false))) : effR P G n K d rest m fp s (aAppend P t u (.rsl r ver 0 len sz) x rows nb) := by
  rw [appT_use ht _ hs]
  simp only [hr]
  rw [if_pos ⟨trivial, trivial, trivial, hn⟩]
  exact hk
end Go.AM
