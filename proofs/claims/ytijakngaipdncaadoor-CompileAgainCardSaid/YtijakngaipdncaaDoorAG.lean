import Derived.Test.YtijakngaipdncaaDoorAF
set_option linter.unusedVariables false
set_option linter.unusedSimpArgs false
namespace Go.AM
theorem hset_id : ∀ {H : List ARow} {r : Nat} {x : ARow}, r < H.length → H.getD r .none = x → hset H r x = H
  | [], _, _, h, _ => by cases h
  | a :: H, 0, x, _, h => by simp only [List.getD_cons_zero] at h; subst h; rfl
  | a :: H, r + 1, x, h, g => by
    simp only [hset]
    rw [hset_id (by simpa using h) (by simpa using g)]
section
variable {P : Program} {G : Nat → Option (List AV)} {n : Nat} {K : Option Acc → AS → Prop} {d : Option Tmp} {rest : List POp} {fp : List Nat} {s : AS} {t u : TypeId} {sz by' nb : Nat} {x : AV} {rows : Nat → ARow}
def rvN (v : Nat) (app : List (List AV)) : Nat := if app = [] then 0 else v + 1
theorem eff_rvN {r v : Nat} {app es : List (List AV)} (ht : appT P t u = some (sz, by')) (hr : rows r = rvR v app) (hr0 : s.row r = rvR v app) (hlt : r < s.h.length) (hsz : ∀ e ∈ app, e.length = sz) (hs : srcA sz x rows = some (es.length, es.flatten)) (hb : (app.length + es.length) * (by' + 1) ≤ 140737488355328)
    (hk : rgnS P G n K rest none ((s.wr [(r, rvR (rvN v app) (app ++ es))]).put d (rv r (rvN v app) sz (app ++ es)))) : effR P G n K d rest none fp s (aAppend P t u (rv r v sz app) x rows nb) := by
  by_cases he : es = []
  · subst he
    by_cases ha : app = []
    · subst ha
      refine eff_rv0 rfl ht hs ?_
      have : s.wr [(r, rvR (rvN v []) ([] ++ []))] = s := by
        show AS.mk s.fr (hset s.h r .none) = s
        rw [hset_id hlt (show s.h.getD r .none = .none from hr0)]
      rw [this] at hk
      exact hk
    · have hrv : rv r v sz app = .osl r v 0 app.length sz false := if_neg ha
      have hr' : rows r = .cells v app.flatten := by rw [hr]; exact if_neg ha
      rw [hrv]
      refine eff_own (mm := 0) (new := []) (cs := app.flatten) ht hr' (flat_sz hsz) hs hb ?_
      simp only [rv, rvR, rvN, List.append_nil, if_neg ha] at hk ⊢
      exact hk
  · refine eff_rvs (m := none) ht hr rfl hsz hs he hb ?_
    exact hk
end
end Go.AM
