import Derived.Test.YtbbgolecnmifpaaDoorAC
set_option linter.unusedVariables false
set_option linter.unusedSimpArgs false
namespace Go.Proofs.YtbbgolecnmifpaaDoor
open Go.AM

theorem rowOK_notlive {E : En} {q : Nat} (h : (E.rows q).live = false) : RowOK E q := by
  unfold RowOK
  cases hqq : E.rows q with
  | cells => rw [hqq] at h; cases h
  | map => rw [hqq] at h; cases h
  | iter => rw [hqq] at h; cases h
  | none => trivial
  | dead => trivial
/-- A call to which memory is given for good. -/
theorem callC_give {P : Program} {G : Nat → Option (List AV)} {f : FuncId} {args targs : List AV} {res : AV} {rows : Nat → ARow} {fp : List Nat} (hG : ∀ g cs, G g = some cs → inL noRef cs = true) (h : Pure P G f targs res) (hl : LendL rows fp args targs) :
    CallC P G f args rows fp ⟨res, fp.map fun r => (r, .dead)⟩ := by
  obtain ⟨hres, hc⟩ := h
  obtain ⟨hgo, _, hcall⟩ := hc fun _ => .none
  refine ⟨hgo, fun p hp => ?_, fun E us i hE hus => ?_⟩
  · obtain ⟨r, hr, rfl⟩ := List.mem_map.1 hp
    exact hr
  have hl' := hl.rel i hE hus
  have il : Inv G (lentEn E fp) := by
    refine ⟨fun r => (by simp [RowOK, lentEn]), fun r r' h => (by cases h), fun b hb => ?_, fun g cs hg => ?_⟩
    · rcases hb with hb | ⟨r, _, h1, rfl⟩
      · exact i.sb b hb
      · exact (i.live h1).1
    · obtain ⟨vs, a1, a2, a3⟩ := i.glob g cs hg
      exact ⟨vs, .inl a1, a2.agree (agree_lent E fp) (hG g cs hg), a3⟩
  refine (hcall (lentEn E fp) us il (by simp) hl').mono fun e w' hr => ?_
  obtain ⟨v, E1, rfl, rfl, h3, h4, h5, h6⟩ := hr
  have hblk : ∀ b, b < E.w.heap.size → E1.w.heap[b]? = E.w.heap[b]? ∧ (E1.S b → (lentEn E fp).S b) := fun b hb => h4.out b hb fun r hr => by cases hr
  have hu : ∀ r, upd E.rows (fp.map fun r => (r, ARow.dead)) r = if r ∈ fp then .dead else E.rows r := fun r => upd_map (fun _ => .dead) fp E.rows r
  have hlive : ∀ r, (upd E.rows (fp.map fun r => (r, ARow.dead)) r).live = true → r ∉ fp ∧ (E.rows r).live = true := fun r hr => by
    rw [hu] at hr
    by_cases hm : r ∈ fp
    · rw [if_pos hm] at hr; cases hr
    · rw [if_neg hm] at hr; exact ⟨hm, hr⟩
  have x : Ext E ⟨E1.w, E1.S, E.ρ, upd E.rows (fp.map fun r => (r, ARow.dead))⟩ := by
    refine ⟨h4.os, h4.tape, h4.output, h4.sz, fun b hb => h4.sub b (.inl hb), fun b hlt hl => ⟨(hblk b hlt).1, fun hs => ?_⟩, fun q hq => ?_, fun q ver cs hq => ?_, fun q hq => ?_, fun q hq => .inl ⟨(hlive q hq).2, rfl⟩⟩
    · rcases (hblk b hlt).2 hs with h | ⟨r, _, h2, rfl⟩
      · exact h
      · exact absurd rfl (hl r h2)
    · show upd E.rows _ q = _
      rw [hu]; split
      · rfl
      · exact hq
    · by_cases hm : q ∈ fp
      · exact .inl (by show upd E.rows _ q = _; rw [hu, if_pos hm])
      · refine .inr ⟨ver, cs, by show upd E.rows _ q = _; rw [hu, if_neg hm]; exact hq, Nat.le_refl _, fun _ => ⟨rfl, fun cur e fz hcur => ⟨cur, e, ?_, rfl⟩⟩⟩
        rw [(hblk _ (i.live (by rw [hq]; rfl)).1).1]
        exact hcur
    · by_cases hm : q ∈ fp
      · exact .inl (by show upd E.rows _ q = _; rw [hu, if_pos hm])
      · exact .inr ⟨by show (upd E.rows _ q).obj = true; rw [hu, if_neg hm]; exact hq, rfl⟩
  have agf : Agree noRef E1 ⟨E1.w, E1.S, E.ρ, upd E.rows (fp.map fun r => (r, ARow.dead))⟩ := ⟨rfl, fun _ h => h, fun r hr => (by cases hr), fun r hr => (by cases hr)⟩
  refine ⟨v, ⟨E1.w, E1.S, E.ρ, upd E.rows (fp.map fun r => (r, ARow.dead))⟩, rfl, rfl, h3.agree agf hres, x, ⟨fun q => ?_, fun q q' h h' hne => i.inj q q' (hlive q h).2 (hlive q' h').2 hne, h5.sb, fun g cs hg => ?_⟩, rfl⟩
  · by_cases hm : q ∈ fp
    · exact rowOK_notlive (by show (upd E.rows (fp.map fun r => (r, ARow.dead)) q).live = false; rw [hu, if_pos hm]; rfl)
    · cases hl : (E.rows q).live with
      | false => exact rowOK_notlive (by show (upd E.rows (fp.map fun r => (r, ARow.dead)) q).live = false; rw [hu, if_neg hm]; exact hl)
      | true =>
        have hlt := (i.live hl).1
        refine RowOK.ext i x rfl (by show upd E.rows _ q = _; rw [hu, if_neg hm]) (fun _ => (hblk _ hlt).1) (fun hs => ?_) (i.row q)
        rcases (hblk _ hlt).2 hs with h | ⟨r, hr, h2, he⟩
        · exact h
        · exact absurd he (i.inj q r hl h2 fun e => hm (e ▸ hr))
  · obtain ⟨vs, a1, a2, a3⟩ := h5.glob g cs hg
    exact ⟨vs, a1, a2.agree agf (hG g cs hg), a3⟩
section
variable {P : Program} {G : Nat → Option (List AV)} {n : Nat} {K : Option Acc → AS → Prop} {d : Option Tmp} {rest : List POp} {m : Option Acc} {s : AS}
theorem callR_give {f : FuncId} {args targs : List AV} {res : AV} (fp : List Nat) (hG : ∀ g cs, G g = some cs → inL noRef cs = true) (h : Pure P G f targs res) (hl : LendL s.row fp args targs)
    (hk : rgnS P G n K rest (adv m fp ((fp.map fun r => (r, ARow.dead)).map (·.1))) ((s.wr (fp.map fun r => (r, .dead))).put d res)) : callR P G n K d rest m s f args :=
  ⟨⟨res, fp.map fun r => (r, .dead)⟩, fp, callC_give hG h hl, hk⟩
end

end Go.Proofs.YtbbgolecnmifpaaDoor
