import Derived.Test.YtgenkkejlggmnaaB27
import Derived.Test.YtgenkkejlggmnaaC3
import Derived.ProofKit
import Derived.SizedLaws
set_option linter.unusedVariables false
set_option linter.unusedSimpArgs false
namespace Go.Proofs.Ytgenkkejlggmnaa
open Go.AM

open Go.ChangeShapes Go.WideShapes Go.ChangeAt Go.RowKit

theorem Try.own : ownKnob Try.prog.godebug = none := by kernel_rfl
theorem Try.laidOut : laidOutB Try.prog = true := by kernel_rfl
theorem Try.cells3 : Try.prog.cellsOf 3 = 1 := by kernel_rfl
theorem Try.bytes3 : Try.prog.bytesOf 3 = 8 := by kernel_rfl

theorem trodAll_nil_mk {H : Type} {enc : TypeId × Value → H} {P : Program} {w : World} {base : Nat} {spare : Nat → Bool} {held : Bool} : DataW.TrodAll enc P w base spare held [] [] [] [] := by simp [DataW.TrodAll]
/-- The memory at the call: nobody writes what is there. -/
def E0 (W : World) : En := ⟨W, fun b => b < W.heap.size, fun _ => 0, fun _ => .none⟩
theorem inv0 (W : World) : Inv G0 (E0 W) := by
  refine ⟨fun r => (by simp [RowOK, E0]), fun r r' h => (by cases h), fun b h => h, fun g cs h => by cases h⟩

theorem law_run {f : FuncId} {avs : List AV} {us : List Value} {W : World} (hp : AM.Pure Try.prog G0 f avs (.bool true)) (hr : RelL (E0 W) avs us) :
    Calls Try.prog f us.toArray W fun e W' => e = .returned (.bool true) ∧ Below W.heap.size W W' := by
  obtain ⟨_, hc⟩ := hp
  obtain ⟨_, _, h⟩ := hc fun _ => .none
  refine (h (E0 W) us (inv0 W) (by simp) hr).mono fun e w' ⟨v, E', h1, h2, h3, h4, _, _⟩ => ?_
  simp only [Rel] at h3
  subst h3 h1 h2
  exact ⟨rfl, ⟨h4.os, h4.tape, h4.output, h4.sz, fun k hk => (h4.out k hk fun r hr => by cases hr).1⟩⟩

theorem rel_int {W : World} {n : Int} : Rel (E0 W) (.int .i64 n) (.int .i64 n) := by simp only [Rel]
theorem wf_small {n : Int} (h : (Lit.int .i64 n).wf = true) : Small64 n := by
  have h1 : IntKind.i64.min = -9223372036854775808 := rfl
  have h2 : IntKind.i64.max = 9223372036854775807 := rfl
  simp only [Lit.wf, Bool.and_eq_true, decide_eq_true_eq] at h
  unfold Small64
  omega

theorem rel_ints {H : Type} {enc : TypeId × Value → H} {W : World} {base j : Nat} {v : Value} {d : DataW H} {p : List MemPlace} {ts : List TypeId} {ds : List (DataW H)} (hsz : (DataW.weightsEach Try.prog ts ds).all (· ≤ reachBytes) = true) (ht : ts[j]? = some 22) (hd : ds[j]? = some d)
    (hv : Value.okWide Try.prog W .any base 22 v) (h0 : DataW.Trod enc Try.prog W 0 (fun _ => true) true 22 v d p) (hlt : ∀ x ∈ p, x.block < W.heap.size) :
    ∃ l : List Int, Rel (E0 W) (encI l) v ∧ (∀ x ∈ l, Small64 x) ∧ Small l.length := by
  obtain ⟨a0, len, cap, rfl⟩ := okWide_slice Try.underlying22 hv
  obtain ⟨fuel, hf⟩ := h0
  rcases open_ints Try.underlying22 Try.underlying3 Try.cells3 hf with ⟨hcs, hx⟩ | ⟨a, len', cap', zs, hcs, _, hl, hm, hz, hx, hcell, hwz⟩
  · simp [Value.cells] at hcs
    obtain ⟨rfl, rfl, rfl⟩ := hcs
    refine ⟨[], ?_, by simp, by unfold Small; simp⟩
    simp only [encI, List.map_nil, Rel]
    exact ⟨none, 0, rfl, by simp, by simp [maxLen], by simp, by simp, 0, 0, 1, .inl trivial, by simp [RelE]⟩
  · simp [Value.cells] at hcs
    obtain ⟨rfl, rfl, rfl⟩ := hcs
    simp only [Prod.mk.injEq] at hx
    obtain ⟨rfl, rfl⟩ := hx
    simp only [if_true] at hz
    have hreach : cap * 8 ≤ 140737488351232 := by
      have := sized_slice hsz (j := j) (t := 22) (e := 3) ht hd Try.underlying22
      rw [Try.bytes3] at this
      simp only [lits, List.length_map, List.length_take, List.length_drop, reachBytes] at this
      omega
    have hlen : (zs.take len).length = len := by rw [List.length_take]; omega
    refine ⟨zs.take len, ?_, fun x hx => wf_small (hwz x (List.mem_of_mem_take hx)), by unfold Small; omega⟩
    simp only [encI, Rel, List.length_map, hlen]
    refine ⟨some a, cap, rfl, hl, hm, by simp, by simp, a.block, a.off, 1, ?_, ?_⟩
    · by_cases h0 : len = 0
      · subst h0; exact .inl (by simp)
      · right
        obtain ⟨b, off, spot⟩ := a
        have hspot : spot = none := by simpa [Addr.add] using World.cell?_spot (hcell 0 (by omega))
        subst hspot
        exact ⟨rfl, hlt (.cell b off) (MemPlace.mem_row.2 ⟨0, by omega, by simp⟩)⟩
    · refine RelE.mk fun i e he => ?_
      rw [List.getElem?_map] at he
      obtain ⟨n, hn, rfl⟩ := Option.map_eq_some_iff.1 he
      have hil : i < len := by
        have := (List.getElem?_eq_some_iff.1 hn).1
        omega
      rw [List.getElem?_take, if_pos hil] at hn
      have hc := hcell i (by omega)
      rw [List.getD_eq_getElem?_getD, hn] at hc
      obtain ⟨b, off, spot⟩ := a
      have hspot : spot = none := by simpa [Addr.add] using World.cell?_spot (hcell 0 (by omega))
      subst hspot
      rw [add_plain] at hc
      refine ⟨rfl, [.int .i64 n], by simp [RelL, Rel], fun q u hq => ?_, by simp [Value.oneCell']⟩
      cases q with
      | zero =>
        simp at hq
        subst hq
        simpa [E0] using hc
      | succ q => simp at hq

end Go.Proofs.Ytgenkkejlggmnaa
