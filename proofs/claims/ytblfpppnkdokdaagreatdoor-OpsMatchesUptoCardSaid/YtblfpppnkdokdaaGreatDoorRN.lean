import Derived.Test.YtblfpppnkdokdaaGreatDoorAD
import Derived.Test.YtblfpppnkdokdaaGreatDoorCards
import Derived.Test.YtblfpppnkdokdaaGreatDoorRows
import Derived.Test.YtblfpppnkdokdaaGreatDoorT0
set_option linter.unusedVariables false
set_option linter.unusedSimpArgs false
namespace Go.Proofs.YtblfpppnkdokdaaGreatDoor
open Go.AM
attribute [local irreducible] AWp aP aT bC bH bN aI aL bG
open Go.ChangeShapes Go.WideShapes Go.ChangeAt Go.RowKit
set_option maxRecDepth 100000
theorem D3 {H : Type} {l : List (DataW H)} {d : DataW H} (h : d ∈ l) : Rows.uptoBulk d ≤ Rows.uptoBulkAll l := by
 induction l with
 | nil => cases h
 | cons a l ih =>
  simp only [Rows.uptoBulkAll]
  rcases List.mem_cons.1 h with rfl | h
  ·omega
  ·have := ih h; omega
theorem uU {H : Type} : ∀ {ds : List (DataW H)} {ts : List T}, ds.length = ts.length → (∀ (i : Nat) d t, ds[i]? = some d → ts[i]? = some t → T.size t ≤ Rows.uptoBulk d) → T.sizes ts ≤ Rows.uptoBulkAll ds
 | [], [], _, _ => by simp [T.sizes]
 | d :: ds, t :: ts, hl, h => by
  have h1 := h 0 d t rfl rfl
  have h2 := uU (ds := ds) (ts := ts) (by simpa using hl) fun i d' t' hd ht => h (i + 1) d' t' (by simpa using hd) (by simpa using ht)
  simp only [T.sizes, Rows.uptoBulkAll]; omega
 | [], _ :: _, hl, _ => by simp at hl
 | _ :: _, [], hl, _ => by simp at hl
theorem C6 {β : Type} {R : Nat → β → Prop} : ∀ (n : Nat), (∀ i, i < n → ∃ y, R i y) → ∃ m : List β, m.length = n ∧ ∀ (i : Nat) y, m[i]? = some y → R i y
 | 0, _ => ⟨[], rfl, by simp⟩
 | n + 1, h => by
  obtain ⟨m, h1, h2⟩ := C6 n fun i hi => h i (by omega)
  obtain ⟨y, hy⟩ := h n (by omega)
  refine ⟨m ++ [y], by simp [h1], fun i z hz => ?_⟩
  by_cases hi : i < n
  ·rw [List.getElem?_append_left (by omega)] at hz
   exact h2 i z hz
  ·have hlt := (List.getElem?_eq_some_iff.1 hz).1
   simp only [List.length_append, List.length_singleton] at hlt
   have e : i = n := by omega
   subst e
   rw [List.getElem?_append_right (by omega), h1, Nat.sub_self] at hz
   simp at hz
   subst hz
   exact hy
theorem IH {H : Type} {enc : TypeId × Value → H} {P : Program} {W : World} {held : Bool} {tn ts ti : TypeId} {fs : Array Field}
  (hn : P.underlying tn = some (.struct fs)) (hs : P.underlying ts = some (.slice tn)) (hi : P.underlying ti = some (.int .i64))
  (hf : fs.toList.map (fun f => (f.offset, f.type)) = [(0, ti), (1, ti), (2, ti), (3, ts)]) (hcn : P.cellsOf tn = 4) (hci : P.cellsOf ti = 1) (hcs : P.cellsOf ts = 1) :
  ∀ (N fuel : Nat) (cs : List Value) (d : DataW H) (p : List MemPlace), fuel ≤ N → DataW.trod enc P W 0 (fun _ => true) held fuel tn cs = some (d, p) →
   ∃ t : T, RelL (E0 W) (T.enc t) cs ∧ (∀ u ∈ cs, u.oneCell' = true) ∧ T.size t ≤ Rows.uptoBulk d := by
 obtain ⟨fl⟩ := fs
 rcases fl with _ | ⟨fa, _ | ⟨fb, _ | ⟨fc, _ | ⟨fd, _ | ⟨fe, fl⟩⟩⟩⟩⟩ <;> simp only [List.map_cons, List.map_nil, List.cons.injEq, Prod.mk.injEq, reduceCtorEq, and_false, and_true, List.cons_ne_nil] at hf
 obtain ⟨⟨oa, ta⟩, ⟨ob, tb⟩, ⟨oc, tc⟩, ⟨od, td⟩⟩ := hf
 intro N
 induction N with
 | zero =>
  intro fuel cs d p hN h
  obtain ⟨xs, n, rfl, _⟩ := DataW.trod_struct hn h
  omega
 | succ N ih =>
 intro fuel cs d p hN h
 obtain ⟨xs, n, rfl, hx, hl, hxl, hfld⟩ := DataW.trod_struct hn h
 rw [hcn] at hl
 rcases cs with _ | ⟨ca, _ | ⟨cb, _ | ⟨cc, _ | ⟨cd, _ | ⟨ce, cs⟩⟩⟩⟩⟩ <;> simp only [List.length_cons, List.length_nil] at hl <;> try omega
 have hxl' : xs.length = 4 := by simpa using hxl
 rcases xs with _ | ⟨xa, _ | ⟨xb, _ | ⟨xc, _ | ⟨xd, _ | ⟨xe, xs⟩⟩⟩⟩⟩ <;> simp only [List.length_cons, List.length_nil] at hxl' <;> try omega
 have h0 := hfld 0 fa rfl
 have h1 := hfld 1 fb rfl
 have h2 := hfld 2 fc rfl
 have h3 := hfld 3 fd rfl
 rw [oa, ta, hci] at h0
 rw [ob, tb, hci] at h1
 rw [oc, tc, hci] at h2
 rw [od, td, hcs] at h3
 obtain ⟨k, e0, hx0, _⟩ := DataW.trod_int hi h0
 obtain ⟨m, e1, hx1, _⟩ := DataW.trod_int hi h1
 obtain ⟨o, e2, hx2, _⟩ := DataW.trod_int hi h2
 simp only [List.drop_succ_cons, List.drop_zero, List.take_succ_cons, List.take_zero, List.cons.injEq, and_true] at e0 e1 e2
 subst e0 e1 e2
 simp only [Prod.mk.injEq] at hx
 obtain ⟨rfl, _⟩ := hx
 rcases DataW.trod_slice hs h3 with ⟨e3, hx3⟩ | ⟨a, len, cap, elems, rest, n', rfl, e3, rfl, _, hlc, hcm, hlen, hel, _, _⟩
 ·simp only [List.drop_succ_cons, List.drop_zero, List.take_succ_cons, List.take_zero, List.cons.injEq, and_true] at e3
  subst e3
  refine ⟨.mk k m o [], ?_, by simp [Value.oneCell'], ?_⟩
  ·simp only [T.enc, T.encs, RelL, Rel]
   exact ⟨_, _, rfl, rfl, _, _, rfl, rfl, _, _, rfl, rfl, _, _, rfl, ⟨none, 0, rfl, by simp, by simp [maxLen], by simp, by simp, 0, 0, 1, .inl trivial, by simp [RelE]⟩, rfl⟩
  ·simp only [T.size, T.sizes, List.map_cons, Rows.uptoBulk, Rows.uptoBulkAll]; omega
 ·simp only [List.drop_succ_cons, List.drop_zero, List.take_succ_cons, List.take_zero, List.cons.injEq, and_true] at e3
  subst e3
  obtain ⟨es, hes, hk⟩ := C6 (R := fun (i : Nat) (t : T) => ∃ c1 x, elems[i]? = some x ∧ W.cells? 0 (a.add (i * P.cellsOf tn)) (P.cellsOf tn) = some c1 ∧ RelL (E0 W) (T.enc t) c1 ∧ (∀ u ∈ c1, u.oneCell' = true) ∧ T.size t ≤ Rows.uptoBulk x.1) len fun i hlt => by
   have h4 := hel i hlt
   rw [List.getElem?_eq_getElem (by omega), Option.bind_eq_some_iff] at h4
   obtain ⟨c1, hc1, h5⟩ := h4
   obtain ⟨t, h6, h7, h8⟩ := ih n' c1 _ _ (by omega) h5
   exact ⟨t, c1, _, List.getElem?_eq_getElem (by omega), hc1, h6, h7, h8⟩
  obtain ⟨b, off, spot⟩ := a
  have hplain : 0 < len → spot = none ∧ b < W.heap.size := by
   intro hpos
   obtain ⟨c1, x, _, hc1, h6, _⟩ := hk 0 _ (List.getElem?_eq_getElem (by omega))
   obtain ⟨m1, m2⟩ := pE (by simpa only [Nat.zero_mul, Addr.add, if_true] using hc1)
   have hcell := m2 0 _ (List.getElem?_eq_getElem (by rw [m1, hcn]; omega))
   have e0 : (⟨b, off, spot⟩ : Addr).add 0 = ⟨b, off, spot⟩ := by simp [Addr.add]
   rw [e0] at hcell
   refine ⟨World.cell?_spot hcell, ?_⟩
   unfold World.cell? at hcell
   by_cases hb : b < W.heap.size
   ·exact hb
   ·simp [Array.getElem?_eq_none (by omega : W.heap.size ≤ b)] at hcell
  refine ⟨.mk k m o es, ?_, by simp [Value.oneCell'], ?_⟩
  ·simp only [T.enc, RelL, Rel]
   refine ⟨_, _, rfl, rfl, _, _, rfl, rfl, _, _, rfl, rfl, _, _, rfl, ⟨some ⟨b, off, spot⟩, cap, by rw [T.encs_len, hes], by rw [T.encs_len, hes]; exact hlc, hcm, by simp, by simp, b, off, 4, ?_, RelE.mk fun i x hx => ?_⟩, rfl⟩
   ·by_cases h0 : 0 < len
    ·obtain ⟨rfl, hb⟩ := hplain h0
     exact .inr ⟨rfl, hb⟩
    ·left
     have : es = [] := List.eq_nil_of_length_eq_zero (by omega)
     rw [this]; rfl
   ·rw [T.encs_map, List.getElem?_map, Option.map_eq_some_iff] at hx
    obtain ⟨t, ht, rfl⟩ := hx
    have hil : i < len := by have := (List.getElem?_eq_some_iff.1 ht).1; omega
    obtain ⟨rfl, hb⟩ := hplain (by omega)
    obtain ⟨c1, y, _, hc1, r1, r2, _⟩ := hk i t ht
    rw [add_plain, hcn] at hc1
    obtain ⟨m1, m2⟩ := pE hc1
    refine ⟨by rw [← r1.length, m1], c1, r1, fun j u hj => ?_, r2⟩
    have := m2 j u hj
    rw [add_plain] at this
    exact this
  ·have hb := uU (ds := elems.map (·.1)) (ts := es) (by simp [hlen, hes]) fun i d t hd ht => by
    obtain ⟨c1, y, hy, _, _, _, h8⟩ := hk i t ht
    rw [List.getElem?_map, hy] at hd
    simp at hd
    subst hd
    exact h8
   simp only [T.size, List.map_cons, List.map_nil, Rows.uptoBulk, Rows.uptoBulkAll]
   omega
end Go.Proofs.YtblfpppnkdokdaaGreatDoor
