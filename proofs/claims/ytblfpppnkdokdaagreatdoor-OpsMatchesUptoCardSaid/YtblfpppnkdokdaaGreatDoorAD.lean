import Derived.Test.YtblfpppnkdokdaaGreatDoorAC
import Derived.ProofKit
import Derived.SizedLaws
import Derived.OpenShut
import Derived.LaidMore
import Derived.LaidHandle
import Derived.LaidSub
import Derived.WideKeyMaps
set_option linter.unusedVariables false
set_option linter.unusedSimpArgs false
namespace Go.AM
open Go.WideShapes Go.ChangeShapes Go.ChangeAt Go.RowKit
def E0 (W : World) : En := ⟨W, fun b => b < W.heap.size, fun _ => 0, fun _ => .none⟩
theorem M5 {P : Program} {G : Nat → Option (List AV)} {f : FuncId} {avs : List AV} {us : List Value} {W : World} (hp : Pure P G f avs (.bool true)) (hi : Inv G (E0 W)) (hr : RelL (E0 W) avs us) :
  Calls P f us.toArray W fun e W' => e = .returned (.bool true) ∧ Below W.heap.size W W' := by
 obtain ⟨_, hc⟩ := hp
 obtain ⟨_, _, h⟩ := hc fun _ => .none
 refine (h (E0 W) us hi (by simp) hr).mono fun e w' ⟨v, E', h1, h2, h3, h4, _, _⟩ => ?_
 simp only [Rel] at h3
 subst h3 h1 h2
 exact ⟨rfl, ⟨h4.os, h4.tape, h4.output, h4.sz, fun k hk => (h4.out k hk fun r hr => by cases hr).1⟩⟩
theorem zK {W : World} {n : Int} : Rel (E0 W) (.int .i64 n) (.int .i64 n) := by simp only [Rel]
section
variable {H : Type}
def fY (f : TypeId → DataW H → Option (List AV)) : List TypeId → List (DataW H) → Option (List (List AV))
 | [], [] => some []
 | t :: ts, d :: ds => match f t d, fY f ts ds with
  | some a, some r => some (a :: r)
  | _, _ => none
 | _, _ => none
def wM (P : Program) : Nat → List (Nat × TypeId) → Nat → Bool
 | k, [], m => k == m
 | k, (o, t) :: r, m => o == k && wM P (k + P.cellsOf t) r m
def AO : Lit × DataW H → Option (AV × AV)
 | (.int k n, .lit (.int k' m)) => some (.int k n, .int k' m)
 | _ => none
def avD (P : Program) (fnD : H → Option FuncId) : Nat → TypeId → DataW H → Option (List AV)
 | 0, _, _ => none
 | n + 1, t, d =>
  match P.underlying t, d with
  | some .bool, .lit (.bool b) => some [.bool b]
  | some (.int _), .lit (.int k m) => some [.int k m]
  | some .string, .lit (.string bs) => some [.str ⟨bs.toArray⟩]
  | some (.slice _), .nil => some [.sl true []]
  | some (.slice e), .slice ds [] => if P.cellsOf e = 0 then none else (fY (avD P fnD n) (ds.map fun _ => e) ds).map fun l => [.sl true l]
  | some (.struct fs), .agg ds =>
   if wM P 0 (fs.toList.map fun f => (f.offset, f.type)) (P.cellsOf t) = true then (fY (avD P fnD n) (fs.toList.map (·.type)) ds).map List.flatten else none
  | some (.array m e), .agg ds =>
   if wM P 0 ((List.range m).map fun i => (i * P.cellsOf e, e)) (P.cellsOf t) = true then (fY (avD P fnD n) ((List.range m).map fun _ => e) ds).map List.flatten else none
  | some (.func ..), .held h => (fnD h).map fun f => [.fn (.func f) [] []]
  | some (.map k e), .map en => match P.underlying k, P.underlying e with
   | some (.int _), some (.int _) => (en.mapM AO).map fun l => [.mp (l.map (·.1)) (l.map (·.2))]
   | _, _ => none
  | _, _ => none
theorem uX {f : TypeId → DataW H → Option (List AV)} : ∀ {ts : List TypeId} {ds : List (DataW H)} {l : List (List AV)}, fY f ts ds = some l →
  l.length = ds.length ∧ ∀ (i : Nat) (e : List AV), l[i]? = some e → ∃ t d, ts[i]? = some t ∧ ds[i]? = some d ∧ f t d = some e
 | [], [], _, h => by simp only [fY, Option.some.injEq] at h; subst h; simp
 | t :: ts, d :: ds, l, h => by
  simp only [fY] at h
  split at h
  ·rename_i a r h1 h2
   cases h
   obtain ⟨h3, h4⟩ := uX h2
   refine ⟨by simp [h3], fun i e hi => ?_⟩
   cases i with
   | zero => simp at hi; subst hi; exact ⟨t, d, rfl, rfl, h1⟩
   | succ i => simp at hi; simpa using h4 i e hi
  ·cases h
 | [], _ :: _, _, h => by simp [fY] at h
 | _ :: _, [], _, h => by simp [fY] at h
variable {enc : TypeId × Value → H} {P : Program} {W : World} {held : Bool} {fnD : H → Option FuncId}
def NG (enc : TypeId × Value → H) (P : Program) (W : World) (held : Bool) (f : TypeId → DataW H → Option (List AV)) : Prop :=
 ∀ fuel t cs d p avs, DataW.trod enc P W 0 (fun _ => true) held fuel t cs = some (d, p) → f t d = some avs → RelL (E0 W) avs cs ∧ ∀ u ∈ cs, u.oneCell' = true
theorem lU {f : TypeId → DataW H → Option (List AV)} (hf : NG enc P W held f) {cs : List Value} : ∀ {L : List (Nat × TypeId)} {k : Nat} {ds : List (DataW H)} {l : List (List AV)},
  wM P k L cs.length = true → (∀ (i o : Nat) (t : TypeId), L[i]? = some (o, t) → ∃ fuel d p, ds[i]? = some d ∧ DataW.trod enc P W 0 (fun _ => true) held fuel t ((cs.drop o).take (P.cellsOf t)) = some (d, p)) →
  fY f (L.map (·.2)) ds = some l → RelL (E0 W) l.flatten (cs.drop k) ∧ ∀ u ∈ cs.drop k, u.oneCell' = true
 | [], k, [], l, h, _, hl => by
  simp only [wM, beq_iff_eq] at h
  simp only [List.map_nil, fY, Option.some.injEq] at hl
  subst hl
  rw [List.drop_of_length_le (by omega)]
  simp [RelL]
 | [], k, _ :: _, l, h, _, hl => by simp [fY] at hl
 | (o, t) :: L, k, [], l, h, _, hl => by simp [fY] at hl
 | (o, t) :: L, k, d :: ds, l, h, hc, hl => by
  simp only [wM, Bool.and_eq_true, beq_iff_eq] at h
  obtain ⟨rfl, h⟩ := h
  simp only [List.map_cons, fY] at hl
  split at hl
  ·rename_i a r h1 h2
   cases hl
   obtain ⟨fuel, d', p, hd, hr⟩ := hc 0 o t rfl
   simp only [List.getElem?_cons_zero, Option.some.injEq] at hd
   subst hd
   obtain ⟨r1, r2⟩ := hf _ _ _ _ _ _ hr h1
   obtain ⟨s1, s2⟩ := lU hf h (fun i o' t' hi => by simpa using hc (i + 1) o' t' (by simpa using hi)) h2
   have hsplit : cs.drop o = (cs.drop o).take (P.cellsOf t) ++ cs.drop (o + P.cellsOf t) := by
    rw [← List.drop_drop, List.take_append_drop]
   rw [hsplit, List.flatten_cons]
   refine ⟨r1.append s1, fun u hu => ?_⟩
   rcases List.mem_append.1 hu with hu | hu
   ·exact r2 u hu
   ·exact s2 u hu
  ·cases hl
theorem pE {b o n : Nat} {cs : List Value} {spot : Option _} (h : W.cells? 0 ⟨b, o, spot⟩ n = some cs) : cs.length = n ∧ ∀ j u, cs[j]? = some u → W.cell? ((⟨b, o, spot⟩ : Addr).add j) = some u := by
 unfold World.cells? at h
 rw [if_pos (Nat.zero_le _)] at h
 have hl := mapM_some_length h
 simp only [List.length_range] at hl
 refine ⟨hl, fun j u hj => ?_⟩
 have := mapM_some_get h j j (List.getElem?_range (by have := (List.getElem?_eq_some_iff.1 hj).1; omega))
 rw [this, hj]
theorem BX {α β : Type} {f : α → β} {S M : List β} (hp : S.Perm M) : ∀ l : List α, M = l.map f → ∃ el : List α, el.Perm l ∧ el.map f = S := by
 induction hp with
 | nil => exact fun l h => ⟨[], by have := List.map_eq_nil_iff.1 h.symm; subst this; exact .nil, rfl⟩
 | cons x p ih =>
  intro l h
  cases l with
  | nil => simp at h
  | cons a l =>
   simp only [List.map_cons, List.cons.injEq] at h
   obtain ⟨rfl, h⟩ := h
   obtain ⟨el, h1, h2⟩ := ih l h
   exact ⟨a :: el, h1.cons a, by simp [h2]⟩
 | swap x y r =>
  intro l h
  cases l with
  | nil => simp at h
  | cons a l =>
   cases l with
   | nil => simp at h
   | cons b l =>
    simp only [List.map_cons, List.cons.injEq] at h
    obtain ⟨rfl, rfl, rfl⟩ := h
    exact ⟨b :: a :: l, .swap _ _ _, rfl⟩
 | trans p q ih1 ih2 =>
  intro l h
  obtain ⟨el, h1, h2⟩ := ih2 l h
  obtain ⟨el', h3, h4⟩ := ih1 el h2.symm
  exact ⟨el', h3.trans h1, h4⟩
theorem rC {k : TypeId} {ik kd : IntKind} (hk : P.underlying k = some (.int ik)) : ∀ {el : List MapEntry} {l : List (AV × AV)}, (∀ x ∈ el, ∃ y : Lit × DataW H, WideMaps.rd P k kd x = some y) →
  (el.map (WideMaps.rg H P k kd)).mapM AO = some l → RelL (E0 W) (l.map (·.1)) (el.map (·.key)) ∧ RelL (E0 W) (l.map (·.2)) (el.map (·.val))
 | [], l, _, h => by simp at h; subst h; simp [RelL]
 | x :: el, l, hx, h => by
  obtain ⟨y, hy⟩ := hx x (by simp)
  rw [List.map_cons, WideMaps.rg_of hy, List.mapM_cons] at h
  obtain ⟨m, hv, hy2, _⟩ := WideMaps.rd_val hy
  have hkey := WideMaps.rd_key hy
  obtain ⟨y1, y2⟩ := y
  simp only at hy2 hkey
  subst hy2
  simp only [Option.bind_eq_bind, Option.bind_eq_some_iff, Option.pure_def, Option.some.injEq] at h
  obtain ⟨e, he, r, hr, rfl⟩ := h
  obtain ⟨s1, s2⟩ := rC hk (fun z hz => hx z (by simp [hz])) hr
  have hmk : mapKey P k x.key = some y1 := by
   unfold keyOf at hkey
   rw [hk] at hkey
   exact hkey
  unfold mapKey at hmk
  rw [hk] at hmk
  split at hmk <;> simp_all
  rename_i n hxk
  obtain ⟨_, rfl⟩ := hmk
  simp only [AO, Option.some.injEq] at he
  subst he
  simp only [RelL, Rel]
  exact ⟨⟨_, _, rfl, rfl, s1⟩, ⟨_, _, rfl, rfl, s2⟩⟩
theorem yG (hfn : ∀ {t ps rs va v h f fuel q}, P.underlying t = some (.func ps rs va) → DataW.trod enc P W 0 (fun _ => true) held fuel t [v] = some (.held h, q) → fnD h = some f → v = .func (.func f) #[] #[]) :
  ∀ n, NG enc P W held (avD P fnD n)
 | 0 => fun _ _ _ _ _ _ _ h => by simp [avD] at h
 | n + 1 => by
  intro fuel t cs d p avs ht hd
  have ih := yG hfn n
  simp only [avD] at hd
  split at hd
  ·rename_i b hu
   obtain ⟨b', rfl, hx⟩ := DataW.trod_bool hu ht
   cases hx; cases hd
   exact ⟨⟨_, _, rfl, by simp [Rel], by simp [RelL]⟩, by simp [Value.oneCell']⟩
  ·rename_i k' k m hu
   obtain ⟨b', rfl, hx, _⟩ := DataW.trod_int hu ht
   cases hx; cases hd
   exact ⟨⟨_, _, rfl, by simp [Rel], by simp [RelL]⟩, by simp [Value.oneCell']⟩
  ·rename_i bs hu
   obtain ⟨b', rfl, hx, _⟩ := DataW.trod_string hu ht
   cases hd
   simp only [Prod.mk.injEq, DataW.lit.injEq, Lit.string.injEq] at hx
   obtain ⟨rfl, _⟩ := hx
   have e : (⟨b'.data.toList.toArray⟩ : ByteArray) = b' := ByteArray.ext (by simp)
   rw [e]
   exact ⟨⟨_, _, rfl, by simp [Rel], by simp [RelL]⟩, by simp [Value.oneCell']⟩
  ·rename_i e hu
   cases hd
   rcases DataW.trod_slice hu ht with ⟨rfl, _⟩ | ⟨a, len, cap, elems, rest, n', _, _, hx, _⟩
   ·exact ⟨⟨_, _, rfl, by simp only [Rel]; exact ⟨none, 0, rfl, by simp, by simp [maxLen], by simp, by simp, 0, 0, 1, .inl trivial, by simp [RelE]⟩, by simp [RelL]⟩, by simp [Value.oneCell']⟩
   ·simp at hx
  ·rename_i e ds hu
   split at hd
   ·cases hd
   ·rename_i hc
    simp only [Option.map_eq_some_iff] at hd
    obtain ⟨l, hl, rfl⟩ := hd
    rcases DataW.trod_slice hu ht with ⟨_, hx⟩ | ⟨a, len, cap, elems, rest, n', _, rfl, hx, _, hlc, hcm, hlen, hel, hrest, _⟩
    ·simp at hx
    ·simp only [Prod.mk.injEq, DataW.slice.injEq] at hx
     obtain ⟨⟨rfl, hr⟩, _⟩ := hx
     obtain ⟨hr1, _⟩ := hrest rfl
     have hr0 : rest = [] := by simpa using hr.symm
     subst hr0
     simp only [List.length_nil] at hr1
     obtain ⟨hll, hget⟩ := uX hl
     simp only [List.length_map] at hll
     have hcap : cap = l.length := by omega
     have hlen' : l.length = len := by omega
     refine ⟨⟨_, _, rfl, ?_, by simp [RelL]⟩, by simp [Value.oneCell']⟩
     simp only [Rel]
     obtain ⟨b, off, spot⟩ := a
     have hplain : l ≠ [] → spot = none ∧ b < W.heap.size := by
      intro h0
      have hpos : 0 < len := by have := List.length_pos_iff.2 h0; omega
      have h1 := hel 0 hpos
      rw [List.getElem?_eq_getElem (by omega)] at h1
      simp only [Option.bind_eq_some_iff] at h1
      obtain ⟨c1, hc1, _⟩ := h1
      simp only [Nat.zero_mul] at hc1
      have e0 : (⟨b, off, spot⟩ : Addr).add 0 = ⟨b, off, spot⟩ := by simp [Addr.add]
      rw [e0] at hc1
      obtain ⟨m1, m2⟩ := pE hc1
      have hcell := m2 0 _ (List.getElem?_eq_getElem (by omega))
      rw [e0] at hcell
      refine ⟨World.cell?_spot hcell, ?_⟩
      unfold World.cell? at hcell
      by_cases hb : b < W.heap.size
      ·exact hb
      ·simp [Array.getElem?_eq_none (by omega : W.heap.size ≤ b)] at hcell
     refine ⟨some ⟨b, off, spot⟩, cap, by rw [hlen'], by omega, hcm, fun _ => hcap, by simp, b, off, P.cellsOf e, ?_, RelE.mk fun i x hi => ?_⟩
     ·by_cases h0 : l = []
      ·exact .inl h0
      ·obtain ⟨rfl, hb⟩ := hplain h0
       exact .inr ⟨rfl, hb⟩
     ·have h0 : l ≠ [] := by rintro rfl; simp at hi
      obtain ⟨rfl, hb⟩ := hplain h0
      obtain ⟨t', d', ht', hd', hx⟩ := hget i x hi
      have hil : i < len := by have := (List.getElem?_eq_some_iff.1 hi).1; omega
      have h1 := hel i hil
      rw [List.getElem?_eq_getElem (by omega)] at h1
      simp only [Option.bind_eq_some_iff] at h1
      obtain ⟨c1, hc1, hr1⟩ := h1
      rw [add_plain] at hc1
      obtain ⟨m1, m2⟩ := pE hc1
      have ht2 : t' = e := by
       rw [List.getElem?_map] at ht'
       obtain ⟨_, _, rfl⟩ := Option.map_eq_some_iff.1 ht'
       rfl
      subst ht2
      have hd2 : (elems[i]'(by omega)).1 = d' := by
       rw [List.getElem?_map, List.getElem?_eq_getElem (by omega)] at hd'
       simpa using hd'
      subst hd2
      obtain ⟨r1, r2⟩ := ih _ _ _ _ _ _ hr1 hx
      refine ⟨by rw [← r1.length, m1], c1, r1, fun j u hj => ?_, r2⟩
      have := m2 j u hj
      rw [add_plain] at this
      exact this
  ·rename_i fs ds hu
   split at hd
   ·rename_i htile
    simp only [Option.map_eq_some_iff] at hd
    obtain ⟨l, hl, rfl⟩ := hd
    obtain ⟨xs, m, rfl, hx, hlen, hsz, hel⟩ := DataW.trod_struct hu ht
    simp only [Prod.mk.injEq, DataW.agg.injEq] at hx
    obtain ⟨rfl, _⟩ := hx
    rw [← hlen] at htile
    have := lU ih (L := fs.toList.map fun f => (f.offset, f.type)) (k := 0) (ds := xs.map (·.1)) htile (fun i o t' hi => ?_) (by simpa [List.map_map, Function.comp_def] using hl)
    ·simpa using this
    ·rw [List.getElem?_map] at hi
     obtain ⟨f, hf, hft⟩ := Option.map_eq_some_iff.1 hi
     cases hft
     have h1 := hel i f (by simpa using hf)
     have hi' : i < xs.length := by rw [hsz]; simpa using (List.getElem?_eq_some_iff.1 hf).1
     rw [List.getElem?_eq_getElem hi'] at h1
     exact ⟨m, _, _, by rw [List.getElem?_map, List.getElem?_eq_getElem hi']; rfl, h1⟩
   ·cases hd
  ·rename_i m e ds hu
   split at hd
   ·rename_i htile
    simp only [Option.map_eq_some_iff] at hd
    obtain ⟨l, hl, rfl⟩ := hd
    obtain ⟨xs, m', rfl, hx, hlen, hsz, hel⟩ := DataW.trod_array hu ht
    simp only [Prod.mk.injEq, DataW.agg.injEq] at hx
    obtain ⟨rfl, _⟩ := hx
    rw [← hlen] at htile
    have := lU ih (L := (List.range m).map fun i => (i * P.cellsOf e, e)) (k := 0) (ds := xs.map (·.1)) htile (fun i o t' hi => ?_) (by simpa [List.map_map, Function.comp_def] using hl)
    ·simpa using this
    ·rw [List.getElem?_map] at hi
     obtain ⟨f, hf, hft⟩ := Option.map_eq_some_iff.1 hi
     have hfl := (List.getElem?_eq_some_iff.1 hf).1
     have hfi : f = i := by
      have := (List.getElem?_eq_some_iff.1 hf).2
      simpa using this.symm
     subst hfi
     cases hft
     simp only [List.length_range] at hfl
     have h1 := hel f hfl
     have hi' : f < xs.length := by omega
     rw [List.getElem?_eq_getElem hi'] at h1
     exact ⟨m', _, _, by rw [List.getElem?_map, List.getElem?_eq_getElem hi']; rfl, h1⟩
   ·cases hd
  ·rename_i h hu
   simp only [Option.map_eq_some_iff] at hd
   obtain ⟨f, hf, rfl⟩ := hd
   have hone : ∃ v, cs = [v] := by
    cases fuel with
    | zero => simp [DataW.trod] at ht
    | succ m =>
     unfold DataW.trod at ht
     rw [hu] at ht
     split at ht <;> simp_all
   obtain ⟨v, rfl⟩ := hone
   obtain rfl := hfn hu ht hf
   exact ⟨⟨_, _, rfl, by simp only [Rel]; exact ⟨[], [], rfl, by simp [RelL], by simp [RelL]⟩, by simp [RelL]⟩, by simp [Value.oneCell']⟩
  ·rename_i k e en hu
   split at hd
   ·rename_i ik kd hk he
    simp only [Option.map_eq_some_iff] at hd
    obtain ⟨l, hl, rfl⟩ := hd
    rcases WideMaps.open_map hu he ht with ⟨_, hx⟩ | ⟨b, es, clock, rfl, hb, _, hfit, hx⟩
    ·simp at hx
    ·simp only [Prod.mk.injEq, DataW.map.injEq] at hx
     obtain ⟨rfl, _⟩ := hx
     obtain ⟨el, hp, hel⟩ := BX (sorted_perm (es.toList.map (WideMaps.rg H P k kd))) es.toList rfl
     rw [← hel] at hl
     obtain ⟨s1, s2⟩ := rC (W := W) hk (fun x hx => hfit.reads x (hp.mem_iff.1 hx)) hl
     refine ⟨⟨_, _, rfl, ?_, by simp [RelL]⟩, by simp [Value.oneCell']⟩
     simp only [Rel]
     refine .inr ⟨b, es, clock, rfl, ?_, hb, ?_, el, hp, s1, s2⟩
     ·show b < W.heap.size
      exact (Array.getElem?_eq_some_iff.1 hb).1
     ·obtain ⟨t1, t2, _⟩ := (Go.MapKept.stamped_iff es clock).1 hfit.stamped
      exact ⟨t1, t2⟩
   ·cases hd
  ·cases hd
end
theorem M8 {P : Program} {W : World} {n : String} {g : Nat} {cs : Array Value} {avs : List AV} (hg : P.globalNamed n = some g) (hv : W.var? P n = some cs) (h : RelL (E0 W) avs cs.toList ∧ ∀ u ∈ cs.toList, u.oneCell' = true) :
  ∃ vs, g < W.heap.size ∧ RelL (E0 W) avs vs ∧ CellsAt W g 0 vs := by
 refine ⟨cs.toList, ?_, h.1, fun j u hj => ?_, h.2⟩
 ·simp only [World.var?, hg, Option.bind_some] at hv
  split at hv
  ·rename_i c _ _ hb
   exact (Array.getElem?_eq_some_iff.1 hb).1
  ·cases hv
 ·have := World.var?_cell hg hv (0 + j)
  rw [this, Nat.zero_add]
  simpa using hj
theorem qX {P : Program} {W : World} : ∀ {l : List (String × DataW Unit)} {ps : List MemPlace}, DataW.LaidVars P W l ps → ∀ n d, (n, d) ∈ l →
  ∃ g t cs fuel p, P.globalNamed n = some g ∧ (P.globals[g]?).map (·.type) = some t ∧ W.var? P n = some cs ∧ DataW.trod (fun _ => ()) P W 0 (fun _ => true) false fuel t cs.toList = some (d, p)
 | [], _, _, _, _, hm => by cases hm
 | (n', d') :: r, ps, h, n, d, hm => by
  obtain ⟨g, t, cs, fuel, p, q, h1, h2, h3, h4, h5, _⟩ := h
  rcases List.mem_cons.1 hm with e | e
  ·cases e
   exact ⟨g, t, cs, fuel, p, h1, h2, h3, h4⟩
  ·exact qX h5 n d e
theorem EH {P : Program} {W : World} {l : List (String × DataW Unit)} (h : laidMetH P l W) {n : String} {d : DataW Unit} (hm : (n, d) ∈ l) (hno : d.handleName? = none) {g t N : Nat} {avs : List AV}
  (hg : P.globalNamed n = some g) (ht : (P.globals[g]?).map (·.type) = some t) (hav : avD P (fun _ => none) N t d = some avs) : ∃ vs, g < W.heap.size ∧ RelL (E0 W) avs vs ∧ CellsAt W g 0 vs := by
 obtain ⟨ps, hl, _⟩ := (laidMetH_iff.1 h).1
 obtain ⟨g', t', cs, fuel, p, h1, h2, h3, h4⟩ := qX hl n d (List.mem_filter.2 ⟨hm, by simp [hno]⟩)
 obtain rfl := Option.some.inj (hg.symm.trans h1)
 obtain rfl := Option.some.inj (ht.symm.trans h2)
 exact M8 hg h3 (yG (fun _ _ h => by cases h) N _ _ _ _ _ _ h4 hav)
theorem zZ {G : Nat → Option (List AV)} {W : World} (h : ∀ g cs, G g = some cs → ∃ vs, g < W.heap.size ∧ RelL (E0 W) cs vs ∧ CellsAt W g 0 vs) : Inv G (E0 W) := by
 refine ⟨fun r => (by simp [RowOK, E0]), fun r r' h => (by cases h), fun b h => h, fun g cs hg => h g cs hg⟩
end Go.AM
