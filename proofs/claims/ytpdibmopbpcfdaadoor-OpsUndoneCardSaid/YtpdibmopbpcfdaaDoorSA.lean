import Derived.Test.YtpdibmopbpcfdaaDoorS8
set_option linter.unusedVariables false
set_option linter.unusedSimpArgs false
namespace Go.Proofs.YtpdibmopbpcfdaaDoor
open Go.AM
set_option maxRecDepth 100000
theorem cmpI_self (x : Int) : cmpI x x = 0 := by unfold cmpI; split <;> (try split) <;> omega
theorem cmpI_zero {x y : Int} (h : cmpI x y = 0) : x = y := by
  unfold cmpI at h
  split at h
  · omega
  · split at h <;> omega
theorem cmpL_self {f : List AV → List AV → Int} (hf : ∀ x, f x x = 0) : ∀ es, cmpL f es es = 0
  | [] => rfl
  | e :: es => by rw [cmpL, hf e]; simpa using cmpL_self hf es
theorem cmpT_self : ∀ (D : Nat) (x : List AV), cmpT D x x = 0 := by
  intro D
  induction D with
  | zero => intro x; simp [cmpT]
  | succ D ih =>
    intro x
    unfold cmpT
    split
    · rename_i h1 h2
      simp_all [firstNZ, cmpI_self]
      exact cmpL_self ih _
    · rfl
theorem cmpL_zero {D : Nat} {f : List AV → List AV → Int} (hf : ∀ x y, NodeV D x → NodeV D y → wkL x = x → wkL y = y → f x y = 0 → x = y) : ∀ (a b : List (List AV)), (∀ e ∈ a, NodeV D e) → (∀ e ∈ b, NodeV D e) → a.map wkL = a → b.map wkL = b → cmpL f a b = 0 → a = b
  | [], [], _, _, _, _, _ => rfl
  | [], _ :: _, _, _, _, _, h => by simp [cmpL] at h
  | _ :: _, [], _, _, _, _, h => by simp [cmpL] at h
  | x :: a, y :: b, ha, hb, wa, wb, h => by
    simp only [List.map_cons, List.cons.injEq] at wa wb
    rw [cmpL] at h
    split at h
    · rename_i h0; exact absurd h h0
    · rename_i h0
      rw [hf x y (ha x (by simp)) (hb y (by simp)) wa.1 wb.1 (by simpa using h0), cmpL_zero hf a b (fun e he => ha e (by simp [he])) (fun e he => hb e (by simp [he])) wa.2 wb.2 h]
theorem firstNZ_zero : ∀ {l : List Int}, firstNZ l = 0 → ∀ x ∈ l, x = 0
  | [], _, _, hx => by cases hx
  | y :: l, h, x, hx => by
    rw [firstNZ] at h
    split at h
    · rename_i h0; exact absurd h h0
    · rename_i h0
      rcases List.mem_cons.1 hx with rfl | hx
      · simpa using h0
      · exact firstNZ_zero h x hx
theorem cmpT_zero : ∀ (D : Nat) (x y : List AV), NodeV D x → NodeV D y → wkL x = x → wkL y = y → cmpT D x y = 0 → x = y := by
  intro D
  induction D with
  | zero =>
    intro x y hx
    cases hx with
    | @mk _ d hd => exact absurd hd (Nat.not_lt_zero _)
  | succ D ih =>
    intro x y hx hy wx wy h
    cases hx with
    | @mk _ d1 hd1 k1 n1 m1 b1 es1 hl1 hh1 =>
    cases hy with
    | @mk _ d2 hd2 k2 n2 m2 b2 es2 hl2 hh2 =>
    rw [wk_node] at wx wy
    simp only [List.cons.injEq, AV.sl.injEq, and_true, true_and] at wx wy
    have hz := firstNZ_zero (show firstNZ [cmpI k1 k2, cmpI n1 n2, cmpI m1 m2, cmpL (cmpT D) es1 es2] = 0 from h)
    have e4 := cmpL_zero ih es1 es2 (fun e he => (hh1 e he).up (Nat.le_of_lt_succ hd1)) (fun e he => (hh2 e he).up (Nat.le_of_lt_succ hd2)) wx.2 wy.2 (hz _ (by simp))
    rw [cmpI_zero (hz (cmpI k1 k2) (by simp)), cmpI_zero (hz (cmpI n1 n2) (by simp)), cmpI_zero (hz (cmpI m1 m2) (by simp)), e4, ← wx.1, ← wy.1]
theorem undo_of {E : Nat} (hE : 1 ≤ E) {F P F' P' c x : List AV} (hF : NodeV 8 F) (hP : NodeV 8 P) (hc : NodeV E c) (hw : wkL c = c) (hx : applyS E F P c = some x)
    (key : ∀ mp, matchS E 8 F c true [] = (true, mp) → ∃ mp', matchS (8 + E) 8 F' (putS mp (nOf c) 8 P) true [] = (true, mp') ∧ putS mp' (nOf (putS mp (nOf c) 8 P)) 8 P' = c) : applyS (8 + E) F' P' x = some c := by
  have hn := applyS_node hE hF hP hc hx
  unfold applyS at hx
  split at hx
  · rename_i mp hm
    split at hx
    · cases hx
    · rename_i h0
      injection hx with hx
      obtain ⟨mp', h1, h2⟩ := key mp hm
      rw [hx] at h1 h2 h0
      unfold applyS
      rw [h1]
      simp only
      rw [h2, if_neg]
      intro h3
      have := cmpT_zero (8 + (8 + E)) c x (hc.up (by omega)) (hn.1.up (by omega)) hw hn.2 h3
      rw [this] at h0
      exact h0 (cmpT_self _ _)
  · cases hx
def nd (k n : Int) (b : Bool) (es : List (List AV)) : List AV := [.int .i64 k, .int .i64 n, .int .i64 0, .sl b es]
def ho (h : Int) : List AV := nd 28 h true []
def isN (e : List AV) : Prop := ∃ k n m b es, e = [.int .i64 k, .int .i64 n, .int .i64 m, .sl b es]
theorem isN_of {D : Nat} {e : List AV} (h : NodeV D e) : isN e := by
  cases h with
  | @mk _ d hd k n m b es hl hh => exact ⟨_, _, _, _, _, rfl⟩
theorem ho_m {E D : Nat} {h : Int} (h0 : 0 ≤ h) (h7 : h ≤ 7) {e : List AV} (he : isN e) (r : Bool) {mp : MP} (hf : afindI (keysM mp) h 0 = none) : matchS E (D + 1) (ho h) e r mp = (true, mp ++ [(h, e)]) := by
  obtain ⟨k, n, m, b, es, rfl⟩ := he
  rw [ho, nd, matchS_eq, if_pos rfl, if_neg (by omega), hf]
theorem nd_m {E D : Nat} {k n : Int} {pb : Bool} {ps : List (List AV)} (hk : k ≠ 28) (k' n' m' : Int) (b : Bool) (es : List (List AV)) (r : Bool) (mp : MP) : matchS E (D + 1) (nd k n pb ps) [.int .i64 k', .int .i64 n', .int .i64 m', .sl b es] r mp =
    if k = k' ∧ 0 = m' ∧ (n = n' ∨ (r = true ∧ n = -100)) then (if ps.length = es.length then eqS (fun p e mp => matchS E D p e false mp) ps es mp else (false, mp)) else (false, mp) := by
  rw [nd, matchS_eq, if_neg hk]
theorem nd_inv {E D F : Nat} {k n : Int} {pb : Bool} {ps : List (List AV)} (hk : k ≠ 28) {c : List AV} (hc : NodeV F c) (hw : wkL c = c) {r : Bool} {mp mp' : MP} (h : matchS E (D + 1) (nd k n pb ps) c r mp = (true, mp')) :
    ∃ n' es, c = nd k n' false es ∧ (n = n' ∨ (r = true ∧ n = -100)) ∧ ps.length = es.length ∧ eqS (fun p e mp => matchS E D p e false mp) ps es mp = (true, mp') ∧ ∀ e ∈ es, NodeV F e ∧ wkL e = e := by
  cases hc with
  | @mk _ d hd k' n' m' b es hl hh =>
  rw [nd_m hk] at h
  split at h
  · rename_i h1
    split at h
    · rename_i h2
      rw [wk_node] at hw
      simp only [List.cons.injEq, AV.sl.injEq, and_true, true_and] at hw
      obtain ⟨rfl, rfl, h3⟩ := h1
      obtain ⟨rfl, hw2⟩ := hw
      refine ⟨n', es, rfl, h3, h2, h, fun e he => ⟨(hh e he).up (Nat.le_of_lt hd), ?_⟩⟩
      obtain ⟨i, hi, rfl⟩ := List.mem_iff_getElem.1 he
      have := congrArg (fun l => l[i]?) hw2
      simpa [List.getElem?_eq_getElem hi] using this
    · cases h
  · cases h
theorem nd_fwd {E D : Nat} {k n n' : Int} {pb b : Bool} {ps es : List (List AV)} (hk : k ≠ 28) {r : Bool} (hn : n = n' ∨ (r = true ∧ n = -100)) (hl : ps.length = es.length) (mp : MP) : matchS E (D + 1) (nd k n pb ps) (nd k n' b es) r mp = eqS (fun p e mp => matchS E D p e false mp) ps es mp := by
  exact (nd_m (pb := pb) hk k n' 0 b es r mp).trans (by rw [if_pos ⟨rfl, rfl, hn⟩, if_pos hl])
theorem eqS_cons {f : List AV → List AV → MP → Bool × MP} {p e : List AV} {ps es : List (List AV)} {mp mp' : MP} (h : f p e mp = (true, mp')) : eqS f (p :: ps) (e :: es) mp = eqS f ps es mp' := by rw [eqS, h]
theorem eqS_inv {f : List AV → List AV → MP → Bool × MP} {p e : List AV} {ps es : List (List AV)} {mp mp' : MP} (h : eqS f (p :: ps) (e :: es) mp = (true, mp')) : ∃ m1, f p e mp = (true, m1) ∧ eqS f ps es m1 = (true, mp') := by
  rw [eqS] at h
  split at h
  · rename_i m1 h1; exact ⟨m1, h1, h⟩
  · cases h
theorem len1 {α : Type} {l : List α} (h : 1 = l.length) : ∃ a, l = [a] := by match l, h with | [a], _ => exact ⟨a, rfl⟩
theorem len2 {α : Type} {l : List α} (h : 2 = l.length) : ∃ a b, l = [a, b] := by match l, h with | [a, b], _ => exact ⟨a, b, rfl⟩
theorem len3 {α : Type} {l : List α} (h : 3 = l.length) : ∃ a b c, l = [a, b, c] := by match l, h with | [a, b, c], _ => exact ⟨a, b, c, rfl⟩
abbrev m2 (a b : List AV) : MP := [(0, a), (1, b)]
abbrev m3 (a b c : List AV) : MP := [(0, a), (1, b), (2, c)]
theorem f0 {E : Nat} {k n : Int} (hk : k ≠ 28) {b : Bool} : matchS E 8 (nd k n true []) (nd k n b []) true [] = (true, []) := by
  rw [nd_fwd (D := 7) hk (.inl (by rfl)) (by rfl)]; rfl
theorem i0 {E F : Nat} {k n : Int} (hk : k ≠ 28) (hn : n ≠ -100) {c : List AV} (hc : NodeV F c) (hw : wkL c = c) {mp : MP} (h : matchS E 8 (nd k n true []) c true [] = (true, mp)) : c = nd k n false [] := by
  obtain ⟨n', es, rfl, h1, h2, h3, h4⟩ := nd_inv (D := 7) hk hc hw h
  have : n = n' := h1.resolve_right fun h => hn h.2
  subst this
  rw [List.length_nil] at h2
  rw [List.length_eq_zero_iff.1 h2.symm]
theorem e2 {E D : Nat} {a b : List AV} (ha : isN a) (hb : isN b) : eqS (fun p e mp => matchS E (D + 1) p e false mp) [ho 0, ho 1] [a, b] [] = (true, m2 a b) := by
  rw [eqS_cons (ho_m (by decide) (by decide) ha false rfl), eqS_cons (ho_m (by decide) (by decide) hb false rfl)]; rfl
theorem e3 {E D : Nat} {a b c : List AV} (ha : isN a) (hb : isN b) (hc : isN c) : eqS (fun p e mp => matchS E (D + 1) p e false mp) [ho 0, ho 1, ho 2] [a, b, c] [] = (true, m3 a b c) := by
  rw [eqS_cons (ho_m (by decide) (by decide) ha false rfl), eqS_cons (ho_m (by decide) (by decide) hb false rfl), eqS_cons (ho_m (by decide) (by decide) hc false rfl)]; rfl
theorem f2 {E : Nat} {k n : Int} (hk : k ≠ 28) {b : Bool} {x y : List AV} (hx : isN x) (hy : isN y) : matchS E 8 (nd k n true [ho 0, ho 1]) (nd k n b [x, y]) true [] = (true, m2 x y) := by
  rw [nd_fwd (D := 7) hk (.inl (by rfl)) (by rfl)]; exact e2 hx hy
theorem i2 {E F : Nat} {k n : Int} (hk : k ≠ 28) (hn : n ≠ -100) {c : List AV} (hc : NodeV F c) (hw : wkL c = c) {mp : MP} (h : matchS E 8 (nd k n true [ho 0, ho 1]) c true [] = (true, mp)) :
    ∃ x y, c = nd k n false [x, y] ∧ mp = m2 x y ∧ isN x ∧ isN y ∧ wkL x = x ∧ wkL y = y := by
  obtain ⟨n', es, rfl, h1, h2, h3, h4⟩ := nd_inv (D := 7) hk hc hw h
  have : n = n' := h1.resolve_right fun h => hn h.2
  subst this
  obtain ⟨x, y, rfl⟩ := len2 h2
  have hx := h4 x (by simp); have hy := h4 y (by simp)
  rw [e2 (D := 6) (isN_of hx.1) (isN_of hy.1)] at h3
  injection h3 with _ h3
  exact ⟨x, y, rfl, h3.symm, isN_of hx.1, isN_of hy.1, hx.2, hy.2⟩
theorem f3 {E : Nat} {b : Bool} {x y z : List AV} (hx : isN x) (hy : isN y) (hz : isN z) : matchS E 8 (nd 17 0 true [ho 0, ho 1, ho 2]) (nd 17 0 b [x, y, z]) true [] = (true, m3 x y z) := by
  rw [nd_fwd (D := 7) (by decide) (.inl (by rfl)) (by rfl)]; exact e3 hx hy hz
theorem i3 {E F : Nat} {c : List AV} (hc : NodeV F c) (hw : wkL c = c) {mp : MP} (h : matchS E 8 (nd 17 0 true [ho 0, ho 1, ho 2]) c true [] = (true, mp)) :
    ∃ x y z, c = nd 17 0 false [x, y, z] ∧ mp = m3 x y z ∧ isN x ∧ isN y ∧ isN z ∧ wkL x = x ∧ wkL y = y ∧ wkL z = z := by
  obtain ⟨n', es, rfl, h1, h2, h3, h4⟩ := nd_inv (D := 7) (by decide) hc hw h
  have : (0 : Int) = n' := h1.resolve_right fun h => absurd h.2 (by decide)
  subst this
  obtain ⟨x, y, z, rfl⟩ := len3 h2
  have hx := h4 x (by simp); have hy := h4 y (by simp); have hz := h4 z (by simp)
  rw [e3 (D := 6) (isN_of hx.1) (isN_of hy.1) (isN_of hz.1)] at h3
  injection h3 with _ h3
  exact ⟨x, y, z, rfl, h3.symm, isN_of hx.1, isN_of hy.1, isN_of hz.1, hx.2, hy.2, hz.2⟩
theorem g1 {E D : Nat} {k n : Int} (hk : k ≠ 28) {b : Bool} {x : List AV} (hx : isN x) (r : Bool) : matchS E (D + 2) (nd k n true [ho 0]) (nd k n b [x]) r [] = (true, [(0, x)]) := by
  rw [nd_fwd (D := D + 1) hk (.inl (by rfl)) (by rfl), eqS_cons (ho_m (by decide) (by decide) hx false rfl)]; rfl
theorem j1 {E D F : Nat} {k n : Int} (hk : k ≠ 28) {c : List AV} (hc : NodeV F c) (hw : wkL c = c) {r : Bool} {mp : MP} (h : matchS E (D + 2) (nd k n true [ho 0]) c r [] = (true, mp)) : ∃ n' x, c = nd k n' false [x] ∧ (n = n' ∨ (r = true ∧ n = -100)) ∧ mp = [(0, x)] ∧ isN x ∧ wkL x = x := by
  obtain ⟨n', es, rfl, h1, h2, h3, h4⟩ := nd_inv (D := D + 1) hk hc hw h
  obtain ⟨x, rfl⟩ := len1 h2
  have hx := h4 x (by simp)
  rw [eqS_cons (ho_m (by decide) (by decide) (isN_of hx.1) false rfl)] at h3
  injection h3 with _ h3
  exact ⟨n', x, rfl, h1, h3.symm, isN_of hx.1, hx.2⟩
theorem f3n {E : Nat} {b b' : Bool} {x y z : List AV} (hx : isN x) (hy : isN y) (hz : isN z) : matchS E 8 (nd 17 0 true [nd 10 0 true [ho 0], ho 1, ho 2]) (nd 17 0 b [nd 10 0 b' [x], y, z]) true [] = (true, m3 x y z) := by
  rw [nd_fwd (D := 7) (by decide) (.inl (by rfl)) (by rfl), eqS_cons (g1 (D := 5) (by decide) hx false), eqS_cons (ho_m (by decide) (by decide) hy false rfl), eqS_cons (ho_m (by decide) (by decide) hz false rfl)]; rfl
theorem i3n {E F : Nat} {c : List AV} (hc : NodeV F c) (hw : wkL c = c) {mp : MP} (h : matchS E 8 (nd 17 0 true [nd 10 0 true [ho 0], ho 1, ho 2]) c true [] = (true, mp)) :
    ∃ x y z, c = nd 17 0 false [nd 10 0 false [x], y, z] ∧ mp = m3 x y z ∧ isN x ∧ isN y ∧ isN z ∧ wkL x = x ∧ wkL y = y ∧ wkL z = z := by
  obtain ⟨n', es, rfl, h1, h2, h3, h4⟩ := nd_inv (D := 7) (by decide) hc hw h
  have : (0 : Int) = n' := h1.resolve_right fun h => absurd h.2 (by decide)
  subst this
  obtain ⟨w, y, z, rfl⟩ := len3 h2
  have hx := h4 w (by simp); have hy := h4 y (by simp); have hz := h4 z (by simp)
  obtain ⟨m1, h5, h6⟩ := eqS_inv h3
  obtain ⟨n1, x, rfl, h7, rfl, h8, h9⟩ := j1 (D := 5) (by decide) hx.1 hx.2 h5
  have : (0 : Int) = n1 := h7.resolve_right fun h => nomatch h.1
  subst this
  rw [eqS_cons (ho_m (by decide) (by decide) (isN_of hy.1) false rfl), eqS_cons (ho_m (by decide) (by decide) (isN_of hz.1) false rfl)] at h6
  injection h6 with _ h6
  exact ⟨x, y, z, rfl, h6.symm, h8, isN_of hy.1, isN_of hz.1, h9, hy.2, hz.2⟩
theorem f1 {E : Nat} {n : Int} {b : Bool} {x : List AV} (hx : isN x) : matchS E 8 (nd 7 (-100) true [ho 0]) (nd 7 n b [x]) true [] = (true, [(0, x)]) := by
  rw [nd_fwd (D := 7) (by decide) (.inr ⟨rfl, rfl⟩) (by rfl), eqS_cons (ho_m (by decide) (by decide) hx false rfl)]; rfl
def one4 (b : Bool) : List AV := nd 4 1 b []
theorem g1m {E D : Nat} {b b' : Bool} {x : List AV} (hx : isN x) (r : Bool) : matchS E (D + 2) (nd 9 0 true [ho 0, one4 true]) (nd 9 0 b [x, one4 b']) r [] = (true, [(0, x)]) := by
  rw [nd_fwd (D := D + 1) (by decide) (.inl (by rfl)) (by rfl), eqS_cons (ho_m (by decide) (by decide) hx false rfl), eqS_cons (mp' := [(0, x)])]
  · rfl
  · rw [one4, one4, nd_fwd (by decide) (.inl (by rfl)) (by rfl)]; rfl
theorem j1m {E D F : Nat} {c : List AV} (hc : NodeV F c) (hw : wkL c = c) {mp : MP} (h : matchS E (D + 2) (nd 9 0 true [ho 0, one4 true]) c false [] = (true, mp)) : ∃ x, c = nd 9 0 false [x, one4 false] ∧ mp = [(0, x)] ∧ isN x ∧ wkL x = x := by
  obtain ⟨n', es, rfl, h1, h2, h3, h4⟩ := nd_inv (D := D + 1) (by decide) hc hw h
  have : (0 : Int) = n' := h1.resolve_right fun h => nomatch h.1
  subst this
  obtain ⟨x, y, rfl⟩ := len2 h2
  have hx := h4 x (by simp); have hy := h4 y (by simp)
  rw [eqS_cons (ho_m (by decide) (by decide) (isN_of hx.1) false rfl)] at h3
  obtain ⟨m1, h5, h6⟩ := eqS_inv h3
  rw [one4] at h5
  obtain ⟨n1, es1, rfl, h7, h8, h9, -⟩ := nd_inv (D := D) (by decide) hy.1 hy.2 h5
  have : (1 : Int) = n1 := h7.resolve_right fun h => nomatch h.1
  subst this
  rw [List.length_nil] at h8
  obtain rfl := List.length_eq_zero_iff.1 h8.symm
  injection h9 with _ h9
  subst h9
  injection h6 with _ h6
  exact ⟨x, rfl, h6.symm, isN_of hx.1, hx.2⟩
theorem f1m {E : Nat} {n : Int} {b b1 b2 : Bool} {x : List AV} (hx : isN x) : matchS E 8 (nd 7 (-100) true [nd 9 0 true [ho 0, one4 true]]) (nd 7 n b [nd 9 0 b1 [x, one4 b2]]) true [] = (true, [(0, x)]) := by
  rw [nd_fwd (D := 7) (by decide) (.inr ⟨rfl, rfl⟩) (by rfl), eqS_cons (g1m (D := 5) hx false)]; rfl
theorem i1m {E F : Nat} {c : List AV} (hc : NodeV F c) (hw : wkL c = c) {mp : MP} (h : matchS E 8 (nd 7 (-100) true [nd 9 0 true [ho 0, one4 true]]) c true [] = (true, mp)) : ∃ n x, c = nd 7 n false [nd 9 0 false [x, one4 false]] ∧ mp = [(0, x)] ∧ isN x ∧ wkL x = x := by
  obtain ⟨n', es, rfl, h1, h2, h3, h4⟩ := nd_inv (D := 7) (by decide) hc hw h
  obtain ⟨w, rfl⟩ := len1 h2
  have hx := h4 w (by simp)
  obtain ⟨m1, h5, h6⟩ := eqS_inv h3
  obtain ⟨x, rfl, rfl, h7, h8⟩ := j1m (D := 5) hx.1 hx.2 h5
  injection h6 with _ h6
  exact ⟨n', x, rfl, h6.symm, h7, h8⟩
theorem p0 {mp : MP} {nn k n : Int} (hk : k ≠ 28) (hn : n ≠ -100) : putS mp nn 8 (nd k n true []) = nd k n false [] := by
  rw [nd, putS, if_neg hk, if_neg hn]; rfl
theorem pho {mp : MP} {nn h : Int} {D : Nat} {e : List AV} (he : lookM mp h = e) (hw : wkL e = e) : putS mp nn (D + 1) (ho h) = e := by
  rw [ho, nd, putS, if_pos rfl, he, hw]
theorem pnd {mp : MP} {nn k n n' : Int} {D : Nat} {b : Bool} {ps es : List (List AV)} (hk : k ≠ 28) (hn : (if n = -100 then nn else n) = n') (h : ps.map (putS mp nn D) = es) : putS mp nn (D + 1) (nd k n b ps) = nd k n' false es := by
  rw [nd, putS, if_neg hk, hn, h]; rfl
theorem leaf_undo {E : Nat} (hE : 1 ≤ E) {k n n' : Int} (hk : k ≠ 28) (hn : n ≠ -100) (hn' : n' ≠ -100) {c x : List AV} (hc : NodeV E c) (hw : wkL c = c) (h8 : NodeV 8 (nd k n true [])) (h8' : NodeV 8 (nd k n' true [])) (h : applyS E (nd k n true []) (nd k n' true []) c = some x) : applyS (8 + E) (nd k n' true []) (nd k n true []) x = some c :=
  undo_of hE h8 h8' hc hw h fun mp hm => by
    obtain rfl := i0 hk hn hc hw hm
    rw [p0 hk hn']
    exact ⟨_, f0 hk, p0 hk hn⟩
theorem bin_undo {E : Nat} (hE : 1 ≤ E) {n n' : Int} (hn : n ≠ -100) (hn' : n' ≠ -100) {c x : List AV} (hc : NodeV E c) (hw : wkL c = c) (h8 : NodeV 8 (nd 9 n true [ho 0, ho 1])) (h8' : NodeV 8 (nd 9 n' true [ho 0, ho 1])) (h : applyS E (nd 9 n true [ho 0, ho 1]) (nd 9 n' true [ho 0, ho 1]) c = some x) : applyS (8 + E) (nd 9 n' true [ho 0, ho 1]) (nd 9 n true [ho 0, ho 1]) x = some c :=
  undo_of hE h8 h8' hc hw h fun mp hm => by
    obtain ⟨u, v, rfl, rfl, hu, hv, wu, wv⟩ := i2 (by decide) hn hc hw hm
    have e : ∀ nn n, n ≠ -100 → putS (m2 u v) nn 8 (nd 9 n true [ho 0, ho 1]) = nd 9 n false [u, v] := fun nn n hn => pnd (D := 7) (by decide) (if_neg hn) (by rw [List.map_cons, List.map_cons, pho (D := 6) (e := u) rfl wu, pho (D := 6) (e := v) rfl wv]; rfl)
    rw [e _ _ hn']
    exact ⟨_, f2 (by decide) hu hv, e _ _ hn⟩
theorem turn_undo {E : Nat} (hE : 1 ≤ E) {c x : List AV} (hc : NodeV E c) (hw : wkL c = c) (h8 : NodeV 8 (nd 9 1 true [ho 0, ho 1])) (h8' : NodeV 8 (nd 9 1 true [ho 1, ho 0])) (h : applyS E (nd 9 1 true [ho 0, ho 1]) (nd 9 1 true [ho 1, ho 0]) c = some x) : applyS (8 + E) (nd 9 1 true [ho 0, ho 1]) (nd 9 1 true [ho 1, ho 0]) x = some c :=
  undo_of hE h8 h8' hc hw h fun mp hm => by
    obtain ⟨u, v, rfl, rfl, hu, hv, wu, wv⟩ := i2 (by decide) (by decide) hc hw hm
    have e : ∀ nn (u v : List AV), wkL u = u → wkL v = v → putS (m2 u v) nn 8 (nd 9 1 true [ho 1, ho 0]) = nd 9 1 false [v, u] := fun nn u v wu wv => pnd (D := 7) (by decide) (if_neg (by decide)) (by rw [List.map_cons, List.map_cons, pho (D := 6) (e := v) rfl wv, pho (D := 6) (e := u) rfl wu]; rfl)
    rw [e _ _ _ wu wv]
    exact ⟨_, f2 (by decide) hv hu, e _ _ _ wv wu⟩
theorem swap_undo {E : Nat} (hE : 1 ≤ E) {c x : List AV} (hc : NodeV E c) (hw : wkL c = c) (h8 : NodeV 8 (nd 17 0 true [ho 0, ho 1, ho 2])) (h8' : NodeV 8 (nd 17 0 true [ho 0, ho 2, ho 1])) (h : applyS E (nd 17 0 true [ho 0, ho 1, ho 2]) (nd 17 0 true [ho 0, ho 2, ho 1]) c = some x) : applyS (8 + E) (nd 17 0 true [ho 0, ho 1, ho 2]) (nd 17 0 true [ho 0, ho 2, ho 1]) x = some c :=
  undo_of hE h8 h8' hc hw h fun mp hm => by
    obtain ⟨u, v, w, rfl, rfl, hu, hv, hz, wu, wv, wz⟩ := i3 hc hw hm
    have e : ∀ nn (u v w : List AV), wkL u = u → wkL v = v → wkL w = w → putS (m3 u v w) nn 8 (nd 17 0 true [ho 0, ho 2, ho 1]) = nd 17 0 false [u, w, v] := fun nn u v w wu wv wz => pnd (D := 7) (by decide) (if_neg (by decide)) (by rw [List.map_cons, List.map_cons, List.map_cons, pho (D := 6) (e := u) rfl wu, pho (D := 6) (e := w) rfl wz, pho (D := 6) (e := v) rfl wv]; rfl)
    rw [e _ _ _ _ wu wv wz]
    exact ⟨_, f3 hu hz hv, e _ _ _ _ wu wz wv⟩
theorem put_c {u v w : List AV} (wu : wkL u = u) (wv : wkL v = v) (wz : wkL w = w) (nn : Int) : putS (m3 u v w) nn 8 (nd 17 0 true [ho 0, ho 1, ho 2]) = nd 17 0 false [u, v, w] := pnd (D := 7) (by decide) (if_neg (by decide)) (by rw [List.map_cons, List.map_cons, List.map_cons, pho (D := 6) (e := u) rfl wu, pho (D := 6) (e := v) rfl wv, pho (D := 6) (e := w) rfl wz]; rfl)
theorem put_n {u v w : List AV} (wu : wkL u = u) (wv : wkL v = v) (wz : wkL w = w) (nn : Int) : putS (m3 u v w) nn 8 (nd 17 0 true [nd 10 0 true [ho 0], ho 1, ho 2]) = nd 17 0 false [nd 10 0 false [u], v, w] := pnd (D := 7) (by decide) (if_neg (by decide)) (by rw [List.map_cons, List.map_cons, List.map_cons, pnd (D := 6) (es := [u]) (n' := 0) (by decide) (if_neg (by decide)) (by rw [List.map_cons, pho (D := 5) (e := u) rfl wu]; rfl), pho (D := 6) (e := v) rfl wv, pho (D := 6) (e := w) rfl wz]; rfl)
theorem neg_undo {E : Nat} (hE : 1 ≤ E) {c x : List AV} (hc : NodeV E c) (hw : wkL c = c) (h8 : NodeV 8 (nd 17 0 true [ho 0, ho 1, ho 2])) (h8' : NodeV 8 (nd 17 0 true [nd 10 0 true [ho 0], ho 1, ho 2])) (h : applyS E (nd 17 0 true [ho 0, ho 1, ho 2]) (nd 17 0 true [nd 10 0 true [ho 0], ho 1, ho 2]) c = some x) : applyS (8 + E) (nd 17 0 true [nd 10 0 true [ho 0], ho 1, ho 2]) (nd 17 0 true [ho 0, ho 1, ho 2]) x = some c :=
  undo_of hE h8 h8' hc hw h fun mp hm => by
    obtain ⟨u, v, w, rfl, rfl, hu, hv, hz, wu, wv, wz⟩ := i3 hc hw hm
    rw [put_n wu wv wz]
    exact ⟨_, f3n hu hv hz, put_c wu wv wz _⟩
theorem aff_undo {E : Nat} (hE : 1 ≤ E) {c x : List AV} (hc : NodeV E c) (hw : wkL c = c) (h8 : NodeV 8 (nd 17 0 true [ho 0, ho 1, ho 2])) (h8' : NodeV 8 (nd 17 0 true [nd 10 0 true [ho 0], ho 1, ho 2])) (h : applyS E (nd 17 0 true [nd 10 0 true [ho 0], ho 1, ho 2]) (nd 17 0 true [ho 0, ho 1, ho 2]) c = some x) : applyS (8 + E) (nd 17 0 true [ho 0, ho 1, ho 2]) (nd 17 0 true [nd 10 0 true [ho 0], ho 1, ho 2]) x = some c :=
  undo_of hE h8' h8 hc hw h fun mp hm => by
    obtain ⟨u, v, w, rfl, rfl, hu, hv, hz, wu, wv, wz⟩ := i3n hc hw hm
    rw [put_c wu wv wz]
    exact ⟨_, f3 hu hv hz, put_n wu wv wz _⟩
theorem put_e {u : List AV} (wu : wkL u = u) (nn : Int) : putS [(0, u)] nn 8 (nd 7 (-100) true [ho 0]) = nd 7 nn false [u] := pnd (D := 7) (by decide) (if_pos rfl) (by rw [List.map_cons, pho (D := 6) (e := u) rfl wu]; rfl)
theorem put_m {u : List AV} (wu : wkL u = u) (nn : Int) : putS [(0, u)] nn 8 (nd 7 (-100) true [nd 9 0 true [ho 0, one4 true]]) = nd 7 nn false [nd 9 0 false [u, one4 false]] := pnd (D := 7) (by decide) (if_pos rfl) (by rw [List.map_cons, pnd (D := 6) (es := [u, one4 false]) (n' := 0) (by decide) (if_neg (by decide)) (by rw [List.map_cons, pho (D := 5) (e := u) rfl wu]; rfl)]; rfl)
theorem next_undo {E : Nat} (hE : 1 ≤ E) {c x : List AV} (hc : NodeV E c) (hw : wkL c = c) (h8 : NodeV 8 (nd 7 (-100) true [ho 0])) (h8' : NodeV 8 (nd 7 (-100) true [nd 9 0 true [ho 0, one4 true]])) (h : applyS E (nd 7 (-100) true [ho 0]) (nd 7 (-100) true [nd 9 0 true [ho 0, one4 true]]) c = some x) : applyS (8 + E) (nd 7 (-100) true [nd 9 0 true [ho 0, one4 true]]) (nd 7 (-100) true [ho 0]) x = some c :=
  undo_of hE h8 h8' hc hw h fun mp hm => by
    obtain ⟨n', u, rfl, _, rfl, hu, wu⟩ := j1 (D := 6) (by decide) hc hw hm
    rw [put_m wu]
    exact ⟨_, f1m hu, put_e wu _⟩
theorem back_undo {E : Nat} (hE : 1 ≤ E) {c x : List AV} (hc : NodeV E c) (hw : wkL c = c) (h8 : NodeV 8 (nd 7 (-100) true [ho 0])) (h8' : NodeV 8 (nd 7 (-100) true [nd 9 0 true [ho 0, one4 true]])) (h : applyS E (nd 7 (-100) true [nd 9 0 true [ho 0, one4 true]]) (nd 7 (-100) true [ho 0]) c = some x) : applyS (8 + E) (nd 7 (-100) true [ho 0]) (nd 7 (-100) true [nd 9 0 true [ho 0, one4 true]]) x = some c :=
  undo_of hE h8' h8 hc hw h fun mp hm => by
    obtain ⟨n', u, rfl, rfl, hu, wu⟩ := i1m hc hw hm
    rw [put_e wu]
    exact ⟨_, f1 hu, put_m wu _⟩
end Go.Proofs.YtpdibmopbpcfdaaDoor
