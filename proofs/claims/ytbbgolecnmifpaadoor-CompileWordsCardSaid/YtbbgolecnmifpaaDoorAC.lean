/-
  A RUN BY RECKONING.
-/
import Derived.Test.YtbbgolecnmifpaaDoorAB
/-
  THE ABSTRACT MACHINE, 28: a run by reckoning: where all is known, the machine is a program that Lean's kernel runs.
-/
set_option linter.unusedVariables false
set_option linter.unusedSimpArgs false
namespace Go.AM

/-- What a call answers: its value, and the rows that it may have touched, as they are behind it. -/
abbrev CallX := FuncId → List AV → List ARow → Option (AV × List (Nat × ARow))

def dstB (n : Nat) : Option Tmp → Bool
  | some t => decide (t < n)
  | none => true
theorem dstB_ok {n : Nat} {d : Option Tmp} (h : dstB n d = true) : dstOK n d := by
  cases d with
  | none => trivial
  | some t => simpa [dstB, dstOK] using h
def isNext : Op → Bool
  | .next _ _ => true
  | _ => false

mutual
/-- Are two abstract values one (as far as this looks)? -/
def eqA : AV → AV → Bool
  | .undef, .undef => true
  | .bool a, .bool b => decide (a = b)
  | .int k n, .int k' n' => decide (k = k') && decide (n = n')
  | .agg a, .agg b => eqL a b
  | .tup a, .tup b => eqL a b
  | .sl f a, .sl f' b => decide (f = f') && eqE a b
  | .osl a b c d e f, .osl a' b' c' d' e' f' => decide (a = a') && (decide (b = b') && (decide (c = c') && (decide (d = d') && (decide (e = e') && decide (f = f')))))
  | .ptr a b c, .ptr a' b' c' => decide (a = a') && (decide (b = b') && decide (c = c'))
  | .imm a, .imm b => eqL a b
  | .nilptr, .nilptr => true
  | .nilfn, .nilfn => true
  | .niliface, .niliface => true
  | _, _ => false
def eqL : List AV → List AV → Bool
  | [], [] => true
  | x :: a, y :: b => eqA x y && eqL a b
  | _, _ => false
def eqE : List (List AV) → List (List AV) → Bool
  | [], [] => true
  | x :: a, y :: b => eqL x y && eqE a b
  | _, _ => false
end
mutual
theorem eqA_ok : ∀ a b : AV, eqA a b = true → a = b
  | .undef, b, h => by cases b <;> simp [eqA] at h ⊢
  | .bool a, b, h => by cases b <;> simp [eqA] at h ⊢ <;> exact h
  | .int k n, b, h => by cases b <;> simp [eqA] at h ⊢ <;> exact h
  | .agg a, b, h => by cases b <;> simp [eqA] at h ⊢ <;> exact eqL_ok _ _ h
  | .tup a, b, h => by cases b <;> simp [eqA] at h ⊢ <;> exact eqL_ok _ _ h
  | .sl f a, b, h => by cases b <;> simp [eqA] at h ⊢ <;> exact ⟨h.1, eqE_ok _ _ h.2⟩
  | .osl _ _ _ _ _ _, b, h => by cases b <;> simp [eqA] at h ⊢ <;> exact h
  | .ptr _ _ _, b, h => by cases b <;> simp [eqA] at h ⊢ <;> exact h
  | .imm a, b, h => by cases b <;> simp [eqA] at h ⊢ <;> exact eqL_ok _ _ h
  | .nilptr, b, h => by cases b <;> simp [eqA] at h ⊢
  | .nilfn, b, h => by cases b <;> simp [eqA] at h ⊢
  | .niliface, b, h => by cases b <;> simp [eqA] at h ⊢
  | .str _, b, h => by cases b <;> simp [eqA] at h
  | .mp _ _, b, h => by cases b <;> simp [eqA] at h
  | .omp _, b, h => by cases b <;> simp [eqA] at h
  | .fn _ _ _, b, h => by cases b <;> simp [eqA] at h
  | .iface _ _, b, h => by cases b <;> simp [eqA] at h
  | .anyb, b, h => by cases b <;> simp [eqA] at h
theorem eqL_ok : ∀ a b : List AV, eqL a b = true → a = b
  | [], b, h => by cases b <;> simp [eqL] at h ⊢
  | x :: a, b, h => by
    cases b with
    | nil => simp [eqL] at h
    | cons y b =>
      simp only [eqL, Bool.and_eq_true] at h
      rw [eqA_ok x y h.1, eqL_ok a b h.2]
theorem eqE_ok : ∀ a b : List (List AV), eqE a b = true → a = b
  | [], b, h => by cases b <;> simp [eqE] at h ⊢
  | x :: a, b, h => by
    cases b with
    | nil => simp [eqE] at h
    | cons y b =>
      simp only [eqE, Bool.and_eq_true] at h
      rw [eqL_ok x y h.1, eqE_ok a b h.2]
end
def eqRow : ARow → ARow → Bool
  | .none, .none => true
  | .dead, .dead => true
  | .cells v c, .cells v' c' => decide (v = v') && eqL c c'
  | _, _ => false
theorem eqRow_ok {a b : ARow} (h : eqRow a b = true) : a = b := by
  cases a <;> cases b <;> simp [eqRow] at h ⊢
  exact ⟨h.1, eqL_ok _ _ h.2⟩
def nodupB : List Nat → Bool
  | [] => true
  | x :: l => !l.contains x && nodupB l
theorem nodupB_ok : ∀ {l : List Nat}, nodupB l = true → l.Nodup
  | [], _ => List.nodup_nil
  | x :: l, h => by
    simp [nodupB] at h
    exact List.nodup_cons.2 ⟨h.1, nodupB_ok h.2⟩
theorem upd_filter (c : Nat × ARow → Bool) : ∀ (wr : List (Nat × ARow)) (R : Nat → ARow), (∀ p ∈ wr, c p = false → R p.1 = p.2) → (wr.map (·.1)).Nodup → upd R (wr.filter c) = upd R wr
  | [], _, _, _ => rfl
  | (r, x) :: l, R, h, hn => by
    rw [List.map_cons, List.nodup_cons] at hn
    have e : upd R ((r, x) :: l) = upd (fun q => if q = r then x else R q) l := rfl
    cases hcx : c (r, x) with
    | true =>
      rw [List.filter_cons_of_pos hcx, e]
      have e2 : upd R ((r, x) :: l.filter c) = upd (fun q => if q = r then x else R q) (l.filter c) := rfl
      rw [e2]
      refine upd_filter c l _ (fun p hp hc => ?_) hn.2
      have : p.1 ≠ r := fun hpr => hn.1 (hpr ▸ List.mem_map.2 ⟨p, hp, rfl⟩)
      simp only [if_neg this]
      exact h p (List.mem_cons_of_mem _ hp) hc
    | false =>
      rw [List.filter_cons_of_neg (by simp [hcx]), e]
      have hR : (fun q => if q = r then x else R q) = R := by
        funext q
        by_cases hq : q = r
        · subst hq; simp only [if_true]; exact (h (q, x) (List.mem_cons_self ..) hcx).symm
        · simp only [if_neg hq]
      rw [hR]
      exact upd_filter c l R (fun p hp hc => h p (List.mem_cons_of_mem _ hp) hc) hn.2
theorem callC_filter {P : Program} {G : Nat → Option (List AV)} {f : FuncId} {args : List AV} {rows : Nat → ARow} {v : AV} {wr : List (Nat × ARow)} (h : CallC P G f args rows (wr.map (·.1)) ⟨v, wr⟩) (hn : (wr.map (·.1)).Nodup) (c : Nat × ARow → Bool)
    (hc : ∀ p ∈ wr, c p = false → rows p.1 = p.2) : CallC P G f args rows (wr.map (·.1)) ⟨v, wr.filter c⟩ := by
  obtain ⟨h1, h2, h3⟩ := h
  refine ⟨h1, fun p hp => h2 p (List.mem_filter.1 hp).1, fun E us i hr hl => (h3 E us i hr hl).mono fun e w' ⟨v', E', a1, a2, a3, a4, a5, a6⟩ => ⟨v', E', a1, a2, a3, a4, a5, ?_⟩⟩
  rw [a6]
  refine (upd_filter c wr E.rows (fun p hp hcp => ?_) hn).symm
  rw [hr p.1 (List.mem_map.2 ⟨p, hp, rfl⟩)]
  exact hc p hp hcp

section
variable (P : Program) (G : Nat → Option (List AV)) (cx : CallX)
def opX (n : Nat) (p : POp) (m : Option Acc) (s : AS) : Option (Option Acc × AS) :=
  if dstB n p.1 = true ∧ isNext p.2.1 = false then
    match wantS p.2.2 s with
    | some false => some (adv m [] [], s.put p.1 (.tup []))
    | some true => match callOf p.2.1 (evA G s.get) with
      | some (f, args) => match cx f args s.h with
        | some (v, wr) => if nodupB (wr.map (·.1)) = true then
            some (adv m (wr.map (·.1)) ((wr.filter fun q => !eqRow (s.row q.1) q.2).map (·.1)), (s.wr (wr.filter fun q => !eqRow (s.row q.1) q.2)).put p.1 v) else none
        | none => none
      | none => match aop P p.2.1 (evA G s.get) s.row s.h.length with
        | some eff => some (adv m (fpA p.2.1 (evA G s.get)) (eff.wr.map (·.1)), (s.wr eff.wr).put p.1 eff.val)
        | none => none
    | none => none
  else none
def rgnX (n : Nat) : List POp → Option Acc → AS → Option (Option Acc × AS)
  | [], m, s => some (m, s)
  | p :: rest, m, s => match opX P G cx n p m s with
    | some (m', s') => rgnX n rest m' s'
    | none => none
def iterX (f : AS → Option (Exit × AS)) : Nat → AS → Option (Exit × AS)
  | 0, _ => none
  | n + 1, s => match f s with
    | some (.normal, s') => iterX f n s'
    | r => r
def exX (N n : Nat) : Code → AS → Option (Exit × AS)
  | .skip, s => some (.normal, s)
  | .region _ ops false, s => match rgnX P G cx n (strip ops) none s with
    | some (_, s') => some (.normal, s')
    | none => none
  | .region _ ops true, s => if slotsOK ops = true then match rgnX P G cx n (strip ops) (some []) s with
      | some (some acc, s') => if (noWr acc || rowsOK ops acc) = true then some (.normal, s') else none
      | _ => none
    else none
  | .seq x y, s => match exX N n x s with
    | some (.normal, s') => exX N n y s'
    | r => r
  | .cond c x y, s => match evA G s.get c with
    | .bool true => exX N n x s
    | .bool false => exX N n y s
    | _ => none
  | .block id c, s => match exX N n c s with
    | some (.exit j, s') => if j = id then some (.normal, s') else some (.exit j, s')
    | r => r
  | .loop c, s => iterX (exX N n c) N s
  | .exit id, s => some (.exit id, s)
  | .ret, s => some (.ret, s)
  | _, _ => none
end

/-- The answers are right. -/
def CallOK (P : Program) (G : Nat → Option (List AV)) (cx : CallX) : Prop := ∀ f args h v wr, cx f args h = some (v, wr) → CallC P G f args (fun r => h.getD r .none) (wr.map (·.1)) ⟨v, wr⟩

section
variable {P : Program} {G : Nat → Option (List AV)} {cx : CallX} (hc : CallOK P G cx)
theorem opX_ok {n : Nat} {K : Option Acc → AS → Prop} {p : POp} {rest : List POp} {m m' : Option Acc} {s s' : AS} (h : opX P G cx n p m s = some (m', s')) (hk : rgnS P G n K rest m' s') (hc : CallOK P G cx) : rgnS P G n K (p :: rest) m s := by
  unfold opX at h
  split at h
  · rename_i hd
    refine ⟨dstB_ok hd.1, ?_⟩
    split at h
    · rename_i hw
      injection h with h
      obtain ⟨rfl, rfl⟩ := Prod.mk.inj h
      simp only [hw]
      exact hk
    · rename_i hw
      simp only [hw]
      have hop : ∀ KE : Eff → Option Acc → Prop, (∃ eff fp, OpC P G p.2.1 (evA G s.get) s.row s.h.length fp eff ∧ KE eff (adv m fp (eff.wr.map (·.1)))) → opR P G p.2.1 s m KE := by
        intro KE hKE
        unfold opR
        split
        · rename_i x hx
          rw [hx] at hd
          simp [isNext] at hd
        · exact hKE
      refine hop _ ?_
      split at h
      · rename_i f args hcall
        split at h
        · rename_i v wr hcx
          split at h
          case isFalse => cases h
          rename_i hnd
          injection h with h
          obtain ⟨rfl, rfl⟩ := Prod.mk.inj h
          refine ⟨⟨v, wr.filter fun q => !eqRow (s.row q.1) q.2⟩, wr.map (·.1), ?_, hk⟩
          unfold OpC
          rw [hcall]
          exact callC_filter (hc _ _ _ _ _ hcx) (nodupB_ok hnd) _ fun q _ hq => by
            have h2 : eqRow (s.row q.1) q.2 = true := by simpa using hq
            exact eqRow_ok h2
        · cases h
      · rename_i hcall
        split at h
        · rename_i eff ha
          injection h with h
          obtain ⟨rfl, rfl⟩ := Prod.mk.inj h
          refine ⟨eff, _, ?_, hk⟩
          unfold OpC
          rw [hcall]
          exact ⟨ha, rfl⟩
        · cases h
    · cases h
  · cases h
theorem rgnX_ok {n : Nat} {K : Option Acc → AS → Prop} (hc : CallOK P G cx) : ∀ (l : List POp) (m m' : Option Acc) (s s' : AS), rgnX P G cx n l m s = some (m', s') → K m' s' → rgnS P G n K l m s
  | [], m, m', s, s', h, hk => by
    simp only [rgnX, Option.some.injEq, Prod.mk.injEq] at h
    obtain ⟨rfl, rfl⟩ := h
    exact hk
  | p :: rest, m, m', s, s', h, hk => by
    simp only [rgnX] at h
    split at h
    · rename_i m1 s1 h1
      exact opX_ok h1 (rgnX_ok hc rest m1 m' s1 s' h hk) hc
    · cases h
theorem awp_loop_run {n k : Nat} {c : Code} {f : AS → Option (Exit × AS)} (hf : ∀ (s : AS) (e : Exit) (s' : AS) (Q : Exit → AS → Prop), f s = some (e, s') → Q e s' → AWp P G n k c Q s) (N : Nat) (s : AS) (e : Exit) (s' : AS) (Q : Exit → AS → Prop) (h : iterX f N s = some (e, s')) (hq : Q e s') : AWp P G n k (.loop c) Q s := fun E a i => by
  refine wp_mono (Q := fun e' a' w' => ∃ s2 E', w' = E'.w ∧ ExtK k E E' ∧ Sim G n s2 E' a' ∧ Q e' s2) ?_ ?_
  · refine wp_loop_ghost (fun m a' w' => ∃ s2 E', iterX f m s2 = some (e, s') ∧ w' = E'.w ∧ ExtK k E E' ∧ Sim G n s2 E' a') N ⟨s, E, h, rfl, (Ext.refl _).toK k, i⟩ ?_
    rintro m a' w' ⟨s2, E', hm, rfl, hx, hs⟩
    cases m with
    | zero => simp [iterX] at hm
    | succ m =>
      simp only [iterX] at hm
      cases hr : f s2 with
      | none => rw [hr] at hm; cases hm
      | some r =>
        obtain ⟨e1, s3⟩ := r
        rw [hr] at hm
        refine wp_mono (hf s2 e1 s3 (fun e' s4 => e' = e1 ∧ s4 = s3) hr ⟨rfl, rfl⟩ E' a' hs) ?_
        rintro e2 a'' w'' ⟨s4, E'', rfl, h2, h3, h4, h5⟩
        subst h4 h5
        cases e2 with
        | normal => exact ⟨m, Nat.lt_succ_self m, s4, E'', hm, rfl, hx.trans h2, h3⟩
        | exit id => simp only [Option.some.injEq, Prod.mk.injEq] at hm; obtain ⟨rfl, rfl⟩ := hm; exact ⟨s4, E'', rfl, hx.trans h2, h3, hq⟩
        | goto l => simp only [Option.some.injEq, Prod.mk.injEq] at hm; obtain ⟨rfl, rfl⟩ := hm; exact ⟨s4, E'', rfl, hx.trans h2, h3, hq⟩
        | ret => simp only [Option.some.injEq, Prod.mk.injEq] at hm; obtain ⟨rfl, rfl⟩ := hm; exact ⟨s4, E'', rfl, hx.trans h2, h3, hq⟩
        | panic ch => simp only [Option.some.injEq, Prod.mk.injEq] at hm; obtain ⟨rfl, rfl⟩ := hm; exact ⟨s4, E'', rfl, hx.trans h2, h3, hq⟩
        | outgrown => simp only [Option.some.injEq, Prod.mk.injEq] at hm; obtain ⟨rfl, rfl⟩ := hm; exact ⟨s4, E'', rfl, hx.trans h2, h3, hq⟩
  · rintro e' a' w' h'
    exact h'
theorem exX_ok {N n k : Nat} (hm : P.follows .mixedOrders = true) (hc : CallOK P G cx) : ∀ (c : Code) (s : AS) (e : Exit) (s' : AS) (Q : Exit → AS → Prop), exX P G cx N n c s = some (e, s') → Q e s' → AWp P G n k c Q s
  | .skip, s, e, s', Q, h, hq => by
    simp only [exX, Option.some.injEq, Prod.mk.injEq] at h
    obtain ⟨rfl, rfl⟩ := h
    exact awp_skip hq
  | .region id ops false, s, e, s', Q, h, hq => by
    simp only [exX] at h
    split at h
    · rename_i m1 s1 h1
      simp only [Option.some.injEq, Prod.mk.injEq] at h
      obtain ⟨rfl, rfl⟩ := h
      exact awp_rgn (rgnX_ok hc _ _ _ _ _ h1 hq)
    · cases h
  | .region id ops true, s, e, s', Q, h, hq => by
    simp only [exX] at h
    split at h
    · rename_i hs
      split at h
      · rename_i acc s1 h1
        split at h
        · rename_i hw
          simp only [Option.some.injEq, Prod.mk.injEq] at h
          obtain ⟨rfl, rfl⟩ := h
          refine awp_any hm hs (rgnX_ok hc _ _ _ _ _ h1 ⟨?_, hq⟩)
          simpa [chkM] using hw
        · cases h
      · cases h
    · cases h
  | .seq x y, s, e, s', Q, h, hq => by
    simp only [exX] at h
    refine awp_seq ?_
    cases hx : exX P G cx N n x s with
    | none => rw [hx] at h; cases h
    | some r =>
      obtain ⟨e1, s1⟩ := r
      rw [hx] at h
      refine exX_ok hm hc x s e1 s1 _ hx ?_
      cases e1 with
      | normal => exact exX_ok hm hc y s1 e s' Q h hq
      | exit id => simp only [Option.some.injEq, Prod.mk.injEq] at h; obtain ⟨rfl, rfl⟩ := h; exact hq
      | goto l => simp only [Option.some.injEq, Prod.mk.injEq] at h; obtain ⟨rfl, rfl⟩ := h; exact hq
      | ret => simp only [Option.some.injEq, Prod.mk.injEq] at h; obtain ⟨rfl, rfl⟩ := h; exact hq
      | panic ch => simp only [Option.some.injEq, Prod.mk.injEq] at h; obtain ⟨rfl, rfl⟩ := h; exact hq
      | outgrown => simp only [Option.some.injEq, Prod.mk.injEq] at h; obtain ⟨rfl, rfl⟩ := h; exact hq
  | .cond c x y, s, e, s', Q, h, hq => by
    simp only [exX] at h
    split at h
    · rename_i hb
      exact awp_cond hb (fun _ => exX_ok hm hc x s e s' Q h hq) (fun h0 => by cases h0)
    · rename_i hb
      exact awp_cond hb (fun h0 => by cases h0) (fun _ => exX_ok hm hc y s e s' Q h hq)
    · cases h
  | .block id c, s, e, s', Q, h, hq => by
    simp only [exX] at h
    refine awp_block ?_
    cases hx : exX P G cx N n c s with
    | none => rw [hx] at h; cases h
    | some r =>
      obtain ⟨e1, s1⟩ := r
      rw [hx] at h
      refine exX_ok hm hc c s e1 s1 _ hx ?_
      cases e1 with
      | exit j =>
        simp only at h
        split at h
        · rename_i e
          simp only [Option.some.injEq, Prod.mk.injEq] at h
          obtain ⟨rfl, rfl⟩ := h
          subst e
          simpa [ablock] using hq
        · rename_i e
          simp only [Option.some.injEq, Prod.mk.injEq] at h
          obtain ⟨rfl, rfl⟩ := h
          simpa [ablock, e] using hq
      | normal => simp only [Option.some.injEq, Prod.mk.injEq] at h; obtain ⟨rfl, rfl⟩ := h; exact hq
      | goto l => simp only [Option.some.injEq, Prod.mk.injEq] at h; obtain ⟨rfl, rfl⟩ := h; exact hq
      | ret => simp only [Option.some.injEq, Prod.mk.injEq] at h; obtain ⟨rfl, rfl⟩ := h; exact hq
      | panic ch => simp only [Option.some.injEq, Prod.mk.injEq] at h; obtain ⟨rfl, rfl⟩ := h; exact hq
      | outgrown => simp only [Option.some.injEq, Prod.mk.injEq] at h; obtain ⟨rfl, rfl⟩ := h; exact hq
  | .loop c, s, e, s', Q, h, hq => by
    simp only [exX] at h
    exact awp_loop_run (fun s e s' Q h hq => exX_ok hm hc c s e s' Q h hq) N s e s' Q h hq
  | .exit id, s, e, s', Q, h, hq => by
    simp only [exX, Option.some.injEq, Prod.mk.injEq] at h
    obtain ⟨rfl, rfl⟩ := h
    exact awp_exit hq
  | .ret, s, e, s', Q, h, hq => by
    simp only [exX, Option.some.injEq, Prod.mk.injEq] at h
    obtain ⟨rfl, rfl⟩ := h
    exact awp_ret hq
  | .rangeFunc .., s, e, s', Q, h, hq => by simp [exX] at h
  | .scope .., s, e, s', Q, h, hq => by simp [exX] at h
  | .label .., s, e, s', Q, h, hq => by simp [exX] at h
  | .goto .., s, e, s', Q, h, hq => by simp [exX] at h
  | .refuse .., s, e, s', Q, h, hq => by simp [exX] at h
end

mutual
/-- The rows that a value names. -/
def refsA : AV → List Nat
  | .agg cs => refsL cs
  | .tup cs => refsL cs
  | .sl _ es => refsE es
  | .osl r _ _ _ _ _ => [r]
  | .ptr r _ _ => [r]
  | .imm cs => refsL cs
  | .mp ks vs => refsL ks ++ refsL vs
  | .omp r => [r]
  | .fn _ a b => refsL a ++ refsL b
  | .iface _ v => refsA v
  | _ => []
def refsL : List AV → List Nat
  | [] => []
  | c :: cs => refsA c ++ refsL cs
def refsE : List (List AV) → List Nat
  | [] => []
  | e :: es => refsL e ++ refsE es
end
def refsRow : ARow → List Nat
  | .cells _ cs => refsL cs
  | .map ks vs => refsL ks ++ refsL vs
  | .iter ks vs _ _ => refsL ks ++ refsL vs
  | _ => []
def reachX (h : List ARow) : Nat → List Nat → List Nat → List Nat
  | 0, _, seen => seen
  | _ + 1, [], seen => seen
  | k + 1, r :: todo, seen => if seen.contains r = true then reachX h k todo seen else reachX h k (refsRow (h.getD r .none) ++ todo) (r :: seen)
def maskH (R : List Nat) : Nat → List ARow → List ARow
  | _, [] => []
  | k, x :: xs => (if R.contains k = true then x else .dead) :: maskH R (k + 1) xs
theorem maskH_len (R : List Nat) : ∀ (k : Nat) (h : List ARow), (maskH R k h).length = h.length
  | _, [] => rfl
  | k, x :: xs => by simp [maskH, maskH_len R (k + 1) xs]
theorem maskH_get (R : List Nat) : ∀ (k : Nat) (h : List ARow) (i : Nat), (maskH R k h).getD i .none = if i < h.length then (if R.contains (k + i) = true then h.getD i .none else .dead) else .none
  | k, [], i => by simp [maskH]
  | k, x :: xs, 0 => by simp [maskH]
  | k, x :: xs, i + 1 => by
    have := maskH_get R (k + 1) xs i
    rw [show k + 1 + i = k + (i + 1) by omega] at this
    simp only [maskH, List.getD_cons_succ, this, List.length_cons, Nat.add_lt_add_iff_right]
theorem upd_map (g : Nat → ARow) : ∀ (fp : List Nat) (rows : Nat → ARow) (r : Nat), upd rows (fp.map fun r => (r, g r)) r = if r ∈ fp then g r else rows r
  | [], rows, r => by simp [upd]
  | q :: fp, rows, r => by
    have ih := upd_map g fp (upd rows [(q, g q)]) r
    have e : upd rows ((q :: fp).map fun r => (r, g r)) r = upd (upd rows [(q, g q)]) (fp.map fun r => (r, g r)) r := rfl
    rw [e, ih, upd_one]
    by_cases h : r ∈ fp
    · simp [h]
    · by_cases h2 : r = q
      · simp [h2]
      · simp [h, h2]
def isEnd : Exit → Bool
  | .normal => true
  | .ret => true
  | _ => false
theorem bodyA_of {P : Program} {fn : Func} {R : AV → AS → Prop} {e : Exit} {s : AS} {v : AV} (he : isEnd e = true) (hv : aResults P fn s = some v) (h : R v s) : bodyA P fn R e s := by
  cases e <;> first | (simp [isEnd] at he; done) | exact ⟨v, hv, h⟩

/-! ### a result is made a tree -/
def chunks (sz : Nat) : Nat → List AV → List (List AV)
  | 0, _ => []
  | n + 1, l => l.take sz :: chunks sz n (l.drop sz)
theorem chunks_flat {sz : Nat} : ∀ (n : Nat) (l : List AV), l.length = n * sz → (chunks sz n l).flatten = l ∧ (chunks sz n l).length = n ∧ ∀ e ∈ chunks sz n l, e.length = sz
  | 0, l, h => by
    have : l = [] := List.eq_nil_of_length_eq_zero (by omega)
    subst this
    simp [chunks]
  | n + 1, l, h => by
    rw [Nat.add_mul, Nat.one_mul] at h
    obtain ⟨h1, h2, h3⟩ := chunks_flat (sz := sz) n (l.drop sz) (by rw [List.length_drop]; omega)
    refine ⟨by simp only [chunks, List.flatten_cons, h1, List.take_append_drop], by simp only [chunks, List.length_cons, h2], fun e he => ?_⟩
    rcases List.mem_cons.1 he with rfl | he
    · rw [List.length_take]; omega
    · exact h3 e he
def frzX (rows : Nat → ARow) : Nat → List AV → Option (List AV)
  | 0, _ => none
  | _ + 1, [] => some []
  | k + 1, v :: vs => match frzX rows k vs with
    | none => none
    | some ts => match v with
      | .agg cs => match frzX rows k cs with
        | some cs' => some (.agg cs' :: ts)
        | none => none
      | .tup cs => match frzX rows k cs with
        | some cs' => some (.tup cs' :: ts)
        | none => none
      | .osl r ver off n sz b => match rowCells rows r ver with
        | some cs => match frzX rows k ((cs.drop off).take (n * sz)) with
          | some l => if l.length = n * sz then some (.sl b (chunks sz n l) :: ts) else none
          | none => none
        | none => none
      | v => if inR noRef v = true then some (v :: ts) else none
def lentAll (E : En) : En := ⟨E.w, fun b => E.S b ∨ ∃ r, (E.rows r).live = true ∧ b = E.ρ r, E.ρ, fun _ => .none⟩
theorem agree_lentAll (E : En) : Agree noRef E (lentAll E) := ⟨rfl, fun _ h => .inl h, fun r hr => (by cases hr), fun r hr => (by cases hr)⟩
theorem inE_chunks {p : Nat → Bool} {sz : Nat} : ∀ (n : Nat) (l : List AV), inL p l = true → inE p (chunks sz n l) = true
  | 0, l, h => by simp [chunks, inE]
  | n + 1, l, h => by
    have ht : ∀ (k : Nat) (l : List AV), inL p l = true → inL p (l.take k) = true := fun k => by
      induction k with
      | zero => intro l _; simp [inL]
      | succ k ih => intro l hl; cases l with
        | nil => simp [inL]
        | cons x l => simp only [inL, Bool.and_eq_true] at hl; simp only [List.take_succ_cons, inL, Bool.and_eq_true]; exact ⟨hl.1, ih l hl.2⟩
    have hd : ∀ (k : Nat) (l : List AV), inL p l = true → inL p (l.drop k) = true := fun k => by
      induction k with
      | zero => intro l h; simpa using h
      | succ k ih => intro l hl; cases l with
        | nil => simp [inL]
        | cons x l => simp only [inL, Bool.and_eq_true] at hl; simpa using ih l hl.2
    simp only [chunks, inE, Bool.and_eq_true]
    exact ⟨ht sz l h, inE_chunks n _ (hd sz l h)⟩
theorem frzX_ok {G : Nat → Option (List AV)} {E : En} (i : Inv G E) : ∀ (k : Nat) (vs ts : List AV) (us : List Value), frzX E.rows k vs = some ts → RelL E vs us → RelL (lentAll E) ts us ∧ inL noRef ts = true
  | 0, _, _, _, h, _ => by cases h
  | k + 1, [], ts, us, h, hr => by
    simp only [frzX, Option.some.injEq] at h
    subst h
    exact ⟨by simpa only [RelL] using hr, by simp [inL]⟩
  | k + 1, v :: vs, ts, us, h, hr => by
    simp only [RelL] at hr
    obtain ⟨u, rest, rfl, h1, h2⟩ := hr
    simp only [frzX] at h
    split at h
    · cases h
    rename_i ts' hts
    obtain ⟨r1, r2⟩ := frzX_ok i k vs ts' rest hts h2
    have fin : ∀ t, Rel (lentAll E) t u → inR noRef t = true → some (t :: ts') = some ts → RelL (lentAll E) ts (u :: rest) ∧ inL noRef ts = true := by
      intro t a b c
      injection c with c
      subst c
      exact ⟨by simp only [RelL]; exact ⟨u, rest, rfl, a, r1⟩, by simp only [inL, b, r2, Bool.and_self]⟩
    split at h
    · rename_i cs
      split at h
      · rename_i cs' hcs
        simp only [Rel] at h1
        obtain ⟨ws, w1, w2, w3⟩ := h1
        obtain ⟨q1, q2⟩ := frzX_ok i k cs cs' ws hcs w2
        exact fin _ (by simp only [Rel]; exact ⟨ws, w1, q1, w3⟩) (by simpa only [inR] using q2) h
      · cases h
    · rename_i cs
      split at h
      · rename_i cs' hcs
        simp only [Rel] at h1
        obtain ⟨ws, w1, w2⟩ := h1
        obtain ⟨q1, q2⟩ := frzX_ok i k cs cs' ws hcs w2
        exact fin _ (by simp only [Rel]; exact ⟨ws, w1, q1⟩) (by simpa only [inR] using q2) h
      · cases h
    · rename_i r ver off n sz b
      split at h
      · rename_i cs hc
        split at h
        · rename_i l hl
          split at h
          · rename_i hlen
            obtain ⟨cap, cur, e, rfl, a1, a2, a3, a4, a5⟩ := osl_at hc h1
            obtain ⟨cur', e', ws, k1, k2, k3, k4, k5⟩ := row_at i hc
            have q0 := (k2.drop off).take (n * sz)
            have c1 := (k5.drop off).take (n * sz)
            rw [Nat.zero_add] at c1
            obtain ⟨q1, q2⟩ := frzX_ok i k _ l _ hl q0
            obtain ⟨f1, f2, f3⟩ := chunks_flat n l hlen
            refine fin _ ?_ (by simp only [inR]; exact inE_chunks n l q2) h
            simp only [Rel]
            refine ⟨some ⟨E.ρ r, off, none⟩, cap, by rw [f2], by rw [f2]; exact a1, a2, by rw [f2]; exact a3, by simp, E.ρ r, off, sz, .inr ⟨rfl, .inr ⟨r, ?_, rfl⟩⟩, relE_of_flat (by rw [f1]; exact q1) c1 f3⟩
            rw [rowCells_eq hc]; rfl
          · cases h
        · cases h
      · cases h
    · split at h
      · rename_i hn
        exact fin v (h1.agree (agree_lentAll E) hn) hn h
      · cases h

/-- A body whose result can be made a tree. -/
theorem pure_of_bodyL {P : Program} {G : Nat → Option (List AV)} {f : FuncId} {fn : Func} {c : Code} {args : List AV} {res : AV}
    (hG : ∀ g cs, G g = some cs → inL noRef cs = true) (hf : P.funcs[f]? = some fn) (hb : fn.body = some c) (hgo : goFunc P f = true) (hn : args.length ≤ fn.ntmps) (hargs : inL noRef args = true) (hres : inR noRef res = true)
    (hbody : AWp P G fn.ntmps 0 c (bodyA P fn fun v s => ∃ k, frzX s.row k [v] = some [res]) ⟨mkF (enterF 0 args), []⟩) : Pure P G f args res := by
  refine ⟨hres, fun rows => ⟨hgo, by simp, fun E us i hE hus => ?_⟩⟩
  let Ec : En := ⟨E.w, E.S, E.ρ, fun _ => .none⟩
  have agc : Agree noRef E Ec := ⟨rfl, fun _ h => h, fun r hr => (by cases hr), fun r hr => (by cases hr)⟩
  have ic : Inv G Ec := by
    refine ⟨fun r => (by simp [RowOK, Ec]), fun r r' h => (by cases h), i.sb, fun g cs hg => ?_⟩
    obtain ⟨vs, a1, a2, a3⟩ := i.glob g cs hg
    exact ⟨vs, a1, a2.agree agc (hG g cs hg), a3⟩
  have hlen := hus.length
  have sim : Sim G fn.ntmps ⟨mkF (enterF 0 args), []⟩ Ec { tmps := us.toArray ++ Array.replicate (fn.ntmps - us.toArray.size) undef, defers := [] } := by
    refine ⟨ic, rfl, by simp; omega, fun t => ?_, rfl⟩
    show Rel Ec ((mkF (enterF 0 args)).getD t .undef) _
    rw [getD_enter]
    simp only [Nat.zero_le, if_true, Nat.sub_zero]
    rw [List.getD_eq_getElem?_getD]
    cases hx : args[t]? with
    | none => simp [Rel]
    | some x =>
      obtain ⟨v, h1, h2⟩ := hus.get hx
      have hlt := (List.getElem?_eq_some_iff.1 h1).1
      have : (us.toArray ++ Array.replicate (fn.ntmps - us.toArray.size) undef).getD t undef = v := by
        rw [Array.getD_eq_getD_getElem?, Array.getElem?_append, if_pos (by simpa using hlt)]
        simp only [List.getElem?_toArray, h1, Option.getD_some]
      rw [this]
      have hin : inR noRef x = true := by
        have := inL_get hargs t
        rw [List.getD_eq_getElem?_getD, hx] at this
        simpa using this
      exact h2.agree agc hin
  refine calls_of_wp hf hb (wp_mono (hbody Ec _ sim) ?_)
  rintro e a' w' ⟨s', Ec', rfl, xk, sim', q⟩
  have fin : ∀ v, aResults P fn s' = some v → (∃ k, frzX s'.row k [v] = some [res]) →
      ∃ u, (results fn a'.tmps).run P Ec'.w = .ok u Ec'.w ∧ ∃ v E', Ending.returned u = .returned v ∧ Ec'.w = E'.w ∧ Rel E' res v ∧ Ext E E' ∧ Inv G E' ∧ E'.rows = upd E.rows [] := by
    rintro v hv ⟨kk, hk⟩
    obtain ⟨u, hu, ru⟩ := results_ok (P := P) sim' hv
    rw [← sim'.rows] at hk
    have rL := (frzX_ok sim'.inv kk [v] [res] [u] hk (by simp only [RelL]; exact ⟨u, [], rfl, ru, rfl⟩)).1
    simp only [RelL] at rL
    obtain ⟨u', rest, he, r1, r2⟩ := rL
    injection he with he1 he2
    subst he1
    have hblk : ∀ b, b < E.w.heap.size → Ec'.w.heap[b]? = E.w.heap[b]? ∧ (Ec'.S b → E.S b) := fun b hb => xk.out b hb fun r hr => by cases hr
    have hfresh : ∀ r, (Ec'.rows r).live = true → E.w.heap.size ≤ Ec'.ρ r := fun r hr => by
      rcases xk.fresh r hr with ⟨h1, _⟩ | h1
      · cases h1
      · exact h1
    have hS : ∀ b, b < E.w.heap.size → (lentAll Ec').S b → E.S b := fun b hb h => by
      rcases h with h | ⟨r, hr, rfl⟩
      · exact (hblk b hb).2 h
      · exact absurd (hfresh r hr) (by omega)
    have x : Ext E ⟨Ec'.w, (lentAll Ec').S, E.ρ, E.rows⟩ := by
      refine ⟨xk.os, xk.tape, xk.output, xk.sz, fun b hb => .inl (xk.sub b hb), fun b hlt hl => ⟨(hblk b hlt).1, hS b hlt⟩, fun q hq => hq, fun q ver cs hq => ?_, fun q hq => .inr ⟨hq, rfl⟩, fun q hq => .inl ⟨hq, rfl⟩⟩
      refine .inr ⟨ver, cs, hq, Nat.le_refl _, fun _ => ⟨rfl, fun cur e fz hcur => ⟨cur, e, ?_, rfl⟩⟩⟩
      rw [(hblk _ (i.live (by rw [hq]; rfl)).1).1]
      exact hcur
    have agf : Agree noRef (lentAll Ec') ⟨Ec'.w, (lentAll Ec').S, E.ρ, E.rows⟩ := ⟨rfl, fun _ h => h, fun r hr => (by cases hr), fun r hr => (by cases hr)⟩
    refine ⟨u, hu, u, ⟨Ec'.w, (lentAll Ec').S, E.ρ, E.rows⟩, rfl, rfl, r1.agree agf hres, x, ⟨fun q => ?_, fun q q' h h' hne => i.inj q q' h h' hne, fun b hb => ?_, fun g cs hg => ?_⟩, rfl⟩
    · cases hl : (E.rows q).live with
      | false =>
        unfold RowOK
        show match E.rows q with | _ => _
        cases hqq : E.rows q with
        | cells => rw [hqq] at hl; cases hl
        | map => rw [hqq] at hl; cases hl
        | iter => rw [hqq] at hl; cases hl
        | none => trivial
        | dead => trivial
      | true =>
        have hlt := (i.live hl).1
        exact RowOK.ext i x rfl rfl (fun _ => (hblk _ hlt).1) (hS _ hlt) (i.row q)
    · rcases hb with h | ⟨r, hr, rfl⟩
      · exact sim'.inv.sb b h
      · exact (sim'.inv.live hr).1
    · obtain ⟨vs, a1, a2, a3⟩ := sim'.inv.glob g cs hg
      exact ⟨vs, .inl a1, (a2.agree (agree_lentAll Ec') (hG g cs hg)).agree agf (hG g cs hg), a3⟩
  cases e with
  | normal =>
    obtain ⟨v, h1, h2⟩ := q
    obtain ⟨u, h3, h4⟩ := fin v h1 h2
    exact ⟨sim'.df, u, h3, h4⟩
  | ret =>
    obtain ⟨v, h1, h2⟩ := q
    obtain ⟨u, h3, h4⟩ := fin v h1 h2
    exact ⟨sim'.df, u, h3, h4⟩
  | exit id => exact q.elim
  | goto l => exact q.elim
  | panic ch => exact q.elim
  | outgrown => exact q.elim

section
variable (P : Program) (G : Nat → Option (List AV)) (N : Nat) (T : List (FuncId × List AV × AV)) (K : List FuncId)
/-- A table of calls that are known already. -/
def lookT : List (FuncId × List AV × AV) → FuncId → List AV → Option AV
  | [], _, _ => none
  | (g, xs, v) :: T, f, args => if (decide (g = f) && eqL xs args) = true then some v else lookT T f args
theorem lookT_ok {P : Program} {G : Nat → Option (List AV)} : ∀ {T : List (FuncId × List AV × AV)} {f : FuncId} {args : List AV} {v : AV}, (∀ e ∈ T, Pure P G e.1 e.2.1 e.2.2) → lookT T f args = some v → Pure P G f args v
  | (g, xs, u) :: T, f, args, v, hT, h => by
    simp only [lookT] at h
    split at h
    · rename_i hc
      simp only [Bool.and_eq_true, decide_eq_true_eq] at hc
      injection h with h
      have := hT (g, xs, u) (List.mem_cons_self ..)
      rw [← h, ← hc.1, ← eqL_ok _ _ hc.2]
      exact this
    · exact lookT_ok (fun e he => hT e (List.mem_cons_of_mem _ he)) h
def callX : Nat → CallX
  | 0 => fun _ _ _ => none
  | d + 1 => fun f args h => match lookT T f args with
   | some v => some (v, [])
   | none => match P.funcs[f]? with
    | none => none
    | some fn => match fn.body with
      | none => none
      | some c =>
        if (goFunc P f && decide (args.length ≤ fn.ntmps) && inL noRef args && !K.contains f) = true then
          match exX P G (callX d) N fn.ntmps c ⟨mkF (enterF 0 args), []⟩ with
          | none => none
          | some (e, s') => match aResults P fn s' with
            | none => none
            | some v => match frzX s'.row 9999 [v] with
              | some [res] => if (isEnd e && inR noRef res) = true then some (res, []) else none
              | _ => none
        else if (goFunc P f && decide (args.length ≤ fn.ntmps) && inL (fun r => decide (r < h.length)) args && (reachX h N (refsL args) []).all fun r => decide (r < h.length) && rowIn (fun r => decide (r < h.length)) (h.getD r .none)) = true then
          match exX P G (callX d) N fn.ntmps c ⟨mkF (enterF 0 args), maskH (reachX h N (refsL args) []) 0 h⟩ with
          | none => none
          | some (e, s') => match aResults P fn s' with
            | none => none
            | some v => if (isEnd e && inR (fun r => (reachX h N (refsL args) [] ++ (List.range s'.h.length).drop h.length).contains r) v && (reachX h N (refsL args) [] ++ (List.range s'.h.length).drop h.length).all fun r => rowIn (fun r => (reachX h N (refsL args) [] ++ (List.range s'.h.length).drop h.length).contains r) (s'.row r)) = true then
                some (v, (reachX h N (refsL args) [] ++ (List.range s'.h.length).drop h.length).map fun r => (r, s'.row r)) else none
        else none
end
theorem callX_ok {P : Program} {G : Nat → Option (List AV)} {N : Nat} {T : List (FuncId × List AV × AV)} {K : List FuncId} (hT : ∀ e ∈ T, Pure P G e.1 e.2.1 e.2.2) (hG : ∀ g cs, G g = some cs → inL noRef cs = true) (hm : P.follows .mixedOrders = true) : ∀ d, CallOK P G (callX P G N T K d)
  | 0 => fun f args h v wr hc => by cases hc
  | d + 1 => fun f args h v wr hc => by
    simp only [callX] at hc
    split at hc
    · rename_i u hu
      injection hc with hc
      obtain ⟨rfl, rfl⟩ := Prod.mk.inj hc
      exact (lookT_ok hT hu).2 _
    split at hc
    · cases hc
    rename_i fn hfn
    split at hc
    · cases hc
    rename_i c hb
    split at hc
    · rename_i hck
      simp only [Bool.and_eq_true, decide_eq_true_eq] at hck
      obtain ⟨⟨⟨h1, h2⟩, h3⟩, _⟩ := hck
      split at hc
      · cases hc
      rename_i e s' hx
      split at hc
      · cases hc
      rename_i u hu
      split at hc
      case h_2 => cases hc
      rename_i res hfz
      split at hc
      case isFalse => cases hc
      rename_i hck2
      simp only [Bool.and_eq_true] at hck2
      injection hc with hc
      obtain ⟨rfl, rfl⟩ := Prod.mk.inj hc
      exact (pure_of_bodyL hG hfn hb h1 h2 h3 hck2.2 (exX_ok hm (callX_ok hT hG hm d) c _ e s' _ hx (bodyA_of hck2.1 hu ⟨9999, hfz⟩))).2 _
    generalize reachX h N (refsL args) [] = R at hc
    split at hc
    case isFalse => cases hc
    rename_i hck
    simp only [Bool.and_eq_true, decide_eq_true_eq, List.all_eq_true] at hck
    obtain ⟨⟨⟨h1, h2⟩, h3⟩, h4⟩ := hck
    split at hc
    · cases hc
    rename_i e s' hx
    split at hc
    · cases hc
    rename_i u hu
    generalize hfp : R ++ (List.range s'.h.length).drop h.length = fp at hc
    split at hc
    case isFalse => cases hc
    rename_i hck2
    simp only [Bool.and_eq_true, List.all_eq_true] at hck2
    obtain ⟨⟨h5, h6⟩, h7⟩ := hck2
    injection hc with hc
    obtain ⟨rfl, rfl⟩ := Prod.mk.inj hc
    have hmap : (fp.map fun r => (r, s'.row r)).map (·.1) = fp := by simp [List.map_map, Function.comp_def]
    rw [hmap]
    have hnew : ∀ r ∈ fp, r ∈ R ∨ h.length ≤ r := by
      intro r hr
      rw [← hfp] at hr
      rcases List.mem_append.1 hr with hr | hr
      · exact .inl hr
      · right
        obtain ⟨i, hi⟩ := List.getElem?_of_mem hr
        rw [List.getElem?_drop] at hi
        have := List.getElem?_eq_some_iff.1 hi
        obtain ⟨hlt, he⟩ := this
        simp at he
        omega
    have hRfp : ∀ r ∈ R, r ∈ fp := fun r hr => by rw [← hfp]; exact List.mem_append.2 (.inl hr)
    have hnone : ∀ r, h.length ≤ r → h.getD r .none = .none := fun r hr => by rw [List.getD_eq_getElem?_getD, List.getElem?_eq_none hr]; rfl
    refine callC_of_body (maskH R 0 h) hG hfn hb h1 h2 ?_ ?_ ?_ ?_ ?_ ?_ ?_
    · intro r hr
      rw [maskH_get, Nat.zero_add]
      rcases hnew r hr with h8 | h8
      · rw [if_pos (h4 r h8).1, if_pos (by simpa using h8)]
      · rw [if_neg (by omega), hnone r h8]
    · intro r hr
      rw [maskH_get, maskH_len, Nat.zero_add]
      by_cases hlt : r < h.length
      · rw [if_pos hlt, if_pos hlt, if_neg (by simpa using fun hc => hr (hRfp r hc))]
      · rw [if_neg hlt, if_neg hlt]
    · rw [maskH_len]; exact h3
    · intro r hr
      rw [maskH_len]
      rcases hnew r hr with h8 | h8
      · exact (h4 r h8).2
      · show rowIn _ (h.getD r .none) = true
        rw [hnone r h8]; rfl
    · intro r hr hle
      rw [maskH_len] at hle
      exact hnone r hle
    · intro p hp
      have : p.1 ∈ (fp.map fun r => (r, s'.row r)).map (·.1) := List.mem_map.2 ⟨p, hp, rfl⟩
      rw [hmap] at this
      exact this
    · refine exX_ok hm (callX_ok hT hG hm d) c _ e s' _ hx (bodyA_of h5 hu ⟨.inl rfl, h6, fun r hr => ⟨?_, h7 r hr⟩⟩)
      rw [upd_map, if_pos hr]

/-- A call of which all is known is run. -/
theorem pure_of_call {P : Program} {G : Nat → Option (List AV)} {f : FuncId} {args : List AV} {res : AV} (N d : Nat) (T : List (FuncId × List AV × AV)) (K : List FuncId) (hT : ∀ e ∈ T, Pure P G e.1 e.2.1 e.2.2) (hG : ∀ g cs, G g = some cs → inL noRef cs = true) (hm : P.follows .mixedOrders = true)
    (hres : inR noRef res = true) (h : callX P G N T K d f args [] = some (res, [])) : Pure P G f args res := by
  obtain ⟨h1, h2, h3⟩ := callX_ok hT hG hm d f args [] res [] h
  exact ⟨hres, fun rows => ⟨h1, h2, fun E us i _ hl => h3 E us i (by simp) hl⟩⟩
theorem tbl_cons {P : Program} {G : Nat → Option (List AV)} {T : List (FuncId × List AV × AV)} {f : FuncId} {args : List AV} {res : AV} (h : Pure P G f args res) (hT : ∀ e ∈ T, Pure P G e.1 e.2.1 e.2.2) : ∀ e ∈ (f, args, res) :: T, Pure P G e.1 e.2.1 e.2.2 := fun e he => by
  rcases List.mem_cons.1 he with rfl | he
  · exact h
  · exact hT e he
theorem no_table {P : Program} {G : Nat → Option (List AV)} : ∀ e ∈ ([] : List (FuncId × List AV × AV)), Pure P G e.1 e.2.1 e.2.2 := fun e he => by cases he
end Go.AM
