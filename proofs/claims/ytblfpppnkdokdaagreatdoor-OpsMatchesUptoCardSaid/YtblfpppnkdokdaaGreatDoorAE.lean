import Derived.Test.YtblfpppnkdokdaaGreatDoorAC
set_option linter.unusedVariables false
set_option linter.unusedSimpArgs false
namespace Go.AM
def bZ (E : En) (lfp : List Nat) : En := ⟨E.w, fun b => E.S b ∨ ∃ r ∈ lfp, (E.rows r).live = true ∧ b = E.ρ r, E.ρ, fun r => if r ∈ lfp then .dead else E.rows r⟩
theorem nR {E : En} {lfp : List Nat} {r : Nat} (h : ((bZ E lfp).rows r).live = true) : r ∉ lfp ∧ (E.rows r).live = true := by
 simp only [bZ] at h
 split at h
 ·cases h
 ·rename_i hn; exact ⟨hn, h⟩
theorem lM (E : En) (lfp : List Nat) : dG (fun _ => true) E (bZ E lfp) := ⟨rfl, fun _ h => .inl h, fun r _ => by
 by_cases hm : r ∈ lfp
 ·exact .inr (.inl (by simp [bZ, hm]))
 ·exact .inl (by simp [bZ, hm]), fun r _ _ => rfl⟩
theorem p9 {G : Nat → Option (List AV)} {E : En} {lfp : List Nat} (i : Inv G E) : Inv G (bZ E lfp) := by
 have ag := lM E lfp
 refine ⟨fun r => ?_, fun r r' h h' hne => i.inj r r' (nR h).2 (nR h').2 hne, fun b hb => ?_, fun g cs hg => ?_⟩
 ·by_cases hm : r ∈ lfp
  ·unfold RowOK
   have : (bZ E lfp).rows r = .dead := by simp [bZ, hm]
   rw [this]
   trivial
  ·have h0 := i.row r
   have hr : (bZ E lfp).rows r = E.rows r := by simp [bZ, hm]
   unfold RowOK at h0 ⊢
   rw [hr]
   have hS : (E.rows r).live = true → ¬ E.S (E.ρ r) → ¬ (bZ E lfp).S (E.ρ r) := fun hl h1 h2 => by
    rcases h2 with h2 | ⟨r', h3, h4, h5⟩
    ·exact h1 h2
    ·by_cases e : r = r'
     ·subst e; exact hm h3
     ·exact i.inj r r' hl h4 e h5
   cases hrr : E.rows r with
   | none => trivial
   | dead => trivial
   | cells ver cs =>
    rw [hrr] at h0
    obtain ⟨cur, e, vs, a1, a2, a3, a4⟩ := h0
    exact ⟨cur, e, vs, a1, hS (by rw [hrr]; rfl) a2, a3.agree ag (bL cs), a4⟩
   | map ks vs =>
    rw [hrr] at h0
    obtain ⟨es, clock, a1, a2, a3, a4, a5⟩ := h0
    exact ⟨es, clock, a1, hS (by rw [hrr]; rfl) a2, a3, a4.agree ag (bL ks), a5.agree ag (bL vs)⟩
   | iter ks vs l j =>
    rw [hrr] at h0
    obtain ⟨mb, es, clock, since, seen, a1, a2, a3, a4, a5, a6, a7, a8, a9⟩ := h0
    exact ⟨mb, es, clock, since, seen, a1, hS (by rw [hrr]; rfl) a2, .inl a3, a4, a5, a6, a7.agree ag (bL ks), a8.agree ag (bL vs), a9⟩
   | loop st pend fr ps asg body =>
    rw [hrr] at h0
    obtain ⟨fn, tm, D, a1, a2, a3⟩ := h0
    exact ⟨fn, tm, D, a1, hS (by rw [hrr]; rfl) a2, a3.agree ag (bL fr)⟩
 ·rcases hb with h | ⟨r, _, h2, rfl⟩
  ·exact i.sb b h
  ·exact (i.live h2).1
 ·obtain ⟨vs, a1, a2, a3⟩ := i.glob g cs hg
  exact ⟨vs, .inl a1, a2.agree ag (bL cs), a3⟩
theorem qA {E : En} {lfp : List Nat} : Ext E (bZ E lfp) := by
 refine ⟨rfl, rfl, rfl, Nat.le_refl _, fun _ h => .inl h, fun b _ hl => ⟨rfl, fun h => ?_⟩, fun r h => ?_, fun r ver cs h => ?_, fun r h => ?_, fun r h => .inl ⟨(nR h).2, rfl⟩⟩
 ·rcases h with h | ⟨r, _, h2, rfl⟩
  ·exact h
  ·exact absurd rfl (hl r h2)
 ·simp only [bZ]; split
  ·rfl
  ·exact h
 ·by_cases hm : r ∈ lfp
  ·exact .inl (by simp [bZ, hm])
  ·exact .inr ⟨ver, cs, by simp [bZ, hm, h], Nat.le_refl _, fun _ => ⟨rfl, fun cur e fz hc => ⟨cur, e, hc, rfl⟩⟩⟩
 ·by_cases hm : r ∈ lfp
  ·exact .inl (by simp [bZ, hm])
  ·exact .inr ⟨by simp [bZ, hm, h], rfl⟩
theorem p8 {G : Nat → Option (List AV)} {E : En} {rows : Nat → ARow} {lfp : List Nat} (i : Inv G E) (hE : ∀ r ∈ lfp, E.rows r = rows r) : ∀ {xs ys : List AV} {us : List Value}, FrzL rows lfp xs ys → RelL E xs us → RelL (bZ E lfp) ys us
 | [], [], us, _, hx => by simpa only [RelL] using hx
 | [], _ :: _, _, h, _ => h.elim
 | _ :: _, [], _, h, _ => h.elim
 | x :: xs, y :: ys, us, h, hx => by
  have agl : dG aB (jC E lfp) (bZ E lfp) := ⟨rfl, fun _ h => h, fun r h => (by cases h), fun r h => (by cases h)⟩
  simp only [RelL] at hx ⊢
  obtain ⟨v, rest, h1, h2, h3⟩ := hx
  refine ⟨v, rest, h1, ?_, p8 i hE h.2 h3⟩
  rcases h.1 with rfl | h
  ·exact h2.agree (lM E lfp) (jK y)
  ·exact (Lend.rel i hE h h2).agree agl h.tree
theorem yU : ∀ (a b : List (Nat × ARow)) (rows : Nat → ARow), upd rows (a ++ b) = upd (upd rows a) b
 | [], _, _ => rfl
 | p :: a, b, rows => yU a b _
theorem nV {P : Program} {G : Nat → Option (List AV)} {f : FuncId} {args targs : List AV} {rows : Nat → ARow} {fp : List Nat} {eff : Eff} (lfp : List Nat) (h : cC P G f targs rows fp eff) (hl : FrzL rows lfp args targs) (hd : ∀ r ∈ fp, r ∉ lfp) :
  cC P G f args rows (fp ++ lfp) ⟨eff.val, eff.wr ++ lfp.map fun r => (r, .dead)⟩ := by
 obtain ⟨hgo, hwr, hc⟩ := h
 refine ⟨hgo, fun p hp => ?_, fun E us i hE hus => ?_⟩
 ·rcases List.mem_append.1 hp with hp | hp
  ·exact List.mem_append_left _ (hwr p hp)
  ·obtain ⟨r, hr, rfl⟩ := List.mem_map.1 hp
   exact List.mem_append_right _ hr
 ·have hEl : ∀ r ∈ lfp, E.rows r = rows r := fun r hr => hE r (List.mem_append_right _ hr)
  refine (hc (bZ E lfp) us (p9 i) (fun r hr => ?_) (p8 i hEl hl hus)).mono fun e w' hr => ?_
  ·simp only [bZ, if_neg (hd r hr)]
   exact hE r (List.mem_append_left _ hr)
  ·obtain ⟨v, E1, rfl, rfl, h3, h4, h5, h6⟩ := hr
   refine ⟨v, E1, rfl, rfl, h3, qA.trans h4, h5, ?_⟩
   rw [h6, yU]
   funext r
   rw [jX (fun _ => .dead)]
   by_cases hm : r ∈ lfp
   ·rw [if_pos hm, eY _ _ _ fun p hp e => hd p.1 (hwr p hp) (e ▸ hm)]
    simp [bZ, hm]
   ·rw [if_neg hm]
    exact b4 _ _ _ _ (by simp [bZ, hm])
theorem MI {P : Program} {G : Nat → Option (List AV)} {f : FuncId} {args targs : List AV} {rows : Nat → ARow} {fp : List Nat} {R : Eff → Prop} (lfp : List Nat) (h : EC P G f targs rows fp R) (hl : FrzL rows lfp args targs) (hd : ∀ r ∈ fp, r ∉ lfp) :
  EC P G f args rows (fp ++ lfp) (fun eff => ∃ e0, R e0 ∧ eff = ⟨e0.val, e0.wr ++ lfp.map fun r => (r, .dead)⟩) := by
 obtain ⟨eff, h1, h2⟩ := h
 exact ⟨_, ⟨eff, h1, rfl⟩, nV lfp h2 hl hd⟩
end Go.AM
set_option linter.unusedVariables false
set_option linter.unusedSimpArgs false
namespace Go.AM
section
variable {P : Program} {G : Nat → Option (List AV)} {n : Nat} {ops : Array Oper} {Q' : Exit → Act → World → Prop}
theorem KQ [Rnd] {s : AS} {E0 : En} {e : Nat → Eff} {F : Nat → List Nat} {D : Nat → Option Tmp} (hD : ∀ i o, ops[i]? = some o → D i = o.dst) (hDn : ∀ i, ops[i]? = none → D i = none)
  (hst : ∀ i o, ops[i]? = some o → gI n o.dst ∧ lY P G ops o (sAt D e s i) (e i) (F i))
  (hA : ∀ (j : Nat) (o : Oper), ops[j]? = some o → ∀ ed ∈ o.after, Region.binds .any ed = true → ed.on < j)
  (hB : ∀ (i j : Nat) (oi oj : Oper), i < j → ops[i]? = some oi → ops[j]? = some oj → oi.apart ops oj = true ∨ eE ops i j)
  (sf : Nat → Prop) (j0 : Nat) (hij0 : ∀ i, sf i → i < j0) (hj0 : j0 < ops.size) (hwr0 : ∀ i, sf i → (e i).wr = [])
  (hsoft : ∀ i o, sf i → ops[i]? = some o → (∀ ev, eA o.op ev = none ∧ iR o.op ev = none) ∧ ∀ nb, aop P o.op (evA G (sAt D e s i).get) (upd (sAt D e s i).row (e j0).wr) nb = some (e i))
  (hC : ∀ (i j r : Nat), i < j → j < ops.size → ¬ (sf i ∧ j = j0) → (dH e i r ∧ (r ∈ F j ∨ dH e j r)) ∨ (dH e j r ∧ (r ∈ F i ∨ dH e i r)) → eE ops i j)
  (hk : ∀ s' E a, s'.get = (sAt D e s ops.size).get → s'.row = (sAt D e s ops.size).row → Sim G n s' E a → Ext E0 E → Q' .normal a E.w) :
  ∀ (fuel : Nat) (listed : Array Bool) (s' : AS) (E : En) (a : Act), oY ops.size (fun j => listed.getD j false) ≤ fuel → listed.size = ops.size → DG ops (fun j => listed.getD j false) →
   (∀ t, s'.get t = gl D e s (fun j => listed.getD j false) ops.size t) → (∀ r, s'.row r = rl e s (fun j => listed.getD j false) ops.size r) → Sim G n s' E a → Ext E0 E →
   wpAnyIn vG 0 P .any ops Q' fuel listed a E.w := by
 -- all are listed when none is ready
 have hfull : ∀ listed : Array Bool, listed.size = ops.size → Region.ready .any ops listed = [] → ∀ j, j < ops.size → listed.getD j false = true := by
  intro listed hsz hr j
  induction j using Nat.strongRecOn with
  | ind j ih =>
   intro hj
   cases hl : listed.getD j false with
   | true => rfl
   | false =>
    exfalso
    have : j ∈ Region.ready .any ops listed := by
     rw [mem_ready]
     refine ⟨?_, ops[j], Array.getElem?_eq_getElem hj, fun ed he hb => ih ed.on (hA j _ (Array.getElem?_eq_getElem hj) ed he hb) ?_⟩
     ·have : j < listed.size := by omega
      simp [this] at hl ⊢
      exact hl
     ·have := hA j _ (Array.getElem?_eq_getElem hj) ed he hb
      omega
    rw [hr] at this
    cases this
 have hend : ∀ (listed : Array Bool) (s' : AS) (E : En) (a : Act), listed.size = ops.size → Region.ready .any ops listed = [] → (∀ t, s'.get t = gl D e s (fun j => listed.getD j false) ops.size t) →
   (∀ r, s'.row r = rl e s (fun j => listed.getD j false) ops.size r) → Sim G n s' E a → Ext E0 E → Q' .normal a E.w := by
  intro listed s' E a hsz hr hg hrr i x
  have hall := hfull listed hsz hr
  refine hk s' E a (funext fun t => ?_) (funext fun r => ?_) i x
  ·rw [hg, xV (Nat.le_refl _) (fun j hj _ => hall j hj) (fun j h1 h2 => by omega)]
  ·rw [hrr, sW (Nat.le_refl _) (fun j hj _ => hall j hj) (fun j h1 h2 => by omega)]
 intro fuel
 induction fuel with
 | zero =>
  intro listed s' E a hf hsz hdc hg hrr i x
  have hr : Region.ready .any ops listed = [] := by
   refine List.eq_nil_iff_forall_not_mem.2 fun j hj => ?_
   obtain ⟨h0, o, ho, _⟩ := mem_ready.1 hj
   have hlt := (Array.getElem?_eq_some_iff.1 ho).1
   have hl : listed.getD j false = false := by
    have : j < listed.size := by omega
    simp [this] at h0 ⊢
    exact h0
   have := kE (L := fun j => listed.getD j false) hlt hl
   omega
  exact ⟨hr, hend listed s' E a hsz hr hg hrr i x⟩
 | succ fuel ih =>
  intro listed s' E a hf hsz hdc hg hrr i x
  refine ⟨fun hr => hend listed s' E a hsz hr hg hrr i x, fun k hk' => ?_⟩
  obtain ⟨h0, o, ho, hall⟩ := mem_ready.1 hk'
  have hlt := (Array.getElem?_eq_some_iff.1 ho).1
  generalize hLd : (fun j => listed.getD j false) = L at hf hdc hg hrr
  have hLk : L k = false := by
   rw [← hLd]
   have : k < listed.size := by omega
   simp [this] at h0 ⊢
   exact h0
  have hpre : ∀ ed ∈ o.after, Region.binds .any ed = true → L ed.on = true := fun ed he hb => by rw [← hLd]; exact hall ed he hb
  have hpl : DG ops (d8 L k) := by
   intro j o' ho' hj ed he hb
   unfold d8 at hj ⊢
   split
   ·rfl
   ·split at hj
    ·rename_i e
     subst e
     rw [ho] at ho'
     injection ho' with ho'
     subst ho'
     exact hpre ed he hb
    ·exact hdc j o' ho' hj ed he hb
  have hbef : ∀ i, eE ops i k → i ≠ k → L i = true := fun i hb hne => by
   have := hb _ hpl (by simp [d8])
   simpa [d8, hne] using this
  have haft : ∀ j, eE ops k j → L j = false := fun j hb => by
   cases hj : L j with
   | false => rfl
   | true =>
    have := hb _ hdc hj
    rw [hLk] at this
    cases this
  have hnew : (fun j => (listed.setIfInBounds k true).getD j false) = d8 L k := by
   funext j
   rw [← hLd]
   unfold d8
   split
   ·rename_i e
    subst e
    have : j < listed.size := by omega
    simp [this]
   ·rename_i hne
    exact getD_set_ne false (Ne.symm hne)
  -- slots
  have hopj : ∀ j t, D j = some t → ∃ oj, ops[j]? = some oj ∧ oj.dst = some t := fun j t hd => by
   cases hoj : ops[j]? with
   | none => rw [hDn j hoj] at hd; cases hd
   | some oj => exact ⟨oj, rfl, by rw [← hD j oj hoj]; exact hd⟩
  have hsee : ∀ t ∈ o.looksAt ops, s'.get t = (sAt D e s k).get t := by
   intro t ht
   rw [hg]
   refine xV (Nat.le_of_lt hlt) (fun j hj hd => ?_) (fun j h1 h2 hd => ?_)
   ·obtain ⟨oj, hoj, hdj⟩ := hopj j t hd
    rcases hB j k oj o hj hoj ho with h | h
    ·exact absurd ht ((Oper.apart_spec h).1 t hdj)
    ·exact hbef j h (by omega)
   ·by_cases hjk : j = k
    ·subst hjk; exact hLk
    ·obtain ⟨oj, hoj, hdj⟩ := hopj j t hd
     rcases hB k j o oj (by omega) ho hoj with h | h
     ·exact absurd ht ((Oper.apart_spec h).2.2 t hdj)
     ·exact haft j h
  have hno : ∀ i r, sf i → ¬ dH e i r := fun i r hi h => by
   unfold dH at h
   rw [hwr0 i hi] at h
   cases h
  have hrow : ¬ (sf k ∧ L j0 = true) → ∀ r, r ∈ F k ∨ r ∈ (e k).wr.map (·.1) → s'.row r = (sAt D e s k).row r := by
   intro hkn r hr
   rw [hrr]
   refine sW (Nat.le_of_lt hlt) (fun j hj hd => ?_) (fun j h1 h2 hd => ?_)
   ·by_cases hp : sf j ∧ k = j0
    ·exact absurd hd (hno j r hp.1)
    ·exact hbef j (hC j k r hj hlt hp (.inl ⟨hd, hr⟩)) (by omega)
   ·by_cases hjk : j = k
    ·subst hjk; exact hLk
    ·by_cases hp : sf k ∧ j = j0
     ·cases hlj : L j with
      | false => rfl
      | true => exact absurd ⟨hp.1, hp.2 ▸ hlj⟩ hkn
     ·exact haft j (hC k j r (by omega) h2 hp (.inr ⟨hd, hr⟩))
  have hrow0 : sf k → L j0 = true → ∀ r, r ∈ F k → s'.row r = upd (sAt D e s k).row (e j0).wr r := by
   intro hk0 hL0 r hr
   have hkj := hij0 k hk0
   rw [hrr]
   let L0 : Nat → Bool := fun j => if j = j0 then false else L j
   have hpl0 : d8 L0 j0 = L := by
    funext j
    simp only [d8, L0]
    split
    ·rename_i e; rw [e, hL0]
    ·rfl
   rw [← hpl0, zD hj0 (by simp [L0]) (fun j h1 h2 hj _ => by
    simp only [L0]
    rw [if_neg (by omega)]
    exact haft j (hC k j r (by omega) h2 (fun hp => by omega) (.inr ⟨hj, .inl hr⟩)))]
   refine b4 _ _ _ r ?_
   refine sW (Nat.le_of_lt hlt) (fun j hj hd => ?_) (fun j h1 h2 hd => ?_)
   ·simp only [L0]
    rw [if_neg (by omega)]
    exact hbef j (hC j k r hj hlt (fun hp => by omega) (.inl ⟨hd, .inl hr⟩)) (by omega)
   ·simp only [L0]
    split
    ·rfl
    ·rename_i hne
     by_cases hjk : j = k
     ·subst hjk; exact hLk
     ·exact haft j (hC k j r (by omega) h2 (fun hp => hne hp.2) (.inr ⟨hd, .inl hr⟩))
  have hgl : ∀ t, (s'.apply o.dst (e k)).get t = gl D e s (d8 L k) ops.size t := by
   intro t
   rw [FS hlt fun j h1 h2 hdj hdk => by
    obtain ⟨oj, hoj, hj⟩ := hopj j t hdj
    rcases hB k j o oj h1 ho hoj with h | h
    ·exact absurd hj ((Oper.apart_spec h).2.1 t (by rw [← hD k o ho]; exact hdk))
    ·exact haft j h]
   rw [hD k o ho, ← hg t]
   simp only [AS.apply]
   cases hd : o.dst with
   | none => simp [AS.get_put_none, AS.get_wr]
   | some d =>
    rw [AS.get_put]
    simp only [Option.some.injEq, AS.get_wr]
    by_cases h : t = d
    ·subst h; simp
    ·rw [if_neg h, if_neg (fun e => h e.symm)]
  have hrl : ∀ r, (s'.apply o.dst (e k)).row r = rl e s (d8 L k) ops.size r := by
   intro r
   rw [zD hlt hLk fun j h1 h2 hj hk2 => haft j (hC k j r h1 h2 (fun hp => hno k r hp.1 hk2) (.inl ⟨hk2, .inr hj⟩))]
   simp only [AS.apply]
   rw [AS.row_put, AS.row_wr]
   exact b4 _ _ _ r (hrr r)
  obtain ⟨hdst, hstep⟩ := hst k o ho
  have hcount : oY ops.size (d8 L k) ≤ fuel := by
   have := kE (L := L) hlt hLk
   omega
  have next : ∀ E' a', Sim G n (s'.apply o.dst (e k)) E' a' → Ext E E' → wpAnyIn vG 0 P .any ops Q' fuel (listed.setIfInBounds k true) a' E'.w := by
   intro E' a' i' x'
   refine ih _ (s'.apply o.dst (e k)) E' a' (by rw [hnew]; exact hcount) (by simpa using hsz) (by rw [hnew]; exact hpl) (by rw [hnew]; exact hgl) (by rw [hnew]; exact hrl) i' (x.trans x')
  unfold wpOpIn
  rw [ho]
  simp only
  have hwant : hJ ops o s' = hJ ops o (sAt D e s k) := qO hsee
  rcases hstep with ⟨hw, hop⟩ | ⟨hw, he, hF⟩
  ·rw [← hwant] at hw
   rw [if_pos (jF i hw)]
   have hop' : yQ P G o.op (evA G s'.get) s'.row (sAt D e s k).h.length (e k) := by
    by_cases hp : sf k ∧ L j0 = true
    ·obtain ⟨hk0, hL0⟩ := hp
     obtain ⟨ho1, ho2⟩ := hsoft k o hk0 ho
     have he : ∀ x ∈ o.op.operands, evA G s'.get x = evA G (sAt D e s k).get x := fun x hx => x5 fun t ht => hsee t (xG (ht ▸ hx))
     have hF : F k = fpA o.op (evA G (sAt D e s k).get) := by
      unfold OpC at hop
      rw [(ho1 _).1] at hop
      simp only [(ho1 _).2] at hop
      exact hop.2
     refine OpC.astep (fp := F k) ?_
     unfold OpC
     rw [(ho1 _).1]
     simp only [(ho1 _).2]
     rw [yM he, xX he]
     refine ⟨qJ (ho2 _) (fun r hr => hrow0 hk0 hL0 r (by rw [hF]; exact hr)) (fun r hr => ?_), hF⟩
     rw [hwr0 k hk0] at hr
     cases hr
    ·exact (hop.moved (ops := ops) (g' := s'.get) (rows' := s'.row) hsee (hrow hp)).astep
   rw [← i.rows] at hop'
   exact (yR i.inv i.eval hop' fun E' v x1 i1 e1 hv => next E' _ (i.step hdst x1 i1 e1 hv) x1)
  ·rw [← hwant] at hw
   rw [if_neg (by rw [jF i hw]; simp)]
   refine ⟨fun _ _ => trivial, next E _ ?_ (Ext.refl E)⟩
   rw [he]
   exact i.skip hdst
theorem sD {P : Program} {G : Nat → Option (List AV)} {n : Nat} {ops : Array Oper} {K : Option Acc → AS → Prop} {S : AS → Prop} (l2 : List Oper) : ∀ (l : List Oper) (s : AS) (acc : Acc),
  aP P G n (fun m s1 => S s1 ∧ aP P G n K (l2.map fun o => (o.dst, o.op, o.guard.map fun p => ((ops[p.1]?).bind (·.dst), p.2))) m s1) (l.map fun o => (o.dst, o.op, o.guard.map fun p => ((ops[p.1]?).bind (·.dst), p.2))) (some acc) s →
  ∃ (e : Nat → Eff) (F : Nat → List Nat), (∀ i o, (l ++ l2)[i]? = some o → gI n o.dst ∧ lY P G ops o (sAt (fun i => ((l ++ l2)[i]?).bind (·.dst)) e s i) (e i) (F i)) ∧ K (some (kW F e (l ++ l2).length acc)) (sAt (fun i => ((l ++ l2)[i]?).bind (·.dst)) e s (l ++ l2).length) ∧ S (sAt (fun i => ((l ++ l2)[i]?).bind (·.dst)) e s l.length)
 | [], s, acc, h => by
  obtain ⟨e, F, h1, h2⟩ := sE l2 s acc h.2
  exact ⟨e, F, h1, h2, h.1⟩
 | o :: rest, s, acc, h => by
  simp only [List.map_cons, aP] at h
  obtain ⟨hd, h⟩ := h
  have fin : ∀ (e0 : Eff) (F0 : List Nat), lY P G ops o s e0 F0 →
    aP P G n (fun m s1 => S s1 ∧ aP P G n K (l2.map fun o => (o.dst, o.op, o.guard.map fun p => ((ops[p.1]?).bind (·.dst), p.2))) m s1) (rest.map fun o => (o.dst, o.op, o.guard.map fun p => ((ops[p.1]?).bind (·.dst), p.2))) (some ((F0, e0.wr.map (·.1)) :: acc)) (s.apply o.dst e0) →
    ∃ (e : Nat → Eff) (F : Nat → List Nat), (∀ i o', (o :: rest ++ l2)[i]? = some o' → gI n o'.dst ∧ lY P G ops o' (sAt (fun i => ((o :: rest ++ l2)[i]?).bind (·.dst)) e s i) (e i) (F i)) ∧
     K (some (kW F e (o :: rest ++ l2).length acc)) (sAt (fun i => ((o :: rest ++ l2)[i]?).bind (·.dst)) e s (o :: rest ++ l2).length) ∧ S (sAt (fun i => ((o :: rest ++ l2)[i]?).bind (·.dst)) e s (o :: rest).length) := by
   intro e0 F0 hst hr
   obtain ⟨e, F, h1, h2, h3⟩ := sD l2 rest _ _ hr
   refine ⟨fun | 0 => e0 | i + 1 => e i, fun | 0 => F0 | i + 1 => F i, fun i o' ho => ?_, ?_, ?_⟩
   ·cases i with
    | zero =>
     simp at ho
     subst ho
     exact ⟨hd, hst⟩
    | succ i =>
     have := h1 i o' (by simpa using ho)
     rw [jI]
     exact this
   ·rw [List.cons_append, List.length_cons, jI, nZ]
    exact h2
   ·rw [List.length_cons, jI]
    exact h3
  rw [← kY] at h
  split at h
  ·rename_i hw
   unfold opR at h
   split at h
   ·obtain ⟨h0, _⟩ := h
    cases h0
   ·obtain ⟨eff, fp, h1, h2⟩ := h
    exact fin eff fp (.inl ⟨hw, h1⟩) h2
  ·rename_i hw
   exact fin ⟨.tup [], []⟩ [] (.inr ⟨hw, rfl, rfl⟩) h
  ·exact h.elim
theorem y8 {D : Nat → Option Tmp} {e : Nat → Eff} {s : AS} {t : Tmp} (i : Nat) : ∀ d, (∀ j, i ≤ j → j < i + d → D j ≠ some t) → (sAt D e s (i + d)).get t = (sAt D e s i).get t
 | 0, _ => rfl
 | d + 1, h => by
  show ((sAt D e s (i + d)).apply (D (i + d)) (e (i + d))).get t = _
  rw [← y8 i d fun j h1 h2 => h j h1 (by omega)]
  have := h (i + d) (by omega) (by omega)
  simp only [AS.apply]
  cases hd : D (i + d) with
  | none => simp [AS.get_put_none, AS.get_wr]
  | some q =>
   rw [hd] at this
   rw [AS.get_put, if_neg (fun e => this (by rw [e])), AS.get_wr]
theorem FD {D : Nat → Option Tmp} {e : Nat → Eff} {s : AS} {r : Nat} (i : Nat) : ∀ d, (∀ j, i ≤ j → j < i + d → ¬ dH e j r) → (sAt D e s (i + d)).row r = (sAt D e s i).row r
 | 0, _ => rfl
 | d + 1, h => by
  show ((sAt D e s (i + d)).apply (D (i + d)) (e (i + d))).row r = _
  rw [← FD i d fun j h1 h2 => h j h1 (by omega)]
  simp only [AS.apply]
  rw [AS.row_put, AS.row_wr]
  exact eJ (h (i + d) (by omega) (by omega))
def reads : Op → Bool
 | .load _ (.tmp _) => true
 | .nilCheck (.tmp _) => true
 | .fieldAddr _ (.tmp _) _ => true
 | _ => false
def j3 : Op → Tmp
 | .load _ (.tmp a) => a
 | .nilCheck (.tmp a) => a
 | .fieldAddr _ (.tmp a) _ => a
 | _ => 0
theorem DR {o : Op} (h : reads o = true) : (∀ ev, eA o ev = none ∧ iR o ev = none) ∧ (∀ (P : Program) (g g' : Nat → AV) (G : Nat → Option (List AV)) (rows : Nat → ARow) (nb nb' : Nat), g' (j3 o) = g (j3 o) → aop P o (evA G g') rows nb' = aop P o (evA G g) rows nb) ∧ (∀ (P : Program) ev (rows : Nat → ARow) (nb : Nat) eff, aop P o ev rows nb = some eff → eff.wr = []) := by
 unfold reads at h
 split at h
 ·rename_i t a
  refine ⟨fun ev => ⟨rfl, rfl⟩, fun P g g' G rows nb nb' hg => ?_, fun P ev rows nb eff he => ?_⟩
  ·simp only [j3] at hg
   simp only [aop, evA, hg]
  ·simp only [aop, Option.map_eq_some_iff] at he
   obtain ⟨v, _, rfl⟩ := he
   rfl
 ·rename_i a
  refine ⟨fun ev => ⟨rfl, rfl⟩, fun P g g' G rows nb nb' hg => ?_, fun P ev rows nb eff he => ?_⟩
  ·simp only [j3] at hg
   simp only [aop, evA, hg]
  ·simp only [aop, Option.map_eq_some_iff] at he
   obtain ⟨v, _, rfl⟩ := he
   rfl
 ·rename_i t a f
  refine ⟨fun ev => ⟨rfl, rfl⟩, fun P g g' G rows nb nb' hg => ?_, fun P ev rows nb eff he => ?_⟩
  ·simp only [j3] at hg
   simp only [aop, evA, hg]
  ·simp only [aop, Option.map_eq_some_iff] at he
   obtain ⟨v, _, rfl⟩ := he
   rfl
 ·cases h
def kQ (P : Program) (G : Nat → Option (List AV)) (s1 : AS) : List POp → Prop
 | [] => True
 | p :: l => (match p.1 with
  | some d => aop P p.2.1 (evA G s1.get) s1.row 0 = some ⟨s1.get d, []⟩
  | none => False) ∧ kQ P G s1 l
theorem wU {P : Program} {G : Nat → Option (List AV)} {s1 : AS} : ∀ {l : List POp}, kQ P G s1 l → ∀ p ∈ l, ∃ d, p.1 = some d ∧ aop P p.2.1 (evA G s1.get) s1.row 0 = some ⟨s1.get d, []⟩
 | [], _, p, hp => by cases hp
 | q :: l, h, p, hp => by
  rcases List.mem_cons.1 hp with rfl | hp
  ·have := h.1
   split at this
   ·rename_i d hd
    exact ⟨d, hd, this⟩
   ·exact this.elim
  ·exact wU h.2 p hp
def oH (ops : Array Oper) (ks : List Nat) (j0 : Nat) (acc : Acc) : Bool :=
 let l := acc.reverse
 ((List.range l.length).all fun j => (List.range j).all fun i => (ks.contains i && decide (j = j0)) || (((lH ops).getD j 0).testBit i || match l[i]?, l[j]? with
  | some (fi, wi), some (fj, wj) => AC wi fj && AC wi wj && AC wj fi
  | _, _ => true)) &&
 ks.all fun i0 => (List.range j0).all fun j => decide (j < i0) || match l[i0]?, l[j]? with
  | some (fi, _), some (_, wj) => AC wj fi
  | _, _ => true
def MK (ops : Array Oper) (ks : List Nat) (j0 : Nat) : Option Acc → Prop
 | some acc => oH ops ks j0 acc = true
 | none => False
def DL (ops : Array Oper) (ks : List Nat) (j0 : Nat) : Bool :=
 decide (j0 < ops.size) && ks.all fun i0 => decide (i0 < j0) && match ops[i0]? with
  | some o => reads o.op && (match o.guard with
   | none => true
   | some _ => false) && (match o.dst with
   | some d => (List.range (j0 + 1)).all fun j => decide (j < i0) || match (ops[j]?).bind (·.dst) with
    | some t => decide (t ≠ j3 o.op) && (decide (j = i0) || decide (t ≠ d))
    | none => true
   | none => false)
  | none => false
def pick (l : List POp) (ks : List Nat) : List POp := ks.filterMap fun i => l[i]?
theorem AL [Rnd] {k rid : Nat} {Q : Exit → AS → Prop} {s : AS} (ks : List Nat) (j0 : Nat) (hm : P.follows .mixedOrders = true) (hs : gQ ops = true) (hso : DL ops ks j0 = true)
  (h : aP P G n (fun m s1 => kQ P G s1 (pick (dY ops) ks) ∧ aP P G n (fun m s' => MK ops ks j0 m ∧ Q .normal s') ((dY ops).drop (j0 + 1)) m s1) ((dY ops).take (j0 + 1)) (some []) s) : AWp P G n k (.region rid ops true) Q s := fun E a i => by
 simp only [DL, Bool.and_eq_true, decide_eq_true_eq, List.all_eq_true] at hso
 obtain ⟨hj0, hks⟩ := hso
 have hload : ∀ i0 ∈ ks, i0 < j0 ∧ ∃ o0 d, ops[i0]? = some o0 ∧ reads o0.op = true ∧ o0.guard = none ∧ o0.dst = some d ∧ ∀ j, i0 ≤ j → j < j0 + 1 → ∀ t, (ops[j]?).bind (fun o : Oper => o.dst) = some t → t ≠ j3 o0.op ∧ (j = i0 ∨ t ≠ d) := by
  intro i0 hi0
  obtain ⟨h1, h2⟩ := hks i0 hi0
  refine ⟨h1, ?_⟩
  revert h2
  cases hq : ops[i0]? with
  | none => intro h; cases h
  | some o0 =>
   intro h2
   simp only [Bool.and_eq_true] at h2
   obtain ⟨⟨h3, h4⟩, h5⟩ := h2
   have h4' : o0.guard = none := by
    revert h4
    cases o0.guard with
    | none => intro _; rfl
    | some _ => intro h; cases h
   revert h5
   cases hd : o0.dst with
   | none => intro h; cases h
   | some d =>
    intro h5
    simp only [List.all_eq_true, List.mem_range, Bool.or_eq_true, decide_eq_true_eq] at h5
    refine ⟨o0, d, rfl, h3, h4', hd, fun j hj1 hj2 t ht => ?_⟩
    have := h5 j hj2
    rw [ht] at this
    simp only [Bool.and_eq_true, Bool.or_eq_true, decide_eq_true_eq] at this
    rcases this with h | h
    ·omega
    ·exact h
 have hsplit : ops.toList = ops.toList.take (j0 + 1) ++ ops.toList.drop (j0 + 1) := (List.take_append_drop _ _).symm
 have h' : aP P G n (fun m s1 => kQ P G s1 (pick (dY ops) ks) ∧ aP P G n (fun m s' => MK ops ks j0 m ∧ Q .normal s') ((ops.toList.drop (j0 + 1)).map fun o => (o.dst, o.op, o.guard.map fun p => ((ops[p.1]?).bind (·.dst), p.2))) m s1) ((ops.toList.take (j0 + 1)).map fun o => (o.dst, o.op, o.guard.map fun p => ((ops[p.1]?).bind (·.dst), p.2))) (some []) s := by
  rw [List.map_drop, List.map_take]
  exact h
 obtain ⟨e, F, h1, h2, h3⟩ := sD (ops := ops) (ops.toList.drop (j0 + 1)) (ops.toList.take (j0 + 1)) s [] h'
 rw [← hsplit] at h1 h2 h3
 have htl : (ops.toList.take (j0 + 1)).length = j0 + 1 := by simp; omega
 rw [htl] at h3
 obtain ⟨h2, hQ⟩ := h2
 simp only [gQ, List.all_eq_true, List.mem_range] at hs
 have hA : ∀ (j : Nat) (o : Oper), ops[j]? = some o → ∀ ed ∈ o.after, Region.binds .any ed = true → ed.on < j := by
  intro j o ho ed he hb
  have := hs j (Array.getElem?_eq_some_iff.1 ho).1
  rw [ho] at this
  simp only [Bool.and_eq_true, Array.all_eq_true_iff_forall_mem] at this
  have := this.1 ed he
  simpa [hb] using this
 have hM := (nN hA ops.toList [] (fun j hj => by simp at hj) (fun i o ho => by simpa using ho))
 have hMl : (lH ops).length = ops.size := by have := hM.2; simpa [lH] using this
 have hbit : ∀ i j, j < ops.size → ((lH ops).getD j 0).testBit i = true → eE ops i j := fun i j hj hb => hM.1 j (by unfold lH at hMl; omega) i hb
 have hB : ∀ (i j : Nat) (oi oj : Oper), i < j → ops[i]? = some oi → ops[j]? = some oj → oi.apart ops oj = true ∨ eE ops i j := by
  intro i j oi oj hij hi hj
  have hlt := (Array.getElem?_eq_some_iff.1 hj).1
  have := hs j hlt
  rw [hj] at this
  simp only [Bool.and_eq_true, List.all_eq_true, List.mem_range] at this
  have := this.2 i hij
  rw [hi] at this
  simp only [Bool.or_eq_true] at this
  exact this.imp (fun h => h) (hbit i j hlt)
 have hl : ops.toList.length = ops.size := by simp
 rw [hl] at h2
 simp only [MK, oH, Bool.and_eq_true, List.all_eq_true, List.mem_range, List.length_reverse, g9] at h2
 obtain ⟨h2, h4⟩ := h2
 have hC : ∀ (i j r : Nat), i < j → j < ops.size → ¬ (i ∈ ks ∧ j = j0) → (dH e i r ∧ (r ∈ F j ∨ dH e j r)) ∨ (dH e j r ∧ (r ∈ F i ∨ dH e i r)) → eE ops i j := by
  intro i j r hij hj hp hw
  have gi := gA F e ops.size i (by omega)
  have gj := gA F e ops.size j hj
  have := h2 j hj i hij
  rw [gi, gj] at this
  simp only [Bool.or_eq_true, Bool.and_eq_true, decide_eq_true_eq, List.contains_iff_mem] at this
  rcases this with h | h | ⟨⟨d1, d2⟩, d3⟩
  ·exact absurd h hp
  ·exact hbit i j hj h
  ·exfalso
   rcases hw with ⟨w1, w2 | w2⟩ | ⟨w1, w2 | w2⟩
   ·exact e9 d1 w1 w2
   ·exact e9 d2 w1 w2
   ·exact e9 d3 w1 w2
   ·exact e9 d2 w2 w1
 have hlist : ∀ (i : Nat) (o : Oper), ops[i]? = some o → ops.toList[i]? = some o := fun i o ho => by simpa using ho
 have hD : ∀ j : Nat, (ops.toList[j]?).bind (fun o : Oper => o.dst) = (ops[j]?).bind (fun o : Oper => o.dst) := fun j => by simp
 let D : Nat → Option Tmp := fun i => (ops.toList[i]?).bind (·.dst)
 have hone : ∀ i0 ∈ ks, (e i0).wr = [] ∧ ∀ o, ops[i0]? = some o → (∀ ev, eA o.op ev = none ∧ iR o.op ev = none) ∧ ∀ nb, aop P o.op (evA G (sAt D e s i0).get) (upd (sAt D e s i0).row (e j0).wr) nb = some (e i0) := by
  intro i0 hi0
  obtain ⟨hij0, o0, d, ho0, hrd, hgd0, hdst0, hsl⟩ := hload i0 hi0
  obtain ⟨r1, r2, r3⟩ := DR hrd
  obtain ⟨_, hst0⟩ := h1 i0 o0 (hlist i0 o0 ho0)
  have hw0 : OpC P G o0.op (evA G (sAt D e s i0).get) (sAt D e s i0).row (sAt D e s i0).h.length (F i0) (e i0) := by
   rcases hst0 with h | h
   ·exact h.2
   ·have := h.1
    unfold hJ at this
    rw [hgd0] at this
    cases this
  unfold OpC at hw0
  rw [(r1 _).1] at hw0
  simp only [(r1 _).2] at hw0
  obtain ⟨ha0, hF0⟩ := hw0
  have hwr0 := r3 _ _ _ _ _ ha0
  refine ⟨hwr0, fun o ho => ?_⟩
  rw [ho0] at ho
  injection ho with ho
  subst ho
  refine ⟨r1, fun nb => ?_⟩
  have hd0 : D i0 = some d := by simp only [D, hD, ho0, Option.bind_some, hdst0]
  have hgd : (sAt D e s (j0 + 1)).get d = (e i0).val := by
   have e1 : j0 + 1 = i0 + 1 + (j0 - i0) := by omega
   rw [e1, y8 (i0 + 1) (j0 - i0) fun j h1 h2 hjt => by
    simp only [D, hD] at hjt
    rcases (hsl j (by omega) (by omega) d hjt).2 with h | h
    ·omega
    ·exact h rfl]
   show ((sAt D e s i0).apply (D i0) (e i0)).get d = _
   rw [hd0]
   simp only [AS.apply]
   rw [AS.get_put, if_pos rfl]
  have hga : (sAt D e s (j0 + 1)).get (j3 o0.op) = (sAt D e s i0).get (j3 o0.op) := by
   have e1 : j0 + 1 = i0 + (j0 + 1 - i0) := by omega
   rw [e1]
   refine y8 i0 _ fun j h1 h2 hjt => ?_
   simp only [D, hD] at hjt
   exact (hsl j (by omega) (by omega) _ hjt).1 rfl
  obtain ⟨d', hd', hs1⟩ := wU h3 (o0.dst, o0.op, o0.guard.map fun p => ((ops[p.1]?).bind (·.dst), p.2)) (List.mem_filterMap.2 ⟨i0, hi0, by simp [dY, ho0]⟩)
  simp only at hd' hs1
  rw [hdst0] at hd'
  injection hd' with hd'
  subst hd'
  have hs2 : aop P o0.op (evA G (sAt D e s i0).get) (sAt D e s (j0 + 1)).row nb = some (e i0) := by
   rw [← r2 P _ _ G (sAt D e s (j0 + 1)).row nb 0 hga]
   refine hs1.trans ?_
   show some (Eff.mk ((sAt D e s (j0 + 1)).get d) []) = some (e i0)
   rw [hgd]
   cases hq : e i0 with
   | mk v wr =>
    rw [hq] at hwr0
    simp only at hwr0
    subst hwr0
    rfl
  refine qJ hs2 (fun r hr => ?_) (fun r hr => by rw [hwr0] at hr; cases hr)
  show _ = ((sAt D e s j0).apply (D j0) (e j0)).row r
  simp only [AS.apply]
  rw [AS.row_put, AS.row_wr]
  refine b4 _ _ _ r ?_
  have e1 : j0 = i0 + (j0 - i0) := by omega
  refine Eq.symm ?_
  rw [e1]
  refine FD i0 _ fun j h5 h6 hw => ?_
  have := h4 i0 hi0 j (by omega)
  have gi := gA F e ops.size i0 (by omega)
  have gj := gA F e ops.size j (by omega)
  rw [gi, gj] at this
  simp only [Bool.or_eq_true, decide_eq_true_eq] at this
  rcases this with h | h
  ·omega
  ·exact e9 h hw (by rw [hF0]; exact hr)
 refine wpIn_region_any hm ?_
 have hst := k8 i.inv { E.w with drawn := E.w.drawn + 1 } E.S rfl rfl rfl (Nat.le_refl _) (fun b hb => rfl) (fun b hb => hb) (fun b hb => .inl hb)
 have i1 : Sim G n s ⟨{ E.w with drawn := E.w.drawn + 1 }, E.S, E.ρ, E.rows⟩ a := ⟨hst.2, i.rows, i.sz, fun t => (i.tm t).ext i.inv hst.1, i.df.ext hst.1⟩
 refine KQ (Q' := fun e a' w' => ∃ s' E', w' = E'.w ∧ ExtK k E E' ∧ Sim G n s' E' a' ∧ Q e s') (n := n) (s := s) (E0 := ⟨{ E.w with drawn := E.w.drawn + 1 }, E.S, E.ρ, E.rows⟩) (e := e) (F := F) (D := fun i => (ops.toList[i]?).bind (·.dst))
  (fun i o ho => by simp only [hlist i o ho, Option.bind_some]) (fun i hi => by
   have : ops.toList[i]? = none := by simpa using hi
   simp only [this, Option.bind_none]) (fun i o ho => h1 i o (hlist i o ho)) hA hB (fun i => i ∈ ks) j0 (fun i hi => (hload i hi).1) hj0 (fun i hi => (hone i hi).1) (fun i o hi ho => (hone i hi).2 o ho) hC ?_
  ops.size (Array.replicate ops.size false) s ⟨{ E.w with drawn := E.w.drawn + 1 }, E.S, E.ρ, E.rows⟩ a ?_ (by simp) ?_ ?_ ?_ i1 (Ext.refl _)
 ·intro s' E' a' hg hr hsim x
  rw [hl] at hQ
  exact ⟨_, E', rfl, (hst.1.trans x).toK k, hsim.congr hg.symm hr.symm, hQ⟩
 ·have := List.countP_le_length (p := fun i => !(Array.replicate ops.size false).getD i false) (l := List.range ops.size)
  simpa [oY] using this
 ·intro j o _ hj
  simp [Array.getElem?_replicate] at hj
  split at hj <;> simp at hj
 ·intro t
  rw [xV (Nat.zero_le _) (fun j hj => by omega) (fun j _ _ _ => by simp [Array.getElem?_replicate]; split <;> rfl)]
  rfl
 ·intro r
  rw [sW (D := fun _ => none) (Nat.zero_le _) (fun j hj => by omega) (fun j _ _ _ => by simp [Array.getElem?_replicate]; split <;> rfl)]
  rfl
end
def MZ (P : Program) (G : Nat → Option (List AV)) (n : Nat) (sl : List POp) (K : Option Acc → AS → Prop) (l : List POp) (m : Option Acc) (s1 : AS) : Prop := kQ P G s1 sl ∧ aP P G n K l m s1
theorem A9 {P : Program} {G : Nat → Option (List AV)} {n : Nat} {ι : Type} {R : ι → Prop} {sl : List POp} {K : ι → Option Acc → AS → Prop} {l : List POp} {m : Option Acc} {s1 : AS} (h : kQ P G s1 sl) (hk : EG R (fun i => aP P G n (K i) l m s1)) : EG R (fun i => MZ P G n sl (K i) l m s1) := hk.mono fun _ q => ⟨h, q⟩
theorem lO [Rnd] {P : Program} {G : Nat → Option (List AV)} {n k : Nat} {ι : Type} {R : ι → Prop} {Q : ι → Exit → AS → Prop} {s : AS} {id : Nat} {ops : Array Oper} (ks : List Nat) (j0 : Nat) (hm : P.follows .mixedOrders = true) (hs : gQ ops = true) (hso : DL ops ks j0 = true)
  (h : EG R (fun i => aP P G n (MZ P G n (pick (dY ops) ks) (fun m s' => MK ops ks j0 m ∧ Q i .normal s') ((dY ops).drop (j0 + 1))) ((dY ops).take (j0 + 1)) (some []) s)) : EG R (fun i => AWp P G n k (.region id ops true) (Q i) s) := h.mono fun _ q => AL ks j0 hm hs hso q
end Go.AM
set_option linter.unusedVariables false
set_option linter.unusedSimpArgs false
namespace Go.AM
def swp (a b r : Nat) : Nat := if r = a then b else if r = b then a else r
theorem rQ (a b r : Nat) : swp a b (swp a b r) = r := by
 unfold swp
 split
 ·rename_i h; subst h
  split
  ·rename_i h; exact h
  ·simp
 ·split
  ·rename_i h; subst h; simp
  ·rename_i h1 h2; simp [h1, h2]
theorem LA {a b r r' : Nat} (h : swp a b r = swp a b r') : r = r' := by rw [← rQ a b r, h, rQ]
theorem I4 {a b r : Nat} (h1 : r ≠ a) (h2 : r ≠ b) : swp a b r = r := by simp [swp, h1, h2]
def fH (a b : Nat) (E : En) : En := ⟨E.w, E.S, fun r => E.ρ (swp a b r), fun r => E.rows (swp a b r)⟩
theorem GG (a b : Nat) (E : En) : fH a b (fH a b E) = E := by
 obtain ⟨w, S, ρ, rows⟩ := E
 simp only [fH, rQ]
def oN (a b : Nat) : Nat → Bool := fun q => decide (q ≠ a) && decide (q ≠ b)
theorem nA (a b : Nat) (E : En) : dG (oN a b) E (fH a b E) := by
 have key : ∀ r, oN a b r = true → swp a b r = r := fun r h => by
  simp only [oN, Bool.and_eq_true, decide_eq_true_eq] at h
  exact I4 h.1 h.2
 refine ⟨rfl, fun _ h => h, fun r hr => .inl ?_, fun r hr _ => ?_⟩
 ·show E.rows (swp a b r) = _
  rw [key r hr]
 ·show E.ρ (swp a b r) = _
  rw [key r hr]
theorem B8 {G : Nat → Option (List AV)} {a b : Nat} {E : En} (hG : ∀ g cs, G g = some cs → inL aB cs = true) (i : Inv G E) (h : ∀ r, aD (oN a b) (E.rows r) = true) : Inv G (fH a b E) := by
 have ag := nA a b E
 refine ⟨fun r => ?_, fun r r' h1 h2 hne => i.inj (swp a b r) (swp a b r') h1 h2 (fun e => hne (LA e)), i.sb, fun g cs hg => ?_⟩
 ·have h0 := i.row (swp a b r)
  have hin := h (swp a b r)
  unfold RowOK at h0 ⊢
  show match E.rows (swp a b r) with
   | _ => _
  simp only [fH]
  cases hrr : E.rows (swp a b r) with
  | none => trivial
  | dead => trivial
  | cells ver cs =>
   rw [hrr] at h0 hin
   obtain ⟨cur, e, vs, a1, a2, a3, a4⟩ := h0
   exact ⟨cur, e, vs, a1, a2, a3.agree ag hin, a4⟩
  | map ks vs =>
   rw [hrr] at h0 hin
   simp only [aD, Bool.and_eq_true] at hin
   obtain ⟨es, clock, a1, a2, a3, a4, a5⟩ := h0
   exact ⟨es, clock, a1, a2, a3, a4.agree ag hin.1, a5.agree ag hin.2⟩
  | iter ks vs l j =>
   rw [hrr] at h0 hin
   simp only [aD, Bool.and_eq_true] at hin
   obtain ⟨mb, es, clock, since, seen, a1, a2, a3, a4, a5, a6, a7, a8, a9⟩ := h0
   exact ⟨mb, es, clock, since, seen, a1, a2, a3, a4, a5, a6, a7.agree ag hin.1, a8.agree ag hin.2, a9⟩
  | loop st pend fr ps asg body =>
   rw [hrr] at h0 hin
   obtain ⟨fn, tm, D, a1, a2, a3⟩ := h0
   exact ⟨fn, tm, D, a1, a2, a3.agree ag hin⟩
 ·obtain ⟨vs, a1, a2, a3⟩ := i.glob g cs hg
  exact ⟨vs, a1, a2.agree ag (aV (fun r hr => by cases hr) (hG g cs hg)), a3⟩
theorem I5 {a b : Nat} {E E' : En} (x : Ext E E') : Ext (fH a b E) (fH a b E') := by
 refine ⟨x.os, x.tape, x.output, x.sz, x.sub, fun q hq hl => x.out q hq fun r hr => ?_, fun r h => x.dead _ h, fun r ver cs h => x.cells _ ver cs h, fun r h => x.map _ h, fun r h => x.fresh _ h⟩
 have := hl (swp a b r)
 simp only [fH, rQ] at this
 exact this hr
def F2 (fq : List Nat) (a b : Nat) : List AV → List AV → Prop
 | [], [] => True
 | x :: xs, y :: ys => ((x = y ∧ inR (fun r => fq.contains r) x = true) ∨ ∃ ver off n sz f, x = .osl a ver off n sz f ∧ y = .osl b ver off n sz f) ∧ F2 fq a b xs ys
 | _, _ => False
def DP (a b : Nat) (wr : List (Nat × ARow)) : List (Nat × ARow) := wr.map fun p => (if p.1 = a then b else p.1, p.2)
theorem F6 {a b : Nat} {fq : List Nat} (ha : a ∉ fq) (hb : b ∉ fq) : ∀ (wr : List (Nat × ARow)) (rows rows' : Nat → ARow), (∀ p ∈ wr, p.1 ∈ a :: fq) → rows a = rows' b → (∀ r ∈ fq, rows r = rows' r) → upd rows' (DP a b wr) b = upd rows wr a ∧ ∀ r ∈ fq, upd rows' (DP a b wr) r = upd rows wr r
 | [], _, _, _, h1, h2 => ⟨h1.symm, fun r hr => (h2 r hr).symm⟩
 | p :: wr, rows, rows', h, h1, h2 => by
  simp only [DP, List.map_cons, upd]
  refine F6 ha hb wr _ _ (fun q hq => h q (by simp [hq])) ?_ ?_
  ·by_cases hp : p.1 = a
   ·simp [hp]
   ·have hm : p.1 ∈ fq := by
     rcases List.mem_cons.1 (h p (by simp)) with h | h
     ·exact absurd h hp
     ·exact h
    have hpb : p.1 ≠ b := fun e => hb (e ▸ hm)
    simp [hp, Ne.symm hp, Ne.symm hpb, h1]
  ·intro r hr
   have hra : r ≠ a := fun e => ha (e ▸ hr)
   have hrb : r ≠ b := fun e => hb (e ▸ hr)
   by_cases hp : p.1 = a
   ·simp [hp, hra, hrb, h2 r hr]
   ·simp [hp, h2 r hr]
theorem HB {P : Program} {G : Nat → Option (List AV)} {f : FuncId} {args args' : List AV} {rows rows' : Nat → ARow} {fq : List Nat} {a b : Nat} {val : AV} {wr : List (Nat × ARow)} (hG : ∀ g cs, G g = some cs → inL aB cs = true)
  (h : cC P G f args rows (a :: fq) ⟨val, wr⟩) (ha : a ∉ fq) (hb : b ∉ fq) (h1 : rows a = rows' b) (h2 : ∀ r ∈ fq, rows r = rows' r) (hin : ∀ r ∈ b :: fq, aD (fun r => fq.contains r) (rows' r) = true)
  (hargs : F2 fq a b args args') (hval : inR (fun r => fq.contains r) val = true) (hend : ∀ r ∈ a :: fq, aD (fun r => fq.contains r) (upd rows wr r) = true) : cC P G f args' rows' (b :: fq) ⟨val, DP a b wr⟩ := by
 obtain ⟨hgo, hwr, hc⟩ := h
 have hwr' : ∀ p ∈ DP a b wr, p.1 ∈ b :: fq := by
  intro p hp
  obtain ⟨q, hq, rfl⟩ := List.mem_map.1 hp
  have := hwr q hq
  simp only
  split
  ·simp
  ·rename_i hne
   rcases List.mem_cons.1 this with h | h
   ·exact absurd h hne
   ·simp [h]
 refine ⟨hgo, hwr', fun E us i hE hus => ?_⟩
 obtain ⟨m, hm⟩ : ∃ m, ∀ r ∈ b :: fq, r < m := by
  have : ∀ l : List Nat, ∃ m, ∀ r ∈ l, r < m := fun l => by
   induction l with
   | nil => exact ⟨0, fun r h => by cases h⟩
   | cons x l ih =>
    obtain ⟨m, hm⟩ := ih
    exact ⟨max m (x + 1), fun r hr => by
     rcases List.mem_cons.1 hr with rfl | hr
     ·omega
     ·have := hm r hr; omega⟩
  exact this _
 let H : List ARow := (List.range m).map fun r => if r ∈ b :: fq then rows' r else .dead
 have hHl : H.length = m := by simp [H]
 have hHg : ∀ r, H.getD r .none = if r < m then (if r ∈ b :: fq then rows' r else .dead) else .none := fun r => by
  simp only [H, List.getD_eq_getElem?_getD, List.getElem?_map]
  by_cases hr : r < m
  ·rw [List.getElem?_range hr]; simp [hr]
  ·rw [List.getElem?_eq_none (by simpa using hr)]; simp [hr]
 have hlt : ∀ r, fq.contains r = true → decide (r < H.length) = true := fun r hr => by rw [hHl]; simp at hr; simpa using hm r (by simp [hr])
 have ok : vB G H rows' (b :: fq) := by
  refine ⟨hG, fun r hr => ?_, fun r hr => ?_, fun r hr => bU hlt (hin r hr), fun r hr h => ?_⟩
  ·rw [hHg, if_pos (hm r hr), if_pos hr]
  ·rw [hHg, hHl, if_neg hr]
  ·rw [hHl] at h
   exact absurd (hm r hr) (by omega)
 obtain ⟨ic, ag, hrowfp, hcl⟩ := pB ok i hE
 have hoff : ∀ r, fq.contains r = true → oN a b r = true := fun r hr => by
  have hr : r ∈ fq := by simpa using hr
  simp only [oN, Bool.and_eq_true, decide_eq_true_eq]
  exact ⟨fun e => ha (e ▸ hr), fun e => hb (e ▸ hr)⟩
 have hcin : ∀ r, aD (oN a b) ((cut E H).rows r) = true := fun r => by
  show aD (oN a b) (H.getD r .none) = true
  rw [hHg]
  split
  ·split
   ·rename_i hr; exact bU hoff (hin r hr)
   ·rfl
  ·rfl
 have is := B8 hG ic hcin
 have ags := nA a b (cut E H)
 have hsa : swp a b a = b := by simp [swp]
 have hsb : swp a b b = a := by
  unfold swp
  split
  ·rename_i h; exact h
  ·simp
 have hsq : ∀ r ∈ fq, swp a b r = r := fun r hr => I4 (fun e => ha (e ▸ hr)) (fun e => hb (e ▸ hr))
 have hEs : ∀ r ∈ a :: fq, (fH a b (cut E H)).rows r = rows r := by
  intro r hr
  rcases List.mem_cons.1 hr with rfl | hr
  ·show H.getD (swp r b r) .none = _
   rw [hsa, ok.eqs b (by simp), h1]
  ·show H.getD (swp a b r) .none = _
   rw [hsq r hr, ok.eqs r (by simp [hr]), h2 r hr]
 have hus' : RelL (fH a b (cut E H)) args us := by
  have key : ∀ (xs ys : List AV) (us : List Value), F2 fq a b xs ys → RelL E ys us → RelL (fH a b (cut E H)) xs us := by
   intro xs
   induction xs with
   | nil => intro ys us h hr; cases ys with
    | nil => simpa only [RelL] using hr
    | cons => exact h.elim
   | cons x xs ih =>
    intro ys us h hr
    cases ys with
    | nil => exact h.elim
    | cons y ys =>
     simp only [RelL] at hr ⊢
     obtain ⟨v, rest, e, r1, r2⟩ := hr
     refine ⟨v, rest, e, ?_, ih ys rest h.2 r2⟩
     rcases h.1 with ⟨rfl, hx⟩ | ⟨ver, off, n, sz, fl, rfl, rfl⟩
     ·exact (r1.agree ag (eH hlt hx)).agree ags (eH hoff hx)
     ·have r1' := r1.agree ag (by simp only [inR]; rw [hHl]; simpa using hm b (by simp))
      simp only [Rel] at r1' ⊢
      simp only [fH, hsa]
      exact r1'
  exact key _ _ _ hargs hus
 refine Calls.mono (hc (fH a b (cut E H)) us is hEs hus') ?_
 rintro e w' ⟨v, Es', rfl, rfl, rv, xs, is', hrows'⟩
 have hcin' : ∀ r, aD (oN a b) (Es'.rows r) = true := fun r => by
  rw [hrows']
  by_cases hr : r ∈ a :: fq
  ·rw [b4 wr _ rows r (hEs r hr)]
   exact bU hoff (hend r hr)
  ·rw [eY wr _ r fun p hp e => hr (e ▸ hwr p hp)]
   exact hcin _
 have ic' := B8 (a := a) (b := b) hG is' hcin'
 have xc : Ext (cut E H) (fH a b Es') := by
  have := I5 (a := a) (b := b) xs
  rw [GG] at this
  exact this
 have hup := F6 ha hb wr rows rows' hwr h1 h2
 obtain ⟨E', c1, c2, c3, c4, c5⟩ := pC (eff := ⟨val, DP a b wr⟩) ok i hE hwr' (xc.toK H.length) ic' (fun r hr => by
  have hcon : ∀ q, fq.contains q = true → (b :: fq).contains q = true := fun q hq => by simp at hq ⊢; exact .inr hq
  show Es'.rows (swp a b r) = _ ∧ aD _ (Es'.rows (swp a b r)) = true
  rw [hrows']
  rcases List.mem_cons.1 hr with rfl | hr
  ·rw [hsb, b4 wr _ rows a (hEs a (by simp))]
   exact ⟨hup.1.symm, bU hcon (hend a (by simp))⟩
  ·rw [hsq r hr, b4 wr _ rows r (hEs r (by simp [hr]))]
   exact ⟨(hup.2 r hr).symm, bU hcon (hend r (by simp [hr]))⟩) (eH (fun q hq => by simp at hq ⊢; exact .inr hq) hval) (rv.agree (nA a b Es') (eH hoff hval))
 exact ⟨v, E', rfl, c1, c2, c3, c4, c5⟩
end Go.AM
set_option linter.unusedVariables false
set_option linter.unusedSimpArgs false
namespace Go.AM
theorem s5 {E : En} {r ver n sz : Nat} {cs : List AV} (hE : E.rows r = .cells ver cs) {post : List AV} : ∀ {pre : List AV} {us : List Value}, RelL E (pre ++ .osl r ver 0 n sz false :: post) us → RelL E (pre ++ .osl r ver 0 n sz true :: post) us ∨ RelL E (pre ++ .rsl r ver 0 n sz :: post) us
 | [], us, h => by
  simp only [List.nil_append, RelL] at h ⊢
  obtain ⟨u, rest, rfl, h1, h2⟩ := h
  simp only [Rel, hE, RefOK] at h1
  obtain ⟨o, _, h1⟩ := h1
  obtain ⟨cap, cur, e, q1, q2, q3, q4, q5, q6⟩ := h1 trivial
  by_cases hcap : cap = n
  ·exact .inl ⟨u, rest, rfl, by simp only [Rel, hE, RefOK]; exact ⟨o, Nat.le_refl _, fun _ => ⟨cap, cur, e, q1, q2, q3, fun _ => hcap, q5, q6⟩⟩, h2⟩
  ·exact .inr ⟨u, rest, rfl, by simp only [Rel, hE, RefOK]; exact ⟨o, Nat.le_refl _, fun _ => ⟨cap, cur, e, q1, q2, q3, by omega, q5, q6⟩⟩, h2⟩
 | a :: pre, us, h => by
  simp only [List.cons_append, RelL] at h ⊢
  obtain ⟨u, rest, rfl, h1, h2⟩ := h
  rcases s5 hE h2 with h3 | h3
  ·exact .inl ⟨u, rest, rfl, h1, h3⟩
  ·exact .inr ⟨u, rest, rfl, h1, h3⟩
theorem D1 {P : Program} {G : Nat → Option (List AV)} {f : FuncId} {pre post : List AV} {r ver n sz : Nat} {cs : List AV} {rows : Nat → ARow} {fp : List Nat} {v : AV} {wr1 wr2 wr : List (Nat × ARow)}
  (h1 : cC P G f (pre ++ .osl r ver 0 n sz true :: post) rows fp ⟨v, wr1⟩) (h2 : cC P G f (pre ++ .rsl r ver 0 n sz :: post) rows fp ⟨v, wr2⟩) (hr : r ∈ fp) (hrow : rows r = .cells ver cs) (hw : ∀ p ∈ wr, p.1 ∈ fp)
  (c1 : ∃ c, upd rows wr1 r = .cells ver c ∧ c.take cs.length = cs) (c2 : ∃ c, upd rows wr2 r = .cells ver c ∧ c.take cs.length = cs)
  (e1 : ∀ q ∈ fp, q ≠ r → upd rows wr1 q = upd rows wr q) (e2 : ∀ q ∈ fp, q ≠ r → upd rows wr2 q = upd rows wr q) (er : upd rows wr r = .cells ver cs) : cC P G f (pre ++ .osl r ver 0 n sz false :: post) rows fp ⟨v, wr⟩ := by
 obtain ⟨hgo, w1, k1⟩ := h1
 obtain ⟨_, w2, k2⟩ := h2
 refine ⟨hgo, hw, fun E us i hE hus => ?_⟩
 have hEr : E.rows r = .cells ver cs := (hE r hr).trans hrow
 have fin : ∀ (wr' : List (Nat × ARow)), (∀ p ∈ wr', p.1 ∈ fp) → (∃ c, upd rows wr' r = .cells ver c ∧ c.take cs.length = cs) → (∀ q ∈ fp, q ≠ r → upd rows wr' q = upd rows wr q) → ∀ (e : Ending) (w' : World), (∃ u E', e = .returned u ∧ w' = E'.w ∧ Rel E' v u ∧ Ext E E' ∧ Inv G E' ∧ E'.rows = upd E.rows wr') →
   ∃ u E', e = .returned u ∧ w' = E'.w ∧ Rel E' v u ∧ Ext E E' ∧ Inv G E' ∧ E'.rows = upd E.rows wr := by
  rintro wr' hw' ⟨c, hc1, hc2⟩ he e w' ⟨u, E', a1, a2, a3, a4, a5, a6⟩
  have hx2 := FF a5 (r := r) (ver := ver) (c := c) (cs := cs) (by rw [a6, b4 wr' _ rows r (hE r hr), hc1]) hc2
  refine ⟨u, ⟨E'.w, E'.S, E'.ρ, upd E'.rows [(r, .cells ver cs)]⟩, a1, a2, a3.ext a5 hx2.1, a4.trans hx2.1, hx2.2, ?_⟩
  funext q
  show upd E'.rows [(r, .cells ver cs)] q = _
  rw [dL]
  by_cases hq : q = r
  ·subst hq
   rw [if_pos rfl, b4 wr _ rows q (hE q hr), er]
  ·rw [if_neg hq, a6]
   by_cases hm : q ∈ fp
   ·rw [b4 wr' _ rows q (hE q hm), b4 wr _ rows q (hE q hm), he q hm hq]
   ·rw [eY wr' _ q fun p hp e => hm (e ▸ hw' p hp), eY wr _ q fun p hp e => hm (e ▸ hw p hp)]
 rcases s5 hEr hus with hl | hl
 ·exact (k1 E us i hE hl).mono fun e w' hh => fin wr1 w1 c1 e1 e w' hh
 ·exact (k2 E us i hE hl).mono fun e w' hh => fin wr2 w2 c2 e2 e w' hh
end Go.AM
set_option linter.unusedVariables false
set_option linter.unusedSimpArgs false
namespace Go.AM
theorem wG {P : Program} {G : Nat → Option (List AV)} {r : Nat} {args targs : List AV} {rows : Nat → ARow} {fp : List Nat} {eff : Eff} (lfp : List Nat) (h : vA P G r targs rows fp eff) (hl : FrzL rows lfp args targs) (hd : ∀ q ∈ fp, q ∉ lfp) :
  vA P G r args rows (fp ++ lfp) ⟨eff.val, eff.wr ++ lfp.map fun q => (q, .dead)⟩ := by
 obtain ⟨hrf, hob, hwr, hc⟩ := h
 refine ⟨List.mem_append_left _ hrf, hob, fun p hp => ?_, fun E us i hE hus => ?_⟩
 ·rcases List.mem_append.1 hp with hp | hp
  ·exact List.mem_append_left _ (hwr p hp)
  ·obtain ⟨q, hq, rfl⟩ := List.mem_map.1 hp
   exact List.mem_append_right _ hq
 ·have hEl : ∀ q ∈ lfp, E.rows q = rows q := fun q hq => hE q (List.mem_append_right _ hq)
  obtain ⟨fn, tmps, asg, body, a, b⟩ := hc (bZ E lfp) us (p9 i) (fun q hq => by
   simp only [bZ, if_neg (hd q hq)]
   exact hE q (List.mem_append_left _ hq)) (p8 i hEl hl hus)
  refine ⟨fn, tmps, asg, body, a, b.mono fun e w' hr => ?_⟩
  obtain ⟨v, E1, rfl, rfl, h3, h4, h5, h6⟩ := hr
  refine ⟨v, E1, rfl, rfl, h3, qA.trans h4, h5, ?_⟩
  rw [h6, yU]
  funext q
  rw [jX (fun _ => .dead)]
  by_cases hm : q ∈ lfp
  ·rw [if_pos hm, eY _ _ _ fun p hp e => hd p.1 (hwr p hp) (e ▸ hm)]
   simp [bZ, hm]
  ·rw [if_neg hm]
   exact b4 _ _ _ _ (by simp [bZ, hm])
theorem qE {P : Program} {G : Nat → Option (List AV)} {n : Nat} {K : Option Acc → AS → Prop} {d : Option Tmp} {rest : List POp} {m : Option Acc} {s : AS} {args : List AV} {r : Nat} : bC P G n K d rest m s args (.yld r) = NI P G n K d rest m s r args := rfl
theorem eI {rows : Nat → ARow} {r r' r'' i : Nat} {x y z : ARow} : upd rows [(r, x), (r', y), (r'', z)] i = if i = r'' then z else if i = r' then y else if i = r then x else rows i := rfl
theorem CJ {s : AS} {r r' r'' : Nat} {x y z : ARow} : (s.wr [(r, x), (r', y), (r'', z)]).h = dB (dB (dB s.h r x) r' y) r'' z := rfl
theorem K8 {P : Program} {G : Nat → Option (List AV)} {n : Nat} {K : Option Acc → AS → Prop} {d : Option Tmp} {rest : List POp} {m : Option Acc} {fp : List Nat} {s : AS} {t u : TypeId} {sz by' : Nat} {x : AV} {rows : Nat → ARow} {nb r ver len : Nat} {new cs : List AV} (ht : pO P t u = some (sz, by')) (hr : aH rows r ver = some cs) (hn : len * sz ≤ cs.length) (hs : cU sz x rows = some (1, new))
  (hk : aP P G n K rest (adv m fp [r]) ((s.wr [(r, .cells ver (cs.take (len * sz) ++ new ++ cs.drop ((len + 1) * sz)))]).put d (.osl r ver 0 (len + 1) sz false))) : bH P G n K d rest m fp s (cP P t u (.rsl r ver 0 len sz) x rows nb) := by
 rw [gK ht _ hs]
 simp only [hr]
 rw [if_pos ⟨trivial, trivial, trivial, hn⟩]
 exact hk
end Go.AM
set_option linter.unusedVariables false
set_option linter.unusedSimpArgs false
namespace Go.AM
theorem z4 : ∀ {H : List ARow} {r : Nat} {x : ARow}, r < H.length → H.getD r .none = x → dB H r x = H
 | [], _, _, h, _ => by cases h
 | a :: H, 0, x, _, h => by simp only [List.getD_cons_zero] at h; subst h; rfl
 | a :: H, r + 1, x, h, g => by
  simp only [dB]
  rw [z4 (by simpa using h) (by simpa using g)]
section
variable {P : Program} {G : Nat → Option (List AV)} {n : Nat} {K : Option Acc → AS → Prop} {d : Option Tmp} {rest : List POp} {fp : List Nat} {s : AS} {t u : TypeId} {sz by' nb : Nat} {x : AV} {rows : Nat → ARow}
def rvN (v : Nat) (app : List (List AV)) : Nat := if app = [] then 0 else v + 1
theorem MG {r v : Nat} {app es : List (List AV)} (ht : pO P t u = some (sz, by')) (hr : rows r = rvR v app) (hr0 : s.row r = rvR v app) (hlt : r < s.h.length) (hsz : ∀ e ∈ app, e.length = sz) (hs : cU sz x rows = some (es.length, es.flatten)) (hb : (app.length + es.length) * (by' + 1) ≤ 140737488355328)
  (hk : aP P G n K rest none ((s.wr [(r, rvR (rvN v app) (app ++ es))]).put d (rv r (rvN v app) sz (app ++ es)))) : bH P G n K d rest none fp s (cP P t u (rv r v sz app) x rows nb) := by
 by_cases he : es = []
 ·subst he
  by_cases ha : app = []
  ·subst ha
   refine MH rfl ht hs ?_
   have : s.wr [(r, rvR (rvN v []) ([] ++ []))] = s := by
    show AS.mk s.fr (dB s.h r .none) = s
    rw [z4 hlt (show s.h.getD r .none = .none from hr0)]
   rw [this] at hk
   exact hk
  ·have hrv : rv r v sz app = .osl r v 0 app.length sz false := if_neg ha
   have hr' : rows r = .cells v app.flatten := by rw [hr]; exact if_neg ha
   rw [hrv]
   refine kH (mm := 0) (new := []) (cs := app.flatten) ht hr' (b9 hsz) hs hb ?_
   simp only [rv, rvR, rvN, List.append_nil, if_neg ha] at hk ⊢
   exact hk
 ·refine gB (m := none) ht hr rfl hsz hs he hb ?_
  exact hk
def HP (P : Program) (t u : TypeId) : Option (Nat × Nat × List AV) := match dS P t with
 | none => none
 | some e => match bQ P e, b8 P e, (bS P e).bind AV.toCells with
  | some sz, some by', some z => if nQ P u = true ∧ z.length = sz then some (sz, by', z) else none
  | _, _, _ => none
theorem GC {z : List AV} (h : HP P t u = some (sz, by', z)) (v : AV) (m : Nat) :
  cP P t u v (.int .i64 m) rows nb = EU P u v (.int .i64 m) rows nb sz by' z ∧ nQ P u = true ∧ z.length = sz := by
 unfold HP at h
 split at h
 ·cases h
 ·rename_i e he
  split at h
  ·rename_i sz0 by0 z0 h1 h2 h3
   simp only [Option.ite_none_right_eq_some, Option.some.injEq, Prod.mk.injEq] at h
   obtain ⟨hc, rfl, rfl, rfl⟩ := h
   refine ⟨?_, hc⟩
   unfold cP
   rw [he]
   simp only [h1, h2, h3, cU]
  ·cases h
theorem MF {r v m : Nat} {app : List (List AV)} {z : List AV} (ht : HP P t u = some (sz, by', z)) (hr : rows r = rvR v app) (hr0 : s.row r = rvR v app) (hlt : r < s.h.length) (hsz : ∀ e ∈ app, e.length = sz) (hm : m ≤ 1000000000) (hmb : (m : Int) * by' ≤ 281474976710656) (hb : (app.length + m) * (by' + 1) ≤ 140737488355328)
  (hk : aP P G n K rest none ((s.wr [(r, rvR (if m = 0 then v else rvN v app) (app ++ List.replicate m z))]).put d (rv r (if m = 0 then v else rvN v app) sz (app ++ List.replicate m z)))) : bH P G n K d rest none fp s (cP P t u (rv r v sz app) (.int .i64 m) rows nb) := by
 obtain ⟨e0, e1, e2⟩ := GC (rows := rows) (nb := nb) ht (rv r v sz app) m
 rw [e0]
 by_cases h0 : m = 0
 ·subst h0
  have : s.wr [(r, rvR v app)] = s := by
   show AS.mk s.fr (dB s.h r (rvR v app)) = s
   rw [z4 hlt (show s.h.getD r .none = rvR v app from hr0)]
  simp only [if_true, List.replicate, List.append_nil] at hk
  rw [this] at hk
  by_cases ha : app = []
  ·subst ha
   rw [f5] at hk ⊢
   simp only [EU, iW, Int.natCast_zero, e1, and_self, if_true]
   exact hk
  ·have hrv : rv r v sz app = .osl r v 0 app.length sz false := if_neg ha
   have hr' : rows r = .cells v app.flatten := by rw [hr]; exact if_neg ha
   rw [hrv] at hk ⊢
   simp only [EU, iW, Int.natCast_zero, e1, and_self, if_true, aH, hr']
   exact hk
 ·have hi : ¬ ((m : Int) = 0) := by omega
  have hc : (0 : Int) ≤ m ∧ (m : Int) ≤ 1000000000 ∧ nQ P u = true ∧ z.length = sz ∧ (m : Int) * by' ≤ 281474976710656 := ⟨by omega, by omega, e1, e2, hmb⟩
  simp only [EU, if_neg hi, if_pos hc, Int.toNat_natCast]
  simp only [if_neg h0] at hk
  have hne2 : app ++ List.replicate m z ≠ [] := by
   cases m with
   | zero => exact absurd rfl h0
   | succ m => simp [List.replicate]
  by_cases ha : app = []
  ·subst ha
   rw [f5]
   have hr' : rows r = .none := hr
   simp only [v9]
   rw [if_pos (by simpa using hb), if_neg h0, hr']
   rw [List.nil_append] at hne2
   simp only [rv, rvR, List.nil_append, if_neg hne2, rvN, if_true, List.length_replicate] at hk
   exact hk
  ·have hrv : rv r v sz app = .osl r v 0 app.length sz false := if_neg ha
   have hr' : rows r = .cells v app.flatten := by rw [hr]; exact if_neg ha
   rw [hrv]
   have hl := b9 hsz
   simp only [v9, aH, hr', if_true]
   rw [if_pos ⟨trivial, by omega, hb⟩, if_neg (by simp), List.take_of_length_le (by omega)]
   simp only [rv, rvR, if_neg hne2, rvN, if_neg ha, List.flatten_append, List.length_append, List.length_replicate] at hk
   exact hk
end
end Go.AM
