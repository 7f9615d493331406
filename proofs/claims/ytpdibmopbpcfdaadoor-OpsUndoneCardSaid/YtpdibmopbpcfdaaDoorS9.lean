import Derived.Test.YtpdibmopbpcfdaaDoorQ1
import Derived.Test.YtpdibmopbpcfdaaDoorS8
set_option linter.unusedVariables false
set_option linter.unusedSimpArgs false
namespace Go.Proofs.YtpdibmopbpcfdaaDoor
open Go.AM
set_option maxRecDepth 100000
theorem at_node {D : Nat} {c' : List AV} : ∀ {p : List Int} {c : List AV}, NodeV D c → atC c p = some c' → NodeV D c' := by
  intro p
  induction p with
  | nil => intro c hc h; simp only [atC, Option.some.injEq] at h; exact h ▸ hc
  | cons i p ih =>
    intro c hc h
    simp only [atC] at h
    split at h
    · split at h
      · rename_i e he
        refine ih ?_ h
        cases hc with
        | @mk _ d hd k n m b es hl hh => exact (hh e (List.mem_of_getElem? he)).up (Nat.le_of_lt hd)
      · cases h
    · cases h
theorem clone36 (p : List Int) (hl : p.length ≤ 100000) : Pure Tryd.prog G0 36 [encI p] (encI p) := by
  by_cases hp : p = []
  · subst hp; exact clone_nil
  refine pure_of_body hG0 Tryd.func36 rfl (by kernel_rfl) (by simp [Tryd.ntmps36]) (by simp [inL, tree_encI]) (tree_encI _) ?_
  simp only [Tryd.ntmps36, enterF, Nat.reduceAdd]
  refine awp_end ?_
  have hem : (p.map fun n => [AV.int .i64 n]).isEmpty = false := by simpa using hp
  have hpos : 0 < p.length := List.length_pos_iff.2 hp
  repeat' (first | refine u'1 fun _ _ => ?_ | refine u'2 ?_ | (first | refine u'3 ?_ | refine u'4 ?_ | refine u'5 fun _ _ _ _ => ?_ | (refine u'6 (fun hg => ?_) (fun hg => ?_) <;> try simp only [hg])) <;> simp only [wS, simprocAttr, encI, hem, Bool.not_false] | (refine u'7 ?_; try simp only [wE, simprocAttr]) | refine u'8 ?_ | refine u'9 ?_)
  refine eff_new (sz := 1) (by' := 8) (mm := p.length) (new := cI p) (es := []) (by kernel_rfl) ?hb (by simp) ?hc (by omega) (by simp; omega) ?_
  case hb => simp only [wS, simprocAttr]; try exact rfl
  case hc =>
    have := src_sl (b := false) (rows := fun r => ARow.none) (encI_all p)
    rw [cI_flat, List.length_map] at this
    exact this
  simp only [wS, simprocAttr]
  repeat' (first | refine u'1 fun _ _ => ?_ | refine u'2 ?_ | (first | refine u'3 ?_ | refine u'4 ?_ | refine u'5 fun _ _ _ _ => ?_ | (refine u'6 (fun hg => ?_) (fun hg => ?_) <;> try simp only [hg])) <;> simp only [wS, simprocAttr] | (refine u'7 ?_; try simp only [wE, simprocAttr]) | refine u'8 ?_ | refine u'9 ?_)
  refine ⟨_, ref_end [] hG0 (t := 2) (r := 0) (ver := 0) (m := p.length) (sz := 1) (full := false) (es := p.map fun n => [AV.int .i64 n]) (cs := cI p) (by simp only [wS, simprocAttr]) (by simp only [wS, simprocAttr]) ?_ (by simp) ?_ (tree_ints p) trivial (by simp), body_ret1 rfl ?_⟩
  · rw [cI_flat, List.take_of_length_le (by rw [cI_len]; omega)]
  · intro e he
    obtain ⟨x, _, rfl⟩ := List.mem_map.1 he
    rfl
  · simp only [wS, simprocAttr]; rfl
def OpC (o : List AV) : Prop := ∃ (nm : ByteArray) (fk fn fm : Int) (fb : Bool) (fes : List (List AV)) (pk pn pm : Int) (pb : Bool) (pes : List (List AV)) (bk : Int), o = [.str nm, .int .i64 fk, .int .i64 fn, .int .i64 fm, .sl fb fes, .int .i64 pk, .int .i64 pn, .int .i64 pm, .sl pb pes, .int .i64 bk] ∧
  NodeV 8 [.int .i64 fk, .int .i64 fn, .int .i64 fm, .sl fb fes] ∧ NodeV 8 [.int .i64 pk, .int .i64 pn, .int .i64 pm, .sl pb pes] ∧ Pure Tryd.prog G0 27 [.agg o] (.bool true)
def applyO (E : Nat) (o c : List AV) : Option (List AV) := applyS E ((o.drop 1).take 4) ((o.drop 5).take 4) c
theorem applyO_ok {E : Nat} {o c : List AV} (hE : 1 ≤ E) (ho : OpC o) (hc : NodeV E c) : Pure Tryd.prog G0 14 [.agg o, .agg c] (applyV (applyO E o c)) := by
  obtain ⟨nm, fk, fn, fm, fb, fes, pk, pn, pm, pb, pes, bk, rfl, h1, h2, h3⟩ := ho
  exact apply_14 hE nm fk fn fm fb fes pk pn pm pb pes bk h1 h2 h3 c hc
theorem applyO_node {E : Nat} {o c : List AV} (hE : 1 ≤ E) (ho : OpC o) (hc : NodeV E c) : ∀ x, applyO E o c = some x → NodeV (8 + E) x ∧ wkL x = x := by
  obtain ⟨nm, fk, fn, fm, fb, fes, pk, pn, pm, pb, pes, bk, rfl, h1, h2, h3⟩ := ho
  exact fun x h => applyS_node hE h1 h2 hc h
def opS (E : Nat) (c : List AV) (p : List Int) : Nat → List (List AV) → List (List Int × Nat)
  | _, [] => []
  | k, o :: os => (if (applyO E o c).isSome = true then [(p, k)] else []) ++ opS E c p (k + 1) os
theorem opS_app (E : Nat) (c : List AV) (p : List Int) : ∀ (a : List (List AV)) (k : Nat) (b : List (List AV)), opS E c p k (a ++ b) = opS E c p k a ++ opS E c p (k + a.length) b
  | [], k, b => by simp [opS]
  | o :: a, k, b => by
    simp only [List.cons_append, opS, opS_app E c p a (k + 1) b, List.length_cons, List.append_assoc]
    rw [show k + 1 + a.length = k + (a.length + 1) by omega]
theorem opS_take {E : Nat} {c : List AV} {p : List Int} {ol : List (List AV)} {k : Nat} {o : List AV} (h : ol[k]? = some o) : opS E c p 0 (ol.take (k + 1)) = opS E c p 0 (ol.take k) ++ (if (applyO E o c).isSome = true then [(p, k)] else []) := by
  have hk := (List.getElem?_eq_some_iff.1 h).1
  rw [List.take_add_one, h, opS_app]
  simp only [Option.toList_some, opS, List.append_nil, List.length_take, Nat.zero_add]
  rw [Nat.min_eq_left (by omega)]
theorem opS_len (E : Nat) (c : List AV) (p : List Int) : ∀ (l : List (List AV)) (k : Nat), (opS E c p k l).length ≤ l.length
  | [], _ => Nat.le_refl _
  | o :: l, k => by
    have := opS_len E c p l (k + 1)
    simp only [opS, List.length_append, List.length_cons]
    split <;> simp <;> omega
def SE (l : List (List Int × Nat)) : List (List AV) := l.map fun x => [encI x.1, .int .i64 (x.2 : Nat)]
theorem SE_app2 {a : List (List AV)} {l : List (List Int × Nat)} (h : ∀ e ∈ a, e.length = 2) : ∀ e ∈ a ++ SE l, e.length = 2 := fun e he => by
  rcases List.mem_append.1 he with he | he
  · exact h e he
  · obtain ⟨x, _, rfl⟩ := List.mem_map.1 he
    rfl
theorem inE_app {p : Nat → Bool} : ∀ {a b : List (List AV)}, inE p a = true → inE p b = true → inE p (a ++ b) = true
  | [], _, _, h => h
  | x :: a, b, h, g => by
    simp only [List.cons_append, inE, Bool.and_eq_true] at h ⊢
    exact ⟨h.1, inE_app h.2 g⟩
theorem SE_tree (l : List (List Int × Nat)) : inE noRef (SE l) = true := by
  induction l with
  | nil => rfl
  | cons x l ih =>
    simp only [SE, List.map_cons, inE, inL, inR, Bool.and_true] at ih ⊢
    rw [tree_encI, ih]; rfl
theorem SE_appt {a : List (List AV)} {l : List (List Int × Nat)} (h : inE noRef a = true) : inE noRef (a ++ SE l) = true := inE_app h (SE_tree l)
theorem SE_t2 {a : List (List AV)} {ep : List (List AV)} {k : Int} (h : inE noRef a = true) (h2 : inE noRef ep = true) : inE noRef (a ++ [[.sl false ep, .int .i64 k]]) = true := inE_app h (by simp only [inE, inL, inR, h2, Bool.and_self])
theorem acc2_cons {q : Nat} {app : List (List AV)} {m : Nat} (h : app.length = m + 1) : accV [] q 2 app = .osl q m 0 (m + 1) 2 false ∧ accRow [] app = .cells m app.flatten := by
  have hne : app ≠ [] := fun e => by rw [e] at h; cases h
  refine ⟨?_, ?_⟩
  · rw [accV, if_neg hne, h]; simp
  · rw [accRow, h]; simp
theorem ref_kills [Rnd] {n k : Nat} {s : AS} (qs : List Nat) (l : List (Nat × AV)) {H H' : List ARow} (hh : s.h = H) (hlt : qs.all (fun q => decide (q < H.length)) = true) (hq : ∀ i, qs.contains i = true → H.getD i .none ≠ .none) (hl : holdsF l s.get) (he : deadH qs 0 H = H') : Ref G0 n k s ⟨mkF l, H'⟩ := by
  subst he hh
  exact ref_freeze qs l _ hlt (frzF_same hl) (frzH_dead 0 s.h fun i hi _ => hq i (by simpa using hi))
def sitesAt (E : Nat) (root : List AV) (ol : List (List AV)) (p : List Int) : List (List Int × Nat) := match atC root p with
  | some c => opS E (wkL c) p 0 ol
  | none => []
def sitesS (E : Nat) (root : List AV) (ol : List (List AV)) (ps : List (List Int)) : List (List Int × Nat) := ps.flatMap (sitesAt E root ol)
theorem sitesS_take {E : Nat} {root : List AV} {ol : List (List AV)} {ps : List (List Int)} {i : Nat} {p : List Int} (h : ps[i]? = some p) : sitesS E root ol (ps.take (i + 1)) = sitesS E root ol (ps.take i) ++ sitesAt E root ol p := by
  rw [List.take_add_one, h, sitesS, List.flatMap_append]
  simp [sitesS]
theorem sitesS_len (E : Nat) (root : List AV) (ol : List (List AV)) : ∀ ps : List (List Int), (sitesS E root ol ps).length ≤ ps.length * ol.length
  | [] => by simp [sitesS]
  | p :: ps => by
    have h1 := sitesS_len E root ol ps
    have h2 : (sitesAt E root ol p).length ≤ ol.length := by
      unfold sitesAt
      split
      · exact opS_len E _ p ol 0
      · simp
    simp only [sitesS, List.flatMap_cons, List.length_append, List.length_cons, Nat.add_mul, Nat.one_mul] at h1 ⊢
    omega
def OH (r0 : ARow) (app : List (List AV)) : List ARow := if app = [] then [r0] else [r0, .dead, .dead, .dead, accRow [] app]
theorem SE_append (a b : List (List Int × Nat)) : SE (a ++ b) = SE a ++ SE b := by simp [SE]
set_option maxHeartbeats 16000000 in
theorem sites_12 {E : Nat} (hE : 1 ≤ E) (root : List AV) (hroot : NodeV E root) (ob : Bool) (ol : List (List AV)) (hops : ∀ o ∈ ol, OpC o) (hol : ol.length ≤ 24) (ps : List (List Int)) (hpaths : Pure Tryd.prog G0 7 [.agg root] (.sl false (PE ps))) (hat : ∀ p ∈ ps, p.length ≤ 100000 ∧ ∃ c, atC root p = some c) (hB : ps.length ≤ 20000000000) :
    Pure Tryd.prog G0 12 [.agg root, .sl ob ol] (.sl false (SE (sitesS E root ol ps))) := by
  have hrt := hroot.tree
  have hot : inE noRef ol = true := by
    have : ∀ l : List (List AV), (∀ o ∈ l, OpC o) → inE noRef l = true := by
      intro l
      induction l with
      | nil => intro _; rfl
      | cons o l ih =>
        intro h
        simp only [inE, Bool.and_eq_true]
        refine ⟨?_, ih fun x hx => h x (by simp [hx])⟩
        obtain ⟨nm, fk, fn, fm, fb, fes, pk, pn, pm, pb, pes, bk, rfl, h1, h2, _⟩ := h o (by simp)
        have h1 := h1.tree
        have h2 := h2.tree
        simp only [inL, inR, Bool.true_and, Bool.and_true] at h1 h2 ⊢
        rw [h1, h2]; rfl
    exact this ol hops
  have hPl := PE_len ps
  have hPt := PE_tree ps
  have hPg : ∀ (i : Nat) (p : List Int), ps[i]? = some p → (PE ps)[i]? = some [encI p] := fun i p h => by simp [PE, h]
  obtain ⟨PSe, hPSe⟩ : ∃ x, x = PE ps := ⟨_, rfl⟩
  rw [← hPSe] at hpaths hPl hPt hPg
  have hroot2 := hroot
  have tt : ∀ {x : List (List AV)} {q : Nat → Bool}, inE noRef x = true → inE q x = true := fun h => inE_mono (p := noRef) (fun r hr => by cases hr) h
  have tL : ∀ {x : List AV} {q : Nat → Bool}, inL noRef x = true → inL q x = true := fun h => inL_mono (p := noRef) (fun r hr => by cases hr) h
  refine pure_of_body hG0 Tryd.func12 rfl (by kernel_rfl) (by simp [Tryd.ntmps12]) (by simp only [inL, inR, hrt, hot, Bool.and_self]) (by simp only [inR]; exact SE_tree _) ?_
  simp only [Tryd.ntmps12, enterF, Nat.reduceAdd]
  have hreq : ∃ rk rn rm rb res, root = [.int .i64 rk, .int .i64 rn, .int .i64 rm, .sl rb res] := by
    cases hroot with
    | @mk _ d hd a b c e f hl hh => exact ⟨_, _, _, _, _, rfl⟩
  obtain ⟨rk, rn, rm, rb, res, hreq⟩ := hreq
  have h24 : decide ((ol.length : Int) > 24) = false := by simp; omega
  refine awp_end ?_
  rw [hreq]
  rw [hreq] at hpaths hrt
  repeat' (first | refine u'1 fun _ _ => ?_ | refine u'2 ?_ | (first | refine u'3 ?_ | refine u'4 ?_ | refine u'5 fun _ _ _ _ => ?_ | (refine u'6 (fun hg => ?_) (fun hg => ?_) <;> try simp only [hg])) <;> simp only [wS, simprocAttr, h24] | (refine u'7 ?_; try simp only [wE, simprocAttr]) | refine u'8 ?_ | refine u'9 ?_)
  refine callR_tree hG0 hpaths ?_
  simp only [wS, simprocAttr]
  repeat' (first | refine u'1 fun _ _ => ?_ | refine u'2 ?_ | (first | refine u'3 ?_ | refine u'4 ?_ | refine u'5 fun _ _ _ _ => ?_ | (refine u'6 (fun hg => ?_) (fun hg => ?_) <;> try simp only [hg])) <;> simp only [wS, simprocAttr] | (refine u'7 ?_; try simp only [wE, simprocAttr]) | refine u'8 ?_ | refine u'9 ?_)
  obtain ⟨N, hN⟩ : ∃ N, N = PSe.length := ⟨_, rfl⟩
  have hNp : N = ps.length := by rw [hN, hPl]
  refine awp_loop_r (α := {i : Nat // i ≤ ps.length}) (fun i => [(1, .sl ob ol), (2, .ptr 0 0 0), (5, accV [] 4 2 (SE (sitesS E root ol (ps.take i.1)))), (18, .sl false PSe), (19, .int .i64 (N : Nat)), (20, .int .i64 (i.1 : Nat))]) (fun i => OH (.cells 0 [.int .i64 rk, .int .i64 rn, .int .i64 rm, .sl rb res]) (SE (sitesS E root ol (ps.take i.1)))) (fun i => ps.length - i.1) ⟨0, Nat.zero_le _⟩ (Weak.ref ⟨?_, .inl ?_⟩) ?_
  · simp only [wS, simprocAttr, sitesS, SE, List.flatMap_nil, hN]; try exact rfl
  · simp only [wS, simprocAttr, sitesS, SE, List.flatMap_nil, OH]; try exact rfl
  · rintro ⟨i, hi⟩ K2 hK2
    have e1' : i < ps.length → IntKind.i64.wrap ((i : Int) + 1) = ((i + 1 : Nat) : Int) := fun h => wrap_succ (k := i) h (by omega)
    have hsl := sitesS_len E root ol (ps.take i)
    rw [List.length_take, Nat.min_eq_left hi] at hsl
    have hil : i * ol.length ≤ 20000000000 * 24 := Nat.mul_le_mul (by omega) hol
    have hnxt : ∀ p c, ps[i]? = some p → atC root p = some c → SE (sitesS E root ol (ps.take (i + 1))) = SE (sitesS E root ol (ps.take i)) ++ SE (opS E (wkL c) p 0 ol) := fun p c hp hc => by rw [sitesS_take hp, SE_append, sitesAt, hc]
    simp only
    obtain ⟨app0, happ0⟩ : ∃ a, a = SE (sitesS E root ol (ps.take i)) := ⟨_, rfl⟩
    have hlen0 : app0.length ≤ 20000000000 * 24 := by rw [happ0, SE, List.length_map]; omega
    have hsz0 : ∀ e ∈ app0, e.length = 2 := by rw [happ0]; exact SE_app2 (a := []) (by simp)
    have htr0 : inE noRef app0 = true := by rw [happ0]; exact SE_tree _
    rw [← happ0]
    rw [← happ0] at hnxt
    by_cases happ : app0 = []
    · rw [happ]
      simp only [OH, if_true, accV_nil]
      repeat' (first | refine u'1 fun _ _ => ?_ | refine u'2 ?_ | (first | refine u'3 ?_ | refine u'4 ?_ | refine u'5 fun _ _ _ _ => ?_ | (refine u'6 (fun hg => ?_) (fun hg => ?_) <;> try simp only [hg])) <;> simp only [wS, simprocAttr] | (refine u'7 ?_; try simp only [wE, simprocAttr]) | refine u'8 ?_ | refine u'9 ?_)
      refine ⟨fun h => ?_, fun h => ?_⟩
      · have hlt1 : i < ps.length := by simp [hNp] at h; omega
        have hltN : i < PSe.length := by omega
        have e1 := e1' hlt1
        obtain ⟨p, hp⟩ : ∃ p, ps[i]? = some p := ⟨_, List.getElem?_eq_getElem hlt1⟩
        obtain ⟨hpl, c, hc⟩ := hat p (List.mem_of_getElem? hp)
        have hgp := hPg i p hp
        have hpt := tree_encI p
        have kat := at_13 E root hroot2 p hpl c hc
        have hnext := hnxt p c hp hc
        obtain ⟨ep, hep⟩ : ∃ es, encI p = .sl false es := ⟨_, rfl⟩
        rw [hep] at hgp kat hpt
        simp only [inR] at hpt
        have hept := hpt
        have hcw : NodeV E (wkL c) := nodeV_wk (at_node hroot2 hc)
        have hcwt := hcw.tree
        generalize wkL c = cw at kat hnext hcw hcwt
        have hcw2 := hcw
        have hceq : ∃ ck cn cm cb ces, cw = [.int .i64 ck, .int .i64 cn, .int .i64 cm, .sl cb ces] := by
          cases hcw with
          | @mk _ d3 hd3 _ _ _ _ _ hl3 hh3 => exact ⟨_, _, _, _, _, rfl⟩
        obtain ⟨ck, cn, cm, cb, ces, hceq⟩ := hceq
        rw [hreq, hceq] at kat
        rw [hceq] at hcwt
        repeat' (first | refine u'1 fun _ _ => ?_ | refine u'2 ?_ | (first | refine u'3 ?_ | refine u'4 ?_ | refine u'5 fun _ _ _ _ => ?_ | (refine u'6 (fun hg => ?_) (fun hg => ?_) <;> try simp only [hg])) <;> simp only [wS, simprocAttr, hgp, hltN] | (refine u'7 ?_; try simp only [wE, simprocAttr]) | refine u'8 ?_ | refine u'9 ?_)
        refine callR_tree hG0 kat ?_
        simp only [wS, simprocAttr]
        repeat' (first | refine u'1 fun _ _ => ?_ | refine u'2 ?_ | (first | refine u'3 ?_ | refine u'4 ?_ | refine u'5 fun _ _ _ _ => ?_ | (refine u'6 (fun hg => ?_) (fun hg => ?_) <;> try simp only [hg])) <;> simp only [wS, simprocAttr] | (refine u'7 ?_; try simp only [wE, simprocAttr]) | refine u'8 ?_ | refine u'9 ?_)
        refine awp_loop_r (α := {k : Nat // k ≤ ol.length}) (fun k => [(1, .sl ob ol), (2, .ptr 0 0 0), (5, accV [] 4 2 (app0 ++ SE (opS E cw p 0 (ol.take k.1)))), (7, .sl false ep), (8, .ptr 1 0 0), (18, .sl false PSe), (19, .int .i64 (N : Nat)), (20, .int .i64 (i : Nat)), (30, .sl ob ol), (31, .int .i64 (ol.length : Nat)), (32, .int .i64 (k.1 : Nat))]) (fun k => (if (app0 ++ SE (opS E cw p 0 (ol.take k.1))) = [] then [.cells 0 [.int .i64 rk, .int .i64 rn, .int .i64 rm, .sl rb res], .cells 0 [.int .i64 ck, .int .i64 cn, .int .i64 cm, .sl cb ces]] else [.cells 0 [.int .i64 rk, .int .i64 rn, .int .i64 rm, .sl rb res], .cells 0 [.int .i64 ck, .int .i64 cn, .int .i64 cm, .sl cb ces], .dead, .dead, accRow [] (app0 ++ SE (opS E cw p 0 (ol.take k.1)))])) (fun k => ol.length - k.1) ⟨0, Nat.zero_le _⟩ (Weak.ref ⟨?_, .inl ?_⟩) ?_
        · simp only [wS, simprocAttr, SE, opS, happ]; try exact rfl
        · simp only [wS, simprocAttr, SE, opS, happ]; try exact rfl
        · rintro ⟨k, hk⟩ K5 hK5
          have hkb : (app0 ++ SE (opS E cw p 0 (ol.take k))).length + 1 ≤ 4000000000000 := by
            have h1 := opS_len E cw p (ol.take k) 0
            rw [List.length_take] at h1
            simp only [List.length_append, SE, List.length_map]
            omega
          have hks : ∀ e ∈ app0 ++ SE (opS E cw p 0 (ol.take k)), e.length = 2 := SE_app2 hsz0
          have hkt : inE noRef (app0 ++ SE (opS E cw p 0 (ol.take k))) = true := SE_appt htr0
          have e5 : k < ol.length → IntKind.i64.wrap ((k : Int) + 1) = ((k + 1 : Nat) : Int) := fun h => wrap_succ (k := k) h (by omega)
          have htk : ∀ o, ol[k]? = some o → app0 ++ SE (opS E cw p 0 (ol.take (k + 1))) = (app0 ++ SE (opS E cw p 0 (ol.take k))) ++ (if (applyO E o cw).isSome = true then [[encI p, .int .i64 (k : Nat)]] else []) := fun o ho => by rw [opS_take ho]; split <;> simp [SE]
          simp only
          generalize hap : app0 ++ SE (opS E cw p 0 (ol.take k)) = ap at hkb hks hkt htk
          by_cases hnil : ap = []
          · subst hnil
            simp only [if_true, accV_nil]
            repeat' (first | refine u'1 fun _ _ => ?_ | refine u'2 ?_ | (first | refine u'3 ?_ | refine u'4 ?_ | refine u'5 fun _ _ _ _ => ?_ | (refine u'6 (fun hg => ?_) (fun hg => ?_) <;> try simp only [hg])) <;> simp only [wS, simprocAttr] | (refine u'7 ?_; try simp only [wE, simprocAttr]) | refine u'8 ?_ | refine u'9 ?_)
            refine ⟨fun h => ?_, fun h => ?_⟩
            · have hlt : k < ol.length := by simpa using h
              obtain ⟨op, hop⟩ : ∃ o, ol[k]? = some o := ⟨_, List.getElem?_eq_getElem hlt⟩
              have hoc := hops op (List.mem_of_getElem? hop)
              have hap14 := applyO_ok hE hoc hcw
              have hnx := applyO_node (E := E) (c := cw) hE hoc hcw
              have htk2 := htk op hop
              generalize applyO E op cw = r at hap14 hnx htk2
              rw [hceq] at hap14
              obtain ⟨nm, fk, fn, fm, fb, fes, pk, pn, pm, pb, pes, bk, rfl, -, -, -⟩ := hoc
              repeat' (first | refine u'1 fun _ _ => ?_ | refine u'2 ?_ | (first | refine u'3 ?_ | refine u'4 ?_ | refine u'5 fun _ _ _ _ => ?_ | (refine u'6 (fun hg => ?_) (fun hg => ?_) <;> try simp only [hg])) <;> simp only [wS, simprocAttr, hop, hlt] | (refine u'7 ?_; try simp only [wE, simprocAttr]) | refine u'8 ?_ | refine u'9 ?_)
              refine callR_tree hG0 hap14 ?_
              cases r with
              | none =>
                simp only [Option.isSome_none, Bool.false_eq_true, if_false, List.append_nil] at htk2
                simp only [wS, simprocAttr, applyV, zeroW]
                repeat' (first | refine u'1 fun _ _ => ?_ | refine u'2 ?_ | (first | refine u'3 ?_ | refine u'4 ?_ | refine u'5 fun _ _ _ _ => ?_ | (refine u'6 (fun hg => ?_) (fun hg => ?_) <;> try simp only [hg])) <;> simp only [wS, simprocAttr, e5 hlt] | (refine u'7 ?_; try simp only [wE, simprocAttr]) | refine u'8 ?_ | refine u'9 ?_)
                refine hK5.go ⟨k + 1, hlt⟩ (Weak.ref ⟨?_, .inr ⟨Nat.zero_le _, ?_, ?_, ?_, ?_⟩⟩) (by simp only; omega)
                · simp only [wS, simprocAttr, htk2, if_true, accV_nil]; try exact rfl
                · simp only [wS, simprocAttr, htk2, if_true, accV_nil]; try exact rfl
                · exact fun g cs hg => inL_mono (p := noRef) (fun r hr => by cases hr) (hG0 g cs hg)
                · simp only [htk2, if_true, accV_nil]
                  intro z hz
                  simp only [List.mem_cons, List.not_mem_nil, or_false] at hz
                  rcases hz with rfl | rfl | rfl | rfl | rfl | rfl | rfl | rfl | rfl | rfl | rfl <;> first | rfl | (simp only [inR]; first | exact tt hot | exact tt hept | exact tt hPt)
                · simp only [htk2, if_true, accV_nil, List.all_cons, List.all_nil, Bool.and_true, Bool.and_eq_true]
                  exact ⟨tL hrt, tL hcwt⟩
              | some x =>
                simp only [Option.isSome_some, if_true, hep] at htk2
                have hxn := (hnx x rfl).1
                cases hxn with
                | @mk _ d7 hd7 xk xn xm xb xes hl7 hh7 =>
                simp only [wS, simprocAttr, applyV]
                repeat' (first | refine u'1 fun _ _ => ?_ | refine u'2 ?_ | (first | refine u'3 ?_ | refine u'4 ?_ | refine u'5 fun _ _ _ _ => ?_ | (refine u'6 (fun hg => ?_) (fun hg => ?_) <;> try simp only [hg])) <;> simp only [wS, simprocAttr] | (refine u'7 ?_; try simp only [wE, simprocAttr]) | refine u'8 ?_ | refine u'9 ?_)
                refine callR_tree hG0 (hep ▸ clone36 p hpl) ?_
                simp only [wS, simprocAttr]
                refine eff_new (sz := 2) (by' := 32) (mm := 1) (new := [.sl false ep, .int .i64 (k : Nat)]) (es := []) (by kernel_rfl) ?hb (by simp) ?hc (by decide) (by simp) ?_
                case hb => simp only [wS, simprocAttr]; try exact rfl
                case hc => simp [srcA]
                simp only [wS, simprocAttr]
                repeat' (first | refine u'1 fun _ _ => ?_ | refine u'2 ?_ | (first | refine u'3 ?_ | refine u'4 ?_ | refine u'5 fun _ _ _ _ => ?_ | (refine u'6 (fun hg => ?_) (fun hg => ?_) <;> try simp only [hg])) <;> simp only [wS, simprocAttr, e5 hlt] | (refine u'7 ?_; try simp only [wE, simprocAttr]) | refine u'8 ?_ | refine u'9 ?_)
                simp only [List.nil_append] at htk2
                refine hK5.go ⟨k + 1, hlt⟩ (ref_kills [2, 3] _ (H := [.cells 0 [.int .i64 rk, .int .i64 rn, .int .i64 rm, .sl rb res], .cells 0 [.int .i64 ck, .int .i64 cn, .int .i64 cm, .sl cb ces], .cells 0 [.str nm, .int .i64 fk, .int .i64 fn, .int .i64 fm, .sl fb fes, .int .i64 pk, .int .i64 pn, .int .i64 pm, .sl pb pes, .int .i64 bk], .cells 0 [.int .i64 xk, .int .i64 xn, .int .i64 xm, .sl xb xes], .cells 0 [.sl false ep, .int .i64 (k : Nat)]]) ?_ rfl ?_ ?_ ?_) (by simp only; omega)
                · simp only [wS, simprocAttr]; try exact rfl
                · intro i hi
                  match i, hi with
                  | 2, _ => simp
                  | 3, _ => simp
                · simp only [wS, simprocAttr, htk2]; try exact rfl
                · simp only [htk2]; rfl
            · have hge : k = ol.length := by simp at h; omega
              have hapE := hap
              rw [hge, List.take_length] at hapE
              repeat' (first | refine u'1 fun _ _ => ?_ | refine u'2 ?_ | (first | refine u'3 ?_ | refine u'4 ?_ | refine u'5 fun _ _ _ _ => ?_ | (refine u'6 (fun hg => ?_) (fun hg => ?_) <;> try simp only [hg])) <;> simp only [wS, simprocAttr, e1] | (refine u'7 ?_; try simp only [wE, simprocAttr]) | refine u'8 ?_ | refine u'9 ?_)
              refine hK2.go ⟨i + 1, hlt1⟩ (Weak.ref ⟨?_, .inr ⟨Nat.zero_le _, ?_, ?_, ?_, ?_⟩⟩) (by simp only; omega)
              · simp only [wS, simprocAttr, hnext, hapE, OH, if_true, accV_nil]; try exact rfl
              · simp only [wS, simprocAttr, hnext, hapE, OH, if_true, accV_nil]; try exact rfl
              · exact fun g cs hg => inL_mono (p := noRef) (fun r hr => by cases hr) (hG0 g cs hg)
              · simp only [hnext, hapE, OH, if_true, accV_nil]
                intro z hz
                simp only [List.mem_cons, List.not_mem_nil, or_false] at hz
                rcases hz with rfl | rfl | rfl | rfl | rfl | rfl <;> first | rfl | (simp only [inR]; first | exact tt hot | exact tt hPt)
              · simp only [hnext, hapE, OH, if_true, accV_nil, List.all_cons, List.all_nil, Bool.and_true, Bool.and_eq_true]
                exact tL hrt
          · obtain ⟨m, hm⟩ : ∃ m, ap.length = m + 1 := ⟨ap.length - 1, by
              have : ap.length ≠ 0 := by simpa using hnil
              omega⟩
            obtain ⟨hv, har⟩ := acc2_cons (q := 4) hm
            simp only [if_neg hnil, hv, har]
            repeat' (first | refine u'1 fun _ _ => ?_ | refine u'2 ?_ | (first | refine u'3 ?_ | refine u'4 ?_ | refine u'5 fun _ _ _ _ => ?_ | (refine u'6 (fun hg => ?_) (fun hg => ?_) <;> try simp only [hg])) <;> simp only [wS, simprocAttr] | (refine u'7 ?_; try simp only [wE, simprocAttr]) | refine u'8 ?_ | refine u'9 ?_)
            refine ⟨fun h => ?_, fun h => ?_⟩
            · have hlt : k < ol.length := by simpa using h
              obtain ⟨op, hop⟩ : ∃ o, ol[k]? = some o := ⟨_, List.getElem?_eq_getElem hlt⟩
              have hoc := hops op (List.mem_of_getElem? hop)
              have hap14 := applyO_ok hE hoc hcw
              have hnx := applyO_node (E := E) (c := cw) hE hoc hcw
              have htk2 := htk op hop
              generalize applyO E op cw = r at hap14 hnx htk2
              rw [hceq] at hap14
              obtain ⟨nm, fk, fn, fm, fb, fes, pk, pn, pm, pb, pes, bk, rfl, -, -, -⟩ := hoc
              repeat' (first | refine u'1 fun _ _ => ?_ | refine u'2 ?_ | (first | refine u'3 ?_ | refine u'4 ?_ | refine u'5 fun _ _ _ _ => ?_ | (refine u'6 (fun hg => ?_) (fun hg => ?_) <;> try simp only [hg])) <;> simp only [wS, simprocAttr, hop, hlt] | (refine u'7 ?_; try simp only [wE, simprocAttr]) | refine u'8 ?_ | refine u'9 ?_)
              refine callR_tree hG0 hap14 ?_
              cases r with
              | none =>
                simp only [Option.isSome_none, Bool.false_eq_true, if_false, List.append_nil] at htk2
                simp only [wS, simprocAttr, applyV, zeroW]
                repeat' (first | refine u'1 fun _ _ => ?_ | refine u'2 ?_ | (first | refine u'3 ?_ | refine u'4 ?_ | refine u'5 fun _ _ _ _ => ?_ | (refine u'6 (fun hg => ?_) (fun hg => ?_) <;> try simp only [hg])) <;> simp only [wS, simprocAttr, e5 hlt] | (refine u'7 ?_; try simp only [wE, simprocAttr]) | refine u'8 ?_ | refine u'9 ?_)
                refine hK5.go ⟨k + 1, hlt⟩ (Weak.ref ⟨?_, .inr ⟨Nat.zero_le _, ?_, ?_, ?_, ?_⟩⟩) (by simp only; omega)
                · simp only [wS, simprocAttr, htk2, if_neg hnil, hv, har]; try exact rfl
                · simp only [wS, simprocAttr, htk2, if_neg hnil, hv, har]; try exact rfl
                · exact fun g cs hg => inL_mono (p := noRef) (fun r hr => by cases hr) (hG0 g cs hg)
                · simp only [htk2, if_neg hnil, hv, har]
                  intro z hz
                  simp only [List.mem_cons, List.not_mem_nil, or_false] at hz
                  rcases hz with rfl | rfl | rfl | rfl | rfl | rfl | rfl | rfl | rfl | rfl | rfl <;> first | rfl | (simp only [inR]; first | exact tt hot | exact tt hept | exact tt hPt)
                · simp only [htk2, if_neg hnil, hv, har, List.all_cons, List.all_nil, Bool.and_true, Bool.and_eq_true]
                  exact ⟨tL hrt, tL hcwt, rfl, rfl, inL_flat (tt hkt)⟩
              | some x =>
                simp only [Option.isSome_some, if_true, hep] at htk2
                have hxn := (hnx x rfl).1
                cases hxn with
                | @mk _ d7 hd7 xk xn xm xb xes hl7 hh7 =>
                simp only [wS, simprocAttr, applyV]
                repeat' (first | refine u'1 fun _ _ => ?_ | refine u'2 ?_ | (first | refine u'3 ?_ | refine u'4 ?_ | refine u'5 fun _ _ _ _ => ?_ | (refine u'6 (fun hg => ?_) (fun hg => ?_) <;> try simp only [hg])) <;> simp only [wS, simprocAttr] | (refine u'7 ?_; try simp only [wE, simprocAttr]) | refine u'8 ?_ | refine u'9 ?_)
                refine callR_tree hG0 (hep ▸ clone36 p hpl) ?_
                simp only [wS, simprocAttr]
                refine eff_own (cs := ap.flatten) (sz := 2) (by' := 32) (mm := 1) (new := [.sl false ep, .int .i64 (k : Nat)]) (by kernel_rfl) ?hb (by rw [flat_sz hks, hm]) ?hd (by omega) ?_
                case hb => simp only [wS, simprocAttr]
                case hd => simp [srcA]
                simp only [wS, simprocAttr]
                repeat' (first | refine u'1 fun _ _ => ?_ | refine u'2 ?_ | (first | refine u'3 ?_ | refine u'4 ?_ | refine u'5 fun _ _ _ _ => ?_ | (refine u'6 (fun hg => ?_) (fun hg => ?_) <;> try simp only [hg])) <;> simp only [wS, simprocAttr, e5 hlt] | (refine u'7 ?_; try simp only [wE, simprocAttr]) | refine u'8 ?_ | refine u'9 ?_)
                have hm2 : (ap ++ [[AV.sl false ep, AV.int .i64 (k : Nat)]]).length = m + 1 + 1 := by simp [hm]
                obtain ⟨hv2, har2⟩ := acc2_cons (q := 4) hm2
                have hnil2 : ap ++ [[AV.sl false ep, AV.int .i64 (k : Nat)]] ≠ [] := by simp
                refine hK5.go ⟨k + 1, hlt⟩ (Weak.ref ⟨?_, .inr ⟨Nat.zero_le _, ?_, ?_, ?_, ?_⟩⟩) (by simp only; omega)
                · simp only [wS, simprocAttr, htk2, if_neg hnil2, hv2, har2]; try exact rfl
                · simp only [wS, simprocAttr, htk2, if_neg hnil2, hv2, har2, List.flatten_append]; try exact rfl
                · exact fun g cs hg => inL_mono (p := noRef) (fun r hr => by cases hr) (hG0 g cs hg)
                · simp only [htk2, if_neg hnil2, hv2, har2]
                  intro z hz
                  simp only [List.mem_cons, List.not_mem_nil, or_false] at hz
                  rcases hz with rfl | rfl | rfl | rfl | rfl | rfl | rfl | rfl | rfl | rfl | rfl <;> first | rfl | (simp only [inR]; first | exact tt hot | exact tt hept | exact tt hPt)
                · simp only [htk2, if_neg hnil2, hv2, har2, List.all_cons, List.all_nil, Bool.and_true, Bool.and_eq_true]
                  exact ⟨tL hrt, tL hcwt, rfl, rfl, inL_flat (tt (SE_t2 hkt hept))⟩
            · have hge : k = ol.length := by simp at h; omega
              have hapE := hap
              rw [hge, List.take_length] at hapE
              repeat' (first | refine u'1 fun _ _ => ?_ | refine u'2 ?_ | (first | refine u'3 ?_ | refine u'4 ?_ | refine u'5 fun _ _ _ _ => ?_ | (refine u'6 (fun hg => ?_) (fun hg => ?_) <;> try simp only [hg])) <;> simp only [wS, simprocAttr, e1] | (refine u'7 ?_; try simp only [wE, simprocAttr]) | refine u'8 ?_ | refine u'9 ?_)
              refine hK2.go ⟨i + 1, hlt1⟩ (ref_kills [1] _ (H := [.cells 0 [.int .i64 rk, .int .i64 rn, .int .i64 rm, .sl rb res], .cells 0 [.int .i64 ck, .int .i64 cn, .int .i64 cm, .sl cb ces], .dead, .dead, .cells m ap.flatten]) ?_ rfl ?_ ?_ ?_) (by simp only; omega)
              · simp only [wS, simprocAttr]; try exact rfl
              · intro i hi
                match i, hi with
                | 1, _ => simp
              · simp only [wS, simprocAttr, hnext, hapE, OH, if_neg hnil, hv, har]; try exact rfl
              · simp only [hnext, hapE, OH, if_neg hnil, hv, har]; rfl
      · have hge : i = ps.length := by simp [hNp] at h; omega
        repeat' (first | refine u'1 fun _ _ => ?_ | refine u'2 ?_ | (first | refine u'3 ?_ | refine u'4 ?_ | refine u'5 fun _ _ _ _ => ?_ | (refine u'6 (fun hg => ?_) (fun hg => ?_) <;> try simp only [hg])) <;> simp only [wS, simprocAttr] | (refine u'7 ?_; try simp only [wE, simprocAttr]) | refine u'8 ?_ | refine u'9 ?_)
        refine ⟨_, ref_end0 [] hG0 (t := 4) (b := true) (es := []) ?_ rfl trivial (by simp), body_ret1 rfl ?_⟩
        · simp only [wS, simprocAttr]
        · simp only [wS, simprocAttr]
          rw [hge, List.take_length] at happ0
          rw [← hreq, ← happ0, happ]
    · obtain ⟨m0, hm0⟩ : ∃ m, app0.length = m + 1 := ⟨app0.length - 1, by
        have : app0.length ≠ 0 := by simpa using happ
        omega⟩
      obtain ⟨hv0, har0⟩ := acc2_cons (q := 4) hm0
      simp only [OH, if_neg happ, hv0, har0]
      repeat' (first | refine u'1 fun _ _ => ?_ | refine u'2 ?_ | (first | refine u'3 ?_ | refine u'4 ?_ | refine u'5 fun _ _ _ _ => ?_ | (refine u'6 (fun hg => ?_) (fun hg => ?_) <;> try simp only [hg])) <;> simp only [wS, simprocAttr] | (refine u'7 ?_; try simp only [wE, simprocAttr]) | refine u'8 ?_ | refine u'9 ?_)
      refine ⟨fun h => ?_, fun h => ?_⟩
      · have hlt1 : i < ps.length := by simp [hNp] at h; omega
        have hltN : i < PSe.length := by omega
        have e1 := e1' hlt1
        obtain ⟨p, hp⟩ : ∃ p, ps[i]? = some p := ⟨_, List.getElem?_eq_getElem hlt1⟩
        obtain ⟨hpl, c, hc⟩ := hat p (List.mem_of_getElem? hp)
        have hgp := hPg i p hp
        have hpt := tree_encI p
        have kat := at_13 E root hroot2 p hpl c hc
        have hnext := hnxt p c hp hc
        obtain ⟨ep, hep⟩ : ∃ es, encI p = .sl false es := ⟨_, rfl⟩
        rw [hep] at hgp kat hpt
        simp only [inR] at hpt
        have hept := hpt
        have hcw : NodeV E (wkL c) := nodeV_wk (at_node hroot2 hc)
        have hcwt := hcw.tree
        generalize wkL c = cw at kat hnext hcw hcwt
        have hcw2 := hcw
        have hceq : ∃ ck cn cm cb ces, cw = [.int .i64 ck, .int .i64 cn, .int .i64 cm, .sl cb ces] := by
          cases hcw with
          | @mk _ d3 hd3 _ _ _ _ _ hl3 hh3 => exact ⟨_, _, _, _, _, rfl⟩
        obtain ⟨ck, cn, cm, cb, ces, hceq⟩ := hceq
        rw [hreq, hceq] at kat
        rw [hceq] at hcwt
        repeat' (first | refine u'1 fun _ _ => ?_ | refine u'2 ?_ | (first | refine u'3 ?_ | refine u'4 ?_ | refine u'5 fun _ _ _ _ => ?_ | (refine u'6 (fun hg => ?_) (fun hg => ?_) <;> try simp only [hg])) <;> simp only [wS, simprocAttr, hgp, hltN] | (refine u'7 ?_; try simp only [wE, simprocAttr]) | refine u'8 ?_ | refine u'9 ?_)
        refine callR_tree hG0 kat ?_
        simp only [wS, simprocAttr]
        repeat' (first | refine u'1 fun _ _ => ?_ | refine u'2 ?_ | (first | refine u'3 ?_ | refine u'4 ?_ | refine u'5 fun _ _ _ _ => ?_ | (refine u'6 (fun hg => ?_) (fun hg => ?_) <;> try simp only [hg])) <;> simp only [wS, simprocAttr] | (refine u'7 ?_; try simp only [wE, simprocAttr]) | refine u'8 ?_ | refine u'9 ?_)
        refine awp_loop_r (α := {k : Nat // k ≤ ol.length}) (fun k => [(1, .sl ob ol), (2, .ptr 0 0 0), (5, accV [] 4 2 (app0 ++ SE (opS E cw p 0 (ol.take k.1)))), (7, .sl false ep), (8, .ptr 5 0 0), (18, .sl false PSe), (19, .int .i64 (N : Nat)), (20, .int .i64 (i : Nat)), (30, .sl ob ol), (31, .int .i64 (ol.length : Nat)), (32, .int .i64 (k.1 : Nat))]) (fun k => [.cells 0 [.int .i64 rk, .int .i64 rn, .int .i64 rm, .sl rb res], .dead, .dead, .dead, accRow [] (app0 ++ SE (opS E cw p 0 (ol.take k.1))), .cells 0 [.int .i64 ck, .int .i64 cn, .int .i64 cm, .sl cb ces]]) (fun k => ol.length - k.1) ⟨0, Nat.zero_le _⟩ (Weak.ref ⟨?_, .inl ?_⟩) ?_
        · simp only [wS, simprocAttr, SE, opS, happ, hv0, har0]; try exact rfl
        · simp only [wS, simprocAttr, SE, opS, happ, hv0, har0]; try exact rfl
        · rintro ⟨k, hk⟩ K5 hK5
          have hkb : (app0 ++ SE (opS E cw p 0 (ol.take k))).length + 1 ≤ 4000000000000 := by
            have h1 := opS_len E cw p (ol.take k) 0
            rw [List.length_take] at h1
            simp only [List.length_append, SE, List.length_map]
            omega
          have hks : ∀ e ∈ app0 ++ SE (opS E cw p 0 (ol.take k)), e.length = 2 := SE_app2 hsz0
          have hkt : inE noRef (app0 ++ SE (opS E cw p 0 (ol.take k))) = true := SE_appt htr0
          have e5 : k < ol.length → IntKind.i64.wrap ((k : Int) + 1) = ((k + 1 : Nat) : Int) := fun h => wrap_succ (k := k) h (by omega)
          have htk : ∀ o, ol[k]? = some o → app0 ++ SE (opS E cw p 0 (ol.take (k + 1))) = (app0 ++ SE (opS E cw p 0 (ol.take k))) ++ (if (applyO E o cw).isSome = true then [[encI p, .int .i64 (k : Nat)]] else []) := fun o ho => by rw [opS_take ho]; split <;> simp [SE]
          simp only
          generalize hap : app0 ++ SE (opS E cw p 0 (ol.take k)) = ap at hkb hks hkt htk
          have hnil : ap ≠ [] := by rw [← hap]; simp [happ]
          obtain ⟨m, hm⟩ : ∃ m, ap.length = m + 1 := ⟨ap.length - 1, by
            have : ap.length ≠ 0 := by simpa using hnil
            omega⟩
          obtain ⟨hv, har⟩ := acc2_cons (q := 4) hm
          simp only [hv, har]
          repeat' (first | refine u'1 fun _ _ => ?_ | refine u'2 ?_ | (first | refine u'3 ?_ | refine u'4 ?_ | refine u'5 fun _ _ _ _ => ?_ | (refine u'6 (fun hg => ?_) (fun hg => ?_) <;> try simp only [hg])) <;> simp only [wS, simprocAttr] | (refine u'7 ?_; try simp only [wE, simprocAttr]) | refine u'8 ?_ | refine u'9 ?_)
          refine ⟨fun h => ?_, fun h => ?_⟩
          · have hlt : k < ol.length := by simpa using h
            obtain ⟨op, hop⟩ : ∃ o, ol[k]? = some o := ⟨_, List.getElem?_eq_getElem hlt⟩
            have hoc := hops op (List.mem_of_getElem? hop)
            have hap14 := applyO_ok hE hoc hcw
            have hnx := applyO_node (E := E) (c := cw) hE hoc hcw
            have htk2 := htk op hop
            generalize applyO E op cw = r at hap14 hnx htk2
            rw [hceq] at hap14
            obtain ⟨nm, fk, fn, fm, fb, fes, pk, pn, pm, pb, pes, bk, rfl, -, -, -⟩ := hoc
            repeat' (first | refine u'1 fun _ _ => ?_ | refine u'2 ?_ | (first | refine u'3 ?_ | refine u'4 ?_ | refine u'5 fun _ _ _ _ => ?_ | (refine u'6 (fun hg => ?_) (fun hg => ?_) <;> try simp only [hg])) <;> simp only [wS, simprocAttr, hop, hlt] | (refine u'7 ?_; try simp only [wE, simprocAttr]) | refine u'8 ?_ | refine u'9 ?_)
            refine callR_tree hG0 hap14 ?_
            cases r with
            | none =>
              simp only [Option.isSome_none, Bool.false_eq_true, if_false, List.append_nil] at htk2
              simp only [wS, simprocAttr, applyV, zeroW]
              repeat' (first | refine u'1 fun _ _ => ?_ | refine u'2 ?_ | (first | refine u'3 ?_ | refine u'4 ?_ | refine u'5 fun _ _ _ _ => ?_ | (refine u'6 (fun hg => ?_) (fun hg => ?_) <;> try simp only [hg])) <;> simp only [wS, simprocAttr, e5 hlt] | (refine u'7 ?_; try simp only [wE, simprocAttr]) | refine u'8 ?_ | refine u'9 ?_)
              refine hK5.go ⟨k + 1, hlt⟩ (Weak.ref ⟨?_, .inr ⟨Nat.zero_le _, ?_, ?_, ?_, ?_⟩⟩) (by simp only; omega)
              · simp only [wS, simprocAttr, htk2, hv, har]; try exact rfl
              · simp only [wS, simprocAttr, htk2, hv, har]; try exact rfl
              · exact fun g cs hg => inL_mono (p := noRef) (fun r hr => by cases hr) (hG0 g cs hg)
              · simp only [htk2, hv, har]
                intro z hz
                simp only [List.mem_cons, List.not_mem_nil, or_false] at hz
                rcases hz with rfl | rfl | rfl | rfl | rfl | rfl | rfl | rfl | rfl | rfl | rfl <;> first | rfl | (simp only [inR]; first | exact tt hot | exact tt hept | exact tt hPt)
              · simp only [htk2, hv, har, List.all_cons, List.all_nil, Bool.and_true, Bool.and_eq_true]
                exact ⟨tL hrt, rfl, rfl, rfl, inL_flat (tt hkt), tL hcwt⟩
            | some x =>
              simp only [Option.isSome_some, if_true, hep] at htk2
              have hxn := (hnx x rfl).1
              cases hxn with
              | @mk _ d7 hd7 xk xn xm xb xes hl7 hh7 =>
              simp only [wS, simprocAttr, applyV]
              repeat' (first | refine u'1 fun _ _ => ?_ | refine u'2 ?_ | (first | refine u'3 ?_ | refine u'4 ?_ | refine u'5 fun _ _ _ _ => ?_ | (refine u'6 (fun hg => ?_) (fun hg => ?_) <;> try simp only [hg])) <;> simp only [wS, simprocAttr] | (refine u'7 ?_; try simp only [wE, simprocAttr]) | refine u'8 ?_ | refine u'9 ?_)
              refine callR_tree hG0 (hep ▸ clone36 p hpl) ?_
              simp only [wS, simprocAttr]
              refine eff_own (cs := ap.flatten) (sz := 2) (by' := 32) (mm := 1) (new := [.sl false ep, .int .i64 (k : Nat)]) (by kernel_rfl) ?hb (by rw [flat_sz hks, hm]) ?hd (by omega) ?_
              case hb => simp only [wS, simprocAttr]
              case hd => simp [srcA]
              simp only [wS, simprocAttr]
              repeat' (first | refine u'1 fun _ _ => ?_ | refine u'2 ?_ | (first | refine u'3 ?_ | refine u'4 ?_ | refine u'5 fun _ _ _ _ => ?_ | (refine u'6 (fun hg => ?_) (fun hg => ?_) <;> try simp only [hg])) <;> simp only [wS, simprocAttr, e5 hlt] | (refine u'7 ?_; try simp only [wE, simprocAttr]) | refine u'8 ?_ | refine u'9 ?_)
              have hm2 : (ap ++ [[AV.sl false ep, AV.int .i64 (k : Nat)]]).length = m + 1 + 1 := by simp [hm]
              obtain ⟨hv2, har2⟩ := acc2_cons (q := 4) hm2
              have hnil2 : ap ++ [[AV.sl false ep, AV.int .i64 (k : Nat)]] ≠ [] := by simp
              refine hK5.go ⟨k + 1, hlt⟩ (Weak.ref ⟨?_, .inr ⟨Nat.zero_le _, ?_, ?_, ?_, ?_⟩⟩) (by simp only; omega)
              · simp only [wS, simprocAttr, htk2, hv2, har2]; try exact rfl
              · simp only [wS, simprocAttr, htk2, hv2, har2, List.flatten_append]; try exact rfl
              · exact fun g cs hg => inL_mono (p := noRef) (fun r hr => by cases hr) (hG0 g cs hg)
              · simp only [htk2, hv2, har2]
                intro z hz
                simp only [List.mem_cons, List.not_mem_nil, or_false] at hz
                rcases hz with rfl | rfl | rfl | rfl | rfl | rfl | rfl | rfl | rfl | rfl | rfl <;> first | rfl | (simp only [inR]; first | exact tt hot | exact tt hept | exact tt hPt)
              · simp only [htk2, hv2, har2, List.all_cons, List.all_nil, Bool.and_true, Bool.and_eq_true]
                exact ⟨tL hrt, rfl, rfl, rfl, inL_flat (tt (SE_t2 hkt hept)), tL hcwt⟩
          · have hge : k = ol.length := by simp at h; omega
            have hapE := hap
            rw [hge, List.take_length] at hapE
            repeat' (first | refine u'1 fun _ _ => ?_ | refine u'2 ?_ | (first | refine u'3 ?_ | refine u'4 ?_ | refine u'5 fun _ _ _ _ => ?_ | (refine u'6 (fun hg => ?_) (fun hg => ?_) <;> try simp only [hg])) <;> simp only [wS, simprocAttr, e1] | (refine u'7 ?_; try simp only [wE, simprocAttr]) | refine u'8 ?_ | refine u'9 ?_)
            refine hK2.go ⟨i + 1, hlt1⟩ (Weak.ref ⟨?_, .inr ⟨Nat.zero_le _, ?_, ?_, ?_, ?_⟩⟩) (by simp only; omega)
            · simp only [wS, simprocAttr, hnext, hapE, OH, if_neg hnil, hv, har]; try exact rfl
            · simp only [wS, simprocAttr, hnext, hapE, OH, if_neg hnil, hv, har]; try exact rfl
            · exact fun g cs hg => inL_mono (p := noRef) (fun r hr => by cases hr) (hG0 g cs hg)
            · simp only [hnext, hapE, OH, if_neg hnil, hv, har]
              intro z hz
              simp only [List.mem_cons, List.not_mem_nil, or_false] at hz
              rcases hz with rfl | rfl | rfl | rfl | rfl | rfl <;> first | rfl | (simp only [inR]; first | exact tt hot | exact tt hPt)
            · simp only [hnext, hapE, OH, if_neg hnil, hv, har, List.all_cons, List.all_nil, Bool.and_true, Bool.and_eq_true]
              exact ⟨tL hrt, rfl, rfl, rfl, inL_flat (tt hkt)⟩
      · have hge : i = ps.length := by simp [hNp] at h; omega
        repeat' (first | refine u'1 fun _ _ => ?_ | refine u'2 ?_ | (first | refine u'3 ?_ | refine u'4 ?_ | refine u'5 fun _ _ _ _ => ?_ | (refine u'6 (fun hg => ?_) (fun hg => ?_) <;> try simp only [hg])) <;> simp only [wS, simprocAttr] | (refine u'7 ?_; try simp only [wE, simprocAttr]) | refine u'8 ?_ | refine u'9 ?_)
        refine ⟨_, ref_end [] hG0 (t := 4) (r := 4) (ver := m0) (m := m0 + 1) (sz := 2) (full := false) (es := app0) (cs := app0.flatten) (by simp only [wS, simprocAttr]) (by simp only [wS, simprocAttr]) ?_ hm0 hsz0 htr0 trivial (by simp), body_ret1 rfl ?_⟩
        · rw [List.take_of_length_le (by rw [flat_sz hsz0, hm0]; exact Nat.le_refl _)]
        · simp only [wS, simprocAttr]
          rw [hge, List.take_length] at happ0
          rw [← hreq, ← happ0]
end Go.Proofs.YtpdibmopbpcfdaaDoor
