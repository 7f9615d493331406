import Derived.Test.YtijakngaipdncaaDoorN10
import Derived.Test.YtijakngaipdncaaDoorN4
set_option linter.unusedVariables false
set_option linter.unusedSimpArgs false
namespace Go.Proofs.YtijakngaipdncaaDoor
open Go.AM
attribute [local irreducible] AWp rgnS callR callV effR valR guardR stepR nextR
set_option maxRecDepth 100000
theorem accH_len {H : List ARow} {b a : List (List AV)} {r : Nat} (h : r < H.length) : r < (accH H b a).length := by
  unfold accH
  split
  · exact h
  · simp; omega
theorem accH_old2 {H : List ARow} {b a b' a' : List (List AV)} {r : Nat} (h : r < H.length) : (accH (accH H b a) b' a').getD r .none = H.getD r .none := by rw [accH_old _ _ _ (accH_len h), accH_old _ _ _ h]
theorem accH_hset2 {H : List ARow} {b a b' a' : List (List AV)} {r : Nat} {y : ARow} (h : r < H.length) : hset (accH (accH H b a) b' a') r y = accH (accH (hset H r y) b a) b' a' := by rw [accH_hset (accH_len h), accH_hset h]
theorem upd_acc2 {fr : List AV} {H : List ARow} {b a b' a' : List (List AV)} {r : Nat} {y : ARow} (h : r < H.length) : upd (AS.row ⟨fr, accH (accH H b a) b' a'⟩) [(r, y)] = fun i => (accH (accH (hset H r y) b a) b' a').getD i .none := by
  rw [upd_acc (accH_len h), accH_hset h]
theorem hS : type_of% (And.intro @accH_hset (And.intro @accH_old (And.intro @accH_hset2 @accH_old2))) := And.intro @accH_hset (And.intro @accH_old (And.intro @accH_hset2 @accH_old2))
theorem accV_in {H : List ARow} {app : List (List AV)} {sz : Nat} : inR (fun r => decide (r < (accH H [] app).length)) (accV [] H.length sz app) = true := by
  unfold accV accH
  split
  · rfl
  · simp [inR]
theorem accRow_in {p : Nat → Bool} {base app : List (List AV)} (h : inE noRef (base ++ app) = true) : rowIn p (accRow base app) = true := by
  simp only [accRow, rowIn]
  exact inL_flat (inE_mono (p := noRef) (fun r hr => by cases hr) h)
theorem accH_in {H : List ARow} {app : List (List AV)} (hH : H.all (rowIn fun r => decide (r < H.length)) = true) (h : inE noRef app = true) : (accH H [] app).all (rowIn fun r => decide (r < (accH H [] app).length)) = true := by
  rw [List.all_eq_true] at hH ⊢
  intro x hx
  have hm : ∀ x ∈ H, rowIn (fun r => decide (r < (accH H [] app).length)) x = true := fun x hx => rowIn_mono (fun r hr => by simp at hr ⊢; exact accH_len hr) (hH x hx)
  have hx' : x ∈ H ∨ x = accRow [] app := by
    unfold accH at hx
    split at hx
    · exact .inl hx
    · simpa using hx
  rcases hx' with hx' | rfl
  · exact hm x hx'
  · exact accRow_in h
theorem ref_accB [Rnd] {k n : Nat} {H : List ARow} {base app : List (List AV)} {sz t : Nat} {s : AS} (l : List (Nat × AV)) (hk : k ≤ H.length) (hh : s.h = accH H base app) (ht : s.get t = accV base H.length sz app) (hsz : ∀ e ∈ base ++ app, e.length = sz) (htr : inE noRef (base ++ app) = true)
    (hl : holdsF l s.get) (hln : ∀ p ∈ l, inR (fun r => decide (r < H.length)) p.2 = true) (hH : H.all (rowIn fun r => decide (r < H.length)) = true) : Ref G0 n k s ⟨mkF ((t, .sl false (base ++ app)) :: l), H⟩ := by
  have hln' : ∀ p ∈ (t, AV.sl false (base ++ app)) :: l, inR (fun r => decide (r < H.length)) p.2 = true := by
    intro p hp
    rcases List.mem_cons.1 hp with rfl | hp
    · simp only [inR]; exact inE_mono (p := noRef) (fun r hr => by cases hr) htr
    · exact hln p hp
  by_cases ha : app = []
  · subst ha
    have h0 : s.h = H := by rw [hh]; simp [accH]
    have := ref_freeze (G := G0) (n := n) (k := k) (s := s) [] ((t, .sl false (base ++ [])) :: l) (deadH [] 0 s.h) (by simp) ⟨.inr (by rw [ht, accV_nil, List.append_nil]; rw [List.append_nil] at htr; exact .full htr), frzF_same hl⟩ (frzH_dead 0 s.h fun i hi _ => by cases hi)
    rw [deadH_nil, h0] at this
    exact this
  · have h0 : s.h = H ++ [accRow base app] := by rw [hh, accH, if_neg ha]
    have hr : s.row H.length = accRow base app := by
      show s.h.getD H.length .none = _
      rw [h0]; simp
    have h1 := ref_freeze (G := G0) (n := n) (k := k) (s := s) [H.length] ((t, .sl false (base ++ app)) :: l) (deadH [H.length] 0 s.h) (by rw [h0]; simp) ⟨.inr (by rw [ht]; exact acc_lend (H := H) (h := s.h) hh hsz htr), frzF_same hl⟩ (frzH_dead 0 s.h fun i hi _ => by
      have hi : i = H.length := by simpa using hi
      subst hi
      show s.row H.length ≠ .none
      rw [hr]; simp [accRow])
    rw [h0, deadH_take (by simp)] at h1
    have h2 := ref_gc (G := G0) (n := n) (k := k) (l := (t, .sl false (base ++ app)) :: l) (h := H ++ deadH [H.length] (0 + H.length) [accRow base app]) H.length hk hG0 hln' (by rw [List.take_left]; exact hH)
    rw [List.take_left] at h2
    exact h1.trans h2
theorem acc_post {rows : Nat → ARow} {H : List ARow} {fp : List Nat} {y : ARow} {app : List (List AV)} (h1 : (1 : Nat) ≠ H.length) (hle : ∀ r ∈ fp, r ≤ H.length) (hn : rows H.length = .none) (hr : ∀ r ∈ fp, r < H.length → H.getD r .none = upd rows [(1, y)] r ∧ rowIn (fun r => fp.contains r) (H.getD r .none) = true) (ht : inE noRef app = true) :
    ∀ r ∈ fp, (accH H [] app).getD r .none = upd rows ((1, y) :: (if app = [] then [] else [(H.length, accRow [] app)])) r ∧ rowIn (fun r => fp.contains r) ((accH H [] app).getD r .none) = true := by
  intro r hm
  rcases Nat.lt_or_eq_of_le (hle r hm) with hlt | rfl
  · rw [accH_old _ _ _ hlt]
    refine ⟨?_, (hr r hm hlt).2⟩
    rw [(hr r hm hlt).1]
    by_cases ha : app = []
    · rw [if_pos ha]
    · rw [if_neg ha, upd_two, upd_one, if_neg (Nat.ne_of_lt hlt)]
  · by_cases ha : app = []
    · rw [if_pos ha, ((accH_row H [] app).1 ha).1, upd_one, if_neg (Ne.symm h1), hn]
      exact ⟨rfl, rfl⟩
    · rw [if_neg ha, (accH_row H [] app).2 ha, upd_two, if_pos rfl]
      exact ⟨rfl, accRow_in ht⟩
theorem upd_twice {rows : Nat → ARow} {r : Nat} {a b : ARow} : upd (upd rows [(r, a)]) [(r, b)] = upd rows [(r, b)] := by
  funext i
  simp only [upd_one]
  split <;> rfl
def accN (nb : Nat) (app : List (List AV)) : Nat := if app = [] then nb else nb + 1
theorem accN_len {H : List ARow} {b app : List (List AV)} : (accH H b app).length = accN H.length app := by
  unfold accH accN
  split <;> simp
theorem eff_accq {P : Program} {G : Nat → Option (List AV)} {n : Nat} {K : Option Acc → AS → Prop} {d : Option Tmp} {rest : List POp} {m : Option Acc} {fp : List Nat} {s : AS} {t u : TypeId} {sz by' : Nat} {x : AV} {rows : Nat → ARow} {nb q : Nat} {e : List AV} {base app : List (List AV)} {H : List ARow} {h : List ARow} (hq : H.length = q) (ht : appT P t u = some (sz, by')) (hh : h = accH H base app) (hrows : rows = fun r => h.getD r .none) (hnb : nb = h.length)
    (hsz : ∀ e ∈ base ++ app, e.length = sz) (hs : srcA sz x rows = some (1, e)) (hb : (base.length + app.length + 1) * (by' + 1) ≤ 140737488355328)
    (hk : rgnS P G n K rest (adv m fp [q]) ((s.wr [(q, accRow base (app ++ [e]))]).put d (accV base q sz (app ++ [e])))) : effR P G n K d rest m fp s (aAppend P t u (accV base q sz app) x rows nb) := by
  subst hq
  exact eff_acc ht hh hrows hnb hsz hs hb hk
theorem accH_snocq {H : List ARow} {q : Nat} (hq : H.length = q) (base app : List (List AV)) (e : List AV) : hset (accH H base app) q (accRow base (app ++ [e])) = accH H base (app ++ [e]) := by
  subst hq
  exact accH_snoc H base app e
theorem accH_twice {H : List ARow} {base : List (List AV)} : accH H base [] = H := by simp [accH]
theorem node0 (k n : Int) : NodeV 1 [.int .i64 k, .int .i64 n, .int .i64 0, .sl true []] := leafV _ _ _ _
set_option maxHeartbeats 8000000 in
theorem vars_0 (rows : Nat → ARow) (L : List Int) (at0 left pk pn pm F : Int) (kv : AV) (con : Bool) (hL : ∀ x ∈ L, Small64 x) (h1 : rows 1 = .cells 0 [encI L, .int .i64 at0, .int .i64 left, .int .i64 pk, .int .i64 pn, .int .i64 pm, kv, .int .i64 F, .bool con]) (hk : inR (fun r => ([1] : List Nat).contains r) kv = true) (params : Nat) (hpar : params ≤ 2) (hnone : rows 2 = .none) : EC Tryd.prog G0 30 [.ptr 1 0 0, .int .i64 params] rows [1, 2] (fun eff => ∃ app at1 left1, eff = ⟨accV [] 2 4 app, (1, .cells 0 [encI L, .int .i64 at1, .int .i64 left1, .int .i64 pk, .int .i64 pn, .int .i64 pm, kv, .int .i64 F, .bool con]) :: (if app = [] then [] else [(2, accRow [] app)])⟩ ∧ params ≤ app.length ∧ app.length ≤ 5 ∧ ∀ e ∈ app, NodeV 2 e) := by
  have hcon : ∀ r, ([1] : List Nat).contains r = true → decide (r < 2) = true := fun r h => by simp at h ⊢; omega
  have hcon2 : ∀ r, ([1] : List Nat).contains r = true → ([1, 2] : List Nat).contains r = true := fun r h => by simp at h ⊢; omega
  refine ec_of_body [.dead, .cells 0 [encI L, .int .i64 at0, .int .i64 left, .int .i64 pk, .int .i64 pn, .int .i64 pm, kv, .int .i64 F, .bool con]] hG0 Tryd.func30 rfl (by kernel_rfl) (by simp [Tryd.ntmps30]) ?_ ?_ (by simp [inL, inR]) ?_ ?_ ?_ ?_
  · intro r hr
    simp only [List.mem_cons, List.not_mem_nil, or_false] at hr
    rcases hr with rfl | rfl
    · exact h1.symm
    · exact hnone.symm
  · intro r hr
    match r, hr with
    | 0, _ => simp
    | 1, hr => exact absurd (by simp) hr
    | 2, hr => exact absurd (by simp) hr
    | r + 3, _ => simp
  · intro r hr
    simp only [List.mem_cons, List.not_mem_nil, or_false] at hr
    rcases hr with rfl | rfl
    · rw [h1]; exact rowIn_mono hcon (ms_in L _ _ _ _ _ _ _ _ hk)
    · rw [hnone]; rfl
  · intro r hr h
    simp only [List.mem_cons, List.not_mem_nil, or_false] at hr
    simp only [List.length_cons, List.length_nil] at h
    obtain rfl : r = 2 := by omega
    exact hnone
  · rintro eff ⟨app, at1, left1, rfl, _⟩ p hp
    rcases List.mem_cons.1 hp with rfl | hp
    · simp
    · split at hp
      · cases hp
      · rw [List.mem_singleton.1 hp]; simp
  simp only [Tryd.ntmps30, enterF, Nat.reduceAdd, List.length_cons, List.length_nil]
  repeat' (first | with_reducible (first | refine v'1 fun _ _ => ?_ | refine v'2 ?_ | (first | refine v'3 ?_ | refine v'4 ?_ | refine v'5 fun _ _ _ _ => ?_ | refine v'6 (fun hg => ?_) (fun hg => ?_) <;> try simp only [hg]) <;> simp only [wS, simprocAttr] | (first | refine v's ?_ | refine v'e ?_ | refine v'r ?_) <;> try simp only [wE, simprocAttr] | refine v'8 ?_ | refine v'9 ?_))
  refine eg_call (draw_0 _ L at0 left pk pn pm F kv con  hL (by simp only [wS, simprocAttr, hS]; try exact rfl) hk  4 (by decide)) ?_
  rintro eff ⟨more, at1, rfl, hm1, hm2⟩
  simp only [wS, simprocAttr, hS]
  repeat' (first | with_reducible (first | refine v'1 fun _ _ => ?_ | refine v'2 ?_ | (first | refine v'3 ?_ | refine v'4 ?_ | refine v'5 fun _ _ _ _ => ?_ | refine v'6 (fun hg => ?_) (fun hg => ?_) <;> try simp only [hg]) <;> simp only [wS, simprocAttr, hS] | (first | refine v's ?_ | refine v'e ?_ | refine v'r ?_) <;> try simp only [wE, simprocAttr] | refine v'8 ?_ | refine v'9 ?_))
  obtain ⟨tot, htot⟩ : ∃ tot : Nat, (params : Int) + more = tot := ⟨((params : Int) + more).toNat, (Int.toNat_of_nonneg (by omega)).symm⟩
  have ew : IntKind.i64.wrap (tot : Int) = tot := wrap_small (by omega) (by omega)
  refine eg_loop_k (α := {p : List (List AV) × Int × Int // p.1.length ≤ tot ∧ ∀ e ∈ p.1, NodeV 2 e}) (fun p => [(0, .ptr 1 0 0), (1, .int .i64 params), (5, accV [] 2 4 p.1.1), (6, .int .i64 more), (7, .int .i64 (p.1.1.length : Nat))]) (fun p => accH [.dead, .cells 0 [encI L, .int .i64 p.1.2.1, .int .i64 p.1.2.2, .int .i64 pk, .int .i64 pn, .int .i64 pm, kv, .int .i64 F, .bool con]] [] p.1.1) (fun p => tot - p.1.1.length) ⟨([], at1, left), by simp, by simp⟩ (Weak.ref ⟨?_, .inl ?_⟩) ?_
  · simp only [wS, simprocAttr, accV_nil]; try exact rfl
  · simp only [wS, simprocAttr, accH, if_true]; try exact rfl
  · rintro ⟨⟨app, a2, l2⟩, hl, hn⟩ K3 hK3
    simp only at hl hn
    repeat' (first | with_reducible (first | refine v'1 fun _ _ => ?_ | refine v'2 ?_ | (first | refine v'3 ?_ | refine v'4 ?_ | refine v'5 fun _ _ _ _ => ?_ | refine v'6 (fun hg => ?_) (fun hg => ?_) <;> try simp only [hg]) <;> simp only [wS, simprocAttr, hS, htot, ew] | (first | refine v's ?_ | refine v'e ?_ | refine v'r ?_) <;> try simp only [wE, simprocAttr] | refine v'8 ?_ | refine v'9 ?_))
    refine eg_split (fun h => ?_) (fun h => ?_)
    · have hlt : app.length < tot := by simpa using h
      repeat' (first | with_reducible (first | refine v'1 fun _ _ => ?_ | refine v'2 ?_ | (first | refine v'3 ?_ | refine v'4 ?_ | refine v'5 fun _ _ _ _ => ?_ | refine v'6 (fun hg => ?_) (fun hg => ?_) <;> try simp only [hg]) <;> simp only [wS, simprocAttr] | (first | refine v's ?_ | refine v'e ?_ | refine v'r ?_) <;> try simp only [wE, simprocAttr] | refine v'8 ?_ | refine v'9 ?_))
      refine eg_call (draw_0 _ L a2 l2 pk pn pm F kv con  hL (by simp only [wS, simprocAttr, hS]; try exact rfl) hk  8 (by decide)) ?_
      rintro eff ⟨x, a3, rfl, hx1, hx2⟩
      simp only [wS, simprocAttr, hS]
      repeat' (first | with_reducible (first | refine v'1 fun _ _ => ?_ | refine v'2 ?_ | (first | refine v'3 ?_ | refine v'4 ?_ | refine v'5 fun _ _ _ _ => ?_ | refine v'6 (fun hg => ?_) (fun hg => ?_) <;> try simp only [hg]) <;> simp only [wS, simprocAttr, hS] | (first | refine v's ?_ | refine v'e ?_ | refine v'r ?_) <;> try simp only [wE, simprocAttr] | refine v'9 ?_))
      rename_i Kr hKr Kb hKb
      refine hKb.go ?_
      refine eg_seq_k fun K5 hK5 => ?_
      replace hK5 := And.intro trivial hK5
      have hne : ∀ e : List AV, NodeV 2 e → ∀ y ∈ app ++ [e], NodeV 2 y := fun e he y hy => by
        rcases List.mem_append.1 hy with hy | hy
        · exact hn y hy
        · rw [List.mem_singleton.1 hy]; exact he
      have e3 := wrap_succ (k := app.length) hlt (by omega)
      have key : ∀ (w a3 : Int) (s : AS), 0 ≤ w → w < 8 → Ref G0 79 2 s ⟨mkF [(0, .ptr 1 0 0), (1, .int .i64 params), (5, accV [] 2 4 app), (6, .int .i64 more), (7, .int .i64 (app.length : Nat)), (8, .int .i64 w)], accH [.dead, .cells 0 [encI L, .int .i64 a3, .int .i64 l2, .int .i64 pk, .int .i64 pn, .int .i64 pm, kv, .int .i64 F, .bool con]] [] app⟩ → EG (fun eff : Eff => ∃ app at1 left1, eff = ⟨accV [] 2 4 app, (1, .cells 0 [encI L, .int .i64 at1, .int .i64 left1, .int .i64 pk, .int .i64 pn, .int .i64 pm, kv, .int .i64 F, .bool con]) :: (if app = [] then [] else [(2, accRow [] app)])⟩ ∧ params ≤ app.length ∧ app.length ≤ 5 ∧ ∀ e ∈ app, NodeV 2 e) (fun i => K5 i s) := by
        intro w a3 s hw1 hw2 hr
        refine hK5.2.go (eg_ref hr ?_)
        clear hr hK5
        have hw : w < 4 ∨ w = 4 ∨ w = 5 ∨ w = 6 ∨ w = 7 := by omega
        rcases hw with hw | hw | hw | hw | hw
        ·
          have zl4 : (w < 4) = True := eq_true (by omega)
          have zl7 : (w < 7) = True := eq_true (by omega)
          have z4 : (w == 4) = false := by simp; omega
          repeat' (first | with_reducible (first | refine v'1 fun _ _ => ?_ | refine v'2 ?_ | (first | refine v'3 ?_ | refine v'4 ?_ | refine v'5 fun _ _ _ _ => ?_ | refine v'6 (fun hg => ?_) (fun hg => ?_) <;> try simp only [hg]) <;> simp only [wS, simprocAttr, zl4, zl7, z4, hS] | (first | refine v's ?_ | refine v'e ?_ | refine v'r ?_) <;> try simp only [wE, simprocAttr] | refine v'8 ?_ | refine v'9 ?_))
          refine eg_call (node_0 _ L a3 l2 pk pn pm F kv con  hL (by simp only [wS, simprocAttr, hS]; try exact rfl) hk  0 0 true [] rfl) ?_
          rintro eff ⟨l3, rfl⟩
          simp only [wS, simprocAttr, hS]
          repeat' (first | with_reducible (first | refine v'1 fun _ _ => ?_ | refine v'2 ?_ | (first | refine v'3 ?_ | refine v'4 ?_ | refine v'5 fun _ _ _ _ => ?_ | refine v'6 (fun hg => ?_) (fun hg => ?_) <;> try simp only [hg]) <;> simp only [wS, simprocAttr, hS] | (first | refine v's ?_ | refine v'e ?_ | refine v'r ?_) <;> try simp only [wE, simprocAttr] | refine v'8 ?_ | refine v'9 ?_))
          refine EG.mono (fun i h => eff_acc (H := [.dead, .cells 0 [encI L, .int .i64 a3, .int .i64 l3, .int .i64 pk, .int .i64 pn, .int .i64 pm, kv, .int .i64 F, .bool con]]) (base := []) (app := app) (e := [.int .i64 0, .int .i64 0, .int .i64 0, .sl true []]) (by' := 48) (by kernel_rfl) rfl (by first | exact upd_acc (by simp) | (rw [upd_twice]; exact upd_acc (by simp))) rfl (fun e he => (hn e (by simpa using he)).len) (by simp [srcA]) (by simp only [List.length_nil]; omega) h) ?_
          have hac := accH_snoc [.dead, .cells 0 [encI L, .int .i64 a3, .int .i64 l3, .int .i64 pk, .int .i64 pn, .int .i64 pm, kv, .int .i64 F, .bool con]] [] app [.int .i64 0, .int .i64 0, .int .i64 0, .sl true []]
          simp only [List.length_cons, List.length_nil, Nat.reduceAdd] at hac
          simp only [wS, simprocAttr]
          repeat' (first | with_reducible (first | refine v'1 fun _ _ => ?_ | refine v'2 ?_ | (first | refine v'3 ?_ | refine v'4 ?_ | refine v'5 fun _ _ _ _ => ?_ | refine v'6 (fun hg => ?_) (fun hg => ?_) <;> try simp only [hg]) <;> simp only [wS, simprocAttr, e3] | (first | refine v's ?_ | refine v'e ?_ | refine v'r ?_) <;> try simp only [wE, simprocAttr] | refine v'8 ?_ | refine v'9 ?_))
          refine hK3 _ ⟨(app ++ [[.int .i64 0, .int .i64 0, .int .i64 0, .sl true []]], a3, l3), by simp; omega, hne _ ((node0 _ _).up (by decide))⟩ (Weak.ref ⟨?_, .inl ?_⟩) (by simp; omega)
          · simp only [wS, simprocAttr, List.length_append, List.length_singleton]; try exact rfl
          · simp only [wS, simprocAttr, accH_hset, hac]; try exact rfl
        ·
          have zl4 : (w < 4) = False := eq_false (by omega)
          have zl7 : (w < 7) = True := eq_true (by omega)
          have z4 : (w == 4) = true := by simp; omega
          repeat' (first | with_reducible (first | refine v'1 fun _ _ => ?_ | refine v'2 ?_ | (first | refine v'3 ?_ | refine v'4 ?_ | refine v'5 fun _ _ _ _ => ?_ | refine v'6 (fun hg => ?_) (fun hg => ?_) <;> try simp only [hg]) <;> simp only [wS, simprocAttr, zl4, zl7, z4, hS] | (first | refine v's ?_ | refine v'e ?_ | refine v'r ?_) <;> try simp only [wE, simprocAttr] | refine v'8 ?_ | refine v'9 ?_))
          refine eg_call (node_0 _ L a3 l2 pk pn pm F kv con  hL (by simp only [wS, simprocAttr, hS]; try exact rfl) hk  1 0 true [] rfl) ?_
          rintro eff ⟨l3, rfl⟩
          simp only [wS, simprocAttr, hS]
          repeat' (first | with_reducible (first | refine v'1 fun _ _ => ?_ | refine v'2 ?_ | (first | refine v'3 ?_ | refine v'4 ?_ | refine v'5 fun _ _ _ _ => ?_ | refine v'6 (fun hg => ?_) (fun hg => ?_) <;> try simp only [hg]) <;> simp only [wS, simprocAttr, hS] | (first | refine v's ?_ | refine v'e ?_ | refine v'r ?_) <;> try simp only [wE, simprocAttr] | refine v'8 ?_ | refine v'9 ?_))
          refine EG.mono (fun i h => eff_acc (H := [.dead, .cells 0 [encI L, .int .i64 a3, .int .i64 l3, .int .i64 pk, .int .i64 pn, .int .i64 pm, kv, .int .i64 F, .bool con]]) (base := []) (app := app) (e := [.int .i64 1, .int .i64 0, .int .i64 0, .sl true []]) (by' := 48) (by kernel_rfl) rfl (by first | exact upd_acc (by simp) | (rw [upd_twice]; exact upd_acc (by simp))) rfl (fun e he => (hn e (by simpa using he)).len) (by simp [srcA]) (by simp only [List.length_nil]; omega) h) ?_
          have hac := accH_snoc [.dead, .cells 0 [encI L, .int .i64 a3, .int .i64 l3, .int .i64 pk, .int .i64 pn, .int .i64 pm, kv, .int .i64 F, .bool con]] [] app [.int .i64 1, .int .i64 0, .int .i64 0, .sl true []]
          simp only [List.length_cons, List.length_nil, Nat.reduceAdd] at hac
          simp only [wS, simprocAttr]
          repeat' (first | with_reducible (first | refine v'1 fun _ _ => ?_ | refine v'2 ?_ | (first | refine v'3 ?_ | refine v'4 ?_ | refine v'5 fun _ _ _ _ => ?_ | refine v'6 (fun hg => ?_) (fun hg => ?_) <;> try simp only [hg]) <;> simp only [wS, simprocAttr, e3] | (first | refine v's ?_ | refine v'e ?_ | refine v'r ?_) <;> try simp only [wE, simprocAttr] | refine v'8 ?_ | refine v'9 ?_))
          refine hK3 _ ⟨(app ++ [[.int .i64 1, .int .i64 0, .int .i64 0, .sl true []]], a3, l3), by simp; omega, hne _ ((node0 _ _).up (by decide))⟩ (Weak.ref ⟨?_, .inl ?_⟩) (by simp; omega)
          · simp only [wS, simprocAttr, List.length_append, List.length_singleton]; try exact rfl
          · simp only [wS, simprocAttr, accH_hset, hac]; try exact rfl
        ·
          have zl4 : (w < 4) = False := eq_false (by omega)
          have zl7 : (w < 7) = True := eq_true (by omega)
          have z4 : (w == 4) = false := by simp; omega
          repeat' (first | with_reducible (first | refine v'1 fun _ _ => ?_ | refine v'2 ?_ | (first | refine v'3 ?_ | refine v'4 ?_ | refine v'5 fun _ _ _ _ => ?_ | refine v'6 (fun hg => ?_) (fun hg => ?_) <;> try simp only [hg]) <;> simp only [wS, simprocAttr, zl4, zl7, z4, hS] | (first | refine v's ?_ | refine v'e ?_ | refine v'r ?_) <;> try simp only [wE, simprocAttr] | refine v'8 ?_ | refine v'9 ?_))
          refine eg_call (draw_0 _ L a3 l2 pk pn pm F kv con  hL (by simp only [wS, simprocAttr, hS]; try exact rfl) hk  4 (by decide)) ?_
          rintro eff ⟨u, a4, rfl, hu1, hu2⟩
          simp only [wS, simprocAttr, hS]
          repeat' (first | with_reducible (first | refine v'1 fun _ _ => ?_ | refine v'2 ?_ | (first | refine v'3 ?_ | refine v'4 ?_ | refine v'5 fun _ _ _ _ => ?_ | refine v'6 (fun hg => ?_) (fun hg => ?_) <;> try simp only [hg]) <;> simp only [wS, simprocAttr, hS] | (first | refine v's ?_ | refine v'e ?_ | refine v'r ?_) <;> try simp only [wE, simprocAttr] | refine v'8 ?_ | refine v'9 ?_))
          refine eg_call (node_0 _ L a4 l2 pk pn pm F kv con  hL (by simp only [wS, simprocAttr, hS]; try exact rfl) hk  2 _ true [] rfl) ?_
          rintro eff ⟨l3, rfl⟩
          simp only [wS, simprocAttr, hS]
          repeat' (first | with_reducible (first | refine v'1 fun _ _ => ?_ | refine v'2 ?_ | (first | refine v'3 ?_ | refine v'4 ?_ | refine v'5 fun _ _ _ _ => ?_ | refine v'6 (fun hg => ?_) (fun hg => ?_) <;> try simp only [hg]) <;> simp only [wS, simprocAttr, hS] | (first | refine v's ?_ | refine v'e ?_ | refine v'r ?_) <;> try simp only [wE, simprocAttr] | refine v'8 ?_ | refine v'9 ?_))
          refine EG.mono (fun i h => eff_acc (H := [.dead, .cells 0 [encI L, .int .i64 a4, .int .i64 l3, .int .i64 pk, .int .i64 pn, .int .i64 pm, kv, .int .i64 F, .bool con]]) (base := []) (app := app) (e := [.int .i64 2, .int .i64 (IntKind.i64.wrap (1 + u)), .int .i64 0, .sl true []]) (by' := 48) (by kernel_rfl) rfl (by first | exact upd_acc (by simp) | (rw [upd_twice]; exact upd_acc (by simp))) rfl (fun e he => (hn e (by simpa using he)).len) (by simp [srcA]) (by simp only [List.length_nil]; omega) h) ?_
          have hac := accH_snoc [.dead, .cells 0 [encI L, .int .i64 a4, .int .i64 l3, .int .i64 pk, .int .i64 pn, .int .i64 pm, kv, .int .i64 F, .bool con]] [] app [.int .i64 2, .int .i64 (IntKind.i64.wrap (1 + u)), .int .i64 0, .sl true []]
          simp only [List.length_cons, List.length_nil, Nat.reduceAdd] at hac
          simp only [wS, simprocAttr]
          repeat' (first | with_reducible (first | refine v'1 fun _ _ => ?_ | refine v'2 ?_ | (first | refine v'3 ?_ | refine v'4 ?_ | refine v'5 fun _ _ _ _ => ?_ | refine v'6 (fun hg => ?_) (fun hg => ?_) <;> try simp only [hg]) <;> simp only [wS, simprocAttr, e3] | (first | refine v's ?_ | refine v'e ?_ | refine v'r ?_) <;> try simp only [wE, simprocAttr] | refine v'8 ?_ | refine v'9 ?_))
          refine hK3 _ ⟨(app ++ [[.int .i64 2, .int .i64 (IntKind.i64.wrap (1 + u)), .int .i64 0, .sl true []]], a4, l3), by simp; omega, hne _ ((node0 _ _).up (by decide))⟩ (Weak.ref ⟨?_, .inl ?_⟩) (by simp; omega)
          · simp only [wS, simprocAttr, List.length_append, List.length_singleton]; try exact rfl
          · simp only [wS, simprocAttr, accH_hset, hac]; try exact rfl
        ·
          have zl4 : (w < 4) = False := eq_false (by omega)
          have zl7 : (w < 7) = True := eq_true (by omega)
          have z4 : (w == 4) = false := by simp; omega
          repeat' (first | with_reducible (first | refine v'1 fun _ _ => ?_ | refine v'2 ?_ | (first | refine v'3 ?_ | refine v'4 ?_ | refine v'5 fun _ _ _ _ => ?_ | refine v'6 (fun hg => ?_) (fun hg => ?_) <;> try simp only [hg]) <;> simp only [wS, simprocAttr, zl4, zl7, z4, hS] | (first | refine v's ?_ | refine v'e ?_ | refine v'r ?_) <;> try simp only [wE, simprocAttr] | refine v'8 ?_ | refine v'9 ?_))
          refine eg_call (draw_0 _ L a3 l2 pk pn pm F kv con  hL (by simp only [wS, simprocAttr, hS]; try exact rfl) hk  4 (by decide)) ?_
          rintro eff ⟨u, a4, rfl, hu1, hu2⟩
          simp only [wS, simprocAttr, hS]
          repeat' (first | with_reducible (first | refine v'1 fun _ _ => ?_ | refine v'2 ?_ | (first | refine v'3 ?_ | refine v'4 ?_ | refine v'5 fun _ _ _ _ => ?_ | refine v'6 (fun hg => ?_) (fun hg => ?_) <;> try simp only [hg]) <;> simp only [wS, simprocAttr, hS] | (first | refine v's ?_ | refine v'e ?_ | refine v'r ?_) <;> try simp only [wE, simprocAttr] | refine v'8 ?_ | refine v'9 ?_))
          refine eg_call (node_0 _ L a4 l2 pk pn pm F kv con  hL (by simp only [wS, simprocAttr, hS]; try exact rfl) hk  2 _ true [] rfl) ?_
          rintro eff ⟨l3, rfl⟩
          simp only [wS, simprocAttr, hS]
          repeat' (first | with_reducible (first | refine v'1 fun _ _ => ?_ | refine v'2 ?_ | (first | refine v'3 ?_ | refine v'4 ?_ | refine v'5 fun _ _ _ _ => ?_ | refine v'6 (fun hg => ?_) (fun hg => ?_) <;> try simp only [hg]) <;> simp only [wS, simprocAttr, hS] | (first | refine v's ?_ | refine v'e ?_ | refine v'r ?_) <;> try simp only [wE, simprocAttr] | refine v'8 ?_ | refine v'9 ?_))
          refine EG.mono (fun i h => eff_acc (H := [.dead, .cells 0 [encI L, .int .i64 a4, .int .i64 l3, .int .i64 pk, .int .i64 pn, .int .i64 pm, kv, .int .i64 F, .bool con]]) (base := []) (app := app) (e := [.int .i64 2, .int .i64 (IntKind.i64.wrap (1 + u)), .int .i64 0, .sl true []]) (by' := 48) (by kernel_rfl) rfl (by first | exact upd_acc (by simp) | (rw [upd_twice]; exact upd_acc (by simp))) rfl (fun e he => (hn e (by simpa using he)).len) (by simp [srcA]) (by simp only [List.length_nil]; omega) h) ?_
          have hac := accH_snoc [.dead, .cells 0 [encI L, .int .i64 a4, .int .i64 l3, .int .i64 pk, .int .i64 pn, .int .i64 pm, kv, .int .i64 F, .bool con]] [] app [.int .i64 2, .int .i64 (IntKind.i64.wrap (1 + u)), .int .i64 0, .sl true []]
          simp only [List.length_cons, List.length_nil, Nat.reduceAdd] at hac
          simp only [wS, simprocAttr]
          repeat' (first | with_reducible (first | refine v'1 fun _ _ => ?_ | refine v'2 ?_ | (first | refine v'3 ?_ | refine v'4 ?_ | refine v'5 fun _ _ _ _ => ?_ | refine v'6 (fun hg => ?_) (fun hg => ?_) <;> try simp only [hg]) <;> simp only [wS, simprocAttr, e3] | (first | refine v's ?_ | refine v'e ?_ | refine v'r ?_) <;> try simp only [wE, simprocAttr] | refine v'8 ?_ | refine v'9 ?_))
          refine hK3 _ ⟨(app ++ [[.int .i64 2, .int .i64 (IntKind.i64.wrap (1 + u)), .int .i64 0, .sl true []]], a4, l3), by simp; omega, hne _ ((node0 _ _).up (by decide))⟩ (Weak.ref ⟨?_, .inl ?_⟩) (by simp; omega)
          · simp only [wS, simprocAttr, List.length_append, List.length_singleton]; try exact rfl
          · simp only [wS, simprocAttr, accH_hset, hac]; try exact rfl
        ·
          have zl4 : (w < 4) = False := eq_false (by omega)
          have zl7 : (w < 7) = False := eq_false (by omega)
          have z4 : (w == 4) = false := by simp; omega
          repeat' (first | with_reducible (first | refine v'1 fun _ _ => ?_ | refine v'2 ?_ | (first | refine v'3 ?_ | refine v'4 ?_ | refine v'5 fun _ _ _ _ => ?_ | refine v'6 (fun hg => ?_) (fun hg => ?_) <;> try simp only [hg]) <;> simp only [wS, simprocAttr, zl4, zl7, z4, hS] | (first | refine v's ?_ | refine v'e ?_ | refine v'r ?_) <;> try simp only [wE, simprocAttr] | refine v'8 ?_ | refine v'9 ?_))
          refine eg_call (draw_0 _ L a3 l2 pk pn pm F kv con  hL (by simp only [wS, simprocAttr, hS]; try exact rfl) hk  2 (by decide)) ?_
          rintro eff ⟨u, a4, rfl, hu1, hu2⟩
          simp only [wS, simprocAttr, hS]
          repeat' (first | with_reducible (first | refine v'1 fun _ _ => ?_ | refine v'2 ?_ | (first | refine v'3 ?_ | refine v'4 ?_ | refine v'5 fun _ _ _ _ => ?_ | refine v'6 (fun hg => ?_) (fun hg => ?_) <;> try simp only [hg]) <;> simp only [wS, simprocAttr, hS] | (first | refine v's ?_ | refine v'e ?_ | refine v'r ?_) <;> try simp only [wE, simprocAttr] | refine v'8 ?_ | refine v'9 ?_))
          refine eg_call (node_0 _ L a4 l2 pk pn pm F kv con  hL (by simp only [wS, simprocAttr, hS]; try exact rfl) hk  _ 0 true [] rfl) ?_
          rintro eff ⟨l3, rfl⟩
          simp only [wS, simprocAttr, hS]
          repeat' (first | with_reducible (first | refine v'1 fun _ _ => ?_ | refine v'2 ?_ | (first | refine v'3 ?_ | refine v'4 ?_ | refine v'5 fun _ _ _ _ => ?_ | refine v'6 (fun hg => ?_) (fun hg => ?_) <;> try simp only [hg]) <;> simp only [wS, simprocAttr, hS] | (first | refine v's ?_ | refine v'e ?_ | refine v'r ?_) <;> try simp only [wE, simprocAttr] | refine v'8 ?_ | refine v'9 ?_))
          refine eg_call (draw_0 _ L a4 l3 pk pn pm F kv con  hL (by simp only [wS, simprocAttr, hS]; try exact rfl) hk  3 (by decide)) ?_
          rintro eff ⟨z3, a5, rfl, hz1, hz2⟩
          simp only [wS, simprocAttr, hS]
          repeat' (first | with_reducible (first | refine v'1 fun _ _ => ?_ | refine v'2 ?_ | (first | refine v'3 ?_ | refine v'4 ?_ | refine v'5 fun _ _ _ _ => ?_ | refine v'6 (fun hg => ?_) (fun hg => ?_) <;> try simp only [hg]) <;> simp only [wS, simprocAttr, hS] | (first | refine v's ?_ | refine v'e ?_ | refine v'r ?_) <;> try simp only [wE, simprocAttr] | refine v'8 ?_ | refine v'9 ?_))
          obtain ⟨nk, rfl⟩ : ∃ nk : Nat, z3 = nk := ⟨z3.toNat, (Int.toNat_of_nonneg hz1).symm⟩
          rename_i Ka hKa Kb hKb
          replace hKa := And.intro trivial hKa
          refine eg_loop_k (α := {p : List (List AV) × Int × Int // p.1.length ≤ nk ∧ ∀ e ∈ p.1, NodeV 1 e}) (fun p => [(0, .ptr 1 0 0), (1, .int .i64 params), (5, accV [] 2 4 app), (6, .int .i64 more), (7, .int .i64 (app.length : Nat)), (9, accV [[.int .i64 u, .int .i64 0, .int .i64 0, .sl true []]] (accN 2 app) 4 p.1.1), (10, .int .i64 ((nk : Int) - (p.1.1.length : Nat)))]) (fun p => accH (accH [.dead, .cells 0 [encI L, .int .i64 p.1.2.1, .int .i64 p.1.2.2, .int .i64 pk, .int .i64 pn, .int .i64 pm, kv, .int .i64 F, .bool con]] [] app) [[.int .i64 u, .int .i64 0, .int .i64 0, .sl true []]] p.1.1) (fun p => nk - p.1.1.length) ⟨([], a5, l3), by simp, by simp⟩ (Weak.ref ⟨?_, .inl ?_⟩) ?_
          · simp only [wS, simprocAttr, accV_nil, List.length_nil, Int.natCast_zero, Int.sub_zero]; try exact rfl
          · simp only [wS, simprocAttr, accH_hset, accH_twice]; try exact rfl
          · rintro ⟨⟨kapp, a6, l6⟩, hkl, hkn⟩ K9 hK9
            simp only at hkl hkn
            repeat' (first | with_reducible (first | refine v'1 fun _ _ => ?_ | refine v'2 ?_ | (first | refine v'3 ?_ | refine v'4 ?_ | refine v'5 fun _ _ _ _ => ?_ | refine v'6 (fun hg => ?_) (fun hg => ?_) <;> try simp only [hg]) <;> simp only [wS, simprocAttr, hS] | (first | refine v's ?_ | refine v'e ?_ | refine v'r ?_) <;> try simp only [wE, simprocAttr] | refine v'8 ?_ | refine v'9 ?_))
            refine eg_split (fun h => ?_) (fun h => ?_)
            · have hkt : kapp.length < nk := by simp at h; omega
              have e4 : IntKind.i64.wrap ((nk : Int) - (kapp.length : Nat) - 1) = (nk : Int) - (kapp.length + 1 : Nat) := by rw [wrap_small (by omega) (by omega)]; omega
              repeat' (first | with_reducible (first | refine v'1 fun _ _ => ?_ | refine v'2 ?_ | (first | refine v'3 ?_ | refine v'4 ?_ | refine v'5 fun _ _ _ _ => ?_ | refine v'6 (fun hg => ?_) (fun hg => ?_) <;> try simp only [hg]) <;> simp only [wS, simprocAttr, hS] | (first | refine v's ?_ | refine v'e ?_ | refine v'r ?_) <;> try simp only [wE, simprocAttr] | refine v'8 ?_ | refine v'9 ?_))
              refine eg_call (draw_0 _ L a6 l6 pk pn pm F kv con  hL (by simp only [wS, simprocAttr, hS]; try exact rfl) hk  2 (by decide)) ?_
              rintro eff ⟨y, a7, rfl, hy1, hy2⟩
              simp only [wS, simprocAttr, hS]
              repeat' (first | with_reducible (first | refine v'1 fun _ _ => ?_ | refine v'2 ?_ | (first | refine v'3 ?_ | refine v'4 ?_ | refine v'5 fun _ _ _ _ => ?_ | refine v'6 (fun hg => ?_) (fun hg => ?_) <;> try simp only [hg]) <;> simp only [wS, simprocAttr, hS] | (first | refine v's ?_ | refine v'e ?_ | refine v'r ?_) <;> try simp only [wE, simprocAttr] | refine v'8 ?_ | refine v'9 ?_))
              refine eg_call (node_0 _ L a7 l6 pk pn pm F kv con  hL (by simp only [wS, simprocAttr, hS]; try exact rfl) hk  _ 0 true [] rfl) ?_
              rintro eff ⟨l7, rfl⟩
              simp only [wS, simprocAttr, hS]
              repeat' (first | with_reducible (first | refine v'1 fun _ _ => ?_ | refine v'2 ?_ | (first | refine v'3 ?_ | refine v'4 ?_ | refine v'5 fun _ _ _ _ => ?_ | refine v'6 (fun hg => ?_) (fun hg => ?_) <;> try simp only [hg]) <;> simp only [wS, simprocAttr, hS] | (first | refine v's ?_ | refine v'e ?_ | refine v'r ?_) <;> try simp only [wE, simprocAttr] | refine v'8 ?_ | refine v'9 ?_))
              refine EG.mono (fun i h => eff_accq (H := accH [.dead, .cells 0 [encI L, .int .i64 a7, .int .i64 l7, .int .i64 pk, .int .i64 pn, .int .i64 pm, kv, .int .i64 F, .bool con]] [] app) (base := [[.int .i64 u, .int .i64 0, .int .i64 0, .sl true []]]) (app := kapp) (e := [.int .i64 y, .int .i64 0, .int .i64 0, .sl true []]) (by' := 48) accN_len (by kernel_rfl) rfl (by rw [upd_twice]; exact upd_acc2 (by simp)) rfl (fun e he => by
                rcases List.mem_cons.1 he with rfl | he
                · rfl
                · exact (hkn e he).len) (by simp [srcA]) (by simp only [List.length_cons, List.length_nil]; omega) h) ?_
              have hac := accH_snocq (H := accH [.dead, .cells 0 [encI L, .int .i64 a7, .int .i64 l7, .int .i64 pk, .int .i64 pn, .int .i64 pm, kv, .int .i64 F, .bool con]] [] app) accN_len [[.int .i64 u, .int .i64 0, .int .i64 0, .sl true []]] kapp [.int .i64 y, .int .i64 0, .int .i64 0, .sl true []]
              simp only [List.length_cons, List.length_nil, Nat.reduceAdd] at hac
              simp only [wS, simprocAttr]
              repeat' (first | with_reducible (first | refine v'1 fun _ _ => ?_ | refine v'2 ?_ | (first | refine v'3 ?_ | refine v'4 ?_ | refine v'5 fun _ _ _ _ => ?_ | refine v'6 (fun hg => ?_) (fun hg => ?_) <;> try simp only [hg]) <;> simp only [wS, simprocAttr, e4] | (first | refine v's ?_ | refine v'e ?_ | refine v'r ?_) <;> try simp only [wE, simprocAttr] | refine v'8 ?_ | refine v'9 ?_))
              refine hK9 _ ⟨(kapp ++ [[.int .i64 y, .int .i64 0, .int .i64 0, .sl true []]], a7, l7), by simp; omega, fun e he => by
                rcases List.mem_append.1 he with he | he
                · exact hkn e he
                · rw [List.mem_singleton.1 he]; exact node0 _ _⟩ (Weak.ref ⟨?_, .inl ?_⟩) (by simp; omega)
              · simp only [wS, simprocAttr, List.length_append, List.length_singleton]; try exact rfl
              · simp only [wS, simprocAttr, accH_hset2, hac]; try exact rfl
            · repeat' (first | with_reducible (first | refine v'1 fun _ _ => ?_ | refine v'2 ?_ | (first | refine v'3 ?_ | refine v'4 ?_ | refine v'5 fun _ _ _ _ => ?_ | refine v'6 (fun hg => ?_) (fun hg => ?_) <;> try simp only [hg]) <;> simp only [wS, simprocAttr] | (first | refine v's ?_ | refine v'e ?_ | refine v'r ?_) <;> try simp only [wE, simprocAttr] | refine v'8 ?_ | refine v'9 ?_))
              have hkall : ∀ e ∈ [[.int .i64 u, .int .i64 0, .int .i64 0, .sl true []]] ++ kapp, NodeV 1 e := fun e he => by
                rcases List.mem_cons.1 he with rfl | he
                · exact node0 _ _
                · exact hkn e he
              refine hKa.2.go (eg_ref (ref_accB (H := accH [.dead, .cells 0 [encI L, .int .i64 a6, .int .i64 l6, .int .i64 pk, .int .i64 pn, .int .i64 pm, kv, .int .i64 F, .bool con]] [] app) (base := [[.int .i64 u, .int .i64 0, .int .i64 0, .sl true []]]) (app := kapp) (sz := 4) (t := 9) [(0, .ptr 1 0 0), (1, .int .i64 params), (5, accV [] 2 4 app), (6, .int .i64 more), (7, .int .i64 (app.length : Nat))] (accH_len (by simp)) ?_ ?_ (fun e he => (hkall e he).len) (nodes_tree hkall) ?_ ?_ (accH_in ?_ (nodes_tree hn))) ?_)
              · simp only [wS, simprocAttr]; try exact rfl
              · simp only [wS, simprocAttr, accN_len, List.length_cons, List.length_nil]; try exact rfl
              · simp only [wS, simprocAttr]; try exact rfl
              · intro p hp
                simp only [List.mem_cons, List.not_mem_nil, or_false] at hp
                rcases hp with rfl | rfl | rfl | rfl | rfl
                · simp only [inR]; exact decide_eq_true (accH_len (by simp))
                · rfl
                · exact accV_in (H := [.dead, .cells 0 [encI L, .int .i64 a6, .int .i64 l6, .int .i64 pk, .int .i64 pn, .int .i64 pm, kv, .int .i64 F, .bool con]])
                · rfl
                · rfl
              · simp only [List.cons_append, List.nil_append, List.all_cons, List.all_nil, Bool.and_eq_true, List.length_cons, List.length_nil, Nat.reduceAdd]
                exact ⟨rfl, rowIn_mono hcon (ms_in L _ _ _ _ _ _ _ _ hk), trivial⟩
              repeat' (first | with_reducible (first | refine v'1 fun _ _ => ?_ | refine v'2 ?_ | (first | refine v'3 ?_ | refine v'4 ?_ | refine v'5 fun _ _ _ _ => ?_ | refine v'6 (fun hg => ?_) (fun hg => ?_) <;> try simp only [hg]) <;> simp only [wS, simprocAttr] | (first | refine v's ?_ | refine v'e ?_ | refine v'r ?_) <;> try simp only [wE, simprocAttr] | refine v'8 ?_ | refine v'9 ?_))
              refine eg_call (node_0 _ L a6 l6 pk pn pm F kv con  hL (by simp only [wS, simprocAttr, hS]; try exact rfl) hk  3 0 false ([[.int .i64 u, .int .i64 0, .int .i64 0, .sl true []]] ++ kapp) (nodes_tree hkall)) ?_
              rintro eff ⟨l8, rfl⟩
              simp only [wS, simprocAttr, hS]
              repeat' (first | with_reducible (first | refine v'1 fun _ _ => ?_ | refine v'2 ?_ | (first | refine v'3 ?_ | refine v'4 ?_ | refine v'5 fun _ _ _ _ => ?_ | refine v'6 (fun hg => ?_) (fun hg => ?_) <;> try simp only [hg]) <;> simp only [wS, simprocAttr, hS] | (first | refine v's ?_ | refine v'e ?_ | refine v'r ?_) <;> try simp only [wE, simprocAttr] | refine v'8 ?_ | refine v'9 ?_))
              refine EG.mono (fun i h => eff_acc (H := [.dead, .cells 0 [encI L, .int .i64 a6, .int .i64 l8, .int .i64 pk, .int .i64 pn, .int .i64 pm, kv, .int .i64 F, .bool con]]) (base := []) (app := app) (e := [.int .i64 3, .int .i64 0, .int .i64 0, .sl false ([.int .i64 u, .int .i64 0, .int .i64 0, .sl true []] :: kapp)]) (by' := 48) (by kernel_rfl) rfl (by first | exact upd_acc (by simp) | (rw [upd_twice]; exact upd_acc (by simp))) rfl (fun e he => (hn e (by simpa using he)).len) (by simp [srcA]) (by simp only [List.length_nil]; omega) h) ?_
              have hac := accH_snoc [.dead, .cells 0 [encI L, .int .i64 a6, .int .i64 l8, .int .i64 pk, .int .i64 pn, .int .i64 pm, kv, .int .i64 F, .bool con]] [] app [.int .i64 3, .int .i64 0, .int .i64 0, .sl false ([.int .i64 u, .int .i64 0, .int .i64 0, .sl true []] :: kapp)]
              simp only [List.length_cons, List.length_nil, Nat.reduceAdd] at hac
              simp only [wS, simprocAttr]
              repeat' (first | with_reducible (first | refine v'1 fun _ _ => ?_ | refine v'2 ?_ | (first | refine v'3 ?_ | refine v'4 ?_ | refine v'5 fun _ _ _ _ => ?_ | refine v'6 (fun hg => ?_) (fun hg => ?_) <;> try simp only [hg]) <;> simp only [wS, simprocAttr, e3] | (first | refine v's ?_ | refine v'e ?_ | refine v'r ?_) <;> try simp only [wE, simprocAttr] | refine v'8 ?_ | refine v'9 ?_))
              refine hK3 _ ⟨(app ++ [[.int .i64 3, .int .i64 0, .int .i64 0, .sl false ([.int .i64 u, .int .i64 0, .int .i64 0, .sl true []] :: kapp)]], a6, l8), by simp; omega, hne _ (.mk (hd := by decide) _ _ _ _ _ (by simp; omega) hkall)⟩ (Weak.ref ⟨?_, .inl ?_⟩) (by simp; omega)
              · simp only [wS, simprocAttr, List.length_append, List.length_singleton]; try exact rfl
              · simp only [wS, simprocAttr, accH_hset, hac]; try exact rfl
      clear hK5
      repeat' (first | with_reducible (first | refine v'1 fun _ _ => ?_ | refine v'2 ?_ | (first | refine v'3 ?_ | refine v'4 ?_ | refine v'5 fun _ _ _ _ => ?_ | refine v'6 (fun hg => ?_) (fun hg => ?_) <;> try simp only [hg]) <;> simp only [wS, simprocAttr, hS] | (first | refine v's ?_ | refine v'e ?_ | refine v'r ?_) <;> try simp only [wE, simprocAttr] | refine v'8 ?_ | refine v'9 ?_))
      refine eg_split (fun h2 => ?_) (fun h2 => ?_)
      · repeat' (first | with_reducible (first | refine v'1 fun _ _ => ?_ | refine v'2 ?_ | (first | refine v'3 ?_ | refine v'4 ?_ | refine v'5 fun _ _ _ _ => ?_ | refine v'6 (fun hg => ?_) (fun hg => ?_) <;> try simp only [hg]) <;> simp only [wS, simprocAttr, hS] | (first | refine v's ?_ | refine v'e ?_ | refine v'r ?_) <;> try simp only [wE, simprocAttr] | refine v'8 ?_ | refine v'9 ?_))
        refine key (x.tmod 5) a3 _ ?_ ?_ (Weak.ref ⟨?_, .inl ?_⟩)
        rotate_left 2
        · simp only [wS, simprocAttr]; try exact rfl
        · simp only [wS, simprocAttr, accH_hset]; try exact rfl
        · rw [Int.tmod_eq_emod_of_nonneg hx1]; omega
        · rw [Int.tmod_eq_emod_of_nonneg hx1]; omega
      · repeat' (first | with_reducible (first | refine v'1 fun _ _ => ?_ | refine v'2 ?_ | (first | refine v'3 ?_ | refine v'4 ?_ | refine v'5 fun _ _ _ _ => ?_ | refine v'6 (fun hg => ?_) (fun hg => ?_) <;> try simp only [hg]) <;> simp only [wS, simprocAttr, hS] | (first | refine v's ?_ | refine v'e ?_ | refine v'r ?_) <;> try simp only [wE, simprocAttr] | refine v'8 ?_ | refine v'9 ?_))
        refine key x a3 _ hx1 hx2 (Weak.ref ⟨?_, .inl ?_⟩)
        · simp only [wS, simprocAttr]; try exact rfl
        · simp only [wS, simprocAttr, accH_hset]; try exact rfl
    · have hge : app.length = tot := by simp at h; omega
      repeat' (first | with_reducible (first | refine v'1 fun _ _ => ?_ | refine v'2 ?_ | (first | refine v'3 ?_ | refine v'4 ?_ | refine v'5 fun _ _ _ _ => ?_ | refine v'6 (fun hg => ?_) (fun hg => ?_) <;> try simp only [hg]) <;> simp only [wS, simprocAttr] | (first | refine v's ?_ | refine v'e ?_ | refine v'r ?_) <;> try simp only [wE, simprocAttr] | refine v'8 ?_ | refine v'9 ?_))
      refine eg_ret1 rfl ?_
      refine EG.of ⟨accV [] 2 4 app, (1, .cells 0 [encI L, .int .i64 a2, .int .i64 l2, .int .i64 pk, .int .i64 pn, .int .i64 pm, kv, .int .i64 F, .bool con]) :: (if app = [] then [] else [(2, accRow [] app)])⟩ ⟨app, a2, l2, rfl, by omega, by omega, hn⟩ ⟨.inl ?_, ?_, ?_⟩
      · simp only [wS, simprocAttr]
      · simp only [wS, simprocAttr]
        unfold accV
        split
        · rfl
        · simp [inR]
      · simp only [wS, simprocAttr]
        refine acc_post (H := [.dead, .cells 0 [encI L, .int .i64 a2, .int .i64 l2, .int .i64 pk, .int .i64 pn, .int .i64 pm, kv, .int .i64 F, .bool con]]) (y := .cells 0 [encI L, .int .i64 a2, .int .i64 l2, .int .i64 pk, .int .i64 pn, .int .i64 pm, kv, .int .i64 F, .bool con]) (by simp) (by simp) hnone ?_ (nodes_tree hn)
        intro r hr hlt
        simp only [List.mem_cons, List.not_mem_nil, or_false] at hr
        rcases hr with rfl | rfl
        · exact ⟨rfl, rowIn_mono hcon2 (ms_in L _ _ _ _ _ _ _ _ hk)⟩
        · simp at hlt
set_option maxHeartbeats 8000000 in
theorem vars_2 (rows : Nat → ARow) (L : List Int) (at0 left pk pn pm F : Int) (kv : AV) (con : Bool) (A2 A3 : ARow) (hL : ∀ x ∈ L, Small64 x) (h1 : rows 1 = .cells 0 [encI L, .int .i64 at0, .int .i64 left, .int .i64 pk, .int .i64 pn, .int .i64 pm, kv, .int .i64 F, .bool con]) (h2 : rows 2 = A2) (h3 : rows 3 = A3) (hk : inR (fun r => ([1, 2, 3] : List Nat).contains r) kv = true) (k2 : rowIn (fun r => ([1, 2, 3] : List Nat).contains r) A2 = true) (k3 : rowIn (fun r => ([1, 2, 3] : List Nat).contains r) A3 = true) (params : Nat) (hpar : params ≤ 2) (hnone : rows 4 = .none) : EC Tryd.prog G0 30 [.ptr 1 0 0, .int .i64 params] rows [1, 2, 3, 4] (fun eff => ∃ app at1 left1, eff = ⟨accV [] 4 4 app, (1, .cells 0 [encI L, .int .i64 at1, .int .i64 left1, .int .i64 pk, .int .i64 pn, .int .i64 pm, kv, .int .i64 F, .bool con]) :: (if app = [] then [] else [(4, accRow [] app)])⟩ ∧ params ≤ app.length ∧ app.length ≤ 5 ∧ ∀ e ∈ app, NodeV 2 e) := by
  have hcon : ∀ r, ([1, 2, 3] : List Nat).contains r = true → decide (r < 4) = true := fun r h => by simp at h ⊢; omega
  have hcon2 : ∀ r, ([1, 2, 3] : List Nat).contains r = true → ([1, 2, 3, 4] : List Nat).contains r = true := fun r h => by simp at h ⊢; omega
  refine ec_of_body [.dead, .cells 0 [encI L, .int .i64 at0, .int .i64 left, .int .i64 pk, .int .i64 pn, .int .i64 pm, kv, .int .i64 F, .bool con], A2, A3] hG0 Tryd.func30 rfl (by kernel_rfl) (by simp [Tryd.ntmps30]) ?_ ?_ (by simp [inL, inR]) ?_ ?_ ?_ ?_
  · intro r hr
    simp only [List.mem_cons, List.not_mem_nil, or_false] at hr
    rcases hr with rfl | rfl | rfl | rfl
    · exact h1.symm
    · exact h2.symm
    · exact h3.symm
    · exact hnone.symm
  · intro r hr
    match r, hr with
    | 0, _ => simp
    | 1, hr => exact absurd (by simp) hr
    | 2, hr => exact absurd (by simp) hr
    | 3, hr => exact absurd (by simp) hr
    | 4, hr => exact absurd (by simp) hr
    | r + 5, _ => simp
  · intro r hr
    simp only [List.mem_cons, List.not_mem_nil, or_false] at hr
    rcases hr with rfl | rfl | rfl | rfl
    · rw [h1]; exact rowIn_mono hcon (ms_in L _ _ _ _ _ _ _ _ hk)
    · rw [h2]; exact rowIn_mono hcon k2
    · rw [h3]; exact rowIn_mono hcon k3
    · rw [hnone]; rfl
  · intro r hr h
    simp only [List.mem_cons, List.not_mem_nil, or_false] at hr
    simp only [List.length_cons, List.length_nil] at h
    obtain rfl : r = 4 := by omega
    exact hnone
  · rintro eff ⟨app, at1, left1, rfl, _⟩ p hp
    rcases List.mem_cons.1 hp with rfl | hp
    · simp
    · split at hp
      · cases hp
      · rw [List.mem_singleton.1 hp]; simp
  simp only [Tryd.ntmps30, enterF, Nat.reduceAdd, List.length_cons, List.length_nil]
  repeat' (first | with_reducible (first | refine v'1 fun _ _ => ?_ | refine v'2 ?_ | (first | refine v'3 ?_ | refine v'4 ?_ | refine v'5 fun _ _ _ _ => ?_ | refine v'6 (fun hg => ?_) (fun hg => ?_) <;> try simp only [hg]) <;> simp only [wS, simprocAttr] | (first | refine v's ?_ | refine v'e ?_ | refine v'r ?_) <;> try simp only [wE, simprocAttr] | refine v'8 ?_ | refine v'9 ?_))
  refine eg_call (draw_2 _ L at0 left pk pn pm F kv con A2 A3 hL (by simp only [wS, simprocAttr, hS]; try exact rfl) (by simp only [wS, simprocAttr, hS]; try exact rfl) (by simp only [wS, simprocAttr, hS]; try exact rfl) hk k2 k3 4 (by decide)) ?_
  rintro eff ⟨more, at1, rfl, hm1, hm2⟩
  simp only [wS, simprocAttr, hS]
  repeat' (first | with_reducible (first | refine v'1 fun _ _ => ?_ | refine v'2 ?_ | (first | refine v'3 ?_ | refine v'4 ?_ | refine v'5 fun _ _ _ _ => ?_ | refine v'6 (fun hg => ?_) (fun hg => ?_) <;> try simp only [hg]) <;> simp only [wS, simprocAttr, hS] | (first | refine v's ?_ | refine v'e ?_ | refine v'r ?_) <;> try simp only [wE, simprocAttr] | refine v'8 ?_ | refine v'9 ?_))
  obtain ⟨tot, htot⟩ : ∃ tot : Nat, (params : Int) + more = tot := ⟨((params : Int) + more).toNat, (Int.toNat_of_nonneg (by omega)).symm⟩
  have ew : IntKind.i64.wrap (tot : Int) = tot := wrap_small (by omega) (by omega)
  refine eg_loop_k (α := {p : List (List AV) × Int × Int // p.1.length ≤ tot ∧ ∀ e ∈ p.1, NodeV 2 e}) (fun p => [(0, .ptr 1 0 0), (1, .int .i64 params), (5, accV [] 4 4 p.1.1), (6, .int .i64 more), (7, .int .i64 (p.1.1.length : Nat))]) (fun p => accH [.dead, .cells 0 [encI L, .int .i64 p.1.2.1, .int .i64 p.1.2.2, .int .i64 pk, .int .i64 pn, .int .i64 pm, kv, .int .i64 F, .bool con], A2, A3] [] p.1.1) (fun p => tot - p.1.1.length) ⟨([], at1, left), by simp, by simp⟩ (Weak.ref ⟨?_, .inl ?_⟩) ?_
  · simp only [wS, simprocAttr, accV_nil]; try exact rfl
  · simp only [wS, simprocAttr, accH, if_true]; try exact rfl
  · rintro ⟨⟨app, a2, l2⟩, hl, hn⟩ K3 hK3
    simp only at hl hn
    repeat' (first | with_reducible (first | refine v'1 fun _ _ => ?_ | refine v'2 ?_ | (first | refine v'3 ?_ | refine v'4 ?_ | refine v'5 fun _ _ _ _ => ?_ | refine v'6 (fun hg => ?_) (fun hg => ?_) <;> try simp only [hg]) <;> simp only [wS, simprocAttr, hS, htot, ew] | (first | refine v's ?_ | refine v'e ?_ | refine v'r ?_) <;> try simp only [wE, simprocAttr] | refine v'8 ?_ | refine v'9 ?_))
    refine eg_split (fun h => ?_) (fun h => ?_)
    · have hlt : app.length < tot := by simpa using h
      repeat' (first | with_reducible (first | refine v'1 fun _ _ => ?_ | refine v'2 ?_ | (first | refine v'3 ?_ | refine v'4 ?_ | refine v'5 fun _ _ _ _ => ?_ | refine v'6 (fun hg => ?_) (fun hg => ?_) <;> try simp only [hg]) <;> simp only [wS, simprocAttr] | (first | refine v's ?_ | refine v'e ?_ | refine v'r ?_) <;> try simp only [wE, simprocAttr] | refine v'8 ?_ | refine v'9 ?_))
      refine eg_call (draw_2 _ L a2 l2 pk pn pm F kv con A2 A3 hL (by simp only [wS, simprocAttr, hS]; try exact rfl) (by simp only [wS, simprocAttr, hS]; try exact rfl) (by simp only [wS, simprocAttr, hS]; try exact rfl) hk k2 k3 8 (by decide)) ?_
      rintro eff ⟨x, a3, rfl, hx1, hx2⟩
      simp only [wS, simprocAttr, hS]
      repeat' (first | with_reducible (first | refine v'1 fun _ _ => ?_ | refine v'2 ?_ | (first | refine v'3 ?_ | refine v'4 ?_ | refine v'5 fun _ _ _ _ => ?_ | refine v'6 (fun hg => ?_) (fun hg => ?_) <;> try simp only [hg]) <;> simp only [wS, simprocAttr, hS] | (first | refine v's ?_ | refine v'e ?_ | refine v'r ?_) <;> try simp only [wE, simprocAttr] | refine v'9 ?_))
      rename_i Kr hKr Kb hKb
      refine hKb.go ?_
      refine eg_seq_k fun K5 hK5 => ?_
      replace hK5 := And.intro trivial hK5
      have hne : ∀ e : List AV, NodeV 2 e → ∀ y ∈ app ++ [e], NodeV 2 y := fun e he y hy => by
        rcases List.mem_append.1 hy with hy | hy
        · exact hn y hy
        · rw [List.mem_singleton.1 hy]; exact he
      have e3 := wrap_succ (k := app.length) hlt (by omega)
      have key : ∀ (w a3 : Int) (s : AS), 0 ≤ w → w < 8 → Ref G0 79 4 s ⟨mkF [(0, .ptr 1 0 0), (1, .int .i64 params), (5, accV [] 4 4 app), (6, .int .i64 more), (7, .int .i64 (app.length : Nat)), (8, .int .i64 w)], accH [.dead, .cells 0 [encI L, .int .i64 a3, .int .i64 l2, .int .i64 pk, .int .i64 pn, .int .i64 pm, kv, .int .i64 F, .bool con], A2, A3] [] app⟩ → EG (fun eff : Eff => ∃ app at1 left1, eff = ⟨accV [] 4 4 app, (1, .cells 0 [encI L, .int .i64 at1, .int .i64 left1, .int .i64 pk, .int .i64 pn, .int .i64 pm, kv, .int .i64 F, .bool con]) :: (if app = [] then [] else [(4, accRow [] app)])⟩ ∧ params ≤ app.length ∧ app.length ≤ 5 ∧ ∀ e ∈ app, NodeV 2 e) (fun i => K5 i s) := by
        intro w a3 s hw1 hw2 hr
        refine hK5.2.go (eg_ref hr ?_)
        clear hr hK5
        have hw : w < 4 ∨ w = 4 ∨ w = 5 ∨ w = 6 ∨ w = 7 := by omega
        rcases hw with hw | hw | hw | hw | hw
        ·
          have zl4 : (w < 4) = True := eq_true (by omega)
          have zl7 : (w < 7) = True := eq_true (by omega)
          have z4 : (w == 4) = false := by simp; omega
          repeat' (first | with_reducible (first | refine v'1 fun _ _ => ?_ | refine v'2 ?_ | (first | refine v'3 ?_ | refine v'4 ?_ | refine v'5 fun _ _ _ _ => ?_ | refine v'6 (fun hg => ?_) (fun hg => ?_) <;> try simp only [hg]) <;> simp only [wS, simprocAttr, zl4, zl7, z4, hS] | (first | refine v's ?_ | refine v'e ?_ | refine v'r ?_) <;> try simp only [wE, simprocAttr] | refine v'8 ?_ | refine v'9 ?_))
          refine eg_call (node_2 _ L a3 l2 pk pn pm F kv con A2 A3 hL (by simp only [wS, simprocAttr, hS]; try exact rfl) (by simp only [wS, simprocAttr, hS]; try exact rfl) (by simp only [wS, simprocAttr, hS]; try exact rfl) hk k2 k3 0 0 true [] rfl) ?_
          rintro eff ⟨l3, rfl⟩
          simp only [wS, simprocAttr, hS]
          repeat' (first | with_reducible (first | refine v'1 fun _ _ => ?_ | refine v'2 ?_ | (first | refine v'3 ?_ | refine v'4 ?_ | refine v'5 fun _ _ _ _ => ?_ | refine v'6 (fun hg => ?_) (fun hg => ?_) <;> try simp only [hg]) <;> simp only [wS, simprocAttr, hS] | (first | refine v's ?_ | refine v'e ?_ | refine v'r ?_) <;> try simp only [wE, simprocAttr] | refine v'8 ?_ | refine v'9 ?_))
          refine EG.mono (fun i h => eff_acc (H := [.dead, .cells 0 [encI L, .int .i64 a3, .int .i64 l3, .int .i64 pk, .int .i64 pn, .int .i64 pm, kv, .int .i64 F, .bool con], A2, A3]) (base := []) (app := app) (e := [.int .i64 0, .int .i64 0, .int .i64 0, .sl true []]) (by' := 48) (by kernel_rfl) rfl (by first | exact upd_acc (by simp) | (rw [upd_twice]; exact upd_acc (by simp))) rfl (fun e he => (hn e (by simpa using he)).len) (by simp [srcA]) (by simp only [List.length_nil]; omega) h) ?_
          have hac := accH_snoc [.dead, .cells 0 [encI L, .int .i64 a3, .int .i64 l3, .int .i64 pk, .int .i64 pn, .int .i64 pm, kv, .int .i64 F, .bool con], A2, A3] [] app [.int .i64 0, .int .i64 0, .int .i64 0, .sl true []]
          simp only [List.length_cons, List.length_nil, Nat.reduceAdd] at hac
          simp only [wS, simprocAttr]
          repeat' (first | with_reducible (first | refine v'1 fun _ _ => ?_ | refine v'2 ?_ | (first | refine v'3 ?_ | refine v'4 ?_ | refine v'5 fun _ _ _ _ => ?_ | refine v'6 (fun hg => ?_) (fun hg => ?_) <;> try simp only [hg]) <;> simp only [wS, simprocAttr, e3] | (first | refine v's ?_ | refine v'e ?_ | refine v'r ?_) <;> try simp only [wE, simprocAttr] | refine v'8 ?_ | refine v'9 ?_))
          refine hK3 _ ⟨(app ++ [[.int .i64 0, .int .i64 0, .int .i64 0, .sl true []]], a3, l3), by simp; omega, hne _ ((node0 _ _).up (by decide))⟩ (Weak.ref ⟨?_, .inl ?_⟩) (by simp; omega)
          · simp only [wS, simprocAttr, List.length_append, List.length_singleton]; try exact rfl
          · simp only [wS, simprocAttr, accH_hset, hac]; try exact rfl
        ·
          have zl4 : (w < 4) = False := eq_false (by omega)
          have zl7 : (w < 7) = True := eq_true (by omega)
          have z4 : (w == 4) = true := by simp; omega
          repeat' (first | with_reducible (first | refine v'1 fun _ _ => ?_ | refine v'2 ?_ | (first | refine v'3 ?_ | refine v'4 ?_ | refine v'5 fun _ _ _ _ => ?_ | refine v'6 (fun hg => ?_) (fun hg => ?_) <;> try simp only [hg]) <;> simp only [wS, simprocAttr, zl4, zl7, z4, hS] | (first | refine v's ?_ | refine v'e ?_ | refine v'r ?_) <;> try simp only [wE, simprocAttr] | refine v'8 ?_ | refine v'9 ?_))
          refine eg_call (node_2 _ L a3 l2 pk pn pm F kv con A2 A3 hL (by simp only [wS, simprocAttr, hS]; try exact rfl) (by simp only [wS, simprocAttr, hS]; try exact rfl) (by simp only [wS, simprocAttr, hS]; try exact rfl) hk k2 k3 1 0 true [] rfl) ?_
          rintro eff ⟨l3, rfl⟩
          simp only [wS, simprocAttr, hS]
          repeat' (first | with_reducible (first | refine v'1 fun _ _ => ?_ | refine v'2 ?_ | (first | refine v'3 ?_ | refine v'4 ?_ | refine v'5 fun _ _ _ _ => ?_ | refine v'6 (fun hg => ?_) (fun hg => ?_) <;> try simp only [hg]) <;> simp only [wS, simprocAttr, hS] | (first | refine v's ?_ | refine v'e ?_ | refine v'r ?_) <;> try simp only [wE, simprocAttr] | refine v'8 ?_ | refine v'9 ?_))
          refine EG.mono (fun i h => eff_acc (H := [.dead, .cells 0 [encI L, .int .i64 a3, .int .i64 l3, .int .i64 pk, .int .i64 pn, .int .i64 pm, kv, .int .i64 F, .bool con], A2, A3]) (base := []) (app := app) (e := [.int .i64 1, .int .i64 0, .int .i64 0, .sl true []]) (by' := 48) (by kernel_rfl) rfl (by first | exact upd_acc (by simp) | (rw [upd_twice]; exact upd_acc (by simp))) rfl (fun e he => (hn e (by simpa using he)).len) (by simp [srcA]) (by simp only [List.length_nil]; omega) h) ?_
          have hac := accH_snoc [.dead, .cells 0 [encI L, .int .i64 a3, .int .i64 l3, .int .i64 pk, .int .i64 pn, .int .i64 pm, kv, .int .i64 F, .bool con], A2, A3] [] app [.int .i64 1, .int .i64 0, .int .i64 0, .sl true []]
          simp only [List.length_cons, List.length_nil, Nat.reduceAdd] at hac
          simp only [wS, simprocAttr]
          repeat' (first | with_reducible (first | refine v'1 fun _ _ => ?_ | refine v'2 ?_ | (first | refine v'3 ?_ | refine v'4 ?_ | refine v'5 fun _ _ _ _ => ?_ | refine v'6 (fun hg => ?_) (fun hg => ?_) <;> try simp only [hg]) <;> simp only [wS, simprocAttr, e3] | (first | refine v's ?_ | refine v'e ?_ | refine v'r ?_) <;> try simp only [wE, simprocAttr] | refine v'8 ?_ | refine v'9 ?_))
          refine hK3 _ ⟨(app ++ [[.int .i64 1, .int .i64 0, .int .i64 0, .sl true []]], a3, l3), by simp; omega, hne _ ((node0 _ _).up (by decide))⟩ (Weak.ref ⟨?_, .inl ?_⟩) (by simp; omega)
          · simp only [wS, simprocAttr, List.length_append, List.length_singleton]; try exact rfl
          · simp only [wS, simprocAttr, accH_hset, hac]; try exact rfl
        ·
          have zl4 : (w < 4) = False := eq_false (by omega)
          have zl7 : (w < 7) = True := eq_true (by omega)
          have z4 : (w == 4) = false := by simp; omega
          repeat' (first | with_reducible (first | refine v'1 fun _ _ => ?_ | refine v'2 ?_ | (first | refine v'3 ?_ | refine v'4 ?_ | refine v'5 fun _ _ _ _ => ?_ | refine v'6 (fun hg => ?_) (fun hg => ?_) <;> try simp only [hg]) <;> simp only [wS, simprocAttr, zl4, zl7, z4, hS] | (first | refine v's ?_ | refine v'e ?_ | refine v'r ?_) <;> try simp only [wE, simprocAttr] | refine v'8 ?_ | refine v'9 ?_))
          refine eg_call (draw_2 _ L a3 l2 pk pn pm F kv con A2 A3 hL (by simp only [wS, simprocAttr, hS]; try exact rfl) (by simp only [wS, simprocAttr, hS]; try exact rfl) (by simp only [wS, simprocAttr, hS]; try exact rfl) hk k2 k3 4 (by decide)) ?_
          rintro eff ⟨u, a4, rfl, hu1, hu2⟩
          simp only [wS, simprocAttr, hS]
          repeat' (first | with_reducible (first | refine v'1 fun _ _ => ?_ | refine v'2 ?_ | (first | refine v'3 ?_ | refine v'4 ?_ | refine v'5 fun _ _ _ _ => ?_ | refine v'6 (fun hg => ?_) (fun hg => ?_) <;> try simp only [hg]) <;> simp only [wS, simprocAttr, hS] | (first | refine v's ?_ | refine v'e ?_ | refine v'r ?_) <;> try simp only [wE, simprocAttr] | refine v'8 ?_ | refine v'9 ?_))
          refine eg_call (node_2 _ L a4 l2 pk pn pm F kv con A2 A3 hL (by simp only [wS, simprocAttr, hS]; try exact rfl) (by simp only [wS, simprocAttr, hS]; try exact rfl) (by simp only [wS, simprocAttr, hS]; try exact rfl) hk k2 k3 2 _ true [] rfl) ?_
          rintro eff ⟨l3, rfl⟩
          simp only [wS, simprocAttr, hS]
          repeat' (first | with_reducible (first | refine v'1 fun _ _ => ?_ | refine v'2 ?_ | (first | refine v'3 ?_ | refine v'4 ?_ | refine v'5 fun _ _ _ _ => ?_ | refine v'6 (fun hg => ?_) (fun hg => ?_) <;> try simp only [hg]) <;> simp only [wS, simprocAttr, hS] | (first | refine v's ?_ | refine v'e ?_ | refine v'r ?_) <;> try simp only [wE, simprocAttr] | refine v'8 ?_ | refine v'9 ?_))
          refine EG.mono (fun i h => eff_acc (H := [.dead, .cells 0 [encI L, .int .i64 a4, .int .i64 l3, .int .i64 pk, .int .i64 pn, .int .i64 pm, kv, .int .i64 F, .bool con], A2, A3]) (base := []) (app := app) (e := [.int .i64 2, .int .i64 (IntKind.i64.wrap (1 + u)), .int .i64 0, .sl true []]) (by' := 48) (by kernel_rfl) rfl (by first | exact upd_acc (by simp) | (rw [upd_twice]; exact upd_acc (by simp))) rfl (fun e he => (hn e (by simpa using he)).len) (by simp [srcA]) (by simp only [List.length_nil]; omega) h) ?_
          have hac := accH_snoc [.dead, .cells 0 [encI L, .int .i64 a4, .int .i64 l3, .int .i64 pk, .int .i64 pn, .int .i64 pm, kv, .int .i64 F, .bool con], A2, A3] [] app [.int .i64 2, .int .i64 (IntKind.i64.wrap (1 + u)), .int .i64 0, .sl true []]
          simp only [List.length_cons, List.length_nil, Nat.reduceAdd] at hac
          simp only [wS, simprocAttr]
          repeat' (first | with_reducible (first | refine v'1 fun _ _ => ?_ | refine v'2 ?_ | (first | refine v'3 ?_ | refine v'4 ?_ | refine v'5 fun _ _ _ _ => ?_ | refine v'6 (fun hg => ?_) (fun hg => ?_) <;> try simp only [hg]) <;> simp only [wS, simprocAttr, e3] | (first | refine v's ?_ | refine v'e ?_ | refine v'r ?_) <;> try simp only [wE, simprocAttr] | refine v'8 ?_ | refine v'9 ?_))
          refine hK3 _ ⟨(app ++ [[.int .i64 2, .int .i64 (IntKind.i64.wrap (1 + u)), .int .i64 0, .sl true []]], a4, l3), by simp; omega, hne _ ((node0 _ _).up (by decide))⟩ (Weak.ref ⟨?_, .inl ?_⟩) (by simp; omega)
          · simp only [wS, simprocAttr, List.length_append, List.length_singleton]; try exact rfl
          · simp only [wS, simprocAttr, accH_hset, hac]; try exact rfl
        ·
          have zl4 : (w < 4) = False := eq_false (by omega)
          have zl7 : (w < 7) = True := eq_true (by omega)
          have z4 : (w == 4) = false := by simp; omega
          repeat' (first | with_reducible (first | refine v'1 fun _ _ => ?_ | refine v'2 ?_ | (first | refine v'3 ?_ | refine v'4 ?_ | refine v'5 fun _ _ _ _ => ?_ | refine v'6 (fun hg => ?_) (fun hg => ?_) <;> try simp only [hg]) <;> simp only [wS, simprocAttr, zl4, zl7, z4, hS] | (first | refine v's ?_ | refine v'e ?_ | refine v'r ?_) <;> try simp only [wE, simprocAttr] | refine v'8 ?_ | refine v'9 ?_))
          refine eg_call (draw_2 _ L a3 l2 pk pn pm F kv con A2 A3 hL (by simp only [wS, simprocAttr, hS]; try exact rfl) (by simp only [wS, simprocAttr, hS]; try exact rfl) (by simp only [wS, simprocAttr, hS]; try exact rfl) hk k2 k3 4 (by decide)) ?_
          rintro eff ⟨u, a4, rfl, hu1, hu2⟩
          simp only [wS, simprocAttr, hS]
          repeat' (first | with_reducible (first | refine v'1 fun _ _ => ?_ | refine v'2 ?_ | (first | refine v'3 ?_ | refine v'4 ?_ | refine v'5 fun _ _ _ _ => ?_ | refine v'6 (fun hg => ?_) (fun hg => ?_) <;> try simp only [hg]) <;> simp only [wS, simprocAttr, hS] | (first | refine v's ?_ | refine v'e ?_ | refine v'r ?_) <;> try simp only [wE, simprocAttr] | refine v'8 ?_ | refine v'9 ?_))
          refine eg_call (node_2 _ L a4 l2 pk pn pm F kv con A2 A3 hL (by simp only [wS, simprocAttr, hS]; try exact rfl) (by simp only [wS, simprocAttr, hS]; try exact rfl) (by simp only [wS, simprocAttr, hS]; try exact rfl) hk k2 k3 2 _ true [] rfl) ?_
          rintro eff ⟨l3, rfl⟩
          simp only [wS, simprocAttr, hS]
          repeat' (first | with_reducible (first | refine v'1 fun _ _ => ?_ | refine v'2 ?_ | (first | refine v'3 ?_ | refine v'4 ?_ | refine v'5 fun _ _ _ _ => ?_ | refine v'6 (fun hg => ?_) (fun hg => ?_) <;> try simp only [hg]) <;> simp only [wS, simprocAttr, hS] | (first | refine v's ?_ | refine v'e ?_ | refine v'r ?_) <;> try simp only [wE, simprocAttr] | refine v'8 ?_ | refine v'9 ?_))
          refine EG.mono (fun i h => eff_acc (H := [.dead, .cells 0 [encI L, .int .i64 a4, .int .i64 l3, .int .i64 pk, .int .i64 pn, .int .i64 pm, kv, .int .i64 F, .bool con], A2, A3]) (base := []) (app := app) (e := [.int .i64 2, .int .i64 (IntKind.i64.wrap (1 + u)), .int .i64 0, .sl true []]) (by' := 48) (by kernel_rfl) rfl (by first | exact upd_acc (by simp) | (rw [upd_twice]; exact upd_acc (by simp))) rfl (fun e he => (hn e (by simpa using he)).len) (by simp [srcA]) (by simp only [List.length_nil]; omega) h) ?_
          have hac := accH_snoc [.dead, .cells 0 [encI L, .int .i64 a4, .int .i64 l3, .int .i64 pk, .int .i64 pn, .int .i64 pm, kv, .int .i64 F, .bool con], A2, A3] [] app [.int .i64 2, .int .i64 (IntKind.i64.wrap (1 + u)), .int .i64 0, .sl true []]
          simp only [List.length_cons, List.length_nil, Nat.reduceAdd] at hac
          simp only [wS, simprocAttr]
          repeat' (first | with_reducible (first | refine v'1 fun _ _ => ?_ | refine v'2 ?_ | (first | refine v'3 ?_ | refine v'4 ?_ | refine v'5 fun _ _ _ _ => ?_ | refine v'6 (fun hg => ?_) (fun hg => ?_) <;> try simp only [hg]) <;> simp only [wS, simprocAttr, e3] | (first | refine v's ?_ | refine v'e ?_ | refine v'r ?_) <;> try simp only [wE, simprocAttr] | refine v'8 ?_ | refine v'9 ?_))
          refine hK3 _ ⟨(app ++ [[.int .i64 2, .int .i64 (IntKind.i64.wrap (1 + u)), .int .i64 0, .sl true []]], a4, l3), by simp; omega, hne _ ((node0 _ _).up (by decide))⟩ (Weak.ref ⟨?_, .inl ?_⟩) (by simp; omega)
          · simp only [wS, simprocAttr, List.length_append, List.length_singleton]; try exact rfl
          · simp only [wS, simprocAttr, accH_hset, hac]; try exact rfl
        ·
          have zl4 : (w < 4) = False := eq_false (by omega)
          have zl7 : (w < 7) = False := eq_false (by omega)
          have z4 : (w == 4) = false := by simp; omega
          repeat' (first | with_reducible (first | refine v'1 fun _ _ => ?_ | refine v'2 ?_ | (first | refine v'3 ?_ | refine v'4 ?_ | refine v'5 fun _ _ _ _ => ?_ | refine v'6 (fun hg => ?_) (fun hg => ?_) <;> try simp only [hg]) <;> simp only [wS, simprocAttr, zl4, zl7, z4, hS] | (first | refine v's ?_ | refine v'e ?_ | refine v'r ?_) <;> try simp only [wE, simprocAttr] | refine v'8 ?_ | refine v'9 ?_))
          refine eg_call (draw_2 _ L a3 l2 pk pn pm F kv con A2 A3 hL (by simp only [wS, simprocAttr, hS]; try exact rfl) (by simp only [wS, simprocAttr, hS]; try exact rfl) (by simp only [wS, simprocAttr, hS]; try exact rfl) hk k2 k3 2 (by decide)) ?_
          rintro eff ⟨u, a4, rfl, hu1, hu2⟩
          simp only [wS, simprocAttr, hS]
          repeat' (first | with_reducible (first | refine v'1 fun _ _ => ?_ | refine v'2 ?_ | (first | refine v'3 ?_ | refine v'4 ?_ | refine v'5 fun _ _ _ _ => ?_ | refine v'6 (fun hg => ?_) (fun hg => ?_) <;> try simp only [hg]) <;> simp only [wS, simprocAttr, hS] | (first | refine v's ?_ | refine v'e ?_ | refine v'r ?_) <;> try simp only [wE, simprocAttr] | refine v'8 ?_ | refine v'9 ?_))
          refine eg_call (node_2 _ L a4 l2 pk pn pm F kv con A2 A3 hL (by simp only [wS, simprocAttr, hS]; try exact rfl) (by simp only [wS, simprocAttr, hS]; try exact rfl) (by simp only [wS, simprocAttr, hS]; try exact rfl) hk k2 k3 _ 0 true [] rfl) ?_
          rintro eff ⟨l3, rfl⟩
          simp only [wS, simprocAttr, hS]
          repeat' (first | with_reducible (first | refine v'1 fun _ _ => ?_ | refine v'2 ?_ | (first | refine v'3 ?_ | refine v'4 ?_ | refine v'5 fun _ _ _ _ => ?_ | refine v'6 (fun hg => ?_) (fun hg => ?_) <;> try simp only [hg]) <;> simp only [wS, simprocAttr, hS] | (first | refine v's ?_ | refine v'e ?_ | refine v'r ?_) <;> try simp only [wE, simprocAttr] | refine v'8 ?_ | refine v'9 ?_))
          refine eg_call (draw_2 _ L a4 l3 pk pn pm F kv con A2 A3 hL (by simp only [wS, simprocAttr, hS]; try exact rfl) (by simp only [wS, simprocAttr, hS]; try exact rfl) (by simp only [wS, simprocAttr, hS]; try exact rfl) hk k2 k3 3 (by decide)) ?_
          rintro eff ⟨z3, a5, rfl, hz1, hz2⟩
          simp only [wS, simprocAttr, hS]
          repeat' (first | with_reducible (first | refine v'1 fun _ _ => ?_ | refine v'2 ?_ | (first | refine v'3 ?_ | refine v'4 ?_ | refine v'5 fun _ _ _ _ => ?_ | refine v'6 (fun hg => ?_) (fun hg => ?_) <;> try simp only [hg]) <;> simp only [wS, simprocAttr, hS] | (first | refine v's ?_ | refine v'e ?_ | refine v'r ?_) <;> try simp only [wE, simprocAttr] | refine v'8 ?_ | refine v'9 ?_))
          obtain ⟨nk, rfl⟩ : ∃ nk : Nat, z3 = nk := ⟨z3.toNat, (Int.toNat_of_nonneg hz1).symm⟩
          rename_i Ka hKa Kb hKb
          replace hKa := And.intro trivial hKa
          refine eg_loop_k (α := {p : List (List AV) × Int × Int // p.1.length ≤ nk ∧ ∀ e ∈ p.1, NodeV 1 e}) (fun p => [(0, .ptr 1 0 0), (1, .int .i64 params), (5, accV [] 4 4 app), (6, .int .i64 more), (7, .int .i64 (app.length : Nat)), (9, accV [[.int .i64 u, .int .i64 0, .int .i64 0, .sl true []]] (accN 4 app) 4 p.1.1), (10, .int .i64 ((nk : Int) - (p.1.1.length : Nat)))]) (fun p => accH (accH [.dead, .cells 0 [encI L, .int .i64 p.1.2.1, .int .i64 p.1.2.2, .int .i64 pk, .int .i64 pn, .int .i64 pm, kv, .int .i64 F, .bool con], A2, A3] [] app) [[.int .i64 u, .int .i64 0, .int .i64 0, .sl true []]] p.1.1) (fun p => nk - p.1.1.length) ⟨([], a5, l3), by simp, by simp⟩ (Weak.ref ⟨?_, .inl ?_⟩) ?_
          · simp only [wS, simprocAttr, accV_nil, List.length_nil, Int.natCast_zero, Int.sub_zero]; try exact rfl
          · simp only [wS, simprocAttr, accH_hset, accH_twice]; try exact rfl
          · rintro ⟨⟨kapp, a6, l6⟩, hkl, hkn⟩ K9 hK9
            simp only at hkl hkn
            repeat' (first | with_reducible (first | refine v'1 fun _ _ => ?_ | refine v'2 ?_ | (first | refine v'3 ?_ | refine v'4 ?_ | refine v'5 fun _ _ _ _ => ?_ | refine v'6 (fun hg => ?_) (fun hg => ?_) <;> try simp only [hg]) <;> simp only [wS, simprocAttr, hS] | (first | refine v's ?_ | refine v'e ?_ | refine v'r ?_) <;> try simp only [wE, simprocAttr] | refine v'8 ?_ | refine v'9 ?_))
            refine eg_split (fun h => ?_) (fun h => ?_)
            · have hkt : kapp.length < nk := by simp at h; omega
              have e4 : IntKind.i64.wrap ((nk : Int) - (kapp.length : Nat) - 1) = (nk : Int) - (kapp.length + 1 : Nat) := by rw [wrap_small (by omega) (by omega)]; omega
              repeat' (first | with_reducible (first | refine v'1 fun _ _ => ?_ | refine v'2 ?_ | (first | refine v'3 ?_ | refine v'4 ?_ | refine v'5 fun _ _ _ _ => ?_ | refine v'6 (fun hg => ?_) (fun hg => ?_) <;> try simp only [hg]) <;> simp only [wS, simprocAttr, hS] | (first | refine v's ?_ | refine v'e ?_ | refine v'r ?_) <;> try simp only [wE, simprocAttr] | refine v'8 ?_ | refine v'9 ?_))
              refine eg_call (draw_2 _ L a6 l6 pk pn pm F kv con A2 A3 hL (by simp only [wS, simprocAttr, hS]; try exact rfl) (by simp only [wS, simprocAttr, hS]; try exact rfl) (by simp only [wS, simprocAttr, hS]; try exact rfl) hk k2 k3 2 (by decide)) ?_
              rintro eff ⟨y, a7, rfl, hy1, hy2⟩
              simp only [wS, simprocAttr, hS]
              repeat' (first | with_reducible (first | refine v'1 fun _ _ => ?_ | refine v'2 ?_ | (first | refine v'3 ?_ | refine v'4 ?_ | refine v'5 fun _ _ _ _ => ?_ | refine v'6 (fun hg => ?_) (fun hg => ?_) <;> try simp only [hg]) <;> simp only [wS, simprocAttr, hS] | (first | refine v's ?_ | refine v'e ?_ | refine v'r ?_) <;> try simp only [wE, simprocAttr] | refine v'8 ?_ | refine v'9 ?_))
              refine eg_call (node_2 _ L a7 l6 pk pn pm F kv con A2 A3 hL (by simp only [wS, simprocAttr, hS]; try exact rfl) (by simp only [wS, simprocAttr, hS]; try exact rfl) (by simp only [wS, simprocAttr, hS]; try exact rfl) hk k2 k3 _ 0 true [] rfl) ?_
              rintro eff ⟨l7, rfl⟩
              simp only [wS, simprocAttr, hS]
              repeat' (first | with_reducible (first | refine v'1 fun _ _ => ?_ | refine v'2 ?_ | (first | refine v'3 ?_ | refine v'4 ?_ | refine v'5 fun _ _ _ _ => ?_ | refine v'6 (fun hg => ?_) (fun hg => ?_) <;> try simp only [hg]) <;> simp only [wS, simprocAttr, hS] | (first | refine v's ?_ | refine v'e ?_ | refine v'r ?_) <;> try simp only [wE, simprocAttr] | refine v'8 ?_ | refine v'9 ?_))
              refine EG.mono (fun i h => eff_accq (H := accH [.dead, .cells 0 [encI L, .int .i64 a7, .int .i64 l7, .int .i64 pk, .int .i64 pn, .int .i64 pm, kv, .int .i64 F, .bool con], A2, A3] [] app) (base := [[.int .i64 u, .int .i64 0, .int .i64 0, .sl true []]]) (app := kapp) (e := [.int .i64 y, .int .i64 0, .int .i64 0, .sl true []]) (by' := 48) accN_len (by kernel_rfl) rfl (by rw [upd_twice]; exact upd_acc2 (by simp)) rfl (fun e he => by
                rcases List.mem_cons.1 he with rfl | he
                · rfl
                · exact (hkn e he).len) (by simp [srcA]) (by simp only [List.length_cons, List.length_nil]; omega) h) ?_
              have hac := accH_snocq (H := accH [.dead, .cells 0 [encI L, .int .i64 a7, .int .i64 l7, .int .i64 pk, .int .i64 pn, .int .i64 pm, kv, .int .i64 F, .bool con], A2, A3] [] app) accN_len [[.int .i64 u, .int .i64 0, .int .i64 0, .sl true []]] kapp [.int .i64 y, .int .i64 0, .int .i64 0, .sl true []]
              simp only [List.length_cons, List.length_nil, Nat.reduceAdd] at hac
              simp only [wS, simprocAttr]
              repeat' (first | with_reducible (first | refine v'1 fun _ _ => ?_ | refine v'2 ?_ | (first | refine v'3 ?_ | refine v'4 ?_ | refine v'5 fun _ _ _ _ => ?_ | refine v'6 (fun hg => ?_) (fun hg => ?_) <;> try simp only [hg]) <;> simp only [wS, simprocAttr, e4] | (first | refine v's ?_ | refine v'e ?_ | refine v'r ?_) <;> try simp only [wE, simprocAttr] | refine v'8 ?_ | refine v'9 ?_))
              refine hK9 _ ⟨(kapp ++ [[.int .i64 y, .int .i64 0, .int .i64 0, .sl true []]], a7, l7), by simp; omega, fun e he => by
                rcases List.mem_append.1 he with he | he
                · exact hkn e he
                · rw [List.mem_singleton.1 he]; exact node0 _ _⟩ (Weak.ref ⟨?_, .inl ?_⟩) (by simp; omega)
              · simp only [wS, simprocAttr, List.length_append, List.length_singleton]; try exact rfl
              · simp only [wS, simprocAttr, accH_hset2, hac]; try exact rfl
            · repeat' (first | with_reducible (first | refine v'1 fun _ _ => ?_ | refine v'2 ?_ | (first | refine v'3 ?_ | refine v'4 ?_ | refine v'5 fun _ _ _ _ => ?_ | refine v'6 (fun hg => ?_) (fun hg => ?_) <;> try simp only [hg]) <;> simp only [wS, simprocAttr] | (first | refine v's ?_ | refine v'e ?_ | refine v'r ?_) <;> try simp only [wE, simprocAttr] | refine v'8 ?_ | refine v'9 ?_))
              have hkall : ∀ e ∈ [[.int .i64 u, .int .i64 0, .int .i64 0, .sl true []]] ++ kapp, NodeV 1 e := fun e he => by
                rcases List.mem_cons.1 he with rfl | he
                · exact node0 _ _
                · exact hkn e he
              refine hKa.2.go (eg_ref (ref_accB (H := accH [.dead, .cells 0 [encI L, .int .i64 a6, .int .i64 l6, .int .i64 pk, .int .i64 pn, .int .i64 pm, kv, .int .i64 F, .bool con], A2, A3] [] app) (base := [[.int .i64 u, .int .i64 0, .int .i64 0, .sl true []]]) (app := kapp) (sz := 4) (t := 9) [(0, .ptr 1 0 0), (1, .int .i64 params), (5, accV [] 4 4 app), (6, .int .i64 more), (7, .int .i64 (app.length : Nat))] (accH_len (by simp)) ?_ ?_ (fun e he => (hkall e he).len) (nodes_tree hkall) ?_ ?_ (accH_in ?_ (nodes_tree hn))) ?_)
              · simp only [wS, simprocAttr]; try exact rfl
              · simp only [wS, simprocAttr, accN_len, List.length_cons, List.length_nil]; try exact rfl
              · simp only [wS, simprocAttr]; try exact rfl
              · intro p hp
                simp only [List.mem_cons, List.not_mem_nil, or_false] at hp
                rcases hp with rfl | rfl | rfl | rfl | rfl
                · simp only [inR]; exact decide_eq_true (accH_len (by simp))
                · rfl
                · exact accV_in (H := [.dead, .cells 0 [encI L, .int .i64 a6, .int .i64 l6, .int .i64 pk, .int .i64 pn, .int .i64 pm, kv, .int .i64 F, .bool con], A2, A3])
                · rfl
                · rfl
              · simp only [List.cons_append, List.nil_append, List.all_cons, List.all_nil, Bool.and_eq_true, List.length_cons, List.length_nil, Nat.reduceAdd]
                exact ⟨rfl, rowIn_mono hcon (ms_in L _ _ _ _ _ _ _ _ hk), rowIn_mono hcon k2, rowIn_mono hcon k3, trivial⟩
              repeat' (first | with_reducible (first | refine v'1 fun _ _ => ?_ | refine v'2 ?_ | (first | refine v'3 ?_ | refine v'4 ?_ | refine v'5 fun _ _ _ _ => ?_ | refine v'6 (fun hg => ?_) (fun hg => ?_) <;> try simp only [hg]) <;> simp only [wS, simprocAttr] | (first | refine v's ?_ | refine v'e ?_ | refine v'r ?_) <;> try simp only [wE, simprocAttr] | refine v'8 ?_ | refine v'9 ?_))
              refine eg_call (node_2 _ L a6 l6 pk pn pm F kv con A2 A3 hL (by simp only [wS, simprocAttr, hS]; try exact rfl) (by simp only [wS, simprocAttr, hS]; try exact rfl) (by simp only [wS, simprocAttr, hS]; try exact rfl) hk k2 k3 3 0 false ([[.int .i64 u, .int .i64 0, .int .i64 0, .sl true []]] ++ kapp) (nodes_tree hkall)) ?_
              rintro eff ⟨l8, rfl⟩
              simp only [wS, simprocAttr, hS]
              repeat' (first | with_reducible (first | refine v'1 fun _ _ => ?_ | refine v'2 ?_ | (first | refine v'3 ?_ | refine v'4 ?_ | refine v'5 fun _ _ _ _ => ?_ | refine v'6 (fun hg => ?_) (fun hg => ?_) <;> try simp only [hg]) <;> simp only [wS, simprocAttr, hS] | (first | refine v's ?_ | refine v'e ?_ | refine v'r ?_) <;> try simp only [wE, simprocAttr] | refine v'8 ?_ | refine v'9 ?_))
              refine EG.mono (fun i h => eff_acc (H := [.dead, .cells 0 [encI L, .int .i64 a6, .int .i64 l8, .int .i64 pk, .int .i64 pn, .int .i64 pm, kv, .int .i64 F, .bool con], A2, A3]) (base := []) (app := app) (e := [.int .i64 3, .int .i64 0, .int .i64 0, .sl false ([.int .i64 u, .int .i64 0, .int .i64 0, .sl true []] :: kapp)]) (by' := 48) (by kernel_rfl) rfl (by first | exact upd_acc (by simp) | (rw [upd_twice]; exact upd_acc (by simp))) rfl (fun e he => (hn e (by simpa using he)).len) (by simp [srcA]) (by simp only [List.length_nil]; omega) h) ?_
              have hac := accH_snoc [.dead, .cells 0 [encI L, .int .i64 a6, .int .i64 l8, .int .i64 pk, .int .i64 pn, .int .i64 pm, kv, .int .i64 F, .bool con], A2, A3] [] app [.int .i64 3, .int .i64 0, .int .i64 0, .sl false ([.int .i64 u, .int .i64 0, .int .i64 0, .sl true []] :: kapp)]
              simp only [List.length_cons, List.length_nil, Nat.reduceAdd] at hac
              simp only [wS, simprocAttr]
              repeat' (first | with_reducible (first | refine v'1 fun _ _ => ?_ | refine v'2 ?_ | (first | refine v'3 ?_ | refine v'4 ?_ | refine v'5 fun _ _ _ _ => ?_ | refine v'6 (fun hg => ?_) (fun hg => ?_) <;> try simp only [hg]) <;> simp only [wS, simprocAttr, e3] | (first | refine v's ?_ | refine v'e ?_ | refine v'r ?_) <;> try simp only [wE, simprocAttr] | refine v'8 ?_ | refine v'9 ?_))
              refine hK3 _ ⟨(app ++ [[.int .i64 3, .int .i64 0, .int .i64 0, .sl false ([.int .i64 u, .int .i64 0, .int .i64 0, .sl true []] :: kapp)]], a6, l8), by simp; omega, hne _ (.mk (hd := by decide) _ _ _ _ _ (by simp; omega) hkall)⟩ (Weak.ref ⟨?_, .inl ?_⟩) (by simp; omega)
              · simp only [wS, simprocAttr, List.length_append, List.length_singleton]; try exact rfl
              · simp only [wS, simprocAttr, accH_hset, hac]; try exact rfl
      clear hK5
      repeat' (first | with_reducible (first | refine v'1 fun _ _ => ?_ | refine v'2 ?_ | (first | refine v'3 ?_ | refine v'4 ?_ | refine v'5 fun _ _ _ _ => ?_ | refine v'6 (fun hg => ?_) (fun hg => ?_) <;> try simp only [hg]) <;> simp only [wS, simprocAttr, hS] | (first | refine v's ?_ | refine v'e ?_ | refine v'r ?_) <;> try simp only [wE, simprocAttr] | refine v'8 ?_ | refine v'9 ?_))
      refine eg_split (fun h2 => ?_) (fun h2 => ?_)
      · repeat' (first | with_reducible (first | refine v'1 fun _ _ => ?_ | refine v'2 ?_ | (first | refine v'3 ?_ | refine v'4 ?_ | refine v'5 fun _ _ _ _ => ?_ | refine v'6 (fun hg => ?_) (fun hg => ?_) <;> try simp only [hg]) <;> simp only [wS, simprocAttr, hS] | (first | refine v's ?_ | refine v'e ?_ | refine v'r ?_) <;> try simp only [wE, simprocAttr] | refine v'8 ?_ | refine v'9 ?_))
        refine key (x.tmod 5) a3 _ ?_ ?_ (Weak.ref ⟨?_, .inl ?_⟩)
        rotate_left 2
        · simp only [wS, simprocAttr]; try exact rfl
        · simp only [wS, simprocAttr, accH_hset]; try exact rfl
        · rw [Int.tmod_eq_emod_of_nonneg hx1]; omega
        · rw [Int.tmod_eq_emod_of_nonneg hx1]; omega
      · repeat' (first | with_reducible (first | refine v'1 fun _ _ => ?_ | refine v'2 ?_ | (first | refine v'3 ?_ | refine v'4 ?_ | refine v'5 fun _ _ _ _ => ?_ | refine v'6 (fun hg => ?_) (fun hg => ?_) <;> try simp only [hg]) <;> simp only [wS, simprocAttr, hS] | (first | refine v's ?_ | refine v'e ?_ | refine v'r ?_) <;> try simp only [wE, simprocAttr] | refine v'8 ?_ | refine v'9 ?_))
        refine key x a3 _ hx1 hx2 (Weak.ref ⟨?_, .inl ?_⟩)
        · simp only [wS, simprocAttr]; try exact rfl
        · simp only [wS, simprocAttr, accH_hset]; try exact rfl
    · have hge : app.length = tot := by simp at h; omega
      repeat' (first | with_reducible (first | refine v'1 fun _ _ => ?_ | refine v'2 ?_ | (first | refine v'3 ?_ | refine v'4 ?_ | refine v'5 fun _ _ _ _ => ?_ | refine v'6 (fun hg => ?_) (fun hg => ?_) <;> try simp only [hg]) <;> simp only [wS, simprocAttr] | (first | refine v's ?_ | refine v'e ?_ | refine v'r ?_) <;> try simp only [wE, simprocAttr] | refine v'8 ?_ | refine v'9 ?_))
      refine eg_ret1 rfl ?_
      refine EG.of ⟨accV [] 4 4 app, (1, .cells 0 [encI L, .int .i64 a2, .int .i64 l2, .int .i64 pk, .int .i64 pn, .int .i64 pm, kv, .int .i64 F, .bool con]) :: (if app = [] then [] else [(4, accRow [] app)])⟩ ⟨app, a2, l2, rfl, by omega, by omega, hn⟩ ⟨.inl ?_, ?_, ?_⟩
      · simp only [wS, simprocAttr]
      · simp only [wS, simprocAttr]
        unfold accV
        split
        · rfl
        · simp [inR]
      · simp only [wS, simprocAttr]
        refine acc_post (H := [.dead, .cells 0 [encI L, .int .i64 a2, .int .i64 l2, .int .i64 pk, .int .i64 pn, .int .i64 pm, kv, .int .i64 F, .bool con], A2, A3]) (y := .cells 0 [encI L, .int .i64 a2, .int .i64 l2, .int .i64 pk, .int .i64 pn, .int .i64 pm, kv, .int .i64 F, .bool con]) (by simp) (by simp) hnone ?_ (nodes_tree hn)
        intro r hr hlt
        simp only [List.mem_cons, List.not_mem_nil, or_false] at hr
        rcases hr with rfl | rfl | rfl | rfl
        · exact ⟨rfl, rowIn_mono hcon2 (ms_in L _ _ _ _ _ _ _ _ hk)⟩
        · exact ⟨by rw [upd_one, if_neg (by decide)]; exact h2.symm, rowIn_mono hcon2 k2⟩
        · exact ⟨by rw [upd_one, if_neg (by decide)]; exact h3.symm, rowIn_mono hcon2 k3⟩
        · simp at hlt
set_option maxHeartbeats 8000000 in
theorem vars_3 (rows : Nat → ARow) (L : List Int) (at0 left pk pn pm F : Int) (kv : AV) (con : Bool) (A2 A3 A4 : ARow) (hL : ∀ x ∈ L, Small64 x) (h1 : rows 1 = .cells 0 [encI L, .int .i64 at0, .int .i64 left, .int .i64 pk, .int .i64 pn, .int .i64 pm, kv, .int .i64 F, .bool con]) (h2 : rows 2 = A2) (h3 : rows 3 = A3) (h4 : rows 4 = A4) (hk : inR (fun r => ([1, 2, 3, 4] : List Nat).contains r) kv = true) (k2 : rowIn (fun r => ([1, 2, 3, 4] : List Nat).contains r) A2 = true) (k3 : rowIn (fun r => ([1, 2, 3, 4] : List Nat).contains r) A3 = true) (k4 : rowIn (fun r => ([1, 2, 3, 4] : List Nat).contains r) A4 = true) (params : Nat) (hpar : params ≤ 2) (hnone : rows 5 = .none) : EC Tryd.prog G0 30 [.ptr 1 0 0, .int .i64 params] rows [1, 2, 3, 4, 5] (fun eff => ∃ app at1 left1, eff = ⟨accV [] 5 4 app, (1, .cells 0 [encI L, .int .i64 at1, .int .i64 left1, .int .i64 pk, .int .i64 pn, .int .i64 pm, kv, .int .i64 F, .bool con]) :: (if app = [] then [] else [(5, accRow [] app)])⟩ ∧ params ≤ app.length ∧ app.length ≤ 5 ∧ ∀ e ∈ app, NodeV 2 e) := by
  have hcon : ∀ r, ([1, 2, 3, 4] : List Nat).contains r = true → decide (r < 5) = true := fun r h => by simp at h ⊢; omega
  have hcon2 : ∀ r, ([1, 2, 3, 4] : List Nat).contains r = true → ([1, 2, 3, 4, 5] : List Nat).contains r = true := fun r h => by simp at h ⊢; omega
  refine ec_of_body [.dead, .cells 0 [encI L, .int .i64 at0, .int .i64 left, .int .i64 pk, .int .i64 pn, .int .i64 pm, kv, .int .i64 F, .bool con], A2, A3, A4] hG0 Tryd.func30 rfl (by kernel_rfl) (by simp [Tryd.ntmps30]) ?_ ?_ (by simp [inL, inR]) ?_ ?_ ?_ ?_
  · intro r hr
    simp only [List.mem_cons, List.not_mem_nil, or_false] at hr
    rcases hr with rfl | rfl | rfl | rfl | rfl
    · exact h1.symm
    · exact h2.symm
    · exact h3.symm
    · exact h4.symm
    · exact hnone.symm
  · intro r hr
    match r, hr with
    | 0, _ => simp
    | 1, hr => exact absurd (by simp) hr
    | 2, hr => exact absurd (by simp) hr
    | 3, hr => exact absurd (by simp) hr
    | 4, hr => exact absurd (by simp) hr
    | 5, hr => exact absurd (by simp) hr
    | r + 6, _ => simp
  · intro r hr
    simp only [List.mem_cons, List.not_mem_nil, or_false] at hr
    rcases hr with rfl | rfl | rfl | rfl | rfl
    · rw [h1]; exact rowIn_mono hcon (ms_in L _ _ _ _ _ _ _ _ hk)
    · rw [h2]; exact rowIn_mono hcon k2
    · rw [h3]; exact rowIn_mono hcon k3
    · rw [h4]; exact rowIn_mono hcon k4
    · rw [hnone]; rfl
  · intro r hr h
    simp only [List.mem_cons, List.not_mem_nil, or_false] at hr
    simp only [List.length_cons, List.length_nil] at h
    obtain rfl : r = 5 := by omega
    exact hnone
  · rintro eff ⟨app, at1, left1, rfl, _⟩ p hp
    rcases List.mem_cons.1 hp with rfl | hp
    · simp
    · split at hp
      · cases hp
      · rw [List.mem_singleton.1 hp]; simp
  simp only [Tryd.ntmps30, enterF, Nat.reduceAdd, List.length_cons, List.length_nil]
  repeat' (first | with_reducible (first | refine v'1 fun _ _ => ?_ | refine v'2 ?_ | (first | refine v'3 ?_ | refine v'4 ?_ | refine v'5 fun _ _ _ _ => ?_ | refine v'6 (fun hg => ?_) (fun hg => ?_) <;> try simp only [hg]) <;> simp only [wS, simprocAttr] | (first | refine v's ?_ | refine v'e ?_ | refine v'r ?_) <;> try simp only [wE, simprocAttr] | refine v'8 ?_ | refine v'9 ?_))
  refine eg_call (draw_3 _ L at0 left pk pn pm F kv con A2 A3 A4 hL (by simp only [wS, simprocAttr, hS]; try exact rfl) (by simp only [wS, simprocAttr, hS]; try exact rfl) (by simp only [wS, simprocAttr, hS]; try exact rfl) (by simp only [wS, simprocAttr, hS]; try exact rfl) hk k2 k3 k4 4 (by decide)) ?_
  rintro eff ⟨more, at1, rfl, hm1, hm2⟩
  simp only [wS, simprocAttr, hS]
  repeat' (first | with_reducible (first | refine v'1 fun _ _ => ?_ | refine v'2 ?_ | (first | refine v'3 ?_ | refine v'4 ?_ | refine v'5 fun _ _ _ _ => ?_ | refine v'6 (fun hg => ?_) (fun hg => ?_) <;> try simp only [hg]) <;> simp only [wS, simprocAttr, hS] | (first | refine v's ?_ | refine v'e ?_ | refine v'r ?_) <;> try simp only [wE, simprocAttr] | refine v'8 ?_ | refine v'9 ?_))
  obtain ⟨tot, htot⟩ : ∃ tot : Nat, (params : Int) + more = tot := ⟨((params : Int) + more).toNat, (Int.toNat_of_nonneg (by omega)).symm⟩
  have ew : IntKind.i64.wrap (tot : Int) = tot := wrap_small (by omega) (by omega)
  refine eg_loop_k (α := {p : List (List AV) × Int × Int // p.1.length ≤ tot ∧ ∀ e ∈ p.1, NodeV 2 e}) (fun p => [(0, .ptr 1 0 0), (1, .int .i64 params), (5, accV [] 5 4 p.1.1), (6, .int .i64 more), (7, .int .i64 (p.1.1.length : Nat))]) (fun p => accH [.dead, .cells 0 [encI L, .int .i64 p.1.2.1, .int .i64 p.1.2.2, .int .i64 pk, .int .i64 pn, .int .i64 pm, kv, .int .i64 F, .bool con], A2, A3, A4] [] p.1.1) (fun p => tot - p.1.1.length) ⟨([], at1, left), by simp, by simp⟩ (Weak.ref ⟨?_, .inl ?_⟩) ?_
  · simp only [wS, simprocAttr, accV_nil]; try exact rfl
  · simp only [wS, simprocAttr, accH, if_true]; try exact rfl
  · rintro ⟨⟨app, a2, l2⟩, hl, hn⟩ K3 hK3
    simp only at hl hn
    repeat' (first | with_reducible (first | refine v'1 fun _ _ => ?_ | refine v'2 ?_ | (first | refine v'3 ?_ | refine v'4 ?_ | refine v'5 fun _ _ _ _ => ?_ | refine v'6 (fun hg => ?_) (fun hg => ?_) <;> try simp only [hg]) <;> simp only [wS, simprocAttr, hS, htot, ew] | (first | refine v's ?_ | refine v'e ?_ | refine v'r ?_) <;> try simp only [wE, simprocAttr] | refine v'8 ?_ | refine v'9 ?_))
    refine eg_split (fun h => ?_) (fun h => ?_)
    · have hlt : app.length < tot := by simpa using h
      repeat' (first | with_reducible (first | refine v'1 fun _ _ => ?_ | refine v'2 ?_ | (first | refine v'3 ?_ | refine v'4 ?_ | refine v'5 fun _ _ _ _ => ?_ | refine v'6 (fun hg => ?_) (fun hg => ?_) <;> try simp only [hg]) <;> simp only [wS, simprocAttr] | (first | refine v's ?_ | refine v'e ?_ | refine v'r ?_) <;> try simp only [wE, simprocAttr] | refine v'8 ?_ | refine v'9 ?_))
      refine eg_call (draw_3 _ L a2 l2 pk pn pm F kv con A2 A3 A4 hL (by simp only [wS, simprocAttr, hS]; try exact rfl) (by simp only [wS, simprocAttr, hS]; try exact rfl) (by simp only [wS, simprocAttr, hS]; try exact rfl) (by simp only [wS, simprocAttr, hS]; try exact rfl) hk k2 k3 k4 8 (by decide)) ?_
      rintro eff ⟨x, a3, rfl, hx1, hx2⟩
      simp only [wS, simprocAttr, hS]
      repeat' (first | with_reducible (first | refine v'1 fun _ _ => ?_ | refine v'2 ?_ | (first | refine v'3 ?_ | refine v'4 ?_ | refine v'5 fun _ _ _ _ => ?_ | refine v'6 (fun hg => ?_) (fun hg => ?_) <;> try simp only [hg]) <;> simp only [wS, simprocAttr, hS] | (first | refine v's ?_ | refine v'e ?_ | refine v'r ?_) <;> try simp only [wE, simprocAttr] | refine v'9 ?_))
      rename_i Kr hKr Kb hKb
      refine hKb.go ?_
      refine eg_seq_k fun K5 hK5 => ?_
      replace hK5 := And.intro trivial hK5
      have hne : ∀ e : List AV, NodeV 2 e → ∀ y ∈ app ++ [e], NodeV 2 y := fun e he y hy => by
        rcases List.mem_append.1 hy with hy | hy
        · exact hn y hy
        · rw [List.mem_singleton.1 hy]; exact he
      have e3 := wrap_succ (k := app.length) hlt (by omega)
      have key : ∀ (w a3 : Int) (s : AS), 0 ≤ w → w < 8 → Ref G0 79 5 s ⟨mkF [(0, .ptr 1 0 0), (1, .int .i64 params), (5, accV [] 5 4 app), (6, .int .i64 more), (7, .int .i64 (app.length : Nat)), (8, .int .i64 w)], accH [.dead, .cells 0 [encI L, .int .i64 a3, .int .i64 l2, .int .i64 pk, .int .i64 pn, .int .i64 pm, kv, .int .i64 F, .bool con], A2, A3, A4] [] app⟩ → EG (fun eff : Eff => ∃ app at1 left1, eff = ⟨accV [] 5 4 app, (1, .cells 0 [encI L, .int .i64 at1, .int .i64 left1, .int .i64 pk, .int .i64 pn, .int .i64 pm, kv, .int .i64 F, .bool con]) :: (if app = [] then [] else [(5, accRow [] app)])⟩ ∧ params ≤ app.length ∧ app.length ≤ 5 ∧ ∀ e ∈ app, NodeV 2 e) (fun i => K5 i s) := by
        intro w a3 s hw1 hw2 hr
        refine hK5.2.go (eg_ref hr ?_)
        clear hr hK5
        have hw : w < 4 ∨ w = 4 ∨ w = 5 ∨ w = 6 ∨ w = 7 := by omega
        rcases hw with hw | hw | hw | hw | hw
        ·
          have zl4 : (w < 4) = True := eq_true (by omega)
          have zl7 : (w < 7) = True := eq_true (by omega)
          have z4 : (w == 4) = false := by simp; omega
          repeat' (first | with_reducible (first | refine v'1 fun _ _ => ?_ | refine v'2 ?_ | (first | refine v'3 ?_ | refine v'4 ?_ | refine v'5 fun _ _ _ _ => ?_ | refine v'6 (fun hg => ?_) (fun hg => ?_) <;> try simp only [hg]) <;> simp only [wS, simprocAttr, zl4, zl7, z4, hS] | (first | refine v's ?_ | refine v'e ?_ | refine v'r ?_) <;> try simp only [wE, simprocAttr] | refine v'8 ?_ | refine v'9 ?_))
          refine eg_call (node_3 _ L a3 l2 pk pn pm F kv con A2 A3 A4 hL (by simp only [wS, simprocAttr, hS]; try exact rfl) (by simp only [wS, simprocAttr, hS]; try exact rfl) (by simp only [wS, simprocAttr, hS]; try exact rfl) (by simp only [wS, simprocAttr, hS]; try exact rfl) hk k2 k3 k4 0 0 true [] rfl) ?_
          rintro eff ⟨l3, rfl⟩
          simp only [wS, simprocAttr, hS]
          repeat' (first | with_reducible (first | refine v'1 fun _ _ => ?_ | refine v'2 ?_ | (first | refine v'3 ?_ | refine v'4 ?_ | refine v'5 fun _ _ _ _ => ?_ | refine v'6 (fun hg => ?_) (fun hg => ?_) <;> try simp only [hg]) <;> simp only [wS, simprocAttr, hS] | (first | refine v's ?_ | refine v'e ?_ | refine v'r ?_) <;> try simp only [wE, simprocAttr] | refine v'8 ?_ | refine v'9 ?_))
          refine EG.mono (fun i h => eff_acc (H := [.dead, .cells 0 [encI L, .int .i64 a3, .int .i64 l3, .int .i64 pk, .int .i64 pn, .int .i64 pm, kv, .int .i64 F, .bool con], A2, A3, A4]) (base := []) (app := app) (e := [.int .i64 0, .int .i64 0, .int .i64 0, .sl true []]) (by' := 48) (by kernel_rfl) rfl (by first | exact upd_acc (by simp) | (rw [upd_twice]; exact upd_acc (by simp))) rfl (fun e he => (hn e (by simpa using he)).len) (by simp [srcA]) (by simp only [List.length_nil]; omega) h) ?_
          have hac := accH_snoc [.dead, .cells 0 [encI L, .int .i64 a3, .int .i64 l3, .int .i64 pk, .int .i64 pn, .int .i64 pm, kv, .int .i64 F, .bool con], A2, A3, A4] [] app [.int .i64 0, .int .i64 0, .int .i64 0, .sl true []]
          simp only [List.length_cons, List.length_nil, Nat.reduceAdd] at hac
          simp only [wS, simprocAttr]
          repeat' (first | with_reducible (first | refine v'1 fun _ _ => ?_ | refine v'2 ?_ | (first | refine v'3 ?_ | refine v'4 ?_ | refine v'5 fun _ _ _ _ => ?_ | refine v'6 (fun hg => ?_) (fun hg => ?_) <;> try simp only [hg]) <;> simp only [wS, simprocAttr, e3] | (first | refine v's ?_ | refine v'e ?_ | refine v'r ?_) <;> try simp only [wE, simprocAttr] | refine v'8 ?_ | refine v'9 ?_))
          refine hK3 _ ⟨(app ++ [[.int .i64 0, .int .i64 0, .int .i64 0, .sl true []]], a3, l3), by simp; omega, hne _ ((node0 _ _).up (by decide))⟩ (Weak.ref ⟨?_, .inl ?_⟩) (by simp; omega)
          · simp only [wS, simprocAttr, List.length_append, List.length_singleton]; try exact rfl
          · simp only [wS, simprocAttr, accH_hset, hac]; try exact rfl
        ·
          have zl4 : (w < 4) = False := eq_false (by omega)
          have zl7 : (w < 7) = True := eq_true (by omega)
          have z4 : (w == 4) = true := by simp; omega
          repeat' (first | with_reducible (first | refine v'1 fun _ _ => ?_ | refine v'2 ?_ | (first | refine v'3 ?_ | refine v'4 ?_ | refine v'5 fun _ _ _ _ => ?_ | refine v'6 (fun hg => ?_) (fun hg => ?_) <;> try simp only [hg]) <;> simp only [wS, simprocAttr, zl4, zl7, z4, hS] | (first | refine v's ?_ | refine v'e ?_ | refine v'r ?_) <;> try simp only [wE, simprocAttr] | refine v'8 ?_ | refine v'9 ?_))
          refine eg_call (node_3 _ L a3 l2 pk pn pm F kv con A2 A3 A4 hL (by simp only [wS, simprocAttr, hS]; try exact rfl) (by simp only [wS, simprocAttr, hS]; try exact rfl) (by simp only [wS, simprocAttr, hS]; try exact rfl) (by simp only [wS, simprocAttr, hS]; try exact rfl) hk k2 k3 k4 1 0 true [] rfl) ?_
          rintro eff ⟨l3, rfl⟩
          simp only [wS, simprocAttr, hS]
          repeat' (first | with_reducible (first | refine v'1 fun _ _ => ?_ | refine v'2 ?_ | (first | refine v'3 ?_ | refine v'4 ?_ | refine v'5 fun _ _ _ _ => ?_ | refine v'6 (fun hg => ?_) (fun hg => ?_) <;> try simp only [hg]) <;> simp only [wS, simprocAttr, hS] | (first | refine v's ?_ | refine v'e ?_ | refine v'r ?_) <;> try simp only [wE, simprocAttr] | refine v'8 ?_ | refine v'9 ?_))
          refine EG.mono (fun i h => eff_acc (H := [.dead, .cells 0 [encI L, .int .i64 a3, .int .i64 l3, .int .i64 pk, .int .i64 pn, .int .i64 pm, kv, .int .i64 F, .bool con], A2, A3, A4]) (base := []) (app := app) (e := [.int .i64 1, .int .i64 0, .int .i64 0, .sl true []]) (by' := 48) (by kernel_rfl) rfl (by first | exact upd_acc (by simp) | (rw [upd_twice]; exact upd_acc (by simp))) rfl (fun e he => (hn e (by simpa using he)).len) (by simp [srcA]) (by simp only [List.length_nil]; omega) h) ?_
          have hac := accH_snoc [.dead, .cells 0 [encI L, .int .i64 a3, .int .i64 l3, .int .i64 pk, .int .i64 pn, .int .i64 pm, kv, .int .i64 F, .bool con], A2, A3, A4] [] app [.int .i64 1, .int .i64 0, .int .i64 0, .sl true []]
          simp only [List.length_cons, List.length_nil, Nat.reduceAdd] at hac
          simp only [wS, simprocAttr]
          repeat' (first | with_reducible (first | refine v'1 fun _ _ => ?_ | refine v'2 ?_ | (first | refine v'3 ?_ | refine v'4 ?_ | refine v'5 fun _ _ _ _ => ?_ | refine v'6 (fun hg => ?_) (fun hg => ?_) <;> try simp only [hg]) <;> simp only [wS, simprocAttr, e3] | (first | refine v's ?_ | refine v'e ?_ | refine v'r ?_) <;> try simp only [wE, simprocAttr] | refine v'8 ?_ | refine v'9 ?_))
          refine hK3 _ ⟨(app ++ [[.int .i64 1, .int .i64 0, .int .i64 0, .sl true []]], a3, l3), by simp; omega, hne _ ((node0 _ _).up (by decide))⟩ (Weak.ref ⟨?_, .inl ?_⟩) (by simp; omega)
          · simp only [wS, simprocAttr, List.length_append, List.length_singleton]; try exact rfl
          · simp only [wS, simprocAttr, accH_hset, hac]; try exact rfl
        ·
          have zl4 : (w < 4) = False := eq_false (by omega)
          have zl7 : (w < 7) = True := eq_true (by omega)
          have z4 : (w == 4) = false := by simp; omega
          repeat' (first | with_reducible (first | refine v'1 fun _ _ => ?_ | refine v'2 ?_ | (first | refine v'3 ?_ | refine v'4 ?_ | refine v'5 fun _ _ _ _ => ?_ | refine v'6 (fun hg => ?_) (fun hg => ?_) <;> try simp only [hg]) <;> simp only [wS, simprocAttr, zl4, zl7, z4, hS] | (first | refine v's ?_ | refine v'e ?_ | refine v'r ?_) <;> try simp only [wE, simprocAttr] | refine v'8 ?_ | refine v'9 ?_))
          refine eg_call (draw_3 _ L a3 l2 pk pn pm F kv con A2 A3 A4 hL (by simp only [wS, simprocAttr, hS]; try exact rfl) (by simp only [wS, simprocAttr, hS]; try exact rfl) (by simp only [wS, simprocAttr, hS]; try exact rfl) (by simp only [wS, simprocAttr, hS]; try exact rfl) hk k2 k3 k4 4 (by decide)) ?_
          rintro eff ⟨u, a4, rfl, hu1, hu2⟩
          simp only [wS, simprocAttr, hS]
          repeat' (first | with_reducible (first | refine v'1 fun _ _ => ?_ | refine v'2 ?_ | (first | refine v'3 ?_ | refine v'4 ?_ | refine v'5 fun _ _ _ _ => ?_ | refine v'6 (fun hg => ?_) (fun hg => ?_) <;> try simp only [hg]) <;> simp only [wS, simprocAttr, hS] | (first | refine v's ?_ | refine v'e ?_ | refine v'r ?_) <;> try simp only [wE, simprocAttr] | refine v'8 ?_ | refine v'9 ?_))
          refine eg_call (node_3 _ L a4 l2 pk pn pm F kv con A2 A3 A4 hL (by simp only [wS, simprocAttr, hS]; try exact rfl) (by simp only [wS, simprocAttr, hS]; try exact rfl) (by simp only [wS, simprocAttr, hS]; try exact rfl) (by simp only [wS, simprocAttr, hS]; try exact rfl) hk k2 k3 k4 2 _ true [] rfl) ?_
          rintro eff ⟨l3, rfl⟩
          simp only [wS, simprocAttr, hS]
          repeat' (first | with_reducible (first | refine v'1 fun _ _ => ?_ | refine v'2 ?_ | (first | refine v'3 ?_ | refine v'4 ?_ | refine v'5 fun _ _ _ _ => ?_ | refine v'6 (fun hg => ?_) (fun hg => ?_) <;> try simp only [hg]) <;> simp only [wS, simprocAttr, hS] | (first | refine v's ?_ | refine v'e ?_ | refine v'r ?_) <;> try simp only [wE, simprocAttr] | refine v'8 ?_ | refine v'9 ?_))
          refine EG.mono (fun i h => eff_acc (H := [.dead, .cells 0 [encI L, .int .i64 a4, .int .i64 l3, .int .i64 pk, .int .i64 pn, .int .i64 pm, kv, .int .i64 F, .bool con], A2, A3, A4]) (base := []) (app := app) (e := [.int .i64 2, .int .i64 (IntKind.i64.wrap (1 + u)), .int .i64 0, .sl true []]) (by' := 48) (by kernel_rfl) rfl (by first | exact upd_acc (by simp) | (rw [upd_twice]; exact upd_acc (by simp))) rfl (fun e he => (hn e (by simpa using he)).len) (by simp [srcA]) (by simp only [List.length_nil]; omega) h) ?_
          have hac := accH_snoc [.dead, .cells 0 [encI L, .int .i64 a4, .int .i64 l3, .int .i64 pk, .int .i64 pn, .int .i64 pm, kv, .int .i64 F, .bool con], A2, A3, A4] [] app [.int .i64 2, .int .i64 (IntKind.i64.wrap (1 + u)), .int .i64 0, .sl true []]
          simp only [List.length_cons, List.length_nil, Nat.reduceAdd] at hac
          simp only [wS, simprocAttr]
          repeat' (first | with_reducible (first | refine v'1 fun _ _ => ?_ | refine v'2 ?_ | (first | refine v'3 ?_ | refine v'4 ?_ | refine v'5 fun _ _ _ _ => ?_ | refine v'6 (fun hg => ?_) (fun hg => ?_) <;> try simp only [hg]) <;> simp only [wS, simprocAttr, e3] | (first | refine v's ?_ | refine v'e ?_ | refine v'r ?_) <;> try simp only [wE, simprocAttr] | refine v'8 ?_ | refine v'9 ?_))
          refine hK3 _ ⟨(app ++ [[.int .i64 2, .int .i64 (IntKind.i64.wrap (1 + u)), .int .i64 0, .sl true []]], a4, l3), by simp; omega, hne _ ((node0 _ _).up (by decide))⟩ (Weak.ref ⟨?_, .inl ?_⟩) (by simp; omega)
          · simp only [wS, simprocAttr, List.length_append, List.length_singleton]; try exact rfl
          · simp only [wS, simprocAttr, accH_hset, hac]; try exact rfl
        ·
          have zl4 : (w < 4) = False := eq_false (by omega)
          have zl7 : (w < 7) = True := eq_true (by omega)
          have z4 : (w == 4) = false := by simp; omega
          repeat' (first | with_reducible (first | refine v'1 fun _ _ => ?_ | refine v'2 ?_ | (first | refine v'3 ?_ | refine v'4 ?_ | refine v'5 fun _ _ _ _ => ?_ | refine v'6 (fun hg => ?_) (fun hg => ?_) <;> try simp only [hg]) <;> simp only [wS, simprocAttr, zl4, zl7, z4, hS] | (first | refine v's ?_ | refine v'e ?_ | refine v'r ?_) <;> try simp only [wE, simprocAttr] | refine v'8 ?_ | refine v'9 ?_))
          refine eg_call (draw_3 _ L a3 l2 pk pn pm F kv con A2 A3 A4 hL (by simp only [wS, simprocAttr, hS]; try exact rfl) (by simp only [wS, simprocAttr, hS]; try exact rfl) (by simp only [wS, simprocAttr, hS]; try exact rfl) (by simp only [wS, simprocAttr, hS]; try exact rfl) hk k2 k3 k4 4 (by decide)) ?_
          rintro eff ⟨u, a4, rfl, hu1, hu2⟩
          simp only [wS, simprocAttr, hS]
          repeat' (first | with_reducible (first | refine v'1 fun _ _ => ?_ | refine v'2 ?_ | (first | refine v'3 ?_ | refine v'4 ?_ | refine v'5 fun _ _ _ _ => ?_ | refine v'6 (fun hg => ?_) (fun hg => ?_) <;> try simp only [hg]) <;> simp only [wS, simprocAttr, hS] | (first | refine v's ?_ | refine v'e ?_ | refine v'r ?_) <;> try simp only [wE, simprocAttr] | refine v'8 ?_ | refine v'9 ?_))
          refine eg_call (node_3 _ L a4 l2 pk pn pm F kv con A2 A3 A4 hL (by simp only [wS, simprocAttr, hS]; try exact rfl) (by simp only [wS, simprocAttr, hS]; try exact rfl) (by simp only [wS, simprocAttr, hS]; try exact rfl) (by simp only [wS, simprocAttr, hS]; try exact rfl) hk k2 k3 k4 2 _ true [] rfl) ?_
          rintro eff ⟨l3, rfl⟩
          simp only [wS, simprocAttr, hS]
          repeat' (first | with_reducible (first | refine v'1 fun _ _ => ?_ | refine v'2 ?_ | (first | refine v'3 ?_ | refine v'4 ?_ | refine v'5 fun _ _ _ _ => ?_ | refine v'6 (fun hg => ?_) (fun hg => ?_) <;> try simp only [hg]) <;> simp only [wS, simprocAttr, hS] | (first | refine v's ?_ | refine v'e ?_ | refine v'r ?_) <;> try simp only [wE, simprocAttr] | refine v'8 ?_ | refine v'9 ?_))
          refine EG.mono (fun i h => eff_acc (H := [.dead, .cells 0 [encI L, .int .i64 a4, .int .i64 l3, .int .i64 pk, .int .i64 pn, .int .i64 pm, kv, .int .i64 F, .bool con], A2, A3, A4]) (base := []) (app := app) (e := [.int .i64 2, .int .i64 (IntKind.i64.wrap (1 + u)), .int .i64 0, .sl true []]) (by' := 48) (by kernel_rfl) rfl (by first | exact upd_acc (by simp) | (rw [upd_twice]; exact upd_acc (by simp))) rfl (fun e he => (hn e (by simpa using he)).len) (by simp [srcA]) (by simp only [List.length_nil]; omega) h) ?_
          have hac := accH_snoc [.dead, .cells 0 [encI L, .int .i64 a4, .int .i64 l3, .int .i64 pk, .int .i64 pn, .int .i64 pm, kv, .int .i64 F, .bool con], A2, A3, A4] [] app [.int .i64 2, .int .i64 (IntKind.i64.wrap (1 + u)), .int .i64 0, .sl true []]
          simp only [List.length_cons, List.length_nil, Nat.reduceAdd] at hac
          simp only [wS, simprocAttr]
          repeat' (first | with_reducible (first | refine v'1 fun _ _ => ?_ | refine v'2 ?_ | (first | refine v'3 ?_ | refine v'4 ?_ | refine v'5 fun _ _ _ _ => ?_ | refine v'6 (fun hg => ?_) (fun hg => ?_) <;> try simp only [hg]) <;> simp only [wS, simprocAttr, e3] | (first | refine v's ?_ | refine v'e ?_ | refine v'r ?_) <;> try simp only [wE, simprocAttr] | refine v'8 ?_ | refine v'9 ?_))
          refine hK3 _ ⟨(app ++ [[.int .i64 2, .int .i64 (IntKind.i64.wrap (1 + u)), .int .i64 0, .sl true []]], a4, l3), by simp; omega, hne _ ((node0 _ _).up (by decide))⟩ (Weak.ref ⟨?_, .inl ?_⟩) (by simp; omega)
          · simp only [wS, simprocAttr, List.length_append, List.length_singleton]; try exact rfl
          · simp only [wS, simprocAttr, accH_hset, hac]; try exact rfl
        ·
          have zl4 : (w < 4) = False := eq_false (by omega)
          have zl7 : (w < 7) = False := eq_false (by omega)
          have z4 : (w == 4) = false := by simp; omega
          repeat' (first | with_reducible (first | refine v'1 fun _ _ => ?_ | refine v'2 ?_ | (first | refine v'3 ?_ | refine v'4 ?_ | refine v'5 fun _ _ _ _ => ?_ | refine v'6 (fun hg => ?_) (fun hg => ?_) <;> try simp only [hg]) <;> simp only [wS, simprocAttr, zl4, zl7, z4, hS] | (first | refine v's ?_ | refine v'e ?_ | refine v'r ?_) <;> try simp only [wE, simprocAttr] | refine v'8 ?_ | refine v'9 ?_))
          refine eg_call (draw_3 _ L a3 l2 pk pn pm F kv con A2 A3 A4 hL (by simp only [wS, simprocAttr, hS]; try exact rfl) (by simp only [wS, simprocAttr, hS]; try exact rfl) (by simp only [wS, simprocAttr, hS]; try exact rfl) (by simp only [wS, simprocAttr, hS]; try exact rfl) hk k2 k3 k4 2 (by decide)) ?_
          rintro eff ⟨u, a4, rfl, hu1, hu2⟩
          simp only [wS, simprocAttr, hS]
          repeat' (first | with_reducible (first | refine v'1 fun _ _ => ?_ | refine v'2 ?_ | (first | refine v'3 ?_ | refine v'4 ?_ | refine v'5 fun _ _ _ _ => ?_ | refine v'6 (fun hg => ?_) (fun hg => ?_) <;> try simp only [hg]) <;> simp only [wS, simprocAttr, hS] | (first | refine v's ?_ | refine v'e ?_ | refine v'r ?_) <;> try simp only [wE, simprocAttr] | refine v'8 ?_ | refine v'9 ?_))
          refine eg_call (node_3 _ L a4 l2 pk pn pm F kv con A2 A3 A4 hL (by simp only [wS, simprocAttr, hS]; try exact rfl) (by simp only [wS, simprocAttr, hS]; try exact rfl) (by simp only [wS, simprocAttr, hS]; try exact rfl) (by simp only [wS, simprocAttr, hS]; try exact rfl) hk k2 k3 k4 _ 0 true [] rfl) ?_
          rintro eff ⟨l3, rfl⟩
          simp only [wS, simprocAttr, hS]
          repeat' (first | with_reducible (first | refine v'1 fun _ _ => ?_ | refine v'2 ?_ | (first | refine v'3 ?_ | refine v'4 ?_ | refine v'5 fun _ _ _ _ => ?_ | refine v'6 (fun hg => ?_) (fun hg => ?_) <;> try simp only [hg]) <;> simp only [wS, simprocAttr, hS] | (first | refine v's ?_ | refine v'e ?_ | refine v'r ?_) <;> try simp only [wE, simprocAttr] | refine v'8 ?_ | refine v'9 ?_))
          refine eg_call (draw_3 _ L a4 l3 pk pn pm F kv con A2 A3 A4 hL (by simp only [wS, simprocAttr, hS]; try exact rfl) (by simp only [wS, simprocAttr, hS]; try exact rfl) (by simp only [wS, simprocAttr, hS]; try exact rfl) (by simp only [wS, simprocAttr, hS]; try exact rfl) hk k2 k3 k4 3 (by decide)) ?_
          rintro eff ⟨z3, a5, rfl, hz1, hz2⟩
          simp only [wS, simprocAttr, hS]
          repeat' (first | with_reducible (first | refine v'1 fun _ _ => ?_ | refine v'2 ?_ | (first | refine v'3 ?_ | refine v'4 ?_ | refine v'5 fun _ _ _ _ => ?_ | refine v'6 (fun hg => ?_) (fun hg => ?_) <;> try simp only [hg]) <;> simp only [wS, simprocAttr, hS] | (first | refine v's ?_ | refine v'e ?_ | refine v'r ?_) <;> try simp only [wE, simprocAttr] | refine v'8 ?_ | refine v'9 ?_))
          obtain ⟨nk, rfl⟩ : ∃ nk : Nat, z3 = nk := ⟨z3.toNat, (Int.toNat_of_nonneg hz1).symm⟩
          rename_i Ka hKa Kb hKb
          replace hKa := And.intro trivial hKa
          refine eg_loop_k (α := {p : List (List AV) × Int × Int // p.1.length ≤ nk ∧ ∀ e ∈ p.1, NodeV 1 e}) (fun p => [(0, .ptr 1 0 0), (1, .int .i64 params), (5, accV [] 5 4 app), (6, .int .i64 more), (7, .int .i64 (app.length : Nat)), (9, accV [[.int .i64 u, .int .i64 0, .int .i64 0, .sl true []]] (accN 5 app) 4 p.1.1), (10, .int .i64 ((nk : Int) - (p.1.1.length : Nat)))]) (fun p => accH (accH [.dead, .cells 0 [encI L, .int .i64 p.1.2.1, .int .i64 p.1.2.2, .int .i64 pk, .int .i64 pn, .int .i64 pm, kv, .int .i64 F, .bool con], A2, A3, A4] [] app) [[.int .i64 u, .int .i64 0, .int .i64 0, .sl true []]] p.1.1) (fun p => nk - p.1.1.length) ⟨([], a5, l3), by simp, by simp⟩ (Weak.ref ⟨?_, .inl ?_⟩) ?_
          · simp only [wS, simprocAttr, accV_nil, List.length_nil, Int.natCast_zero, Int.sub_zero]; try exact rfl
          · simp only [wS, simprocAttr, accH_hset, accH_twice]; try exact rfl
          · rintro ⟨⟨kapp, a6, l6⟩, hkl, hkn⟩ K9 hK9
            simp only at hkl hkn
            repeat' (first | with_reducible (first | refine v'1 fun _ _ => ?_ | refine v'2 ?_ | (first | refine v'3 ?_ | refine v'4 ?_ | refine v'5 fun _ _ _ _ => ?_ | refine v'6 (fun hg => ?_) (fun hg => ?_) <;> try simp only [hg]) <;> simp only [wS, simprocAttr, hS] | (first | refine v's ?_ | refine v'e ?_ | refine v'r ?_) <;> try simp only [wE, simprocAttr] | refine v'8 ?_ | refine v'9 ?_))
            refine eg_split (fun h => ?_) (fun h => ?_)
            · have hkt : kapp.length < nk := by simp at h; omega
              have e4 : IntKind.i64.wrap ((nk : Int) - (kapp.length : Nat) - 1) = (nk : Int) - (kapp.length + 1 : Nat) := by rw [wrap_small (by omega) (by omega)]; omega
              repeat' (first | with_reducible (first | refine v'1 fun _ _ => ?_ | refine v'2 ?_ | (first | refine v'3 ?_ | refine v'4 ?_ | refine v'5 fun _ _ _ _ => ?_ | refine v'6 (fun hg => ?_) (fun hg => ?_) <;> try simp only [hg]) <;> simp only [wS, simprocAttr, hS] | (first | refine v's ?_ | refine v'e ?_ | refine v'r ?_) <;> try simp only [wE, simprocAttr] | refine v'8 ?_ | refine v'9 ?_))
              refine eg_call (draw_3 _ L a6 l6 pk pn pm F kv con A2 A3 A4 hL (by simp only [wS, simprocAttr, hS]; try exact rfl) (by simp only [wS, simprocAttr, hS]; try exact rfl) (by simp only [wS, simprocAttr, hS]; try exact rfl) (by simp only [wS, simprocAttr, hS]; try exact rfl) hk k2 k3 k4 2 (by decide)) ?_
              rintro eff ⟨y, a7, rfl, hy1, hy2⟩
              simp only [wS, simprocAttr, hS]
              repeat' (first | with_reducible (first | refine v'1 fun _ _ => ?_ | refine v'2 ?_ | (first | refine v'3 ?_ | refine v'4 ?_ | refine v'5 fun _ _ _ _ => ?_ | refine v'6 (fun hg => ?_) (fun hg => ?_) <;> try simp only [hg]) <;> simp only [wS, simprocAttr, hS] | (first | refine v's ?_ | refine v'e ?_ | refine v'r ?_) <;> try simp only [wE, simprocAttr] | refine v'8 ?_ | refine v'9 ?_))
              refine eg_call (node_3 _ L a7 l6 pk pn pm F kv con A2 A3 A4 hL (by simp only [wS, simprocAttr, hS]; try exact rfl) (by simp only [wS, simprocAttr, hS]; try exact rfl) (by simp only [wS, simprocAttr, hS]; try exact rfl) (by simp only [wS, simprocAttr, hS]; try exact rfl) hk k2 k3 k4 _ 0 true [] rfl) ?_
              rintro eff ⟨l7, rfl⟩
              simp only [wS, simprocAttr, hS]
              repeat' (first | with_reducible (first | refine v'1 fun _ _ => ?_ | refine v'2 ?_ | (first | refine v'3 ?_ | refine v'4 ?_ | refine v'5 fun _ _ _ _ => ?_ | refine v'6 (fun hg => ?_) (fun hg => ?_) <;> try simp only [hg]) <;> simp only [wS, simprocAttr, hS] | (first | refine v's ?_ | refine v'e ?_ | refine v'r ?_) <;> try simp only [wE, simprocAttr] | refine v'8 ?_ | refine v'9 ?_))
              refine EG.mono (fun i h => eff_accq (H := accH [.dead, .cells 0 [encI L, .int .i64 a7, .int .i64 l7, .int .i64 pk, .int .i64 pn, .int .i64 pm, kv, .int .i64 F, .bool con], A2, A3, A4] [] app) (base := [[.int .i64 u, .int .i64 0, .int .i64 0, .sl true []]]) (app := kapp) (e := [.int .i64 y, .int .i64 0, .int .i64 0, .sl true []]) (by' := 48) accN_len (by kernel_rfl) rfl (by rw [upd_twice]; exact upd_acc2 (by simp)) rfl (fun e he => by
                rcases List.mem_cons.1 he with rfl | he
                · rfl
                · exact (hkn e he).len) (by simp [srcA]) (by simp only [List.length_cons, List.length_nil]; omega) h) ?_
              have hac := accH_snocq (H := accH [.dead, .cells 0 [encI L, .int .i64 a7, .int .i64 l7, .int .i64 pk, .int .i64 pn, .int .i64 pm, kv, .int .i64 F, .bool con], A2, A3, A4] [] app) accN_len [[.int .i64 u, .int .i64 0, .int .i64 0, .sl true []]] kapp [.int .i64 y, .int .i64 0, .int .i64 0, .sl true []]
              simp only [List.length_cons, List.length_nil, Nat.reduceAdd] at hac
              simp only [wS, simprocAttr]
              repeat' (first | with_reducible (first | refine v'1 fun _ _ => ?_ | refine v'2 ?_ | (first | refine v'3 ?_ | refine v'4 ?_ | refine v'5 fun _ _ _ _ => ?_ | refine v'6 (fun hg => ?_) (fun hg => ?_) <;> try simp only [hg]) <;> simp only [wS, simprocAttr, e4] | (first | refine v's ?_ | refine v'e ?_ | refine v'r ?_) <;> try simp only [wE, simprocAttr] | refine v'8 ?_ | refine v'9 ?_))
              refine hK9 _ ⟨(kapp ++ [[.int .i64 y, .int .i64 0, .int .i64 0, .sl true []]], a7, l7), by simp; omega, fun e he => by
                rcases List.mem_append.1 he with he | he
                · exact hkn e he
                · rw [List.mem_singleton.1 he]; exact node0 _ _⟩ (Weak.ref ⟨?_, .inl ?_⟩) (by simp; omega)
              · simp only [wS, simprocAttr, List.length_append, List.length_singleton]; try exact rfl
              · simp only [wS, simprocAttr, accH_hset2, hac]; try exact rfl
            · repeat' (first | with_reducible (first | refine v'1 fun _ _ => ?_ | refine v'2 ?_ | (first | refine v'3 ?_ | refine v'4 ?_ | refine v'5 fun _ _ _ _ => ?_ | refine v'6 (fun hg => ?_) (fun hg => ?_) <;> try simp only [hg]) <;> simp only [wS, simprocAttr] | (first | refine v's ?_ | refine v'e ?_ | refine v'r ?_) <;> try simp only [wE, simprocAttr] | refine v'8 ?_ | refine v'9 ?_))
              have hkall : ∀ e ∈ [[.int .i64 u, .int .i64 0, .int .i64 0, .sl true []]] ++ kapp, NodeV 1 e := fun e he => by
                rcases List.mem_cons.1 he with rfl | he
                · exact node0 _ _
                · exact hkn e he
              refine hKa.2.go (eg_ref (ref_accB (H := accH [.dead, .cells 0 [encI L, .int .i64 a6, .int .i64 l6, .int .i64 pk, .int .i64 pn, .int .i64 pm, kv, .int .i64 F, .bool con], A2, A3, A4] [] app) (base := [[.int .i64 u, .int .i64 0, .int .i64 0, .sl true []]]) (app := kapp) (sz := 4) (t := 9) [(0, .ptr 1 0 0), (1, .int .i64 params), (5, accV [] 5 4 app), (6, .int .i64 more), (7, .int .i64 (app.length : Nat))] (accH_len (by simp)) ?_ ?_ (fun e he => (hkall e he).len) (nodes_tree hkall) ?_ ?_ (accH_in ?_ (nodes_tree hn))) ?_)
              · simp only [wS, simprocAttr]; try exact rfl
              · simp only [wS, simprocAttr, accN_len, List.length_cons, List.length_nil]; try exact rfl
              · simp only [wS, simprocAttr]; try exact rfl
              · intro p hp
                simp only [List.mem_cons, List.not_mem_nil, or_false] at hp
                rcases hp with rfl | rfl | rfl | rfl | rfl
                · simp only [inR]; exact decide_eq_true (accH_len (by simp))
                · rfl
                · exact accV_in (H := [.dead, .cells 0 [encI L, .int .i64 a6, .int .i64 l6, .int .i64 pk, .int .i64 pn, .int .i64 pm, kv, .int .i64 F, .bool con], A2, A3, A4])
                · rfl
                · rfl
              · simp only [List.cons_append, List.nil_append, List.all_cons, List.all_nil, Bool.and_eq_true, List.length_cons, List.length_nil, Nat.reduceAdd]
                exact ⟨rfl, rowIn_mono hcon (ms_in L _ _ _ _ _ _ _ _ hk), rowIn_mono hcon k2, rowIn_mono hcon k3, rowIn_mono hcon k4, trivial⟩
              repeat' (first | with_reducible (first | refine v'1 fun _ _ => ?_ | refine v'2 ?_ | (first | refine v'3 ?_ | refine v'4 ?_ | refine v'5 fun _ _ _ _ => ?_ | refine v'6 (fun hg => ?_) (fun hg => ?_) <;> try simp only [hg]) <;> simp only [wS, simprocAttr] | (first | refine v's ?_ | refine v'e ?_ | refine v'r ?_) <;> try simp only [wE, simprocAttr] | refine v'8 ?_ | refine v'9 ?_))
              refine eg_call (node_3 _ L a6 l6 pk pn pm F kv con A2 A3 A4 hL (by simp only [wS, simprocAttr, hS]; try exact rfl) (by simp only [wS, simprocAttr, hS]; try exact rfl) (by simp only [wS, simprocAttr, hS]; try exact rfl) (by simp only [wS, simprocAttr, hS]; try exact rfl) hk k2 k3 k4 3 0 false ([[.int .i64 u, .int .i64 0, .int .i64 0, .sl true []]] ++ kapp) (nodes_tree hkall)) ?_
              rintro eff ⟨l8, rfl⟩
              simp only [wS, simprocAttr, hS]
              repeat' (first | with_reducible (first | refine v'1 fun _ _ => ?_ | refine v'2 ?_ | (first | refine v'3 ?_ | refine v'4 ?_ | refine v'5 fun _ _ _ _ => ?_ | refine v'6 (fun hg => ?_) (fun hg => ?_) <;> try simp only [hg]) <;> simp only [wS, simprocAttr, hS] | (first | refine v's ?_ | refine v'e ?_ | refine v'r ?_) <;> try simp only [wE, simprocAttr] | refine v'8 ?_ | refine v'9 ?_))
              refine EG.mono (fun i h => eff_acc (H := [.dead, .cells 0 [encI L, .int .i64 a6, .int .i64 l8, .int .i64 pk, .int .i64 pn, .int .i64 pm, kv, .int .i64 F, .bool con], A2, A3, A4]) (base := []) (app := app) (e := [.int .i64 3, .int .i64 0, .int .i64 0, .sl false ([.int .i64 u, .int .i64 0, .int .i64 0, .sl true []] :: kapp)]) (by' := 48) (by kernel_rfl) rfl (by first | exact upd_acc (by simp) | (rw [upd_twice]; exact upd_acc (by simp))) rfl (fun e he => (hn e (by simpa using he)).len) (by simp [srcA]) (by simp only [List.length_nil]; omega) h) ?_
              have hac := accH_snoc [.dead, .cells 0 [encI L, .int .i64 a6, .int .i64 l8, .int .i64 pk, .int .i64 pn, .int .i64 pm, kv, .int .i64 F, .bool con], A2, A3, A4] [] app [.int .i64 3, .int .i64 0, .int .i64 0, .sl false ([.int .i64 u, .int .i64 0, .int .i64 0, .sl true []] :: kapp)]
              simp only [List.length_cons, List.length_nil, Nat.reduceAdd] at hac
              simp only [wS, simprocAttr]
              repeat' (first | with_reducible (first | refine v'1 fun _ _ => ?_ | refine v'2 ?_ | (first | refine v'3 ?_ | refine v'4 ?_ | refine v'5 fun _ _ _ _ => ?_ | refine v'6 (fun hg => ?_) (fun hg => ?_) <;> try simp only [hg]) <;> simp only [wS, simprocAttr, e3] | (first | refine v's ?_ | refine v'e ?_ | refine v'r ?_) <;> try simp only [wE, simprocAttr] | refine v'8 ?_ | refine v'9 ?_))
              refine hK3 _ ⟨(app ++ [[.int .i64 3, .int .i64 0, .int .i64 0, .sl false ([.int .i64 u, .int .i64 0, .int .i64 0, .sl true []] :: kapp)]], a6, l8), by simp; omega, hne _ (.mk (hd := by decide) _ _ _ _ _ (by simp; omega) hkall)⟩ (Weak.ref ⟨?_, .inl ?_⟩) (by simp; omega)
              · simp only [wS, simprocAttr, List.length_append, List.length_singleton]; try exact rfl
              · simp only [wS, simprocAttr, accH_hset, hac]; try exact rfl
      clear hK5
      repeat' (first | with_reducible (first | refine v'1 fun _ _ => ?_ | refine v'2 ?_ | (first | refine v'3 ?_ | refine v'4 ?_ | refine v'5 fun _ _ _ _ => ?_ | refine v'6 (fun hg => ?_) (fun hg => ?_) <;> try simp only [hg]) <;> simp only [wS, simprocAttr, hS] | (first | refine v's ?_ | refine v'e ?_ | refine v'r ?_) <;> try simp only [wE, simprocAttr] | refine v'8 ?_ | refine v'9 ?_))
      refine eg_split (fun h2 => ?_) (fun h2 => ?_)
      · repeat' (first | with_reducible (first | refine v'1 fun _ _ => ?_ | refine v'2 ?_ | (first | refine v'3 ?_ | refine v'4 ?_ | refine v'5 fun _ _ _ _ => ?_ | refine v'6 (fun hg => ?_) (fun hg => ?_) <;> try simp only [hg]) <;> simp only [wS, simprocAttr, hS] | (first | refine v's ?_ | refine v'e ?_ | refine v'r ?_) <;> try simp only [wE, simprocAttr] | refine v'8 ?_ | refine v'9 ?_))
        refine key (x.tmod 5) a3 _ ?_ ?_ (Weak.ref ⟨?_, .inl ?_⟩)
        rotate_left 2
        · simp only [wS, simprocAttr]; try exact rfl
        · simp only [wS, simprocAttr, accH_hset]; try exact rfl
        · rw [Int.tmod_eq_emod_of_nonneg hx1]; omega
        · rw [Int.tmod_eq_emod_of_nonneg hx1]; omega
      · repeat' (first | with_reducible (first | refine v'1 fun _ _ => ?_ | refine v'2 ?_ | (first | refine v'3 ?_ | refine v'4 ?_ | refine v'5 fun _ _ _ _ => ?_ | refine v'6 (fun hg => ?_) (fun hg => ?_) <;> try simp only [hg]) <;> simp only [wS, simprocAttr, hS] | (first | refine v's ?_ | refine v'e ?_ | refine v'r ?_) <;> try simp only [wE, simprocAttr] | refine v'8 ?_ | refine v'9 ?_))
        refine key x a3 _ hx1 hx2 (Weak.ref ⟨?_, .inl ?_⟩)
        · simp only [wS, simprocAttr]; try exact rfl
        · simp only [wS, simprocAttr, accH_hset]; try exact rfl
    · have hge : app.length = tot := by simp at h; omega
      repeat' (first | with_reducible (first | refine v'1 fun _ _ => ?_ | refine v'2 ?_ | (first | refine v'3 ?_ | refine v'4 ?_ | refine v'5 fun _ _ _ _ => ?_ | refine v'6 (fun hg => ?_) (fun hg => ?_) <;> try simp only [hg]) <;> simp only [wS, simprocAttr] | (first | refine v's ?_ | refine v'e ?_ | refine v'r ?_) <;> try simp only [wE, simprocAttr] | refine v'8 ?_ | refine v'9 ?_))
      refine eg_ret1 rfl ?_
      refine EG.of ⟨accV [] 5 4 app, (1, .cells 0 [encI L, .int .i64 a2, .int .i64 l2, .int .i64 pk, .int .i64 pn, .int .i64 pm, kv, .int .i64 F, .bool con]) :: (if app = [] then [] else [(5, accRow [] app)])⟩ ⟨app, a2, l2, rfl, by omega, by omega, hn⟩ ⟨.inl ?_, ?_, ?_⟩
      · simp only [wS, simprocAttr]
      · simp only [wS, simprocAttr]
        unfold accV
        split
        · rfl
        · simp [inR]
      · simp only [wS, simprocAttr]
        refine acc_post (H := [.dead, .cells 0 [encI L, .int .i64 a2, .int .i64 l2, .int .i64 pk, .int .i64 pn, .int .i64 pm, kv, .int .i64 F, .bool con], A2, A3, A4]) (y := .cells 0 [encI L, .int .i64 a2, .int .i64 l2, .int .i64 pk, .int .i64 pn, .int .i64 pm, kv, .int .i64 F, .bool con]) (by simp) (by simp) hnone ?_ (nodes_tree hn)
        intro r hr hlt
        simp only [List.mem_cons, List.not_mem_nil, or_false] at hr
        rcases hr with rfl | rfl | rfl | rfl | rfl
        · exact ⟨rfl, rowIn_mono hcon2 (ms_in L _ _ _ _ _ _ _ _ hk)⟩
        · exact ⟨by rw [upd_one, if_neg (by decide)]; exact h2.symm, rowIn_mono hcon2 k2⟩
        · exact ⟨by rw [upd_one, if_neg (by decide)]; exact h3.symm, rowIn_mono hcon2 k3⟩
        · exact ⟨by rw [upd_one, if_neg (by decide)]; exact h4.symm, rowIn_mono hcon2 k4⟩
        · simp at hlt
end Go.Proofs.YtijakngaipdncaaDoor
