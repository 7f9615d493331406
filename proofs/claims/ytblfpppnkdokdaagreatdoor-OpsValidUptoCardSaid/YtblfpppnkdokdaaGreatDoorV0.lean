import Derived.Test.YtblfpppnkdokdaaGreatDoorAE
import Derived.Test.YtblfpppnkdokdaaGreatDoorN4
set_option linter.unusedVariables false
set_option linter.unusedSimpArgs false
namespace Go.Proofs.YtblfpppnkdokdaaGreatDoor
open Go.AM
attribute [local irreducible] AWp rgnS callR callV effR valR guardR stepR nextR
set_option maxRecDepth 100000
theorem accRow_in {p : Nat → Bool} {base app : List (List AV)} (h : inE noRef (base ++ app) = true) : rowIn p (accRow base app) = true := by
  simp only [accRow, rowIn]
  exact inL_flat (inE_mono (p := noRef) (fun r hr => by cases hr) h)
theorem ref_accB [Rnd] {k n : Nat} {H : List ARow} {base app : List (List AV)} {sz t : Nat} {s : AS} (l : List (Nat × AV)) (hk : k ≤ H.length) (hh : s.h = accH H base app) (ht : s.get t = accV base H.length sz app) (hsz : ∀ e ∈ base ++ app, e.length = sz) (htr : inE noRef (base ++ app) = true)
    (hl : holdsF l s.get) (hln : ∀ p ∈ l, inR (fun r => decide (r < H.length)) p.2 = true) (hH : H.all (rowIn fun r => decide (r < H.length)) = true) : Ref G0 n k s ⟨mkF ((t, .sl false (base ++ app)) :: l), H⟩ := by
  have hln' : ∀ p ∈ (t, AV.sl false (base ++ app)) :: l, inR (fun r => decide (r < H.length)) p.2 = true := by
    intro p hp
    rcases List.mem_cons.1 hp with rfl | hp
    · simp only [inR]; exact inE_mono (p := noRef) (fun r hr => by cases hr) htr
    · exact hln p hp
  by_cases ha : app = []
  · subst ha
    have h0 : s.h = H := by rw [hh]; simp [accH]
    have := ref_freeze (G := G0) (n := n) (k := k) (s := s) [] ((t, .sl false (base ++ [])) :: l) (deadH [] 0 s.h) (by simp) ⟨.inr (by rw [ht, accV_nil, List.append_nil]; rw [List.append_nil] at htr; exact .full htr), frzF_same hl⟩ (frzH_dead 0 s.h fun i hi _ => by cases hi)
    rw [deadH_nil, h0] at this
    exact this
  · have h0 : s.h = H ++ [accRow base app] := by rw [hh, accH, if_neg ha]
    have hr : s.row H.length = accRow base app := by
      show s.h.getD H.length .none = _
      rw [h0]; simp
    have h1 := ref_freeze (G := G0) (n := n) (k := k) (s := s) [H.length] ((t, .sl false (base ++ app)) :: l) (deadH [H.length] 0 s.h) (by rw [h0]; simp) ⟨.inr (by rw [ht]; exact acc_lend (H := H) (h := s.h) hh hsz htr), frzF_same hl⟩ (frzH_dead 0 s.h fun i hi _ => by
      have hi : i = H.length := by simpa using hi
      subst hi
      show s.row H.length ≠ .none
      rw [hr]; simp [accRow])
    rw [h0, deadH_take (by simp)] at h1
    have h2 := ref_gc (G := G0) (n := n) (k := k) (l := (t, .sl false (base ++ app)) :: l) (h := H ++ deadH [H.length] (0 + H.length) [accRow base app]) H.length hk hG0 hln' (by rw [List.take_left]; exact hH)
    rw [List.take_left] at h2
    exact h1.trans h2
theorem upd_twice {rows : Nat → ARow} {r : Nat} {a b : ARow} : upd (upd rows [(r, a)]) [(r, b)] = upd rows [(r, b)] := by
  funext i
  simp only [upd_one]
  split <;> rfl
theorem eff_accq {P : Program} {G : Nat → Option (List AV)} {n : Nat} {K : Option Acc → AS → Prop} {d : Option Tmp} {rest : List POp} {m : Option Acc} {fp : List Nat} {s : AS} {t u : TypeId} {sz by' : Nat} {x : AV} {rows : Nat → ARow} {nb q : Nat} {e : List AV} {base app : List (List AV)} {H : List ARow} {h : List ARow} (hq : H.length = q) (ht : appT P t u = some (sz, by')) (hh : h = accH H base app) (hrows : rows = fun r => h.getD r .none) (hnb : nb = h.length)
    (hsz : ∀ e ∈ base ++ app, e.length = sz) (hs : srcA sz x rows = some (1, e)) (hb : (base.length + app.length + 1) * (by' + 1) ≤ 140737488355328)
    (hk : rgnS P G n K rest (adv m fp [q]) ((s.wr [(q, accRow base (app ++ [e]))]).put d (accV base q sz (app ++ [e])))) : effR P G n K d rest m fp s (aAppend P t u (accV base q sz app) x rows nb) := by
  subst hq
  exact eff_acc ht hh hrows hnb hsz hs hb hk
theorem accH_snocq {H : List ARow} {q : Nat} (hq : H.length = q) (base app : List (List AV)) (e : List AV) : hset (accH H base app) q (accRow base (app ++ [e])) = accH H base (app ++ [e]) := by
  subst hq
  exact accH_snoc H base app e
theorem accH_twice {H : List ARow} {base : List (List AV)} : accH H base [] = H := by simp [accH]
theorem node0 (k n : Int) : NodeV 1 [.int .i64 k, .int .i64 n, .int .i64 0, .sl true []] := leafV _ _ _ _
def sq (x : MX) (q : Nat) (y : ARow) : MX := ⟨x.L, x.pk, x.pn, x.pm, x.F, x.kv, x.con, if q = 2 then y else x.A2, x.A3, if q = 4 then y else x.A4, if q = 5 then y else x.A5⟩
def frv (x : MX) (a l : Int) : List ARow := [.dead, x.row a l, x.A2, x.A3, x.A4, x.A5]
def Q245 (q : Nat) : Prop := q = 2 ∨ q = 4 ∨ q = 5
section
variable {x : MX} {q : Nat} {y z : ARow} {a l a' l' : Int}
theorem frv_q (hq : Q245 q) : (frv (sq x q y) a l).getD q .none = y := by rcases hq with rfl | rfl | rfl <;> rfl
theorem upd_q {rows : Nat → ARow} (hq : Q245 q) : upd rows [(1, y)] q = rows q := by rw [upd_one, if_neg (by rcases hq with rfl | rfl | rfl <;> decide)]
theorem frv_setq (hq : Q245 q) : hset (frv (sq x q y) a l) q z = frv (sq x q z) a l := by rcases hq with rfl | rfl | rfl <;> rfl
theorem frv_set1 : hset (frv x a l) 1 (x.row a' l') = frv x a' l' := rfl
theorem frv_1 : (frv x a l).getD 1 .none = x.row a l := rfl
theorem frv_len : (frv x a l).length = 6 := rfl
theorem accF_set {b k : List (List AV)} : hset (accH (frv x a l) b k) 1 (x.row a' l') = accH (frv x a' l') b k := by rw [accH_hset (by rw [frv_len]; decide), frv_set1]
theorem accF {b k : List (List AV)} {r : Nat} (h : r < 6) : (accH (frv x a l) b k).getD r .none = (frv x a l).getD r .none := accH_old _ _ _ (by rw [frv_len]; exact h)
theorem mr_acc {b k : List (List AV)} {fr : List AV} : MR x (AS.row ⟨fr, accH (frv x a l) b k⟩) a l := ⟨accF (by decide), accF (by decide), accF (by decide), accF (by decide), accF (by decide)⟩
theorem mr_acc2 {b k : List (List AV)} {fr : List AV} {a' l' : Int} : MR x (upd (AS.row ⟨fr, accH (frv x a l) b k⟩) [(1, x.row a' l')]) a' l' := by
  rw [upd_acc (by rw [frv_len]; decide), frv_set1]; exact mr_acc (fr := fr)
theorem mr_acc3 {b k : List (List AV)} {fr : List AV} {a' l' : Int} : MR x (AS.row ⟨fr, hset (accH (frv x a l) b k) 1 (x.row a' l')⟩) a' l' := by
  rw [accF_set]; exact mr_acc (fr := fr)
theorem sq_fr (hx : x.frame) (hy : rowIn five y = true) : (sq x q y).frame := by
  refine ⟨hx.L, hx.kv, ?_, hx.r3, ?_, ?_⟩ <;> simp only [sq] <;> split <;> first | exact hy | exact hx.r2 | exact hx.r4 | exact hx.r5
theorem sq_self {rows : Nat → ARow} (hq : Q245 q) (hr : MR x rows a l) (hn : rows q = .none) : sq x q .none = x := by
  obtain ⟨_, h2, _, h4, h5⟩ := hr
  obtain ⟨L, pk, pn, pm, F, kv, con, A2, A3, A4, A5⟩ := x
  simp only at h2 h4 h5
  rcases hq with rfl | rfl | rfl
  · rw [hn] at h2; subst h2; rfl
  · rw [hn] at h4; subst h4; rfl
  · rw [hn] at h5; subst h5; rfl
theorem frv_in (hx : x.frame) : (frv x a l).all (rowIn fun r => decide (r < (frv x a l).length)) = true := by
  have h : ∀ y, rowIn five y = true → rowIn (fun r => decide (r < 6)) y = true := fun y hy => rowIn_mono (five_lt (by omega)) hy
  simp only [frv, List.all_cons, List.all_nil, Bool.and_true, List.length_cons, List.length_nil, Nat.reduceAdd, Bool.and_eq_true]
  exact ⟨rfl, h _ (hx.row a l), h _ hx.r2, h _ hx.r3, h _ hx.r4, h _ hx.r5⟩
theorem frv_to {s : AS} (hx : x.frame) : ToH s [] (fun r => decide (r < 6)) 0 (frv x a l) (frv x a l) := by
  have h : ∀ y, rowIn five y = true → rowIn (fun r => decide (r < 6)) y = true := fun y hy => rowIn_mono (five_lt (by omega)) hy
  have hf : ∀ (r : Nat) (y : ARow), FrzRow s.row [] r y y := fun r y => .inr ⟨.inl (by simp), .inl rfl⟩
  simp only [frv, ToH, and_true]
  exact ⟨.inr ⟨rfl, rfl, hf _ _⟩, .inr ⟨rfl, h _ (hx.row a l), hf _ _⟩, .inr ⟨rfl, h _ hx.r2, hf _ _⟩, .inr ⟨rfl, h _ hx.r3, hf _ _⟩, .inr ⟨rfl, h _ hx.r4, hf _ _⟩, .inr ⟨rfl, h _ hx.r5, hf _ _⟩⟩
theorem frv_post {rows : Nat → ARow} {a1 l1 : Int} (hx : x.frame) (hq : Q245 q) (hr : MR x rows a l) (hy : rowIn five y = true) : ∀ r ∈ ([1, 2, 3, 4, 5] : List Nat), (frv (sq x q y) a1 l1).getD r .none = upd rows [(1, x.row a1 l1), (q, y)] r ∧ rowIn (fun r => ([1, 2, 3, 4, 5] : List Nat).contains r) ((frv (sq x q y) a1 l1).getD r .none) = true := by
  have hf := sq_fr (q := q) hx hy
  obtain ⟨h1, h2, h3, h4, h5⟩ := hr
  intro r hm
  simp only [List.mem_cons, List.not_mem_nil, or_false] at hm
  rw [upd_two]
  rcases hm with rfl | rfl | rfl | rfl | rfl
  · exact ⟨by rcases hq with rfl | rfl | rfl <;> rfl, hf.row a1 l1⟩
  · exact ⟨by rcases hq with rfl | rfl | rfl <;> simp [frv, sq, h2], hf.r2⟩
  · exact ⟨by rcases hq with rfl | rfl | rfl <;> simp [frv, sq, h3], hf.r3⟩
  · exact ⟨by rcases hq with rfl | rfl | rfl <;> simp [frv, sq, h4], hf.r4⟩
  · exact ⟨by rcases hq with rfl | rfl | rfl <;> simp [frv, sq, h5], hf.r5⟩
end
theorem eff_rv1 {P : Program} {G : Nat → Option (List AV)} {n : Nat} {K : Option Acc → AS → Prop} {d : Option Tmp} {rest : List POp} {m : Option Acc} {fp : List Nat} {s : AS} {t u : TypeId} {sz by' : Nat} {x : AV} {rows : Nat → ARow} {nb : Nat} {e : List AV} {r : Nat} {app : List (List AV)} (ht : appT P t u = some (sz, by')) (hr : rows r = rvR (app.length - 1) app) (hsz : ∀ e ∈ app, e.length = sz) (hs : srcA sz x rows = some (1, e)) (hb : (app.length + 1) * (by' + 1) ≤ 140737488355328)
    (hk : rgnS P G n K rest (adv m fp [r]) ((s.wr [(r, rvR app.length (app ++ [e]))]).put d (rv r app.length sz (app ++ [e])))) : effR P G n K d rest m fp s (aAppend P t u (rv r (app.length - 1) sz app) x rows nb) := by
  refine eff_rvs (es := [e]) (v' := app.length) ht hr ?_ hsz (by simpa using hs) (by simp) (by simpa using hb) hk
  by_cases ha : app = []
  · subst ha; rfl
  · rw [if_neg ha]
    have : app.length ≠ 0 := by simpa using ha
    omega
theorem rvR_in {d v : Nat} {app : List (List AV)} (h : ∀ e ∈ app, NodeV d e) : rowIn five (rvR v app) = true := rowIn_rv (inE_no (nodes_tree h))
end Go.Proofs.YtblfpppnkdokdaaGreatDoor
