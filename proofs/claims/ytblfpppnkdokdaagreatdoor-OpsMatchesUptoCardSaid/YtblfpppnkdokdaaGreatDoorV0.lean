import Derived.Test.YtblfpppnkdokdaaGreatDoorAE
import Derived.Test.YtblfpppnkdokdaaGreatDoorN4
set_option linter.unusedVariables false
set_option linter.unusedSimpArgs false
namespace Go.Proofs.YtblfpppnkdokdaaGreatDoor
open Go.AM
attribute [local irreducible] AWp aP aT bC bH bN aI aL bG
set_option maxRecDepth 100000
theorem HG {p : Nat → Bool} {base app : List (List AV)} (h : inE aB (base ++ app) = true) : aD p (cL base app) = true := by
 simp only [cL, aD]
 exact eU (dA (p := aB) (fun r hr => by cases hr) h)
theorem IJ [Rnd] {k n : Nat} {H : List ARow} {base app : List (List AV)} {sz t : Nat} {s : AS} (l : List (Nat × AV)) (hk : k ≤ H.length) (hh : s.h = cT H base app) (ht : s.get t = fC base H.length sz app) (hsz : ∀ e ∈ base ++ app, e.length = sz) (htr : inE aB (base ++ app) = true)
  (hl : jD l s.get) (hln : ∀ p ∈ l, inR (fun r => decide (r < H.length)) p.2 = true) (hH : H.all (aD fun r => decide (r < H.length)) = true) : Ref G0 n k s ⟨mkF ((t, .sl false (base ++ app)) :: l), H⟩ := by
 have hln' : ∀ p ∈ (t, AV.sl false (base ++ app)) :: l, inR (fun r => decide (r < H.length)) p.2 = true := by
  intro p hp
  rcases List.mem_cons.1 hp with rfl | hp
  ·simp only [inR]; exact dA (p := aB) (fun r hr => by cases hr) htr
  ·exact hln p hp
 by_cases ha : app = []
 ·subst ha
  have h0 : s.h = H := by rw [hh]; simp [cT]
  have := c7 (G := G0) (n := n) (k := k) (s := s) [] ((t, .sl false (base ++ [])) :: l) (iV [] 0 s.h) (by simp) ⟨.inr (by rw [ht, iN, List.append_nil]; rw [List.append_nil] at htr; exact .full htr), g7 hl⟩ (g6 0 s.h fun i hi _ => by cases hi)
  rw [qC, h0] at this
  exact this
 ·have h0 : s.h = H ++ [cL base app] := by rw [hh, cT, if_neg ha]
  have hr : s.row H.length = cL base app := by
   show s.h.getD H.length .none = _
   rw [h0]; simp
  have h1 := c7 (G := G0) (n := n) (k := k) (s := s) [H.length] ((t, .sl false (base ++ app)) :: l) (iV [H.length] 0 s.h) (by rw [h0]; simp) ⟨.inr (by rw [ht]; exact DA (H := H) (h := s.h) hh hsz htr), g7 hl⟩ (g6 0 s.h fun i hi _ => by
   have hi : i = H.length := by simpa using hi
   subst hi
   show s.row H.length ≠ .none
   rw [hr]; simp [cL])
  rw [h0, nU (by simp)] at h1
  have h2 := DQ (G := G0) (n := n) (k := k) (l := (t, .sl false (base ++ app)) :: l) (h := H ++ iV [H.length] (0 + H.length) [cL base app]) H.length hk hG0 hln' (by rw [List.take_left]; exact hH)
  rw [List.take_left] at h2
  exact h1.trans h2
theorem GF {rows : Nat → ARow} {r : Nat} {a b : ARow} : upd (upd rows [(r, a)]) [(r, b)] = upd rows [(r, b)] := by
 funext i
 simp only [dL]
 split <;> rfl
theorem KB {P : Program} {G : Nat → Option (List AV)} {n : Nat} {K : Option Acc → AS → Prop} {d : Option Tmp} {rest : List POp} {m : Option Acc} {fp : List Nat} {s : AS} {t u : TypeId} {sz by' : Nat} {x : AV} {rows : Nat → ARow} {nb q : Nat} {e : List AV} {base app : List (List AV)} {H : List ARow} {h : List ARow} (hq : H.length = q) (ht : pO P t u = some (sz, by')) (hh : h = cT H base app) (hrows : rows = fun r => h.getD r .none) (hnb : nb = h.length)
  (hsz : ∀ e ∈ base ++ app, e.length = sz) (hs : cU sz x rows = some (1, e)) (hb : (base.length + app.length + 1) * (by' + 1) ≤ 140737488355328)
  (hk : aP P G n K rest (adv m fp [q]) ((s.wr [(q, cL base (app ++ [e]))]).put d (fC base q sz (app ++ [e])))) : bH P G n K d rest m fp s (cP P t u (fC base q sz app) x rows nb) := by
 subst hq
 exact pA ht hh hrows hnb hsz hs hb hk
theorem EY {H : List ARow} {q : Nat} (hq : H.length = q) (base app : List (List AV)) (e : List AV) : dB (cT H base app) q (cL base (app ++ [e])) = cT H base (app ++ [e]) := by
 subst hq
 exact jS H base app e
theorem EX {H : List ARow} {base : List (List AV)} : cT H base [] = H := by simp [cT]
theorem J4 (k n : Int) : NodeV 1 [.int .i64 k, .int .i64 n, .int .i64 0, .sl true []] := QT _ _ _ _
def sq (x : MX) (q : Nat) (y : ARow) : MX := ⟨x.L, x.pk, x.pn, x.pm, x.F, x.kv, x.con, if q = 2 then y else x.A2, x.A3, if q = 4 then y else x.A4, if q = 5 then y else x.A5⟩
def frv (x : MX) (a l : Int) : List ARow := [.dead, x.row a l, x.A2, x.A3, x.A4, x.A5]
def AX (q : Nat) : Prop := q = 2 ∨ q = 4 ∨ q = 5
section
variable {x : MX} {q : Nat} {y z : ARow} {a l a' l' : Int}
theorem cW (hq : AX q) : (frv (sq x q y) a l).getD q .none = y := by rcases hq with rfl | rfl | rfl <;> rfl
theorem cV {rows : Nat → ARow} (hq : AX q) : upd rows [(1, y)] q = rows q := by rw [dL, if_neg (by rcases hq with rfl | rfl | rfl <;> decide)]
theorem bD (hq : AX q) : dB (frv (sq x q y) a l) q z = frv (sq x q z) a l := by rcases hq with rfl | rfl | rfl <;> rfl
theorem aX : dB (frv x a l) 1 (x.row a' l') = frv x a' l' := rfl
theorem cX : (frv x a l).getD 1 .none = x.row a l := rfl
theorem aY : (frv x a l).length = 6 := rfl
theorem iO {b k : List (List AV)} : dB (cT (frv x a l) b k) 1 (x.row a' l') = cT (frv x a' l') b k := by rw [fN (by rw [aY]; decide), aX]
theorem KS {b k : List (List AV)} {r : Nat} (h : r < 6) : (cT (frv x a l) b k).getD r .none = (frv x a l).getD r .none := bY _ _ _ (by rw [aY]; exact h)
theorem j8 {b k : List (List AV)} {fr : List AV} : MR x (AS.row ⟨fr, cT (frv x a l) b k⟩) a l := ⟨KS (by decide), KS (by decide), KS (by decide), KS (by decide), KS (by decide)⟩
theorem j7 {b k : List (List AV)} {fr : List AV} {a' l' : Int} : MR x (upd (AS.row ⟨fr, cT (frv x a l) b k⟩) [(1, x.row a' l')]) a' l' := by
 rw [n8 (by rw [aY]; decide), aX]; exact j8 (fr := fr)
theorem j6 {b k : List (List AV)} {fr : List AV} {a' l' : Int} : MR x (AS.row ⟨fr, dB (cT (frv x a l) b k) 1 (x.row a' l')⟩) a' l' := by
 rw [iO]; exact j8 (fr := fr)
theorem I8 (hx : x.frame) (hy : aD mQ y = true) : (sq x q y).frame := by
 refine ⟨hx.L, hx.kv, ?_, hx.r3, ?_, ?_⟩ <;> simp only [sq] <;> split <;> first | exact hy | exact hx.r2 | exact hx.r4 | exact hx.r5
theorem LJ {rows : Nat → ARow} (hq : AX q) (hr : MR x rows a l) (hn : rows q = .none) : sq x q .none = x := by
 obtain ⟨_, h2, _, h4, h5⟩ := hr
 obtain ⟨L, pk, pn, pm, F, kv, con, A2, A3, A4, A5⟩ := x
 simp only at h2 h4 h5
 rcases hq with rfl | rfl | rfl
 ·rw [hn] at h2; subst h2; rfl
 ·rw [hn] at h4; subst h4; rfl
 ·rw [hn] at h5; subst h5; rfl
theorem PI (hx : x.frame) : (frv x a l).all (aD fun r => decide (r < (frv x a l).length)) = true := by
 have h : ∀ y, aD mQ y = true → aD (fun r => decide (r < 6)) y = true := fun y hy => bU (kD (by omega)) hy
 simp only [frv, List.all_cons, List.all_nil, Bool.and_true, List.length_cons, List.length_nil, Nat.reduceAdd, Bool.and_eq_true]
 exact ⟨rfl, h _ (hx.row a l), h _ hx.r2, h _ hx.r3, h _ hx.r4, h _ hx.r5⟩
theorem PH {s : AS} (hx : x.frame) : ToH s [] (fun r => decide (r < 6)) 0 (frv x a l) (frv x a l) := by
 have h : ∀ y, aD mQ y = true → aD (fun r => decide (r < 6)) y = true := fun y hy => bU (kD (by omega)) hy
 have hf : ∀ (r : Nat) (y : ARow), iP s.row [] r y y := fun r y => .inr ⟨.inl (by simp), .inl rfl⟩
 simp only [frv, ToH, and_true]
 exact ⟨.inr ⟨rfl, rfl, hf _ _⟩, .inr ⟨rfl, h _ (hx.row a l), hf _ _⟩, .inr ⟨rfl, h _ hx.r2, hf _ _⟩, .inr ⟨rfl, h _ hx.r3, hf _ _⟩, .inr ⟨rfl, h _ hx.r4, hf _ _⟩, .inr ⟨rfl, h _ hx.r5, hf _ _⟩⟩
theorem JS {rows : Nat → ARow} {a1 l1 : Int} (hx : x.frame) (hq : AX q) (hr : MR x rows a l) (hy : aD mQ y = true) : ∀ r ∈ ([1, 2, 3, 4, 5] : List Nat), (frv (sq x q y) a1 l1).getD r .none = upd rows [(1, x.row a1 l1), (q, y)] r ∧ aD (fun r => ([1, 2, 3, 4, 5] : List Nat).contains r) ((frv (sq x q y) a1 l1).getD r .none) = true := by
 have hf := I8 (q := q) hx hy
 obtain ⟨h1, h2, h3, h4, h5⟩ := hr
 intro r hm
 simp only [List.mem_cons, List.not_mem_nil, or_false] at hm
 rw [jW]
 rcases hm with rfl | rfl | rfl | rfl | rfl
 ·exact ⟨by rcases hq with rfl | rfl | rfl <;> rfl, hf.row a1 l1⟩
 ·exact ⟨by rcases hq with rfl | rfl | rfl <;> simp [frv, sq, h2], hf.r2⟩
 ·exact ⟨by rcases hq with rfl | rfl | rfl <;> simp [frv, sq, h3], hf.r3⟩
 ·exact ⟨by rcases hq with rfl | rfl | rfl <;> simp [frv, sq, h4], hf.r4⟩
 ·exact ⟨by rcases hq with rfl | rfl | rfl <;> simp [frv, sq, h5], hf.r5⟩
end
theorem o8 {P : Program} {G : Nat → Option (List AV)} {n : Nat} {K : Option Acc → AS → Prop} {d : Option Tmp} {rest : List POp} {m : Option Acc} {fp : List Nat} {s : AS} {t u : TypeId} {sz by' : Nat} {x : AV} {rows : Nat → ARow} {nb : Nat} {e : List AV} {r : Nat} {app : List (List AV)} (ht : pO P t u = some (sz, by')) (hr : rows r = rvR (app.length - 1) app) (hsz : ∀ e ∈ app, e.length = sz) (hs : cU sz x rows = some (1, e)) (hb : (app.length + 1) * (by' + 1) ≤ 140737488355328)
  (hk : aP P G n K rest (adv m fp [r]) ((s.wr [(r, rvR app.length (app ++ [e]))]).put d (rv r app.length sz (app ++ [e])))) : bH P G n K d rest m fp s (cP P t u (rv r (app.length - 1) sz app) x rows nb) := by
 refine gB (es := [e]) (v' := app.length) ht hr ?_ hsz (by simpa using hs) (by simp) (by simpa using hb) hk
 by_cases ha : app = []
 ·subst ha; rfl
 ·rw [if_neg ha]
  have : app.length ≠ 0 := by simpa using ha
  omega
theorem IE {d v : Nat} {app : List (List AV)} (h : ∀ e ∈ app, NodeV d e) : aD mQ (rvR v app) = true := eF (aC (cN h))
end Go.Proofs.YtblfpppnkdokdaaGreatDoor
