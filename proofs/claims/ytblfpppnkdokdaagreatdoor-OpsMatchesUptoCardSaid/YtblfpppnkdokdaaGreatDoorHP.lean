import Derived.Test.YtblfpppnkdokdaaGreatDoorHD
set_option linter.unusedVariables false
set_option linter.unusedSimpArgs false
namespace Go.Proofs.YtblfpppnkdokdaaGreatDoor
open Go.AM
attribute [local irreducible] AWp aP aT bC bH bN aI aL bG
set_option maxRecDepth 100000
theorem FU {sz : Nat} : ∀ {l : List (List AV)} {k : Nat}, (∀ e ∈ l, e.length = sz) → l.flatten.take (k * sz) = (l.take k).flatten
 | [], k, _ => by simp
 | e :: l, 0, _ => by simp
 | e :: l, k + 1, h => by
  have h1 := h e (by simp)
  rw [List.take_succ_cons, List.flatten_cons, List.flatten_cons, ← FU fun x hx => h x (by simp [hx]), Nat.add_mul, Nat.one_mul, Nat.add_comm, ← h1, List.take_append, List.take_of_length_le (by omega), Nat.add_sub_cancel_left]
theorem FV {sz : Nat} : ∀ {l : List (List AV)} {k : Nat}, (∀ e ∈ l, e.length = sz) → l.flatten.drop (k * sz) = (l.drop k).flatten
 | [], k, _ => by simp
 | e :: l, 0, _ => by simp
 | e :: l, k + 1, h => by
  have h1 := h e (by simp)
  rw [List.drop_succ_cons, List.flatten_cons, ← FV fun x hx => h x (by simp [hx]), Nat.add_mul, Nat.one_mul, Nat.add_comm, ← h1, List.drop_append, List.drop_eq_nil_of_le (by omega), List.nil_append, Nat.add_sub_cancel_left]
theorem T.sizes_erase : ∀ (l : List T) (k : Nat), T.sizes (l.eraseIdx k) ≤ T.sizes l
 | [], _ => by simp
 | e :: l, 0 => by simp [T.sizes]
 | e :: l, k + 1 => by
  have := T.sizes_erase l k
  simp only [List.eraseIdx_cons_succ, T.sizes]; omega
theorem mG {rows : Nat → ARow} {fp : List Nat} {a b c : AV} (h : Lend rows fp a b) (e : AM.wk b = c) : Lend rows fp a c := e ▸ h.weak
theorem L9 {f : FuncId} {args : List AV} {D : Nat} (hD : D ≤ 14) (h : EP Tryz.prog G0 f args (VN D)) : ∃ t : T, Pure Tryz.prog G0 f args (.agg (T.enc t)) ∧ T.size t ≤ 16000000000 := by
 obtain ⟨_, ⟨c, rfl, hc⟩, hp⟩ := h
 obtain ⟨t, h1, h2⟩ := T.of_node hc
 have h3 := hp.wk
 rw [AM.wk, h1] at h3
 have h4 : szN 14 ≤ 16000000000 := by decide
 have h5 := sH hD
 exact ⟨t, h3, by omega⟩
theorem cF (a : Int) (ha : bR a) (n : Nat) (hn : 0 < n) : ∃ i : Nat, i < n ∧ Pure Tryz.prog G0 32 [.int .i64 a, .int .i64 (n : Nat)] (.int .i64 (i : Nat)) := by
 have h := yJ a (n : Int) ha (by omega)
 have hb := mZ a (n : Int) (by omega)
 refine ⟨(lV a n).toNat, by omega, ?_⟩
 rw [Int.toNat_of_nonneg hb.1]
 exact h
section
variable {P : Program} {G : Nat → Option (List AV)} {n : Nat} {K : Option Acc → AS → Prop} {d : Option Tmp} {rest : List POp} {m : Option Acc} {fp : List Nat} {s : AS} {t u : TypeId} {sz by' : Nat} {x : AV} {rows : Nat → ARow} {nb mm : Nat} {new : List AV}
theorem FZ {r ver len : Nat} {cs : List AV} (ht : pO P t u = some (sz, by')) (hr : rows r = .cells ver cs) (hn : len * sz ≤ cs.length) (hs : cU sz x rows = some (mm, new)) (hb : (len + mm) * (by' + 1) ≤ 140737488355328)
  (hk : aP P G n K rest (adv m fp [r]) ((s.wr [(r, .cells (ver + 1) (cs.take (len * sz) ++ new))]).put d (.osl r (ver + 1) 0 (len + mm) sz false))) : bH P G n K d rest m fp s (cP P t u (.osl r ver 0 len sz false) x rows nb) := by
 rw [gK ht _ hs]
 have hc : aH rows r ver = some cs := by simp [aH, hr]
 simp only [hc]
 rw [if_pos ⟨trivial, by omega, hb⟩]
 simp only [Bool.false_eq_true, if_false, if_true]
 rw [qB]
 exact hk
end
set_option maxHeartbeats 8000000 in
theorem lA (B : Nat) (hB : B ≤ 100000000000) (t : T) (ht : T.size t ≤ B) (at0 how by0 : Int) (ha : bR at0) (hh : bR how) (hb : bR by0) : EP Tryz.prog G0 16 [.agg (T.enc t), .int .i64 at0, .int .i64 how, .int .i64 by0] (fun v => ∃ u, v = .agg (T.enc u) ∧ T.size u ≤ 6 * B) := by
 have htr := T.enc_tree t
 have hp6 := rT _ t (Nat.le_refl _) (by omega)
 have hSl : (T.paths t).length = T.size t := T.paths_len t
 have hsp := T.size_pos t
 have hsub := fun (k : Nat) (p : List Int) (h : (T.paths t)[k]? = some p) => T.paths_sub t p (List.mem_of_getElem? h)
 have hcg := fun (k : Nat) (p : List Int) => s9 (i := k) (p := p) (l := T.paths t)
 have hcl := iC (T.paths t)
 have hctr := gR (T.paths t)
 generalize T.paths t = SS at hp6 hSl hsub hcg hcl hctr
 generalize hSE : PE SS = SEs at hp6 hcg hcl hctr
 obtain ⟨ia, hia, kar⟩ := cF at0 ha SS.length (by omega)
 obtain ⟨ib, hib, kbr⟩ := cF by0 hb SS.length (by omega)
 obtain ⟨w, hw, kho⟩ := cF how hh 6 (by decide)
 obtain ⟨p, hp⟩ : ∃ p, SS[ia]? = some p := ⟨_, List.getElem?_eq_getElem hia⟩
 obtain ⟨p', hp'⟩ : ∃ p, SS[ib]? = some p := ⟨_, List.getElem?_eq_getElem hib⟩
 obtain ⟨hpl, x, hx, hxs⟩ := hsub ia p hp
 obtain ⟨hpl', x', hx', hxs'⟩ := hsub ib p' hp'
 have kat : Pure Tryz.prog G0 31 [.agg (T.enc t), .sl false (dQ p)] (.tup [.agg (T.enc x), .bool true]) := PS p false t x (by omega) hx
 have kat' : Pure Tryz.prog G0 31 [.agg (T.enc t), .sl false (dQ p')] (.tup [.agg (T.enc x'), .bool true]) := PS p' false t x' (by omega) hx'
 have kset := fun y : T => y6 p false t y x (by omega) (by omega) hx
 have hga := hcg ia p hp
 have hgb := hcg ib p' hp'
 have hipt : inE aB (dQ p) = true := cG p
 have hipt' : inE aB (dQ p') = true := cG p'
 have hia' : ia < SEs.length := by omega
 have hib' : ib < SEs.length := by omega
 rw [← hcl] at kar kbr
 generalize dQ p = ip at hga kat kset hipt
 generalize dQ p' = ip' at hgb kat' hipt'
 clear hsub hcg hSE
 obtain ⟨ta, tb, tc, td, hte⟩ := aK t
 have hxt := T.enc_tree x
 obtain ⟨xk, xn, xm, xs⟩ := x
 have hxl := T.len_sizes xs
 simp only [T.size] at hxs
 have hXt := T.encs_tree xs
 have hXl := T.encs_len xs
 have hX4 : ∀ e ∈ T.encs xs, e.length = 4 := fun e he => by
  rw [T.encs_map] at he
  obtain ⟨y, _, rfl⟩ := List.mem_map.1 he
  exact T.enc_len y
 have hXall : (T.encs xs).all (fun e => decide (e.length = 4)) = true := List.all_eq_true.2 fun e he => by simpa using hX4 e he
 simp only [T.enc] at kat
 rw [hte] at hp6 kat kat' kset htr ⊢
 refine fJ hG0 Tryz.func16 rfl (by kernel_rfl) (by simp [Tryz.ntmps16]) (by simp only [inL, inR, Bool.and_true, Bool.true_and] at htr ⊢; exact htr) (by rintro _ ⟨u, rfl, _⟩; simp only [inR]; exact T.enc_tree u) ?_
 simp only [Tryz.ntmps16, aF, Nat.reduceAdd]
 repeat' (first | with_reducible (first | refine v'1 fun _ _ => ?_ | refine v'W ?_ | (first | refine v'R ?_ | refine v'5 fun _ _ _ _ => ?_ | refine v'6 (fun hg => ?_) (fun hg => ?_) <;> try simp only [hg]) <;> simp only [wS, simprocAttr]))
 refine aW hG0 hp6 ?_
 simp only [wS, simprocAttr]
 repeat' (first | with_reducible (first | refine v'1 fun _ _ => ?_ | refine v'W ?_ | (first | refine v'R ?_ | refine v'5 fun _ _ _ _ => ?_ | refine v'6 (fun hg => ?_) (fun hg => ?_) <;> try simp only [hg]) <;> simp only [wS, simprocAttr]))
 refine aW hG0 kar ?_
 simp only [wS, simprocAttr, hga, hia']
 repeat' (first | with_reducible (first | refine v'1 fun _ _ => ?_ | refine v'W ?_ | (first | refine v'R ?_ | refine v'5 fun _ _ _ _ => ?_ | refine v'6 (fun hg => ?_) (fun hg => ?_) <;> try simp only [hg]) <;> simp only [wS, simprocAttr]))
 refine aW hG0 kat ?_
 simp only [wS, simprocAttr]
 repeat' (first | with_reducible (first | refine v'1 fun _ _ => ?_ | refine v'W ?_ | (first | refine v'R ?_ | refine v'5 fun _ _ _ _ => ?_ | refine v'6 (fun hg => ?_) (fun hg => ?_) <;> try simp only [hg]) <;> simp only [wS, simprocAttr]))
 have htd : inE aB td = true := by simpa only [inL, inR, Bool.true_and, Bool.and_true] using htr
 rcases (Classical.em (T.encs xs = [])) with hE | hE
 focus
  refine EG.mono (fun i h => o9 (es := []) (sz := 4) (by' := 48) (new := []) (by kernel_rfl) rfl (by rw [hE]; simp [cU]) (by simp) h) ?_
  simp only [wS, simprocAttr]
  repeat' (first | with_reducible (first | refine v'1 fun _ _ => ?_ | refine v'X ?_ | (first | refine v'R ?_ | refine v'5 fun _ _ _ _ => ?_ | refine v'6 (fun hg => ?_) (fun hg => ?_) <;> try simp only [hg]) <;> simp only [wS, simprocAttr]))
  refine ContE.go (by assumption) (eX (cB [] (kp [0, 1, 2, 3]) (l := [(2, .int .i64 how), (3, .int .i64 by0), (4, .ptr 0 0 0), (8, .ptr 1 0 0), (9, .sl false SEs), (10, .sl false ip), (11, .ptr 2 0 0)]) (h := [.cells 0 [.int .i64 ta, .int .i64 tb, .int .i64 tc, .sl false td], .cells 0 [.int .i64 0, .int .i64 0, .int .i64 0, .sl true []], .cells 0 [.int .i64 xk, .int .i64 xn, .int .i64 xm, rv 3 0 4 (T.encs xs)], rvR 0 (T.encs xs)]) hG0 (fun r hr => absurd hr (Nat.not_lt_zero r)) ?_ ?_ ?_) ?_)
  ·simp only [wS, simprocAttr, dX, Frz, and_true, true_or]
  ·(simp only [List.all_cons, List.all_nil, Bool.and_true, Bool.and_eq_true, inR]; exact ⟨trivial, trivial, rfl, rfl, aC hctr, aC hipt, rfl⟩)
  ·(simp only [wS, simprocAttr]; simp only [ToH, and_true]; exact ⟨.inr ⟨rfl, by simp only [aD, inL, inR, aC htd, Bool.and_self], .inr ⟨.inl (by simp), .inl rfl⟩⟩, .inr ⟨rfl, rfl, .inr ⟨.inl (by simp), .inl rfl⟩⟩, .inr ⟨rfl, by simp only [aD, inL, inR, Bool.true_and, Bool.and_true]; exact fE rfl, .inr ⟨.inl (by simp), .inr ⟨0, _, _, rfl, rfl, .inl rfl, .inl rfl, .inl rfl, .inr (by rw [hE]; exact .toRsv), trivial⟩⟩⟩, (by rw [hE]; rfl)⟩)
  have hrv : rv 3 0 4 (T.encs xs) = .rsv 3 := by rw [hE]; rfl
  have hrr : rvR 0 (T.encs xs) = .none := by rw [hE]; rfl
 rotate_left
 focus
  refine EG.mono (fun i h => gC (es := []) (sz := 4) (by' := 48) (mm := (T.encs xs).length) (new := (T.encs xs).flatten) (by kernel_rfl) (by (simp only [wS, simprocAttr]; try exact rfl)) rfl (y4 hXall) (by simpa using hE) (by simp only [List.length_nil]; omega) h) ?_
  simp only [wS, simprocAttr]
  repeat' (first | with_reducible (first | refine v'1 fun _ _ => ?_ | refine v'X ?_ | (first | refine v'R ?_ | refine v'5 fun _ _ _ _ => ?_ | refine v'6 (fun hg => ?_) (fun hg => ?_) <;> try simp only [hg]) <;> simp only [wS, simprocAttr]))
  have hrv : rv 3 0 4 (T.encs xs) = .osl 3 0 0 (T.encs xs).length 4 false := if_neg hE
  have hrr : rvR 0 (T.encs xs) = .cells 0 (T.encs xs).flatten := if_neg hE
  refine ContE.go (by assumption) (eX (cB [] (kp [0, 1, 2, 3]) (l := [(2, .int .i64 how), (3, .int .i64 by0), (4, .ptr 0 0 0), (8, .ptr 1 0 0), (9, .sl false SEs), (10, .sl false ip), (11, .ptr 2 0 0)]) (h := [.cells 0 [.int .i64 ta, .int .i64 tb, .int .i64 tc, .sl false td], .cells 0 [.int .i64 0, .int .i64 0, .int .i64 0, .sl true []], .cells 0 [.int .i64 xk, .int .i64 xn, .int .i64 xm, rv 3 0 4 (T.encs xs)], rvR 0 (T.encs xs)]) hG0 (fun r hr => absurd hr (Nat.not_lt_zero r)) ?_ ?_ ?_) ?_)
  ·simp only [wS, simprocAttr, dX, Frz, and_true, true_or]
  ·(simp only [List.all_cons, List.all_nil, Bool.and_true, Bool.and_eq_true, inR]; exact ⟨trivial, trivial, rfl, rfl, aC hctr, aC hipt, rfl⟩)
  ·(simp only [wS, simprocAttr]; simp only [ToH, and_true]; exact ⟨.inr ⟨rfl, by simp only [aD, inL, inR, aC htd, Bool.and_self], .inr ⟨.inl (by simp), .inl rfl⟩⟩, .inr ⟨rfl, rfl, .inr ⟨.inl (by simp), .inl rfl⟩⟩, .inr ⟨rfl, by simp only [aD, inL, inR, Bool.true_and, Bool.and_true]; exact fE rfl, .inr ⟨.inl (by simp), .inl (by rw [hrv]; try simp)⟩⟩, .inr ⟨rfl, by rw [hrr]; exact eU (aC hXt), .inr ⟨.inl (by simp), .inl (by rw [hrr]; try simp)⟩⟩⟩)
 all_goals
  repeat' (first | with_reducible (first | refine v'1 fun _ _ => ?_ | refine v'W ?_ | (first | refine v'R ?_ | refine v'5 fun _ _ _ _ => ?_ | refine v'6 (fun hg => ?_) (fun hg => ?_) <;> try simp only [hg]) <;> simp only [wS, simprocAttr]))
  rename ContE _ _ _ _ _ (Code.seq (Code.region 20 _ _) _) _ _ => hK20
  replace hK20 := And.intro trivial hK20
  have fin := fun (s : AS) (k n m : Int) (ys : List T) (hy : T.sizes ys ≤ 3 * B) (r : Ref G0 116 0 s ⟨mkF [(4, .ptr 0 0 0), (8, .ptr 1 0 0), (10, .sl false ip), (11, .ptr 2 0 0)], [.cells 0 [.int .i64 ta, .int .i64 tb, .int .i64 tc, .sl false td], .cells 0 [.int .i64 0, .int .i64 0, .int .i64 0, .sl true []], .cells 0 [.int .i64 k, .int .i64 n, .int .i64 m, .sl false (T.encs ys)]]⟩) => hK20.2.go (eX r (by
   obtain ⟨u, ku, hu⟩ := kset (.mk k n m ys)
   simp only [T.enc] at ku
   have hut := T.enc_tree u
   obtain ⟨ua, ub, uc, ud, hue⟩ := aK u
   have huw := T.wk_enc u
   rw [hue] at ku huw
   repeat' (first | with_reducible (first | refine v'1 fun _ _ => ?_ | refine v'W ?_ | (first | refine v'R ?_ | refine v'5 fun _ _ _ _ => ?_ | refine v'6 (fun hg => ?_) (fun hg => ?_) <;> try simp only [hg]) <;> simp only [wS, simprocAttr]))
   refine aW hG0 ku ?_
   simp only [wS, simprocAttr]
   repeat' (first | with_reducible (first | refine v'1 fun _ _ => ?_ | refine v'W ?_ | (first | refine v'R ?_ | refine v'5 fun _ _ _ _ => ?_ | refine v'6 (fun hg => ?_) (fun hg => ?_) <;> try simp only [hg]) <;> simp only [wS, simprocAttr]))
   refine gW (v := .agg [.int .i64 ua, .int .i64 ub, .int .i64 uc, .sl false ud]) rfl (by simp only [wS, simprocAttr]; try exact rfl) ?_
   exact EG.of (.agg [.int .i64 ua, .int .i64 ub, .int .i64 uc, .sl false ud]) ⟨u, by rw [hue], by simp only [T.size] at hu; omega⟩ (by rw [AM.wk, huw])))
  refine aW hG0 kho ?_
  have hw6 : w = 0 ∨ w = 1 ∨ w = 2 ∨ w = 3 ∨ w = 4 ∨ w = 5 := by omega
  rcases hw6 with rfl | rfl | rfl | rfl | rfl | rfl
  ·have ⟨b32, h32, kb⟩ : ∃ i : Nat, i < 32 ∧ Pure Tryz.prog G0 32 [.int .i64 by0, .int .i64 32] (.int .i64 (i : Nat)) := cF by0 hb 32 (by decide)
   simp only [wS, simprocAttr]
   repeat' (first | with_reducible (first | refine v'1 fun _ _ => ?_ | refine v'W ?_ | (first | refine v'R ?_ | refine v'5 fun _ _ _ _ => ?_ | refine v'6 (fun hg => ?_) (fun hg => ?_) <;> try simp only [hg]) <;> simp only [wS, simprocAttr]))
   refine aW hG0 kb ?_
   simp only [wS, simprocAttr]
   repeat' (first | with_reducible (first | refine v'1 fun _ _ => ?_ | refine v'W ?_ | (first | refine v'R ?_ | refine v'5 fun _ _ _ _ => ?_ | refine v'6 (fun hg => ?_) (fun hg => ?_) <;> try simp only [hg]) <;> simp only [wS, simprocAttr]))
   refine fin _ ((IntKind.i64.wrap ((b32 : Nat) - 1))) (xn) (xm) xs (by omega) (cB [3] (kp [0, 1, 2]) hG0 (fun r hr => absurd hr (Nat.not_lt_zero r)) ?_ ?_ ?_)
   ·simp only [wS, simprocAttr, dX, Frz, and_true, true_or]
   ·simp only [List.all_cons, List.all_nil, Bool.and_true, Bool.and_eq_true, inR]; exact ⟨rfl, rfl, aC hipt, rfl⟩
   ·simp only [wS, simprocAttr]
    simp only [ToH, and_true]
    exact ⟨.inr ⟨rfl, by simp only [aD, inL, inR, aC htd, Bool.and_self], .inr ⟨.inl (by simp), .inl rfl⟩⟩, .inr ⟨rfl, rfl, .inr ⟨.inl (by simp), .inl rfl⟩⟩, .inr ⟨rfl, by simp only [aD, inL, inR, Bool.true_and, Bool.and_true]; exact aC (T.encs_tree _), .inr ⟨.inl (by simp), .inr ⟨0, _, _, rfl, rfl, .inl rfl, .inl rfl, .inl rfl, .inr (fV (v := 0) rfl (by simp) hX4 hXt), trivial⟩⟩⟩, rfl⟩
  ·have ⟨bt, ht', kb⟩ : ∃ i : Nat, i < 15 ∧ Pure Tryz.prog G0 32 [.int .i64 by0, .int .i64 15] (.int .i64 (i : Nat)) := cF by0 hb 15 (by decide)
   obtain ⟨y, htb⟩ : ∃ y, ([[AV.int .i64 (-9)], [AV.int .i64 (-8)], [AV.int .i64 (-1)], [AV.int .i64 0], [AV.int .i64 1], [AV.int .i64 2], [AV.int .i64 3], [AV.int .i64 4], [AV.int .i64 5], [AV.int .i64 6], [AV.int .i64 7], [AV.int .i64 8], [AV.int .i64 13], [AV.int .i64 14], [AV.int .i64 by0]] : List (List AV))[bt]? = some [AV.int .i64 y] := yW (l := [-9, -8, -1, 0, 1, 2, 3, 4, 5, 6, 7, 8, 13, 14, by0]) ht'
   simp only [wS, simprocAttr]
   repeat' (first | with_reducible (first | refine v'1 fun _ _ => ?_ | refine v'W ?_ | (first | refine v'R ?_ | refine v'5 fun _ _ _ _ => ?_ | refine v'6 (fun hg => ?_) (fun hg => ?_) <;> try simp only [hg]) <;> simp only [wS, simprocAttr]))
   refine aW hG0 kb ?_
   simp only [wS, simprocAttr, htb, ht']
   repeat' (first | with_reducible (first | refine v'1 fun _ _ => ?_ | refine v'W ?_ | (first | refine v'R ?_ | refine v'5 fun _ _ _ _ => ?_ | refine v'6 (fun hg => ?_) (fun hg => ?_) <;> try simp only [hg]) <;> simp only [wS, simprocAttr, htb, ht']))
   refine fin _ (xk) (y) (xm) xs (by omega) (cB [3] (kp [0, 1, 2]) hG0 (fun r hr => absurd hr (Nat.not_lt_zero r)) ?_ ?_ ?_)
   ·simp only [wS, simprocAttr, dX, Frz, and_true, true_or]
   ·simp only [List.all_cons, List.all_nil, Bool.and_true, Bool.and_eq_true, inR]; exact ⟨rfl, rfl, aC hipt, rfl⟩
   ·simp only [wS, simprocAttr]
    simp only [ToH, and_true]
    exact ⟨.inr ⟨rfl, by simp only [aD, inL, inR, aC htd, Bool.and_self], .inr ⟨.inl (by simp), .inl rfl⟩⟩, .inr ⟨rfl, rfl, .inr ⟨.inl (by simp), .inl rfl⟩⟩, .inr ⟨rfl, by simp only [aD, inL, inR, Bool.true_and, Bool.and_true]; exact aC (T.encs_tree _), .inr ⟨.inl (by simp), .inr ⟨0, _, _, rfl, rfl, .inl rfl, .inl rfl, .inl rfl, .inr (fV (v := 0) rfl (by simp) hX4 hXt), trivial⟩⟩⟩, rfl⟩
  ·have ⟨bt, ht', kb⟩ : ∃ i : Nat, i < 6 ∧ Pure Tryz.prog G0 32 [.int .i64 by0, .int .i64 6] (.int .i64 (i : Nat)) := cF by0 hb 6 (by decide)
   obtain ⟨y, htb⟩ : ∃ y, ([[AV.int .i64 (-1)], [AV.int .i64 0], [AV.int .i64 1], [AV.int .i64 2], [AV.int .i64 3], [AV.int .i64 by0]] : List (List AV))[bt]? = some [AV.int .i64 y] := yW (l := [-1, 0, 1, 2, 3, by0]) ht'
   simp only [wS, simprocAttr]
   repeat' (first | with_reducible (first | refine v'1 fun _ _ => ?_ | refine v'W ?_ | (first | refine v'R ?_ | refine v'5 fun _ _ _ _ => ?_ | refine v'6 (fun hg => ?_) (fun hg => ?_) <;> try simp only [hg]) <;> simp only [wS, simprocAttr]))
   refine aW hG0 kb ?_
   simp only [wS, simprocAttr, htb, ht']
   repeat' (first | with_reducible (first | refine v'1 fun _ _ => ?_ | refine v'W ?_ | (first | refine v'R ?_ | refine v'5 fun _ _ _ _ => ?_ | refine v'6 (fun hg => ?_) (fun hg => ?_) <;> try simp only [hg]) <;> simp only [wS, simprocAttr, htb, ht']))
   refine fin _ (xk) (xn) (y) xs (by omega) (cB [3] (kp [0, 1, 2]) hG0 (fun r hr => absurd hr (Nat.not_lt_zero r)) ?_ ?_ ?_)
   ·simp only [wS, simprocAttr, dX, Frz, and_true, true_or]
   ·simp only [List.all_cons, List.all_nil, Bool.and_true, Bool.and_eq_true, inR]; exact ⟨rfl, rfl, aC hipt, rfl⟩
   ·simp only [wS, simprocAttr]
    simp only [ToH, and_true]
    exact ⟨.inr ⟨rfl, by simp only [aD, inL, inR, aC htd, Bool.and_self], .inr ⟨.inl (by simp), .inl rfl⟩⟩, .inr ⟨rfl, rfl, .inr ⟨.inl (by simp), .inl rfl⟩⟩, .inr ⟨rfl, by simp only [aD, inL, inR, Bool.true_and, Bool.and_true]; exact aC (T.encs_tree _), .inr ⟨.inl (by simp), .inr ⟨0, _, _, rfl, rfl, .inl rfl, .inl rfl, .inl rfl, .inr (fV (v := 0) rfl (by simp) hX4 hXt), trivial⟩⟩⟩, rfl⟩
  ·by_cases hE' : T.encs xs = []
   ·have hrv' : rv 3 0 4 (T.encs xs) = .rsv 3 := by rw [hE']; rfl
    have hrr' : rvR 0 (T.encs xs) = .none := by rw [hE']; rfl
    simp only [wS, simprocAttr]
    repeat' (first | with_reducible (first | refine v'1 fun _ _ => ?_ | refine v'W ?_ | (first | refine v'R ?_ | refine v'5 fun _ _ _ _ => ?_ | refine v'6 (fun hg => ?_) (fun hg => ?_) <;> try simp only [hg]) <;> simp only [wS, simprocAttr, hrv', hrr']))
    refine fin _ (xk) (xn) (xm) xs (by omega) (cB [3] (kp [0, 1, 2]) hG0 (fun r hr => absurd hr (Nat.not_lt_zero r)) ?_ ?_ ?_)
    ·simp only [wS, simprocAttr, dX, Frz, and_true, true_or]
    ·simp only [List.all_cons, List.all_nil, Bool.and_true, Bool.and_eq_true, inR]; exact ⟨rfl, rfl, aC hipt, rfl⟩
    ·simp only [wS, simprocAttr]
     simp only [ToH, and_true]
     exact ⟨.inr ⟨rfl, by simp only [aD, inL, inR, aC htd, Bool.and_self], .inr ⟨.inl (by simp), .inl rfl⟩⟩, .inr ⟨rfl, rfl, .inr ⟨.inl (by simp), .inl rfl⟩⟩, .inr ⟨rfl, by simp only [aD, inL, inR, Bool.true_and, Bool.and_true]; exact aC (T.encs_tree _), .inr ⟨.inl (by simp), .inr ⟨0, _, _, rfl, rfl, .inl rfl, .inl rfl, .inl rfl, .inr (by rw [hE']; exact .rsv), trivial⟩⟩⟩, rfl⟩
   ·have hrv' : rv 3 0 4 (T.encs xs) = .osl 3 0 0 (T.encs xs).length 4 false := if_neg hE'
    have hrr' : rvR 0 (T.encs xs) = .cells 0 (T.encs xs).flatten := if_neg hE'
    have hxp : 0 < (T.encs xs).length := by
     have : (T.encs xs).length ≠ 0 := by simpa using hE'
     omega
    have hpos : decide ((((T.encs xs).length : Nat) : Int) > 0) = true := by simp only [decide_eq_true_eq]; omega
    obtain ⟨ik, hik, kk⟩ := cF by0 hb (T.encs xs).length hxp
    have e1 := aO (k := ik) hik (by omega)
    simp only [wS, simprocAttr]
    repeat' (first | with_reducible (first | refine v'1 fun _ _ => ?_ | refine v'W ?_ | (first | refine v'R ?_ | refine v'5 fun _ _ _ _ => ?_ | refine v'6 (fun hg => ?_) (fun hg => ?_) <;> try simp only [hg]) <;> simp only [wS, simprocAttr, hrv', hrr', hpos]))
    refine aW hG0 kk ?_
    simp only [wS, simprocAttr]
    have hk1 : (ik ≤ (T.encs xs).length) = True := eq_true (by omega)
    have hk2 : (ik + 1 ≤ (T.encs xs).length) = True := eq_true (by omega)
    have hb1 : ((none : Option Nat) == some ik) = false := rfl
    have hb2 : ((none : Option Nat) == some (T.encs xs).length) = false := rfl
    have hYl : (T.encs (xs.eraseIdx ik)).length = ik + ((T.encs xs).length - (ik + 1)) := by rw [T.encs_len, List.length_eraseIdx, ← hXl, if_pos hik]; omega
    have hYf : (T.encs (xs.eraseIdx ik)).flatten = (T.encs xs).flatten.take (ik * 4) ++ ((T.encs xs).drop (ik + 1)).flatten := by rw [FU hX4, ← List.flatten_append, T.encs_map, T.encs_map, List.eraseIdx_eq_take_drop_succ, List.map_append, List.map_take, List.map_drop]
    have hY4 : ∀ e ∈ T.encs (xs.eraseIdx ik), e.length = 4 := fun e he => by
     rw [T.encs_map] at he
     obtain ⟨y, _, rfl⟩ := List.mem_map.1 he
     exact T.enc_len y
    have hYs := T.sizes_erase xs ik
    rcases Classical.em (ik + 1 < (T.encs xs).length) with hlo | hlo
    ·have hlt : (ik + 1 < (T.encs xs).length) = True := eq_true hlo
     repeat' (first | with_reducible (first | refine v'1 fun _ _ => ?_ | refine v'W ?_ | (first | refine v'R ?_ | refine v'5 fun _ _ _ _ => ?_ | refine v'6 (fun hg => ?_) (fun hg => ?_) <;> try simp only [hg]) <;> simp only [wS, simprocAttr, hrv', hrr', e1, Nat.le_refl, hk1, hk2, hb1, hb2, hlt, if_true, or_true, true_or, Nat.zero_mul, Nat.zero_add]))
     refine EG.mono (fun i h => FZ (mm := (T.encs xs).length - (ik + 1)) (new := ((T.encs xs).drop (ik + 1)).flatten) (by' := 48) (sz := 4) (by kernel_rfl) (by (simp only [wS, simprocAttr]; try exact rfl)) (by rw [b9 hX4]; omega) (by (simp only [wS, simprocAttr, cU]); rw [if_pos (by rw [b9 hX4]; omega), FV hX4, List.take_of_length_le]; rw [b9 (sz := 4) (fun e he => hX4 e (List.mem_of_mem_drop he)), List.length_drop]; exact Nat.le_refl _) (by omega) h) ?_
     simp only [wS, simprocAttr]
     refine bX (by kernel_rfl) ?_
     repeat' (first | with_reducible (first | refine v'1 fun _ _ => ?_ | refine v'W ?_ | (first | refine v'R ?_ | refine v'5 fun _ _ _ _ => ?_ | refine v'6 (fun hg => ?_) (fun hg => ?_) <;> try simp only [hg]) <;> simp only [wS, simprocAttr]))
     refine fin _ (xk) (xn) (xm) (xs.eraseIdx ik) (by omega) (cB [3] (kp [0, 1, 2]) hG0 (fun r hr => absurd hr (Nat.not_lt_zero r)) ?_ ?_ ?_)
     ·simp only [wS, simprocAttr, dX, Frz, and_true, true_or]
     ·simp only [List.all_cons, List.all_nil, Bool.and_true, Bool.and_eq_true, inR]; exact ⟨rfl, rfl, aC hipt, rfl⟩
     ·simp only [wS, simprocAttr]
      simp only [ToH, and_true]
      exact ⟨.inr ⟨rfl, by simp only [aD, inL, inR, aC htd, Bool.and_self], .inr ⟨.inl (by simp), .inl rfl⟩⟩, .inr ⟨rfl, rfl, .inr ⟨.inl (by simp), .inl rfl⟩⟩, .inr ⟨rfl, by simp only [aD, inL, inR, Bool.true_and, Bool.and_true]; exact aC (T.encs_tree _), .inr ⟨.inl (by simp), .inr ⟨0, _, _, rfl, rfl, .inl rfl, .inl rfl, .inl rfl, .inr (.osl (cs := (T.encs (xs.eraseIdx ik)).flatten) (by simp) (by (simp only [wS, simprocAttr]; rw [hYf]; try rfl)) hYl hY4 (by rw [List.drop_zero, List.take_of_length_le]; rw [b9 hY4, hYl]; exact Nat.le_refl _) (T.encs_tree _)), trivial⟩⟩⟩, rfl⟩
    ·have hlt : (ik + 1 < (T.encs xs).length) = False := eq_false hlo
     have hn0 : (ik + 1 = 0) = False := eq_false (by omega)
     have hdn : (T.encs xs).drop (ik + 1) = [] := List.drop_eq_nil_of_le (by omega)
     have hl0 : (T.encs xs).length - (ik + 1) = 0 := by omega
     repeat' (first | with_reducible (first | refine v'1 fun _ _ => ?_ | refine v'W ?_ | (first | refine v'R ?_ | refine v'5 fun _ _ _ _ => ?_ | refine v'6 (fun hg => ?_) (fun hg => ?_) <;> try simp only [hg]) <;> simp only [wS, simprocAttr, hrv', hrr', e1, Nat.le_refl, hk1, hk2, hb1, hb2, hlt, hn0, if_true, if_false, or_false, or_true, false_or, Nat.zero_mul, Nat.zero_add]))
     refine EG.mono (fun i h => FZ (mm := (T.encs xs).length - (ik + 1)) (new := ((T.encs xs).drop (ik + 1)).flatten) (by' := 48) (sz := 4) (by kernel_rfl) (by (simp only [wS, simprocAttr]; try exact rfl)) (by rw [b9 hX4]; omega) (by rw [hdn, hl0]; simp [cU]) (by omega) h) ?_
     simp only [wS, simprocAttr]
     refine bX (by kernel_rfl) ?_
     repeat' (first | with_reducible (first | refine v'1 fun _ _ => ?_ | refine v'W ?_ | (first | refine v'R ?_ | refine v'5 fun _ _ _ _ => ?_ | refine v'6 (fun hg => ?_) (fun hg => ?_) <;> try simp only [hg]) <;> simp only [wS, simprocAttr]))
     refine fin _ (xk) (xn) (xm) (xs.eraseIdx ik) (by omega) (cB [3] (kp [0, 1, 2]) hG0 (fun r hr => absurd hr (Nat.not_lt_zero r)) ?_ ?_ ?_)
     ·simp only [wS, simprocAttr, dX, Frz, and_true, true_or]
     ·simp only [List.all_cons, List.all_nil, Bool.and_true, Bool.and_eq_true, inR]; exact ⟨rfl, rfl, aC hipt, rfl⟩
     ·simp only [wS, simprocAttr]
      simp only [ToH, and_true]
      exact ⟨.inr ⟨rfl, by simp only [aD, inL, inR, aC htd, Bool.and_self], .inr ⟨.inl (by simp), .inl rfl⟩⟩, .inr ⟨rfl, rfl, .inr ⟨.inl (by simp), .inl rfl⟩⟩, .inr ⟨rfl, by simp only [aD, inL, inR, Bool.true_and, Bool.and_true]; exact aC (T.encs_tree _), .inr ⟨.inl (by simp), .inr ⟨0, _, _, rfl, rfl, .inl rfl, .inl rfl, .inl rfl, .inr (.osl (cs := (T.encs (xs.eraseIdx ik)).flatten) (by simp) (by (simp only [wS, simprocAttr]; rw [hYf]; try rfl)) hYl hY4 (by rw [List.drop_zero, List.take_of_length_le]; rw [b9 hY4, hYl]; exact Nat.le_refl _) (T.encs_tree _)), trivial⟩⟩⟩, rfl⟩
  ·have ⟨b30, h30, kb⟩ : ∃ i : Nat, i < 30 ∧ Pure Tryz.prog G0 32 [.int .i64 by0, .int .i64 30] (.int .i64 (i : Nat)) := cF by0 hb 30 (by decide)
   simp only [wS, simprocAttr]
   repeat' (first | with_reducible (first | refine v'1 fun _ _ => ?_ | refine v'W ?_ | (first | refine v'R ?_ | refine v'5 fun _ _ _ _ => ?_ | refine v'6 (fun hg => ?_) (fun hg => ?_) <;> try simp only [hg]) <;> simp only [wS, simprocAttr, ↓aR, ↓aJ]))
   refine aW hG0 kb ?_
   simp only [wS, simprocAttr, ↓aR, ↓aJ]
   refine EG.mono (fun i h => gB (v' := if T.encs xs = [] then 0 else 0 + 1) (es := [[.int .i64 (b30 : Nat), .int .i64 0, .int .i64 0, .sl true []]]) (by' := 48) (by kernel_rfl) (by (simp only [wS, simprocAttr]; try exact rfl)) rfl hX4 (by simp [cU]) (by simp) (by simp only [List.length_singleton]; omega) h) ?_
   simp only [wS, simprocAttr, ↓aR, ↓aJ]
   refine bX (by kernel_rfl) ?_
   repeat' (first | with_reducible (first | refine v'1 fun _ _ => ?_ | refine v'W ?_ | (first | refine v'R ?_ | refine v'5 fun _ _ _ _ => ?_ | refine v'6 (fun hg => ?_) (fun hg => ?_) <;> try simp only [hg]) <;> simp only [wS, simprocAttr, ↓aR, ↓aJ]))
   have hYe : T.encs (xs ++ [.mk (b30 : Nat) 0 0 []]) = T.encs xs ++ [[.int .i64 (b30 : Nat), .int .i64 0, .int .i64 0, .sl false []]] := by rw [T.encs_map, T.encs_map, List.map_append]; rfl
   have hL4 : ∀ e ∈ T.encs xs ++ [[.int .i64 (b30 : Nat), .int .i64 0, .int .i64 0, .sl true []]], e.length = 4 := fun e he => by
    rcases List.mem_append.1 he with he | he
    ·exact hX4 e he
    ·rw [List.mem_singleton.1 he]; rfl
   have hLt : inE aB (T.encs xs ++ [[.int .i64 (b30 : Nat), .int .i64 0, .int .i64 0, .sl true []]]) = true := by
    have h := T.encs_tree xs
    generalize T.encs xs = l at h
    clear hYe hL4
    induction l with
    | nil => rfl
    | cons a l ih => simp only [List.cons_append, inE, Bool.and_eq_true] at h ⊢; exact ⟨h.1, ih h.2⟩
   have hLw : AM.wk (.sl false (T.encs xs ++ [[.int .i64 (b30 : Nat), .int .i64 0, .int .i64 0, .sl true []]])) = .sl false (T.encs (xs ++ [.mk (b30 : Nat) 0 0 []])) := by
    simp only [AM.wk, hI, List.map_append, T.wk_encs, hYe]; rfl
   refine fin _ (xk) (xn) (xm) (xs ++ [.mk (b30 : Nat) 0 0 []]) (by simp only [T.size, T.sizes_app, T.sizes]; omega) (cB [3] (kp [0, 1, 2]) hG0 (fun r hr => absurd hr (Nat.not_lt_zero r)) ?_ ?_ ?_)
   ·simp only [wS, simprocAttr, dX, Frz, and_true, true_or]
   ·simp only [List.all_cons, List.all_nil, Bool.and_true, Bool.and_eq_true, inR]; exact ⟨rfl, rfl, aC hipt, rfl⟩
   ·simp only [wS, simprocAttr]
    simp only [ToH, and_true]
    exact ⟨.inr ⟨rfl, by simp only [aD, inL, inR, aC htd, Bool.and_self], .inr ⟨.inl (by simp), .inl rfl⟩⟩, .inr ⟨rfl, rfl, .inr ⟨.inl (by simp), .inl rfl⟩⟩, .inr ⟨rfl, by simp only [aD, inL, inR, Bool.true_and, Bool.and_true]; exact aC (T.encs_tree _), .inr ⟨.inl (by simp), .inr ⟨0, _, _, rfl, rfl, .inl rfl, .inl rfl, .inl rfl, .inr (mG (fV (v := if T.encs xs = [] then 0 else 1) rfl (by simp) hL4 hLt) hLw), trivial⟩⟩⟩, rfl⟩
  ·obtain ⟨ya, yb, yc, yd, hye⟩ := aK x'
   have hy := hye
   obtain ⟨yk, yn, ym, ys⟩ := x'
   simp only [T.enc] at hye kat'
   simp only [T.size] at hxs'
   simp only [wS, simprocAttr]
   repeat' (first | with_reducible (first | refine v'1 fun _ _ => ?_ | refine v'W ?_ | (first | refine v'R ?_ | refine v'5 fun _ _ _ _ => ?_ | refine v'6 (fun hg => ?_) (fun hg => ?_) <;> try simp only [hg]) <;> simp only [wS, simprocAttr, hgb, hib']))
   refine aW hG0 kbr ?_
   simp only [wS, simprocAttr, hgb, hib']
   repeat' (first | with_reducible (first | refine v'1 fun _ _ => ?_ | refine v'W ?_ | (first | refine v'R ?_ | refine v'5 fun _ _ _ _ => ?_ | refine v'6 (fun hg => ?_) (fun hg => ?_) <;> try simp only [hg]) <;> simp only [wS, simprocAttr, hgb, hib']))
   refine aW hG0 kat' ?_
   simp only [wS, simprocAttr]
   try refine bX (by kernel_rfl) ?_
   repeat' (first | with_reducible (first | refine v'1 fun _ _ => ?_ | refine v'W ?_ | (first | refine v'R ?_ | refine v'5 fun _ _ _ _ => ?_ | refine v'6 (fun hg => ?_) (fun hg => ?_) <;> try simp only [hg]) <;> simp only [wS, simprocAttr]))
   refine fin _ (yk) (yn) (ym) ys (by omega) (cB [3] (kp [0, 1, 2]) hG0 (fun r hr => absurd hr (Nat.not_lt_zero r)) ?_ ?_ ?_)
   ·simp only [wS, simprocAttr, dX, Frz, and_true, true_or]
   ·simp only [List.all_cons, List.all_nil, Bool.and_true, Bool.and_eq_true, inR]; exact ⟨rfl, rfl, aC hipt, rfl⟩
   ·simp only [wS, simprocAttr]
    simp only [ToH, and_true]
    exact ⟨.inr ⟨rfl, by simp only [aD, inL, inR, aC htd, Bool.and_self], .inr ⟨.inl (by simp), .inl rfl⟩⟩, .inr ⟨rfl, rfl, .inr ⟨.inl (by simp), .inl rfl⟩⟩, .inr ⟨rfl, by simp only [aD, inL, inR, Bool.true_and, Bool.and_true]; exact aC (T.encs_tree _), .inr ⟨.inl (by simp), .inl rfl⟩⟩, rfl⟩
theorem DK (t : T) (ht : T.size t ≤ 16000000000) (at0 how by0 : Int) (ha : bR at0) (hh : bR how) (hb : bR by0) : EP Tryz.prog G0 16 [.agg (T.enc t), .int .i64 at0, .int .i64 how, .int .i64 by0] (fun v => ∃ u, v = .agg (T.enc u) ∧ T.size u ≤ 100000000000) := by
 obtain ⟨v, ⟨u, h1, h2⟩, h3⟩ := lA 16000000000 (by decide) t ht at0 how by0 ha hh hb
 exact ⟨v, ⟨u, h1, by omega⟩, h3⟩
end Go.Proofs.YtblfpppnkdokdaaGreatDoor
