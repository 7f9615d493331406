import Derived.Test.YtijakngaipdncaaDoorN4
set_option linter.unusedVariables false
set_option linter.unusedSimpArgs false
namespace Go.Proofs.YtijakngaipdncaaDoor
open Go.AM
attribute [local irreducible] AWp rgnS callR callV effR valR guardR stepR nextR
set_option maxRecDepth 100000
set_option maxHeartbeats 4000000 in
theorem block_step {D : Nat} {x : MX} (hx : x.ok) (depth most : Int) (hm1 : 0 < most) (hm2 : most ≤ 6) (hS : MC x 41 [.int .i64 depth] (VN D)) : MC x 31 [.int .i64 depth, .int .i64 most] (VN (D + 1)) := by
  refine mc_of_body hx.fr Tryd.func31 rfl (by kernel_rfl) (by simp [Tryd.ntmps31]) rfl fun at0 left => ?_
  simp only [Tryd.ntmps31, enterF, Nat.reduceAdd, MX.row]
  repeat' (first | with_reducible (first | refine v'1 fun _ _ => ?_ | refine v'2 ?_ | (first | refine v'3 ?_ | refine v'4 ?_ | refine v'5 fun _ _ _ _ => ?_ | refine v'6 (fun hg => ?_) (fun hg => ?_) <;> try simp only [hg]) <;> simp only [wS, simprocAttr] | (first | refine v's ?_ | refine v'e ?_ | refine v'r ?_) <;> try simp only [wE, simprocAttr] | refine v'8 ?_ | refine v'9 ?_))
  refine eg_mc (draw_ok hx.fr most hm1) at0 left (by refine ⟨?_, ?_, ?_, ?_, ?_⟩ <;> ((try simp only [wS, simprocAttr, accH_old, MX.row]); try exact rfl)) ?_
  rintro v at1 left1 ⟨z, rfl, hz1, hz2⟩ -
  have ez : IntKind.i64.wrap (1 + z) = 1 + z := wrap_small (by omega) (by omega)
  obtain ⟨nn, hnn⟩ : ∃ nn : Nat, 1 + z = nn := ⟨(1 + z).toNat, (Int.toNat_of_nonneg (by omega)).symm⟩
  have ez' : IntKind.i64.wrap (nn : Int) = nn := wrap_small (by omega) (by omega)
  simp only [wS, simprocAttr, hnn, ez', MX.row]
  repeat' (first | with_reducible (first | refine v'1 fun _ _ => ?_ | refine v'2 ?_ | (first | refine v'3 ?_ | refine v'4 ?_ | refine v'5 fun _ _ _ _ => ?_ | refine v'6 (fun hg => ?_) (fun hg => ?_) <;> try simp only [hg]) <;> simp only [wS, simprocAttr, MX.row, hnn, ez'] | (first | refine v's ?_ | refine v'e ?_ | refine v'r ?_) <;> try simp only [wE, simprocAttr] | refine v'8 ?_ | refine v'9 ?_))
  rename_i Ka hKa Kb hKb
  replace hKa := And.intro trivial hKa
  refine eg_loop_k (α := {p : List (List AV) × Int × Int // p.1.length ≤ nn ∧ ∀ e ∈ p.1, NodeV D e}) (fun p => [(0, .ptr 1 0 0), (1, .int .i64 depth), (6, .ptr 6 0 0), (7, accV [] 7 4 p.1.1), (8, .int .i64 nn), (9, .int .i64 (p.1.1.length : Nat))]) (fun p => accH [.dead, .cells 0 [encI x.L, .int .i64 (p.1.2.1), .int .i64 (p.1.2.2), .int .i64 x.pk, .int .i64 x.pn, .int .i64 x.pm, x.kv, .int .i64 x.F, .bool x.con], x.A2, x.A3, x.A4, x.A5, .cells 0 [.int .i64 0, .int .i64 0, .int .i64 0, .sl true []]] [] p.1.1) (fun p => nn - p.1.1.length) ⟨([], at1, left1), by simp, by simp⟩ (Weak.ref ⟨?_, .inl ?_⟩) ?_
  · simp only [wS, simprocAttr, accV_nil]; try exact rfl
  · simp only [wS, simprocAttr, accH, if_true]; try exact rfl
  · rintro ⟨⟨app, a2, l2⟩, hl, hn⟩ K3 hK3
    simp only at hl hn
    repeat' (first | with_reducible (first | refine v'1 fun _ _ => ?_ | refine v'2 ?_ | (first | refine v'3 ?_ | refine v'4 ?_ | refine v'5 fun _ _ _ _ => ?_ | refine v'6 (fun hg => ?_) (fun hg => ?_) <;> try simp only [hg]) <;> simp only [wS, simprocAttr, accH_old, MX.row] | (first | refine v's ?_ | refine v'e ?_ | refine v'r ?_) <;> try simp only [wE, simprocAttr] | refine v'8 ?_ | refine v'9 ?_))
    · have hlt : app.length < nn := by simpa using hg
      refine eg_split (fun h => ?_) (fun h => ?_)
      · repeat' (first | with_reducible (first | refine v'1 fun _ _ => ?_ | refine v'2 ?_ | (first | refine v'3 ?_ | refine v'4 ?_ | refine v'5 fun _ _ _ _ => ?_ | refine v'6 (fun hg => ?_) (fun hg => ?_) <;> try simp only [hg]) <;> simp only [wS, simprocAttr, accH_old, MX.row] | (first | refine v's ?_ | refine v'e ?_ | refine v'r ?_) <;> try simp only [wE, simprocAttr] | refine v'8 ?_ | refine v'9 ?_))
        refine eg_mc hS a2 l2 (by refine ⟨?_, ?_, ?_, ?_, ?_⟩ <;> ((try simp only [wS, simprocAttr, accH_old, MX.row]); try exact rfl)) ?_
        rintro v a3 l3 ⟨c, rfl, hc⟩ -
        obtain ⟨k1, n1, m1, b1, es1, rfl⟩ := node_ex hc
        simp only [wS, simprocAttr, MX.row, accH_hset, accH_old]
        refine EG.mono (fun i h => eff_acc (H := [.dead, .cells 0 [encI x.L, .int .i64 (a3), .int .i64 (l3), .int .i64 x.pk, .int .i64 x.pn, .int .i64 x.pm, x.kv, .int .i64 x.F, .bool x.con], x.A2, x.A3, x.A4, x.A5, .cells 0 [.int .i64 0, .int .i64 0, .int .i64 0, .sl true []]]) (base := []) (app := app) (e := [.int .i64 k1, .int .i64 n1, .int .i64 m1, .sl b1 es1]) (by' := 48) (by kernel_rfl) rfl (upd_acc (by simp)) rfl (fun e he => (hn e (by simpa using he)).len) (by simp [srcA]) (by simp only [List.length_nil]; omega) h) ?_
        have e3 := wrap_succ (k := app.length) hlt (by omega)
        have hac := accH_snoc [.dead, .cells 0 [encI x.L, .int .i64 (a3), .int .i64 (l3), .int .i64 x.pk, .int .i64 x.pn, .int .i64 x.pm, x.kv, .int .i64 x.F, .bool x.con], x.A2, x.A3, x.A4, x.A5, .cells 0 [.int .i64 0, .int .i64 0, .int .i64 0, .sl true []]] [] app [.int .i64 k1, .int .i64 n1, .int .i64 m1, .sl b1 es1]
        simp only [List.length_cons, List.length_nil, Nat.reduceAdd] at hac
        simp only [wS, simprocAttr, MX.row]
        repeat' (first | with_reducible (first | refine v'1 fun _ _ => ?_ | refine v'2 ?_ | (first | refine v'3 ?_ | refine v'4 ?_ | refine v'5 fun _ _ _ _ => ?_ | refine v'6 (fun hg => ?_) (fun hg => ?_) <;> try simp only [hg]) <;> simp only [wS, simprocAttr, e3] | (first | refine v's ?_ | refine v'e ?_ | refine v'r ?_) <;> try simp only [wE, simprocAttr] | refine v'8 ?_ | refine v'9 ?_))
        refine hK3 _ ⟨(app ++ [[.int .i64 k1, .int .i64 n1, .int .i64 m1, .sl b1 es1]], a3, l3), by simp; omega, snocs hn hc⟩ (Weak.ref ⟨?_, .inl ?_⟩) (by simp; omega)
        · simp only [wS, simprocAttr, List.length_append, List.length_singleton]; try exact rfl
        · simp only [wS, simprocAttr, accH_hset, MX.row, hac]; try exact rfl
      · have hal : app.length ≤ 6 := by omega
        repeat' (first | with_reducible (first | refine v'1 fun _ _ => ?_ | refine v'2 ?_ | (first | refine v'3 ?_ | refine v'4 ?_ | refine v'5 fun _ _ _ _ => ?_ | refine v'6 (fun hg => ?_) (fun hg => ?_) <;> try simp only [hg]) <;> simp only [wS, simprocAttr] | (first | refine v's ?_ | refine v'e ?_ | refine v'r ?_) <;> try simp only [wE, simprocAttr] | refine v'8 ?_ | refine v'9 ?_))
        refine hKa.2.go (eg_ref (ref_acc (H := [.dead, .cells 0 [encI x.L, .int .i64 (a2), .int .i64 (l2), .int .i64 x.pk, .int .i64 x.pn, .int .i64 x.pm, x.kv, .int .i64 x.F, .bool x.con], x.A2, x.A3, x.A4, x.A5, .cells 0 [.int .i64 0, .int .i64 0, .int .i64 0, .sl true []]]) (sz := 4) (t := 7) (app := app) [(0, .ptr 1 0 0), (6, .ptr 6 0 0)] (by simp) ?_ ?_ (fun e he => (hn e he).len) (nodes_tree hn) ?_ (by simp [inR]) (heap_in hx.fr a2 l2 [.cells 0 [.int .i64 0, .int .i64 0, .int .i64 0, .sl true []]] 7 (by decide) rfl)) ?_)
        · simp only [wS, simprocAttr, MX.row]; try exact rfl
        · simp only [wS, simprocAttr]; try exact rfl
        · simp only [wS, simprocAttr]; try exact rfl
        repeat' (first | with_reducible (first | refine v'1 fun _ _ => ?_ | refine v'2 ?_ | (first | refine v'3 ?_ | refine v'4 ?_ | refine v'5 fun _ _ _ _ => ?_ | refine v'6 (fun hg => ?_) (fun hg => ?_) <;> try simp only [hg]) <;> simp only [wS, simprocAttr, MX.row] | (first | refine v's ?_ | refine v'e ?_ | refine v'r ?_) <;> try simp only [wE, simprocAttr] | refine v'8 ?_ | refine v'9 ?_))
        refine eg_mc (node_ok hx.fr _ _ _ _ hal hn) a2 l2 (by refine ⟨?_, ?_, ?_, ?_, ?_⟩ <;> ((try simp only [wS, simprocAttr, accH_old, MX.row]); try exact rfl)) ?_
        rintro v a4 l4 ⟨rfl, hvn⟩ -
        simp only [wS, simprocAttr, MX.row]
        repeat' (first | with_reducible (first | refine v'1 fun _ _ => ?_ | refine v'2 ?_ | (first | refine v'3 ?_ | refine v'4 ?_ | refine v'5 fun _ _ _ _ => ?_ | refine v'6 (fun hg => ?_) (fun hg => ?_) <;> try simp only [hg]) <;> simp only [wS, simprocAttr] | (first | refine v's ?_ | refine v'e ?_ | refine v'r ?_) <;> try simp only [wE, simprocAttr] | refine v'8 ?_ | refine v'9 ?_))
        refine eg_finM rfl (by simp only [wS, simprocAttr]; try exact rfl) (by refine ⟨?_, ?_, ?_, ?_, ?_⟩ <;> ((try simp only [wS, simprocAttr, accH_old, MX.row]); try exact rfl)) ⟨_, rfl, hvn⟩
    · have hal : app.length ≤ 6 := by omega
      repeat' (first | with_reducible (first | refine v'1 fun _ _ => ?_ | refine v'2 ?_ | (first | refine v'3 ?_ | refine v'4 ?_ | refine v'5 fun _ _ _ _ => ?_ | refine v'6 (fun hg => ?_) (fun hg => ?_) <;> try simp only [hg]) <;> simp only [wS, simprocAttr] | (first | refine v's ?_ | refine v'e ?_ | refine v'r ?_) <;> try simp only [wE, simprocAttr] | refine v'8 ?_ | refine v'9 ?_))
      refine hKa.2.go (eg_ref (ref_acc (H := [.dead, .cells 0 [encI x.L, .int .i64 (a2), .int .i64 (l2), .int .i64 x.pk, .int .i64 x.pn, .int .i64 x.pm, x.kv, .int .i64 x.F, .bool x.con], x.A2, x.A3, x.A4, x.A5, .cells 0 [.int .i64 0, .int .i64 0, .int .i64 0, .sl true []]]) (sz := 4) (t := 7) (app := app) [(0, .ptr 1 0 0), (6, .ptr 6 0 0)] (by simp) ?_ ?_ (fun e he => (hn e he).len) (nodes_tree hn) ?_ (by simp [inR]) (heap_in hx.fr a2 l2 [.cells 0 [.int .i64 0, .int .i64 0, .int .i64 0, .sl true []]] 7 (by decide) rfl)) ?_)
      · simp only [wS, simprocAttr, MX.row]; try exact rfl
      · simp only [wS, simprocAttr]; try exact rfl
      · simp only [wS, simprocAttr]; try exact rfl
      repeat' (first | with_reducible (first | refine v'1 fun _ _ => ?_ | refine v'2 ?_ | (first | refine v'3 ?_ | refine v'4 ?_ | refine v'5 fun _ _ _ _ => ?_ | refine v'6 (fun hg => ?_) (fun hg => ?_) <;> try simp only [hg]) <;> simp only [wS, simprocAttr, MX.row] | (first | refine v's ?_ | refine v'e ?_ | refine v'r ?_) <;> try simp only [wE, simprocAttr] | refine v'8 ?_ | refine v'9 ?_))
      refine eg_mc (node_ok hx.fr _ _ _ _ hal hn) a2 l2 (by refine ⟨?_, ?_, ?_, ?_, ?_⟩ <;> ((try simp only [wS, simprocAttr, accH_old, MX.row]); try exact rfl)) ?_
      rintro v a4 l4 ⟨rfl, hvn⟩ -
      simp only [wS, simprocAttr, MX.row]
      repeat' (first | with_reducible (first | refine v'1 fun _ _ => ?_ | refine v'2 ?_ | (first | refine v'3 ?_ | refine v'4 ?_ | refine v'5 fun _ _ _ _ => ?_ | refine v'6 (fun hg => ?_) (fun hg => ?_) <;> try simp only [hg]) <;> simp only [wS, simprocAttr] | (first | refine v's ?_ | refine v'e ?_ | refine v'r ?_) <;> try simp only [wE, simprocAttr] | refine v'8 ?_ | refine v'9 ?_))
      refine eg_finM rfl (by simp only [wS, simprocAttr]; try exact rfl) (by refine ⟨?_, ?_, ?_, ?_, ?_⟩ <;> ((try simp only [wS, simprocAttr, accH_old, MX.row]); try exact rfl)) ⟨_, rfl, hvn⟩
end Go.Proofs.YtijakngaipdncaaDoor
