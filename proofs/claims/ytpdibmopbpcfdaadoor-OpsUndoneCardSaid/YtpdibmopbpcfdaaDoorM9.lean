import Derived.Test.YtpdibmopbpcfdaaDoorM8
set_option linter.unusedVariables false
set_option linter.unusedSimpArgs false
namespace Go.Proofs.YtpdibmopbpcfdaaDoor
open Go.AM
set_option maxRecDepth 100000
set_option maxHeartbeats 4000000 in
theorem call_ok {D : Nat} {x : MX} (hx : x.ok) (kind depth : Int) (hd1 : -9223372036854775808 < depth) (hd2 : depth ≤ 9223372036854775807) (hE : ∀ kd : Int, MC x 74 [.int .i64 kd, .int .i64 (depth - 1)] (VN D)) : MC x 73 [.int .i64 kind, .int .i64 depth] (VN (D + 1)) := by
  obtain ⟨n, vP, bP, c3, hkv, hA3, hlen, hn1, hn3, hfun⟩ := funs_ok hx
  obtain ⟨L, pk, pn, pm, F, kv, con, A2, A3, A4, A5⟩ := x
  simp only at hkv hA3
  subst hkv hA3
  have hin := hx.2.2.ins
  have ed : IntKind.i64.wrap (depth - 1) = depth - 1 := wrap_small (by omega) (by omega)
  refine mc_of_body hx Tryd.func73 rfl (by kernel_rfl) (by simp [Tryd.ntmps73]) rfl fun at0 left => ?_
  simp only [Tryd.ntmps73, enterF, Nat.reduceAdd, MX.row]
  refine eg_seq_k fun K0 hK0 => ?_
  repeat' (first | refine v'1 fun _ _ => ?_ | refine v'2 ?_ | (first | refine v'3 ?_ | refine v'4 ?_ | refine v'5 fun _ _ _ _ => ?_ | (refine v'6 (fun hg => ?_) (fun hg => ?_) <;> try simp only [hg])) <;> simp only [wS, simprocAttr] | (refine v'7 ?_; try simp only [wE, simprocAttr]) | refine v'9 ?_)
  refine hK0.go ?_
  refine eg_seq_k fun K1 hK1 => ?_
  repeat' (first | refine v'1 fun _ _ => ?_ | refine v'2 ?_ | (first | refine v'3 ?_ | refine v'4 ?_ | refine v'5 fun _ _ _ _ => ?_ | (refine v'6 (fun hg => ?_) (fun hg => ?_) <;> try simp only [hg])) <;> simp only [wS, simprocAttr] | (refine v'7 ?_; try simp only [wE, simprocAttr]) | refine v'9 ?_)
  refine eg_mc (draw_ok hx n (by omega)) at0 left (by refine ⟨?_, ?_, ?_, ?_, ?_⟩ <;> (simp only [wS, simprocAttr, MX.row, Fn.row]; try exact rfl)) ?_
  rintro v at1 left1 ⟨z, rfl, hz1, hz2⟩ -
  obtain ⟨f, rfl⟩ : ∃ f : Nat, z = f := ⟨z.toNat, (Int.toNat_of_nonneg hz1).symm⟩
  simp only [wS, simprocAttr, MX.row]
  repeat' (first | refine v'1 fun _ _ => ?_ | refine v'2 ?_ | (first | refine v'3 ?_ | refine v'4 ?_ | refine v'5 fun _ _ _ _ => ?_ | (refine v'6 (fun hg => ?_) (fun hg => ?_) <;> try simp only [hg])) <;> simp only [wS, simprocAttr] | (refine v'7 ?_; try simp only [wE, simprocAttr]) | refine v'9 ?_)
  refine hK1.go ?_
  refine eg_seq_k fun K2 hK2 => ?_
  have key : ∀ (f : Nat) (a1 l1 : Int) (s : AS), f < n → Ref G0 78 6 s ⟨mkF [(0, .ptr 1 0 0), (1, .int .i64 kind), (2, .int .i64 depth), (6, .ptr 6 0 0), (7, .int .i64 f)], [.dead, .cells 0 [encI L, .int .i64 a1, .int .i64 l1, .int .i64 pk, .int .i64 pn, .int .i64 pm, .osl 3 vP 0 n 4 bP, .int .i64 F, .bool con], A2, .cells vP c3, A4, A5, .cells 0 [.int .i64 0, .int .i64 0, .int .i64 0, .sl true []]]⟩ → EG (fun i : AV × Int × Int => VN (D + 1) i.1 ∧ inR noRef i.1 = true) (fun i => K2 i s) := by
    intro f a1 l1 s hf hr
    refine hK2.go (eg_ref hr ?_)
    obtain ⟨r, fn, tl, hw, ha, hd⟩ := hfun f hf
    have hd1 : c3.drop (f * 4 + 1) = .int .i64 (fn.p : Nat) :: .int .i64 0 :: .osl r fn.v 0 (fn.q + 1) 4 fn.b :: tl := by rw [← List.drop_drop, hd]; rfl
    have hd3 : c3.drop (f * 4 + 3) = .osl r fn.v 0 (fn.q + 1) 4 fn.b :: tl := by rw [← List.drop_drop, hd]; rfl
    have hp := hw.2.1
    have hq := hw.2.2.1
    simp only [at245] at ha
    rcases ha with ⟨rfl, rfl⟩ | ⟨rfl, rfl⟩ | ⟨rfl, rfl⟩
    · repeat' (first | refine v'1 fun _ _ => ?_ | refine v'2 ?_ | (first | refine v'3 ?_ | refine v'4 ?_ | refine v'5 fun _ _ _ _ => ?_ | (refine v'6 (fun hg => ?_) (fun hg => ?_) <;> try simp only [hg])) <;> simp only [wS, simprocAttr] | (refine v'7 ?_; try simp only [wE, simprocAttr]) | refine v'8 ?_ | refine v'9 ?_)
      refine eg_loop_k (α := {p : List (List AV) × Int × Int // p.1.length ≤ fn.p ∧ ∀ e ∈ p.1, NodeV D e}) (fun p => [(0, .ptr 1 0 0), (1, .int .i64 kind), (2, .int .i64 depth), (6, .ptr 6 0 0), (7, .int .i64 f), (8, accV [] 7 4 p.1.1), (9, .int .i64 (p.1.1.length : Nat))]) (fun p => accH [.dead, .cells 0 [encI L, .int .i64 p.1.2.1, .int .i64 p.1.2.2, .int .i64 pk, .int .i64 pn, .int .i64 pm, .osl 3 vP 0 n 4 bP, .int .i64 F, .bool con], fn.row, .cells vP c3, A4, A5, .cells 0 [.int .i64 0, .int .i64 0, .int .i64 0, .sl true []]] [] p.1.1) (fun p => fn.p - p.1.1.length) ⟨([], a1, l1), by simp, by simp⟩ (Weak.ref ⟨?_, .inl ?_⟩) ?_
      · simp only [wS, simprocAttr, accV_nil]; try exact rfl
      · simp only [wS, simprocAttr, accH, if_true]; try exact rfl
      · rintro ⟨⟨app, a2, l2⟩, hl, hn⟩ K3 hK3
        simp only at hl hn
        repeat' (first | refine v'1 fun _ _ => ?_ | refine v'2 ?_ | (first | refine v'3 ?_ | refine v'4 ?_ | refine v'5 fun _ _ _ _ => ?_ | (refine v'6 (fun hg => ?_) (fun hg => ?_) <;> try simp only [hg])) <;> simp only [wS, simprocAttr, accH_old, hf, hd1] | (refine v'7 ?_; try simp only [wE, simprocAttr]) | refine v'8 ?_ | refine v'9 ?_)
        refine eg_split (fun h => ?_) (fun h => ?_)
        · have hlt : app.length < fn.p := by simpa using h
          have hq1 : app.length < fn.q + 1 := by omega
          obtain ⟨kd, nn, mm, b, es, tl2, _, hes1, hes2, hdk⟩ := fn_at hw (j := app.length) hq1
          repeat' (first | refine v'1 fun _ _ => ?_ | refine v'2 ?_ | (first | refine v'3 ?_ | refine v'4 ?_ | refine v'5 fun _ _ _ _ => ?_ | (refine v'6 (fun hg => ?_) (fun hg => ?_) <;> try simp only [hg])) <;> simp only [wS, simprocAttr, accH_old, hf, hd3, hq1, Fn.row, hdk, ed] | (refine v'7 ?_; try simp only [wE, simprocAttr]) | refine v'8 ?_ | refine v'9 ?_)
          refine eg_mc (hE kd) a2 l2 (by refine ⟨?_, ?_, ?_, ?_, ?_⟩ <;> (simp only [wS, simprocAttr, accH_old, MX.row, Fn.row]; try exact rfl)) ?_
          rintro v a3 l3 ⟨c, rfl, hc⟩ -
          have hc0 := hc
          cases hc with
          | mk k1 n1 m1 b1 es1 hes3 hes4 =>
          simp only [wS, simprocAttr, MX.row, accH_hset, accH_old, Fn.row]
          refine EG.mono (fun i h => eff_acc (H := [.dead, .cells 0 [encI L, .int .i64 a3, .int .i64 l3, .int .i64 pk, .int .i64 pn, .int .i64 pm, .osl 3 vP 0 n 4 bP, .int .i64 F, .bool con], fn.row, .cells vP c3, A4, A5, .cells 0 [.int .i64 0, .int .i64 0, .int .i64 0, .sl true []]]) (base := []) (app := app) (e := [.int .i64 k1, .int .i64 n1, .int .i64 m1, .sl b1 es1]) (by' := 48) (by kernel_rfl) rfl (upd_acc (by simp)) rfl (fun e he => (hn e (by simpa using he)).len) (by simp [srcA]) (by simp only [List.length_nil]; omega) h) ?_
          have e3 := wrap_succ (k := app.length) hlt (by omega)
          have hac := accH_snoc [.dead, .cells 0 [encI L, .int .i64 a3, .int .i64 l3, .int .i64 pk, .int .i64 pn, .int .i64 pm, .osl 3 vP 0 n 4 bP, .int .i64 F, .bool con], fn.row, .cells vP c3, A4, A5, .cells 0 [.int .i64 0, .int .i64 0, .int .i64 0, .sl true []]] [] app [.int .i64 k1, .int .i64 n1, .int .i64 m1, .sl b1 es1]
          simp only [List.length_cons, List.length_nil, Nat.reduceAdd, Fn.row] at hac
          simp only [wS, simprocAttr, Fn.row]
          repeat' (first | refine v'1 fun _ _ => ?_ | refine v'2 ?_ | (first | refine v'3 ?_ | refine v'4 ?_ | refine v'5 fun _ _ _ _ => ?_ | (refine v'6 (fun hg => ?_) (fun hg => ?_) <;> try simp only [hg])) <;> simp only [wS, simprocAttr, e3] | (refine v'7 ?_; try simp only [wE, simprocAttr]) | refine v'8 ?_ | refine v'9 ?_)
          refine hK3 _ ⟨(app ++ [[.int .i64 k1, .int .i64 n1, .int .i64 m1, .sl b1 es1]], a3, l3), by simp; omega, fun e he => by
            rcases List.mem_append.1 he with he | he
            · exact hn e he
            · rw [List.mem_singleton.1 he]; exact hc0⟩ (Weak.ref ⟨?_, .inl ?_⟩) (by simp; omega)
          · simp only [wS, simprocAttr, List.length_append, List.length_singleton]; try exact rfl
          · simp only [wS, simprocAttr, accH_hset, Fn.row, hac]; try exact rfl
        · have hal : app.length ≤ 6 := by omega
          repeat' (first | refine v'1 fun _ _ => ?_ | refine v'2 ?_ | (first | refine v'3 ?_ | refine v'4 ?_ | refine v'5 fun _ _ _ _ => ?_ | (refine v'6 (fun hg => ?_) (fun hg => ?_) <;> try simp only [hg])) <;> simp only [wS, simprocAttr] | (refine v'7 ?_; try simp only [wE, simprocAttr]) | refine v'9 ?_)
          refine ContE.go (by assumption) (eg_ref (ref_acc (H := [.dead, .cells 0 [encI L, .int .i64 a2, .int .i64 l2, .int .i64 pk, .int .i64 pn, .int .i64 pm, .osl 3 vP 0 n 4 bP, .int .i64 F, .bool con], fn.row, .cells vP c3, A4, A5, .cells 0 [.int .i64 0, .int .i64 0, .int .i64 0, .sl true []]]) (sz := 4) (t := 8) (app := app) [(0, .ptr 1 0 0), (1, .int .i64 kind), (6, .ptr 6 0 0), (7, .int .i64 f)] (by simp) ?_ ?_ (fun e he => (hn e he).len) (nodes_tree hn) ?_ (by simp [inR]) (heap_in hx a2 l2 [.cells 0 [.int .i64 0, .int .i64 0, .int .i64 0, .sl true []]] 7 (by decide) rfl)) ?_)
          · simp only [wS, simprocAttr]; try exact rfl
          · simp only [wS, simprocAttr]; try exact rfl
          · simp only [wS, simprocAttr]; try exact rfl
          repeat' (first | refine v'1 fun _ _ => ?_ | refine v'2 ?_ | (first | refine v'3 ?_ | refine v'4 ?_ | refine v'5 fun _ _ _ _ => ?_ | (refine v'6 (fun hg => ?_) (fun hg => ?_) <;> try simp only [hg])) <;> simp only [wS, simprocAttr, Fn.row] | (refine v'7 ?_; try simp only [wE, simprocAttr]) | refine v'8 ?_ | refine v'9 ?_)
          refine eg_mc (node_ok hx _ _ _ _ hal hn) a2 l2 (by refine ⟨?_, ?_, ?_, ?_, ?_⟩ <;> (simp only [wS, simprocAttr, MX.row, Fn.row]; try exact rfl)) ?_
          rintro v a4 l4 ⟨rfl, hvn⟩ -
          simp only [wS, simprocAttr, MX.row]
          repeat' (first | refine v'1 fun _ _ => ?_ | refine v'2 ?_ | (first | refine v'3 ?_ | refine v'4 ?_ | refine v'5 fun _ _ _ _ => ?_ | (refine v'6 (fun hg => ?_) (fun hg => ?_) <;> try simp only [hg])) <;> simp only [wS, simprocAttr] | (refine v'7 ?_; try simp only [wE, simprocAttr]) | refine v'8 ?_ | refine v'9 ?_)
          refine eg_retC (v := ?rv0) rfl ?hl0 ?_
          case hl0 => simp only [wS, simprocAttr]; exact rfl
          refine EG.of (?v_0, ?a_0, ?l_0) ⟨?hV_0, ?hi_0⟩ ⟨?hv_0, ?g1_0, ?g2_0, ?g3_0, ?g4_0, ?g5_0⟩
          case hv_0 => simp only [wS, simprocAttr, Fn.row]; exact rfl
          case g1_0 => simp only [wS, simprocAttr, Fn.row]; exact rfl
          case g2_0 => simp only [wS, simprocAttr, Fn.row]; try exact rfl
          case g3_0 => simp only [wS, simprocAttr, Fn.row]; try exact rfl
          case g4_0 => simp only [wS, simprocAttr, Fn.row]; try exact rfl
          case g5_0 => simp only [wS, simprocAttr, Fn.row]; try exact rfl
          case hV_0 => exact VN.up (hvn) (by omega)
          case hi_0 => exact hvn.tree
    · repeat' (first | refine v'1 fun _ _ => ?_ | refine v'2 ?_ | (first | refine v'3 ?_ | refine v'4 ?_ | refine v'5 fun _ _ _ _ => ?_ | (refine v'6 (fun hg => ?_) (fun hg => ?_) <;> try simp only [hg])) <;> simp only [wS, simprocAttr] | (refine v'7 ?_; try simp only [wE, simprocAttr]) | refine v'8 ?_ | refine v'9 ?_)
      refine eg_loop_k (α := {p : List (List AV) × Int × Int // p.1.length ≤ fn.p ∧ ∀ e ∈ p.1, NodeV D e}) (fun p => [(0, .ptr 1 0 0), (1, .int .i64 kind), (2, .int .i64 depth), (6, .ptr 6 0 0), (7, .int .i64 f), (8, accV [] 7 4 p.1.1), (9, .int .i64 (p.1.1.length : Nat))]) (fun p => accH [.dead, .cells 0 [encI L, .int .i64 p.1.2.1, .int .i64 p.1.2.2, .int .i64 pk, .int .i64 pn, .int .i64 pm, .osl 3 vP 0 n 4 bP, .int .i64 F, .bool con], A2, .cells vP c3, fn.row, A5, .cells 0 [.int .i64 0, .int .i64 0, .int .i64 0, .sl true []]] [] p.1.1) (fun p => fn.p - p.1.1.length) ⟨([], a1, l1), by simp, by simp⟩ (Weak.ref ⟨?_, .inl ?_⟩) ?_
      · simp only [wS, simprocAttr, accV_nil]; try exact rfl
      · simp only [wS, simprocAttr, accH, if_true]; try exact rfl
      · rintro ⟨⟨app, a2, l2⟩, hl, hn⟩ K3 hK3
        simp only at hl hn
        repeat' (first | refine v'1 fun _ _ => ?_ | refine v'2 ?_ | (first | refine v'3 ?_ | refine v'4 ?_ | refine v'5 fun _ _ _ _ => ?_ | (refine v'6 (fun hg => ?_) (fun hg => ?_) <;> try simp only [hg])) <;> simp only [wS, simprocAttr, accH_old, hf, hd1] | (refine v'7 ?_; try simp only [wE, simprocAttr]) | refine v'8 ?_ | refine v'9 ?_)
        refine eg_split (fun h => ?_) (fun h => ?_)
        · have hlt : app.length < fn.p := by simpa using h
          have hq1 : app.length < fn.q + 1 := by omega
          obtain ⟨kd, nn, mm, b, es, tl2, _, hes1, hes2, hdk⟩ := fn_at hw (j := app.length) hq1
          repeat' (first | refine v'1 fun _ _ => ?_ | refine v'2 ?_ | (first | refine v'3 ?_ | refine v'4 ?_ | refine v'5 fun _ _ _ _ => ?_ | (refine v'6 (fun hg => ?_) (fun hg => ?_) <;> try simp only [hg])) <;> simp only [wS, simprocAttr, accH_old, hf, hd3, hq1, Fn.row, hdk, ed] | (refine v'7 ?_; try simp only [wE, simprocAttr]) | refine v'8 ?_ | refine v'9 ?_)
          refine eg_mc (hE kd) a2 l2 (by refine ⟨?_, ?_, ?_, ?_, ?_⟩ <;> (simp only [wS, simprocAttr, accH_old, MX.row, Fn.row]; try exact rfl)) ?_
          rintro v a3 l3 ⟨c, rfl, hc⟩ -
          have hc0 := hc
          cases hc with
          | mk k1 n1 m1 b1 es1 hes3 hes4 =>
          simp only [wS, simprocAttr, MX.row, accH_hset, accH_old, Fn.row]
          refine EG.mono (fun i h => eff_acc (H := [.dead, .cells 0 [encI L, .int .i64 a3, .int .i64 l3, .int .i64 pk, .int .i64 pn, .int .i64 pm, .osl 3 vP 0 n 4 bP, .int .i64 F, .bool con], A2, .cells vP c3, fn.row, A5, .cells 0 [.int .i64 0, .int .i64 0, .int .i64 0, .sl true []]]) (base := []) (app := app) (e := [.int .i64 k1, .int .i64 n1, .int .i64 m1, .sl b1 es1]) (by' := 48) (by kernel_rfl) rfl (upd_acc (by simp)) rfl (fun e he => (hn e (by simpa using he)).len) (by simp [srcA]) (by simp only [List.length_nil]; omega) h) ?_
          have e3 := wrap_succ (k := app.length) hlt (by omega)
          have hac := accH_snoc [.dead, .cells 0 [encI L, .int .i64 a3, .int .i64 l3, .int .i64 pk, .int .i64 pn, .int .i64 pm, .osl 3 vP 0 n 4 bP, .int .i64 F, .bool con], A2, .cells vP c3, fn.row, A5, .cells 0 [.int .i64 0, .int .i64 0, .int .i64 0, .sl true []]] [] app [.int .i64 k1, .int .i64 n1, .int .i64 m1, .sl b1 es1]
          simp only [List.length_cons, List.length_nil, Nat.reduceAdd, Fn.row] at hac
          simp only [wS, simprocAttr, Fn.row]
          repeat' (first | refine v'1 fun _ _ => ?_ | refine v'2 ?_ | (first | refine v'3 ?_ | refine v'4 ?_ | refine v'5 fun _ _ _ _ => ?_ | (refine v'6 (fun hg => ?_) (fun hg => ?_) <;> try simp only [hg])) <;> simp only [wS, simprocAttr, e3] | (refine v'7 ?_; try simp only [wE, simprocAttr]) | refine v'8 ?_ | refine v'9 ?_)
          refine hK3 _ ⟨(app ++ [[.int .i64 k1, .int .i64 n1, .int .i64 m1, .sl b1 es1]], a3, l3), by simp; omega, fun e he => by
            rcases List.mem_append.1 he with he | he
            · exact hn e he
            · rw [List.mem_singleton.1 he]; exact hc0⟩ (Weak.ref ⟨?_, .inl ?_⟩) (by simp; omega)
          · simp only [wS, simprocAttr, List.length_append, List.length_singleton]; try exact rfl
          · simp only [wS, simprocAttr, accH_hset, Fn.row, hac]; try exact rfl
        · have hal : app.length ≤ 6 := by omega
          repeat' (first | refine v'1 fun _ _ => ?_ | refine v'2 ?_ | (first | refine v'3 ?_ | refine v'4 ?_ | refine v'5 fun _ _ _ _ => ?_ | (refine v'6 (fun hg => ?_) (fun hg => ?_) <;> try simp only [hg])) <;> simp only [wS, simprocAttr] | (refine v'7 ?_; try simp only [wE, simprocAttr]) | refine v'9 ?_)
          refine ContE.go (by assumption) (eg_ref (ref_acc (H := [.dead, .cells 0 [encI L, .int .i64 a2, .int .i64 l2, .int .i64 pk, .int .i64 pn, .int .i64 pm, .osl 3 vP 0 n 4 bP, .int .i64 F, .bool con], A2, .cells vP c3, fn.row, A5, .cells 0 [.int .i64 0, .int .i64 0, .int .i64 0, .sl true []]]) (sz := 4) (t := 8) (app := app) [(0, .ptr 1 0 0), (1, .int .i64 kind), (6, .ptr 6 0 0), (7, .int .i64 f)] (by simp) ?_ ?_ (fun e he => (hn e he).len) (nodes_tree hn) ?_ (by simp [inR]) (heap_in hx a2 l2 [.cells 0 [.int .i64 0, .int .i64 0, .int .i64 0, .sl true []]] 7 (by decide) rfl)) ?_)
          · simp only [wS, simprocAttr]; try exact rfl
          · simp only [wS, simprocAttr]; try exact rfl
          · simp only [wS, simprocAttr]; try exact rfl
          repeat' (first | refine v'1 fun _ _ => ?_ | refine v'2 ?_ | (first | refine v'3 ?_ | refine v'4 ?_ | refine v'5 fun _ _ _ _ => ?_ | (refine v'6 (fun hg => ?_) (fun hg => ?_) <;> try simp only [hg])) <;> simp only [wS, simprocAttr, Fn.row] | (refine v'7 ?_; try simp only [wE, simprocAttr]) | refine v'8 ?_ | refine v'9 ?_)
          refine eg_mc (node_ok hx _ _ _ _ hal hn) a2 l2 (by refine ⟨?_, ?_, ?_, ?_, ?_⟩ <;> (simp only [wS, simprocAttr, MX.row, Fn.row]; try exact rfl)) ?_
          rintro v a4 l4 ⟨rfl, hvn⟩ -
          simp only [wS, simprocAttr, MX.row]
          repeat' (first | refine v'1 fun _ _ => ?_ | refine v'2 ?_ | (first | refine v'3 ?_ | refine v'4 ?_ | refine v'5 fun _ _ _ _ => ?_ | (refine v'6 (fun hg => ?_) (fun hg => ?_) <;> try simp only [hg])) <;> simp only [wS, simprocAttr] | (refine v'7 ?_; try simp only [wE, simprocAttr]) | refine v'8 ?_ | refine v'9 ?_)
          refine eg_retC (v := ?rv1) rfl ?hl1 ?_
          case hl1 => simp only [wS, simprocAttr]; exact rfl
          refine EG.of (?v_1, ?a_1, ?l_1) ⟨?hV_1, ?hi_1⟩ ⟨?hv_1, ?g1_1, ?g2_1, ?g3_1, ?g4_1, ?g5_1⟩
          case hv_1 => simp only [wS, simprocAttr, Fn.row]; exact rfl
          case g1_1 => simp only [wS, simprocAttr, Fn.row]; exact rfl
          case g2_1 => simp only [wS, simprocAttr, Fn.row]; try exact rfl
          case g3_1 => simp only [wS, simprocAttr, Fn.row]; try exact rfl
          case g4_1 => simp only [wS, simprocAttr, Fn.row]; try exact rfl
          case g5_1 => simp only [wS, simprocAttr, Fn.row]; try exact rfl
          case hV_1 => exact VN.up (hvn) (by omega)
          case hi_1 => exact hvn.tree
    · repeat' (first | refine v'1 fun _ _ => ?_ | refine v'2 ?_ | (first | refine v'3 ?_ | refine v'4 ?_ | refine v'5 fun _ _ _ _ => ?_ | (refine v'6 (fun hg => ?_) (fun hg => ?_) <;> try simp only [hg])) <;> simp only [wS, simprocAttr] | (refine v'7 ?_; try simp only [wE, simprocAttr]) | refine v'8 ?_ | refine v'9 ?_)
      refine eg_loop_k (α := {p : List (List AV) × Int × Int // p.1.length ≤ fn.p ∧ ∀ e ∈ p.1, NodeV D e}) (fun p => [(0, .ptr 1 0 0), (1, .int .i64 kind), (2, .int .i64 depth), (6, .ptr 6 0 0), (7, .int .i64 f), (8, accV [] 7 4 p.1.1), (9, .int .i64 (p.1.1.length : Nat))]) (fun p => accH [.dead, .cells 0 [encI L, .int .i64 p.1.2.1, .int .i64 p.1.2.2, .int .i64 pk, .int .i64 pn, .int .i64 pm, .osl 3 vP 0 n 4 bP, .int .i64 F, .bool con], A2, .cells vP c3, A4, fn.row, .cells 0 [.int .i64 0, .int .i64 0, .int .i64 0, .sl true []]] [] p.1.1) (fun p => fn.p - p.1.1.length) ⟨([], a1, l1), by simp, by simp⟩ (Weak.ref ⟨?_, .inl ?_⟩) ?_
      · simp only [wS, simprocAttr, accV_nil]; try exact rfl
      · simp only [wS, simprocAttr, accH, if_true]; try exact rfl
      · rintro ⟨⟨app, a2, l2⟩, hl, hn⟩ K3 hK3
        simp only at hl hn
        repeat' (first | refine v'1 fun _ _ => ?_ | refine v'2 ?_ | (first | refine v'3 ?_ | refine v'4 ?_ | refine v'5 fun _ _ _ _ => ?_ | (refine v'6 (fun hg => ?_) (fun hg => ?_) <;> try simp only [hg])) <;> simp only [wS, simprocAttr, accH_old, hf, hd1] | (refine v'7 ?_; try simp only [wE, simprocAttr]) | refine v'8 ?_ | refine v'9 ?_)
        refine eg_split (fun h => ?_) (fun h => ?_)
        · have hlt : app.length < fn.p := by simpa using h
          have hq1 : app.length < fn.q + 1 := by omega
          obtain ⟨kd, nn, mm, b, es, tl2, _, hes1, hes2, hdk⟩ := fn_at hw (j := app.length) hq1
          repeat' (first | refine v'1 fun _ _ => ?_ | refine v'2 ?_ | (first | refine v'3 ?_ | refine v'4 ?_ | refine v'5 fun _ _ _ _ => ?_ | (refine v'6 (fun hg => ?_) (fun hg => ?_) <;> try simp only [hg])) <;> simp only [wS, simprocAttr, accH_old, hf, hd3, hq1, Fn.row, hdk, ed] | (refine v'7 ?_; try simp only [wE, simprocAttr]) | refine v'8 ?_ | refine v'9 ?_)
          refine eg_mc (hE kd) a2 l2 (by refine ⟨?_, ?_, ?_, ?_, ?_⟩ <;> (simp only [wS, simprocAttr, accH_old, MX.row, Fn.row]; try exact rfl)) ?_
          rintro v a3 l3 ⟨c, rfl, hc⟩ -
          have hc0 := hc
          cases hc with
          | mk k1 n1 m1 b1 es1 hes3 hes4 =>
          simp only [wS, simprocAttr, MX.row, accH_hset, accH_old, Fn.row]
          refine EG.mono (fun i h => eff_acc (H := [.dead, .cells 0 [encI L, .int .i64 a3, .int .i64 l3, .int .i64 pk, .int .i64 pn, .int .i64 pm, .osl 3 vP 0 n 4 bP, .int .i64 F, .bool con], A2, .cells vP c3, A4, fn.row, .cells 0 [.int .i64 0, .int .i64 0, .int .i64 0, .sl true []]]) (base := []) (app := app) (e := [.int .i64 k1, .int .i64 n1, .int .i64 m1, .sl b1 es1]) (by' := 48) (by kernel_rfl) rfl (upd_acc (by simp)) rfl (fun e he => (hn e (by simpa using he)).len) (by simp [srcA]) (by simp only [List.length_nil]; omega) h) ?_
          have e3 := wrap_succ (k := app.length) hlt (by omega)
          have hac := accH_snoc [.dead, .cells 0 [encI L, .int .i64 a3, .int .i64 l3, .int .i64 pk, .int .i64 pn, .int .i64 pm, .osl 3 vP 0 n 4 bP, .int .i64 F, .bool con], A2, .cells vP c3, A4, fn.row, .cells 0 [.int .i64 0, .int .i64 0, .int .i64 0, .sl true []]] [] app [.int .i64 k1, .int .i64 n1, .int .i64 m1, .sl b1 es1]
          simp only [List.length_cons, List.length_nil, Nat.reduceAdd, Fn.row] at hac
          simp only [wS, simprocAttr, Fn.row]
          repeat' (first | refine v'1 fun _ _ => ?_ | refine v'2 ?_ | (first | refine v'3 ?_ | refine v'4 ?_ | refine v'5 fun _ _ _ _ => ?_ | (refine v'6 (fun hg => ?_) (fun hg => ?_) <;> try simp only [hg])) <;> simp only [wS, simprocAttr, e3] | (refine v'7 ?_; try simp only [wE, simprocAttr]) | refine v'8 ?_ | refine v'9 ?_)
          refine hK3 _ ⟨(app ++ [[.int .i64 k1, .int .i64 n1, .int .i64 m1, .sl b1 es1]], a3, l3), by simp; omega, fun e he => by
            rcases List.mem_append.1 he with he | he
            · exact hn e he
            · rw [List.mem_singleton.1 he]; exact hc0⟩ (Weak.ref ⟨?_, .inl ?_⟩) (by simp; omega)
          · simp only [wS, simprocAttr, List.length_append, List.length_singleton]; try exact rfl
          · simp only [wS, simprocAttr, accH_hset, Fn.row, hac]; try exact rfl
        · have hal : app.length ≤ 6 := by omega
          repeat' (first | refine v'1 fun _ _ => ?_ | refine v'2 ?_ | (first | refine v'3 ?_ | refine v'4 ?_ | refine v'5 fun _ _ _ _ => ?_ | (refine v'6 (fun hg => ?_) (fun hg => ?_) <;> try simp only [hg])) <;> simp only [wS, simprocAttr] | (refine v'7 ?_; try simp only [wE, simprocAttr]) | refine v'9 ?_)
          refine ContE.go (by assumption) (eg_ref (ref_acc (H := [.dead, .cells 0 [encI L, .int .i64 a2, .int .i64 l2, .int .i64 pk, .int .i64 pn, .int .i64 pm, .osl 3 vP 0 n 4 bP, .int .i64 F, .bool con], A2, .cells vP c3, A4, fn.row, .cells 0 [.int .i64 0, .int .i64 0, .int .i64 0, .sl true []]]) (sz := 4) (t := 8) (app := app) [(0, .ptr 1 0 0), (1, .int .i64 kind), (6, .ptr 6 0 0), (7, .int .i64 f)] (by simp) ?_ ?_ (fun e he => (hn e he).len) (nodes_tree hn) ?_ (by simp [inR]) (heap_in hx a2 l2 [.cells 0 [.int .i64 0, .int .i64 0, .int .i64 0, .sl true []]] 7 (by decide) rfl)) ?_)
          · simp only [wS, simprocAttr]; try exact rfl
          · simp only [wS, simprocAttr]; try exact rfl
          · simp only [wS, simprocAttr]; try exact rfl
          repeat' (first | refine v'1 fun _ _ => ?_ | refine v'2 ?_ | (first | refine v'3 ?_ | refine v'4 ?_ | refine v'5 fun _ _ _ _ => ?_ | (refine v'6 (fun hg => ?_) (fun hg => ?_) <;> try simp only [hg])) <;> simp only [wS, simprocAttr, Fn.row] | (refine v'7 ?_; try simp only [wE, simprocAttr]) | refine v'8 ?_ | refine v'9 ?_)
          refine eg_mc (node_ok hx _ _ _ _ hal hn) a2 l2 (by refine ⟨?_, ?_, ?_, ?_, ?_⟩ <;> (simp only [wS, simprocAttr, MX.row, Fn.row]; try exact rfl)) ?_
          rintro v a4 l4 ⟨rfl, hvn⟩ -
          simp only [wS, simprocAttr, MX.row]
          repeat' (first | refine v'1 fun _ _ => ?_ | refine v'2 ?_ | (first | refine v'3 ?_ | refine v'4 ?_ | refine v'5 fun _ _ _ _ => ?_ | (refine v'6 (fun hg => ?_) (fun hg => ?_) <;> try simp only [hg])) <;> simp only [wS, simprocAttr] | (refine v'7 ?_; try simp only [wE, simprocAttr]) | refine v'8 ?_ | refine v'9 ?_)
          refine eg_retC (v := ?rv2) rfl ?hl2 ?_
          case hl2 => simp only [wS, simprocAttr]; exact rfl
          refine EG.of (?v_2, ?a_2, ?l_2) ⟨?hV_2, ?hi_2⟩ ⟨?hv_2, ?g1_2, ?g2_2, ?g3_2, ?g4_2, ?g5_2⟩
          case hv_2 => simp only [wS, simprocAttr, Fn.row]; exact rfl
          case g1_2 => simp only [wS, simprocAttr, Fn.row]; exact rfl
          case g2_2 => simp only [wS, simprocAttr, Fn.row]; try exact rfl
          case g3_2 => simp only [wS, simprocAttr, Fn.row]; try exact rfl
          case g4_2 => simp only [wS, simprocAttr, Fn.row]; try exact rfl
          case g5_2 => simp only [wS, simprocAttr, Fn.row]; try exact rfl
          case hV_2 => exact VN.up (hvn) (by omega)
          case hi_2 => exact hvn.tree
  clear hK2
  repeat' (first | refine v'1 fun _ _ => ?_ | refine v'2 ?_ | (first | refine v'3 ?_ | refine v'4 ?_ | refine v'5 fun _ _ _ _ => ?_ | (refine v'6 (fun hg => ?_) (fun hg => ?_) <;> try simp only [hg])) <;> simp only [wS, simprocAttr] | (refine v'7 ?_; try simp only [wE, simprocAttr]) | refine v'8 ?_ | refine v'9 ?_)
  · have hn1' : 1 < n := by simp at hg; omega
    refine eg_mc (draw_ok hx 8 (by decide)) at1 left1 (by refine ⟨?_, ?_, ?_, ?_, ?_⟩ <;> (simp only [wS, simprocAttr, MX.row, Fn.row]; try exact rfl)) ?_
    rintro v at2 left2 ⟨y, rfl, hy1, hy2⟩ -
    have en : IntKind.i64.wrap ((n : Int) - 1) = (n : Int) - 1 := wrap_small (by omega) (by omega)
    simp only [wS, simprocAttr, MX.row]
    repeat' (first | refine v'1 fun _ _ => ?_ | refine v'2 ?_ | (first | refine v'3 ?_ | refine v'4 ?_ | refine v'5 fun _ _ _ _ => ?_ | (refine v'6 (fun hg => ?_) (fun hg => ?_) <;> try simp only [hg])) <;> simp only [wS, simprocAttr, en] | (refine v'7 ?_; try simp only [wE, simprocAttr]) | refine v'8 ?_ | refine v'9 ?_)
    refine eg_split (fun h => ?_) (fun h => ?_)
    · repeat' (first | refine v'1 fun _ _ => ?_ | refine v'2 ?_ | (first | refine v'3 ?_ | refine v'4 ?_ | refine v'5 fun _ _ _ _ => ?_ | (refine v'6 (fun hg => ?_) (fun hg => ?_) <;> try simp only [hg])) <;> simp only [wS, simprocAttr, en] | (refine v'7 ?_; try simp only [wE, simprocAttr]) | refine v'8 ?_ | refine v'9 ?_)
      refine eg_mc (draw_ok hx ((n : Int) - 1) (by omega)) at2 left2 (by refine ⟨?_, ?_, ?_, ?_, ?_⟩ <;> (simp only [wS, simprocAttr, MX.row, Fn.row]; try exact rfl)) ?_
      rintro v at3 left3 ⟨w, rfl, hw1, hw2⟩ -
      obtain ⟨f2, hf2⟩ : ∃ f2 : Nat, 1 + w = f2 := ⟨(1 + w).toNat, (Int.toNat_of_nonneg (by omega)).symm⟩
      have ew : IntKind.i64.wrap (f2 : Int) = f2 := wrap_small (by omega) (by omega)
      simp only [wS, simprocAttr, MX.row, ew, hf2]
      repeat' (first | refine v'1 fun _ _ => ?_ | refine v'2 ?_ | (first | refine v'3 ?_ | refine v'4 ?_ | refine v'5 fun _ _ _ _ => ?_ | (refine v'6 (fun hg => ?_) (fun hg => ?_) <;> try simp only [hg])) <;> simp only [wS, simprocAttr, MX.row] | (refine v'7 ?_; try simp only [wE, simprocAttr]) | refine v'8 ?_ | refine v'9 ?_)
      refine key f2 at3 left3 _ (by omega) (Weak.ref ⟨?_, .inl ?_⟩)
      · simp only [wS, simprocAttr]; try exact rfl
      · simp only [wS, simprocAttr]; try exact rfl
    · repeat' (first | refine v'1 fun _ _ => ?_ | refine v'2 ?_ | (first | refine v'3 ?_ | refine v'4 ?_ | refine v'5 fun _ _ _ _ => ?_ | (refine v'6 (fun hg => ?_) (fun hg => ?_) <;> try simp only [hg])) <;> simp only [wS, simprocAttr] | (refine v'7 ?_; try simp only [wE, simprocAttr]) | refine v'8 ?_ | refine v'9 ?_)
      refine key f at2 left2 _ (by omega) (Weak.ref ⟨?_, .inl ?_⟩)
      · simp only [wS, simprocAttr]; try exact rfl
      · simp only [wS, simprocAttr]; try exact rfl
  · refine key f at1 left1 _ (by omega) (Weak.ref ⟨?_, .inl ?_⟩)
    · simp only [wS, simprocAttr]; try exact rfl
    · simp only [wS, simprocAttr]; try exact rfl
end Go.Proofs.YtpdibmopbpcfdaaDoor
