import Derived.Test.YtpdibmopbpcfdaaDoorM10
set_option linter.unusedVariables false
set_option linter.unusedSimpArgs false
namespace Go.Proofs.YtpdibmopbpcfdaaDoor
open Go.AM
set_option maxRecDepth 100000
theorem expr_ok {x : MX} (hx : x.ok) : ∀ (d : Nat) (kind depth : Int), depth ≤ d → -9223372036854775806 < depth → depth ≤ 9223372036854775807 → MC x 74 [.int .i64 kind, .int .i64 depth] (VN (d + 1))
  | 0, kind, depth, h, h1, h2 => expr_step hx kind depth h1 h2 fun h3 => by omega
  | d + 1, kind, depth, h, h1, h2 => expr_step hx kind depth h1 h2 fun h3 kd dd hdd => expr_ok hx d kd dd (by omega) (by omega) (by omega)
set_option maxHeartbeats 4000000 in
theorem block_step {D : Nat} {x : MX} (hx : x.ok) (depth most : Int) (hm1 : 0 < most) (hm2 : most ≤ 6) (hS : MC x 62 [.int .i64 depth] (VN D)) : MC x 48 [.int .i64 depth, .int .i64 most] (VN (D + 1)) := by
  refine mc_of_body hx Tryd.func48 rfl (by kernel_rfl) (by simp [Tryd.ntmps48]) rfl fun at0 left => ?_
  simp only [Tryd.ntmps48, enterF, Nat.reduceAdd, MX.row]
  repeat' (first | refine v'1 fun _ _ => ?_ | refine v'2 ?_ | (first | refine v'3 ?_ | refine v'4 ?_ | refine v'5 fun _ _ _ _ => ?_ | (refine v'6 (fun hg => ?_) (fun hg => ?_) <;> try simp only [hg])) <;> simp only [wS, simprocAttr] | (refine v'7 ?_; try simp only [wE, simprocAttr]) | refine v'8 ?_ | refine v'9 ?_)
  refine eg_mc (draw_ok hx most hm1) at0 left (by refine ⟨?_, ?_, ?_, ?_, ?_⟩ <;> (simp only [wS, simprocAttr, accH_old, MX.row]; try exact rfl)) ?_
  rintro v at1 left1 ⟨z, rfl, hz1, hz2⟩ -
  simp only [wS, simprocAttr, MX.row]
  have ez : IntKind.i64.wrap (1 + z) = 1 + z := wrap_small (by omega) (by omega)
  obtain ⟨nn, hnn⟩ : ∃ nn : Nat, 1 + z = nn := ⟨(1 + z).toNat, (Int.toNat_of_nonneg (by omega)).symm⟩
  have ez' : IntKind.i64.wrap (nn : Int) = nn := wrap_small (by omega) (by omega)
  simp only [wS, simprocAttr, hnn, ez']
  repeat' (first | refine v'1 fun _ _ => ?_ | refine v'2 ?_ | (first | refine v'3 ?_ | refine v'4 ?_ | refine v'5 fun _ _ _ _ => ?_ | (refine v'6 (fun hg => ?_) (fun hg => ?_) <;> try simp only [hg])) <;> simp only [wS, simprocAttr, MX.row, hnn, ez'] | (refine v'7 ?_; try simp only [wE, simprocAttr]) | refine v'8 ?_ | refine v'9 ?_)
  rename_i Ka hKa Kb hKb
  replace hKa := And.intro trivial hKa
  refine eg_loop_k (α := {p : List (List AV) × Int × Int // p.1.length ≤ nn ∧ ∀ e ∈ p.1, NodeV D e}) (fun p => [(0, .ptr 1 0 0), (1, .int .i64 depth), (6, .ptr 6 0 0), (7, accV [] 7 4 p.1.1), (8, .int .i64 nn), (9, .int .i64 (p.1.1.length : Nat))]) (fun p => accH [.dead, x.row p.1.2.1 p.1.2.2, x.A2, x.A3, x.A4, x.A5, .cells 0 [.int .i64 0, .int .i64 0, .int .i64 0, .sl true []]] [] p.1.1) (fun p => nn - p.1.1.length) ⟨([], at1, left1), by simp, by simp⟩ (Weak.ref ⟨?_, .inl ?_⟩) ?_
  · simp only [wS, simprocAttr, accV_nil]; try exact rfl
  · simp only [wS, simprocAttr, accH, if_true]; try exact rfl
  · rintro ⟨⟨app, a2, l2⟩, hl, hn⟩ K3 hK3
    simp only at hl hn
    repeat' (first | refine v'1 fun _ _ => ?_ | refine v'2 ?_ | (first | refine v'3 ?_ | refine v'4 ?_ | refine v'5 fun _ _ _ _ => ?_ | (refine v'6 (fun hg => ?_) (fun hg => ?_) <;> try simp only [hg])) <;> simp only [wS, simprocAttr, accH_old, MX.row] | (refine v'7 ?_; try simp only [wE, simprocAttr]) | refine v'8 ?_ | refine v'9 ?_)
    · have hlt : app.length < nn := by simpa using hg
      refine eg_split (fun h => ?_) (fun h => ?_)
      · repeat' (first | refine v'1 fun _ _ => ?_ | refine v'2 ?_ | (first | refine v'3 ?_ | refine v'4 ?_ | refine v'5 fun _ _ _ _ => ?_ | (refine v'6 (fun hg => ?_) (fun hg => ?_) <;> try simp only [hg])) <;> simp only [wS, simprocAttr, accH_old, MX.row] | (refine v'7 ?_; try simp only [wE, simprocAttr]) | refine v'8 ?_ | refine v'9 ?_)
        refine eg_mc hS a2 l2 (by refine ⟨?_, ?_, ?_, ?_, ?_⟩ <;> (simp only [wS, simprocAttr, accH_old, MX.row]; try exact rfl)) ?_
        rintro v a3 l3 ⟨c, rfl, hc⟩ -
        have hc0 := hc
        cases hc with
        | mk k1 n1 m1 b1 es1 hes3 hes4 =>
        simp only [wS, simprocAttr, MX.row, accH_hset, accH_old]
        refine EG.mono (fun i h => eff_acc (H := [.dead, x.row a3 l3, x.A2, x.A3, x.A4, x.A5, .cells 0 [.int .i64 0, .int .i64 0, .int .i64 0, .sl true []]]) (base := []) (app := app) (e := [.int .i64 k1, .int .i64 n1, .int .i64 m1, .sl b1 es1]) (by' := 48) (by kernel_rfl) rfl (upd_acc (by simp)) rfl (fun e he => (hn e (by simpa using he)).len) (by simp [srcA]) (by simp only [List.length_nil]; omega) h) ?_
        have e3 := wrap_succ (k := app.length) hlt (by omega)
        have hac := accH_snoc [.dead, x.row a3 l3, x.A2, x.A3, x.A4, x.A5, .cells 0 [.int .i64 0, .int .i64 0, .int .i64 0, .sl true []]] [] app [.int .i64 k1, .int .i64 n1, .int .i64 m1, .sl b1 es1]
        simp only [List.length_cons, List.length_nil, Nat.reduceAdd, MX.row] at hac
        simp only [wS, simprocAttr, MX.row]
        repeat' (first | refine v'1 fun _ _ => ?_ | refine v'2 ?_ | (first | refine v'3 ?_ | refine v'4 ?_ | refine v'5 fun _ _ _ _ => ?_ | (refine v'6 (fun hg => ?_) (fun hg => ?_) <;> try simp only [hg])) <;> simp only [wS, simprocAttr, e3] | (refine v'7 ?_; try simp only [wE, simprocAttr]) | refine v'8 ?_ | refine v'9 ?_)
        refine hK3 _ ⟨(app ++ [[.int .i64 k1, .int .i64 n1, .int .i64 m1, .sl b1 es1]], a3, l3), by simp; omega, fun e he => by
          rcases List.mem_append.1 he with he | he
          · exact hn e he
          · rw [List.mem_singleton.1 he]; exact hc0⟩ (Weak.ref ⟨?_, .inl ?_⟩) (by simp; omega)
        · simp only [wS, simprocAttr, List.length_append, List.length_singleton]; try exact rfl
        · simp only [wS, simprocAttr, accH_hset, MX.row, hac]; try exact rfl
      · have hal : app.length ≤ 6 := by omega
        repeat' (first | refine v'1 fun _ _ => ?_ | refine v'2 ?_ | (first | refine v'3 ?_ | refine v'4 ?_ | refine v'5 fun _ _ _ _ => ?_ | (refine v'6 (fun hg => ?_) (fun hg => ?_) <;> try simp only [hg])) <;> simp only [wS, simprocAttr] | (refine v'7 ?_; try simp only [wE, simprocAttr]) | refine v'8 ?_ | refine v'9 ?_)
        refine hKa.2.go (eg_ref (ref_acc (H := [.dead, x.row a2 l2, x.A2, x.A3, x.A4, x.A5, .cells 0 [.int .i64 0, .int .i64 0, .int .i64 0, .sl true []]]) (sz := 4) (t := 7) (app := app) [(0, .ptr 1 0 0), (6, .ptr 6 0 0)] (by simp) ?_ ?_ (fun e he => (hn e he).len) (nodes_tree hn) ?_ (by simp [inR]) (heap_in hx a2 l2 [.cells 0 [.int .i64 0, .int .i64 0, .int .i64 0, .sl true []]] 7 (by decide) rfl)) ?_)
        · simp only [wS, simprocAttr, MX.row]; try exact rfl
        · simp only [wS, simprocAttr]; try exact rfl
        · simp only [wS, simprocAttr]; try exact rfl
        repeat' (first | refine v'1 fun _ _ => ?_ | refine v'2 ?_ | (first | refine v'3 ?_ | refine v'4 ?_ | refine v'5 fun _ _ _ _ => ?_ | (refine v'6 (fun hg => ?_) (fun hg => ?_) <;> try simp only [hg])) <;> simp only [wS, simprocAttr, MX.row] | (refine v'7 ?_; try simp only [wE, simprocAttr]) | refine v'8 ?_ | refine v'9 ?_)
        refine eg_mc (node_ok hx _ _ _ _ hal hn) a2 l2 (by refine ⟨?_, ?_, ?_, ?_, ?_⟩ <;> (simp only [wS, simprocAttr, accH_old, MX.row]; try exact rfl)) ?_
        rintro v a4 l4 ⟨rfl, hvn⟩ -
        simp only [wS, simprocAttr, MX.row]
        repeat' (first | refine v'1 fun _ _ => ?_ | refine v'2 ?_ | (first | refine v'3 ?_ | refine v'4 ?_ | refine v'5 fun _ _ _ _ => ?_ | (refine v'6 (fun hg => ?_) (fun hg => ?_) <;> try simp only [hg])) <;> simp only [wS, simprocAttr] | (refine v'7 ?_; try simp only [wE, simprocAttr]) | refine v'8 ?_ | refine v'9 ?_)
        refine eg_retC (v := ?rv0) rfl ?hl0 ?_
        case hl0 => simp only [wS, simprocAttr]; exact rfl
        refine EG.of (?v_0, ?a_0, ?l_0) ⟨?hV_0, ?hi_0⟩ ⟨?hv_0, ?g1_0, ?g2_0, ?g3_0, ?g4_0, ?g5_0⟩
        case hv_0 => simp only [wS, simprocAttr, MX.row]; exact rfl
        case g1_0 => simp only [wS, simprocAttr, MX.row]; exact rfl
        case g2_0 => simp only [wS, simprocAttr, MX.row]; try exact rfl
        case g3_0 => simp only [wS, simprocAttr, MX.row]; try exact rfl
        case g4_0 => simp only [wS, simprocAttr, MX.row]; try exact rfl
        case g5_0 => simp only [wS, simprocAttr, MX.row]; try exact rfl
        case hV_0 => exact VN.up (hvn) (by omega)
        case hi_0 => exact hvn.tree
    · have hal : app.length ≤ 6 := by omega
      repeat' (first | refine v'1 fun _ _ => ?_ | refine v'2 ?_ | (first | refine v'3 ?_ | refine v'4 ?_ | refine v'5 fun _ _ _ _ => ?_ | (refine v'6 (fun hg => ?_) (fun hg => ?_) <;> try simp only [hg])) <;> simp only [wS, simprocAttr] | (refine v'7 ?_; try simp only [wE, simprocAttr]) | refine v'8 ?_ | refine v'9 ?_)
      refine hKa.2.go (eg_ref (ref_acc (H := [.dead, x.row a2 l2, x.A2, x.A3, x.A4, x.A5, .cells 0 [.int .i64 0, .int .i64 0, .int .i64 0, .sl true []]]) (sz := 4) (t := 7) (app := app) [(0, .ptr 1 0 0), (6, .ptr 6 0 0)] (by simp) ?_ ?_ (fun e he => (hn e he).len) (nodes_tree hn) ?_ (by simp [inR]) (heap_in hx a2 l2 [.cells 0 [.int .i64 0, .int .i64 0, .int .i64 0, .sl true []]] 7 (by decide) rfl)) ?_)
      · simp only [wS, simprocAttr, MX.row]; try exact rfl
      · simp only [wS, simprocAttr]; try exact rfl
      · simp only [wS, simprocAttr]; try exact rfl
      repeat' (first | refine v'1 fun _ _ => ?_ | refine v'2 ?_ | (first | refine v'3 ?_ | refine v'4 ?_ | refine v'5 fun _ _ _ _ => ?_ | (refine v'6 (fun hg => ?_) (fun hg => ?_) <;> try simp only [hg])) <;> simp only [wS, simprocAttr, MX.row] | (refine v'7 ?_; try simp only [wE, simprocAttr]) | refine v'8 ?_ | refine v'9 ?_)
      refine eg_mc (node_ok hx _ _ _ _ hal hn) a2 l2 (by refine ⟨?_, ?_, ?_, ?_, ?_⟩ <;> (simp only [wS, simprocAttr, accH_old, MX.row]; try exact rfl)) ?_
      rintro v a4 l4 ⟨rfl, hvn⟩ -
      simp only [wS, simprocAttr, MX.row]
      repeat' (first | refine v'1 fun _ _ => ?_ | refine v'2 ?_ | (first | refine v'3 ?_ | refine v'4 ?_ | refine v'5 fun _ _ _ _ => ?_ | (refine v'6 (fun hg => ?_) (fun hg => ?_) <;> try simp only [hg])) <;> simp only [wS, simprocAttr] | (refine v'7 ?_; try simp only [wE, simprocAttr]) | refine v'8 ?_ | refine v'9 ?_)
      refine eg_retC (v := ?rv1) rfl ?hl1 ?_
      case hl1 => simp only [wS, simprocAttr]; exact rfl
      refine EG.of (?v_1, ?a_1, ?l_1) ⟨?hV_1, ?hi_1⟩ ⟨?hv_1, ?g1_1, ?g2_1, ?g3_1, ?g4_1, ?g5_1⟩
      case hv_1 => simp only [wS, simprocAttr, MX.row]; exact rfl
      case g1_1 => simp only [wS, simprocAttr, MX.row]; exact rfl
      case g2_1 => simp only [wS, simprocAttr, MX.row]; try exact rfl
      case g3_1 => simp only [wS, simprocAttr, MX.row]; try exact rfl
      case g4_1 => simp only [wS, simprocAttr, MX.row]; try exact rfl
      case g5_1 => simp only [wS, simprocAttr, MX.row]; try exact rfl
      case hV_1 => exact VN.up (hvn) (by omega)
      case hi_1 => exact hvn.tree
end Go.Proofs.YtpdibmopbpcfdaaDoor
