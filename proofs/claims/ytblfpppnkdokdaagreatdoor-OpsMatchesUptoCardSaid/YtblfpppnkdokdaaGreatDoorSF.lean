import Derived.Test.YtblfpppnkdokdaaGreatDoorP4
import Derived.Test.YtblfpppnkdokdaaGreatDoorSC
import Derived.Test.YtblfpppnkdokdaaGreatDoorVG
set_option linter.unusedVariables false
set_option linter.unusedSimpArgs false
namespace Go.Proofs.YtblfpppnkdokdaaGreatDoor
open Go.AM
attribute [local irreducible] AWp aP aT bC bH bN aI aL bG
set_option maxRecDepth 100000
theorem kr {s : AS} {fp : List Nat} {q : Nat → Bool} {k : Nat} {x : ARow} (h1 : q k = true) (h2 : aD q x = true) (h3 : k ∉ fp) : (q k = false ∧ x = .none) ∨ (q k = true ∧ aD q x = true ∧ iP s.row fp k x x) := .inr ⟨h1, h2, .inr ⟨.inl h3, .inl rfl⟩⟩
namespace T
def zero : T := .mk 0 0 0 []
mutual
def put (mp : MP) (nn : Int) : T → T
 | mk k n m ps => if k = 28 then (bW mp n).getD zero else mk k (if n = -100 then nn else n) m (zO mp nn ps)
def zO (mp : MP) (nn : Int) : List T → List T
 | [] => []
 | e :: es => put mp nn e :: zO mp nn es
end
theorem puts_map (mp : MP) (nn : Int) (es : List T) : zO mp nn es = es.map (put mp nn) := by induction es <;> simp_all [zO]
theorem look_good {B : Nat} : ∀ {mp : MP}, gP B mp → ∀ n, 1 ≤ B → size ((bW mp n).getD zero) ≤ B
 | [], _, n, hB => by simpa [bW, zero, size, sizes] using hB
 | x :: mp, h, n, hB => by
  rw [bW]
  split
  ·exact h x (by simp)
  ·exact look_good (fun y hy => h y (by simp [hy])) n hB
mutual
theorem put_size {B : Nat} {mp : MP} (h : gP B mp) (hB : 1 ≤ B) (nn : Int) : ∀ t : T, size (put mp nn t) ≤ size t * B
 | mk k n m ps => by
  have h1 := w6 h hB nn ps
  rw [put]
  split
  ·have := look_good h n hB
   simp only [size]
   exact Nat.le_trans this (Nat.le_mul_of_pos_left B (by omega))
  ·simp only [size, Nat.add_mul, Nat.one_mul]; omega
theorem w6 {B : Nat} {mp : MP} (h : gP B mp) (hB : 1 ≤ B) (nn : Int) : ∀ ts : List T, sizes (zO mp nn ts) ≤ sizes ts * B
 | [] => by simp [zO, sizes]
 | t :: ts => by
  have h1 := put_size h hB nn t
  have h2 := w6 h hB nn ts
  simp only [zO, sizes, Nat.add_mul]; omega
end
end T
def RK (N : Nat) : Prop := ∀ x : T, T.size x ≤ N → ∀ (mp : MP), gP 1000000000000 mp → ∀ (ck cn cm : Int) (CE : List (List AV)), inE aB CE = true → ∀ rows : Nat → ARow,
 rows 1 = .cells 0 [.int .i64 ck, .int .i64 cn, .int .i64 cm, .sl false CE] → rows 3 = bI mp → rows 4 = .cells 0 [.omp 3] → rows 5 = .cells 0 [.fn (.func 57) [] [.ptr 4 0 0, .ptr 1 0 0, .ptr 5 0 0]] →
 cC Tryz.prog G0 57 [.agg (T.enc x), .ptr 4 0 0, .ptr 1 0 0, .ptr 5 0 0] rows [1, 3, 4, 5] ⟨.agg (T.enc (T.put mp cn x)), []⟩
set_option maxHeartbeats 8000000 in
theorem OU : ∀ N : Nat, N ≤ 1000000000000 → RK N := by
 intro N
 induction N with
 | zero => intro _ x hx; have := T.size_pos x; omega
 | succ N ih =>
  intro hN x hx mp hm ck cn cm CE hCE rows h1 h3 h4 h5
  have ih := ih (by omega)
  have htx := T.enc_tree x
  obtain ⟨k, n, m, es⟩ := x
  have hls := T.len_sizes es
  simp only [T.size] at hx
  have hot := T.enc_tree (T.put mp cn (.mk k n m es))
  have how := T.wk_enc (T.put mp cn (.mk k n m es))
  obtain ⟨out, hout⟩ : ∃ o, o = T.put mp cn (.mk k n m es) := ⟨_, rfl⟩
  rw [← hout] at hot how ⊢
  rw [T.put] at hout
  simp only [T.enc] at htx ⊢
  have hgt := fun (i : Nat) (e : T) => T.encs_get (es := es) (i := i) (e := e)
  have hln := T.encs_len es
  have hte := T.encs_tree es
  generalize T.encs es = XE at htx hgt hln hte ⊢
  refine bE [.dead, .cells 0 [.int .i64 ck, .int .i64 cn, .int .i64 cm, .sl false CE], .dead, bI mp, .cells 0 [.omp 3], .cells 0 [.fn (.func 57) [] [.ptr 4 0 0, .ptr 1 0 0, .ptr 5 0 0]]] hG0 Tryz.func57 rfl (by kernel_rfl) (by simp [Tryz.ntmps57]) ?_ ?_ ?_ ?_ ?_ ?_ ?_
  ·intro r hr
   simp only [List.mem_cons, List.not_mem_nil, or_false] at hr
   rcases hr with rfl | rfl | rfl | rfl
   ·exact h1.symm
   ·exact h3.symm
   ·exact h4.symm
   ·exact h5.symm
  ·intro r hr
   match r, hr with
   | 0, _ => simp
   | 1, hr => exact absurd (by simp) hr
   | 2, _ => simp
   | 3, hr => exact absurd (by simp) hr
   | 4, hr => exact absurd (by simp) hr
   | 5, hr => exact absurd (by simp) hr
   | r + 6, _ => simp
  ·simp only [inL, inR, List.length_cons, List.length_nil, Nat.reduceAdd, Nat.reduceLT, decide_true, Bool.true_and, Bool.and_true]; exact aC hte
  ·intro r hr
   simp only [List.mem_cons, List.not_mem_nil, or_false] at hr
   rcases hr with rfl | rfl | rfl | rfl
   ·rw [h1]; exact (by simp only [aD, inL, inR, Bool.true_and, Bool.and_true]; exact aC hCE)
   ·rw [h3]; exact cJ _
   ·rw [h4]; exact rfl
   ·rw [h5]; exact rfl
  ·intro r hr h
   simp only [List.mem_cons, List.not_mem_nil, or_false] at hr
   simp only [List.length_cons, List.length_nil] at h
   omega
  ·simp
  simp only [Tryz.ntmps57, aF, Nat.reduceAdd, List.length_cons, List.length_nil]
  have post : ∀ s : AS, s.row 1 = .cells 0 [.int .i64 ck, .int .i64 cn, .int .i64 cm, .sl false CE] → s.row 3 = bI mp → s.row 4 = .cells 0 [.omp 3] → s.row 5 = .cells 0 [.fn (.func 57) [] [.ptr 4 0 0, .ptr 1 0 0, .ptr 5 0 0]] → ∀ v, (v = .agg (T.enc out) ∨ AM.wk v = .agg (T.enc out)) → inR aB v = true →
    (v = (Eff.mk (.agg (T.enc out)) []).val ∨ AM.wk v = (Eff.mk (.agg (T.enc out)) []).val) ∧ inR (fun r => [1, 3, 4, 5].contains r) v = true ∧ ∀ r ∈ [1, 3, 4, 5], s.row r = upd rows (Eff.mk (.agg (T.enc out)) []).wr r ∧ aD (fun r => [1, 3, 4, 5].contains r) (s.row r) = true := fun s a1 a3 a4 a5 v hv ht => by
   refine ⟨hv, EA ht, fun r hr => ?_⟩
   simp only [List.mem_cons, List.not_mem_nil, or_false] at hr
   rcases hr with rfl | rfl | rfl | rfl
   ·rw [a1]; exact ⟨h1.symm, by simp only [aD, inL, inR, aC hCE, Bool.and_self]⟩
   ·rw [a3]; exact ⟨h3.symm, cJ _⟩
   ·rw [a4]; exact ⟨h4.symm, rfl⟩
   ·rw [a5]; exact ⟨h5.symm, rfl⟩
  refine AK ?_
  by_cases hk : k = 28
  ·have e28 : (k == 28) = true := by simp [hk]
   rw [if_pos hk] at hout
   have hsz := T.look_good hm n (by decide)
   rw [← hout] at hsz
   have hcl := G3 _ out (Nat.le_refl _) hsz
   obtain ⟨oa, ob, oc, od, hoe⟩ := aK out
   rw [hoe] at hcl hot post ⊢
   cases hf : iM (mV mp) n 0 with
   | some j =>
    obtain ⟨y, _, hy, hlk⟩ := iX mp n 0 j hf
    rw [Nat.sub_zero] at hy
    have hv := pQ hy
    rw [hlk, Option.getD_some] at hout
    rw [← hout, hoe] at hv
    repeat' (first | with_reducible (first | refine u'1 fun _ _ => ?_ | refine u'W ?_ | (first | refine u'R ?_ | refine u'5 fun _ _ _ _ => ?_ | refine u'6 (fun hg => ?_) (fun hg => ?_) <;> try simp only [hg]) <;> simp only [wS, simprocAttr, e28, bI, eM, hf, hv]))
    refine aA hG0 hcl ?_
    simp only [wS, simprocAttr, bI]
    repeat' (first | with_reducible (first | refine u'1 fun _ _ => ?_ | refine u'W ?_ | (first | refine u'R ?_ | refine u'5 fun _ _ _ _ => ?_ | refine u'6 (fun hg => ?_) (fun hg => ?_) <;> try simp only [hg]) <;> simp only [wS, simprocAttr, bI]))
    refine ⟨_, oJ, dJ (v := .agg [.int .i64 oa, .int .i64 ob, .int .i64 oc, .sl false od]) rfl ?_ (post _ ?_ ?_ ?_ ?_ _ (.inl rfl) (by simpa only [inR] using hot))⟩ <;> (simp only [wS, simprocAttr, bI]; try exact rfl)
   | none =>
    rw [iY mp n 0 hf, Option.getD_none] at hout
    obtain ⟨rfl, rfl, rfl, rfl⟩ : oa = 0 ∧ ob = 0 ∧ oc = 0 ∧ od = [] := by
     rw [hout, T.zero, T.enc, T.encs] at hoe
     simp only [List.cons.injEq, AV.int.injEq, AV.sl.injEq, true_and, and_true] at hoe
     exact ⟨hoe.1.symm, hoe.2.1.symm, hoe.2.2.1.symm, hoe.2.2.2.symm⟩
    have hcl := qT (a := [.int .i64 0, .int .i64 0, .int .i64 0, .sl true []]) hcl rfl rfl
    repeat' (first | with_reducible (first | refine u'1 fun _ _ => ?_ | refine u'W ?_ | (first | refine u'R ?_ | refine u'5 fun _ _ _ _ => ?_ | refine u'6 (fun hg => ?_) (fun hg => ?_) <;> try simp only [hg]) <;> simp only [wS, simprocAttr, e28, bI, eM, hf]))
    refine aA hG0 hcl ?_
    simp only [wS, simprocAttr, bI]
    repeat' (first | with_reducible (first | refine u'1 fun _ _ => ?_ | refine u'W ?_ | (first | refine u'R ?_ | refine u'5 fun _ _ _ _ => ?_ | refine u'6 (fun hg => ?_) (fun hg => ?_) <;> try simp only [hg]) <;> simp only [wS, simprocAttr, bI]))
    refine ⟨_, oJ, dJ (v := .agg [.int .i64 0, .int .i64 0, .int .i64 0, .sl false []]) rfl ?_ (post _ ?_ ?_ ?_ ?_ _ (.inl rfl) rfl)⟩ <;> (simp only [wS, simprocAttr, bI]; try exact rfl)
  ·have e28 : (k == 28) = false := by simp [hk]
   rw [if_neg hk] at hout
   obtain ⟨n', hn'⟩ : ∃ x : Int, x = (if n = -100 then cn else n) := ⟨_, rfl⟩
   rw [← hn', T.puts_map] at hout
   have hpt : ∀ l : List T, inE aB (l.map fun e => T.enc (T.put mp cn e)) = true := fun l => by
    have := T.encs_tree (l.map (T.put mp cn))
    rw [T.encs_map, List.map_map] at this
    exact this
   have hps : ∀ l : List T, ∀ e ∈ l.map (fun e => T.enc (T.put mp cn e)), e.length = 4 := fun l e he => by
    obtain ⟨y, _, rfl⟩ := List.mem_map.1 he
    exact T.enc_len _
   have hoe : T.enc out = [.int .i64 k, .int .i64 n', .int .i64 m, .sl false (es.map fun e => T.enc (T.put mp cn e))] := by
    rw [hout, T.enc, T.encs_map, List.map_map]; rfl
   rw [hoe] at hot how post ⊢
   have hnn : (n == -100) = true ∧ n' = cn ∨ (n == -100) = false ∧ n' = n := by
    by_cases h : n = -100
    ·exact .inl ⟨by simp [h], by rw [hn', if_pos h]⟩
    ·exact .inr ⟨by simp [h], by rw [hn', if_neg h]⟩
   rcases hnn with ⟨e100, e'⟩ | ⟨e100, e'⟩
   all_goals
    repeat' (first | with_reducible (first | refine u'1 fun _ _ => ?_ | refine u'W ?_ | (first | refine u'R ?_ | refine u'5 fun _ _ _ _ => ?_ | refine u'6 (fun hg => ?_) (fun hg => ?_) <;> try simp only [hg]) <;> simp only [wS, simprocAttr, e28, e100]))
    refine aQ (α := {i : Nat // i ≤ es.length}) (fun i => [(1, .ptr 4 0 0), (2, .ptr 1 0 0), (3, .ptr 5 0 0), (4, .ptr 6 0 0), (5, .ptr 7 0 0), (6, .ptr 8 0 0), (31, .sl false XE), (32, .int .i64 (XE.length : Nat)), (33, .int .i64 (i.1 : Nat))]) (fun i => [.dead, .cells 0 [.int .i64 ck, .int .i64 cn, .int .i64 cm, .sl false CE], .dead, bI mp, .cells 0 [.omp 3], .cells 0 [.fn (.func 57) [] [.ptr 4 0 0, .ptr 1 0 0, .ptr 5 0 0]], .cells 0 [.int .i64 k, .int .i64 n, .int .i64 m, .sl false XE], .cells 0 [.int .i64 0, .int .i64 0, .int .i64 0, .sl true []], .cells 0 [.int .i64 k, .int .i64 n', .int .i64 m, rv 9 (i.1 - 1) 4 ((es.take i.1).map fun e => T.enc (T.put mp cn e))], rvR (i.1 - 1) ((es.take i.1).map fun e => T.enc (T.put mp cn e))]) (fun i => es.length - i.1) ⟨0, Nat.zero_le _⟩ (cB [] (kp [0, 1, 2, 3, 4, 5, 6, 7, 8, 9]) hG0 (fun r hr => by have h6 : r < 6 := hr; clear hr; simp [kp]; omega) ?_ ?_ ?_) ?_
    ·simp only [wS, simprocAttr, dX, Frz, and_true, true_or]
    ·simp only [List.all_cons, List.all_nil, Bool.and_true, Bool.and_eq_true, inR, aC hte]; exact ⟨rfl, rfl, rfl, rfl, rfl, rfl⟩
    ·simp only [wS, simprocAttr, List.take_zero, List.map_nil, f5, jY, e']
     simp only [ToH, and_true]
     exact ⟨kr rfl rfl (by simp), kr rfl (by simp only [aD, inL, inR, Bool.true_and, Bool.and_true]; exact aC hCE) (by simp), kr rfl rfl (by simp), kr rfl (cJ _) (by simp), kr rfl rfl (by simp), kr rfl rfl (by simp), kr rfl (by simp only [aD, inL, inR, Bool.true_and, Bool.and_true]; exact aC hte) (by simp), kr rfl rfl (by simp), .inr ⟨rfl, rfl, .inr ⟨.inl (by simp), .inr ⟨0, _, _, rfl, rfl, .inl rfl, .inl rfl, .inl rfl, .inr .toRsv, trivial⟩⟩⟩⟩
    ·rintro ⟨i, hi⟩ K3 hK3
     try simp only at hi
     have hal : ((es.take i).map fun e => T.enc (T.put mp cn e)).length = i := by rw [List.length_map, List.length_take]; omega
     by_cases hlt : i < es.length
     ·have c1 : decide (((i : Nat) : Int) < ((XE.length : Nat) : Int)) = true := by simp; omega
      have hltE : i < XE.length := by omega
      obtain ⟨e, he⟩ : ∃ e, es[i]? = some e := ⟨_, List.getElem?_eq_getElem hlt⟩
      have hg := hgt i e he
      have hce := fun rows h1 h3 h4 h5 => ih e (by have := T.size_mem (List.mem_of_getElem? he); omega) mp hm ck cn cm CE hCE rows h1 h3 h4 h5
      have htk := mF (f := fun e => T.enc (T.put mp cn e)) he
      have e3 := aO (k := i) hlt (by omega)
      obtain ⟨xa, xb, xc, xd, hxe⟩ := aK e
      obtain ⟨pa, pb, pc, pd, hpp⟩ := aK (T.put mp cn e)
      rw [hxe] at hg hce
      rw [hpp] at hce htk
      have hps' := hps (es.take i)
      have hpn := hpt (es.take (i + 1))
      have hvv : i = if ((es.take i).map fun e => T.enc (T.put mp cn e)) = [] then 0 else i - 1 + 1 := by
       by_cases h0 : ((es.take i).map fun e => T.enc (T.put mp cn e)) = []
       ·rw [if_pos h0]; rw [h0] at hal; simpa using hal.symm
       ·rw [if_neg h0]
        have : i ≠ 0 := fun hz => h0 (by rw [hz]; rfl)
        omega
      repeat' (first | with_reducible (first | refine u'1 fun _ _ => ?_ | refine u'W ?_ | (first | refine u'R ?_ | refine u'5 fun _ _ _ _ => ?_ | refine u'6 (fun hg => ?_) (fun hg => ?_) <;> try simp only [hg]) <;> simp only [wS, simprocAttr, hg, hltE, c1, e3, ↓aR, ↓aJ]) | (refine cK (hce _ (by simp only [wS, simprocAttr]; try exact rfl) (by simp only [wS, simprocAttr]; try exact rfl) (by simp only [wS, simprocAttr]; try exact rfl) (by simp only [wS, simprocAttr]; try exact rfl)) ?_; simp only [wS, simprocAttr, hg, hltE, c1, e3, ↓aR, ↓aJ]) | (refine gB (v' := i) (es := [[.int .i64 pa, .int .i64 pb, .int .i64 pc, .sl false pd]]) (by' := 48) (by kernel_rfl) (by (simp only [wS, simprocAttr]; try exact rfl)) hvv hps' (by simp [cU]) (by simp) (by rw [hal]; simp only [List.length_singleton]; omega) ?_; simp only [wS, simprocAttr, hg, hltE, c1, e3, ↓aR, ↓aJ]) | with_reducible first | refine ⟨fun _ => ?_, fun _ => ?_⟩ | refine u'A ?_)
      refine hK3.go ⟨i + 1, hlt⟩ (Weak.ref ⟨?_, .inr ⟨by first | exact Nat.zero_le _ | exact Nat.le_refl _ | simp, ?_, fun g cs hg => bO (hG0 g cs hg), ?_, ?_⟩⟩) (by simp only; omega)
      ·simp only [wS, simprocAttr, ↓aR, ↓aJ]; try exact rfl
      ·simp only [wS, simprocAttr, Nat.add_sub_cancel, htk]; try exact rfl
      ·intro z hz
       simp only [List.mem_cons, List.not_mem_nil, or_false] at hz
       rcases hz with rfl | rfl | rfl | rfl | rfl | rfl | rfl | rfl | rfl <;> first | rfl | (simp only [inR]; exact aC hte)
      ·simp only [List.all_cons, List.all_nil, Bool.and_true, Bool.and_eq_true]; try exact ⟨rfl, (by simp only [aD, inL, inR, Bool.true_and, Bool.and_true]; exact aC hCE), rfl, cJ _, rfl, rfl, (by simp only [aD, inL, inR, Bool.true_and, Bool.and_true]; exact aC hte), rfl, by simp only [aD, inL, inR, Bool.true_and, Bool.and_true]; exact fE rfl, eF (aC (hpt _))⟩
     ·have c1 : decide (((i : Nat) : Int) < ((XE.length : Nat) : Int)) = false := by simp; omega
      obtain rfl : i = es.length := by omega
      rw [List.take_length] at hal
      repeat' (first | with_reducible (first | refine u'1 fun _ _ => ?_ | refine u'X ?_ | (first | refine u'R ?_ | refine u'5 fun _ _ _ _ => ?_ | refine u'6 (fun hg => ?_) (fun hg => ?_) <;> try simp only [hg]) <;> simp only [wS, simprocAttr, List.take_length, c1]))
      refine Cont.go (by assumption) ?_
      repeat' (first | with_reducible (first | refine u'1 fun _ _ => ?_ | refine u'X ?_ | (first | refine u'R ?_ | refine u'5 fun _ _ _ _ => ?_ | refine u'6 (fun hg => ?_) (fun hg => ?_) <;> try simp only [hg]) <;> simp only [wS, simprocAttr, List.take_length, c1]))
      refine Cont.go (by assumption) (fB (cB [9] (kp [0, 1, 2, 3, 4, 5, 6, 7, 8]) (l := [(5, .ptr 7 0 0), (6, .ptr 8 0 0)]) (h := [.dead, .cells 0 [.int .i64 ck, .int .i64 cn, .int .i64 cm, .sl false CE], .dead, bI mp, .cells 0 [.omp 3], .cells 0 [.fn (.func 57) [] [.ptr 4 0 0, .ptr 1 0 0, .ptr 5 0 0]], .cells 0 [.int .i64 k, .int .i64 n, .int .i64 m, .sl false XE], .cells 0 [.int .i64 0, .int .i64 0, .int .i64 0, .sl true []], .cells 0 [.int .i64 k, .int .i64 n', .int .i64 m, .sl false (es.map fun e => T.enc (T.put mp cn e))]]) hG0 (fun r hr => by have h6 : r < 6 := hr; clear hr; simp [kp]; omega) ?_ ?_ ?_) ?_)
      ·simp only [wS, simprocAttr, dX, Frz, and_true, true_or]
      ·rfl
      ·simp only [wS, simprocAttr, List.take_length]
       simp only [ToH, and_true]
       exact ⟨kr rfl rfl (by simp), kr rfl (by simp only [aD, inL, inR, Bool.true_and, Bool.and_true]; exact aC hCE) (by simp), kr rfl rfl (by simp), kr rfl (cJ _) (by simp), kr rfl rfl (by simp), kr rfl rfl (by simp), kr rfl (by simp only [aD, inL, inR, Bool.true_and, Bool.and_true]; exact aC hte) (by simp), kr rfl rfl (by simp), .inr ⟨rfl, by simp only [aD, inL, inR, Bool.true_and, Bool.and_true]; exact aC (hpt es), .inr ⟨.inl (by simp), .inr ⟨0, _, _, rfl, rfl, .inl rfl, .inl rfl, .inl rfl, .inr (fV (v := es.length - 1) rfl (by simp) (hps es) (hpt es)), trivial⟩⟩⟩, rfl⟩
      repeat' (first | with_reducible (first | refine u'1 fun _ _ => ?_ | refine u'W ?_ | (first | refine u'R ?_ | refine u'5 fun _ _ _ _ => ?_ | refine u'6 (fun hg => ?_) (fun hg => ?_) <;> try simp only [hg]) <;> simp only [wS, simprocAttr]))
      refine ⟨_, oJ, dJ (v := .agg [.int .i64 k, .int .i64 n', .int .i64 m, .sl false (es.map fun e => T.enc (T.put mp cn e))]) rfl ?_ (post _ ?_ ?_ ?_ ?_ _ (.inl rfl) (by simpa only [inR] using hot))⟩ <;> (simp only [wS, simprocAttr]; try exact rfl)
def EW (cv : Int) (out : T) : Option T := if cv = 0 then none else some out
def T.app (nm : ByteArray) (f p : T) (b : Int) (t : T) : Option T := if fD nm f p b = true then (match T.mat f t true [] with
  | (true, mp) => EW (T.cmp (T.put mp t.num p) t) (T.put mp t.num p)
  | (false, _) => none) else none
def EV : Option T → AV
 | some x => .tup [.agg (T.enc x), .bool true]
 | none => .tup [.agg [.int .i64 0, .int .i64 0, .int .i64 0, .sl false []], .bool false]
theorem yK (r : Option T) : inR aB (EV r) = true := by cases r <;> simp only [EV, inR, inL, inE, T.enc_tree, Bool.and_self]
theorem kZ {nm : ByteArray} {f p : T} {b : Int} (h : fD nm f p b = true) : T.size p ≤ 32 := by
 simp only [fD, sQ, Bool.and_eq_true, decide_eq_true_eq] at h
 exact h.2.2.2.2.1.1
set_option maxHeartbeats 8000000 in
theorem MM (nm : ByteArray) (f p : T) (b : Int) (hf : T.size f ≤ 1000000000000) (hp : T.size p ≤ 1000000000000) (t : T) (ht : T.size t ≤ 1000000000000) : Pure Tryz.prog G0 19 [.agg (opE nm f p b), .agg (T.enc t)] (EV (T.app nm f p b t)) := by
 have kv := L8 nm f p b hf hp
 have ho := eG nm f p b
 have h2t := T.enc_tree t
 have km := fun rows h3 => N7 _ (Nat.le_refl _) f hf t ht true [] (fun y hy => by cases hy) rows h3
 have hg := T.mat_good f t true [] ht (fun y hy => by cases hy)
 obtain ⟨res, hres⟩ : ∃ r, r = T.app nm f p b t := ⟨_, rfl⟩
 have hrt := yK res
 have hvs : fD nm f p b = true → T.size p ≤ 32 := kZ
 unfold T.app at hres
 rw [show T.app nm f p b t = res from hres.symm]
 generalize fD nm f p b = V at kv hres hvs
 have hps : T.size (T.put (T.mat f t true []).2 t.num p) ≤ T.size p * 1000000000000 := T.put_size hg (by decide) _ _
 have kp : ∀ (ck cn cm : Int) (CE : List (List AV)), T.enc t = [.int .i64 ck, .int .i64 cn, .int .i64 cm, .sl false CE] → ∀ rows : Nat → ARow, rows 1 = .cells 0 [.int .i64 ck, .int .i64 cn, .int .i64 cm, .sl false CE] → rows 3 = bI (T.mat f t true []).2 → rows 4 = .cells 0 [.omp 3] → rows 5 = .cells 0 [.fn (.func 57) [] [.ptr 4 0 0, .ptr 1 0 0, .ptr 5 0 0]] →
   cC Tryz.prog G0 57 [.agg (T.enc p), .ptr 4 0 0, .ptr 1 0 0, .ptr 5 0 0] rows [1, 3, 4, 5] ⟨.agg (T.enc (T.put (T.mat f t true []).2 cn p)), []⟩ := fun ck cn cm CE he rows h1 h3 h4 h5 =>
  OU _ (Nat.le_refl _) p hp _ hg ck cn cm CE (by rw [he] at h2t; simpa only [inL, inR, Bool.true_and, Bool.and_true] using h2t) rows h1 h3 h4 h5
 have kc := fun h => I2 100000000000000000 (T.put (T.mat f t true []).2 t.num p) t h (Nat.le_refl _)
 rcases hm : T.mat f t true [] with ⟨ok, mp⟩
 rw [hm] at km hg hps kp kc
 simp only [hm] at hres
 simp only at hps kp kc
 obtain ⟨tk, tn, tm, ts⟩ := t
 have kp := kp tk tn tm (T.encs ts) rfl
 simp only [T.num] at hps kc hres
 obtain ⟨fk, fn, fm, fs⟩ := f
 obtain ⟨pk, pn, pm, ps⟩ := p
 clear hm
 simp only [opE, T.enc, List.cons_append, List.nil_append] at ho h2t kv km kp kc ⊢
 generalize T.encs fs = FE at ho kv km ⊢
 generalize T.encs ps = PE' at ho kv kp ⊢
 generalize T.encs ts = TE at h2t km kp kc ⊢
 refine bK hG0 Tryz.func19 rfl (by kernel_rfl) (by simp [Tryz.ntmps19]) (by simp only [inL, inR, Bool.true_and, Bool.and_true, Bool.and_eq_true] at ho h2t ⊢; exact ⟨ho, h2t⟩) (by exact hrt) ?_
 simp only [Tryz.ntmps19, aF, Nat.reduceAdd]
 have e0 : ARow.map [] [] = bI [] := rfl
 cases V with
 | false =>
  simp only [Bool.false_eq_true, if_false] at hres
  repeat' (first | with_reducible (first | refine u'1 fun _ _ => ?_ | refine u'W ?_ | (first | refine u'R ?_ | refine u'5 fun _ _ _ _ => ?_ | refine u'6 (fun hg => ?_) (fun hg => ?_) <;> try simp only [hg]) <;> simp only [wS, simprocAttr, Bool.not_true, Bool.not_false]) | (refine aA hG0 (kv) ?_; simp only [wS, simprocAttr, Bool.not_true, Bool.not_false]) | with_reducible first | refine ⟨fun _ => ?_, fun _ => ?_⟩ | refine u'A ?_)
  refine c8 (v := .agg [.int .i64 0, .int .i64 0, .int .i64 0, .sl true []]) rfl ?_ ?_
  ·simp only [wS, simprocAttr]
  ·simp only [wS, simprocAttr]
   rw [hres]; rfl
 | true =>
  have hp32 := hvs rfl
  cases ok with
  | false =>
   simp only [if_true] at hres
   repeat' (first | with_reducible (first | refine u'1 fun _ _ => ?_ | refine u'W ?_ | (first | refine u'R ?_ | refine u'5 fun _ _ _ _ => ?_ | refine u'6 (fun hg => ?_) (fun hg => ?_) <;> try simp only [hg]) <;> simp only [wS, simprocAttr, Bool.not_true, Bool.not_false]) | (refine aA hG0 (kv) ?_; simp only [wS, simprocAttr, Bool.not_true, Bool.not_false]) | (refine cK (km _ (by simp only [wS, simprocAttr]; try exact rfl)) ?_; simp only [wS, simprocAttr, Bool.not_true, Bool.not_false]) | with_reducible first | refine ⟨fun _ => ?_, fun _ => ?_⟩ | refine u'A ?_)
   refine c8 (v := .agg [.int .i64 0, .int .i64 0, .int .i64 0, .sl true []]) rfl ?_ ?_
   ·simp only [wS, simprocAttr]
   ·simp only [wS, simprocAttr]
    rw [hres]; rfl
  | true =>
   simp only [if_true] at hres
   generalize T.put mp tn (.mk pk pn pm ps) = out at hps kc hres kp
   obtain ⟨ok', on, om, oe⟩ := out
   have hot := T.wk_encs oe
   simp only [T.enc] at kc kp
   have kc := kc (by omega)
   generalize T.cmp (.mk ok' on om oe) (.mk tk tn tm ts) = cv at kc hres
   repeat' (first | with_reducible (first | refine u'1 fun _ _ => ?_ | refine u'W ?_ | (first | refine u'R ?_ | refine u'5 fun _ _ _ _ => ?_ | refine u'6 (fun hg => ?_) (fun hg => ?_) <;> try simp only [hg]) <;> simp only [wS, simprocAttr, Bool.not_true, Bool.not_false]) | (refine aA hG0 (kv) ?_; simp only [wS, simprocAttr, Bool.not_true, Bool.not_false]) | (refine cK (km _ (by simp only [wS, simprocAttr]; try exact rfl)) ?_; simp only [wS, simprocAttr, Bool.not_true, Bool.not_false]) | (refine cK (kp _ (by simp only [wS, simprocAttr]; try exact rfl) (by simp only [wS, simprocAttr]; try exact rfl) (by simp only [wS, simprocAttr]; try exact rfl) (by simp only [wS, simprocAttr]; try exact rfl)) ?_; simp only [wS, simprocAttr, Bool.not_true, Bool.not_false]) | (refine aA hG0 (kc) ?_; simp only [wS, simprocAttr, Bool.not_true, Bool.not_false]) | with_reducible first | refine ⟨fun _ => ?_, fun _ => ?_⟩ | refine u'A ?_)
   ·rw [EW, if_pos (by simp_all)] at hres
    refine c8 (v := .agg [.int .i64 0, .int .i64 0, .int .i64 0, .sl true []]) rfl ?_ ?_
    ·simp only [wS, simprocAttr]
    ·simp only [wS, simprocAttr]
     rw [hres]; rfl
   ·rw [EW, if_neg (by simp_all)] at hres
    refine c8 (v := .agg [.int .i64 ok', .int .i64 on, .int .i64 om, .sl false (T.encs oe)]) rfl ?_ ?_
    ·simp only [wS, simprocAttr]
    ·simp only [wS, simprocAttr]
     rw [hres]
     simp only [EV, T.enc, AM.wk, wkL, hI, hot]
abbrev OpT := ByteArray × T × T × Int
def opC (o : OpT) : List AV := opE o.1 o.2.1 o.2.2.1 o.2.2.2
theorem vv {app : List (List AV)} {e : List AV} : (app ++ [e]).length - 1 = if app = [] then 0 else app.length - 1 + 1 := by
 by_cases h : app = []
 ·rw [if_pos h, h]; rfl
 ·have := List.length_pos_iff.2 h
  rw [if_neg h, List.length_append, List.length_singleton]; omega
end Go.Proofs.YtblfpppnkdokdaaGreatDoor
