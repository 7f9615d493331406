import Derived.Test.YtpdibmopbpcfdaaDoorM7
set_option linter.unusedVariables false
set_option linter.unusedSimpArgs false
namespace Go.Proofs.YtpdibmopbpcfdaaDoor
open Go.AM
theorem hset_app : ∀ {H ys : List ARow} {r : Nat} {y : ARow}, r < H.length → hset (H ++ ys) r y = hset H r y ++ ys
  | [], _, _, _, h => by cases h
  | a :: H, ys, 0, y, _ => rfl
  | a :: H, ys, r + 1, y, h => by simp only [List.cons_append, hset]; rw [hset_app (by simpa using h)]
theorem accH_hset {H : List ARow} {base app : List (List AV)} {r : Nat} {y : ARow} (h : r < H.length) : hset (accH H base app) r y = accH (hset H r y) base app := by
  unfold accH
  split
  · rfl
  · exact hset_app h
theorem upd_acc {fr : List AV} {H : List ARow} {base app : List (List AV)} {r : Nat} {y : ARow} (h : r < H.length) : upd (AS.row ⟨fr, accH H base app⟩) [(r, y)] = fun i => (accH (hset H r y) base app).getD i .none := by
  rw [← accH_hset h]
  funext i
  rw [getD_hset, upd_one]
  rfl
theorem deadH_take {m : Nat} : ∀ {k : Nat} {xs ys : List ARow}, k + xs.length ≤ m → deadH [m] k (xs ++ ys) = xs ++ deadH [m] (k + xs.length) ys
  | k, [], ys, _ => by simp
  | k, a :: xs, ys, h => by
    simp only [List.length_cons] at h
    simp only [List.cons_append, deadH, List.length_cons]
    rw [deadH_take (by omega), if_neg (by simp; omega), show k + 1 + xs.length = k + (xs.length + 1) by omega]
theorem deadH_nil : ∀ {k : Nat} {xs : List ARow}, deadH [] k xs = xs
  | _, [] => rfl
  | k, a :: xs => by simp only [deadH]; rw [deadH_nil]; simp
theorem ref_acc [Rnd] {k n : Nat} {H : List ARow} {app : List (List AV)} {sz t : Nat} {s : AS} (l : List (Nat × AV)) (hk : k ≤ H.length) (hh : s.h = accH H [] app) (ht : s.get t = accV [] H.length sz app) (hsz : ∀ e ∈ app, e.length = sz) (htr : inE noRef app = true)
    (hl : holdsF l s.get) (hln : ∀ p ∈ l, inR (fun r => decide (r < H.length)) p.2 = true) (hH : H.all (rowIn fun r => decide (r < H.length)) = true) : Ref G0 n k s ⟨mkF ((t, .sl false app) :: l), H⟩ := by
  have hln' : ∀ p ∈ (t, AV.sl false app) :: l, inR (fun r => decide (r < H.length)) p.2 = true := by
    intro p hp
    rcases List.mem_cons.1 hp with rfl | hp
    · simp only [inR]; exact inE_mono (p := noRef) (fun r hr => by cases hr) htr
    · exact hln p hp
  by_cases ha : app = []
  · subst ha
    have h0 : s.h = H := by rw [hh]; simp [accH]
    have := ref_freeze (G := G0) (n := n) (k := k) (s := s) [] ((t, .sl false []) :: l) (deadH [] 0 s.h) (by simp) ⟨.inr (by rw [ht, accV_nil]; exact .full rfl), frzF_same hl⟩ (frzH_dead 0 s.h fun i hi _ => by cases hi)
    rw [deadH_nil, h0] at this
    exact this
  · have h0 : s.h = H ++ [accRow [] app] := by rw [hh, accH, if_neg ha]
    have hr : s.row H.length = accRow [] app := by
      show s.h.getD H.length .none = _
      rw [h0]; simp
    have h1 := ref_freeze (G := G0) (n := n) (k := k) (s := s) [H.length] ((t, .sl false app) :: l) (deadH [H.length] 0 s.h) (by rw [h0]; simp) ⟨.inr (by rw [ht]; simpa using acc_lend (H := H) (h := s.h) hh (by simpa using hsz) (by simpa using htr)), frzF_same hl⟩ (frzH_dead 0 s.h fun i hi _ => by
      have hi : i = H.length := by simpa using hi
      subst hi
      show s.row H.length ≠ .none
      rw [hr]; simp [accRow])
    rw [h0, deadH_take (by simp)] at h1
    have h2 := ref_gc (G := G0) (n := n) (k := k) (l := (t, .sl false app) :: l) (h := H ++ deadH [H.length] (0 + H.length) [accRow [] app]) H.length hk hG0 hln' (by rw [List.take_left]; exact hH)
    rw [List.take_left] at h2
    exact h1.trans h2
theorem heap_in {x : MX} (hx : x.ok) (a l : Int) (ext : List ARow) (m : Nat) (hm : 6 ≤ m) (hext : ext.all (rowIn fun r => decide (r < m)) = true) : ([.dead, x.row a l, x.A2, x.A3, x.A4, x.A5] ++ ext).all (rowIn fun r => decide (r < m)) = true := by
  obtain ⟨k1, k2, k3, k4, k5⟩ := hx.2.2.ins
  have hcon : ∀ r, five r = true → decide (r < m) = true := fun r h => by simp [five] at h ⊢; omega
  have hrow : rowIn five (x.row a l) = true := by
    simp only [MX.row, rowIn, inL, inR, inR_mono (p := noRef) (q := five) (fun r hr => by cases hr) (tree_encI x.L), k1, Bool.and_self]
  have hdead : rowIn (fun r => decide (r < m)) .dead = true := rfl
  simp only [List.cons_append, List.nil_append, List.all_cons, Bool.and_eq_true]
  exact ⟨hdead, rowIn_mono hcon hrow, rowIn_mono hcon k2, rowIn_mono hcon k3, rowIn_mono hcon k4, rowIn_mono hcon k5, hext⟩
theorem funs_ok {x : MX} (hx : x.ok) : ∃ n vP bP c3, x.kv = .osl 3 vP 0 n 4 bP ∧ x.A3 = .cells vP c3 ∧ c3.length = n * 4 ∧ 1 ≤ n ∧ n ≤ 3 ∧ ∀ f, f < n → ∃ r fn tl, fn.wf ∧ at245 x r fn ∧ c3.drop (f * 4) = .int .i64 26 :: .int .i64 (fn.p : Nat) :: .int .i64 0 :: .osl r fn.v 0 (fn.q + 1) 4 fn.b :: tl := by
  obtain ⟨L, pk, pn, pm, F, kv, con, A2, A3, A4, A5⟩ := x
  obtain ⟨hL, hcn, hP⟩ := hx
  simp only at hP
  cases hP with
  | one f0 vP bP w0 hF =>
    refine ⟨1, vP, bP, _, rfl, rfl, rfl, by omega, by omega, fun f hf => ?_⟩
    obtain rfl : f = 0 := by omega
    exact ⟨2, f0, _, w0, .inl ⟨rfl, rfl⟩, rfl⟩
  | two f0 f1 vP bP w0 w1 hF =>
    refine ⟨2, vP, bP, _, rfl, rfl, rfl, by omega, by omega, fun f hf => ?_⟩
    have : f = 0 ∨ f = 1 := by omega
    rcases this with rfl | rfl
    · exact ⟨2, f0, _, w0, .inl ⟨rfl, rfl⟩, rfl⟩
    · exact ⟨4, f1, _, w1, .inr (.inl ⟨rfl, rfl⟩), rfl⟩
  | three f0 f1 f2 vP bP w0 w1 w2 hF =>
    refine ⟨3, vP, bP, _, rfl, rfl, rfl, by omega, by omega, fun f hf => ?_⟩
    have : f = 0 ∨ f = 1 ∨ f = 2 := by omega
    rcases this with rfl | rfl | rfl
    · exact ⟨2, f0, _, w0, .inl ⟨rfl, rfl⟩, rfl⟩
    · exact ⟨4, f1, _, w1, .inr (.inl ⟨rfl, rfl⟩), rfl⟩
    · exact ⟨5, f2, _, w2, .inr (.inr ⟨rfl, rfl⟩), rfl⟩
end Go.Proofs.YtpdibmopbpcfdaaDoor
