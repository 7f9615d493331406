import Derived.Test.YtpdibmopbpcfdaaDoorQ1
set_option linter.unusedVariables false
set_option linter.unusedSimpArgs false
namespace Go.Proofs.YtpdibmopbpcfdaaDoor
open Go.AM

set_option maxRecDepth 100000
theorem PE_get {ps : List (List Int)} {i : Nat} {p : List Int} (h : ps[i]? = some p) : (PE ps)[i]? = some [encI p] := by simp [PE, h]
set_option maxHeartbeats 8000000 in
theorem law_3 (hprog : ∀ l : List Int, (∀ x ∈ l, Small64 x) → EP Tryd.prog G0 8 [encI l] (VN 14)) (hlives : Pure Tryd.prog G0 9 [] (.bool true)) (a b c : List Int) (x y : Int) (l : List Int) (ha : a.length ≤ 4611686018427387904) (hb : b.length ≤ 4611686018427387904) (hc : c.length ≤ 4611686018427387904) (hl : ∀ x ∈ l, Small64 x) :
    Pure Tryd.prog G0 3 [encI a, encI b, encI c, .int .i64 x, .int .i64 y, encI l] (.bool true) := by
  obtain ⟨_, ⟨cp, rfl, hcp⟩, hpr⟩ := hprog l hl
  have hpa := paths_ok cp hcp (by decide) (visL_14 hcp)
  have hplen := visL_14 hcp
  have hsort := fun (i : Nat) (u v : List Int) (hu : (visL 14 [] cp)[i]? = some u) (hv : (visL 14 [] cp)[i + 1]? = some v) (x y : Int) => visL_next 14 cp hu hv x y
  have hpp : ∀ (i : Nat) (p : List Int), (visL 14 [] cp)[i]? = some p → p.length ≤ 4611686018427387904 := fun i p h => Nat.le_trans (visL_plen 14 [] cp p (List.mem_of_getElem? h)) (by decide)
  have hne : 0 < (visL 14 [] cp).length := by rw [visL_succ]; simp
  generalize visL 14 [] cp = PS at hpa hplen hsort hpp hne
  have hctree := hcp.tree
  refine pure_of_body hG0 Tryd.func3 rfl (by kernel_rfl) (by simp [Tryd.ntmps3]) (by simp [inL, tree_encI, inR]) (by simp [inR]) ?_
  simp only [Tryd.ntmps3, enterF, Nat.reduceAdd]
  obtain ⟨ea, hea⟩ : ∃ es, encI a = .sl false es := ⟨_, rfl⟩
  obtain ⟨eb, heb⟩ : ∃ es, encI b = .sl false es := ⟨_, rfl⟩
  obtain ⟨ec, hec⟩ : ∃ es, encI c = .sl false es := ⟨_, rfl⟩
  obtain ⟨el, hel⟩ : ∃ es, encI l = .sl false es := ⟨_, rfl⟩
  rw [hea, heb, hec, hel]
  rw [hel] at hpr
  repeat' (first | refine u'1 fun _ _ => ?_ | refine u'2 ?_ | ((first | refine u'3 ?_ | refine u'4 ?_ | refine u'5 fun _ _ _ _ => ?_) <;> simp only [wS, simprocAttr]) | (refine u'6 (fun hg => ?_) (fun hg => ?_) <;> simp only [hg, wS, simprocAttr]) | (refine u'7 ?_; try simp only [wE, simprocAttr]) | refine u'8 ?_ | refine u'9 ?_)
  obtain ⟨ALL, hALL⟩ : ∃ A : List (List AV), A = [[.sl false ea, .int .i64 x], [.sl false eb, .int .i64 y], [.sl false ec, .int .i64 x], [.sl false ea, .int .i64 y]] := ⟨_, rfl⟩
  have h4 : ALL.length = 4 := by rw [hALL]; rfl
  have hat : ∀ i : Nat, i < 4 → ∃ (p : List Int) (z : Int) (ep : List (List AV)), ALL[i]? = some [.sl false ep, .int .i64 z] ∧ encI p = .sl false ep ∧ p.length ≤ 4611686018427387904 := by
    intro i hi
    have : i = 0 ∨ i = 1 ∨ i = 2 ∨ i = 3 := by omega
    rw [hALL]
    rcases this with rfl | rfl | rfl | rfl
    · exact ⟨a, x, ea, rfl, hea, ha⟩
    · exact ⟨b, y, eb, rfl, heb, hb⟩
    · exact ⟨c, x, ec, rfl, hec, hc⟩
    · exact ⟨a, y, ea, rfl, hea, ha⟩
  have w1 : ∀ i : Nat, i < 4 → IntKind.i64.wrap ((i : Int) + 1) = ((i + 1 : Nat) : Int) := fun i hi => wrap_succ hi (by decide)
  have hlt4 : ∀ i : Nat, decide ((i : Int) < 4) = true → i < 4 := fun i h => by simp at h; omega
  refine awp_loop_k (α := {i : Nat // i ≤ 4}) (fun i => [(3, .int .i64 x), (4, .int .i64 y), (5, .sl false el), (13, .sl true ALL), (14, .int .i64 (i.1 : Nat))]) (fun i => []) (fun i => 4 - i.1) ⟨0, Nat.zero_le _⟩ ⟨?_, .inl ?_⟩ ?_
  · simp only [wS, simprocAttr, hALL]; try exact rfl
  · simp only [wS, simprocAttr]; try exact rfl
  · rintro ⟨i, hi⟩ K1 hK1
    repeat' (first | refine u'1 fun _ _ => ?_ | refine u'2 ?_ | ((first | refine u'3 ?_ | refine u'4 ?_ | refine u'5 fun _ _ _ _ => ?_) <;> simp only [wS, simprocAttr]) | (refine u'6 (fun hg => ?_) (fun hg => ?_) <;> simp only [hg, wS, simprocAttr]) | (refine u'7 ?_; try simp only [wE, simprocAttr]) | refine u'8 ?_ | refine u'9 ?_)
    refine ⟨fun h => ?_, fun h => ?_⟩
    · have hi4 := hlt4 i h
      obtain ⟨pi, zi, epi, hgi, hei, hli⟩ := hat i hi4
      repeat' (first | refine u'1 fun _ _ => ?_ | refine u'2 ?_ | ((first | refine u'3 ?_ | refine u'4 ?_ | refine u'5 fun _ _ _ _ => ?_) <;> simp only [wS, simprocAttr]) | (refine u'6 (fun hg => ?_) (fun hg => ?_) <;> simp only [hg, wS, simprocAttr]) | (refine u'7 ?_; try simp only [wE, simprocAttr]) | refine u'8 ?_ | refine u'9 ?_)
      refine awp_loop_k (α := {k : Nat // k ≤ 4}) (fun k => [(3, .int .i64 x), (4, .int .i64 y), (5, .sl false el), (13, .sl true ALL), (14, .int .i64 (i : Nat)), (15, .int .i64 (k.1 : Nat))]) (fun k => []) (fun k => 4 - k.1) ⟨0, Nat.zero_le _⟩ ⟨?_, .inl ?_⟩ ?_
      · simp only [wS, simprocAttr]; try exact rfl
      · simp only [wS, simprocAttr]; try exact rfl
      · rintro ⟨k, hk⟩ K2 hK2
        repeat' (first | refine u'1 fun _ _ => ?_ | refine u'2 ?_ | ((first | refine u'3 ?_ | refine u'4 ?_ | refine u'5 fun _ _ _ _ => ?_) <;> simp only [wS, simprocAttr]) | (refine u'6 (fun hg => ?_) (fun hg => ?_) <;> simp only [hg, wS, simprocAttr]) | (refine u'7 ?_; try simp only [wE, simprocAttr]) | refine u'8 ?_ | refine u'9 ?_)
        refine ⟨fun h => ?_, fun h => ?_⟩
        · have hk4 := hlt4 k h
          obtain ⟨pk, zk, epk, hgk, hek, hlk⟩ := hat k hk4
          have cik := site_5 pi pk zi zk hli hlk
          have cki := site_5 pk pi zk zi hlk hli
          have rik := ref_6 pi pk zi zk hli hlk
          have hanti : siteC pk pi zk zi = -siteC pi pk zi zk := siteC_anti pi pk zi zk
          have hb := siteC_b pi pk zi zk
          have hneg : IntKind.i64.wrap (0 - siteC pk pi zk zi) = siteC pi pk zi zk := by rw [hanti, wrap_id (by omega) (by omega)]; omega
          simp only [encS, hei, hek] at cik cki rik
          repeat' (first | refine u'1 fun _ _ => ?_ | refine u'2 ?_ | ((first | refine u'3 ?_ | refine u'4 ?_ | refine u'5 fun _ _ _ _ => ?_) <;> simp only [wS, simprocAttr, hgi, hgk, h4, hi4, hk4]) | (refine u'6 (fun hg => ?_) (fun hg => ?_) <;> simp only [hg, wS, simprocAttr, hgi, hgk, h4, hi4, hk4]) | (refine u'7 ?_; try simp only [wE, simprocAttr]) | refine u'8 ?_ | refine u'9 ?_)
          refine callR_tree hG0 cik ?_
          simp only [wS, simprocAttr, hgi, hgk, h4, hi4, hk4]
          repeat' (first | refine u'1 fun _ _ => ?_ | refine u'2 ?_ | ((first | refine u'3 ?_ | refine u'4 ?_ | refine u'5 fun _ _ _ _ => ?_) <;> simp only [wS, simprocAttr, hgi, hgk, h4, hi4, hk4]) | (refine u'6 (fun hg => ?_) (fun hg => ?_) <;> simp only [hg, wS, simprocAttr, hgi, hgk, h4, hi4, hk4]) | (refine u'7 ?_; try simp only [wE, simprocAttr]) | refine u'8 ?_ | refine u'9 ?_)
          refine callR_tree hG0 rik ?_
          simp only [wS, simprocAttr, hgi, hgk, h4, hi4, hk4, bne_self_eq_false]
          refine callR_tree hG0 cki ?_
          simp only [wS, simprocAttr, hgi, hgk, h4, hi4, hk4, hneg, bne_self_eq_false]
          repeat' (first | refine u'1 fun _ _ => ?_ | refine u'2 ?_ | ((first | refine u'3 ?_ | refine u'4 ?_ | refine u'5 fun _ _ _ _ => ?_) <;> simp only [wS, simprocAttr]) | (refine u'6 (fun hg => ?_) (fun hg => ?_) <;> simp only [hg, wS, simprocAttr]) | (refine u'7 ?_; try simp only [wE, simprocAttr]) | refine u'8 ?_ | refine u'9 ?_)
          refine awp_loop_k (α := {j : Nat // j ≤ 4}) (fun j => [(3, .int .i64 x), (4, .int .i64 y), (5, .sl false el), (13, .sl true ALL), (14, .int .i64 (i : Nat)), (15, .int .i64 (k : Nat)), (16, .int .i64 (siteC pi pk zi zk)), (17, .int .i64 (j.1 : Nat))]) (fun j => []) (fun j => 4 - j.1) ⟨0, Nat.zero_le _⟩ ⟨?_, .inl ?_⟩ ?_
          · simp only [wS, simprocAttr]; try exact rfl
          · simp only [wS, simprocAttr]; try exact rfl
          · rintro ⟨j, hj⟩ K3 hK3
            repeat' (first | refine u'1 fun _ _ => ?_ | refine u'2 ?_ | ((first | refine u'3 ?_ | refine u'4 ?_ | refine u'5 fun _ _ _ _ => ?_) <;> simp only [wS, simprocAttr]) | (refine u'6 (fun hg => ?_) (fun hg => ?_) <;> simp only [hg, wS, simprocAttr]) | (refine u'7 ?_; try simp only [wE, simprocAttr]) | refine u'8 ?_ | refine u'9 ?_)
            refine ⟨fun h => ?_, fun h => ?_⟩
            · have hj4 := hlt4 j h
              obtain ⟨pj, zj, epj, hgj, hej, hlj⟩ := hat j hj4
              have ckj := site_5 pk pj zk zj hlk hlj
              have cij := site_5 pi pj zi zj hli hlj
              simp only [encS, hei, hek, hej] at ckj cij
              have fin : ∀ s : AS, s.get 3 = .int .i64 x → s.get 4 = .int .i64 y → s.get 5 = .sl false el → s.get 13 = .sl true ALL → s.get 14 = .int .i64 (i : Nat) → s.get 15 = .int .i64 (k : Nat) → s.get 16 = .int .i64 (siteC pi pk zi zk) → s.get 17 = .int .i64 ((j + 1 : Nat) : Int) → s.h = [] → K3 s := fun s a1 a2 a3 a4 a5 a6 a7 a8 a9 =>
                hK3.go ⟨j + 1, hj4⟩ ⟨⟨a1, a2, a3, a4, a5, a6, a7, a8, trivial⟩, .inl a9⟩ (by simp only; omega)
              repeat' (first | refine u'1 fun _ _ => ?_ | refine u'2 ?_ | ((first | refine u'3 ?_ | refine u'4 ?_ | refine u'5 fun _ _ _ _ => ?_) <;> simp only [wS, simprocAttr, hgi, hgk, hgj, h4, hi4, hk4, hj4, w1 j hj4]) | (refine u'6 (fun hg => ?_) (fun hg => ?_) <;> simp only [hg, wS, simprocAttr, hgi, hgk, hgj, h4, hi4, hk4, hj4, w1 j hj4]) | (refine u'7 ?_; try simp only [wE, simprocAttr]) | refine u'8 ?_ | refine u'9 ?_)
              · refine callR_tree hG0 ckj ?_
                simp only [wS, simprocAttr, hgi, hgk, hgj, h4, hi4, hk4, hj4]
                repeat' (first | refine u'1 fun _ _ => ?_ | refine u'2 ?_ | ((first | refine u'3 ?_ | refine u'4 ?_ | refine u'5 fun _ _ _ _ => ?_) <;> simp only [wS, simprocAttr, hgi, hgk, hgj, h4, hi4, hk4, hj4, w1 j hj4]) | (refine u'6 (fun hg => ?_) (fun hg => ?_) <;> simp only [hg, wS, simprocAttr, hgi, hgk, hgj, h4, hi4, hk4, hj4, w1 j hj4]) | (refine u'7 ?_; try simp only [wE, simprocAttr]) | refine u'8 ?_ | refine u'9 ?_)
                · refine callR_tree hG0 cij ?_
                  have hq1 : siteC pi pk zi zk < 0 := by simpa using ‹decide (siteC pi pk zi zk < 0) = true›
                  have hq2 : siteC pk pj zk zj < 0 := by simpa using ‹decide (siteC pk pj zk zj < 0) = true›
                  have hq3 : decide (siteC pi pj zi zj ≥ 0) = false := by
                    have := siteC_trans hq1 hq2
                    simp; omega
                  simp only [wS, simprocAttr, hgi, hgk, hgj, h4, hi4, hk4, hj4, hq3]
                  repeat' (first | refine u'1 fun _ _ => ?_ | refine u'2 ?_ | ((first | refine u'3 ?_ | refine u'4 ?_ | refine u'5 fun _ _ _ _ => ?_) <;> simp only [wS, simprocAttr, w1 j hj4]) | (refine u'6 (fun hg => ?_) (fun hg => ?_) <;> simp only [hg, wS, simprocAttr, w1 j hj4]) | (refine u'7 ?_; try simp only [wE, simprocAttr]) | refine u'8 ?_ | refine u'9 ?_)
                  refine fin _ ?_ ?_ ?_ ?_ ?_ ?_ ?_ ?_ ?_ <;> (simp only [wS, simprocAttr]; try exact rfl)
                · refine fin _ ?_ ?_ ?_ ?_ ?_ ?_ ?_ ?_ ?_ <;> (simp only [wS, simprocAttr]; try exact rfl)
              · refine fin _ ?_ ?_ ?_ ?_ ?_ ?_ ?_ ?_ ?_ <;> (simp only [wS, simprocAttr]; try exact rfl)
            · repeat' (first | refine u'1 fun _ _ => ?_ | refine u'2 ?_ | ((first | refine u'3 ?_ | refine u'4 ?_ | refine u'5 fun _ _ _ _ => ?_) <;> simp only [wS, simprocAttr, w1 k hk4]) | (refine u'6 (fun hg => ?_) (fun hg => ?_) <;> simp only [hg, wS, simprocAttr, w1 k hk4]) | (refine u'7 ?_; try simp only [wE, simprocAttr]) | refine u'8 ?_ | refine u'9 ?_)
              refine hK2.go ⟨k + 1, hk4⟩ ⟨?_, .inl ?_⟩ (by simp only; omega)
              · simp only [wS, simprocAttr]; try exact rfl
              · simp only [wS, simprocAttr]; try exact rfl
        · repeat' (first | refine u'1 fun _ _ => ?_ | refine u'2 ?_ | ((first | refine u'3 ?_ | refine u'4 ?_ | refine u'5 fun _ _ _ _ => ?_) <;> simp only [wS, simprocAttr, w1 i hi4]) | (refine u'6 (fun hg => ?_) (fun hg => ?_) <;> simp only [hg, wS, simprocAttr, w1 i hi4]) | (refine u'7 ?_; try simp only [wE, simprocAttr]) | refine u'8 ?_ | refine u'9 ?_)
          refine hK1.go ⟨i + 1, hi4⟩ ⟨?_, .inl ?_⟩ (by simp only; omega)
          · simp only [wS, simprocAttr]; try exact rfl
          · simp only [wS, simprocAttr]; try exact rfl
    · repeat' (first | refine u'1 fun _ _ => ?_ | refine u'2 ?_ | ((first | refine u'3 ?_ | refine u'4 ?_ | refine u'5 fun _ _ _ _ => ?_) <;> simp only [wS, simprocAttr]) | (refine u'6 (fun hg => ?_) (fun hg => ?_) <;> simp only [hg, wS, simprocAttr]) | (refine u'7 ?_; try simp only [wE, simprocAttr]) | refine u'8 ?_ | refine u'9 ?_)
      refine callR_tree hG0 hpr ?_
      simp only [wS, simprocAttr]
      refine callR_tree hG0 hpa ?_
      simp only [wS, simprocAttr]
      repeat' (first | refine u'1 fun _ _ => ?_ | refine u'2 ?_ | ((first | refine u'3 ?_ | refine u'4 ?_ | refine u'5 fun _ _ _ _ => ?_) <;> simp only [wS, simprocAttr]) | (refine u'6 (fun hg => ?_) (fun hg => ?_) <;> simp only [hg, wS, simprocAttr]) | (refine u'7 ?_; try simp only [wE, simprocAttr]) | refine u'8 ?_ | refine u'9 ?_)
      have hPl : (PE PS).length = PS.length := PE_len PS
      refine awp_loop_k (α := {i : Nat // 1 ≤ i ∧ i ≤ PS.length}) (fun i => [(3, .int .i64 x), (4, .int .i64 y), (18, .sl false (PE PS)), (19, .int .i64 (i.1 : Nat))]) (fun i => []) (fun i => PS.length - i.1) ⟨1, Nat.le_refl _, hne⟩ ⟨?_, .inl ?_⟩ ?_
      · simp only [wS, simprocAttr]; try exact rfl
      · simp only [wS, simprocAttr]; try exact rfl
      · rintro ⟨n, hn1, hn2⟩ K4 hK4
        repeat' (first | refine u'1 fun _ _ => ?_ | refine u'2 ?_ | ((first | refine u'3 ?_ | refine u'4 ?_ | refine u'5 fun _ _ _ _ => ?_) <;> simp only [wS, simprocAttr, hPl]) | (refine u'6 (fun hg => ?_) (fun hg => ?_) <;> simp only [hg, wS, simprocAttr, hPl]) | (refine u'7 ?_; try simp only [wE, simprocAttr]) | refine u'8 ?_ | refine u'9 ?_)
        refine ⟨fun h => ?_, fun h => ?_⟩
        · have hlt : n < PS.length := by simpa using h
          obtain ⟨u, hu⟩ : ∃ u, PS[n - 1]? = some u := ⟨_, List.getElem?_eq_getElem (by omega)⟩
          obtain ⟨v, hv⟩ : ∃ v, PS[n]? = some v := ⟨_, List.getElem?_eq_getElem hlt⟩
          have hs := hsort (n - 1) u v hu (by rw [Nat.sub_add_cancel hn1]; exact hv) x y
          have cuv := site_5 u v x y (hpp _ _ hu) (hpp _ _ hv)
          have hgu := PE_get hu
          have hgv := PE_get hv
          obtain ⟨eu, heu⟩ : ∃ es, encI u = .sl false es := ⟨_, rfl⟩
          obtain ⟨ev, hev⟩ : ∃ es, encI v = .sl false es := ⟨_, rfl⟩
          rw [heu] at hgu
          rw [hev] at hgv
          simp only [encS, heu, hev, hs] at cuv
          have hl1 : n - 1 < PS.length := by omega
          have e1 : IntKind.i64.wrap ((n : Int) - 1) = ((n - 1 : Nat) : Int) := by rw [wrap_id (by omega) (by omega)]; omega
          have e2 := wrap_succ (k := n) hlt (by omega)
          have e3 : ((-1 : Int) != -1) = false := by decide
          repeat' (first | refine u'1 fun _ _ => ?_ | refine u'2 ?_ | ((first | refine u'3 ?_ | refine u'4 ?_ | refine u'5 fun _ _ _ _ => ?_) <;> simp only [wS, simprocAttr, hgu, hgv, hPl, e1, hl1, hlt]) | (refine u'6 (fun hg => ?_) (fun hg => ?_) <;> simp only [hg, wS, simprocAttr, hgu, hgv, hPl, e1, hl1, hlt]) | (refine u'7 ?_; try simp only [wE, simprocAttr]) | refine u'8 ?_ | refine u'9 ?_)
          refine callR_tree hG0 cuv ?_
          simp only [wS, simprocAttr, hgu, hgv, hPl, e1, hl1, hlt, e3]
          repeat' (first | refine u'1 fun _ _ => ?_ | refine u'2 ?_ | ((first | refine u'3 ?_ | refine u'4 ?_ | refine u'5 fun _ _ _ _ => ?_) <;> simp only [wS, simprocAttr, hgu, hgv, hPl, e1, hl1, hlt, e3, e2]) | (refine u'6 (fun hg => ?_) (fun hg => ?_) <;> simp only [hg, wS, simprocAttr, hgu, hgv, hPl, e1, hl1, hlt, e3, e2]) | (refine u'7 ?_; try simp only [wE, simprocAttr]) | refine u'8 ?_ | refine u'9 ?_)
          refine hK4.go ⟨n + 1, by omega, hlt⟩ ⟨?_, .inl ?_⟩ (by simp only; omega)
          · simp only [wS, simprocAttr]; try exact rfl
          · simp only [wS, simprocAttr]; try exact rfl
        · have e4 : decide ((PS.length : Int) > 0) = true := by simp; omega
          repeat' (first | refine u'1 fun _ _ => ?_ | refine u'2 ?_ | ((first | refine u'3 ?_ | refine u'4 ?_ | refine u'5 fun _ _ _ _ => ?_) <;> simp only [wS, simprocAttr, hPl, e4]) | (refine u'6 (fun hg => ?_) (fun hg => ?_) <;> simp only [hg, wS, simprocAttr, hPl, e4]) | (refine u'7 ?_; try simp only [wE, simprocAttr]) | refine u'8 ?_ | refine u'9 ?_)
          refine callR_tree hG0 hlives ?_
          simp only [wS, simprocAttr, e4, hPl]
          repeat' (first | refine u'1 fun _ _ => ?_ | refine u'2 ?_ | ((first | refine u'3 ?_ | refine u'4 ?_ | refine u'5 fun _ _ _ _ => ?_) <;> simp only [wS, simprocAttr]) | (refine u'6 (fun hg => ?_) (fun hg => ?_) <;> simp only [hg, wS, simprocAttr]) | (refine u'7 ?_; try simp only [wE, simprocAttr]) | refine u'8 ?_ | refine u'9 ?_)
          refine body_ret1 rfl ?_
          simp only [wS, simprocAttr]

end Go.Proofs.YtpdibmopbpcfdaaDoor
