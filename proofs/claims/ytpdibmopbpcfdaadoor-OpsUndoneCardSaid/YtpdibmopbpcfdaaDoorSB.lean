import Derived.Test.YtpdibmopbpcfdaaDoorQ1
import Derived.Test.YtpdibmopbpcfdaaDoorR0
import Derived.Test.YtpdibmopbpcfdaaDoorRp
import Derived.Test.YtpdibmopbpcfdaaDoorS9
import Derived.Test.YtpdibmopbpcfdaaDoorSA
set_option linter.unusedVariables false
set_option linter.unusedSimpArgs false
namespace Go.Proofs.YtpdibmopbpcfdaaDoor
open Go.AM
set_option maxRecDepth 100000
theorem visE_get {f : List Int → List AV → List (List Int)} {p : List Int} : ∀ (es : List (List AV)) (i : Nat) (u : List Int), u ∈ visE f p i es → ∃ j e, es[j]? = some e ∧ u ∈ f (p ++ [((i + j : Nat) : Int)]) e
  | [], _, _, h => by cases h
  | e :: es, i, u, h => by
    rcases List.mem_append.1 h with h | h
    · exact ⟨0, e, rfl, h⟩
    · obtain ⟨j, e', h1, h2⟩ := visE_get es (i + 1) u h
      exact ⟨j + 1, e', h1, by rw [show i + (j + 1) = i + 1 + j by omega]; exact h2⟩
theorem visL_at : ∀ (D : Nat) (p : List Int) (c : List AV) (u : List Int), u ∈ visL D p c → ∃ t c', u = p ++ t ∧ atC c t = some c' := by
  intro D
  induction D with
  | zero => intro p c u h; exact ⟨[], c, by simpa [visL] using h, rfl⟩
  | succ D ih =>
    intro p c u h
    rw [visL_succ] at h
    rcases List.mem_cons.1 h with rfl | h
    · exact ⟨[], c, by simp, rfl⟩
    · obtain ⟨j, e, h1, h2⟩ := visE_get _ _ _ h
      obtain ⟨t, c', rfl, h3⟩ := ih _ _ _ h2
      refine ⟨(j : Int) :: t, c', by simp, ?_⟩
      rw [atC, if_pos (by omega), Int.toNat_natCast, h1]
      exact h3
theorem visL_ats {D : Nat} {c : List AV} (hD : D ≤ 100000) : ∀ p ∈ visL D [] c, p.length ≤ 100000 ∧ ∃ c', atC c p = some c' := fun p hp => by
  obtain ⟨t, c', h1, h2⟩ := visL_at D [] c p hp
  have := visL_plen D [] c p hp
  refine ⟨by simp only [List.length_nil] at this; omega, c', ?_⟩
  rw [h1]; exact h2
theorem opS_mem {E : Nat} {c : List AV} {p : List Int} : ∀ (ol : List (List AV)) (k : Nat) (x : List Int × Nat), x ∈ opS E c p k ol → x.1 = p ∧ ∃ i o, x.2 = k + i ∧ ol[i]? = some o ∧ ∃ y, applyO E o c = some y
  | [], _, _, h => by cases h
  | o :: ol, k, x, h => by
    rcases List.mem_append.1 h with h | h
    · split at h
      · rename_i hs
        obtain rfl := List.mem_singleton.1 h
        exact ⟨rfl, 0, o, rfl, rfl, Option.isSome_iff_exists.1 hs⟩
      · cases h
    · obtain ⟨h1, i, o', h2, h3, h4⟩ := opS_mem ol (k + 1) x h
      exact ⟨h1, i + 1, o', by omega, h3, h4⟩
theorem sitesS_mem {E : Nat} {root : List AV} {ol : List (List AV)} {ps : List (List Int)} {x : List Int × Nat} (h : x ∈ sitesS E root ol ps) : x.1 ∈ ps ∧ ∃ c o, atC root x.1 = some c ∧ ol[x.2]? = some o ∧ ∃ y, applyO E o (wkL c) = some y := by
  obtain ⟨p, hp, h⟩ := List.mem_flatMap.1 h
  unfold sitesAt at h
  split at h
  · rename_i c hc
    obtain ⟨rfl, i, o, h1, h2, h3⟩ := opS_mem _ _ _ h
    rw [Nat.zero_add] at h1
    subst h1
    exact ⟨hp, c, o, hc, h2, h3⟩
  · cases h
theorem SE_get {l : List (List Int × Nat)} {i : Nat} {x : List Int × Nat} (h : l[i]? = some x) : (SE l)[i]? = some [encI x.1, .int .i64 (x.2 : Nat)] := by simp [SE, h]
def stdL : List (List AV) := [oL0, oL1, oL2, oL3, oL4, oL5, oL6, oL7, oL8, oL9, oL10, oL11, oL12, oL13, oL14, oL15, oL16, oL17, oL18, oL19, oL20, oL21, oL22, oL23]
theorem std_ok : ∀ o ∈ stdL, OpC o := by
  intro o ho
  simp only [stdL, List.mem_cons, List.not_mem_nil, or_false] at ho
  rcases ho with rfl | rfl | rfl | rfl | rfl | rfl | rfl | rfl | rfl | rfl | rfl | rfl | rfl | rfl | rfl | rfl | rfl | rfl | rfl | rfl | rfl | rfl | rfl | rfl
  · exact ⟨_, _, _, _, _, _, _, _, _, _, _, _, rfl, nodeB_ok (by kernel_rfl), nodeB_ok (by kernel_rfl), r1⟩
  · exact ⟨_, _, _, _, _, _, _, _, _, _, _, _, rfl, nodeB_ok (by kernel_rfl), nodeB_ok (by kernel_rfl), r2⟩
  · exact ⟨_, _, _, _, _, _, _, _, _, _, _, _, rfl, nodeB_ok (by kernel_rfl), nodeB_ok (by kernel_rfl), r3⟩
  · exact ⟨_, _, _, _, _, _, _, _, _, _, _, _, rfl, nodeB_ok (by kernel_rfl), nodeB_ok (by kernel_rfl), r4⟩
  · exact ⟨_, _, _, _, _, _, _, _, _, _, _, _, rfl, nodeB_ok (by kernel_rfl), nodeB_ok (by kernel_rfl), r5⟩
  · exact ⟨_, _, _, _, _, _, _, _, _, _, _, _, rfl, nodeB_ok (by kernel_rfl), nodeB_ok (by kernel_rfl), r6⟩
  · exact ⟨_, _, _, _, _, _, _, _, _, _, _, _, rfl, nodeB_ok (by kernel_rfl), nodeB_ok (by kernel_rfl), r7⟩
  · exact ⟨_, _, _, _, _, _, _, _, _, _, _, _, rfl, nodeB_ok (by kernel_rfl), nodeB_ok (by kernel_rfl), r8⟩
  · exact ⟨_, _, _, _, _, _, _, _, _, _, _, _, rfl, nodeB_ok (by kernel_rfl), nodeB_ok (by kernel_rfl), r9⟩
  · exact ⟨_, _, _, _, _, _, _, _, _, _, _, _, rfl, nodeB_ok (by kernel_rfl), nodeB_ok (by kernel_rfl), r10⟩
  · exact ⟨_, _, _, _, _, _, _, _, _, _, _, _, rfl, nodeB_ok (by kernel_rfl), nodeB_ok (by kernel_rfl), r11⟩
  · exact ⟨_, _, _, _, _, _, _, _, _, _, _, _, rfl, nodeB_ok (by kernel_rfl), nodeB_ok (by kernel_rfl), r12⟩
  · exact ⟨_, _, _, _, _, _, _, _, _, _, _, _, rfl, nodeB_ok (by kernel_rfl), nodeB_ok (by kernel_rfl), r13⟩
  · exact ⟨_, _, _, _, _, _, _, _, _, _, _, _, rfl, nodeB_ok (by kernel_rfl), nodeB_ok (by kernel_rfl), r14⟩
  · exact ⟨_, _, _, _, _, _, _, _, _, _, _, _, rfl, nodeB_ok (by kernel_rfl), nodeB_ok (by kernel_rfl), r15⟩
  · exact ⟨_, _, _, _, _, _, _, _, _, _, _, _, rfl, nodeB_ok (by kernel_rfl), nodeB_ok (by kernel_rfl), r16⟩
  · exact ⟨_, _, _, _, _, _, _, _, _, _, _, _, rfl, nodeB_ok (by kernel_rfl), nodeB_ok (by kernel_rfl), r17⟩
  · exact ⟨_, _, _, _, _, _, _, _, _, _, _, _, rfl, nodeB_ok (by kernel_rfl), nodeB_ok (by kernel_rfl), r18⟩
  · exact ⟨_, _, _, _, _, _, _, _, _, _, _, _, rfl, nodeB_ok (by kernel_rfl), nodeB_ok (by kernel_rfl), r19⟩
  · exact ⟨_, _, _, _, _, _, _, _, _, _, _, _, rfl, nodeB_ok (by kernel_rfl), nodeB_ok (by kernel_rfl), r20⟩
  · exact ⟨_, _, _, _, _, _, _, _, _, _, _, _, rfl, nodeB_ok (by kernel_rfl), nodeB_ok (by kernel_rfl), r21⟩
  · exact ⟨_, _, _, _, _, _, _, _, _, _, _, _, rfl, nodeB_ok (by kernel_rfl), nodeB_ok (by kernel_rfl), r22⟩
  · exact ⟨_, _, _, _, _, _, _, _, _, _, _, _, rfl, nodeB_ok (by kernel_rfl), nodeB_ok (by kernel_rfl), r23⟩
  · exact ⟨_, _, _, _, _, _, _, _, _, _, _, _, rfl, nodeB_ok (by kernel_rfl), nodeB_ok (by kernel_rfl), r24⟩
def bkOf : List AV → Int
  | [_, _, _, _, _, _, _, _, _, .int _ b] => b
  | _ => 0
theorem std_undo {E : Nat} (hE : 1 ≤ E) {c x : List AV} (hc : NodeV E c) (hw : wkL c = c) : ∀ (j : Nat) (o : List AV), stdL[j]? = some o → applyO E o c = some x → ¬ bkOf o < 0 → ∃ o', stdL[(bkOf o).toNat]? = some o' ∧ bkOf o < 24 ∧ applyO (8 + E) o' x = some c := by
  intro j o h hx hb
  match j, h with
  | 0, h => injection h with h; subst h; exact ⟨oL1, rfl, by decide, bin_undo hE (n := 0) (n' := 1) (by decide) (by decide) hc hw (nodeB_ok (by kernel_rfl)) (nodeB_ok (by kernel_rfl)) hx⟩
  | 1, h => injection h with h; subst h; exact ⟨oL0, rfl, by decide, bin_undo hE (n := 1) (n' := 0) (by decide) (by decide) hc hw (nodeB_ok (by kernel_rfl)) (nodeB_ok (by kernel_rfl)) hx⟩
  | 2, h => injection h with h; subst h; exact ⟨oL3, rfl, by decide, bin_undo hE (n := 10) (n' := 11) (by decide) (by decide) hc hw (nodeB_ok (by kernel_rfl)) (nodeB_ok (by kernel_rfl)) hx⟩
  | 3, h => injection h with h; subst h; exact ⟨oL2, rfl, by decide, bin_undo hE (n := 11) (n' := 10) (by decide) (by decide) hc hw (nodeB_ok (by kernel_rfl)) (nodeB_ok (by kernel_rfl)) hx⟩
  | 4, h => injection h with h; subst h; exact ⟨oL5, rfl, by decide, bin_undo hE (n := 12) (n' := 13) (by decide) (by decide) hc hw (nodeB_ok (by kernel_rfl)) (nodeB_ok (by kernel_rfl)) hx⟩
  | 5, h => injection h with h; subst h; exact ⟨oL4, rfl, by decide, bin_undo hE (n := 13) (n' := 12) (by decide) (by decide) hc hw (nodeB_ok (by kernel_rfl)) (nodeB_ok (by kernel_rfl)) hx⟩
  | 6, h => injection h with h; subst h; exact ⟨oL7, rfl, by decide, neg_undo hE hc hw (nodeB_ok (by kernel_rfl)) (nodeB_ok (by kernel_rfl)) hx⟩
  | 7, h => injection h with h; subst h; exact ⟨oL6, rfl, by decide, aff_undo hE hc hw (nodeB_ok (by kernel_rfl)) (nodeB_ok (by kernel_rfl)) hx⟩
  | 8, h => injection h with h; subst h; exact ⟨oL8, rfl, by decide, swap_undo hE hc hw (nodeB_ok (by kernel_rfl)) (nodeB_ok (by kernel_rfl)) hx⟩
  | 9, h => injection h with h; subst h; exact ⟨oL9, rfl, by decide, turn_undo hE hc hw (nodeB_ok (by kernel_rfl)) (nodeB_ok (by kernel_rfl)) hx⟩
  | 10, h => injection h with h; subst h; exact ⟨oL11, rfl, by decide, leaf_undo hE (k := 5) (n := 0) (n' := 1) (by decide) (by decide) (by decide) hc hw (nodeB_ok (by kernel_rfl)) (nodeB_ok (by kernel_rfl)) hx⟩
  | 11, h => injection h with h; subst h; exact ⟨oL10, rfl, by decide, leaf_undo hE (k := 5) (n := 1) (n' := 0) (by decide) (by decide) (by decide) hc hw (nodeB_ok (by kernel_rfl)) (nodeB_ok (by kernel_rfl)) hx⟩
  | 12, h => injection h with h; subst h; exact ⟨oL13, rfl, by decide, leaf_undo hE (k := 4) (n := 0) (n' := 1) (by decide) (by decide) (by decide) hc hw (nodeB_ok (by kernel_rfl)) (nodeB_ok (by kernel_rfl)) hx⟩
  | 13, h => injection h with h; subst h; exact ⟨oL12, rfl, by decide, leaf_undo hE (k := 4) (n := 1) (n' := 0) (by decide) (by decide) (by decide) hc hw (nodeB_ok (by kernel_rfl)) (nodeB_ok (by kernel_rfl)) hx⟩
  | 14, h => injection h with h; subst h; exact ⟨oL15, rfl, by decide, bin_undo hE (n := 2) (n' := 3) (by decide) (by decide) hc hw (nodeB_ok (by kernel_rfl)) (nodeB_ok (by kernel_rfl)) hx⟩
  | 15, h => injection h with h; subst h; exact ⟨oL14, rfl, by decide, bin_undo hE (n := 3) (n' := 2) (by decide) (by decide) hc hw (nodeB_ok (by kernel_rfl)) (nodeB_ok (by kernel_rfl)) hx⟩
  | 16, h => injection h with h; subst h; exact ⟨oL17, rfl, by decide, bin_undo hE (n := 5) (n' := 6) (by decide) (by decide) hc hw (nodeB_ok (by kernel_rfl)) (nodeB_ok (by kernel_rfl)) hx⟩
  | 17, h => injection h with h; subst h; exact ⟨oL16, rfl, by decide, bin_undo hE (n := 6) (n' := 5) (by decide) (by decide) hc hw (nodeB_ok (by kernel_rfl)) (nodeB_ok (by kernel_rfl)) hx⟩
  | 18, h => injection h with h; subst h; exact ⟨oL19, rfl, by decide, bin_undo hE (n := 8) (n' := 9) (by decide) (by decide) hc hw (nodeB_ok (by kernel_rfl)) (nodeB_ok (by kernel_rfl)) hx⟩
  | 19, h => injection h with h; subst h; exact ⟨oL18, rfl, by decide, bin_undo hE (n := 9) (n' := 8) (by decide) (by decide) hc hw (nodeB_ok (by kernel_rfl)) (nodeB_ok (by kernel_rfl)) hx⟩
  | 20, h => injection h with h; subst h; exact absurd (show bkOf oL20 < 0 by decide) hb
  | 21, h => injection h with h; subst h; exact absurd (show bkOf oL21 < 0 by decide) hb
  | 22, h => injection h with h; subst h; exact ⟨oL23, rfl, by decide, next_undo hE hc hw (nodeB_ok (by kernel_rfl)) (nodeB_ok (by kernel_rfl)) hx⟩
  | 23, h => injection h with h; subst h; exact ⟨oL22, rfl, by decide, back_undo hE hc hw (nodeB_ok (by kernel_rfl)) (nodeB_ok (by kernel_rfl)) hx⟩
  | j + 24, h => exact absurd h (by simp [stdL])
theorem visL_14b {c : List AV} (h : NodeV 14 c) : (visL 14 [] c).length ≤ 20000000000 := Nat.le_trans (visL_len 14 [] c h) (by decide)
theorem sites_std {c : List AV} (hc : NodeV 14 c) : Pure Tryd.prog G0 12 [.agg c, stdV] (.sl false (SE (sitesS 14 c stdL (visL 14 [] c)))) := sites_12 (by decide) c hc true stdL std_ok (by decide) _ (paths_ok c hc (by decide) (visL_14 hc)) (visL_ats (by decide)) (visL_14b hc)
end Go.Proofs.YtpdibmopbpcfdaaDoor
set_option linter.unusedVariables false
set_option linter.unusedSimpArgs false
namespace Go.Proofs.YtpdibmopbpcfdaaDoor
open Go.AM
set_option maxRecDepth 100000
theorem r251 : Pure Tryd.prog G0 25 [.agg [.int .i64 9, .int .i64 1, .int .i64 0, .sl true [[.int .i64 28, .int .i64 0, .int .i64 0, .sl true []], [.int .i64 28, .int .i64 0, .int .i64 0, .sl true []]]], .agg [.int .i64 9, .int .i64 1, .int .i64 0, .sl true [[.int .i64 6, .int .i64 0, .int .i64 0, .sl true []], [.int .i64 6, .int .i64 0, .int .i64 0, .sl true []]]]] (.tup [.sl false [[.int .i64 6, .int .i64 0, .int .i64 0, .sl true []]], .bool true]) := pure_of_call 60 60 _ [60] no_table hG0 (by kernel_rfl) (by kernel_rfl) (by kernel_rfl)
theorem r252 : Pure Tryd.prog G0 25 [.agg [.int .i64 9, .int .i64 1, .int .i64 0, .sl true [[.int .i64 28, .int .i64 0, .int .i64 0, .sl true []], [.int .i64 28, .int .i64 0, .int .i64 0, .sl true []]]], .agg [.int .i64 9, .int .i64 1, .int .i64 0, .sl true [[.int .i64 6, .int .i64 0, .int .i64 0, .sl true []], [.int .i64 6, .int .i64 1, .int .i64 0, .sl true []]]]] (.tup [.sl true [], .bool false]) := pure_of_call 60 60 _ [60] no_table hG0 (by kernel_rfl) (by kernel_rfl) (by kernel_rfl)
theorem r253 : Pure Tryd.prog G0 14 [oV0, .agg [.int .i64 9, .int .i64 0, .int .i64 0, .sl true [[.int .i64 6, .int .i64 0, .int .i64 0, .sl true []], [.int .i64 4, .int .i64 1, .int .i64 0, .sl true []]]]] (.tup [.agg [.int .i64 9, .int .i64 1, .int .i64 0, .sl false [[.int .i64 6, .int .i64 0, .int .i64 0, .sl true []], [.int .i64 4, .int .i64 1, .int .i64 0, .sl true []]]], .bool true]) := pure_of_call 60 60 _ [60] (tbl_cons r1 no_table) hG0 (by kernel_rfl) (by kernel_rfl) (by kernel_rfl)
theorem r254 : Pure Tryd.prog G0 14 [oV0, .agg [.int .i64 9, .int .i64 1, .int .i64 0, .sl true [[.int .i64 6, .int .i64 0, .int .i64 0, .sl true []], [.int .i64 4, .int .i64 1, .int .i64 0, .sl true []]]]] (.tup [.agg [.int .i64 0, .int .i64 0, .int .i64 0, .sl true []], .bool false]) := pure_of_call 60 60 _ [60] (tbl_cons r1 no_table) hG0 (by kernel_rfl) (by kernel_rfl) (by kernel_rfl)
theorem r255 : Pure Tryd.prog G0 12 [condV, stdV] (.sl false [[.sl false [], .int .i64 6], [.sl false [], .int .i64 8], [.sl false [[.int .i64 0]], .int .i64 2], [.sl false [[.int .i64 0], [.int .i64 0]], .int .i64 0], [.sl false [[.int .i64 0], [.int .i64 0], [.int .i64 1]], .int .i64 13]]) := by
  have h := sites_12 (E := 5) (by decide) condL condL_ok true stdL std_ok (by decide) (visL 5 [] condL) (paths_ok condL condL_ok (by decide) (by decide +kernel)) (visL_ats (by decide)) (by decide +kernel)
  have e : AV.sl false (SE (sitesS 5 condL stdL (visL 5 [] condL))) = .sl false [[.sl false [], .int .i64 6], [.sl false [], .int .i64 8], [.sl false [[.int .i64 0]], .int .i64 2], [.sl false [[.int .i64 0], [.int .i64 0]], .int .i64 0], [.sl false [[.int .i64 0], [.int .i64 0], [.int .i64 1]], .int .i64 13]] := by kernel_rfl
  rw [e] at h
  exact h
theorem r256 : Pure Tryd.prog G0 28 [.sl false [[.sl false [], .int .i64 6], [.sl false [], .int .i64 8], [.sl false [[.int .i64 0]], .int .i64 2], [.sl false [[.int .i64 0], [.int .i64 0]], .int .i64 0], [.sl false [[.int .i64 0], [.int .i64 0], [.int .i64 1]], .int .i64 13]], .sl true [[.sl true [], .int .i64 6], [.sl true [], .int .i64 8], [.sl true [[.int .i64 0]], .int .i64 2], [.sl true [[.int .i64 0], [.int .i64 0]], .int .i64 0], [.sl true [[.int .i64 0], [.int .i64 0], [.int .i64 1]], .int .i64 13]]] (.bool true) := pure_of_call 60 60 _ [] no_table hG0 (by kernel_rfl) (by kernel_rfl) (by kernel_rfl)
theorem r257 : Pure Tryd.prog G0 5 [.agg [.sl true [], .int .i64 8], .agg [.sl true [[.int .i64 0]], .int .i64 2]] (.int .i64 (-1)) := pure_of_call 60 60 _ [] no_table hG0 (by kernel_rfl) (by kernel_rfl) (by kernel_rfl)
theorem r258 : Pure Tryd.prog G0 26 [.agg [.int .i64 9, .int .i64 1, .int .i64 0, .sl false [[.int .i64 6, .int .i64 0, .int .i64 0, .sl true []], [.int .i64 4, .int .i64 1, .int .i64 0, .sl true []]]], .agg [.int .i64 9, .int .i64 1, .int .i64 0, .sl true [[.int .i64 6, .int .i64 0, .int .i64 0, .sl true []], [.int .i64 4, .int .i64 1, .int .i64 0, .sl true []]]]] (.bool true) := pure_of_call 60 60 _ [] no_table hG0 (by kernel_rfl) (by kernel_rfl) (by kernel_rfl)
theorem r259 : Pure Tryd.prog G0 9 [] (.bool true) := pure_of_call 60 60 _ [] (tbl_cons r0 (tbl_cons r253 (tbl_cons r254 (tbl_cons r251 (tbl_cons r252 (tbl_cons r258 (tbl_cons r23 (tbl_cons r255 (tbl_cons r256 (tbl_cons r257 no_table)))))))))) hG0 (by kernel_rfl) (by kernel_rfl) (by kernel_rfl)
end Go.Proofs.YtpdibmopbpcfdaaDoor
