import Derived.Test.YtbbgolecnmifpaaDoorW6
set_option linter.unusedVariables false
set_option linter.unusedSimpArgs false
namespace Go.Proofs.YtbbgolecnmifpaaDoor
open Go.AM
set_option maxRecDepth 100000
noncomputable def cmpChk (a b : List AV) : Bool := okB (callX Tryd.prog G0 60 [] [] 60 27 [.agg a, .agg b] []) (.int .i64 0)
theorem cmp_num : (words.all fun v => cmpChk (ndV 4 v) (ndV 4 v)) = true := by kernel_rfl
theorem cmp_truth : (truths.all fun v => cmpChk (ndV 5 v) (ndV 5 v)) = true := by kernel_rfl
theorem cmp_e3 : (words.all fun x => cmpChk (eF 3 4 x 0) (eV 3 4 x 0)) = true := by kernel_rfl
theorem cmp_e4 : (words.all fun x => cmpChk (eF 4 4 x 0) (eV 4 4 x 0)) = true := by kernel_rfl
theorem cmp_O1 : ([-8, -7, -6, -5, -4, -3, -2, -1] : List Int).all (fun x => cmpChk (blkO false x) (blkO true x)) = true := by kernel_rfl
theorem cmp_O2 : ([0, 1, 2, 3, 4, 5, 6, 7] : List Int).all (fun x => cmpChk (blkO false x) (blkO true x)) = true := by kernel_rfl
theorem cmp_S : cmpChk (blkS false) (blkS true) = true := by kernel_rfl
theorem cmp_ok {a b : List AV} (h : cmpChk a b = true) : Pure Tryd.prog G0 27 [.agg a, .agg b] (.int .i64 0) := pure_okB 60 60 [] no_table rfl h
theorem w4_b (z : Int) : -8 ≤ w4 z ∧ w4 z ≤ 7 := by unfold w4; omega
theorem b01_b (b : Bool) : b01 b = 0 ∨ b01 b = 1 := by cases b <;> simp [b01]
def InW (z : Int) : Prop := -8 ≤ z ∧ z ≤ 7
def InT (z : Int) : Prop := z = 0 ∨ z = 1
theorem inW_ite {c : Prop} [Decidable c] {a b : Int} (h1 : InW a) (h2 : InW b) : InW (if c then a else b) := by split <;> assumption
theorem inT_ite {c : Prop} [Decidable c] {a b : Int} (h1 : InT a) (h2 : InT b) : InT (if c then a else b) := by split <;> assumption
theorem inW_b01 (b : Bool) : InW (b01 b) := by rcases b01_b b with h | h <;> rw [h] <;> exact ⟨by omega, by omega⟩
theorem inW_0 : InW 0 := ⟨by omega, by omega⟩
theorem opV_b (n x y : Int) : -8 ≤ opV n x y ∧ opV n x y ≤ 7 := by
  show InW (opV n x y)
  unfold opV
  repeat' (first | exact w4_b _ | exact inW_b01 _ | exact inW_0 | refine inW_ite ?_ ?_)
theorem opV_t {n : Int} (h : 10 ≤ n) (x y : Int) : opV n x y = 0 ∨ opV n x y = 1 := by
  show InT (opV n x y)
  unfold opV
  rw [if_neg (by omega), if_neg (by omega), if_neg (by omega), if_neg (by omega), if_neg (by omega), if_neg (by omega), if_neg (by omega), if_neg (by omega), if_neg (by omega), if_neg (by omega)]
  repeat' (first | exact b01_b _ | refine inT_ite ?_ ?_)
theorem cmp_got {n kd x y : Int} (h : Okay n kd x y) : Pure Tryd.prog G0 27 [.agg (plainV n kd x y), .agg (if opC n y = 0 then ndV (if 10 ≤ n then 5 else 4) (opV n x y) else eV n kd x y)] (.int .i64 0) := by
  unfold plainV
  by_cases hc : opC n y = 0
  · rw [if_pos hc, if_pos hc]
    by_cases h10 : 10 ≤ n
    · rw [if_pos h10]
      have := opV_t h10 x y
      exact cmp_ok (List.all_eq_true.1 cmp_truth _ (mem_truths (by omega) (by omega)))
    · rw [if_neg h10]
      have := opV_b n x y
      exact cmp_ok (List.all_eq_true.1 cmp_num _ (mem_words (by omega) (by omega)))
  · rw [if_neg hc, if_neg hc]
    have hc' : (n = 3 ∨ n = 4) ∧ y = 0 := by
      unfold opC at hc
      split at hc
      · assumption
      · exact absurd rfl hc
    obtain ⟨hn, rfl⟩ := hc'
    rcases h.kd with ⟨rfl, _, _, hx, _⟩ | ⟨_, hn2, _⟩
    · rcases hn with rfl | rfl
      · exact cmp_ok (List.all_eq_true.1 cmp_e3 x hx)
      · exact cmp_ok (List.all_eq_true.1 cmp_e4 x hx)
    · omega
theorem cmp_O {x : Int} (hx : x ∈ words) : cmpChk (blkO false x) (blkO true x) = true := by
  have h : x ∈ ([-8, -7, -6, -5, -4, -3, -2, -1] : List Int) ∨ x ∈ ([0, 1, 2, 3, 4, 5, 6, 7] : List Int) := by
    simp only [words, List.mem_cons, List.not_mem_nil, or_false] at hx ⊢
    omega
  rcases h with h | h
  · exact List.all_eq_true.1 cmp_O1 x h
  · exact List.all_eq_true.1 cmp_O2 x h
theorem cmp_chosen {n kd x y : Int} (h : Okay n kd x y) (h10 : 10 ≤ n) : Pure Tryd.prog G0 27 [.agg (chosenV n x y), .agg (if opV n x y = 1 then blkO true x else blkS true)] (.int .i64 0) := by
  unfold chosenV
  split
  · exact cmp_ok (cmp_O h.word)
  · exact cmp_ok cmp_S

end Go.Proofs.YtbbgolecnmifpaaDoor
