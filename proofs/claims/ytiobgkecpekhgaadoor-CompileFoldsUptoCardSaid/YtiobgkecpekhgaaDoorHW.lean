import Derived.Test.YtiobgkecpekhgaaDoorAC
import Derived.Test.YtiobgkecpekhgaaDoorG
set_option linter.unusedVariables false
set_option linter.unusedSimpArgs false
namespace Go.Proofs.YtiobgkecpekhgaaDoor
open Go.AM
attribute [local irreducible] AWp rgnS callR callV effR valR guardR stepR nextR
def okB : Option (AV × List (Nat × ARow)) → AV → Bool
  | some (v, []), u => eqA v u
  | _, _ => false
theorem okB_ok {o : Option (AV × List (Nat × ARow))} {u : AV} (h : okB o u = true) : o = some (u, []) := by
  unfold okB at h
  split at h
  · rw [eqA_ok _ _ h]
  · cases h
theorem pure_okB {f : FuncId} {args : List AV} {res : AV} (N d : Nat) (T : List (FuncId × List AV × AV)) (hT : ∀ e ∈ T, Pure Tryd.prog G0 e.1 e.2.1 e.2.2) (hres : inR noRef res = true) (h : okB (callX Tryd.prog G0 N T [] d f args []) res = true) : Pure Tryd.prog G0 f args res :=
  pure_of_call N d T [] hT hG0 (by kernel_rfl) hres (okB_ok h)
def w4 (z : Int) : Int := (z + 8) % 16 - 8
def n4 (z : Int) : Nat := (z % 16).toNat
def b01 (b : Bool) : Int := if b then 1 else 0
def opV (n x y : Int) : Int :=
  if n = 0 then w4 (x + y) else if n = 1 then w4 (x - y) else if n = 2 then w4 (x * y)
  else if n = 3 then (if y = 0 then 0 else w4 (x.tdiv y)) else if n = 4 then (if y = 0 then 0 else w4 (x.tmod y))
  else if n = 5 then w4 (Nat.land (n4 x) (n4 y)) else if n = 6 then w4 (Nat.lor (n4 x) (n4 y)) else if n = 7 then w4 (Nat.xor (n4 x) (n4 y))
  else if n = 8 then w4 (x * 2 ^ (n4 y % 4)) else if n = 9 then w4 (x / 2 ^ (n4 y % 4))
  else if n = 10 then b01 (decide (x < y)) else if n = 11 then b01 (decide (x = y)) else if n = 12 then b01 (decide (x ≠ 0) && decide (y ≠ 0)) else b01 (decide (x ≠ 0) || decide (y ≠ 0))
def opC (n y : Int) : Int := if (n = 3 ∨ n = 4) ∧ y = 0 then 2 else 0
def words : List Int := [-8, -7, -6, -5, -4, -3, -2, -1, 0, 1, 2, 3, 4, 5, 6, 7]
def truths : List Int := [0, 1]
theorem mem_words {x : Int} (h1 : -8 ≤ x) (h2 : x ≤ 7) : x ∈ words := by
  simp only [words, List.mem_cons, List.not_mem_nil, or_false]; omega
theorem mem_truths {x : Int} (h : x = 0 ∨ x = 1) : x ∈ truths := by
  simp only [truths, List.mem_cons, List.not_mem_nil, or_false]; omega
noncomputable def opChk (f : FuncId) (n x y : Int) : Bool := okB (callX Tryd.prog G0 60 [] [] 60 f [.int .i64 n, .int .i64 x, .int .i64 y] []) (.tup [.int .i64 (opV n x y), .int .i64 (opC n y)])
noncomputable def opRow (f : FuncId) (n x : Int) (l : List Int) : Bool := l.all fun y => opChk f n x y
noncomputable def opAll (f : FuncId) (n : Int) (l : List Int) : Bool := l.all fun x => opRow f n x l
theorem opAll_ok {f : FuncId} {n x y : Int} {l : List Int} (h : opAll f n l = true) (hx : x ∈ l) (hy : y ∈ l) : Pure Tryd.prog G0 f [.int .i64 n, .int .i64 x, .int .i64 y] (.tup [.int .i64 (opV n x y), .int .i64 (opC n y)]) := by
  have h1 := List.all_eq_true.1 (List.all_eq_true.1 h x hx) y hy
  exact pure_okB 60 60 [] no_table (by simp [inR, inL]) h1
theorem opAll_words {f : FuncId} {n : Int} (hm8 : opRow f n (-8) words = true) (hm7 : opRow f n (-7) words = true) (hm6 : opRow f n (-6) words = true) (hm5 : opRow f n (-5) words = true) (hm4 : opRow f n (-4) words = true) (hm3 : opRow f n (-3) words = true) (hm2 : opRow f n (-2) words = true) (hm1 : opRow f n (-1) words = true) (hp0 : opRow f n (0) words = true) (hp1 : opRow f n (1) words = true) (hp2 : opRow f n (2) words = true) (hp3 : opRow f n (3) words = true) (hp4 : opRow f n (4) words = true) (hp5 : opRow f n (5) words = true) (hp6 : opRow f n (6) words = true) (hp7 : opRow f n (7) words = true) : opAll f n words = true := by
  simp only [opAll, words, List.all_cons, List.all_nil, Bool.and_true, Bool.and_eq_true]
  exact ⟨hm8, hm7, hm6, hm5, hm4, hm3, hm2, hm1, hp0, hp1, hp2, hp3, hp4, hp5, hp6, hp7⟩
end Go.Proofs.YtiobgkecpekhgaaDoor
