import Derived.Test.YtijakngaipdncaaDoorF1
set_option linter.unusedVariables false
namespace Go.Proofs.YtijakngaipdncaaDoor
inductive Mk where
  | mk (k n m i : Int) (g : Bool) (es : List Mk)
namespace Mk
def kind : Mk → Int | mk k _ _ _ _ _ => k
def num : Mk → Int | mk _ n _ _ _ _ => n
def low : Mk → Int | mk _ _ m _ _ _ => m
def gone : Mk → Bool | mk _ _ _ _ g _ => g
def kids : Mk → List Mk | mk _ _ _ _ _ es => es
mutual
def mark : T → Int → Mk | .mk k n m es, i => mk k n m i false (marks es (i + 1))
def marks : List T → Int → List Mk
  | [], _ => []
  | e :: es, i => mark e i :: marks es (i + T.size e)
end
mutual
def plain : Mk → T | mk k n m _ _ es => .mk k n m (plains es)
def plains : List Mk → List T
  | [] => []
  | e :: es => plain e :: plains es
end
theorem plains_map (es : List Mk) : plains es = es.map plain := by induction es <;> simp_all [plains]
theorem plain_eq (x : Mk) : plain x = .mk x.kind x.num x.low (x.kids.map plain) := by cases x; rw [plain, plains_map]; rfl
def cst (kd : Int) (t : Mk) : Bool := decide (t.kind = kd) && (decide (t.low = 0) && (t.kids.isEmpty && if kd = 5 then decide (t.num = 0 ∨ t.num = 1) else decide (-8 ≤ t.num ∧ t.num ≤ 7)))
def known : List Mk → Bool
  | e :: _ => cst 5 e
  | [] => false
def hd : List Mk → Int
  | e :: _ => e.num
  | [] => 0
variable (oC oV : Int → Int → Int → Int)
def op (n m i : Int) (es : List Mk) : Mk :=
  match es with
  | [x, y] => if 0 ≤ n ∧ n < 14 ∧ m = 0 ∧ cst (T.opK n) x = true ∧ cst (T.opK n) y = true ∧ oC n x.num y.num = 0 then mk (if 10 ≤ n then 5 else 4) (oV n x.num y.num) 0 i false [] else mk 9 n m i false es
  | _ => mk 9 n m i false es
def ends (t : Mk) : Bool := decide (t.kind = 19) || decide (t.kind = 20)
def cut : List Mk → List Mk
  | [] => []
  | e :: es => if ends e then [e] else e :: cut es
def part (p : Mk) : List Mk := if p.kind = 13 then p.kids else if p.gone then [] else [p]
def flat (ks : List Mk) : List Mk := cut (ks.flatMap part)
def top (k n m i : Int) (ks : List Mk) : Mk :=
  if k = 9 then op oC oV n m i ks
  else if k = 10 ∧ known ks = true ∧ ks.length = 1 ∧ n = 0 ∧ m = 0 then mk 5 (1 - hd ks) 0 i false []
  else if k = 17 ∧ known ks = true ∧ ks.length = 3 then ks.getD (2 - hd ks).toNat (mk 0 0 0 0 false [])
  else if k = 18 ∧ known ks = true ∧ ks.length = 2 ∧ hd ks = 0 then mk 25 0 0 i true []
  else if k = 13 then mk k n m i false (flat ks)
  else mk k n m i false ks
mutual
def fold : Mk → Mk | mk k n m i _ es => top oC oV k n m i (folds es)
def folds : List Mk → List Mk
  | [] => []
  | e :: es => fold e :: folds es
end
theorem folds_map (es : List Mk) : folds oC oV es = es.map (fold oC oV) := by induction es <;> simp_all [folds]
def pr (x : Mk) : T × Bool := (plain x, x.gone)
theorem pr1 (ks : List Mk) : (ks.map pr).map (·.1) = ks.map plain := by simp [pr, Function.comp_def]
theorem cst_pr (kd : Int) (x : Mk) : T.cst kd (plain x) = cst kd x := by
  rw [plain_eq]
  simp only [T.cst, cst, T.kind, T.low, T.kids, T.num, List.isEmpty_map]
  rfl
theorem known_pr (ks : List Mk) : T.known (ks.map plain) = known ks := by
  cases ks with
  | nil => rfl
  | cons x ks => exact cst_pr 5 x
theorem num_pr (x : Mk) : (plain x).num = x.num := by rw [plain_eq]; rfl
theorem kind_pr (x : Mk) : (plain x).kind = x.kind := by rw [plain_eq]; rfl
theorem kids_pr (x : Mk) : (plain x).kids = x.kids.map plain := by rw [plain_eq]; rfl
theorem hd_pr (ks : List Mk) : T.hd (ks.map plain) = hd ks := by
  cases ks with
  | nil => rfl
  | cons x ks => exact num_pr x
theorem cut_pr : ∀ ks : List Mk, (cut ks).map plain = T.cut (ks.map plain)
  | [] => rfl
  | x :: ks => by
    have : T.ends (plain x) = ends x := by simp only [T.ends, ends, kind_pr]
    rw [cut, List.map_cons, T.cut, this]
    split
    · rfl
    · rw [List.map_cons, cut_pr ks]
theorem parts_pr : ∀ ks : List Mk, (ks.flatMap part).map plain = (ks.map pr).flatMap T.part
  | [] => rfl
  | x :: ks => by
    rw [List.flatMap_cons, List.map_append, List.map_cons, List.flatMap_cons, parts_pr ks]
    congr 1
    rw [part, T.part, pr]
    simp only [kind_pr]
    split
    · rw [kids_pr]
    · split <;> rfl
theorem op_pr (n m i : Int) (ks : List Mk) : pr (op oC oV n m i ks) = (T.opT oC oV n m (ks.map plain), false) := by
  match ks with
  | [] => rfl
  | [x] => rfl
  | x :: y :: z :: ks => simp only [op, T.opT, List.map_cons, pr, plain, plains_map, gone]
  | [x, y] =>
    simp only [op, T.opT, List.map_cons, List.map_nil, cst_pr, num_pr]
    split
    · rfl
    · rfl
theorem top_pr (k n m i : Int) (ks : List Mk) : pr (top oC oV k n m i ks) = T.top oC oV k n m (ks.map pr) := by
  rw [T.top, top, pr1, known_pr, hd_pr, List.length_map]
  split
  · exact op_pr oC oV n m i ks
  · split
    · rfl
    · split
      · simp only [List.getD_eq_getElem?_getD, List.getElem?_map]
        cases ks[(2 - hd ks).toNat]? <;> rfl
      · split
        · rfl
        · split
          · simp only [pr, plain, plains_map, gone, flat, T.flat, cut_pr, parts_pr]
          · simp only [pr, plain, plains_map, gone]
mutual
theorem fold_pr : ∀ (t : T) (i : Int), pr (fold oC oV (mark t i)) = T.fold oC oV t
  | .mk k n m es, i => by rw [mark, fold, top_pr, T.fold, folds_pr es (i + 1)]
theorem folds_pr : ∀ (es : List T) (i : Int), (folds oC oV (marks es i)).map pr = T.folds oC oV es
  | [], _ => rfl
  | e :: es, i => by rw [marks, folds, List.map_cons, T.folds, fold_pr e i, folds_pr es (i + T.size e)]
end
theorem plain_fold (t : T) (i : Int) : plain (fold oC oV (mark t i)) = (T.fold oC oV t).1 := congrArg (·.1) (fold_pr oC oV t i)
mutual
def size : Mk → Nat | mk _ _ _ _ _ es => 1 + sizes es
def sizes : List Mk → Nat
  | [] => 0
  | e :: es => size e + sizes es
end
mutual
theorem size_plain : ∀ x : Mk, T.size (plain x) = size x
  | mk k n m i g es => by rw [plain, T.size, size, sizes_plain es]
theorem sizes_plain : ∀ es : List Mk, T.sizes (plains es) = sizes es
  | [] => rfl
  | e :: es => by rw [plains, T.sizes, sizes, size_plain e, sizes_plain es]
end
mutual
theorem size_mark : ∀ (t : T) (i : Int), size (mark t i) = T.size t
  | .mk k n m es, i => by rw [mark, T.size, size, sizes_marks es (i + 1)]
theorem sizes_marks : ∀ (es : List T) (i : Int), sizes (marks es i) = T.sizes es
  | [], _ => rfl
  | e :: es, i => by rw [marks, T.sizes, sizes, size_mark e i, sizes_marks es (i + T.size e)]
end
end Mk
end Go.Proofs.YtijakngaipdncaaDoor
