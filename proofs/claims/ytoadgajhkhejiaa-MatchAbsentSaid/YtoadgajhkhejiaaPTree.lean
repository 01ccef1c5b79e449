/- Trees of patterns: how many nodes they have, whether they are one, how many steps. No condition. -/
import Derived.Test.YtoadgajhkhejiaaDr4
import Derived.Test.YtoadgajhkhejiaaAbSX
set_option linter.unusedSimpArgs false
set_option linter.unusedVariables false
namespace Go.Proofs.Ytoadgajhkhejiaa
open Go Go.Ab
set_option maxRecDepth 100000
abbrev U (n : Int) : AV := .pl (.int .u64 n)

inductive Rex where
  | mk (op a b c d : Int) (ks : List Rex)

namespace Rex
def op : Rex → Int | .mk op _ _ _ _ _ => op
def a : Rex → Int | .mk _ a _ _ _ _ => a
def b : Rex → Int | .mk _ _ b _ _ _ => b
def c : Rex → Int | .mk _ _ _ c _ _ => c
def d : Rex → Int | .mk _ _ _ _ d _ => d
def ks : Rex → List Rex | .mk _ _ _ _ _ ks => ks
mutual
def av : Rex → AV
  | .mk op a b c d ks => .agg [I op, U a, U b, U c, U d, .sl 6 (avL ks)]
def avL : List Rex → List AV
  | [] => []
  | x :: xs => av x :: avL xs
end
theorem avL_eq : ∀ l : List Rex, avL l = l.map av
  | [] => rfl
  | x :: xs => by rw [avL, avL_eq xs]; rfl

theorem av_eq (x : Rex) : x.av = .agg [I x.op, U x.a, U x.b, U x.c, U x.d, .sl 6 (x.ks.map av)] := by
  cases x; simp only [av, op, a, b, c, d, ks, avL_eq]

theorem lt_of_mem {x y : Rex} (h : y ∈ x.ks) : SizeOf.sizeOf y < SizeOf.sizeOf x := by
  cases x
  have := List.sizeOf_lt_of_mem h
  simp only [ks] at this
  simp
  omega

mutual
def nodes : Rex → Nat
  | .mk _ _ _ _ _ ks => 1 + nodesL ks
def nodesL : List Rex → Nat
  | [] => 0
  | x :: xs => nodes x + nodesL xs
end
theorem nodes_eq (x : Rex) : x.nodes = 1 + nodesL x.ks := by cases x; rfl

mutual
def cut : Rex → Int → Int
  | .mk _ _ _ _ _ ks, most => cutL ks most 1
def cutL : List Rex → Int → Int → Int
  | [], _, n => n
  | x :: xs, most, n => if n ≤ most then cutL xs most (n + cut x (most - n)) else n
end
theorem cut_eq (x : Rex) (most : Int) : x.cut most = cutL x.ks most 1 := by cases x; rfl

mutual
theorem cut_le : ∀ (x : Rex) (most : Int), 0 ≤ most → 1 ≤ x.cut most ∧ x.cut most ≤ most + 1
  | .mk _ _ _ _ _ ks, most, h => by
    rw [cut]
    have := cutL_le ks most 1 (by omega) (by omega)
    omega
theorem cutL_le : ∀ (l : List Rex) (most n : Int), 0 ≤ n → n ≤ most + 1 → n ≤ cutL l most n ∧ cutL l most n ≤ most + 1
  | [], most, n, h, h' => by simp only [cutL]; omega
  | x :: xs, most, n, h, h' => by
    simp only [cutL]
    split
    · have h1 := cut_le x (most - n) (by omega)
      have h2 := cutL_le xs most (n + x.cut (most - n)) (by omega) (by omega)
      omega
    · omega
end

mutual
theorem cut_nodes : ∀ (x : Rex) (most : Int), 0 ≤ most → x.cut most ≤ most → (x.nodes : Int) = x.cut most
  | .mk _ _ _ _ _ ks, most, h, h' => by
    rw [cut] at h' ⊢
    have := cutL_nodes ks most 1 (by omega) (by omega) h'
    rw [nodes]; omega
theorem cutL_nodes : ∀ (l : List Rex) (most n : Int), 0 ≤ n → n ≤ most + 1 → cutL l most n ≤ most → (nodesL l : Int) + n = cutL l most n
  | [], most, n, h, hn, h' => by simp only [cutL, nodesL]; omega
  | x :: xs, most, n, h, hn, h' => by
    simp only [cutL] at h' ⊢
    split at h'
    · rename_i hle
      rw [if_pos hle]
      have h1 := cut_le x (most - n) (by omega)
      have h2 := cutL_le xs most (n + x.cut (most - n)) (by omega) (by omega)
      have h3 := cut_nodes x (most - n) (by omega) (by omega)
      have h4 := cutL_nodes xs most (n + x.cut (most - n)) (by omega) (by omega) h'
      rw [nodesL]; omega
    · omega
end

/-- How many nodes have been met ahead of kid i. -/
def run (ks : List Rex) (most : Int) : Nat → Int
  | 0 => 1
  | i + 1 => match ks[i]? with
    | some x => run ks most i + x.cut (most - run ks most i)
    | none => run ks most i

theorem run_le (ks : List Rex) (most : Int) (hm : 0 ≤ most) : ∀ i, i ≤ ks.length → (∀ j, j < i → run ks most j ≤ most) → (i : Int) + 1 ≤ run ks most i ∧ run ks most i ≤ most + 1
  | 0, _, _ => by simp only [run]; omega
  | i + 1, hi, h => by
    have h1 := run_le ks most hm i (by omega) (fun j hj => h j (by omega))
    have h2 := h i (by omega)
    have e : ks[i]? = some (ks[i]'(by omega)) := List.getElem?_eq_getElem _
    simp only [run, e]
    have h3 := cut_le (ks[i]'(by omega)) (most - run ks most i) (by omega)
    omega

theorem run_cut (ks : List Rex) (most : Int) : ∀ i, i ≤ ks.length → (∀ j, j < i → run ks most j ≤ most) → cutL ks most 1 = cutL (ks.drop i) most (run ks most i)
  | 0, _, _ => by simp [run]
  | i + 1, hi, h => by
    rw [run_cut ks most i (by omega) (fun j hj => h j (by omega))]
    have e : ks[i]? = some (ks[i]'(by omega)) := List.getElem?_eq_getElem _
    rw [List.drop_eq_getElem_cons (show i < ks.length by omega)]
    simp only [cutL, run, e]
    rw [if_pos (h i (by omega))]
end Rex
open Rex

section
variable (σ : St)

end
end Go.Proofs.Ytoadgajhkhejiaa
