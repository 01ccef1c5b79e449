/- How the program lays the steps of ways behind others. No condition. -/
import Derived.Test.YtoiageeecdgleaaLay3
set_option linter.unusedSimpArgs false
set_option linter.unusedVariables false
namespace Go.Proofs.Ytoiageeecdgleaa
open Go Go.Ab
set_option maxRecDepth 100000
namespace Rex
/-- The ways but the last. -/
def preW : Nat → (Nat → Int) → List Rex → List Stp
  | _, _, [] => []
  | n, f, x :: xs => ⟨2, 0, 0, 0, 0, (n : Int) + 1, ((n + 2 + (lay (n + 1) x).length : Nat) : Int)⟩ :: (lay (n + 1) x ++ (⟨3, 0, 0, 0, 0, f 0, 0⟩ :: preW (n + 2 + (lay (n + 1) x).length) (fun t => f (t + 1)) xs))
/-- Where their jumps stand. -/
def jmpW : Nat → List Rex → List Int
  | _, [] => []
  | n, x :: xs => ((n + 1 + (lay (n + 1) x).length : Nat) : Int) :: jmpW (n + 2 + (lay (n + 1) x).length) xs

theorem jmpW_len (n : Nat) (l : List Rex) : (jmpW n l).length = l.length := by
  induction l generalizing n with
  | nil => rfl
  | cons x xs ih => simp [jmpW, ih]

theorem preW_len (n : Nat) (f g : Nat → Int) (l : List Rex) : (preW n f l).length = (preW n g l).length := by
  induction l generalizing n f g with
  | nil => rfl
  | cons x xs ih => simp only [preW, List.length_cons, List.length_append, ih _ (fun t => f (t + 1)) (fun t => g (t + 1))]

theorem layW_pre (n : Nat) (fin : Int) (l : List Rex) (x : Rex) : layW n fin (l ++ [x]) = preW n (fun _ => fin) l ++ lay (n + (preW n (fun _ => 0) l).length) x := by
  induction l generalizing n with
  | nil => simp [layW, preW]
  | cons y ys ih =>
    rw [List.cons_append, layW]
    have : (ys ++ [x]).isEmpty = false := by simp
    rw [this]
    simp only [Bool.false_eq_true, if_false, preW, ih, List.cons_append, List.append_assoc, List.length_cons, List.length_append]
    rw [show n + 2 + (lay (n + 1) y).length + (preW (n + 2 + (lay (n + 1) y).length) (fun _ => 0) ys).length = n + ((lay (n + 1) y).length + ((preW (n + 2 + (lay (n + 1) y).length) (fun _ => 0) ys).length + 1) + 1) by omega]

theorem preW_snoc (n : Nat) (f : Nat → Int) (l : List Rex) (x : Rex) : preW n f (l ++ [x]) = preW n f l ++
    (⟨2, 0, 0, 0, 0, ((n + (preW n f l).length : Nat) : Int) + 1, ((n + (preW n f l).length + 2 + (lay (n + (preW n f l).length + 1) x).length : Nat) : Int)⟩ :: (lay (n + (preW n f l).length + 1) x ++ [⟨3, 0, 0, 0, 0, f l.length, 0⟩])) := by
  induction l generalizing n f with
  | nil => simp [preW]
  | cons y ys ih =>
    have e : n + 2 + (lay (n + 1) y).length + (preW (n + 2 + (lay (n + 1) y).length) (fun t => f (t + 1)) ys).length = n + ((lay (n + 1) y).length + ((preW (n + 2 + (lay (n + 1) y).length) (fun t => f (t + 1)) ys).length + 1) + 1) := by omega
    simp only [List.cons_append, preW, ih, List.append_assoc, List.length_cons, List.length_append, e]

theorem jmpW_snoc (n : Nat) (f : Nat → Int) (l : List Rex) (x : Rex) : jmpW n (l ++ [x]) = jmpW n l ++ [((n + (preW n f l).length + 1 + (lay (n + (preW n f l).length + 1) x).length : Nat) : Int)] := by
  induction l generalizing n f with
  | nil => simp [jmpW, preW]
  | cons y ys ih =>
    have e : n + 2 + (lay (n + 1) y).length + (preW (n + 2 + (lay (n + 1) y).length) (fun t => f (t + 1)) ys).length = n + ((lay (n + 1) y).length + ((preW (n + 2 + (lay (n + 1) y).length) (fun t => f (t + 1)) ys).length + 1) + 1) := by omega
    simp only [List.cons_append, jmpW, preW, ih _ (fun t => f (t + 1)), List.length_cons, List.length_append, e]

/-- A jump is where it is said to be. -/
theorem jump_at (ls : List Stp) (f : Nat → Int) (l : List Rex) (T : List Stp) (i : Nat) (hi : i < l.length) : ∃ j : Nat, (jmpW ls.length l)[i]? = some (j : Int) ∧ j < (ls ++ preW ls.length f l).length ∧
    (ls ++ (preW ls.length f l ++ T))[j]? = some ⟨3, 0, 0, 0, 0, f i, 0⟩ ∧ ∀ v, (ls ++ (preW ls.length f l ++ T)).set j ⟨3, 0, 0, 0, 0, v, 0⟩ = ls ++ (preW ls.length (fun t => if t = i then v else f t) l ++ T) := by
  induction l generalizing ls f i with
  | nil => simp at hi
  | cons x xs ih =>
    cases i with
    | zero =>
      refine ⟨ls.length + 1 + (lay (ls.length + 1) x).length, by simp [jmpW], by simp [preW]; omega, ?_, fun v => ?_⟩
      · rw [preW, List.getElem?_append_right (by omega)]
        simp only [List.cons_append, List.append_assoc]
        rw [show ls.length + 1 + (lay (ls.length + 1) x).length - ls.length = (lay (ls.length + 1) x).length + 1 by omega, List.getElem?_cons_succ, List.getElem?_append_right (by omega)]
        simp
      · rw [preW, List.set_append_right _ _ (by omega)]
        simp only [List.cons_append, List.append_assoc]
        rw [show ls.length + 1 + (lay (ls.length + 1) x).length - ls.length = (lay (ls.length + 1) x).length + 1 by omega, List.set_cons_succ, List.set_append_right _ _ (by omega)]
        simp [preW]
    | succ i =>
      have e : ls.length + 2 + (lay (ls.length + 1) x).length = (ls ++ ((⟨2, 0, 0, 0, 0, (ls.length : Int) + 1, ((ls.length + 2 + (lay (ls.length + 1) x).length : Nat) : Int)⟩ : Stp) :: (lay (ls.length + 1) x ++ [(⟨3, 0, 0, 0, 0, f 0, 0⟩ : Stp)]))).length := by simp; omega
      obtain ⟨j, h1, h2, h3, h4⟩ := ih (ls ++ (⟨2, 0, 0, 0, 0, (ls.length : Int) + 1, ((ls.length + 2 + (lay (ls.length + 1) x).length : Nat) : Int)⟩ :: (lay (ls.length + 1) x ++ [⟨3, 0, 0, 0, 0, f 0, 0⟩]))) (fun t => f (t + 1)) i (by simpa using hi)
      rw [← e] at h1 h2 h3 h4
      refine ⟨j, by rw [jmpW]; simpa using h1, by simpa [preW] using h2, by simpa [preW] using h3, fun v => ?_⟩
      have := h4 v
      simp only [List.cons_append, List.append_assoc, List.nil_append] at this
      simp only [preW, List.cons_append, List.append_assoc, this]
      simp
end Rex
end Go.Proofs.Ytoiageeecdgleaa
