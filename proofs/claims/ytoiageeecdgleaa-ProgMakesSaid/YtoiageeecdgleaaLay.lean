/- The steps of a tree of a pattern, as a plain list. No condition. -/
import Derived.Test.YtoiageeecdgleaaChkB
set_option linter.unusedSimpArgs false
set_option linter.unusedVariables false
namespace Go.Proofs.Ytoiageeecdgleaa
open Go Go.Ab
set_option maxRecDepth 100000
namespace Rex

mutual
def lay : Nat → Rex → List Stp
  | n, .mk op a b c d ks =>
    if op == 1 then [⟨1, a, b, c, d, 0, 0⟩]
    else if op == 2 then layL n ks
    else if op == 3 then layW n ((n + (layW n 0 ks).length : Nat) : Int) ks
    else if op == 4 then ⟨2, 0, 0, 0, 0, (n : Int) + 1, ((n + 2 + (layH (n + 1) ks).length : Nat) : Int)⟩ :: (layH (n + 1) ks ++ [⟨3, 0, 0, 0, 0, (n : Int), 0⟩])
    else if op == 5 then layH n ks ++ [⟨2, 0, 0, 0, 0, (n : Int), ((n + (layH n ks).length : Nat) : Int) + 1⟩]
    else if op == 6 then ⟨2, 0, 0, 0, 0, (n : Int) + 1, ((n + 1 + (layH (n + 1) ks).length : Nat) : Int)⟩ :: layH (n + 1) ks
    else []
def layL : Nat → List Rex → List Stp
  | _, [] => []
  | n, x :: xs => lay n x ++ layL (n + (lay n x).length) xs
def layH : Nat → List Rex → List Stp
  | _, [] => []
  | n, x :: _ => lay n x
def layW : Nat → Int → List Rex → List Stp
  | _, _, [] => []
  | n, fin, x :: xs => if xs.isEmpty then lay n x else
      ⟨2, 0, 0, 0, 0, (n : Int) + 1, ((n + 2 + (lay (n + 1) x).length : Nat) : Int)⟩ :: (lay (n + 1) x ++ (⟨3, 0, 0, 0, 0, fin, 0⟩ :: layW (n + 2 + (lay (n + 1) x).length) fin xs))
end

theorem lay_eq (n : Nat) (x : Rex) : lay n x = (if x.op == 1 then [⟨1, x.a, x.b, x.c, x.d, 0, 0⟩]
    else if x.op == 2 then layL n x.ks
    else if x.op == 3 then layW n ((n + (layW n 0 x.ks).length : Nat) : Int) x.ks
    else if x.op == 4 then ⟨2, 0, 0, 0, 0, (n : Int) + 1, ((n + 2 + (layH (n + 1) x.ks).length : Nat) : Int)⟩ :: (layH (n + 1) x.ks ++ [⟨3, 0, 0, 0, 0, (n : Int), 0⟩])
    else if x.op == 5 then layH n x.ks ++ [⟨2, 0, 0, 0, 0, (n : Int), ((n + (layH n x.ks).length : Nat) : Int) + 1⟩]
    else if x.op == 6 then ⟨2, 0, 0, 0, 0, (n : Int) + 1, ((n + 1 + (layH (n + 1) x.ks).length : Nat) : Int)⟩ :: layH (n + 1) x.ks
    else []) := by
  cases x; simp only [lay]; rfl

theorem is_kid {x k : Rex} (h : x.is = true) (hk : k ∈ x.ks) : k.is = true := by
  rw [is_eq] at h
  have key : (plain x && !(x.ks.any fun k => !k.is)) = true → k.is = true := by
    intro h
    simp only [Bool.and_eq_true, Bool.not_eq_true', List.any_eq_false] at h
    simpa using h.2 k hk
  split at h
  · simp at h; rw [h] at hk; cases hk
  · (repeat' split at h) <;> first | exact key h | cases h

theorem is_one_kid {x : Rex} (h : x.is = true) (ho : x.op = 4 ∨ x.op = 5 ∨ x.op = 6) : ∃ k, x.ks = [k] := by
  rw [is_eq] at h
  have key : ¬ ((x.ks.length : Int) != 1) = true → ∃ k, x.ks = [k] := by
    intro h
    simp at h
    match hk : x.ks with
    | [k] => exact ⟨k, rfl⟩
    | [] => rw [hk] at h; simp at h
    | _ :: _ :: _ => rw [hk] at h; simp at h; omega
  rcases ho with ho | ho | ho <;> rw [ho] at h <;> simp at h <;> exact key (by simp; exact_mod_cast h.1)

theorem is_some_kid {x : Rex} (h : x.is = true) (ho : x.op = 3) : x.ks ≠ [] := by
  rw [is_eq, ho] at h
  intro hk
  rw [hk] at h
  simp at h

theorem is_ops {x : Rex} (h : x.is = true) : x.op = 1 ∨ x.op = 2 ∨ x.op = 3 ∨ x.op = 4 ∨ x.op = 5 ∨ x.op = 6 := by
  rw [is_eq] at h
  by_cases h1 : x.op = 1; · exact .inl h1
  by_cases h2 : x.op = 2; · exact .inr (.inl h2)
  by_cases h3 : x.op = 3; · exact .inr (.inr (.inl h3))
  by_cases h4 : x.op = 4; · simp [h4]
  by_cases h5 : x.op = 5; · simp [h5]
  by_cases h6 : x.op = 6; · simp [h6]
  simp [h1, h2, h3, h4, h5, h6] at h

theorem lay_len (n : Nat) (x : Rex) (h : x.is = true) : ((lay n x).length : Int) = x.size := by
  have hL : ∀ (l : List Rex), (∀ k ∈ l, k ∈ x.ks) → ∀ n, ((layL n l).length : Int) = sizeL l := by
    intro l
    induction l with
    | nil => intro _ n; simp [layL, sizeL]
    | cons k l ih =>
      intro hl n
      have h1 := lay_len n k (is_kid h (hl k (by simp)))
      have h2 := ih (fun k hk => hl k (by simp [hk])) (n + (lay n k).length)
      simp only [layL, sizeL, List.length_append]
      omega
  have hW : ∀ (l : List Rex), (∀ k ∈ l, k ∈ x.ks) → ∀ n fin, l ≠ [] → ((layW n fin l).length : Int) = sizeL l + 2 * ((l.length : Int) - 1) := by
    intro l
    induction l with
    | nil => intro _ n fin h; exact absurd rfl h
    | cons k l ih =>
      intro hl n fin _
      cases l with
      | nil =>
        have h1 := lay_len n k (is_kid h (hl k (by simp)))
        simp only [layW, sizeL, List.isEmpty_nil, if_true, List.length_singleton]
        omega
      | cons k' l =>
        have h1 := lay_len (n + 1) k (is_kid h (hl k (by simp)))
        have h2 := ih (fun k hk => hl k (by simp [hk])) (n + 2 + (lay (n + 1) k).length) fin (by simp)
        rw [layW]
        simp only [List.isEmpty_cons, Bool.false_eq_true, if_false, List.length_cons, List.length_append]
        rw [sizeL]
        simp only [List.length_cons] at h2
        omega
  have hH : ∀ k, x.ks = [k] → ∀ n, ((layH n x.ks).length : Int) = sizeL x.ks := by
    intro k hk n
    rw [hk]
    have h1 := lay_len n k (is_kid h (by rw [hk]; simp))
    simp only [layH, sizeL]; omega
  rw [lay_eq, size_eq]
  rcases is_ops h with h1 | h1 | h1 | h1 | h1 | h1
  · simp [h1]
  · simp [h1]; exact hL x.ks (fun _ h => h) n
  · simp [h1]; exact hW x.ks (fun _ h => h) n _ (is_some_kid h h1)
  · obtain ⟨k, hk⟩ := is_one_kid h (.inl h1)
    have := hH k hk (n + 1)
    simp [h1]; omega
  · obtain ⟨k, hk⟩ := is_one_kid h (.inr (.inl h1))
    have := hH k hk n
    simp [h1]; omega
  · obtain ⟨k, hk⟩ := is_one_kid h (.inr (.inr h1))
    have := hH k hk (n + 1)
    simp [h1]; omega
termination_by SizeOf.sizeOf x
decreasing_by
  · exact lt_of_mem (hl k (by simp))
  · exact lt_of_mem (hl k (by simp))
  · exact lt_of_mem (hl k (by simp))
  · exact lt_of_mem (by rw [hk]; simp)
end Rex
end Go.Proofs.Ytoiageeecdgleaa
