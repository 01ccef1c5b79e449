/- The parser of patterns: what the program's parser computes. No condition. -/
import Derived.Test.YtoadgajhkhejiaaPPar4
set_option linter.unusedSimpArgs false
set_option linter.unusedVariables false
namespace Go.Proofs.Ytoadgajhkhejiaa
open Go Go.Ab
set_option maxRecDepth 100000

namespace Rex
mutual
/-- A tree with nil kids where there are none. -/
def rv : Rex → AV
  | .mk op a b c d ks => .agg [I op, U a, U b, U c, U d, rvK ks]
def rvK : List Rex → AV
  | [] => .nils
  | x :: xs => .sl 6 (rv x :: rvL xs)
def rvL : List Rex → List AV
  | [] => []
  | x :: xs => rv x :: rvL xs
end
theorem rvL_eq : ∀ l : List Rex, rvL l = l.map rv
  | [] => rfl
  | x :: xs => by rw [rvL, rvL_eq xs]; rfl
theorem rvK_cons (x : Rex) (xs : List Rex) : rvK (x :: xs) = .sl 6 ((x :: xs).map rv) := by rw [rvK, rvL_eq]; rfl
theorem rvK_ne {l : List Rex} (h : l ≠ []) : rvK l = .sl 6 (l.map rv) := by
  cases l with
  | nil => exact absurd rfl h
  | cons x xs => exact rvK_cons x xs
theorem rv_eq (x : Rex) : x.rv = .agg [I x.op, U x.a, U x.b, U x.c, U x.d, rvK x.ks] := by
  cases x; rfl
theorem rvK_cases (ks : List Rex) : rvK ks = .nils ∨ ∃ l, rvK ks = .sl 6 l := by
  cases ks with
  | nil => exact .inl rfl
  | cons x xs => exact .inr ⟨_, rvK_cons x xs⟩
mutual
theorem bel_rv (n : Nat) : ∀ x : Rex, Bel n x.rv
  | .mk op a b c d ks => by
    have hk := bel_rvK n ks
    rw [rv]
    refine .agg _ fun i hi => ?_
    have : ∀ y ∈ [I op, U a, U b, U c, U d, rvK ks], Bel n y := by
      intro y hy
      simp only [List.mem_cons, List.not_mem_nil, or_false] at hy
      rcases hy with rfl | rfl | rfl | rfl | rfl | rfl
      · exact .pl _
      · exact .pl _
      · exact .pl _
      · exact .pl _
      · exact .pl _
      · exact hk
    exact this _ (List.getElem_mem hi)
theorem bel_rvK (n : Nat) : ∀ ks : List Rex, Bel n (rvK ks)
  | [] => .nils
  | x :: xs => by
    have h1 := bel_rv n x
    have h2 := bel_rvL n xs
    rw [rvK]
    refine .sl 6 _ fun i hi => ?_
    have : ∀ y ∈ rv x :: rvL xs, Bel n y := by
      intro y hy
      rcases List.mem_cons.1 hy with rfl | hy
      · exact h1
      · exact h2 y hy
    exact this _ (List.getElem_mem hi)
theorem bel_rvL (n : Nat) : ∀ ks : List Rex, ∀ y ∈ rvL ks, Bel n y
  | [] => fun y hy => absurd hy (by rw [rvL]; exact List.not_mem_nil)
  | x :: xs => fun y hy => by
    have h1 := bel_rv n x
    have h2 := bel_rvL n xs
    rw [rvL] at hy
    rcases List.mem_cons.1 hy with rfl | hy
    · exact h1
    · exact h2 y hy
end
end Rex

def ofSet (S : List Int) : Rex := .mk 1 (S.getD 0 0) (S.getD 1 0) (S.getD 2 0) (S.getD 3 0) []
abbrev z4 : List Int := [0, 0, 0, 0]
abbrev PF := Nat → Bool → Rex × Nat × Bool

def patom (s : ByteArray) (F : PF) (d : Nat) : PF := fun a b =>
  let q := pbyte s a b
  if q.1 == 40 then
    let w := if q.2.2 || d == 8 then (ofSet z4, q.2.1, q.2.2 || d == 8) else F q.2.1 q.2.2
    (w.1, nextA s w.2.1 w.2.2 41, !sees s w.2.1 w.2.2 41 || w.2.2)
  else if q.1 == 91 then
    let k := pclass s q.2.1 q.2.2
    (ofSet k.1, k.2.1, k.2.2)
  else if q.1 == 46 then (ofSet (turnS z4), q.2.1, q.2.2)
  else if q.1 == 92 then
    let k := psign s q.2.1 q.2.2
    (ofSet (setAdd z4 k.1), k.2.1, k.2.2)
  else (ofSet (setAdd z4 q.1), q.2.1, q.2.2 || stray.contains q.1)

def pfactor (s : ByteArray) (F : PF) : PF := fun a b =>
  let x := F a b
  if sees s x.2.1 x.2.2 42 then (.mk 4 0 0 0 0 [x.1], x.2.1 + 1, x.2.2)
  else if sees s x.2.1 x.2.2 43 then (.mk 5 0 0 0 0 [x.1], x.2.1 + 1, x.2.2)
  else if sees s x.2.1 x.2.2 63 then (.mk 6 0 0 0 0 [x.1], x.2.1 + 1, x.2.2)
  else x

def wGo (s : ByteArray) (a : Nat) (b : Bool) : Bool := !over s a b && (!sees s a b 124 && !sees s a b 41)
def pwayL (s : ByteArray) (F : PF) : Nat → List Rex → Nat → Bool → List Rex × Nat × Bool
  | 0, K, a, b => (K, a, b)
  | n + 1, K, a, b => if wGo s a b then pwayL s F n (K ++ [(F a b).1]) (F a b).2.1 (F a b).2.2 else (K, a, b)
def one (op : Int) : List Rex → Rex
  | [x] => x
  | K => .mk op 0 0 0 0 K
def pway (s : ByteArray) (F : PF) : PF := fun a b =>
  (one 2 (pwayL s F (s.size + 1) [] a b).1, (pwayL s F (s.size + 1) [] a b).2)
def pwaysL (s : ByteArray) (F : PF) : Nat → List Rex → Nat → Bool → List Rex × Nat × Bool
  | 0, K, a, b => (K, a, b)
  | n + 1, K, a, b => if sees s a b 124 then pwaysL s F n (K ++ [(F (a + 1) b).1]) (F (a + 1) b).2.1 (F (a + 1) b).2.2 else (K, a, b)
def pways (s : ByteArray) (F : PF) : PF := fun a b =>
  (one 3 (pwaysL s F (s.size + 1) [(F a b).1] (F a b).2.1 (F a b).2.2).1, (pwaysL s F (s.size + 1) [(F a b).1] (F a b).2.1 (F a b).2.2).2)
def lvl (s : ByteArray) (W : PF) (d : Nat) : PF := pways s (pway s (pfactor s (patom s W d)))
/-- Ways, so many groups ahead of the most. -/
def PW (s : ByteArray) : Nat → PF
  | 0 => lvl s (fun a b => (ofSet z4, a, b)) 8
  | k + 1 => lvl s (PW s k) (7 - k)

/-- It goes forward, and bad stays bad. -/
def Fwd (F : PF) : Prop := ∀ a b, a ≤ (F a b).2.1 ∧ (b = true → (F a b).2.2 = true)
theorem Fwd.hs {F : PF} (h : Fwd F) {s : ByteArray} {a : Nat} {b : Bool} (hs : b = true ∨ s.size ≤ 40) : (F a b).2.2 = true ∨ s.size ≤ 40 := by
  rcases hs with rfl | hs
  · exact .inl ((h a true).2 rfl)
  · exact .inr hs

theorem nextA_ge (s : ByteArray) (a : Nat) (b : Bool) (c : Nat) : a ≤ nextA s a b c := by unfold nextA; split <;> omega
theorem sees_true (s : ByteArray) (a c : Nat) : sees s a true c = false := by simp [sees, over]
theorem sees_lt {s : ByteArray} {a : Nat} {b : Bool} {c : Nat} (h : sees s a b c = true) : a < s.size ∧ b = false := by
  simp [sees, over] at h; exact ⟨by omega, h.1.1⟩
theorem wGo_lt {s : ByteArray} {a : Nat} {b : Bool} (h : wGo s a b = true) : a < s.size ∧ b = false := by
  simp [wGo, over] at h; exact ⟨by omega, h.1.1⟩

theorem classL_ge (s : ByteArray) : ∀ (n : Nat) (S : List Int) (a : Nat) (b first : Bool), a ≤ (classL s n S a b first).2.1 ∧ (b = true → (classL s n S a b first).2.2 = true)
  | 0, S, a, b, first => ⟨Nat.le_refl _, id⟩
  | n + 1, S, a, b, first => by
    rw [classL]; split
    · have h := classL_ge s n (addR S (pmember s a b).1 ((cTo s a b).1 + 1 - (pmember s a b).1)) (cTo s a b).2.1 (cBad s a b) false
      refine ⟨Nat.le_trans (Nat.le_trans (pmember_ge s a b) (cTo_ge s a b)) h.1, fun hb => h.2 ?_⟩
      subst hb; exact cBad_true s a
    · exact ⟨Nat.le_refl _, id⟩
theorem pclass_ge (s : ByteArray) (a : Nat) (b : Bool) : a ≤ (pclass s a b).2.1 ∧ (b = true → (pclass s a b).2.2 = true) := by
  have h := classL_ge s (s.size + 3) [0, 0, 0, 0] (nextA s a b 94) b true
  refine ⟨Nat.le_trans (Nat.le_trans (nextA_ge s a b 94) h.1) (nextA_ge _ _ _ _), fun hb => ?_⟩
  show (_ || _) = true
  rw [h.2 hb, Bool.or_true]
theorem fwd_atom (s : ByteArray) {F : PF} (h : Fwd F) (d : Nat) : Fwd (patom s F d) := by
  intro a b
  have h1 := pbyte_ge s a b
  have hb : b = true → pbyte s a b = (0, a, true) := fun e => by subst e; exact pbyte_bad s a
  unfold patom
  generalize pbyte s a b = q at h1 hb ⊢
  obtain ⟨c, a', b'⟩ := q
  simp only at h1 hb ⊢
  split
  · rename_i hc
    have hnb : b = true → False := fun e => by
      have := congrArg Prod.fst (hb e)
      simp only at this
      subst this
      simp at hc
    refine ⟨?_, fun e => (hnb e).elim⟩
    split
    · exact Nat.le_trans h1 (nextA_ge s a' _ 41)
    · exact Nat.le_trans h1 (Nat.le_trans (h a' b').1 (nextA_ge _ _ _ 41))
  · have hb' : b = true → b' = true := fun e => by
      have := hb e
      simp only [Prod.mk.injEq] at this
      exact this.2.2
    split
    · exact ⟨Nat.le_trans h1 (pclass_ge s a' b').1, fun e => (pclass_ge s a' b').2 (hb' e)⟩
    · split
      · exact ⟨h1, hb'⟩
      · split
        · refine ⟨Nat.le_trans h1 (psign_ge s a' b'), fun e => ?_⟩
          rw [hb' e]; exact psign_mono s a'
        · refine ⟨h1, fun e => ?_⟩
          show (_ || _) = true
          rw [hb' e, Bool.true_or]
/-- Ahead of a byte it takes at least that one. -/
def Eats (s : ByteArray) (F : PF) : Prop := ∀ a b, over s a b = false → a + 1 ≤ (F a b).2.1
theorem eats_atom (s : ByteArray) {F : PF} (h : Fwd F) (d : Nat) : Eats s (patom s F d) := by
  intro a b ho
  have h1 : pbyte s a b = (byteAt s a, a + 1, b) := by simp [pbyte, ho]
  unfold patom
  rw [h1]
  simp only
  split
  · split
    · exact nextA_ge s (a + 1) _ 41
    · exact Nat.le_trans (h (a + 1) b).1 (nextA_ge _ _ _ 41)
  · split
    · exact (pclass_ge s (a + 1) b).1
    · split
      · exact Nat.le_refl _
      · split
        · exact psign_ge s (a + 1) b
        · exact Nat.le_refl _
theorem factor_cases (s : ByteArray) (F : PF) (a : Nat) (b : Bool) : (pfactor s F a b).2.2 = (F a b).2.2 ∧ (F a b).2.1 ≤ (pfactor s F a b).2.1 := by
  unfold pfactor
  simp only
  split
  · exact ⟨rfl, Nat.le_succ _⟩
  · split
    · exact ⟨rfl, Nat.le_succ _⟩
    · split
      · exact ⟨rfl, Nat.le_succ _⟩
      · exact ⟨rfl, Nat.le_refl _⟩
theorem fwd_factor (s : ByteArray) {F : PF} (h : Fwd F) : Fwd (pfactor s F) := by
  intro a b
  have h2 := factor_cases s F a b
  rw [h2.1]
  exact ⟨Nat.le_trans (h a b).1 h2.2, (h a b).2⟩
theorem eats_factor (s : ByteArray) {F : PF} (h : Eats s F) : Eats s (pfactor s F) := by
  intro a b ho
  exact Nat.le_trans (h a b ho) (factor_cases s F a b).2
theorem fwd_wayL (s : ByteArray) {F : PF} (h : Fwd F) : ∀ n K a b, a ≤ (pwayL s F n K a b).2.1 ∧ (b = true → (pwayL s F n K a b).2.2 = true)
  | 0, K, a, b => ⟨Nat.le_refl _, id⟩
  | n + 1, K, a, b => by
    rw [pwayL]; split
    · have h1 := fwd_wayL s h n (K ++ [(F a b).1]) (F a b).2.1 (F a b).2.2
      exact ⟨Nat.le_trans (h a b).1 h1.1, fun e => h1.2 ((h a b).2 e)⟩
    · exact ⟨Nat.le_refl _, id⟩
theorem fwd_way (s : ByteArray) {F : PF} (h : Fwd F) : Fwd (pway s F) := fun a b => fwd_wayL s h (s.size + 1) [] a b
theorem fwd_waysL (s : ByteArray) {F : PF} (h : Fwd F) : ∀ n K a b, a ≤ (pwaysL s F n K a b).2.1 ∧ (b = true → (pwaysL s F n K a b).2.2 = true)
  | 0, K, a, b => ⟨Nat.le_refl _, id⟩
  | n + 1, K, a, b => by
    rw [pwaysL]; split
    · have h1 := fwd_waysL s h n (K ++ [(F (a + 1) b).1]) (F (a + 1) b).2.1 (F (a + 1) b).2.2
      exact ⟨Nat.le_trans (Nat.le_trans (Nat.le_succ a) (h (a + 1) b).1) h1.1, fun e => h1.2 ((h (a + 1) b).2 e)⟩
    · exact ⟨Nat.le_refl _, id⟩
theorem fwd_ways (s : ByteArray) {F : PF} (h : Fwd F) : Fwd (pways s F) := fun a b => by
  have h1 := fwd_waysL s h (s.size + 1) [(F a b).1] (F a b).2.1 (F a b).2.2
  exact ⟨Nat.le_trans (h a b).1 h1.1, fun e => h1.2 ((h a b).2 e)⟩
theorem fwd_lvl (s : ByteArray) {W : PF} (h : Fwd W) (d : Nat) : Fwd (lvl s W d) := fwd_ways s (fwd_way s (fwd_factor s (fwd_atom s h d)))
theorem fwd_PW (s : ByteArray) : ∀ k, Fwd (PW s k)
  | 0 => fwd_lvl s (fun a b => ⟨Nat.le_refl _, id⟩) 8
  | k + 1 => fwd_lvl s (fwd_PW s k) _
end Go.Proofs.Ytoadgajhkhejiaa
