/- More steps for the abstract run: where a condition is not known, both ways are gone. No condition. -/
import Derived.Test.YtoadgajhkhejiaaAbStep
namespace Go.Ab
open Go
section
variable {P : Program} {n0 : Nat} {k : List Fr} {B : Bs} {env : Env} {σ : St} {S : List St} {ob : List St → Prop}
theorem C.split {b : Bool} {x y : ACode} (h : b = true → C P n0 true x y k B env σ) (h' : b = false → C P n0 false x y k B env σ) : C P n0 b x y k B env σ := by
  cases b
  · exact h' rfl
  · exact h rfl
theorem OG.split {b : Bool} {d : Option Tmp} {op : AOp} {l : List AOper} (h : b = true → OG P n0 true d op l k B env σ) (h' : b = false → OG P n0 false d op l k B env σ) : OG P n0 b d op l k B env σ := by
  cases b
  · exact h' rfl
  · exact h rfl
theorem DG.split {b : Bool} {d : Option Tmp} {op : AOp} {bef : List Nat} {eff : Bool} {lo hi : Nat} {l : List DOper} (h : b = true → DG P n0 true d op bef eff lo hi l k B env S σ ob) (h' : b = false → DG P n0 false d op bef eff lo hi l k B env S σ ob) : DG P n0 b d op bef eff lo hi l k B env S σ ob := by
  cases b
  · exact h' rfl
  · exact h rfl
theorem C.splitN {b : Bool} {x y : ACode} (h : b = true → C P n0 false x y k B env σ) (h' : b = false → C P n0 true x y k B env σ) : C P n0 (!b) x y k B env σ := by
  cases b
  · exact h' rfl
  · exact h rfl
theorem OG.splitN {b : Bool} {d : Option Tmp} {op : AOp} {l : List AOper} (h : b = true → OG P n0 false d op l k B env σ) (h' : b = false → OG P n0 true d op l k B env σ) : OG P n0 (!b) d op l k B env σ := by
  cases b
  · exact h' rfl
  · exact h rfl
theorem DG.splitN {b : Bool} {d : Option Tmp} {op : AOp} {bef : List Nat} {eff : Bool} {lo hi : Nat} {l : List DOper} (h : b = true → DG P n0 false d op bef eff lo hi l k B env S σ ob) (h' : b = false → DG P n0 true d op bef eff lo hi l k B env S σ ob) : DG P n0 (!b) d op bef eff lo hi l k B env S σ ob := by
  cases b
  · exact h' rfl
  · exact h rfl
theorem L.scan (n : Nat) (ok : Nat → Bool) (E : Nat → Env) (Z : Nat → St) {clr : List Tmp} {x : ACode}
    (h : ∀ i, i < n → (∀ j, j < i → ok j = true) → ∀ J : Env → St → Prop, (ok i = true → J (E (i + 1)) (Z (i + 1))) → R P n0 x (.loop J clr :: k) B (E i) (Z i))
    (h' : (∀ j, j < n → ok j = true) → ∀ J : Env → St → Prop, R P n0 x (.loop J clr :: k) B (E n) (Z n)) (he : env = E 0) (hs : σ = Z 0) : L P n0 clr x k B env σ := by
  refine L.intro (α := { i : Nat // i ≤ n ∧ ∀ j, j < i → ok j = true }) (fun i => n - i.1) (fun i => E i.1) (fun i => Z i.1) (fun ⟨i, hi, hp⟩ J hJ => ?_) ⟨0, Nat.zero_le _, by intro j hj; omega⟩ he hs
  by_cases hlt : i < n
  · exact h i hlt hp J fun hok => hJ ⟨i + 1, hlt, fun j hj => by
      by_cases hji : j = i
      · rw [hji]; exact hok
      · exact hp j (by omega)⟩ (by simp only; omega)
  · have : i = n := by omega
    subst this
    exact h' hp J
theorem Fini.ret' {m : Nat} {rvs : List RV} {r r' : AV} (h : resA env σ rvs = some r') (e : r' = r) : Fini m rvs r σ .ret env σ := Fini.ret (e ▸ h)
theorem bo_congr {a b : Bool} (h : a = b) : AV.pl (.bool a) = AV.pl (.bool b) := by rw [h]
theorem int_congr {k : IntKind} {a b : Int} (h : a = b) : AV.pl (.int k a) = AV.pl (.int k b) := by rw [h]
end
end Go.Ab
