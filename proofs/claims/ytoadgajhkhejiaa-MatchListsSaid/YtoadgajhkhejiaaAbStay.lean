/- Calls in drawing regions that leave the store as it is. No condition. -/
import Derived.Test.YtoadgajhkhejiaaAbStep
namespace Go.Ab
open Go
theorem axd_mono {P : Program} {K : Env → St → Prop} : ∀ (ds : List DOper) (env : Env) (S : List St) (σ : St) (ob ob' : List St → Prop), (∀ T, ob T → ob' T) → axd P K ds env S σ ob → axd P K ds env S σ ob'
  | [], env, S, σ, ob, ob', h, hx => ⟨h _ hx.1, hx.2⟩
  | d :: ds, env, S, σ, ob, ob', h, hx => by
    unfold axd at hx ⊢
    cases hw : wantA env d.o.guard with
    | none => rw [hw] at hx; exact hx
    | some b =>
      rw [hw] at hx
      cases b with
      | true =>
        simp only at hx ⊢
        split at hx
        · rename_i he
          rw [if_pos he]
          exact axop_mono (fun r s hk => axd_mono ds _ _ _ _ _ h hk) hx
        · rename_i he
          rw [if_neg he]
          obtain ⟨r, h1, h2⟩ := hx
          exact ⟨r, h1, axd_mono ds _ _ _ _ _ (fun T ht => ⟨h T ht.1, ht.2⟩) h2⟩
      | false => exact axd_mono ds _ _ _ _ _ h hx
section
variable {P : Program} {n0 : Nat} {k : List Fr} {B : Bs} {env : Env} {S : List St} {σ : St} {ob : List St → Prop}
def CS (P : Program) (n0 : Nat) (f : FuncId) (args : List AV) (d : Option Tmp) (lo hi : Nat) (l : List DOper) (k : List Fr) (B : Bs) (env : Env) (S : List St) (σ : St) (ob : List St → Prop) : Prop :=
  ∃ r, Ans P f args σ r σ ∧ D P n0 l k B (putA env d r) S σ (fun T => ob T ∧ ∀ s ∈ (T.take (hi + 1)).drop lo, Ans P f args s r s)
theorem D_callS (d : Option Tmp) (f : Operand) (args : List Operand) (bef : List Nat) (lo hi : Nat) (l : List DOper) : D P n0 (⟨⟨d, none, .call f args⟩, bef, false, lo, hi⟩ :: l) k B env S σ ob = (match aev env f with
    | .fn g fs cs => CS P n0 g (fs ++ args.map (aev env) ++ cs) d lo hi l k B env S σ ob
    | _ => False) := by
  unfold CS D
  simp only [axd, wantA, Bool.false_eq_true, if_false, stay]
  cases aev env f <;> simp
theorem CS.intro {f : FuncId} {args : List AV} {d : Option Tmp} {lo hi : Nat} {l : List DOper} {r : AV} (h : ∀ s, Ans P f args s r s) (h' : D P n0 l k B (putA env d r) S σ ob) : CS P n0 f args d lo hi l k B env S σ ob := by
  refine ⟨r, h σ, ?_⟩
  unfold D at h' ⊢
  exact axd_mono _ _ _ _ _ _ (fun T ht => ⟨ht, fun s _ => h s⟩) h'
end
end Go.Ab
