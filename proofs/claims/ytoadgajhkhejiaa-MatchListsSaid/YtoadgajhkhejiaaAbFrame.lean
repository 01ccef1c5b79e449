/- A call that was shown to answer with no objects of one's own answers so with any. No condition. -/
import Derived.Test.YtoadgajhkhejiaaAbEval
namespace Go.Ab
open Go
theorem Rep.of_bel {M : Nat → Prop} {R R' : Ref → Value → Prop} {w : World} {x : AV} {v : Value} (hb : Bel 0 x) (h : Rep M R w x v) : Rep M R' w x v := by
  induction h with
  | any v => exact .any v
  | pl v => exact .pl v
  | nils => exact .nils
  | sl0 sz a cap => exact .sl0 sz a cap
  | sl sz xs b o cap f hcap hc _ ih =>
    refine .sl sz xs b o cap f hcap hc fun i j hi hj => ih i j hi hj ?_
    cases hb with
    | sl _ _ h =>
      have := h i hi
      revert hj
      cases hx : xs[i] with
      | agg cs => intro hj; rw [hx] at this; cases this with | agg _ h' => exact h' j hj
      | _ => intro hj; rw [hx] at this; simpa [AV.cells] using this
  | rp cs b o f hc _ ih =>
    refine .rp cs b o f hc fun j hj => ih j hj ?_
    cases hb with
    | rp _ h => exact h j hj
  | ptr l off b o h => cases hb with | ptr _ _ h => exact absurd h (Nat.not_lt_zero _)
  | osl l n a len cap h => cases hb with | osl _ _ h => exact absurd h (Nat.not_lt_zero _)
  | ep l n i off b o h => cases hb with | ep _ _ _ _ h => exact absurd h (Nat.not_lt_zero _)
  | psl l off n b o h => cases hb with | psl _ _ _ h => exact absurd h (Nat.not_lt_zero _)
  | zsl a => exact .zsl a
  | win sz l n lo b o cap hl h => cases hb with | win _ _ _ _ h => exact absurd h (Nat.not_lt_zero _)
  | agg cs vs hl _ ih =>
    refine .agg cs vs hl fun j hj hj' => ih j hj hj' ?_
    cases hb with
    | agg _ h => exact h j hj
  | tup cs vs hl _ ih =>
    refine .tup cs vs hl fun j hj hj' => ih j hj hj' ?_
    cases hb with
    | tup _ h => exact h j hj
  | fn g fs cs us vs hl hl' _ _ ih ih' =>
    cases hb with
    | fn _ _ _ h h' => exact .fn g fs cs us vs hl hl' (fun j hj hj' => ih j hj hj' (h j hj)) (fun j hj hj' => ih' j hj hj' (h' j hj))
theorem After.frame {M : Nat → Prop} {σ : St} {ν : Nat → Value} {w w' : World} {r : AV} {v : Value} (g : Good M σ ν w) (h : After M [] ν w r [] v w') : After M σ ν w r σ v w' := by
  obtain ⟨M', ν', g', l, hr⟩ := h
  have hno : ∀ b, ¬ Own [] ν b := by
    rintro b ⟨i, ⟨o, ho, _⟩, _⟩
    simp at ho
  have hk : ∀ b, b < w.heap.size → w'.heap[b]? = w.heap[b]? := fun b hb => l.keep b hb (hno b)
  have hMM : ∀ b, b < w.heap.size → (M' b ↔ M b) := fun b hb => ⟨l.mute b hb, fun hm => l.outer b hb hm (hno b)⟩
  refine ⟨M', ν, ⟨fun i o ho => (g.ob i o ho).mono (fun b hb hm => ⟨fun h => hm ((hMM b hb).1 h), hk b hb⟩) (fun _ _ h => h) (fun b hbl hd hm => ?_), g'.lt, g.apart⟩, ?_, ?_⟩
  · have hlt := (g.ob i o ho).lt hd hbl
    exact ⟨(hMM b hlt).2 hm, hk b hlt⟩
  · exact ⟨l.size, fun b hb _ => hk b hb, l.mute, fun b hb hm _ => (hMM b hb).2 hm, fun _ _ h => h, fun _ _ h => h, l.out⟩
  · refine hr.mono (fun b _ hm => ⟨hm, rfl⟩) fun r v h => ?_
    cases r <;> simp [RefOK] at h
theorem Ans.frame {P : Program} {f : FuncId} {args : List AV} {r : AV} (h : Ans P f args [] r []) (hb : ∀ a ∈ args, Bel 0 a) (σ : St) : Ans P f args σ r σ := by
  intro M ν w vs g hr
  have g0 : Good M [] ν w := ⟨fun l o ho => by simp at ho, g.lt, fun l l' b ⟨o, ho, _⟩ => by simp at ho⟩
  have hr0 : Reps M (RefOK [] ν) w args vs := ⟨hr.1, fun j hj hj' => (hr.2 j hj hj').of_bel (hb _ (List.getElem_mem hj))⟩
  rcases h M ν w vs g0 hr0 with ⟨h1, h2⟩ | ⟨v, w', h1, h2⟩
  · refine .inl ⟨h1, ?_⟩
    exact h2.mono fun e w' ⟨v, he, ha⟩ => ⟨v, he, ha.frame g⟩
  · exact .inr ⟨v, w', h1, h2.frame g⟩
end Go.Ab
