/- The store of objects: a new object, an object written, one that is sealed or dropped. No condition. -/
import Derived.Test.YtoadgajhkhejiaaAbRun2
namespace Go.Ab
open Go

section
variable {P : Program} {M M' : Nat → Prop} {σ σ' : St} {ν ν' : Nat → Value} {w w' : World} {R : Ref → Value → Prop}

theorem get_set_ne {l k : Nat} (h : k ≠ l) (o : Ob) : (σ.set l o)[k]? = σ[k]? := by
  rw [List.getElem?_set]; simp [Ne.symm h]

theorem get_set_eq {l : Nat} {o0 : Ob} (h : σ[l]? = some o0) (o : Ob) : (σ.set l o)[l]? = some o := by
  rw [List.getElem?_set]; simp [(List.getElem?_eq_some_iff.1 h).1]

/-- One object turns into another one. -/
theorem Good.update (g : Good M σ ν w) {l : Nat} {o0 : Ob} (hl : σ[l]? = some o0) (hd : o0 ≠ .dead) (o' : Ob)
    (hν : ∀ k, k ≠ l → ν' k = ν k) (hsz : w.heap.size ≤ w'.heap.size)
    (hkeep : ∀ b, b < w.heap.size → blk (ν l) ≠ some b → w'.heap[b]? = w.heap[b]?)
    (mM : ∀ b, b < w.heap.size → M' b → M b) (kM : ∀ b, M b → blk (ν l) ≠ some b → M' b) (ltM : ∀ b, M' b → b < w'.heap.size)
    (hb' : o' ≠ .dead → ∀ b, blk (ν' l) = some b → blk (ν l) = some b ∨ w.heap.size ≤ b)
    (evo : ∀ r v, RefOK σ ν r v → RefOK (σ.set l o') ν' r v)
    (ob : ObOK M' (RefOK (σ.set l o') ν') w' o' (ν' l)) (out : w'.os = w.os ∧ w'.output = w.output := by exact ⟨rfl, rfl⟩) :
    Good M' (σ.set l o') ν' w' ∧ Later M σ ν w M' (σ.set l o') ν' w' := by
  have hlive : live σ l := ⟨o0, hl, hd⟩
  have hseal : ∀ b, b < w.heap.size → ¬ M b → ¬ M' b ∧ w'.heap[b]? = w.heap[b]? := fun b hb hm =>
    ⟨fun x => hm (mM b hb x), hkeep b hb fun e => hm (g.M_of_own ⟨l, hlive, e⟩)⟩
  have hold : ∀ k, k ≠ l → live (σ.set l o') k → live σ k := fun k hk ⟨o, ho, hod⟩ => ⟨o, by rwa [get_set_ne hk] at ho, hod⟩
  refine ⟨⟨?_, ltM, ?_⟩, ⟨hsz, ?_, mM, ?_, ?_, evo, out⟩⟩
  · intro k o ho
    by_cases hk : k = l
    · subst hk
      rw [get_set_eq hl] at ho
      simp at ho; subst ho; exact ob
    · rw [get_set_ne hk] at ho
      rw [hν k hk]
      refine (g.ob k o ho).mono hseal evo fun b hb hod hm => ?_
      have hne : blk (ν l) ≠ some b := fun e => hk (g.apart k l b ⟨o, ho, hod⟩ hlive hb e)
      exact ⟨kM b hm hne, hkeep b ((g.ob k o ho).lt hod hb) hne⟩
  · intro k k' b h1 h2 e1 e2
    by_cases hk : k = l <;> by_cases hk' : k' = l
    · rw [hk, hk']
    · subst hk
      have hl2 := hold k' hk' h2
      rw [hν k' hk'] at e2
      have hod : o' ≠ .dead := by obtain ⟨o, ho, hod⟩ := h1; rw [get_set_eq hl] at ho; simp at ho; subst ho; exact hod
      rcases hb' hod b e1 with e | e
      · exact g.apart k k' b hlive hl2 e e2
      · exact absurd (g.own_lt ⟨k', hl2, e2⟩) (Nat.not_lt.2 e)
    · subst hk'
      have hl1 := hold k hk h1
      rw [hν k hk] at e1
      have hod : o' ≠ .dead := by obtain ⟨o, ho, hod⟩ := h2; rw [get_set_eq hl] at ho; simp at ho; subst ho; exact hod
      rcases hb' hod b e2 with e | e
      · exact g.apart k k' b hl1 hlive e1 e
      · exact absurd (g.own_lt ⟨k, hl1, e1⟩) (Nat.not_lt.2 e)
    · rw [hν k hk] at e1; rw [hν k' hk'] at e2
      exact g.apart k k' b (hold k hk h1) (hold k' hk' h2) e1 e2
  · intro b hb hno
    exact hkeep b hb fun e => hno ⟨l, hlive, e⟩
  · intro b hb hm hno
    exact kM b hm fun e => hno ⟨l, hlive, e⟩
  · rintro b hb ⟨k, hk, e⟩
    by_cases hkl : k = l
    · subst hkl
      have hod : o' ≠ .dead := by obtain ⟨o, ho, hod⟩ := hk; rw [get_set_eq hl] at ho; simp at ho; subst ho; exact hod
      rcases hb' hod b e with e | e
      · exact ⟨k, hlive, e⟩
      · exact absurd hb (Nat.not_lt.2 e)
    · rw [hν k hkl] at e
      exact ⟨k, hold k hkl hk, e⟩

theorem RefOK.ext (h : ∀ l o, σ[l]? = some o → σ'[l]? = some o ∧ ν' l = ν l) {r : Ref} {v : Value} (hr : RefOK σ ν r v) : RefOK σ' ν' r v := by
  cases r with
  | p l =>
    simp only [RefOK] at hr ⊢
    cases ho : σ[l]? with
    | none => simp [ho] at hr
    | some o' => obtain ⟨x, y⟩ := h l o' ho; rw [ho] at hr; rw [x, y]; exact hr
  | s l n =>
    simp only [RefOK] at hr ⊢
    cases ho : σ[l]? with
    | none => simp [ho] at hr
    | some o' => obtain ⟨x, y⟩ := h l o' ho; rw [ho] at hr; rw [x, y]; exact hr
  | e l n i =>
    simp only [RefOK] at hr ⊢
    cases ho : σ[l]? with
    | none => simp [ho] at hr
    | some o' => obtain ⟨x, y⟩ := h l o' ho; rw [ho] at hr; rw [x, y]; exact hr

/-- A new object in a new block. -/
theorem Good.new (g : Good M σ ν w) (o : Ob) (v : Value) (e : TypeId) (c : Array Value)
    (hb : blk v = some w.heap.size)
    (ob : ∀ M' ν' w', (∀ b, b < w.heap.size → ¬ M b → ¬ M' b ∧ w'.heap[b]? = w.heap[b]?) → (∀ r v, RefOK σ ν r v → RefOK (σ ++ [o]) ν' r v) → M' w.heap.size →
      w'.heap[w.heap.size]? = some (.cells c e) → ObOK M' (RefOK (σ ++ [o]) ν') w' o v) :
    ∃ M' ν', Good M' (σ ++ [o]) ν' (w.alloc (.cells c e)) ∧ Later M σ ν w M' (σ ++ [o]) ν' (w.alloc (.cells c e)) ∧ ν' σ.length = v := by
  let M' : Nat → Prop := fun b => M b ∨ b = w.heap.size
  let ν' : Nat → Value := fun k => if k = σ.length then v else ν k
  have hnew : ν' σ.length = v := by simp [ν']
  have hνo : ∀ k, k < σ.length → ν' k = ν k := fun k hk => by simp [ν', Nat.ne_of_lt hk]
  have hkeep : ∀ b, b < w.heap.size → (w.alloc (.cells c e)).heap[b]? = w.heap[b]? := fun b hb => heap_alloc_old w _ b hb
  have hget : ∀ k o', σ[k]? = some o' → (σ ++ [o])[k]? = some o' ∧ k < σ.length := fun k o' h => by
    have hk := (List.getElem?_eq_some_iff.1 h).1
    exact ⟨by rw [List.getElem?_append_left hk]; exact h, hk⟩
  have evo : ∀ r v, RefOK σ ν r v → RefOK (σ ++ [o]) ν' r v := fun r v h => RefOK.ext (fun k o' hk => ⟨(hget k o' hk).1, hνo k (hget k o' hk).2⟩) h
  have hseal : ∀ b, b < w.heap.size → ¬ M b → ¬ M' b ∧ (w.alloc (.cells c e)).heap[b]? = w.heap[b]? := fun b hb hm =>
    ⟨fun x => x.elim hm (fun e => absurd hb (by simp [e])), hkeep b hb⟩
  have hlive : ∀ k, k < σ.length → live (σ ++ [o]) k → live σ k := fun k hk ⟨o', ho, hod⟩ => ⟨o', by rwa [List.getElem?_append_left hk] at ho, hod⟩
  have hlt : ∀ k, live (σ ++ [o]) k → k < σ.length ∨ k = σ.length := fun k ⟨o', ho, _⟩ => by
    have := (List.getElem?_eq_some_iff.1 ho).1
    simp at this; omega
  refine ⟨M', ν', ⟨?_, ?_, ?_⟩, ⟨by simp, fun b hb _ => hkeep b hb, fun b hb x => x.elim id (fun e => absurd hb (by simp [e])), fun b _ x _ => .inl x, ?_, evo, rfl, rfl⟩, hnew⟩
  · intro k o' ho
    by_cases hk : k < σ.length
    · rw [List.getElem?_append_left hk] at ho
      rw [hνo k hk]
      exact (g.ob k o' ho).mono hseal evo fun b hb' hod hm => ⟨.inl hm, hkeep b ((g.ob k o' ho).lt hod hb')⟩
    · have hk2 : k = σ.length := by
        have := (List.getElem?_eq_some_iff.1 ho).1
        simp at this; omega
      subst hk2
      simp at ho; subst ho
      rw [hnew]
      exact ob M' ν' _ hseal evo (.inr rfl) (alloc_heap w _)
  · intro b hb
    rcases hb with hb | hb
    · have := g.lt b hb; simp; omega
    · simp [hb]
  · intro k k' b h1 h2 e1 e2
    rcases hlt k h1 with hk | hk <;> rcases hlt k' h2 with hk' | hk'
    · rw [hνo k hk] at e1; rw [hνo k' hk'] at e2
      exact g.apart k k' b (hlive k hk h1) (hlive k' hk' h2) e1 e2
    · rw [hνo k hk] at e1; subst hk'; rw [hnew, hb] at e2
      have := g.own_lt ⟨k, hlive k hk h1, e1⟩
      simp at e2; omega
    · rw [hνo k' hk'] at e2; subst hk; rw [hnew, hb] at e1
      have := g.own_lt ⟨k', hlive k' hk' h2, e2⟩
      simp at e1; omega
    · omega
  · rintro b hb' ⟨k, hk, e'⟩
    rcases hlt k hk with h | h
    · rw [hνo k h] at e'; exact ⟨k, hlive k h hk, e'⟩
    · subst h; rw [hnew, hb] at e'; simp at e'; omega

/-- A new box. -/
theorem Good.newBox (g : Good M σ ν w) (cs : List AV) (e : TypeId) (c : Array Value) (hr : Reps M (RefOK σ ν) w cs c.toList) :
    ∃ M' ν', Good M' (σ ++ [.box cs]) ν' (w.alloc (.cells c e)) ∧ Later M σ ν w M' (σ ++ [.box cs]) ν' (w.alloc (.cells c e)) ∧
      Rep M' (RefOK (σ ++ [.box cs]) ν') (w.alloc (.cells c e)) (.ptr σ.length 0) (.pointer (some ⟨w.heap.size, 0, none⟩)) := by
  have hsz : cs.length = c.size := hr.1.trans Array.length_toList
  obtain ⟨M', ν', g', l', hn⟩ := g.new (.box cs) (.pointer (some ⟨w.heap.size, 0, none⟩)) e c rfl (fun M' ν' w' h1 h2 h3 h4 =>
    .box cs _ 0 c e (0, 0) h3 h4 (by omega) (fun j _ => by simp) (fun j hj v hv => by
      obtain ⟨u, hu, hru⟩ := hr.get (j := j) (x := cs[j]) (by simp [hj])
      have : v = u := by rw [Nat.zero_add] at hv; rw [Array.getElem?_toList] at hu; rw [hu] at hv; simpa using hv.symm
      subst this
      exact hru.mono h1 h2))
  refine ⟨M', ν', g', l', ?_⟩
  have := Rep.ptr (M := M') (R := RefOK (σ ++ [.box cs]) ν') (w := w.alloc (.cells c e)) σ.length 0 w.heap.size 0 (by simp [RefOK, hn])
  simpa using this

/-- The elements of a row of memory, cell by cell. -/
def Elems (M : Nat → Prop) (R : Ref → Value → Prop) (w : World) (sz : Nat) (xs : List AV) (vs : List Value) : Prop :=
  ∀ i j (hi : i < xs.length) (hj : j < (xs[i]).cells.length), j < sz ∧ ∀ v, vs[i * sz + j]? = some v → Rep M R w ((xs[i]).cells[j]) v

theorem Elems.mono {xs : List AV} {vs : List Value} {sz : Nat} {R' : Ref → Value → Prop} (h1 : ∀ b, b < w.heap.size → ¬ M b → ¬ M' b ∧ w'.heap[b]? = w.heap[b]?) (h2 : ∀ r v, R r v → R' r v)
    (h : Elems M R w sz xs vs) : Elems M' R' w' sz xs vs := fun i j hi hj => ⟨(h i j hi hj).1, fun v hv => ((h i j hi hj).2 v hv).mono h1 h2⟩

/-- A new row, with as much room as there are cells. -/
theorem Good.newRow (g : Good M σ ν w) (sz : Nat) (xs : List AV) (e : TypeId) (c : Array Value) (cap : Nat) (hl : xs.length ≤ cap) (hs : cap * sz ≤ c.size)
    (hr : Elems M (RefOK σ ν) w sz xs c.toList) :
    ∃ M' ν', Good M' (σ ++ [.row sz xs]) ν' (w.alloc (.cells c e)) ∧ Later M σ ν w M' (σ ++ [.row sz xs]) ν' (w.alloc (.cells c e)) ∧
      Rep M' (RefOK (σ ++ [.row sz xs]) ν') (w.alloc (.cells c e)) (.osl σ.length xs.length) (.slice (some ⟨w.heap.size, 0, none⟩) xs.length cap) := by
  obtain ⟨M', ν', g', l', hn⟩ := g.new (.row sz xs) (.slice (some ⟨w.heap.size, 0, none⟩) xs.length cap) e c rfl (fun M' ν' w' h1 h2 h3 h4 =>
    .row sz xs _ 0 cap c e (0, 0) h3 h4 hl (by omega) (fun j _ => by simp) (fun i j hi hj => ⟨(hr i j hi hj).1, fun v hv =>
      ((hr i j hi hj).2 v (by simpa using hv)).mono h1 h2⟩))
  refine ⟨M', ν', g', l', .osl _ _ _ _ _ ?_⟩
  simp [RefOK, hn]

/-- Block b holds other cells. -/
def putRow (w : World) (b : Nat) (c : Array Value) (e : TypeId) (fr : Nat × Nat) : World := { w with heap := w.heap.setIfInBounds b (.cells c e fr) }

@[simp] theorem size_putRow (b : Nat) (c : Array Value) (e : TypeId) (fr : Nat × Nat) : (putRow w b c e fr).heap.size = w.heap.size := by simp [putRow]
theorem putRow_same {b : Nat} {x : Obj} (h : w.heap[b]? = some x) (c : Array Value) (e : TypeId) (fr : Nat × Nat) : (putRow w b c e fr).heap[b]? = some (.cells c e fr) := by
  have := (Array.getElem?_eq_some_iff.1 h).1
  simp [putRow, this]
theorem putRow_other {b k : Nat} (h : b ≠ k) (c : Array Value) (e : TypeId) (fr : Nat × Nat) : (putRow w b c e fr).heap[k]? = w.heap[k]? := by
  simp [putRow, Array.getElem?_setIfInBounds_ne h]
theorem putRow_putRow (b : Nat) (c c' : Array Value) (e e' : TypeId) (fr fr' : Nat × Nat) : putRow (putRow w b c e fr) b c' e' fr' = putRow w b c' e' fr' := by
  simp [putRow]
theorem putRow_self {b : Nat} {c : Array Value} {e : TypeId} {fr : Nat × Nat} (h : w.heap[b]? = some (.cells c e fr)) : putRow w b c e fr = w := by
  obtain ⟨hb, hh⟩ := Array.getElem?_eq_some_iff.1 h
  simp only [putRow]
  have : w.heap.setIfInBounds b (.cells c e fr) = w.heap := by
    apply Array.ext_getElem?
    intro i
    rw [Array.getElem?_setIfInBounds]
    by_cases hi : b = i
    · subst hi; simp [hb, hh]
    · simp [hi]
  rw [this]

theorem setCell_put {b o : Nat} {c : Array Value} {e : TypeId} {fr : Nat × Nat} (h : w.heap[b]? = some (.cells c e fr)) (v : Value) :
    w.setCell ⟨b, o, none⟩ v = putRow w b (c.setIfInBounds o v) e fr := by
  obtain ⟨hb, hh⟩ := Array.getElem?_eq_some_iff.1 h
  unfold World.setCell putRow
  congr 1
  apply Array.ext_getElem?
  intro i
  rw [Array.getElem?_setIfInBounds, Array.getElem?_modify]
  by_cases hi : b = i
  · subst hi; simp [hb, hh]
  · simp [hi]

theorem run_storeCells (b o : Nat) (e : TypeId) (fr : Nat × Nat) : ∀ (vs : List Value) (i : Nat) (c : Array Value) (w : World), w.heap[b]? = some (.cells c e fr) →
    o + i + vs.length ≤ c.size → (∀ v ∈ vs, v.oneCell' = true) → (∀ j, j < vs.length → ¬ (fr.1 ≤ o + i + j ∧ o + i + j < fr.2)) →
    ∃ c', (storeCells ⟨b, o, none⟩ vs i).run P w = .ok () (putRow w b c' e fr) ∧ c'.toList = lsplice c.toList (o + i) vs := by
  intro vs
  induction vs with
  | nil =>
    intro i c w h hs _ _
    exact ⟨c, by simp [storeCells, putRow_self h], by simp [lsplice]⟩
  | cons v vs ih =>
    intro i c w h hs ho hf
    simp only [List.length_cons] at hs
    have h1 := ho v (by simp)
    have hc : w.cell? ⟨b, o + i, none⟩ = some (c[o + i]'(by omega)) := by
      rw [cell_of_row _ _ _ _ _ _ h]; simp [show o + i < c.size by omega]
    have hfr : w.frozen? ⟨b, o + i, none⟩ = false := by
      have := hf 0 (by simp)
      unfold World.frozen?
      simp only [h]
      simp only [Nat.add_zero] at this
      simpa [Nat.not_le, Nat.not_lt] using this
    have h' := putRow_same h (c.setIfInBounds (o + i) v) e fr
    obtain ⟨c', hr, hl⟩ := ih (i + 1) (c.setIfInBounds (o + i) v) (putRow w b (c.setIfInBounds (o + i) v) e fr) h' (by simp; omega) (fun u hu => ho u (by simp [hu]))
      (fun j hj => by have := hf (j + 1) (by simpa using hj); rw [show o + (i + 1) + j = o + i + (j + 1) by omega]; exact this)
    refine ⟨c', ?_, ?_⟩
    · simp only [storeCells, add_flat, Sem.run_bind, run_store P w _ v .plain h1, hc, hfr, Bool.false_eq_true, if_false, Result.andThen, setCell_put h, hr, putRow_putRow]
    · rw [hl]
      have hz : o + i < c.toList.length := by simp; omega
      simp only [Array.toList_setIfInBounds, lsplice, List.length_cons]
      apply List.ext_getElem?
      intro k
      simp only [List.append_assoc, List.getElem?_append, List.length_take, List.length_set, List.getElem?_take, List.getElem?_set, List.getElem?_drop, List.length_cons]
      have hz2 : o + i + 1 ≤ c.toList.length := hz
      rw [Nat.min_eq_left (by omega), Nat.min_eq_left (by omega)]
      by_cases q1 : k < o + i
      · simp [q1, show k < o + (i + 1) by omega, show ¬ o + i = k by omega]
      · by_cases q2 : k = o + i
        · subst q2; simp [show o + i < o + (i + 1) by omega]; simpa using hz
        · have q3 : ¬ k < o + (i + 1) := by omega
          simp only [q1, q3, if_false]
          by_cases q4 : k - (o + (i + 1)) < vs.length
          · rw [if_pos q4, if_pos (by omega)]
            rw [show k - (o + i) = (k - (o + (i + 1))) + 1 by omega]; simp
          · rw [if_neg q4, if_neg (by omega), if_neg (by omega)]
            congr 1; omega

end
end Go.Ab
