/- The model's operations answer what the abstract ones do: addresses, parts, cuts, lengths, and what is made and sealed at once. No condition. -/
import Derived.Test.YtoadgajhkhejiaaAbRun1
namespace Go.Ab
open Go

section
variable {P : Program} {M : Nat → Prop} {σ : St} {ν : Nat → Value} {w : World} {R : Ref → Value → Prop}

theorem add_flat (b o j : Nat) : Addr.add ⟨b, o, none⟩ j = ⟨b, o + j, none⟩ := by unfold Addr.add; split <;> simp_all

theorem boolA_inv {a : AV} {v : Value} {t : Bool} (h : boolA a = some t) (hr : Rep M R w a v) : v = .bool t := by
  unfold boolA at h; split at h <;> simp at h; subst h; exact hr.pl_inv

theorem intA_inv {a : AV} {v : Value} {n : Int} (h : intA a = some n) (hr : Rep M R w a v) : ∃ k, v = .int k n := by
  unfold intA at h; split at h <;> simp at h; subst h; exact ⟨_, hr.pl_inv⟩

theorem Rep.rp_inv {cs : List AV} {v : Value} (h : Rep M R w (.rp cs) v) : ∃ (b o : Nat) (f : Nat → Value), v = .pointer (some ⟨b, o, none⟩) ∧
    (∀ j, j < cs.length → ¬ M b ∧ w.cell? ⟨b, o + j, none⟩ = some (f j)) ∧ ∀ j (hj : j < cs.length), Rep M R w (cs[j]) (f j) := by
  cases h with
  | rp cs b o f hc hr => exact ⟨b, o, f, rfl, hc, hr⟩

theorem Rep.rp_drop {cs : List AV} {b o : Nat} (n : Nat) (h : Rep M R w (.rp cs) (.pointer (some ⟨b, o, none⟩))) : Rep M R w (.rp (cs.drop n)) (.pointer (some ⟨b, o + n, none⟩)) := by
  obtain ⟨b', o', f, e, hc, hr⟩ := h.rp_inv
  simp at e
  obtain ⟨rfl, rfl⟩ := e
  refine .rp _ _ _ (fun j => f (n + j)) (fun j hj => ?_) (fun j hj => ?_)
  · have := hc (n + j) (by simp at hj; omega)
    rw [Nat.add_assoc]; exact this
  · rw [List.getElem_drop]; exact hr (n + j) _

theorem fieldAt_run {s : TypeId} {f : Nat} {fs : Array Field} {fd : Field} {n b o : Nat} (hu : P.underlying s = some (.struct fs)) (hf : fs[f]? = some fd) (hn : szOf P fd.type = some n) (h0 : n ≠ 0) :
    (Instr.fieldAt s (.pointer (some ⟨b, o, none⟩)) f).run P w = .ok (.pointer (some ⟨b, o + fd.offset, none⟩)) w := by
  simp [Instr.fieldAt, run_under hu, hf, Instr.sureAddr, fieldPlace, run_size hn, h0, add_flat]

theorem Rep.nils_inv {v : Value} (h : Rep M R w .nils v) : v = .slice none 0 0 := by cases h; rfl

theorem Rep.zsl_inv {v : Value} (h : Rep M R w .zsl v) : ∃ a, v = .slice a 0 0 := by cases h; exact ⟨_, rfl⟩

theorem Rep.win_inv {sz l n lo : Nat} {v : Value} (h : Rep M R w (.win sz l n lo) v) : lo < n ∧ ∃ b o cap, v = .slice (some ⟨b, o + lo * sz, none⟩) (n - lo) (cap - lo) ∧ R (.s l n) (.slice (some ⟨b, o, none⟩) n cap) := by
  cases h with
  | win sz l n lo b o cap hl h => exact ⟨hl, b, o, cap, rfl, h⟩

theorem Rep.psl_inv {l off n : Nat} {v : Value} (h : Rep M R w (.psl l off n) v) : ∃ b o, v = .slice (some ⟨b, o + off, none⟩) n n ∧ R (.p l) (.pointer (some ⟨b, o, none⟩)) := by
  cases h with
  | psl l off n b o h => exact ⟨b, o, rfl, h⟩

theorem Rep.ptr_inv {l off : Nat} {v : Value} (h : Rep M R w (.ptr l off) v) : ∃ b o, v = .pointer (some ⟨b, o + off, none⟩) ∧ R (.p l) (.pointer (some ⟨b, o, none⟩)) := by
  cases h with
  | ptr l off b o h => exact ⟨b, o, rfl, h⟩
theorem Rep.ep_inv {l n i off : Nat} {v : Value} (h : Rep M R w (.ep l n i off) v) : ∃ b o, v = .pointer (some ⟨b, o + off, none⟩) ∧ R (.e l n i) (.pointer (some ⟨b, o, none⟩)) := by
  cases h with
  | ep l n i off b o h => exact ⟨b, o, rfl, h⟩
theorem Rep.osl_inv {l n : Nat} {v : Value} (h : Rep M R w (.osl l n) v) : ∃ a len cap, v = .slice a len cap ∧ R (.s l n) (.slice a len cap) := by
  cases h with
  | osl l n a len cap h => exact ⟨a, len, cap, rfl, h⟩

theorem Rep.sl_inv {sz : Nat} {xs : List AV} {v : Value} (h : Rep M R w (.sl sz xs) v) : ∃ a cap, v = .slice a xs.length cap ∧ xs.length ≤ cap ∧ (xs = [] ∨ ∃ (b o : Nat) (f : Nat → Nat → Value), a = some ⟨b, o, none⟩ ∧
    (∀ i j (hi : i < xs.length), j < (xs[i]).cells.length → j < sz ∧ ¬ M b ∧ w.cell? ⟨b, o + (i * sz + j), none⟩ = some (f i j)) ∧
    (∀ i j (hi : i < xs.length) (hj : j < (xs[i]).cells.length), Rep M R w ((xs[i]).cells[j]) (f i j))) := by
  cases h with
  | sl0 sz a cap => exact ⟨a, cap, rfl, Nat.zero_le _, .inl rfl⟩
  | sl sz xs b o cap f hcap hc hr => exact ⟨_, cap, rfl, hcap, .inr ⟨b, o, f, rfl, hc, hr⟩⟩

/-- Address of an element of a slice. -/
theorem indexAt_run {t elem : TypeId} {n : Nat} {k : IntKind} {i : Int} {b o len cap : Nat} (hu : P.underlying t = some (.slice elem)) (hn : szOf P elem = some n) (h0 : 0 ≤ i) (h1 : i < len) :
    (Instr.indexAt t (.slice (some ⟨b, o, none⟩) len cap) (.int k i)).run P w = .ok (.pointer (some ⟨b, o + i.toNat * n, none⟩)) w := by
  simp [Instr.indexAt, asIntOf, run_under hu, h0, h1, run_size hn, add_flat]

theorem indexArr_run {t elem : TypeId} {n : Nat} {k : IntKind} {i : Int} {b o len : Nat} (hu : P.underlying t = some (.array len elem)) (hn : szOf P elem = some n) (h0 : 0 ≤ i) (h1 : i < len) :
    (Instr.indexAt t (.pointer (some ⟨b, o, none⟩)) (.int k i)).run P w = .ok (.pointer (some ⟨b, o + i.toNat * n, none⟩)) w := by
  simp [Instr.indexAt, asIntOf, run_under hu, h0, h1, run_size hn, add_flat, Instr.sureAddr]

/-- A part of an aggregate. -/
theorem part_run {t : TypeId} {n off : Nat} {ag : Bool} {cs : List AV} {vs : List Value} {r : AV} (g : Good M σ ν w) (hn : szOf P t = some n) (ha : agOf P t = some ag)
    (hr : Reps M (RefOK σ ν) w cs vs) (h : ldc n ag (cs.drop off) = some r) : Yields P (part t vs.toArray off) M σ ν w r σ := by
  rcases rep_of_ldc (hr.drop off) h with ⟨rfl, hl, hrep⟩ | ⟨rfl, v, h0, hrep⟩
  · refine .same g (v := .agg ((vs.drop off).take n).toArray) ?_ hrep
    simp [part, run_agg ha, run_size hn, List.extract_eq_take_drop]
  · refine .same g (v := v) ?_ hrep
    have e : vs[off]? = some v := by simpa using h0
    simp [part, run_agg ha, e]

theorem alloc_heap (w : World) (o : Obj) : (w.alloc o).heap[w.heap.size]? = some o := heap_alloc_new w o

/-- What is laid into a new block and never written. -/
theorem new_sealed (g : Good M σ ν w) (e : TypeId) (c : Array Value) : Good M σ ν (w.alloc (.cells c e)) ∧ Later M σ ν w M σ ν (w.alloc (.cells c e)) ∧ ¬ M w.heap.size ∧
    ∀ j, (w.alloc (.cells c e)).cell? ⟨w.heap.size, j, none⟩ = c[j]? := by
  have hk : ∀ b, b < w.heap.size → (w.alloc (.cells c e)).heap[b]? = w.heap[b]? := fun b hb => heap_alloc_old w _ b hb
  refine ⟨g.grow (by simp) hk, .grow (by simp) hk, fun h => absurd (g.lt _ h) (Nat.lt_irrefl _), fun j => ?_⟩
  exact cell_of_row _ _ _ _ _ _ (alloc_heap w _)

theorem box_run {t : TypeId} {v : Value} : (Instr.box t v).run P w = .ok (.pointer (some ⟨w.heap.size, 0, none⟩)) (w.alloc (.cells v.cells t)) := by
  simp only [Instr.box, newVar, newRow, Sem.run_bind, run_newObj, Result.andThen, Sem.run_pure, World.alloc_eq]

theorem boxr_yields {t : TypeId} {v : Value} {a : AV} (g : Good M σ ν w) (hr : Rep M (RefOK σ ν) w a v) (ho : a.okc = true) : Yields P (Instr.box t v) M σ ν w (.rp a.cells) σ := by
  obtain ⟨g', hl, hm, hc⟩ := new_sealed g t v.cells
  have hrs := hl.reps g (hr.okc_cells ho)
  refine ⟨_, _, M, ν, box_run, g', hl, .rp _ _ _ (fun j => v.cells[j]?.getD undef) (fun j hj => ⟨hm, ?_⟩) (fun j hj => ?_)⟩
  · have hj' : j < v.cells.size := hrs.1.trans Array.length_toList ▸ hj
    rw [Nat.zero_add, hc]; simp [hj']
  · have hj' : j < v.cells.size := hrs.1.trans Array.length_toList ▸ hj
    have := hrs.2 j hj (by simpa using hj')
    simpa [hj'] using this

/-- Filling. -/
theorem set_splice (cs : List Value) : ∀ (off : Nat) (z : Array Value), off + cs.length ≤ z.size →
    ((cs.zipIdx.foldl (fun (a : Array Value) (x : Value × Nat) => a.setIfInBounds (off + x.2) x.1) z)).toList = lsplice z.toList off cs := by
  have key : ∀ (cs : List Value) (k off : Nat) (z : Array Value), off + k + cs.length ≤ z.size →
      ((cs.zipIdx k).foldl (fun (a : Array Value) (x : Value × Nat) => a.setIfInBounds (off + x.2) x.1) z).toList = lsplice z.toList (off + k) cs := by
    intro cs
    induction cs with
    | nil => intro k off z h; simp [lsplice]
    | cons c cs ih =>
      intro k off z h
      simp only [List.zipIdx_cons, List.foldl_cons]
      rw [ih (k + 1) off _ (by simp at h ⊢; omega)]
      simp only [Array.toList_setIfInBounds, lsplice, List.length_cons]
      apply List.ext_getElem?
      intro i
      simp only [List.length_cons, ← Nat.add_assoc] at h
      have hz : off + k < z.toList.length := by simp; omega
      simp only [List.append_assoc, List.getElem?_append, List.length_take, List.length_set, List.getElem?_take, List.getElem?_set, List.getElem?_drop, List.length_cons]
      rw [Nat.min_eq_left (by omega), Nat.min_eq_left (by omega)]
      by_cases h1 : i < off + k
      · simp [h1, show i < off + (k + 1) by omega, show ¬ off + k = i by omega]
      · by_cases h2 : i = off + k
        · subst h2; simp [show off + k < off + (k + 1) by omega]; simpa using hz
        · have h3 : ¬ i < off + (k + 1) := by omega
          simp only [h1, h3, if_false]
          by_cases h4 : i - (off + (k + 1)) < cs.length
          · rw [if_pos h4, if_pos (by omega)]
            rw [show i - (off + k) = (i - (off + (k + 1))) + 1 by omega]; simp
          · rw [if_neg h4, if_neg (by omega), if_neg (by omega)]
            congr 1; omega
  intro off z h
  simpa using key cs 0 off z (by simpa using h)

theorem Reps.splice {cs : List AV} {us : List Value} {xs : List AV} {vs : List Value} (h : Reps M R w cs us) (h' : Reps M R w xs vs) (k : Nat) :
    Reps M R w (lsplice cs k xs) (lsplice us k vs) := by
  unfold lsplice
  rw [h'.1]
  exact ((h.take k).append h').append (h.drop _)

def PartsRep (M : Nat → Prop) (R : Ref → Value → Prop) (w : World) (ρ : Operand → AV) (ρ' : Operand → Value) : Prop := ∀ x, Rep M R w (ρ x) (ρ' x)

theorem fill_ok {ρ : Operand → AV} {ρ' : Operand → Value} (hρ : PartsRep M R w ρ ρ') (place : Nat → Option (Nat × Nat)) : ∀ (ps : List (Nat × Operand)) (qs : List Part) (z z' : List AV) (zs : Array Value),
    (ps.map fun p => (place p.1).map fun q => (q.1, q.2, p.2)) = qs.map some → Reps M R w z zs.toList → fillA ρ z qs = some z' →
    ∃ cs : Array Value, Instr.fill place zs (ps.map fun p => (p.1, ρ' p.2)) = some cs ∧ Reps M R w z' cs.toList := by
  intro ps
  induction ps with
  | nil =>
    intro qs z z' zs hp hz hf
    cases qs with
    | nil => simp [fillA] at hf; subst hf; exact ⟨zs, by simp [Instr.fill], hz⟩
    | cons q qs => simp at hp
  | cons p ps ih =>
    intro qs z z' zs hp hz hf
    cases qs with
    | nil => simp at hp
    | cons q qs =>
      obtain ⟨off, size, x⟩ := q
      obtain ⟨i, y⟩ := p
      simp only [List.map_cons, List.cons.injEq] at hp
      obtain ⟨h1, h2⟩ := hp
      cases hpl : place i with
      | none => simp [hpl] at h1
      | some q =>
        simp [hpl] at h1
        obtain ⟨h1a, h1b, rfl⟩ := h1
        simp only [fillA] at hf
        split at hf
        · rename_i hc
          obtain ⟨c1, c2, c3⟩ := hc
          have hx := (hρ y).okc_cells c1
          have hlen : (ρ' y).cells.size = size := (hx.1.trans Array.length_toList).symm.trans c2
          have hzl : z.length = zs.size := by have := hz.1; simpa using this
          have hnot : ¬ ((ρ' y).cells.size ≠ q.2 ∨ q.1 + (ρ' y).cells.size > zs.size) := by omega
          simp only [List.map_cons, Instr.fill, hpl]
          rw [if_neg (by simpa using hnot)]
          refine ih qs _ _ _ h2 ?_ hf
          have e := set_splice (ρ' y).cells.toList off zs (by simp; omega)
          have e2 : (Array.foldl (fun cs x => cs.setIfInBounds (q.1 + x.2) x.1) zs (ρ' y).cells.zipIdx).toList = lsplice zs.toList off (ρ' y).cells.toList := by
            rw [← e, h1a, ← Array.foldl_toList]
            simp
          have e3 := hz.splice hx off
          rw [← e2] at e3
          simpa using e3
        · cases hf

end
end Go.Ab
