/- The model's operations answer what the abstract ones do: what writes or makes objects. No condition. -/
import Derived.Test.YtoadgajhkhejiaaAbRun3
import Derived.Laws.Append
namespace Go.Ab
open Go

section
variable {P : Program} {M M' : Nat → Prop} {σ σ' : St} {ν ν' : Nat → Value} {w w' : World} {R : Ref → Value → Prop}

theorem RefOK.p_box {l : Nat} {cs : List AV} {v : Value} (hs : σ[l]? = some (.box cs)) (h : RefOK σ ν (.p l) v) : v = ν l := by
  simp only [RefOK, hs] at h; exact h
theorem RefOK.s_row {l n sz : Nat} {xs : List AV} {v : Value} (hs : σ[l]? = some (.row sz xs)) (h : RefOK σ ν (.s l n) v) (hn : n = xs.length) : v = ν l := by
  simp only [RefOK, hs] at h; exact h.2 hn
theorem RefOK.e_row {l n i sz : Nat} {xs : List AV} {v : Value} (hs : σ[l]? = some (.row sz xs)) (h : RefOK σ ν (.e l n i) v) (hn : n = xs.length) :
    ∃ b o len cap, ν l = .slice (some ⟨b, o, none⟩) len cap ∧ v = .pointer (some ⟨b, o + i * sz, none⟩) := by
  simp only [RefOK, hs] at h; exact h.2 hn

theorem ObOK.box_inv {cs : List AV} {v : Value} (h : ObOK M R w (.box cs) v) : ∃ (b o : Nat) (c : Array Value) (e : TypeId) (fr : Nat × Nat), v = .pointer (some ⟨b, o, none⟩) ∧ M b ∧ w.heap[b]? = some (.cells c e fr) ∧
    o + cs.length ≤ c.size ∧ (∀ j, j < cs.length → ¬ (fr.1 ≤ o + j ∧ o + j < fr.2)) ∧ ∀ j (hj : j < cs.length) v, c[o + j]? = some v → Rep M R w (cs[j]) v := by
  cases h with
  | box cs b o c e fr h1 h2 h3 h4 h5 => exact ⟨b, o, c, e, fr, rfl, h1, h2, h3, h4, h5⟩

theorem ObOK.row_inv {sz : Nat} {xs : List AV} {v : Value} (h : ObOK M R w (.row sz xs) v) : (v = .slice none 0 0 ∧ xs = []) ∨ ∃ (b o cap : Nat) (c : Array Value) (e : TypeId) (fr : Nat × Nat),
    v = .slice (some ⟨b, o, none⟩) xs.length cap ∧ M b ∧ w.heap[b]? = some (.cells c e fr) ∧ xs.length ≤ cap ∧ o + cap * sz ≤ c.size ∧ (∀ j, j < cap * sz → ¬ (fr.1 ≤ o + j ∧ o + j < fr.2)) ∧
    ∀ i j (hi : i < xs.length) (hj : j < (xs[i]).cells.length), j < sz ∧ ∀ v, c[o + (i * sz + j)]? = some v → Rep M R w ((xs[i]).cells[j]) v := by
  cases h with
  | row0 => exact .inl ⟨rfl, rfl⟩
  | row sz xs b o cap c e fr h1 h2 h3 h4 h5 h6 => exact .inr ⟨b, o, cap, c, e, fr, rfl, h1, h2, h3, h4, h5, h6⟩

/-- Loading. -/
theorem load_same {t : TypeId} {n : Nat} {ag : Bool} {a : AV} {v : Value} {r : AV} (g : Good M σ ν w) (hn : szOf P t = some n) (hag : agOf P t = some ag)
    (hr : Rep M (RefOK σ ν) w a v)
    (h : loadA σ n ag a = some r) : Same P (Instr.loadAt t v) M (RefOK σ ν) w r := by
  have hrun : ∀ b o, (Instr.loadAt t (.pointer (some ⟨b, o, none⟩))) = loadVar t ⟨b, o, none⟩ := fun b o => rfl
  cases a with
  | rp cs =>
    simp only [loadA] at h
    obtain ⟨b, o, f, rfl, hc, hx⟩ := hr.rp_inv
    rw [hrun]; exact loadVar_same hn hag f (fun j hj => (hc j hj).2) hx h
  | ptr l off =>
    simp only [loadA] at h
    split at h
    · rename_i cs hs
      obtain ⟨b, o, rfl, hR⟩ := hr.ptr_inv
      have e := hR.p_box hs
      obtain ⟨b', o', c, el, fr, e', hM, hh, hsz, hf, hx⟩ := (g.ob l _ hs).box_inv
      rw [e'] at e; simp at e; obtain ⟨rfl, rfl⟩ := e
      rw [hrun]
      refine loadVar_same hn hag (fun j => c[o + (off + j)]?.getD undef) (fun j hj => ?_) (fun j hj => ?_) h
      · simp at hj
        rw [cell_of_row _ _ _ _ _ _ hh, Nat.add_assoc]
        simp [show o + (off + j) < c.size by omega]
      · simp at hj
        rw [List.getElem_drop]
        exact hx (off + j) (by omega) _ (by simp [show o + (off + j) < c.size by omega])
    · cases h
  | ep l m i off =>
    simp only [loadA] at h
    split at h
    · rename_i sz xs hs
      split at h
      · rename_i hm
        split at h
        · rename_i x hxi
          obtain ⟨b, o, rfl, hR⟩ := hr.ep_inv
          obtain ⟨b', o', len, cap, e1, e2⟩ := hR.e_row hs hm
          simp at e2; obtain ⟨rfl, rfl⟩ := e2
          obtain ⟨hi, rfl⟩ := List.getElem?_eq_some_iff.1 hxi
          rcases (g.ob l _ hs).row_inv with ⟨e3, rfl⟩ | ⟨b2, o2, cap2, c, el, fr, e3, hM, hh, hlen, hsz, hf, hx⟩
          · simp at hi
          · rw [e3] at e1; simp at e1; obtain ⟨⟨rfl, rfl⟩, rfl, rfl⟩ := e1
            rw [hrun]
            have hroom : ∀ j, j < (xs[i]).cells.length → o2 + (i * sz + j) < c.size := fun j hj => by
              have := (hx i j hi hj).1
              have h2 : (i + 1) * sz ≤ cap2 * sz := Nat.mul_le_mul_right _ (by omega)
              rw [Nat.add_mul] at h2; omega
            refine loadVar_same hn hag (fun j => c[o2 + (i * sz + (off + j))]?.getD undef) (fun j hj => ?_) (fun j hj => ?_) h
            · simp at hj
              have := hroom (off + j) (by omega)
              rw [cell_of_row _ _ _ _ _ _ hh, show o2 + i * sz + off + j = o2 + (i * sz + (off + j)) by omega]
              simp [this]
            · simp at hj
              have := hroom (off + j) (by omega)
              rw [List.getElem_drop]
              exact (hx i (off + j) hi (by omega)).2 _ (by simp [this])
        · cases h
      · cases h
    · cases h
  | _ => simp [loadA] at h

theorem RefOK.set_box {l : Nat} {cs cs' : List AV} (hs : σ[l]? = some (.box cs)) {r : Ref} {v : Value} (h : RefOK σ ν r v) : RefOK (σ.set l (.box cs')) ν r v := by
  cases r with
  | p k =>
    simp only [RefOK] at h ⊢
    by_cases hk : k = l
    · subst hk; rw [get_set_eq hs]; rw [hs] at h; exact h
    · rw [get_set_ne hk]; exact h
  | s k n =>
    simp only [RefOK] at h ⊢
    by_cases hk : k = l
    · subst hk; rw [hs] at h; exact h.elim
    · rw [get_set_ne hk]; exact h
  | e k n i =>
    simp only [RefOK] at h ⊢
    by_cases hk : k = l
    · subst hk; rw [hs] at h; exact h.elim
    · rw [get_set_ne hk]; exact h

theorem RefOK.set_row {l sz : Nat} {xs xs' : List AV} (hs : σ[l]? = some (.row sz xs)) (hl : xs'.length = xs.length) {r : Ref} {v : Value} (h : RefOK σ ν r v) : RefOK (σ.set l (.row sz xs')) ν r v := by
  cases r with
  | p k =>
    simp only [RefOK] at h ⊢
    by_cases hk : k = l
    · subst hk; rw [hs] at h; exact h.elim
    · rw [get_set_ne hk]; exact h
  | s k n =>
    simp only [RefOK] at h ⊢
    by_cases hk : k = l
    · subst hk; rw [get_set_eq hs]; rw [hs] at h; simpa [hl] using h
    · rw [get_set_ne hk]; exact h
  | e k n i =>
    simp only [RefOK] at h ⊢
    by_cases hk : k = l
    · subst hk; rw [get_set_eq hs]; rw [hs] at h; simpa [hl] using h
    · rw [get_set_ne hk]; exact h

/-- A row that has grown: whoever knew it at its elder length is told nothing more. -/
theorem RefOK.grow_row {l sz : Nat} {xs xs' : List AV} (hs : σ[l]? = some (.row sz xs)) (hl : xs.length < xs'.length) (hν : ∀ k, k ≠ l → ν' k = ν k) {r : Ref} {v : Value} (h : RefOK σ ν r v) :
    RefOK (σ.set l (.row sz xs')) ν' r v := by
  cases r with
  | p k =>
    simp only [RefOK] at h ⊢
    by_cases hk : k = l
    · subst hk; rw [hs] at h; exact h.elim
    · rw [get_set_ne hk, hν k hk]; exact h
  | s k n =>
    simp only [RefOK] at h ⊢
    by_cases hk : k = l
    · subst hk; rw [get_set_eq hs]; rw [hs] at h; exact ⟨by omega, fun e => by omega⟩
    · rw [get_set_ne hk, hν k hk]; exact h
  | e k n i =>
    simp only [RefOK] at h ⊢
    by_cases hk : k = l
    · subst hk; rw [get_set_eq hs]; rw [hs] at h; exact ⟨by omega, fun e => by omega⟩
    · rw [get_set_ne hk, hν k hk]; exact h

theorem RefOK.set_dead {l : Nat} {o : Ob} (hs : σ[l]? = some o) {r : Ref} {v : Value} (h : RefOK σ ν r v) : RefOK (σ.set l .dead) ν r v := by
  cases r with
  | p k =>
    simp only [RefOK] at h ⊢
    by_cases hk : k = l
    · subst hk; rw [get_set_eq hs]; trivial
    · rw [get_set_ne hk]; exact h
  | s k n =>
    simp only [RefOK] at h ⊢
    by_cases hk : k = l
    · subst hk; rw [get_set_eq hs]; trivial
    · rw [get_set_ne hk]; exact h
  | e k n i =>
    simp only [RefOK] at h ⊢
    by_cases hk : k = l
    · subst hk; rw [get_set_eq hs]; trivial
    · rw [get_set_ne hk]; exact h

/-- The cells of a spliced list. -/
theorem splice_get {α : Type} (l vs : List α) (k j : Nat) (h : k + vs.length ≤ l.length) :
    (lsplice l k vs)[j]? = if k ≤ j ∧ j < k + vs.length then vs[j - k]? else l[j]? := by
  unfold lsplice
  simp only [List.append_assoc, List.getElem?_append, List.length_take, List.getElem?_take, List.getElem?_drop]
  rw [Nat.min_eq_left (by omega)]
  by_cases h1 : j < k
  · simp [h1, show ¬ k ≤ j by omega]
  · by_cases h2 : j < k + vs.length
    · rw [if_neg h1, if_pos (by omega), if_pos ⟨by omega, h2⟩]
    · rw [if_neg h1, if_neg (by omega), if_neg (by omega)]
      congr 1; omega

theorem splice_length {α : Type} (l vs : List α) (k : Nat) (h : k + vs.length ≤ l.length) : (lsplice l k vs).length = l.length := by
  unfold lsplice; simp; omega

/-- Storing into a box. -/
theorem storeBox (g : Good M σ ν w) {t : TypeId} {n l off : Nat} {cs : List AV} {x : AV} {pv v : Value} (hn : szOf P t = some n) (hs : σ[l]? = some (.box cs))
    (hp : Rep M (RefOK σ ν) w (.ptr l off) pv) (hx : Rep M (RefOK σ ν) w x v) (ho : x.okc = true) (hl : x.cells.length = n) (hb : off + n ≤ cs.length) :
    ∃ w', (Instr.storeAt t pv v).run P w = .ok () w' ∧ Good M (σ.set l (.box (lsplice cs off x.cells))) ν w' ∧ Later M σ ν w M (σ.set l (.box (lsplice cs off x.cells))) ν w' := by
  obtain ⟨b, o, rfl, hR⟩ := hp.ptr_inv
  have e := hR.p_box hs
  obtain ⟨b', o', c, el, fr, e', hM, hh, hsz, hf, hrep⟩ := (g.ob l _ hs).box_inv
  rw [e'] at e; simp at e; obtain ⟨rfl, rfl⟩ := e
  have hcells := hx.okc_cells ho
  have hvl : v.cells.toList.length = n := by rw [← hcells.1]; exact hl
  obtain ⟨c', hrun, hc'⟩ := run_storeCells (P := P) b (o + off) el fr v.cells.toList 0 c w hh (by omega) (hcells.one (AV.okc_all ho)) (fun j hj => by
    have := hf (off + j) (by omega)
    rw [show o + off + 0 + j = o + (off + j) by omega]; exact this)
  simp only [Nat.add_zero] at hc'
  have hsl : (o + off) + v.cells.toList.length ≤ c.toList.length := by simp only [Array.length_toList] at hvl ⊢; omega
  refine ⟨putRow w b c' el fr, ?_, ?_⟩
  · have hvs : v.cells.size = n := by simpa using hvl
    simp only [Instr.storeAt, Instr.sureAddr, storeVar, Sem.run_bind, Sem.run_pure, Result.andThen, run_size hn, hvs, ne_eq, not_true, if_false, hrun]
  · have evo : ∀ r v, RefOK σ ν r v → RefOK (σ.set l (.box (lsplice cs off x.cells))) ν r v := fun r v h => h.set_box hs
    have hkeep : ∀ k, k < w.heap.size → blk (ν l) ≠ some k → (putRow w b c' el fr).heap[k]? = w.heap[k]? := fun k _ hne => putRow_other (fun e => hne (by rw [e', blk, e])) _ _ _
    refine g.update hs (by simp) _ (fun _ _ => rfl) (by simp) hkeep (fun _ _ h => h) (fun _ h _ => h) (fun k h => by simpa using g.lt k h) (fun _ k h => .inl h) evo ?_
    have hseal : ∀ k, k < w.heap.size → ¬ M k → ¬ M k ∧ (putRow w b c' el fr).heap[k]? = w.heap[k]? := fun k hk hm => ⟨hm, hkeep k hk (fun e => hm (by rw [e', blk] at e; simp at e; exact e ▸ hM))⟩
    rw [e']
    have hlen' : (lsplice cs off x.cells).length = cs.length := splice_length _ _ _ (by omega)
    have hcl : c'.size = c.size := by rw [← Array.length_toList, hc', splice_length _ _ _ hsl, Array.length_toList]
    refine .box _ b o c' el fr hM (putRow_same hh _ _ _) (by omega) (fun j hj => hf j (by omega)) (fun j hj u hu => ?_)
    rw [← Array.getElem?_toList, hc', splice_get _ _ _ _ hsl] at hu
    have hgj := List.getElem?_eq_getElem hj
    rw [splice_get _ _ _ _ (by omega)] at hgj
    by_cases hin : off ≤ j ∧ j < off + x.cells.length
    · rw [if_pos hin] at hgj
      rw [if_pos (by omega)] at hu
      obtain ⟨u', hu', hru⟩ := hcells.get hgj
      rw [show o + j - (o + off) = j - off by omega, hu'] at hu
      simp at hu; subst hu
      exact hru.mono hseal evo
    · rw [if_neg hin] at hgj
      rw [if_neg (by omega)] at hu
      obtain ⟨hj2, hgj2⟩ := List.getElem?_eq_some_iff.1 hgj
      rw [← hgj2]
      exact (hrep j hj2 u (by rw [← Array.getElem?_toList]; exact hu)).mono hseal evo

end
end Go.Ab
