/- The model's operations answer what the abstract ones do: elements of rows written, rows appended to, rows and aggregates built. No condition. -/
import Derived.Test.YtoadgajhkhejiaaAbRun4
namespace Go.Ab
open Go
section
variable {P : Program} {M M' : Nat → Prop} {σ σ' : St} {ν ν' : Nat → Value} {w w' : World} {R : Ref → Value → Prop}
structure SrcOK (P : Program) (M : Nat → Prop) (R : Ref → Value → Prop) (w : World) (sz : Nat) (ys : List AV) (x : Value) : Prop where
  len : ∀ w', (Builtin.lenOf x).run P w' = .ok ys.length w'
  ty : ∀ i n, x ≠ .int i n
  cells : ∃ vs : List Value, vs.length = ys.length * sz ∧ Elems M R w sz ys vs ∧ (∀ v ∈ vs, v.oneCell' = true) ∧
    ∀ w' : World, w'.heap = w.heap → (Builtin.firstCells sz ys.length x).run P w' = .ok vs.toArray w'
  part : ∀ k, k ≤ ys.length → ∃ vs : List Value, vs.length = k * sz ∧ Elems M R w sz (ys.take k) vs ∧ (∀ v ∈ vs, v.oneCell' = true) ∧ (Builtin.firstCells sz k x).run P w = .ok vs.toArray w
theorem cell_heap {w w' : World} (h : w'.heap = w.heap) (a : Addr) : w'.cell? a = w.cell? a := by unfold World.cell?; rw [h]
theorem firstCells_mem {sz k : Nat} {b o n cap : Nat} (g : Nat → Value) (hc : ∀ m, m < k * sz → w.cell? ⟨b, o + m, none⟩ = some (g m)) (w' : World) (h : w'.heap = w.heap) :
    (Builtin.firstCells sz k (.slice (some ⟨b, o, none⟩) n cap)).run P w' = .ok ((List.range (k * sz)).map g).toArray w' := by
  unfold Builtin.firstCells
  exact run_loadCells w' ⟨b, o, none⟩ (k * sz) g (fun j hj => by rw [cell_heap h, add_flat]; exact hc j hj)
theorem div_mul_lt {m k sz : Nat} (h : m < k * sz) : 0 < sz ∧ m / sz < k ∧ m % sz < sz ∧ m = m / sz * sz + m % sz := by
  have h0 : 0 < sz := by cases sz with
    | zero => simp at h
    | succ n => omega
  exact ⟨h0, (Nat.div_lt_iff_lt_mul h0).2 h, Nat.mod_lt _ h0, by rw [Nat.mul_comm]; exact (Nat.div_add_mod m sz).symm⟩
theorem idx_div {i j sz : Nat} (h : j < sz) : (i * sz + j) / sz = i ∧ (i * sz + j) % sz = j := by
  have h0 : 0 < sz := by omega
  rw [Nat.mul_comm]
  exact ⟨by rw [Nat.mul_add_div h0, Nat.div_eq_of_lt h, Nat.add_zero], by rw [Nat.mul_add_mod, Nat.mod_eq_of_lt h]⟩
theorem idx_lt {i j k sz : Nat} (hi : i < k) (hj : j < sz) : i * sz + j < k * sz := by
  have : (i + 1) * sz ≤ k * sz := Nat.mul_le_mul_right _ hi
  rw [Nat.add_mul] at this; omega
theorem all_okc {sz : Nat} {ys : List AV} (h : ys.all (fun y => decide (y.cells.length = sz) && y.okc) = true) {i : Nat} (hi : i < ys.length) : (ys[i]).cells.length = sz ∧ (ys[i]).okc = true := by
  have := List.all_eq_true.1 h _ (List.getElem_mem hi)
  simpa using this
theorem src_of_mem {sz : Nat} {ys : List AV} {b o len cap : Nat} (f : Nat → Value) (hlen : len = ys.length)
    (hall : ys.all (fun y => decide (y.cells.length = sz) && y.okc) = true)
    (hc : ∀ m, m < ys.length * sz → w.cell? ⟨b, o + m, none⟩ = some (f m))
    (hr : ∀ i j (hi : i < ys.length) (hj : j < (ys[i]).cells.length), Rep M R w ((ys[i]).cells[j]) (f (i * sz + j))) : SrcOK P M R w sz ys (.slice (some ⟨b, o, none⟩) len cap) := by
  subst hlen
  have hone : ∀ k, k ≤ ys.length → ∀ v ∈ (List.range (k * sz)).map f, v.oneCell' = true := by
    intro k hk v hv
    simp only [List.mem_map, List.mem_range] at hv
    obtain ⟨m, hm, rfl⟩ := hv
    obtain ⟨h0, h1, h2, h3⟩ := div_mul_lt hm
    obtain ⟨e1, e2⟩ := all_okc hall (Nat.lt_of_lt_of_le h1 hk)
    have hj : m % sz < (ys[m / sz]).cells.length := by omega
    have := hr (m / sz) (m % sz) (Nat.lt_of_lt_of_le h1 hk) hj
    rw [← h3] at this
    exact (this.one_inv (List.all_eq_true.1 (AV.okc_all e2) _ (List.getElem_mem hj))).1
  refine ⟨fun w' => by simp [Builtin.lenOf], by simp, ⟨(List.range (ys.length * sz)).map f, by simp, fun i j hi hj => ?_, hone _ (Nat.le_refl _), firstCells_mem f hc⟩, fun k hk =>
    ⟨(List.range (k * sz)).map f, by simp, fun i j hi hj => ?_, hone k hk, firstCells_mem f (fun m hm => hc m (Nat.lt_of_lt_of_le hm (Nat.mul_le_mul_right _ hk))) w rfl⟩⟩
  · have hsz := (all_okc hall hi).1
    have hj2 : j < sz := by omega
    refine ⟨hj2, fun v hv => ?_⟩
    have hlt := idx_lt hi hj2
    simp [hlt] at hv
    rw [← hv]; exact hr i j hi hj
  · have hi2 : i < ys.length := by simp at hi; omega
    have hik : i < k := by simp at hi; omega
    have hget : (ys.take k)[i] = ys[i] := by simp
    have hj3 : j < (ys[i]).cells.length := by rw [hget] at hj; exact hj
    have hsz := (all_okc hall hi2).1
    have hj2 : j < sz := by omega
    refine ⟨hj2, fun v hv => ?_⟩
    have hlt := idx_lt hik hj2
    simp [hlt] at hv
    have := hr i j hi2 hj3
    rw [hv] at this
    simpa only [hget] using this
theorem srcA_ok (g : Good M σ ν w) {sz : Nat} {y : AV} {ys : List AV} {x : Value} (h : srcA σ sz y = some ys) (hr : Rep M (RefOK σ ν) w y x) : SrcOK P M (RefOK σ ν) w sz ys x := by
  have hnil : ∀ (a : Option Addr) (cap : Nat), SrcOK P M (RefOK σ ν) w sz [] (.slice a 0 cap) := fun a cap => by
    have hf : ∀ w' : World, (Builtin.firstCells sz 0 (.slice a 0 cap)).run P w' = .ok #[] w' := by
      intro w'
      cases a with
      | none => simp [Builtin.firstCells]
      | some a => simp [Builtin.firstCells, loadCells, loadCellsFrom]
    refine ⟨fun w' => by simp [Builtin.lenOf], by simp, ⟨[], by simp, fun i j hi => by simp at hi, by simp, fun w' hw => hf w'⟩, fun k hk => ?_⟩
    have : k = 0 := by simpa using hk
    subst this
    exact ⟨[], by simp, fun i j hi => by simp at hi, by simp, hf w⟩
  cases y with
  | nils =>
    simp [srcA] at h; subst h
    cases hr
    exact hnil _ _
  | zsl =>
    simp [srcA] at h; subst h
    cases hr
    exact hnil _ _
  | sl sz' zs =>
    simp only [srcA] at h
    split at h
    · rename_i hc
      obtain ⟨rfl, hall⟩ := hc
      simp at h; subst h
      obtain ⟨a, cap, rfl, _, hz | ⟨b, o, f, rfl, hcell, hrep⟩⟩ := hr.sl_inv
      · subst hz; exact hnil _ _
      · refine src_of_mem (fun m => f (m / sz) (m % sz)) rfl hall (fun m hm => ?_) (fun i j hi hj => ?_)
        · obtain ⟨h0, h1, h2, h3⟩ := div_mul_lt hm
          have := (hcell (m / sz) (m % sz) h1 (by rw [(all_okc hall h1).1]; exact h2)).2.2
          rw [← h3] at this; exact this
        · have hj2 : j < sz := by rw [← (all_okc hall hi).1]; exact hj
          obtain ⟨e1, e2⟩ := idx_div (i := i) hj2
          simp only [e1, e2]
          exact hrep i j hi hj
    · cases h
  | osl l n =>
    simp only [srcA] at h
    split at h
    · rename_i sz' zs hs
      split at h
      · rename_i hc
        obtain ⟨rfl, rfl, hall⟩ := hc
        simp at h; subst h
        obtain ⟨a, len, cap, rfl, hR⟩ := hr.osl_inv
        have e := hR.s_row hs rfl
        rcases (g.ob l _ hs).row_inv with ⟨e3, rfl⟩ | ⟨b, o, cap2, c, el, fr, e3, hM, hh, hlen, hsz, hf, hx⟩
        · rw [e3] at e; simp at e; obtain ⟨rfl, rfl, rfl⟩ := e; exact hnil _ _
        · rw [e3] at e; simp at e; obtain ⟨rfl, rfl, rfl⟩ := e
          have hle : zs.length * sz ≤ cap * sz := Nat.mul_le_mul_right _ hlen
          refine src_of_mem (fun m => c[o + m]?.getD undef) rfl hall (fun m hm => ?_) (fun i j hi hj => ?_)
          · rw [cell_of_row _ _ _ _ _ _ hh]
            simp [show o + m < c.size by omega]
          · have hj2 : j < sz := by rw [← (all_okc hall hi).1]; exact hj
            have := idx_lt hi hj2
            exact (hx i j hi hj).2 _ (by simp [show o + (i * sz + j) < c.size by omega])
      · cases h
    · cases h
  | pl v =>
    cases v <;> simp only [srcA] at h <;> try cases h
    rename_i s
    split at h
    · rename_i h1
      subst h1
      simp at h; subst h
      have e := hr.pl_inv
      subst e
      have hsz : s.data.toList.length = s.size := by simp
      refine ⟨fun w' => by simp [Builtin.lenOf], by simp, ⟨s.data.toList.map fun b => .int .u8 b.toNat, by simp, fun i j hi hj => ?_, fun v hv => ?_, fun w' _ => ?_⟩, fun k hk =>
        ⟨(s.data.toList.take k).map fun b => .int .u8 b.toNat, by simp at hk; simp; omega, fun i j hi hj => ?_, fun v hv => ?_, ?_⟩⟩
      · have hj0 : j = 0 := by simp [AV.cells] at hj; omega
        subst hj0
        refine ⟨by omega, fun v hv => ?_⟩
        simp at hv
        obtain ⟨b, hb, rfl⟩ := hv
        simp at hi
        have : s.data[i] = b := by
          rw [Array.getElem?_eq_getElem hi] at hb; simpa using hb
        simp [AV.cells, this]
        exact .pl _
      · simp at hv
        obtain ⟨b, _, rfl⟩ := hv
        rfl
      · have e1 : s.extract 0 s.size = s := by simp
        simp [Builtin.firstCells, e1]
        apply Array.ext'
        simp
      · have hj0 : j = 0 := by simp [AV.cells] at hj; omega
        subst hj0
        refine ⟨by omega, fun v hv => ?_⟩
        have hi2 : i < s.data.toList.length := by simp at hi ⊢; omega
        have hik : i < k := by simp at hi; omega
        have e2 : (s.data.toList.take k)[i]? = some (s.data.toList[i]'hi2) := by rw [List.getElem?_take, if_pos hik]; exact List.getElem?_eq_getElem hi2
        simp only [Nat.mul_one, Nat.add_zero, List.getElem?_map, e2, Option.map_some, Option.some.injEq] at hv
        subst hv
        simp [AV.cells]
        exact .pl _
      · simp only [List.mem_map] at hv
        obtain ⟨b, _, rfl⟩ := hv
        rfl
      · simp [Builtin.firstCells]
        apply Array.ext'
        simp
    · cases h
  | _ => simp [srcA] at h
end
end Go.Ab
