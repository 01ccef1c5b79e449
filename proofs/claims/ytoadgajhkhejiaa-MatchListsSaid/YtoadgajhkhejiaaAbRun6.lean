/- The model's append, over the abstract rows. No condition. -/
import Derived.Test.YtoadgajhkhejiaaAbRun5
import Derived.Laws.AppendOwn
namespace Go.Ab
open Go
section
variable {P : Program} {M M' : Nat → Prop} {σ σ' : St} {ν ν' : Nat → Value} {w w' : World} {R : Ref → Value → Prop}
structure ElemOK (P : Program) (t elem : TypeId) (sz : Nat) : Prop where
  ty : P.underlying t = some (.slice elem)
  size : szOf P elem = some sz
  bytes : ∃ i z, P.info? elem = some i ∧ i.zero = some z ∧ i.bytes ≤ 32768 ∧ z.cells.size = sz
  pos : 0 < sz
def NoInt (P : Program) (t : TypeId) : Prop := (∃ e, P.underlying t = some (.slice e)) ∨ P.underlying t = some .string
theorem append_run_grow {t t2 ty elem : TypeId} {sz n cap k : Nat} {a : Option Addr} {x : Value} {os vs : List Value} (he : ElemOK P t elem sz) (ht2 : NoInt P t2)
    (hk : ∀ w', (Builtin.lenOf x).run P w' = .ok k w') (hbig : cap < n + k) (hsz : n + k ≤ 4294967296)
    (hold : ∀ w' : World, w'.heap = w.heap → (Builtin.firstCells sz n (.slice a n cap)).run P w' = .ok os.toArray w')
    (hnew : ∀ w' : World, w'.heap = w.heap → (Builtin.firstCells sz k x).run P w' = .ok vs.toArray w') :
    ∃ zs : Array Value, zs.size = (grownCap w (n + k) cap elem - (n + k)) * sz ∧
      (Builtin.append_ #[t, t2] ty #[.slice a n cap, x]).run P w = .ok (.slice (some ⟨w.heap.size, 0, none⟩) (n + k) (grownCap w (n + k) cap elem))
        ((w.drew).alloc (.cells (os.toArray ++ vs.toArray ++ zs) elem)) := by
  obtain ⟨i, z, hi, hz, hby, hzs⟩ := he.bytes
  refine ⟨Builtin.zeroCells z.cells (grownCap w (n + k) cap elem - (n + k)), by rw [size_zeroCells, hzs], ?_⟩
  have hle : ¬ n + k ≤ cap := by omega
  have hfit : ¬ (281474976710656 < Builtin.nextslicecap (n + k) cap * i.bytes) := by
    have : (n + k) * i.bytes ≤ 4294967296 * 32768 := Nat.mul_le_mul hsz hby
    have := growslice_fits (need := n + k) (old := cap) (bytes := i.bytes) hbig (by omega)
    omega
  have hmax : ¬ (9223372036854775807 < (n : Int) + (k : Int)) := by omega
  have hs := he.size
  have hold' := hold w.drew rfl
  have hnew' := hnew w.drew rfl
  rcases ht2 with ⟨e2, hd2⟩ | hd2 <;>
    (simp [Builtin.append_, run_under he.ty, run_size he.size, run_under hd2, hk, hle, hmax, run_info hi, hfit, Question.forced, zeroValue, hz, newRow, hold', hnew', grownCap]
     congr 2; apply Array.ext'; simp [List.append_assoc])
theorem append_run_room {t t2 ty elem : TypeId} {sz n cap k : Nat} {b o : Nat} {x : Value} {vs : List Value} {c : Array Value} {e : TypeId} {fr : Nat × Nat} (he : ElemOK P t elem sz) (ht2 : NoInt P t2)
    (hk : ∀ w', (Builtin.lenOf x).run P w' = .ok k w') (hroom : n + k ≤ cap)
    (hnew : (Builtin.firstCells sz k x).run P w = .ok vs.toArray w) (hvl : vs.length = k * sz) (h1 : ∀ v ∈ vs, v.oneCell' = true)
    (hh : w.heap[b]? = some (.cells c e fr)) (hs : o + cap * sz ≤ c.size) (hf : ∀ j, j < cap * sz → ¬ (fr.1 ≤ o + j ∧ o + j < fr.2)) :
    ∃ c', (Builtin.append_ #[t, t2] ty #[.slice (some ⟨b, o, none⟩) n cap, x]).run P w = .ok (.slice (some ⟨b, o, none⟩) (n + k) cap) (putRow w b c' e fr) ∧
      c'.toList = lsplice c.toList (o + n * sz) vs := by
  have hle : (n + k) * sz ≤ cap * sz := Nat.mul_le_mul_right _ hroom
  rw [Nat.add_mul] at hle
  obtain ⟨c', hr, hc'⟩ := run_storeCells (P := P) b (o + n * sz) e fr vs 0 c w hh (by omega) h1 (fun j hj => by
    have := hf (n * sz + j) (by omega)
    rw [show o + n * sz + 0 + j = o + (n * sz + j) by omega]; exact this)
  refine ⟨c', ?_, by simpa using hc'⟩
  rcases ht2 with ⟨e2, hd2⟩ | hd2 <;>
    simp [Builtin.append_, run_under he.ty, run_size he.size, run_under hd2, hk, hroom, hnew, add_flat, hr]
theorem Elems.append {sz : Nat} {xs ys : List AV} {us vs : List Value} (h : Elems M R w sz xs us) (h' : Elems M R w sz ys vs) (hl : us.length = xs.length * sz) : Elems M R w sz (xs ++ ys) (us ++ vs) := by
  intro i j hi hj
  by_cases h1 : i < xs.length
  · simp only [List.getElem_append_left h1] at hj ⊢
    obtain ⟨e1, e2⟩ := h i j h1 hj
    refine ⟨e1, fun v hv => e2 v ?_⟩
    rwa [List.getElem?_append_left (by rw [hl]; exact idx_lt h1 e1)] at hv
  · simp only [List.getElem_append_right (Nat.le_of_not_lt h1)] at hj ⊢
    have hi2 : i - xs.length < ys.length := by simp at hi; omega
    obtain ⟨e1, e2⟩ := h' (i - xs.length) j hi2 hj
    refine ⟨e1, fun v hv => e2 v ?_⟩
    have e3 : i * sz = (i - xs.length) * sz + xs.length * sz := by rw [← Nat.add_mul]; congr 1; omega
    rw [List.getElem?_append_right (by rw [hl]; omega)] at hv
    rw [show (i - xs.length) * sz + j = i * sz + j - us.length by omega]
    exact hv
theorem Elems.more {sz : Nat} {xs : List AV} {us zs : List Value} (h : Elems M R w sz xs us) (hl : us.length = xs.length * sz) : Elems M R w sz xs (us ++ zs) := by
  intro i j hi hj
  obtain ⟨e1, e2⟩ := h i j hi hj
  refine ⟨e1, fun v hv => e2 v ?_⟩
  rwa [List.getElem?_append_left (by rw [hl]; exact idx_lt hi e1)] at hv
theorem ObOK.row' {sz : Nat} (xs : List AV) {n b o cap : Nat} {c : Array Value} {e : TypeId} {fr : Nat × Nat} (hn : n = xs.length) (hM : M b) (hh : w.heap[b]? = some (.cells c e fr))
    (hl : xs.length ≤ cap) (hs : o + cap * sz ≤ c.size) (hf : ∀ j, j < cap * sz → ¬ (fr.1 ≤ o + j ∧ o + j < fr.2))
    (hr : ∀ i j (hi : i < xs.length) (hj : j < (xs[i]).cells.length), j < sz ∧ ∀ v, c[o + (i * sz + j)]? = some v → Rep M R w ((xs[i]).cells[j]) v) :
    ObOK M R w (.row sz xs) (.slice (some ⟨b, o, none⟩) n cap) := by subst hn; exact .row sz xs b o cap c e fr hM hh hl hs hf hr
theorem append_nil_yields {t t2 ty elem : TypeId} {sz : Nat} {ys : List AV} {x : Value} (g : Good M σ ν w) (he : ElemOK P t elem sz) (ht2 : NoInt P t2) (hx : SrcOK P M (RefOK σ ν) w sz ys x)
    {a : Option Addr} (hne : ys ≠ []) (hsz : ys.length ≤ 4294967296) :
    Yields P (Builtin.append_ #[t, t2] ty #[.slice a 0 0, x]) M σ ν w (.osl σ.length ys.length) (σ ++ [.row sz ys]) := by
  obtain ⟨vs, hvl, hel, h1, hfc⟩ := hx.cells
  have hpos : 0 < ys.length := List.length_pos_iff.2 hne
  obtain ⟨zs, hz, hrun⟩ := append_run_grow (w := w) (ty := ty) (n := 0) (cap := 0) (a := a) (os := []) he ht2 hx.len (by omega) (by omega) (fun w' _ => by cases a <;> simp [Builtin.firstCells, loadCells, loadCellsFrom]) hfc
  simp only [Nat.zero_add] at hz hrun
  have hge := grownCap_ge w ys.length 0 elem
  have hg' : Good M σ ν w.drew := g.grow (Nat.le_refl _) fun _ _ => rfl
  obtain ⟨M', ν', g', l', r'⟩ := hg'.newRow sz ys elem (#[] ++ vs.toArray ++ zs) (grownCap w ys.length 0 elem) hge (by simp [hvl, hz, ← Nat.add_mul]; apply Nat.mul_le_mul_right; omega)
    (by have := hel.more (zs := zs.toList) hvl
        have h3 := Elems.mono (w := w) (M := M) (R := RefOK σ ν) (M' := M) (w' := w.drew) (R' := RefOK σ ν) (fun b _ hm => ⟨hm, rfl⟩) (fun _ _ h => h) this
        simpa using h3)
  have hl0 : Later M σ ν w M σ ν w.drew := .grow (Nat.le_refl _) fun _ _ => rfl
  exact ⟨_, _, M', ν', hrun, g', hl0.trans l', r'⟩
theorem append_row_yields {t t2 ty elem : TypeId} {sz l : Nat} {xs ys : List AV} {x sv : Value} (g : Good M σ ν w) (he : ElemOK P t elem sz) (ht2 : NoInt P t2) (hx : SrcOK P M (RefOK σ ν) w sz ys x)
    (hs : σ[l]? = some (.row sz xs)) (hr : Rep M (RefOK σ ν) w (.osl l xs.length) sv) (hsz : xs.length + ys.length ≤ 4294967296) :
    Yields P (Builtin.append_ #[t, t2] ty #[sv, x]) M σ ν w (.osl l (xs.length + ys.length)) (σ.set l (.row sz (xs ++ ys))) := by
  obtain ⟨vs, hvl, hel, h1, hfc⟩ := hx.cells
  obtain ⟨a, len, cap, rfl, hR⟩ := hr.osl_inv
  have e := hR.s_row hs rfl
  have hσ : ys = [] → σ.set l (.row sz (xs ++ ys)) = σ := by
    rintro rfl
    rw [List.append_nil]
    apply List.ext_getElem?
    intro k
    by_cases hk : k = l
    · subst hk; rw [get_set_eq hs, hs]
    · rw [get_set_ne hk]
  rcases (g.ob l _ hs).row_inv with ⟨e3, rfl⟩ | ⟨b, o, cap2, c, el, fr, e3, hM, hh, hlen, hcs, hf, hrow⟩
  · rw [e3] at e; simp at e; obtain ⟨rfl, rfl, rfl⟩ := e
    by_cases hy : ys = []
    · have hσ' := hσ hy
      subst hy
      rw [hσ']
      have : vs = [] := by simpa using hvl
      subst this
      refine .same g (v := .slice none 0 0) ?_ hr
      have hk := hx.len
      have hfc' := hfc w rfl
      simp only [List.length_nil] at hk hfc'
      rcases ht2 with ⟨e2, hd2⟩ | hd2 <;>
        simp [Builtin.append_, run_under he.ty, run_size he.size, run_under hd2, hk, hfc']
    · obtain ⟨zs, hz, hrun⟩ := append_run_grow (w := w) (ty := ty) (n := 0) (cap := 0) (a := none) (os := []) he ht2 hx.len (by have := List.length_pos_iff.2 hy; omega) (by simpa using hsz) (fun w' _ => by simp [Builtin.firstCells]) hfc
      simp only [Nat.zero_add, List.nil_append, List.length_nil] at hz hrun hsz ⊢
      have hge := grownCap_ge w ys.length 0 elem
      refine ⟨_, _, fun k => M k ∨ k = w.heap.size, fun k => if k = l then .slice (some ⟨w.heap.size, 0, none⟩) ys.length (grownCap w ys.length 0 elem) else ν k, hrun, ?_⟩
      have evo : ∀ r v, RefOK σ ν r v → RefOK (σ.set l (.row sz ys)) (fun k => if k = l then .slice (some ⟨w.heap.size, 0, none⟩) ys.length (grownCap w ys.length 0 elem) else ν k) r v :=
        fun r v h => h.grow_row hs (by simpa using List.length_pos_iff.2 hy) (fun k hk => by simp [hk])
      have hkp : ∀ k, k < w.heap.size → (w.drew.alloc (.cells (#[] ++ vs.toArray ++ zs) elem)).heap[k]? = w.heap[k]? := fun k hk => heap_alloc_old w.drew _ k hk
      have := g.update (ν' := fun k => if k = l then .slice (some ⟨w.heap.size, 0, none⟩) ys.length (grownCap w ys.length 0 elem) else ν k) (M' := fun k => M k ∨ k = w.heap.size)
        (w' := w.drew.alloc (.cells (#[] ++ vs.toArray ++ zs) elem)) hs (by simp) (.row sz ys) (fun k hk => by simp [hk]) (by simp) (fun k hk _ => hkp k hk)
        (fun k hk h => h.elim id (fun e => by omega)) (fun k h _ => .inl h) (fun k h => by rcases h with h | h; (· have := g.lt k h; simp; omega); (· simp [h])) (fun _ k hk => by simp [blk] at hk; right; omega) evo
        (by simp only [if_true]
            have hel' := Elems.mono (M' := fun k => M k ∨ k = w.heap.size) (w' := w.drew.alloc (.cells (#[] ++ vs.toArray ++ zs) elem)) (fun k hk hm => ⟨fun x => x.elim hm (fun e => by omega), hkp k hk⟩) evo (hel.more (zs := zs.toList) hvl)
            refine .row sz ys w.heap.size 0 _ (#[] ++ vs.toArray ++ zs) elem (0, 0) (.inr rfl) (heap_alloc_new w.drew _) hge (by simp [hvl, hz, ← Nat.add_mul]; apply Nat.mul_le_mul_right; omega) (by simp) (fun i j hi hj => ?_)
            refine ⟨(hel' i j hi hj).1, fun v hv => (hel' i j hi hj).2 v ?_⟩
            rw [Nat.zero_add, ← Array.getElem?_toList] at hv
            simpa using hv)
      refine ⟨this.1, this.2, .osl _ _ _ _ _ ?_⟩
      simp [RefOK, get_set_eq hs]
  · rw [e3] at e; simp at e; obtain ⟨rfl, rfl, rfl⟩ := e
    by_cases hroom : xs.length + ys.length ≤ cap
    · obtain ⟨c', hrun, hc'⟩ := append_run_room (ty := ty) he ht2 hx.len hroom (hfc w rfl) hvl h1 hh hcs hf
      by_cases hy : ys = []
      · have hσ' := hσ hy
        subst hy
        rw [hσ']
        have : vs = [] := by simpa using hvl
        subst this
        have hce : c' = c := by
          apply Array.ext'
          rw [hc']; simp [lsplice]
        subst hce
        rw [putRow_self hh] at hrun
        exact .same g hrun hr
      · have hle : (xs.length + ys.length) * sz ≤ cap * sz := Nat.mul_le_mul_right _ hroom
        rw [Nat.add_mul] at hle
        have hsl : (o + xs.length * sz) + vs.length ≤ c.toList.length := by simp; omega
        have hcl : c'.size = c.size := by rw [← Array.length_toList, hc', splice_length _ _ _ hsl, Array.length_toList]
        have hν' : ∀ k, k ≠ l → (fun k => if k = l then Value.slice (some ⟨b, o, none⟩) (xs.length + ys.length) cap else ν k) k = ν k := fun k hk => by simp [hk]
        have evo : ∀ r v, RefOK σ ν r v → RefOK (σ.set l (.row sz (xs ++ ys))) (fun k => if k = l then .slice (some ⟨b, o, none⟩) (xs.length + ys.length) cap else ν k) r v :=
          fun r v h => h.grow_row hs (by have := List.length_pos_iff.2 hy; simp; omega) hν'
        have hkeep : ∀ k, k < w.heap.size → blk (ν l) ≠ some k → (putRow w b c' el fr).heap[k]? = w.heap[k]? := fun k _ hne => putRow_other (fun e => hne (by rw [e3, blk, e])) _ _ _
        have hseal : ∀ k, k < w.heap.size → ¬ M k → ¬ M k ∧ (putRow w b c' el fr).heap[k]? = w.heap[k]? := fun k hk hm => ⟨hm, hkeep k hk (fun e => hm (by rw [e3, blk] at e; simp at e; exact e ▸ hM))⟩
        have := g.update (ν' := fun k => if k = l then .slice (some ⟨b, o, none⟩) (xs.length + ys.length) cap else ν k) (M' := M)
          (w' := putRow w b c' el fr) hs (by simp) (.row sz (xs ++ ys)) hν' (by simp) hkeep (fun _ _ h => h) (fun _ h _ => h) (fun k h => by simpa using g.lt k h)
          (fun _ k hk => by left; rw [e3]; simpa [blk] using hk) evo
          (by simp only [if_true]
              refine ObOK.row' (xs ++ ys) (by simp) hM (putRow_same hh _ _ _) (by simpa using hroom) (by omega) hf (fun i j hi hj => ?_)
              by_cases hi1 : i < xs.length
              · simp only [List.getElem_append_left hi1] at hj ⊢
                obtain ⟨q1, q2⟩ := hrow i j hi1 hj
                refine ⟨q1, fun v hv => (q2 v ?_).mono hseal evo⟩
                have := idx_lt hi1 q1
                rw [← Array.getElem?_toList, hc', splice_get _ _ _ _ hsl, if_neg (by omega), Array.getElem?_toList] at hv
                exact hv
              · simp only [List.getElem_append_right (Nat.le_of_not_lt hi1)] at hj ⊢
                have hi2 : i - xs.length < ys.length := by simp at hi; omega
                obtain ⟨q1, q2⟩ := hel (i - xs.length) j hi2 hj
                have q3 : i * sz = (i - xs.length) * sz + xs.length * sz := by rw [← Nat.add_mul]; congr 1; omega
                have q4 := idx_lt hi2 q1
                refine ⟨q1, fun v hv => (q2 v ?_).mono hseal evo⟩
                rw [← Array.getElem?_toList, hc', splice_get _ _ _ _ hsl, if_pos (by omega)] at hv
                rw [show (i - xs.length) * sz + j = o + (i * sz + j) - (o + xs.length * sz) by omega]
                exact hv)
        refine ⟨_, _, M, _, hrun, this.1, this.2, .osl _ _ _ _ _ ?_⟩
        simp [RefOK, get_set_eq hs]
    · have hy : ys ≠ [] := by rintro rfl; simp at hroom; omega
      have hle : xs.length * sz ≤ cap * sz := Nat.mul_le_mul_right _ hlen
      have hoc : ∀ m, m < xs.length * sz → w.cell? ⟨b, o + m, none⟩ = some (c[o + m]?.getD undef) := fun m hm => by
        rw [cell_of_row _ _ _ _ _ _ hh]; simp [show o + m < c.size by omega]
      obtain ⟨zs, hz, hrun⟩ := append_run_grow (w := w) (ty := ty) (n := xs.length) (cap := cap) (a := some ⟨b, o, none⟩) (os := (List.range (xs.length * sz)).map fun m => c[o + m]?.getD undef) he ht2 hx.len (by omega) hsz
        (fun w' h => firstCells_mem _ hoc w' h) hfc
      have hge := grownCap_ge w (xs.length + ys.length) cap elem
      have hold : Elems M (RefOK σ ν) w sz xs ((List.range (xs.length * sz)).map fun m => c[o + m]?.getD undef) := by
        intro i j hi hj
        obtain ⟨q1, q2⟩ := hrow i j hi hj
        refine ⟨q1, fun v hv => q2 v ?_⟩
        have := idx_lt hi q1
        simp [this] at hv
        rw [← hv]; simp [show o + (i * sz + j) < c.size by omega]
      have hall := (hold.append hel (by simp)).more (zs := zs.toList) (by simp [hvl, Nat.add_mul])
      have hν' : ∀ k, k ≠ l → (fun k => if k = l then Value.slice (some ⟨w.heap.size, 0, none⟩) (xs.length + ys.length) (grownCap w (xs.length + ys.length) cap elem) else ν k) k = ν k := fun k hk => by simp [hk]
      have evo : ∀ r v, RefOK σ ν r v → RefOK (σ.set l (.row sz (xs ++ ys))) (fun k => if k = l then .slice (some ⟨w.heap.size, 0, none⟩) (xs.length + ys.length) (grownCap w (xs.length + ys.length) cap elem) else ν k) r v :=
        fun r v h => h.grow_row hs (by have := List.length_pos_iff.2 hy; simp; omega) hν'
      have hcells : ∃ cc : Array Value, cc = (((List.range (xs.length * sz)).map fun m => c[o + m]?.getD undef).toArray ++ vs.toArray ++ zs) := ⟨_, rfl⟩
      obtain ⟨cc, hcc⟩ := hcells
      rw [← hcc] at hrun
      have hccl : cc.toList = ((List.range (xs.length * sz)).map fun m => c[o + m]?.getD undef) ++ vs ++ zs.toList := by rw [hcc]; simp
      have hccs : cc.size = grownCap w (xs.length + ys.length) cap elem * sz := by
        rw [← Array.length_toList, hccl]
        simp [hvl, hz, ← Nat.add_mul]
        congr 1; omega
      have hkp : ∀ k, k < w.heap.size → (w.drew.alloc (.cells cc elem)).heap[k]? = w.heap[k]? := fun k hk => heap_alloc_old w.drew _ k hk
      rw [← hccl] at hall
      have := g.update (ν' := fun k => if k = l then .slice (some ⟨w.heap.size, 0, none⟩) (xs.length + ys.length) (grownCap w (xs.length + ys.length) cap elem) else ν k) (M' := fun k => M k ∨ k = w.heap.size)
        (w' := w.drew.alloc (.cells cc elem)) hs (by simp) (.row sz (xs ++ ys)) hν' (by simp) (fun k hk _ => hkp k hk)
        (fun k hk h => h.elim id (fun e => by omega)) (fun k h _ => .inl h) (fun k h => by rcases h with h | h; (· have := g.lt k h; simp; omega); (· simp [h])) (fun _ k hk => by simp [blk] at hk; right; omega) evo
        (by simp only [if_true]
            have hel' := Elems.mono (M' := fun k => M k ∨ k = w.heap.size) (w' := w.drew.alloc (.cells cc elem)) (fun k hk hm => ⟨fun x => x.elim hm (fun e => by omega), hkp k hk⟩) evo hall
            refine ObOK.row' (xs ++ ys) (by simp) (.inr rfl) (heap_alloc_new w.drew _) (by simpa using hge) (by simp [hccs]) (by simp) (fun i j hi hj => ?_)
            refine ⟨(hel' i j hi hj).1, fun v hv => (hel' i j hi hj).2 v ?_⟩
            rw [Nat.zero_add, ← Array.getElem?_toList] at hv
            exact hv)
      refine ⟨_, _, _, _, hrun, this.1, this.2, .osl _ _ _ _ _ ?_⟩
      simp [RefOK, get_set_eq hs]
end
end Go.Ab
