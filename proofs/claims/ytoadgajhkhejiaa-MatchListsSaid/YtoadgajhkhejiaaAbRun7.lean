/- The model's operations answer what the abstract ones do: elements stored, aggregates and rows built. No condition. -/
import Derived.Test.YtoadgajhkhejiaaAbRun6
namespace Go.Ab
open Go
section
variable {P : Program} {M M' : Nat → Prop} {σ σ' : St} {ν ν' : Nat → Value} {w w' : World} {R : Ref → Value → Prop}
theorem AV.one_cells {v : AV} (h : v.one = true) : v.cells = [v] := by cases v <;> simp_all [AV.cells, AV.one]
theorem setElem_inv {x e' : AV} {off : Nat} {vs : List AV} (h : setElem x off vs = some e') : off + vs.length ≤ x.cells.length ∧ e'.cells = lsplice x.cells off vs := by
  unfold setElem at h
  split at h
  · split at h
    · rename_i hl; simp at h; subst h; exact ⟨hl, rfl⟩
    · cases h
  · split at h
    · rename_i hc
      obtain ⟨rfl, hone⟩ := hc
      split at h
      · rename_i v
        split at h
        · rename_i hv
          simp at h; subst h
          rw [AV.one_cells hone, AV.one_cells hv]
          simp [lsplice]
        · cases h
      · cases h
    · cases h
theorem storeElem (g : Good M σ ν w) {t : TypeId} {n l i off m sz : Nat} {xs : List AV} {x e e' : AV} {pv v : Value} (hn : szOf P t = some n) (hs : σ[l]? = some (.row sz xs)) (hm : m = xs.length)
    (hi : xs[i]? = some e) (he : setElem e off x.cells = some e')
    (hp : Rep M (RefOK σ ν) w (.ep l m i off) pv) (hx : Rep M (RefOK σ ν) w x v) (ho : x.okc = true) (hl : x.cells.length = n) :
    ∃ w', (Instr.storeAt t pv v).run P w = .ok () w' ∧ Good M (σ.set l (.row sz (xs.set i e'))) ν w' ∧ Later M σ ν w M (σ.set l (.row sz (xs.set i e'))) ν w' := by
  obtain ⟨hroom, hcell⟩ := setElem_inv he
  obtain ⟨b, o, rfl, hR⟩ := hp.ep_inv
  obtain ⟨b', o', len, cap, e1, e2⟩ := hR.e_row hs hm
  simp at e2; obtain ⟨rfl, rfl⟩ := e2
  obtain ⟨hil, hie⟩ := List.getElem?_eq_some_iff.1 hi
  rcases (g.ob l _ hs).row_inv with ⟨e3, rfl⟩ | ⟨b2, o2, cap2, c, el, fr, e3, hM, hh, hlen, hsz, hf, hrow⟩
  · simp at hil
  · have e4 := e3
    rw [e1] at e3; simp at e3; obtain ⟨⟨rfl, rfl⟩, rfl, rfl⟩ := e3
    have hcells := hx.okc_cells ho
    have hvl : v.cells.toList.length = n := by rw [← hcells.1]; exact hl
    have helen : e.cells.length ≤ sz := by
      rcases Nat.eq_zero_or_pos e.cells.length with h0 | h0
      · omega
      · have := (hrow i (e.cells.length - 1) hil (by rw [hie]; omega)).1; omega
    have hcapi : (i + 1) * sz ≤ cap * sz := Nat.mul_le_mul_right _ (by omega)
    rw [Nat.add_mul, Nat.one_mul] at hcapi
    obtain ⟨c', hrun, hc'⟩ := run_storeCells (P := P) b (o' + i * sz + off) el fr v.cells.toList 0 c w hh (by omega) (hcells.one (AV.okc_all ho)) (fun j hj => by
      have := hf (i * sz + off + j) (by omega)
      rw [show o' + i * sz + off + 0 + j = o' + (i * sz + off + j) by omega]; exact this)
    simp only [Nat.add_zero] at hc'
    have hsl : (o' + i * sz + off) + v.cells.toList.length ≤ c.toList.length := by simp only [Array.length_toList] at hvl ⊢; omega
    refine ⟨putRow w b c' el fr, ?_, ?_⟩
    · have hvs : v.cells.size = n := by simpa using hvl
      simp only [Instr.storeAt, Instr.sureAddr, storeVar, Sem.run_bind, Sem.run_pure, Result.andThen, run_size hn, hvs, ne_eq, not_true, if_false, hrun]
    · have evo : ∀ r v, RefOK σ ν r v → RefOK (σ.set l (.row sz (xs.set i e'))) ν r v := fun r v h => h.set_row hs (by simp)
      have hkeep : ∀ k, k < w.heap.size → blk (ν l) ≠ some k → (putRow w b c' el fr).heap[k]? = w.heap[k]? := fun k _ hne => putRow_other (fun e => hne (by rw [e4, blk, e])) _ _ _
      refine g.update hs (by simp) _ (fun _ _ => rfl) (by simp) hkeep (fun _ _ h => h) (fun _ h _ => h) (fun k h => by simpa using g.lt k h) (fun _ k h => .inl h) evo ?_
      have hseal : ∀ k, k < w.heap.size → ¬ M k → ¬ M k ∧ (putRow w b c' el fr).heap[k]? = w.heap[k]? := fun k hk hm => ⟨hm, hkeep k hk (fun e => hm (by rw [e4, blk] at e; simp at e; exact e ▸ hM))⟩
      rw [e4]
      have hcl : c'.size = c.size := by rw [← Array.length_toList, hc', splice_length _ _ _ hsl, Array.length_toList]
      refine ObOK.row' (xs.set i e') (by simp) hM (putRow_same hh _ _ _) (by simpa using hlen) (by omega) hf (fun i' j hi' hj => ?_)
      have hi2 : i' < xs.length := by simpa using hi'
      by_cases hii : i' = i
      · subst hii
        have hset : (xs.set i' e')[i'] = e' := by simp
        have hj2 : j < e.cells.length := by rw [hset, hcell, splice_length _ _ _ hroom] at hj; exact hj
        refine ⟨by omega, fun u hu => ?_⟩
        rw [← Array.getElem?_toList, hc', splice_get _ _ _ _ hsl] at hu
        have hgj : (lsplice e.cells off x.cells)[j]? = some ((lsplice e.cells off x.cells)[j]'(by rw [splice_length _ _ _ hroom]; exact hj2)) := List.getElem?_eq_getElem _
        rw [splice_get _ _ _ _ (by omega)] at hgj
        have hgoal : Rep M (RefOK (σ.set l (.row sz (xs.set i' e'))) ν) (putRow w b c' el fr) ((lsplice e.cells off x.cells)[j]'(by rw [splice_length _ _ _ hroom]; exact hj2)) u := by
          by_cases hin : off ≤ j ∧ j < off + x.cells.length
          · rw [if_pos hin] at hgj
            rw [if_pos (by omega)] at hu
            obtain ⟨u', hu', hru⟩ := hcells.get hgj
            rw [show o' + (i' * sz + j) - (o' + i' * sz + off) = j - off by omega, hu'] at hu
            simp at hu; subst hu
            exact hru.mono hseal evo
          · rw [if_neg hin] at hgj
            rw [if_neg (by omega)] at hu
            obtain ⟨hj3, hgj2⟩ := List.getElem?_eq_some_iff.1 hgj
            rw [← hgj2]
            have := (hrow i' j hi2 (by rw [hie]; exact hj3)).2 u (by rw [← Array.getElem?_toList]; exact hu)
            simp only [hie] at this
            exact this.mono hseal evo
        have hfin : (xs.set i' e')[i'].cells[j] = (lsplice e.cells off x.cells)[j]'(by rw [splice_length _ _ _ hroom]; exact hj2) := by
          simp only [hset, hcell]
        rw [hfin]; exact hgoal
      · have hset : (xs.set i e')[i'] = xs[i'] := by rw [List.getElem_set_ne (by omega)]
        have hj2 : j < (xs[i']).cells.length := by rw [hset] at hj; exact hj
        obtain ⟨q1, q2⟩ := hrow i' j hi2 hj2
        refine ⟨q1, fun u hu => ?_⟩
        have hpos : ¬ (o' + i * sz + off ≤ o' + (i' * sz + j) ∧ o' + (i' * sz + j) < o' + i * sz + off + v.cells.toList.length) := by
          rcases Nat.lt_or_gt_of_ne hii with hlt | hgt
          · have : (i' + 1) * sz ≤ i * sz := Nat.mul_le_mul_right _ hlt
            rw [Nat.add_mul] at this; omega
          · have : (i + 1) * sz ≤ i' * sz := Nat.mul_le_mul_right _ hgt
            rw [Nat.add_mul] at this; omega
        rw [← Array.getElem?_toList, hc', splice_get _ _ _ _ hsl, if_neg hpos, Array.getElem?_toList] at hu
        have := (q2 u hu).mono (R' := RefOK (σ.set l (.row sz (xs.set i e'))) ν) hseal evo
        simpa only [hset] using this
theorem mapM_run {α β : Type} (f : α → Sem β) (k : α → β) (w : World) : ∀ (l : List α), (∀ x ∈ l, (f x).run P w = .ok (k x) w) → (l.mapM f).run P w = .ok (l.map k) w := by
  intro l
  induction l with
  | nil => intro _; simp
  | cons x l ih =>
    intro h
    simp only [List.mapM_cons, Sem.run_bind, h x (by simp), Result.andThen, ih (fun y hy => h y (by simp [hy])), List.map_cons, Sem.run_pure]
theorem places_run (fs : Array Field) (w : World) (h : ∀ f ∈ fs.toList, (szOf P f.type).isSome) :
    (fs.mapM fun f => do pure (f.offset, ← sizeOf f.type) : Sem (Array (Nat × Nat))).run P w = .ok (fs.toList.map fun f => (f.offset, (szOf P f.type).getD 0)).toArray w := by
  rw [Array.mapM_eq_mapM_toList]
  simp only [Sem.run_map]
  rw [mapM_run (P := P) _ (fun f => (f.offset, (szOf P f.type).getD 0)) w fs.toList (fun f hf => by
    obtain ⟨n, hn⟩ := Option.isSome_iff_exists.1 (h f hf)
    simp [run_size hn, hn])]
  rfl
def partOf (P : Program) (fs : Array Field) (p : Nat × Operand) : Option Part := (fs[p.1]?).bind fun f => (szOf P f.type).map fun n => (f.offset, n, p.2)
theorem zc_reps {t : TypeId} {z : List AV} (h : zcOf P t = some z) : ∃ v : Value, (∀ w : World, (zeroValue t).run P w = .ok v w) ∧ ∀ (M : Nat → Prop) (R : Ref → Value → Prop) (w : World), Reps M R w z v.cells.toList := by
  unfold zcOf at h
  cases hi : P.info? t with
  | none => simp [hi] at h
  | some i =>
    cases hz : i.zero with
    | none => simp [hi, hz] at h
    | some v =>
      simp [hi, hz] at h
      refine ⟨v, fun w => by simp [zeroValue, run_info hi, hz], fun M R w => ?_⟩
      rw [← h]; simpa using cval_reps v.cells.toList
theorem build_struct {t : TypeId} {fs : Array Field} {z cs : List AV} {ps : Array (Nat × Operand)} {qs : List Part} {ρ : Operand → AV} {ρ' : Operand → Value} (g : Good M σ ν w)
    (hu : P.underlying t = some (.struct fs)) (hf : ∀ f ∈ fs.toList, (szOf P f.type).isSome) (hz : zcOf P t = some z)
    (hq : ps.toList.map (partOf P fs) = qs.map some) (hρ : PartsRep M (RefOK σ ν) w ρ ρ') (h : fillA ρ z qs = some cs) :
    Yields P (Instr.build t (ps.map fun (i, x) => (i, ρ' x))) M σ ν w (.agg cs) σ := by
  obtain ⟨v, hv, hr⟩ := zc_reps hz
  obtain ⟨c, hfill, hrep⟩ := fill_ok hρ (fun i => (fs.toList.map fun f => (f.offset, (szOf P f.type).getD 0)).toArray[i]?) ps.toList qs z cs v.cells (by
    rw [← hq]
    apply List.map_congr_left
    intro p hp
    unfold partOf
    cases hfi : fs[p.1]? with
    | none => simp [hfi]
    | some f =>
      have hmem : f ∈ fs.toList := by
        obtain ⟨hlt, rfl⟩ := Array.getElem?_eq_some_iff.1 hfi
        simp
      obtain ⟨n, hn⟩ := Option.isSome_iff_exists.1 (hf f hmem)
      simp [hfi, hn]) (hr _ _ _) h
  refine .same g (v := .agg c) ?_ (by have := Rep.of_agg hrep; simpa using this)
  have hmap : (ps.map fun (i, x) => (i, ρ' x)).toList = ps.toList.map fun p => (p.1, ρ' p.2) := by simp
  simp only [Instr.build, Sem.run_bind, hv, Result.andThen, run_under hu, places_run fs w hf, hmap, hfill, Sem.run_pure]
theorem build_array {t elem : TypeId} {len sz : Nat} {z cs : List AV} {ps : Array (Nat × Operand)} {ρ : Operand → AV} {ρ' : Operand → Value} (g : Good M σ ν w)
    (hu : P.underlying t = some (.array len elem)) (hsz : szOf P elem = some sz) (hz : zcOf P t = some z)
    (hρ : PartsRep M (RefOK σ ν) w ρ ρ') (h : fillA ρ z (ps.toList.map fun p => (p.1 * sz, sz, p.2)) = some cs) :
    Yields P (Instr.build t (ps.map fun (i, x) => (i, ρ' x))) M σ ν w (.agg cs) σ := by
  obtain ⟨v, hv, hr⟩ := zc_reps hz
  obtain ⟨c, hfill, hrep⟩ := fill_ok hρ (fun i => some (i * sz, sz)) ps.toList _ z cs v.cells (by simp) (hr _ _ _) h
  refine .same g (v := .agg c) ?_ (by have := Rep.of_agg hrep; simpa using this)
  have hmap : (ps.map fun (i, x) => (i, ρ' x)).toList = ps.toList.map fun p => (p.1, ρ' p.2) := by simp
  simp only [Instr.build, Sem.run_bind, hv, Result.andThen, run_under hu, run_size hsz, hmap, hfill, Sem.run_pure]
theorem repeatA_get (z : List AV) : ∀ (n i : Nat), i < n * z.length → (repeatA z n)[i]? = z[i % z.length]? := by
  intro n
  induction n with
  | zero => intro i hi; simp at hi
  | succ n ih =>
    intro i hi
    simp only [repeatA]
    by_cases h : i < z.length
    · rw [List.getElem?_append_left h, Nat.mod_eq_of_lt h]
    · rw [Nat.add_mul, Nat.one_mul] at hi
      rw [List.getElem?_append_right (by omega), ih _ (by omega), Nat.mod_eq_sub_mod (a := i) (by omega)]
theorem repeatA_length (z : List AV) : ∀ n, (repeatA z n).length = n * z.length := by
  intro n
  induction n with
  | zero => simp [repeatA]
  | succ n ih => simp [repeatA, ih, Nat.add_mul]; omega
theorem repeat_reps {z : List AV} {vs : Array Value} (h : Reps M R w z vs.toList) (n : Nat) : Reps M R w (repeatA z n) ((Array.range (n * vs.size)).map (vs[· % vs.size]!)).toList := by
  have hl : z.length = vs.size := h.1.trans Array.length_toList
  refine ⟨by simp [repeatA_length, hl], fun j hj hj' => ?_⟩
  rw [repeatA_length] at hj
  have e := repeatA_get z n j hj
  have hpos : 0 < z.length := Nat.pos_of_ne_zero fun h0 => by rw [h0] at hj; simp at hj
  have hm : j % z.length < z.length := Nat.mod_lt _ hpos
  obtain ⟨v, hv, hr⟩ := h.get (j := j % z.length) (x := z[j % z.length]) (by simp [hm])
  have e2 : (repeatA z n)[j]'(by rw [repeatA_length]; exact hj) = z[j % z.length] := by
    have := List.getElem?_eq_getElem (l := repeatA z n) (i := j) (by rw [repeatA_length]; exact hj)
    rw [e] at this; simpa [hm] using this.symm
  rw [e2]
  have hm2 : j % vs.size < vs.size := by rw [← hl]; exact hm
  have e3 : (((Array.range (n * vs.size)).map (vs[· % vs.size]!)).toList)[j] = v := by
    rw [hl] at hv
    simp [hm2] at hv
    simp [hm2, hv]
  rw [e3]; exact hr
theorem chunks_elems {sz : Nat} {ag : Bool} (hag : ag = false → sz = 1) : ∀ (n : Nat) (cs : List AV) (vs : List Value), Reps M R w cs vs → cs.length = n * sz → cs.all (fun c => c.one) = true → Elems M R w sz (chunks sz ag n cs) vs := by
  intro n
  induction n with
  | zero => intro cs vs _ _ _ i j hi; simp [chunks] at hi
  | succ n ih =>
    intro cs vs h hl hone
    rw [Nat.add_mul, Nat.one_mul] at hl
    have ih' := ih (cs.drop sz) (vs.drop sz) (h.drop sz) (by simp; omega) (by
      rw [List.all_eq_true] at hone ⊢
      exact fun x hx => hone x (List.mem_of_mem_drop hx))
    intro i j hi hj
    cases i with
    | zero =>
      simp only [chunks, List.getElem_cons_zero] at hj ⊢
      cases ag with
      | true =>
        simp only [if_true, AV.cells, List.length_take] at hj ⊢
        refine ⟨by omega, fun v hv => ?_⟩
        simp only [List.getElem_take]
        have hj2 : j < cs.length := by omega
        obtain ⟨u, hu, hr⟩ := h.get (j := j) (x := cs[j]) (by simp [hj2])
        rw [Nat.zero_mul, Nat.zero_add, hu] at hv
        simp at hv; subst hv; exact hr
      | false =>
        have h1 := hag rfl
        subst h1
        cases cs with
        | nil => simp at hl
        | cons c cs =>
          have hc1 : c.one = true := by rw [List.all_eq_true] at hone; exact hone c (by simp)
          simp only [Bool.false_eq_true, if_false, List.headD_cons, AV.one_cells hc1] at hj ⊢
          have hj0 : j = 0 := by simpa using hj
          subst hj0
          refine ⟨by omega, fun v hv => ?_⟩
          obtain ⟨u, hu, hr⟩ := h.get (j := 0) (x := c) rfl
          simp only [Nat.zero_mul, Nat.add_zero] at hv
          rw [hu] at hv; simp at hv; subst hv; simpa using hr
    | succ i =>
      simp only [chunks, List.getElem_cons_succ] at hj ⊢
      obtain ⟨q1, q2⟩ := ih' i j (by simpa [chunks] using hi) hj
      refine ⟨q1, fun v hv => q2 v ?_⟩
      rw [List.getElem?_drop, show sz + (i * sz + j) = (i + 1) * sz + j by rw [Nat.add_mul]; omega]
      exact hv
theorem chunks_length (sz : Nat) (ag : Bool) : ∀ (n : Nat) (cs : List AV), (chunks sz ag n cs).length = n := by
  intro n; induction n with
  | zero => intro cs; rfl
  | succ n ih => intro cs; simp [chunks, ih]
theorem fillA_length (ρ : Operand → AV) : ∀ (ps : List Part) (z z' : List AV), fillA ρ z ps = some z' → z'.length = z.length := by
  intro ps
  induction ps with
  | nil => intro z z' h; simp [fillA] at h; rw [h]
  | cons p ps ih =>
    intro z z' h
    obtain ⟨off, size, x⟩ := p
    simp only [fillA] at h
    split at h
    · rename_i hc
      rw [ih _ _ h, splice_length _ _ _ (by omega)]
    · cases h
theorem fillA_one (ρ : Operand → AV) : ∀ (ps : List Part) (z z' : List AV), z.all AV.one = true → fillA ρ z ps = some z' → z'.all AV.one = true := by
  intro ps
  induction ps with
  | nil => intro z z' hz h; simp [fillA] at h; rw [← h]; exact hz
  | cons p ps ih =>
    intro z z' hz h
    obtain ⟨off, size, x⟩ := p
    simp only [fillA] at h
    split at h
    · rename_i hc
      refine ih _ _ ?_ h
      rw [List.all_eq_true] at hz ⊢
      have hx := List.all_eq_true.1 (AV.okc_all hc.1)
      intro y hy
      unfold lsplice at hy
      simp only [List.mem_append] at hy
      rcases hy with (hy | hy) | hy
      · exact hz y (List.mem_of_mem_take hy)
      · exact hx y hy
      · exact hz y (List.mem_of_mem_drop hy)
    · cases h
end
end Go.Ab
