/- The model's operations answer what the abstract ones do: the operations that leave the store of objects alone. No condition. -/
import Derived.Test.YtoadgajhkhejiaaAbOps
import Derived.Laws.Append
namespace Go.Ab
open Go
section
variable {P : Program} {M : Nat → Prop} {σ : St} {ν : Nat → Value} {w : World} {R : Ref → Value → Prop}
theorem run_under {t : TypeId} {d : TypeDesc} (h : P.underlying t = some d) : (underlying t).run P w = .ok d w := by
  simp [underlying, h]
theorem run_info {t : TypeId} {i : TypeInfo} (h : P.info? t = some i) : (typeInfo t).run P w = .ok i w := by
  simp [typeInfo, h]
def szOf (P : Program) (t : TypeId) : Option Nat := (P.info? t).map (·.size)
def aggDesc : TypeDesc → Bool
  | .struct _ | .array _ _ => true
  | _ => false
def agOf (P : Program) (t : TypeId) : Option Bool := (P.underlying t).map aggDesc
def zcOf (P : Program) (t : TypeId) : Option (List AV) := (P.info? t).bind fun i => i.zero.map fun z => z.cells.toList.map cval
theorem run_size {t : TypeId} {n : Nat} (h : szOf P t = some n) : (sizeOf t).run P w = .ok n w := by
  unfold szOf at h
  cases hi : P.info? t with
  | none => simp [hi] at h
  | some i => simp [hi] at h; simp [sizeOf, run_info hi, h]
theorem run_agg {t : TypeId} {b : Bool} (h : agOf P t = some b) : (isAgg t).run P w = .ok b w := by
  unfold agOf at h
  cases hi : P.underlying t with
  | none => simp [hi] at h
  | some d =>
    simp [hi] at h
    subst h
    cases d <;> simp [isAgg, run_under hi, aggDesc]
theorem cval_rep (v : Value) : Rep M R w (cval v) v := by
  unfold cval
  split
  · exact .nils
  · rename_i cs
    have := Rep.of_agg (M := M) (R := R) (w := w) (cs := cs.toList.map .pl) (vs := cs.toList) ⟨by simp, fun j hj hj' => by simpa using Rep.pl _⟩
    simpa using this
  · exact .pl _
theorem cval_reps (vs : List Value) : Reps M R w (vs.map cval) vs := ⟨by simp, fun j hj hj' => by simpa using cval_rep _⟩
theorem Rep.one_inv {a : AV} {v : Value} (h : Rep M R w a v) (ho : a.one = true) : v.oneCell' = true ∧ v.cells = #[v] ∧ a.cells = [a] := by
  cases h with
  | pl v => cases v <;> simp_all [AV.one, Value.oneCell', Value.cells, AV.cells]
  | _ => simp_all [AV.one, Value.oneCell', Value.cells, AV.cells]
theorem Rep.okc_cells {a : AV} {v : Value} (h : Rep M R w a v) (ho : a.okc = true) : Reps M R w a.cells v.cells.toList := by
  by_cases hg : ∃ cs, a = .agg cs
  · obtain ⟨cs, rfl⟩ := hg
    obtain ⟨vs, rfl, hr⟩ := h.agg_inv
    simpa [Value.cells, AV.cells] using hr
  · have h1 : a.one = true := by
      cases a <;> simp_all [AV.okc, AV.one]
    obtain ⟨_, h2, h3⟩ := h.one_inv h1
    rw [h2, h3]
    exact .cons h .nil
theorem Reps.one {as : List AV} {vs : List Value} (h : Reps M R w as vs) (ho : as.all AV.one = true) : ∀ v ∈ vs, v.oneCell' = true := by
  intro v hv
  obtain ⟨j, hj, rfl⟩ := List.getElem_of_mem hv
  have hj' : j < as.length := by rw [h.1]; exact hj
  exact ((h.2 j hj' hj).one_inv (List.all_eq_true.1 ho _ (List.getElem_mem hj'))).1
theorem AV.okc_all {a : AV} (h : a.okc = true) : a.cells.all AV.one = true := by
  cases a <;> simp_all [AV.okc, AV.cells]
def Yields (P : Program) (s : Sem Value) (M : Nat → Prop) (σ : St) (ν : Nat → Value) (w : World) (r : AV) (σ' : St) : Prop :=
  ∃ v w' M' ν', s.run P w = .ok v w' ∧ Good M' σ' ν' w' ∧ Later M σ ν w M' σ' ν' w' ∧ Rep M' (RefOK σ' ν') w' r v
theorem Yields.same {s : Sem Value} {v : Value} {r : AV} (g : Good M σ ν w) (h : s.run P w = .ok v w) (hr : Rep M (RefOK σ ν) w r v) : Yields P s M σ ν w r σ :=
  ⟨v, w, M, ν, h, g, .refl, hr⟩
def Same (P : Program) (s : Sem Value) (M : Nat → Prop) (R : Ref → Value → Prop) (w : World) (r : AV) : Prop :=
  ∃ v, s.run P w = .ok v w ∧ Rep M R w r v
theorem Same.yields {s : Sem Value} {r : AV} (h : Same P s M (RefOK σ ν) w r) (g : Good M σ ν w) : Yields P s M σ ν w r σ := by
  obtain ⟨v, h1, h2⟩ := h
  exact .same g h1 h2
theorem rep_of_ldc {n : Nat} {ag : Bool} {cs : List AV} {vs : List Value} {r : AV} (hr : Reps M R w cs vs) (h : ldc n ag cs = some r) :
    (ag = true ∧ n ≤ vs.length ∧ Rep M R w r (.agg (vs.take n).toArray)) ∨ (ag = false ∧ ∃ v, vs[0]? = some v ∧ Rep M R w r v) := by
  unfold ldc at h
  cases ag with
  | true =>
    simp only [if_true] at h
    split at h
    · simp at h; subst h
      rename_i hn
      exact .inl ⟨rfl, by rw [← hr.1]; exact hn, .of_agg (hr.take n)⟩
    · cases h
  | false =>
    simp only [Bool.false_eq_true, if_false] at h
    cases cs with
    | nil => simp at h
    | cons c cs => 
      simp at h; subst h
      obtain ⟨v, hv, hrv⟩ := hr.get (j := 0) (x := c) rfl
      exact .inr ⟨rfl, v, hv, hrv⟩
theorem run_loadVar_cells {t : TypeId} {n : Nat} {ag : Bool} {b o : Nat} {vs : List Value} (hn : szOf P t = some n) (ha : agOf P t = some ag)
    (hv : ∀ j (hj : j < vs.length), w.cell? ⟨b, o + j, none⟩ = some vs[j]) :
    (ag = true → n ≤ vs.length → (loadVar t ⟨b, o, none⟩).run P w = .ok (.agg (vs.take n).toArray) w) ∧
    (ag = false → ∀ v, vs[0]? = some v → (loadVar t ⟨b, o, none⟩).run P w = .ok v w) := by
  have hadd : ∀ j, Addr.add ⟨b, o, none⟩ j = ⟨b, o + j, none⟩ := fun j => by unfold Addr.add; split <;> simp_all
  constructor
  · rintro rfl hl
    have := run_loadCells_list (P := P) w ⟨b, o, none⟩ (vs.take n) (fun j v hj => by
      rw [hadd]
      obtain ⟨hj', rfl⟩ := List.getElem?_eq_some_iff.1 hj
      rw [hv j (by simp at hj'; omega)]
      simp)
    rw [List.length_take, Nat.min_eq_left hl] at this
    simp [loadVar, run_agg ha, run_size hn, this]
  · rintro rfl v h0
    obtain ⟨h0', rfl⟩ := List.getElem?_eq_some_iff.1 h0
    have := hv 0 h0'
    simp only [Nat.add_zero] at this
    simp [loadVar, run_agg ha, load, Sem.run, this]
theorem loadVar_same {t : TypeId} {n : Nat} {ag : Bool} {b o : Nat} {cs : List AV} {r : AV} (hn : szOf P t = some n) (ha : agOf P t = some ag)
    (f : Nat → Value) (hv : ∀ j, j < cs.length → w.cell? ⟨b, o + j, none⟩ = some (f j)) (hr : ∀ j (hj : j < cs.length), Rep M (RefOK σ ν) w (cs[j]) (f j))
    (h : ldc n ag cs = some r) : Same P (loadVar t ⟨b, o, none⟩) M (RefOK σ ν) w r := by
  have hR : Reps M (RefOK σ ν) w cs ((List.range cs.length).map f) := ⟨by simp, fun j hj hj' => by simpa using hr j hj⟩
  have hc := run_loadVar_cells (w := w) (b := b) (o := o) (vs := (List.range cs.length).map f) hn ha (fun j hj => by
    have hj' : j < cs.length := by simpa using hj
    simpa using hv j hj')
  rcases rep_of_ldc hR h with ⟨rfl, hl, hrep⟩ | ⟨rfl, v, h0, hrep⟩
  · exact ⟨_, hc.1 rfl hl, hrep⟩
  · exact ⟨_, hc.2 rfl v h0, hrep⟩
theorem binop_run {op : BinOp} {t : TypeId} {u v r : Value} (x y : Operand) (h : binF op u v = some r)
    (ht : ∀ a b, u = .bool a → v = .bool b → P.underlying t = some .bool) :
    (do eqGuard op t x y u v; binOp op t u v : Sem Value).run P w = .ok r w := by
  have hg : ∀ (a b : Value), (∀ l m, ¬ (a = .agg l ∧ b = .agg m)) → ¬ (a = .nilIface ∧ b = .nilIface) → (eqGuard op t x y a b).run P w = .ok () w := by
    intro a b h1 h2
    unfold eqGuard
    cases op <;> simp <;> first | rfl | (split <;> first | rfl | (exact absurd ⟨rfl, rfl⟩ h2) | (exact absurd ⟨rfl, rfl⟩ (h1 _ _)))
  unfold binF at h
  split at h
  · rename_i k a k' b
    split at h <;> simp at h
    subst h
    rename_i hb
    simp [hg, binOp, Op.shift, Int.not_lt.2 hb]
  · rename_i k a k' b
    split at h <;> simp at h
    subst h
    rename_i hb
    simp [hg, binOp, Op.shift, Int.not_lt.2 hb]
  · rename_i op' k a k' b h1 h2
    split at h
    · rename_i hk
      subst hk
      have hb : ∀ (o : BinOp), o ≠ .shl → o ≠ .shr → binOp o t (.int k a) (.int k b) = (match o with
          | .add | .sub | .mul => Op.intArith o k a b
          | .quo | .rem => Op.intDiv o k a b
          | .and | .or | .xor | .andNot => Op.intBits o k a b
          | _ => Op.intCmp o a b) := by
        intro o e1 e2
        cases o <;> first | exact absurd rfl e1 | exact absurd rfl e2 | simp [binOp]
      cases op <;> simp at h <;> first
        | (subst h; simp [hg, hb, Op.intArith, Op.intBits, Op.intCmp]; done)
        | (split at h <;> simp at h; subst h; rename_i h0; simp [hg, hb, Op.intDiv, h0]; done)
        | (obtain ⟨h0, rfl⟩ := h; simp [hg, hb, Op.intDiv, h0]; done)
    · cases h
  · rename_i op' k a k' b h1 h2
    split at h
    · rename_i hk
      subst hk
      cases op <;> simp at h <;> subst h <;> simp [hg, binOp, Op.floatCmp]
    · cases h
  · rename_i op' a b
    cases op <;> simp at h <;> subst h <;> simp [hg, binOp, Op.stringOp]
  · rename_i a b
    simp at h
    subst h
    have hu := ht a b rfl rfl
    have he : (Op.equal t (.bool a) (.bool b)).run P w = .ok (a == b) w := by
      unfold Op.equal Op.maxDepth Op.equalIn
      simp [run_under hu]
    rw [Sem.run_bind, hg _ _ (by simp) (by simp)]
    simp only [Result.andThen, binOp, Sem.run_bind, he, Sem.run_pure]
  · rename_i a b
    simp at h
    subst h
    have hu := ht a b rfl rfl
    have he : (Op.equal t (.bool a) (.bool b)).run P w = .ok (a == b) w := by
      unfold Op.equal Op.maxDepth Op.equalIn
      simp [run_under hu]
    rw [Sem.run_bind, hg _ _ (by simp) (by simp)]
    simp only [Result.andThen, binOp, Sem.run_bind, he, Sem.run_pure]
  · cases h
theorem unop_run {op : UnOp} {u r : Value} (h : unF op u = some r) : (Op.unary op u).run P w = .ok r w := by
  unfold unF at h
  split at h <;> simp at h <;> subst h <;> simp [Op.unary, Op.intArith, Op.intBits]
end
end Go.Ab
namespace Go.Ab
open Go
section
variable {P : Program} {M : Nat → Prop} {σ : St} {ν : Nat → Value} {w : World} {R : Ref → Value → Prop}
theorem add_flat (b o j : Nat) : Addr.add ⟨b, o, none⟩ j = ⟨b, o + j, none⟩ := by unfold Addr.add; split <;> simp_all
theorem boolA_inv {a : AV} {v : Value} {t : Bool} (h : boolA a = some t) (hr : Rep M R w a v) : v = .bool t := by
  unfold boolA at h; split at h <;> simp at h; subst h; exact hr.pl_inv
theorem intA_inv {a : AV} {v : Value} {n : Int} (h : intA a = some n) (hr : Rep M R w a v) : ∃ k, v = .int k n := by
  unfold intA at h; split at h <;> simp at h; subst h; exact ⟨_, hr.pl_inv⟩
theorem Rep.rp_inv {cs : List AV} {v : Value} (h : Rep M R w (.rp cs) v) : ∃ (b o : Nat) (f : Nat → Value), v = .pointer (some ⟨b, o, none⟩) ∧
    (∀ j, j < cs.length → ¬ M b ∧ w.cell? ⟨b, o + j, none⟩ = some (f j)) ∧ ∀ j (hj : j < cs.length), Rep M R w (cs[j]) (f j) := by
  cases h with
  | rp cs b o f hc hr => exact ⟨b, o, f, rfl, hc, hr⟩
theorem Rep.rp_drop {cs : List AV} {b o : Nat} (n : Nat) (h : Rep M R w (.rp cs) (.pointer (some ⟨b, o, none⟩))) : Rep M R w (.rp (cs.drop n)) (.pointer (some ⟨b, o + n, none⟩)) := by
  obtain ⟨b', o', f, e, hc, hr⟩ := h.rp_inv
  simp at e
  obtain ⟨rfl, rfl⟩ := e
  refine .rp _ _ _ (fun j => f (n + j)) (fun j hj => ?_) (fun j hj => ?_)
  · have := hc (n + j) (by simp at hj; omega)
    rw [Nat.add_assoc]; exact this
  · rw [List.getElem_drop]; exact hr (n + j) _
theorem fieldAt_run {s : TypeId} {f : Nat} {fs : Array Field} {fd : Field} {n b o : Nat} (hu : P.underlying s = some (.struct fs)) (hf : fs[f]? = some fd) (hn : szOf P fd.type = some n) (h0 : n ≠ 0) :
    (Instr.fieldAt s (.pointer (some ⟨b, o, none⟩)) f).run P w = .ok (.pointer (some ⟨b, o + fd.offset, none⟩)) w := by
  simp [Instr.fieldAt, run_under hu, hf, Instr.sureAddr, fieldPlace, run_size hn, h0, add_flat]
theorem Rep.nils_inv {v : Value} (h : Rep M R w .nils v) : v = .slice none 0 0 := by cases h; rfl
theorem Rep.zsl_inv {v : Value} (h : Rep M R w .zsl v) : ∃ a, v = .slice a 0 0 := by cases h; exact ⟨_, rfl⟩
theorem Rep.win_inv {sz l n lo : Nat} {v : Value} (h : Rep M R w (.win sz l n lo) v) : lo < n ∧ ∃ b o cap, v = .slice (some ⟨b, o + lo * sz, none⟩) (n - lo) (cap - lo) ∧ R (.s l n) (.slice (some ⟨b, o, none⟩) n cap) := by
  cases h with
  | win sz l n lo b o cap hl h => exact ⟨hl, b, o, cap, rfl, h⟩
theorem Rep.psl_inv {l off n : Nat} {v : Value} (h : Rep M R w (.psl l off n) v) : ∃ b o, v = .slice (some ⟨b, o + off, none⟩) n n ∧ R (.p l) (.pointer (some ⟨b, o, none⟩)) := by
  cases h with
  | psl l off n b o h => exact ⟨b, o, rfl, h⟩
theorem Rep.ptr_inv {l off : Nat} {v : Value} (h : Rep M R w (.ptr l off) v) : ∃ b o, v = .pointer (some ⟨b, o + off, none⟩) ∧ R (.p l) (.pointer (some ⟨b, o, none⟩)) := by
  cases h with
  | ptr l off b o h => exact ⟨b, o, rfl, h⟩
theorem Rep.ep_inv {l n i off : Nat} {v : Value} (h : Rep M R w (.ep l n i off) v) : ∃ b o, v = .pointer (some ⟨b, o + off, none⟩) ∧ R (.e l n i) (.pointer (some ⟨b, o, none⟩)) := by
  cases h with
  | ep l n i off b o h => exact ⟨b, o, rfl, h⟩
theorem Rep.osl_inv {l n : Nat} {v : Value} (h : Rep M R w (.osl l n) v) : ∃ a len cap, v = .slice a len cap ∧ R (.s l n) (.slice a len cap) := by
  cases h with
  | osl l n a len cap h => exact ⟨a, len, cap, rfl, h⟩
theorem Rep.sl_inv {sz : Nat} {xs : List AV} {v : Value} (h : Rep M R w (.sl sz xs) v) : ∃ a cap, v = .slice a xs.length cap ∧ xs.length ≤ cap ∧ (xs = [] ∨ ∃ (b o : Nat) (f : Nat → Nat → Value), a = some ⟨b, o, none⟩ ∧
    (∀ i j (hi : i < xs.length), j < (xs[i]).cells.length → j < sz ∧ ¬ M b ∧ w.cell? ⟨b, o + (i * sz + j), none⟩ = some (f i j)) ∧
    (∀ i j (hi : i < xs.length) (hj : j < (xs[i]).cells.length), Rep M R w ((xs[i]).cells[j]) (f i j))) := by
  cases h with
  | sl0 sz a cap => exact ⟨a, cap, rfl, Nat.zero_le _, .inl rfl⟩
  | sl sz xs b o cap f hcap hc hr => exact ⟨_, cap, rfl, hcap, .inr ⟨b, o, f, rfl, hc, hr⟩⟩
theorem indexAt_run {t elem : TypeId} {n : Nat} {k : IntKind} {i : Int} {b o len cap : Nat} (hu : P.underlying t = some (.slice elem)) (hn : szOf P elem = some n) (h0 : 0 ≤ i) (h1 : i < len) :
    (Instr.indexAt t (.slice (some ⟨b, o, none⟩) len cap) (.int k i)).run P w = .ok (.pointer (some ⟨b, o + i.toNat * n, none⟩)) w := by
  simp [Instr.indexAt, asIntOf, run_under hu, h0, h1, run_size hn, add_flat]
theorem indexArr_run {t elem : TypeId} {n : Nat} {k : IntKind} {i : Int} {b o len : Nat} (hu : P.underlying t = some (.array len elem)) (hn : szOf P elem = some n) (h0 : 0 ≤ i) (h1 : i < len) :
    (Instr.indexAt t (.pointer (some ⟨b, o, none⟩)) (.int k i)).run P w = .ok (.pointer (some ⟨b, o + i.toNat * n, none⟩)) w := by
  simp [Instr.indexAt, asIntOf, run_under hu, h0, h1, run_size hn, add_flat, Instr.sureAddr]
theorem part_run {t : TypeId} {n off : Nat} {ag : Bool} {cs : List AV} {vs : List Value} {r : AV} (g : Good M σ ν w) (hn : szOf P t = some n) (ha : agOf P t = some ag)
    (hr : Reps M (RefOK σ ν) w cs vs) (h : ldc n ag (cs.drop off) = some r) : Yields P (part t vs.toArray off) M σ ν w r σ := by
  rcases rep_of_ldc (hr.drop off) h with ⟨rfl, hl, hrep⟩ | ⟨rfl, v, h0, hrep⟩
  · refine .same g (v := .agg ((vs.drop off).take n).toArray) ?_ hrep
    simp [part, run_agg ha, run_size hn, List.extract_eq_take_drop]
  · refine .same g (v := v) ?_ hrep
    have e : vs[off]? = some v := by simpa using h0
    simp [part, run_agg ha, e]
theorem alloc_heap (w : World) (o : Obj) : (w.alloc o).heap[w.heap.size]? = some o := heap_alloc_new w o
theorem new_sealed (g : Good M σ ν w) (e : TypeId) (c : Array Value) : Good M σ ν (w.alloc (.cells c e)) ∧ Later M σ ν w M σ ν (w.alloc (.cells c e)) ∧ ¬ M w.heap.size ∧
    ∀ j, (w.alloc (.cells c e)).cell? ⟨w.heap.size, j, none⟩ = c[j]? := by
  have hk : ∀ b, b < w.heap.size → (w.alloc (.cells c e)).heap[b]? = w.heap[b]? := fun b hb => heap_alloc_old w _ b hb
  refine ⟨g.grow (by simp) hk, .grow (by simp) hk, fun h => absurd (g.lt _ h) (Nat.lt_irrefl _), fun j => ?_⟩
  exact cell_of_row _ _ _ _ _ _ (alloc_heap w _)
theorem box_run {t : TypeId} {v : Value} : (Instr.box t v).run P w = .ok (.pointer (some ⟨w.heap.size, 0, none⟩)) (w.alloc (.cells v.cells t)) := by
  simp only [Instr.box, newVar, newRow, Sem.run_bind, run_newObj, Result.andThen, Sem.run_pure, World.alloc_eq]
theorem boxr_yields {t : TypeId} {v : Value} {a : AV} (g : Good M σ ν w) (hr : Rep M (RefOK σ ν) w a v) (ho : a.okc = true) : Yields P (Instr.box t v) M σ ν w (.rp a.cells) σ := by
  obtain ⟨g', hl, hm, hc⟩ := new_sealed g t v.cells
  have hrs := hl.reps g (hr.okc_cells ho)
  refine ⟨_, _, M, ν, box_run, g', hl, .rp _ _ _ (fun j => v.cells[j]?.getD undef) (fun j hj => ⟨hm, ?_⟩) (fun j hj => ?_)⟩
  · have hj' : j < v.cells.size := hrs.1.trans Array.length_toList ▸ hj
    rw [Nat.zero_add, hc]; simp [hj']
  · have hj' : j < v.cells.size := hrs.1.trans Array.length_toList ▸ hj
    have := hrs.2 j hj (by simpa using hj')
    simpa [hj'] using this
theorem set_splice (cs : List Value) : ∀ (off : Nat) (z : Array Value), off + cs.length ≤ z.size →
    ((cs.zipIdx.foldl (fun (a : Array Value) (x : Value × Nat) => a.setIfInBounds (off + x.2) x.1) z)).toList = lsplice z.toList off cs := by
  have key : ∀ (cs : List Value) (k off : Nat) (z : Array Value), off + k + cs.length ≤ z.size →
      ((cs.zipIdx k).foldl (fun (a : Array Value) (x : Value × Nat) => a.setIfInBounds (off + x.2) x.1) z).toList = lsplice z.toList (off + k) cs := by
    intro cs
    induction cs with
    | nil => intro k off z h; simp [lsplice]
    | cons c cs ih =>
      intro k off z h
      simp only [List.zipIdx_cons, List.foldl_cons]
      rw [ih (k + 1) off _ (by simp at h ⊢; omega)]
      simp only [Array.toList_setIfInBounds, lsplice, List.length_cons]
      apply List.ext_getElem?
      intro i
      simp only [List.length_cons, ← Nat.add_assoc] at h
      have hz : off + k < z.toList.length := by simp; omega
      simp only [List.append_assoc, List.getElem?_append, List.length_take, List.length_set, List.getElem?_take, List.getElem?_set, List.getElem?_drop, List.length_cons]
      rw [Nat.min_eq_left (by omega), Nat.min_eq_left (by omega)]
      by_cases h1 : i < off + k
      · simp [h1, show i < off + (k + 1) by omega, show ¬ off + k = i by omega]
      · by_cases h2 : i = off + k
        · subst h2; simp [show off + k < off + (k + 1) by omega]; simpa using hz
        · have h3 : ¬ i < off + (k + 1) := by omega
          simp only [h1, h3, if_false]
          by_cases h4 : i - (off + (k + 1)) < cs.length
          · rw [if_pos h4, if_pos (by omega)]
            rw [show i - (off + k) = (i - (off + (k + 1))) + 1 by omega]; simp
          · rw [if_neg h4, if_neg (by omega), if_neg (by omega)]
            congr 1; omega
  intro off z h
  simpa using key cs 0 off z (by simpa using h)
theorem Reps.splice {cs : List AV} {us : List Value} {xs : List AV} {vs : List Value} (h : Reps M R w cs us) (h' : Reps M R w xs vs) (k : Nat) :
    Reps M R w (lsplice cs k xs) (lsplice us k vs) := by
  unfold lsplice
  rw [h'.1]
  exact ((h.take k).append h').append (h.drop _)
def PartsRep (M : Nat → Prop) (R : Ref → Value → Prop) (w : World) (ρ : Operand → AV) (ρ' : Operand → Value) : Prop := ∀ x, Rep M R w (ρ x) (ρ' x)
theorem fill_ok {ρ : Operand → AV} {ρ' : Operand → Value} (hρ : PartsRep M R w ρ ρ') (place : Nat → Option (Nat × Nat)) : ∀ (ps : List (Nat × Operand)) (qs : List Part) (z z' : List AV) (zs : Array Value),
    (ps.map fun p => (place p.1).map fun q => (q.1, q.2, p.2)) = qs.map some → Reps M R w z zs.toList → fillA ρ z qs = some z' →
    ∃ cs : Array Value, Instr.fill place zs (ps.map fun p => (p.1, ρ' p.2)) = some cs ∧ Reps M R w z' cs.toList := by
  intro ps
  induction ps with
  | nil =>
    intro qs z z' zs hp hz hf
    cases qs with
    | nil => simp [fillA] at hf; subst hf; exact ⟨zs, by simp [Instr.fill], hz⟩
    | cons q qs => simp at hp
  | cons p ps ih =>
    intro qs z z' zs hp hz hf
    cases qs with
    | nil => simp at hp
    | cons q qs =>
      obtain ⟨off, size, x⟩ := q
      obtain ⟨i, y⟩ := p
      simp only [List.map_cons, List.cons.injEq] at hp
      obtain ⟨h1, h2⟩ := hp
      cases hpl : place i with
      | none => simp [hpl] at h1
      | some q =>
        simp [hpl] at h1
        obtain ⟨h1a, h1b, rfl⟩ := h1
        simp only [fillA] at hf
        split at hf
        · rename_i hc
          obtain ⟨c1, c2, c3⟩ := hc
          have hx := (hρ y).okc_cells c1
          have hlen : (ρ' y).cells.size = size := (hx.1.trans Array.length_toList).symm.trans c2
          have hzl : z.length = zs.size := by have := hz.1; simpa using this
          have hnot : ¬ ((ρ' y).cells.size ≠ q.2 ∨ q.1 + (ρ' y).cells.size > zs.size) := by omega
          simp only [List.map_cons, Instr.fill, hpl]
          rw [if_neg (by simpa using hnot)]
          refine ih qs _ _ _ h2 ?_ hf
          have e := set_splice (ρ' y).cells.toList off zs (by simp; omega)
          have e2 : (Array.foldl (fun cs x => cs.setIfInBounds (q.1 + x.2) x.1) zs (ρ' y).cells.zipIdx).toList = lsplice zs.toList off (ρ' y).cells.toList := by
            rw [← e, h1a, ← Array.foldl_toList]
            simp
          have e3 := hz.splice hx off
          rw [← e2] at e3
          simpa using e3
        · cases hf
end
end Go.Ab
namespace Go.Ab
open Go
section
variable {P : Program} {M M' : Nat → Prop} {σ σ' : St} {ν ν' : Nat → Value} {w w' : World} {R : Ref → Value → Prop}
theorem get_set_ne {l k : Nat} (h : k ≠ l) (o : Ob) : (σ.set l o)[k]? = σ[k]? := by
  rw [List.getElem?_set]; simp [Ne.symm h]
theorem get_set_eq {l : Nat} {o0 : Ob} (h : σ[l]? = some o0) (o : Ob) : (σ.set l o)[l]? = some o := by
  rw [List.getElem?_set]; simp [(List.getElem?_eq_some_iff.1 h).1]
theorem Good.update (g : Good M σ ν w) {l : Nat} {o0 : Ob} (hl : σ[l]? = some o0) (hd : o0 ≠ .dead) (o' : Ob)
    (hν : ∀ k, k ≠ l → ν' k = ν k) (hsz : w.heap.size ≤ w'.heap.size)
    (hkeep : ∀ b, b < w.heap.size → blk (ν l) ≠ some b → w'.heap[b]? = w.heap[b]?)
    (mM : ∀ b, b < w.heap.size → M' b → M b) (kM : ∀ b, M b → blk (ν l) ≠ some b → M' b) (ltM : ∀ b, M' b → b < w'.heap.size)
    (hb' : o' ≠ .dead → ∀ b, blk (ν' l) = some b → blk (ν l) = some b ∨ w.heap.size ≤ b)
    (evo : ∀ r v, RefOK σ ν r v → RefOK (σ.set l o') ν' r v)
    (ob : ObOK M' (RefOK (σ.set l o') ν') w' o' (ν' l)) (out : w'.os = w.os ∧ w'.output = w.output := by exact ⟨rfl, rfl⟩) :
    Good M' (σ.set l o') ν' w' ∧ Later M σ ν w M' (σ.set l o') ν' w' := by
  have hlive : live σ l := ⟨o0, hl, hd⟩
  have hseal : ∀ b, b < w.heap.size → ¬ M b → ¬ M' b ∧ w'.heap[b]? = w.heap[b]? := fun b hb hm =>
    ⟨fun x => hm (mM b hb x), hkeep b hb fun e => hm (g.M_of_own ⟨l, hlive, e⟩)⟩
  have hold : ∀ k, k ≠ l → live (σ.set l o') k → live σ k := fun k hk ⟨o, ho, hod⟩ => ⟨o, by rwa [get_set_ne hk] at ho, hod⟩
  refine ⟨⟨?_, ltM, ?_⟩, ⟨hsz, ?_, mM, ?_, ?_, evo, out⟩⟩
  · intro k o ho
    by_cases hk : k = l
    · subst hk
      rw [get_set_eq hl] at ho
      simp at ho; subst ho; exact ob
    · rw [get_set_ne hk] at ho
      rw [hν k hk]
      refine (g.ob k o ho).mono hseal evo fun b hb hod hm => ?_
      have hne : blk (ν l) ≠ some b := fun e => hk (g.apart k l b ⟨o, ho, hod⟩ hlive hb e)
      exact ⟨kM b hm hne, hkeep b ((g.ob k o ho).lt hod hb) hne⟩
  · intro k k' b h1 h2 e1 e2
    by_cases hk : k = l <;> by_cases hk' : k' = l
    · rw [hk, hk']
    · subst hk
      have hl2 := hold k' hk' h2
      rw [hν k' hk'] at e2
      have hod : o' ≠ .dead := by obtain ⟨o, ho, hod⟩ := h1; rw [get_set_eq hl] at ho; simp at ho; subst ho; exact hod
      rcases hb' hod b e1 with e | e
      · exact g.apart k k' b hlive hl2 e e2
      · exact absurd (g.own_lt ⟨k', hl2, e2⟩) (Nat.not_lt.2 e)
    · subst hk'
      have hl1 := hold k hk h1
      rw [hν k hk] at e1
      have hod : o' ≠ .dead := by obtain ⟨o, ho, hod⟩ := h2; rw [get_set_eq hl] at ho; simp at ho; subst ho; exact hod
      rcases hb' hod b e2 with e | e
      · exact g.apart k k' b hl1 hlive e1 e
      · exact absurd (g.own_lt ⟨k, hl1, e1⟩) (Nat.not_lt.2 e)
    · rw [hν k hk] at e1; rw [hν k' hk'] at e2
      exact g.apart k k' b (hold k hk h1) (hold k' hk' h2) e1 e2
  · intro b hb hno
    exact hkeep b hb fun e => hno ⟨l, hlive, e⟩
  · intro b hb hm hno
    exact kM b hm fun e => hno ⟨l, hlive, e⟩
  · rintro b hb ⟨k, hk, e⟩
    by_cases hkl : k = l
    · subst hkl
      have hod : o' ≠ .dead := by obtain ⟨o, ho, hod⟩ := hk; rw [get_set_eq hl] at ho; simp at ho; subst ho; exact hod
      rcases hb' hod b e with e | e
      · exact ⟨k, hlive, e⟩
      · exact absurd hb (Nat.not_lt.2 e)
    · rw [hν k hkl] at e
      exact ⟨k, hold k hkl hk, e⟩
theorem RefOK.ext (h : ∀ l o, σ[l]? = some o → σ'[l]? = some o ∧ ν' l = ν l) {r : Ref} {v : Value} (hr : RefOK σ ν r v) : RefOK σ' ν' r v := by
  cases r with
  | p l =>
    simp only [RefOK] at hr ⊢
    cases ho : σ[l]? with
    | none => simp [ho] at hr
    | some o' => obtain ⟨x, y⟩ := h l o' ho; rw [ho] at hr; rw [x, y]; exact hr
  | s l n =>
    simp only [RefOK] at hr ⊢
    cases ho : σ[l]? with
    | none => simp [ho] at hr
    | some o' => obtain ⟨x, y⟩ := h l o' ho; rw [ho] at hr; rw [x, y]; exact hr
  | e l n i =>
    simp only [RefOK] at hr ⊢
    cases ho : σ[l]? with
    | none => simp [ho] at hr
    | some o' => obtain ⟨x, y⟩ := h l o' ho; rw [ho] at hr; rw [x, y]; exact hr
theorem Good.new (g : Good M σ ν w) (o : Ob) (v : Value) (e : TypeId) (c : Array Value)
    (hb : blk v = some w.heap.size)
    (ob : ∀ M' ν' w', (∀ b, b < w.heap.size → ¬ M b → ¬ M' b ∧ w'.heap[b]? = w.heap[b]?) → (∀ r v, RefOK σ ν r v → RefOK (σ ++ [o]) ν' r v) → M' w.heap.size →
      w'.heap[w.heap.size]? = some (.cells c e) → ObOK M' (RefOK (σ ++ [o]) ν') w' o v) :
    ∃ M' ν', Good M' (σ ++ [o]) ν' (w.alloc (.cells c e)) ∧ Later M σ ν w M' (σ ++ [o]) ν' (w.alloc (.cells c e)) ∧ ν' σ.length = v := by
  let M' : Nat → Prop := fun b => M b ∨ b = w.heap.size
  let ν' : Nat → Value := fun k => if k = σ.length then v else ν k
  have hnew : ν' σ.length = v := by simp [ν']
  have hνo : ∀ k, k < σ.length → ν' k = ν k := fun k hk => by simp [ν', Nat.ne_of_lt hk]
  have hkeep : ∀ b, b < w.heap.size → (w.alloc (.cells c e)).heap[b]? = w.heap[b]? := fun b hb => heap_alloc_old w _ b hb
  have hget : ∀ k o', σ[k]? = some o' → (σ ++ [o])[k]? = some o' ∧ k < σ.length := fun k o' h => by
    have hk := (List.getElem?_eq_some_iff.1 h).1
    exact ⟨by rw [List.getElem?_append_left hk]; exact h, hk⟩
  have evo : ∀ r v, RefOK σ ν r v → RefOK (σ ++ [o]) ν' r v := fun r v h => RefOK.ext (fun k o' hk => ⟨(hget k o' hk).1, hνo k (hget k o' hk).2⟩) h
  have hseal : ∀ b, b < w.heap.size → ¬ M b → ¬ M' b ∧ (w.alloc (.cells c e)).heap[b]? = w.heap[b]? := fun b hb hm =>
    ⟨fun x => x.elim hm (fun e => absurd hb (by simp [e])), hkeep b hb⟩
  have hlive : ∀ k, k < σ.length → live (σ ++ [o]) k → live σ k := fun k hk ⟨o', ho, hod⟩ => ⟨o', by rwa [List.getElem?_append_left hk] at ho, hod⟩
  have hlt : ∀ k, live (σ ++ [o]) k → k < σ.length ∨ k = σ.length := fun k ⟨o', ho, _⟩ => by
    have := (List.getElem?_eq_some_iff.1 ho).1
    simp at this; omega
  refine ⟨M', ν', ⟨?_, ?_, ?_⟩, ⟨by simp, fun b hb _ => hkeep b hb, fun b hb x => x.elim id (fun e => absurd hb (by simp [e])), fun b _ x _ => .inl x, ?_, evo, rfl, rfl⟩, hnew⟩
  · intro k o' ho
    by_cases hk : k < σ.length
    · rw [List.getElem?_append_left hk] at ho
      rw [hνo k hk]
      exact (g.ob k o' ho).mono hseal evo fun b hb' hod hm => ⟨.inl hm, hkeep b ((g.ob k o' ho).lt hod hb')⟩
    · have hk2 : k = σ.length := by
        have := (List.getElem?_eq_some_iff.1 ho).1
        simp at this; omega
      subst hk2
      simp at ho; subst ho
      rw [hnew]
      exact ob M' ν' _ hseal evo (.inr rfl) (alloc_heap w _)
  · intro b hb
    rcases hb with hb | hb
    · have := g.lt b hb; simp; omega
    · simp [hb]
  · intro k k' b h1 h2 e1 e2
    rcases hlt k h1 with hk | hk <;> rcases hlt k' h2 with hk' | hk'
    · rw [hνo k hk] at e1; rw [hνo k' hk'] at e2
      exact g.apart k k' b (hlive k hk h1) (hlive k' hk' h2) e1 e2
    · rw [hνo k hk] at e1; subst hk'; rw [hnew, hb] at e2
      have := g.own_lt ⟨k, hlive k hk h1, e1⟩
      simp at e2; omega
    · rw [hνo k' hk'] at e2; subst hk; rw [hnew, hb] at e1
      have := g.own_lt ⟨k', hlive k' hk' h2, e2⟩
      simp at e1; omega
    · omega
  · rintro b hb' ⟨k, hk, e'⟩
    rcases hlt k hk with h | h
    · rw [hνo k h] at e'; exact ⟨k, hlive k h hk, e'⟩
    · subst h; rw [hnew, hb] at e'; simp at e'; omega
theorem Good.newBox (g : Good M σ ν w) (cs : List AV) (e : TypeId) (c : Array Value) (hr : Reps M (RefOK σ ν) w cs c.toList) :
    ∃ M' ν', Good M' (σ ++ [.box cs]) ν' (w.alloc (.cells c e)) ∧ Later M σ ν w M' (σ ++ [.box cs]) ν' (w.alloc (.cells c e)) ∧
      Rep M' (RefOK (σ ++ [.box cs]) ν') (w.alloc (.cells c e)) (.ptr σ.length 0) (.pointer (some ⟨w.heap.size, 0, none⟩)) := by
  have hsz : cs.length = c.size := hr.1.trans Array.length_toList
  obtain ⟨M', ν', g', l', hn⟩ := g.new (.box cs) (.pointer (some ⟨w.heap.size, 0, none⟩)) e c rfl (fun M' ν' w' h1 h2 h3 h4 =>
    .box cs _ 0 c e (0, 0) h3 h4 (by omega) (fun j _ => by simp) (fun j hj v hv => by
      obtain ⟨u, hu, hru⟩ := hr.get (j := j) (x := cs[j]) (by simp [hj])
      have : v = u := by rw [Nat.zero_add] at hv; rw [Array.getElem?_toList] at hu; rw [hu] at hv; simpa using hv.symm
      subst this
      exact hru.mono h1 h2))
  refine ⟨M', ν', g', l', ?_⟩
  have := Rep.ptr (M := M') (R := RefOK (σ ++ [.box cs]) ν') (w := w.alloc (.cells c e)) σ.length 0 w.heap.size 0 (by simp [RefOK, hn])
  simpa using this
def Elems (M : Nat → Prop) (R : Ref → Value → Prop) (w : World) (sz : Nat) (xs : List AV) (vs : List Value) : Prop :=
  ∀ i j (hi : i < xs.length) (hj : j < (xs[i]).cells.length), j < sz ∧ ∀ v, vs[i * sz + j]? = some v → Rep M R w ((xs[i]).cells[j]) v
theorem Elems.mono {xs : List AV} {vs : List Value} {sz : Nat} {R' : Ref → Value → Prop} (h1 : ∀ b, b < w.heap.size → ¬ M b → ¬ M' b ∧ w'.heap[b]? = w.heap[b]?) (h2 : ∀ r v, R r v → R' r v)
    (h : Elems M R w sz xs vs) : Elems M' R' w' sz xs vs := fun i j hi hj => ⟨(h i j hi hj).1, fun v hv => ((h i j hi hj).2 v hv).mono h1 h2⟩
theorem Good.newRow (g : Good M σ ν w) (sz : Nat) (xs : List AV) (e : TypeId) (c : Array Value) (cap : Nat) (hl : xs.length ≤ cap) (hs : cap * sz ≤ c.size)
    (hr : Elems M (RefOK σ ν) w sz xs c.toList) :
    ∃ M' ν', Good M' (σ ++ [.row sz xs]) ν' (w.alloc (.cells c e)) ∧ Later M σ ν w M' (σ ++ [.row sz xs]) ν' (w.alloc (.cells c e)) ∧
      Rep M' (RefOK (σ ++ [.row sz xs]) ν') (w.alloc (.cells c e)) (.osl σ.length xs.length) (.slice (some ⟨w.heap.size, 0, none⟩) xs.length cap) := by
  obtain ⟨M', ν', g', l', hn⟩ := g.new (.row sz xs) (.slice (some ⟨w.heap.size, 0, none⟩) xs.length cap) e c rfl (fun M' ν' w' h1 h2 h3 h4 =>
    .row sz xs _ 0 cap c e (0, 0) h3 h4 hl (by omega) (fun j _ => by simp) (fun i j hi hj => ⟨(hr i j hi hj).1, fun v hv =>
      ((hr i j hi hj).2 v (by simpa using hv)).mono h1 h2⟩))
  refine ⟨M', ν', g', l', .osl _ _ _ _ _ ?_⟩
  simp [RefOK, hn]
def putRow (w : World) (b : Nat) (c : Array Value) (e : TypeId) (fr : Nat × Nat) : World := { w with heap := w.heap.setIfInBounds b (.cells c e fr) }
@[simp] theorem size_putRow (b : Nat) (c : Array Value) (e : TypeId) (fr : Nat × Nat) : (putRow w b c e fr).heap.size = w.heap.size := by simp [putRow]
theorem putRow_same {b : Nat} {x : Obj} (h : w.heap[b]? = some x) (c : Array Value) (e : TypeId) (fr : Nat × Nat) : (putRow w b c e fr).heap[b]? = some (.cells c e fr) := by
  have := (Array.getElem?_eq_some_iff.1 h).1
  simp [putRow, this]
theorem putRow_other {b k : Nat} (h : b ≠ k) (c : Array Value) (e : TypeId) (fr : Nat × Nat) : (putRow w b c e fr).heap[k]? = w.heap[k]? := by
  simp [putRow, Array.getElem?_setIfInBounds_ne h]
theorem putRow_putRow (b : Nat) (c c' : Array Value) (e e' : TypeId) (fr fr' : Nat × Nat) : putRow (putRow w b c e fr) b c' e' fr' = putRow w b c' e' fr' := by
  simp [putRow]
theorem putRow_self {b : Nat} {c : Array Value} {e : TypeId} {fr : Nat × Nat} (h : w.heap[b]? = some (.cells c e fr)) : putRow w b c e fr = w := by
  obtain ⟨hb, hh⟩ := Array.getElem?_eq_some_iff.1 h
  simp only [putRow]
  have : w.heap.setIfInBounds b (.cells c e fr) = w.heap := by
    apply Array.ext_getElem?
    intro i
    rw [Array.getElem?_setIfInBounds]
    by_cases hi : b = i
    · subst hi; simp [hb, hh]
    · simp [hi]
  rw [this]
theorem setCell_put {b o : Nat} {c : Array Value} {e : TypeId} {fr : Nat × Nat} (h : w.heap[b]? = some (.cells c e fr)) (v : Value) :
    w.setCell ⟨b, o, none⟩ v = putRow w b (c.setIfInBounds o v) e fr := by
  obtain ⟨hb, hh⟩ := Array.getElem?_eq_some_iff.1 h
  unfold World.setCell putRow
  congr 1
  apply Array.ext_getElem?
  intro i
  rw [Array.getElem?_setIfInBounds, Array.getElem?_modify]
  by_cases hi : b = i
  · subst hi; simp [hb, hh]
  · simp [hi]
theorem run_storeCells (b o : Nat) (e : TypeId) (fr : Nat × Nat) : ∀ (vs : List Value) (i : Nat) (c : Array Value) (w : World), w.heap[b]? = some (.cells c e fr) →
    o + i + vs.length ≤ c.size → (∀ v ∈ vs, v.oneCell' = true) → (∀ j, j < vs.length → ¬ (fr.1 ≤ o + i + j ∧ o + i + j < fr.2)) →
    ∃ c', (storeCells ⟨b, o, none⟩ vs i).run P w = .ok () (putRow w b c' e fr) ∧ c'.toList = lsplice c.toList (o + i) vs := by
  intro vs
  induction vs with
  | nil =>
    intro i c w h hs _ _
    exact ⟨c, by simp [storeCells, putRow_self h], by simp [lsplice]⟩
  | cons v vs ih =>
    intro i c w h hs ho hf
    simp only [List.length_cons] at hs
    have h1 := ho v (by simp)
    have hc : w.cell? ⟨b, o + i, none⟩ = some (c[o + i]'(by omega)) := by
      rw [cell_of_row _ _ _ _ _ _ h]; simp [show o + i < c.size by omega]
    have hfr : w.frozen? ⟨b, o + i, none⟩ = false := by
      have := hf 0 (by simp)
      unfold World.frozen?
      simp only [h]
      simp only [Nat.add_zero] at this
      simpa [Nat.not_le, Nat.not_lt] using this
    have h' := putRow_same h (c.setIfInBounds (o + i) v) e fr
    obtain ⟨c', hr, hl⟩ := ih (i + 1) (c.setIfInBounds (o + i) v) (putRow w b (c.setIfInBounds (o + i) v) e fr) h' (by simp; omega) (fun u hu => ho u (by simp [hu]))
      (fun j hj => by have := hf (j + 1) (by simpa using hj); rw [show o + (i + 1) + j = o + i + (j + 1) by omega]; exact this)
    refine ⟨c', ?_, ?_⟩
    · simp only [storeCells, add_flat, Sem.run_bind, run_store P w _ v .plain h1, hc, hfr, Bool.false_eq_true, if_false, Result.andThen, setCell_put h, hr, putRow_putRow]
    · rw [hl]
      have hz : o + i < c.toList.length := by simp; omega
      simp only [Array.toList_setIfInBounds, lsplice, List.length_cons]
      apply List.ext_getElem?
      intro k
      simp only [List.append_assoc, List.getElem?_append, List.length_take, List.length_set, List.getElem?_take, List.getElem?_set, List.getElem?_drop, List.length_cons]
      have hz2 : o + i + 1 ≤ c.toList.length := hz
      rw [Nat.min_eq_left (by omega), Nat.min_eq_left (by omega)]
      by_cases q1 : k < o + i
      · simp [q1, show k < o + (i + 1) by omega, show ¬ o + i = k by omega]
      · by_cases q2 : k = o + i
        · subst q2; simp [show o + i < o + (i + 1) by omega]; simpa using hz
        · have q3 : ¬ k < o + (i + 1) := by omega
          simp only [q1, q3, if_false]
          by_cases q4 : k - (o + (i + 1)) < vs.length
          · rw [if_pos q4, if_pos (by omega)]
            rw [show k - (o + i) = (k - (o + (i + 1))) + 1 by omega]; simp
          · rw [if_neg q4, if_neg (by omega), if_neg (by omega)]
            congr 1; omega
end
end Go.Ab
namespace Go.Ab
open Go
section
variable {P : Program} {M M' : Nat → Prop} {σ σ' : St} {ν ν' : Nat → Value} {w w' : World} {R : Ref → Value → Prop}
theorem RefOK.p_box {l : Nat} {cs : List AV} {v : Value} (hs : σ[l]? = some (.box cs)) (h : RefOK σ ν (.p l) v) : v = ν l := by
  simp only [RefOK, hs] at h; exact h
theorem RefOK.s_row {l n sz : Nat} {xs : List AV} {v : Value} (hs : σ[l]? = some (.row sz xs)) (h : RefOK σ ν (.s l n) v) (hn : n = xs.length) : v = ν l := by
  simp only [RefOK, hs] at h; exact h.2 hn
theorem RefOK.e_row {l n i sz : Nat} {xs : List AV} {v : Value} (hs : σ[l]? = some (.row sz xs)) (h : RefOK σ ν (.e l n i) v) (hn : n = xs.length) :
    ∃ b o len cap, ν l = .slice (some ⟨b, o, none⟩) len cap ∧ v = .pointer (some ⟨b, o + i * sz, none⟩) := by
  simp only [RefOK, hs] at h; exact h.2 hn
theorem ObOK.box_inv {cs : List AV} {v : Value} (h : ObOK M R w (.box cs) v) : ∃ (b o : Nat) (c : Array Value) (e : TypeId) (fr : Nat × Nat), v = .pointer (some ⟨b, o, none⟩) ∧ M b ∧ w.heap[b]? = some (.cells c e fr) ∧
    o + cs.length ≤ c.size ∧ (∀ j, j < cs.length → ¬ (fr.1 ≤ o + j ∧ o + j < fr.2)) ∧ ∀ j (hj : j < cs.length) v, c[o + j]? = some v → Rep M R w (cs[j]) v := by
  cases h with
  | box cs b o c e fr h1 h2 h3 h4 h5 => exact ⟨b, o, c, e, fr, rfl, h1, h2, h3, h4, h5⟩
theorem ObOK.row_inv {sz : Nat} {xs : List AV} {v : Value} (h : ObOK M R w (.row sz xs) v) : (v = .slice none 0 0 ∧ xs = []) ∨ ∃ (b o cap : Nat) (c : Array Value) (e : TypeId) (fr : Nat × Nat),
    v = .slice (some ⟨b, o, none⟩) xs.length cap ∧ M b ∧ w.heap[b]? = some (.cells c e fr) ∧ xs.length ≤ cap ∧ o + cap * sz ≤ c.size ∧ (∀ j, j < cap * sz → ¬ (fr.1 ≤ o + j ∧ o + j < fr.2)) ∧
    ∀ i j (hi : i < xs.length) (hj : j < (xs[i]).cells.length), j < sz ∧ ∀ v, c[o + (i * sz + j)]? = some v → Rep M R w ((xs[i]).cells[j]) v := by
  cases h with
  | row0 => exact .inl ⟨rfl, rfl⟩
  | row sz xs b o cap c e fr h1 h2 h3 h4 h5 h6 => exact .inr ⟨b, o, cap, c, e, fr, rfl, h1, h2, h3, h4, h5, h6⟩
theorem load_same {t : TypeId} {n : Nat} {ag : Bool} {a : AV} {v : Value} {r : AV} (g : Good M σ ν w) (hn : szOf P t = some n) (hag : agOf P t = some ag)
    (hr : Rep M (RefOK σ ν) w a v)
    (h : loadA σ n ag a = some r) : Same P (Instr.loadAt t v) M (RefOK σ ν) w r := by
  have hrun : ∀ b o, (Instr.loadAt t (.pointer (some ⟨b, o, none⟩))) = loadVar t ⟨b, o, none⟩ := fun b o => rfl
  cases a with
  | rp cs =>
    simp only [loadA] at h
    obtain ⟨b, o, f, rfl, hc, hx⟩ := hr.rp_inv
    rw [hrun]; exact loadVar_same hn hag f (fun j hj => (hc j hj).2) hx h
  | ptr l off =>
    simp only [loadA] at h
    split at h
    · rename_i cs hs
      obtain ⟨b, o, rfl, hR⟩ := hr.ptr_inv
      have e := hR.p_box hs
      obtain ⟨b', o', c, el, fr, e', hM, hh, hsz, hf, hx⟩ := (g.ob l _ hs).box_inv
      rw [e'] at e; simp at e; obtain ⟨rfl, rfl⟩ := e
      rw [hrun]
      refine loadVar_same hn hag (fun j => c[o + (off + j)]?.getD undef) (fun j hj => ?_) (fun j hj => ?_) h
      · simp at hj
        rw [cell_of_row _ _ _ _ _ _ hh, Nat.add_assoc]
        simp [show o + (off + j) < c.size by omega]
      · simp at hj
        rw [List.getElem_drop]
        exact hx (off + j) (by omega) _ (by simp [show o + (off + j) < c.size by omega])
    · cases h
  | ep l m i off =>
    simp only [loadA] at h
    split at h
    · rename_i sz xs hs
      split at h
      · rename_i hm
        split at h
        · rename_i x hxi
          obtain ⟨b, o, rfl, hR⟩ := hr.ep_inv
          obtain ⟨b', o', len, cap, e1, e2⟩ := hR.e_row hs hm
          simp at e2; obtain ⟨rfl, rfl⟩ := e2
          obtain ⟨hi, rfl⟩ := List.getElem?_eq_some_iff.1 hxi
          rcases (g.ob l _ hs).row_inv with ⟨e3, rfl⟩ | ⟨b2, o2, cap2, c, el, fr, e3, hM, hh, hlen, hsz, hf, hx⟩
          · simp at hi
          · rw [e3] at e1; simp at e1; obtain ⟨⟨rfl, rfl⟩, rfl, rfl⟩ := e1
            rw [hrun]
            have hroom : ∀ j, j < (xs[i]).cells.length → o2 + (i * sz + j) < c.size := fun j hj => by
              have := (hx i j hi hj).1
              have h2 : (i + 1) * sz ≤ cap2 * sz := Nat.mul_le_mul_right _ (by omega)
              rw [Nat.add_mul] at h2; omega
            refine loadVar_same hn hag (fun j => c[o2 + (i * sz + (off + j))]?.getD undef) (fun j hj => ?_) (fun j hj => ?_) h
            · simp at hj
              have := hroom (off + j) (by omega)
              rw [cell_of_row _ _ _ _ _ _ hh, show o2 + i * sz + off + j = o2 + (i * sz + (off + j)) by omega]
              simp [this]
            · simp at hj
              have := hroom (off + j) (by omega)
              rw [List.getElem_drop]
              exact (hx i (off + j) hi (by omega)).2 _ (by simp [this])
        · cases h
      · cases h
    · cases h
  | _ => simp [loadA] at h
theorem RefOK.set_box {l : Nat} {cs cs' : List AV} (hs : σ[l]? = some (.box cs)) {r : Ref} {v : Value} (h : RefOK σ ν r v) : RefOK (σ.set l (.box cs')) ν r v := by
  cases r with
  | p k =>
    simp only [RefOK] at h ⊢
    by_cases hk : k = l
    · subst hk; rw [get_set_eq hs]; rw [hs] at h; exact h
    · rw [get_set_ne hk]; exact h
  | s k n =>
    simp only [RefOK] at h ⊢
    by_cases hk : k = l
    · subst hk; rw [hs] at h; exact h.elim
    · rw [get_set_ne hk]; exact h
  | e k n i =>
    simp only [RefOK] at h ⊢
    by_cases hk : k = l
    · subst hk; rw [hs] at h; exact h.elim
    · rw [get_set_ne hk]; exact h
theorem RefOK.set_row {l sz : Nat} {xs xs' : List AV} (hs : σ[l]? = some (.row sz xs)) (hl : xs'.length = xs.length) {r : Ref} {v : Value} (h : RefOK σ ν r v) : RefOK (σ.set l (.row sz xs')) ν r v := by
  cases r with
  | p k =>
    simp only [RefOK] at h ⊢
    by_cases hk : k = l
    · subst hk; rw [hs] at h; exact h.elim
    · rw [get_set_ne hk]; exact h
  | s k n =>
    simp only [RefOK] at h ⊢
    by_cases hk : k = l
    · subst hk; rw [get_set_eq hs]; rw [hs] at h; simpa [hl] using h
    · rw [get_set_ne hk]; exact h
  | e k n i =>
    simp only [RefOK] at h ⊢
    by_cases hk : k = l
    · subst hk; rw [get_set_eq hs]; rw [hs] at h; simpa [hl] using h
    · rw [get_set_ne hk]; exact h
theorem RefOK.grow_row {l sz : Nat} {xs xs' : List AV} (hs : σ[l]? = some (.row sz xs)) (hl : xs.length < xs'.length) (hν : ∀ k, k ≠ l → ν' k = ν k) {r : Ref} {v : Value} (h : RefOK σ ν r v) :
    RefOK (σ.set l (.row sz xs')) ν' r v := by
  cases r with
  | p k =>
    simp only [RefOK] at h ⊢
    by_cases hk : k = l
    · subst hk; rw [hs] at h; exact h.elim
    · rw [get_set_ne hk, hν k hk]; exact h
  | s k n =>
    simp only [RefOK] at h ⊢
    by_cases hk : k = l
    · subst hk; rw [get_set_eq hs]; rw [hs] at h; exact ⟨by omega, fun e => by omega⟩
    · rw [get_set_ne hk, hν k hk]; exact h
  | e k n i =>
    simp only [RefOK] at h ⊢
    by_cases hk : k = l
    · subst hk; rw [get_set_eq hs]; rw [hs] at h; exact ⟨by omega, fun e => by omega⟩
    · rw [get_set_ne hk, hν k hk]; exact h
theorem RefOK.set_dead {l : Nat} {o : Ob} (hs : σ[l]? = some o) {r : Ref} {v : Value} (h : RefOK σ ν r v) : RefOK (σ.set l .dead) ν r v := by
  cases r with
  | p k =>
    simp only [RefOK] at h ⊢
    by_cases hk : k = l
    · subst hk; rw [get_set_eq hs]; trivial
    · rw [get_set_ne hk]; exact h
  | s k n =>
    simp only [RefOK] at h ⊢
    by_cases hk : k = l
    · subst hk; rw [get_set_eq hs]; trivial
    · rw [get_set_ne hk]; exact h
  | e k n i =>
    simp only [RefOK] at h ⊢
    by_cases hk : k = l
    · subst hk; rw [get_set_eq hs]; trivial
    · rw [get_set_ne hk]; exact h
theorem splice_get {α : Type} (l vs : List α) (k j : Nat) (h : k + vs.length ≤ l.length) :
    (lsplice l k vs)[j]? = if k ≤ j ∧ j < k + vs.length then vs[j - k]? else l[j]? := by
  unfold lsplice
  simp only [List.append_assoc, List.getElem?_append, List.length_take, List.getElem?_take, List.getElem?_drop]
  rw [Nat.min_eq_left (by omega)]
  by_cases h1 : j < k
  · simp [h1, show ¬ k ≤ j by omega]
  · by_cases h2 : j < k + vs.length
    · rw [if_neg h1, if_pos (by omega), if_pos ⟨by omega, h2⟩]
    · rw [if_neg h1, if_neg (by omega), if_neg (by omega)]
      congr 1; omega
theorem splice_length {α : Type} (l vs : List α) (k : Nat) (h : k + vs.length ≤ l.length) : (lsplice l k vs).length = l.length := by
  unfold lsplice; simp; omega
theorem storeBox (g : Good M σ ν w) {t : TypeId} {n l off : Nat} {cs : List AV} {x : AV} {pv v : Value} (hn : szOf P t = some n) (hs : σ[l]? = some (.box cs))
    (hp : Rep M (RefOK σ ν) w (.ptr l off) pv) (hx : Rep M (RefOK σ ν) w x v) (ho : x.okc = true) (hl : x.cells.length = n) (hb : off + n ≤ cs.length) :
    ∃ w', (Instr.storeAt t pv v).run P w = .ok () w' ∧ Good M (σ.set l (.box (lsplice cs off x.cells))) ν w' ∧ Later M σ ν w M (σ.set l (.box (lsplice cs off x.cells))) ν w' := by
  obtain ⟨b, o, rfl, hR⟩ := hp.ptr_inv
  have e := hR.p_box hs
  obtain ⟨b', o', c, el, fr, e', hM, hh, hsz, hf, hrep⟩ := (g.ob l _ hs).box_inv
  rw [e'] at e; simp at e; obtain ⟨rfl, rfl⟩ := e
  have hcells := hx.okc_cells ho
  have hvl : v.cells.toList.length = n := by rw [← hcells.1]; exact hl
  obtain ⟨c', hrun, hc'⟩ := run_storeCells (P := P) b (o + off) el fr v.cells.toList 0 c w hh (by omega) (hcells.one (AV.okc_all ho)) (fun j hj => by
    have := hf (off + j) (by omega)
    rw [show o + off + 0 + j = o + (off + j) by omega]; exact this)
  simp only [Nat.add_zero] at hc'
  have hsl : (o + off) + v.cells.toList.length ≤ c.toList.length := by simp only [Array.length_toList] at hvl ⊢; omega
  refine ⟨putRow w b c' el fr, ?_, ?_⟩
  · have hvs : v.cells.size = n := by simpa using hvl
    simp only [Instr.storeAt, Instr.sureAddr, storeVar, Sem.run_bind, Sem.run_pure, Result.andThen, run_size hn, hvs, ne_eq, not_true, if_false, hrun]
  · have evo : ∀ r v, RefOK σ ν r v → RefOK (σ.set l (.box (lsplice cs off x.cells))) ν r v := fun r v h => h.set_box hs
    have hkeep : ∀ k, k < w.heap.size → blk (ν l) ≠ some k → (putRow w b c' el fr).heap[k]? = w.heap[k]? := fun k _ hne => putRow_other (fun e => hne (by rw [e', blk, e])) _ _ _
    refine g.update hs (by simp) _ (fun _ _ => rfl) (by simp) hkeep (fun _ _ h => h) (fun _ h _ => h) (fun k h => by simpa using g.lt k h) (fun _ k h => .inl h) evo ?_
    have hseal : ∀ k, k < w.heap.size → ¬ M k → ¬ M k ∧ (putRow w b c' el fr).heap[k]? = w.heap[k]? := fun k hk hm => ⟨hm, hkeep k hk (fun e => hm (by rw [e', blk] at e; simp at e; exact e ▸ hM))⟩
    rw [e']
    have hlen' : (lsplice cs off x.cells).length = cs.length := splice_length _ _ _ (by omega)
    have hcl : c'.size = c.size := by rw [← Array.length_toList, hc', splice_length _ _ _ hsl, Array.length_toList]
    refine .box _ b o c' el fr hM (putRow_same hh _ _ _) (by omega) (fun j hj => hf j (by omega)) (fun j hj u hu => ?_)
    rw [← Array.getElem?_toList, hc', splice_get _ _ _ _ hsl] at hu
    have hgj := List.getElem?_eq_getElem hj
    rw [splice_get _ _ _ _ (by omega)] at hgj
    by_cases hin : off ≤ j ∧ j < off + x.cells.length
    · rw [if_pos hin] at hgj
      rw [if_pos (by omega)] at hu
      obtain ⟨u', hu', hru⟩ := hcells.get hgj
      rw [show o + j - (o + off) = j - off by omega, hu'] at hu
      simp at hu; subst hu
      exact hru.mono hseal evo
    · rw [if_neg hin] at hgj
      rw [if_neg (by omega)] at hu
      obtain ⟨hj2, hgj2⟩ := List.getElem?_eq_some_iff.1 hgj
      rw [← hgj2]
      exact (hrep j hj2 u (by rw [← Array.getElem?_toList]; exact hu)).mono hseal evo
end
end Go.Ab
