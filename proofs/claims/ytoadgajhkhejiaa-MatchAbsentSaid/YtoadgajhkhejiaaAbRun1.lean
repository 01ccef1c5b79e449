/- The model's operations answer what the abstract ones do: the operations that leave the store of objects alone. No condition. -/
import Derived.Test.YtoadgajhkhejiaaAbOps
namespace Go.Ab
open Go

section
variable {P : Program} {M : Nat → Prop} {σ : St} {ν : Nat → Value} {w : World} {R : Ref → Value → Prop}

theorem run_under {t : TypeId} {d : TypeDesc} (h : P.underlying t = some d) : (underlying t).run P w = .ok d w := by
  simp [underlying, h]
theorem run_info {t : TypeId} {i : TypeInfo} (h : P.info? t = some i) : (typeInfo t).run P w = .ok i w := by
  simp [typeInfo, h]

def szOf (P : Program) (t : TypeId) : Option Nat := (P.info? t).map (·.size)
def aggDesc : TypeDesc → Bool
  | .struct _ | .array _ _ => true
  | _ => false
def agOf (P : Program) (t : TypeId) : Option Bool := (P.underlying t).map aggDesc
def zcOf (P : Program) (t : TypeId) : Option (List AV) := (P.info? t).bind fun i => i.zero.map fun z => z.cells.toList.map cval

theorem run_size {t : TypeId} {n : Nat} (h : szOf P t = some n) : (sizeOf t).run P w = .ok n w := by
  unfold szOf at h
  cases hi : P.info? t with
  | none => simp [hi] at h
  | some i => simp [hi] at h; simp [sizeOf, run_info hi, h]

theorem run_agg {t : TypeId} {b : Bool} (h : agOf P t = some b) : (isAgg t).run P w = .ok b w := by
  unfold agOf at h
  cases hi : P.underlying t with
  | none => simp [hi] at h
  | some d =>
    simp [hi] at h
    subst h
    cases d <;> simp [isAgg, run_under hi, aggDesc]

theorem run_zero {t : TypeId} {z : List AV} (h : zcOf P t = some z) : ∃ v : Value, (zeroValue t).run P w = .ok v w ∧ v.cells.toList.map cval = z := by
  unfold zcOf at h
  cases hi : P.info? t with
  | none => simp [hi] at h
  | some i =>
    cases hz : i.zero with
    | none => simp [hi, hz] at h
    | some v => simp [hi, hz] at h; exact ⟨v, by simp [zeroValue, run_info hi, hz], by simpa using h⟩

theorem cval_rep (v : Value) : Rep M R w (cval v) v := by
  unfold cval
  split
  · exact .nils
  · rename_i cs
    have := Rep.of_agg (M := M) (R := R) (w := w) (cs := cs.toList.map .pl) (vs := cs.toList) ⟨by simp, fun j hj hj' => by simpa using Rep.pl _⟩
    simpa using this
  · exact .pl _

theorem cval_reps (vs : List Value) : Reps M R w (vs.map cval) vs := ⟨by simp, fun j hj hj' => by simpa using cval_rep _⟩

/-- What stands for one cell stands for a value of one cell. -/
theorem Rep.one_inv {a : AV} {v : Value} (h : Rep M R w a v) (ho : a.one = true) : v.oneCell' = true ∧ v.cells = #[v] ∧ a.cells = [a] := by
  cases h with
  | pl v => cases v <;> simp_all [AV.one, Value.oneCell', Value.cells, AV.cells]
  | _ => simp_all [AV.one, Value.oneCell', Value.cells, AV.cells]

theorem Rep.okc_cells {a : AV} {v : Value} (h : Rep M R w a v) (ho : a.okc = true) : Reps M R w a.cells v.cells.toList := by
  by_cases hg : ∃ cs, a = .agg cs
  · obtain ⟨cs, rfl⟩ := hg
    obtain ⟨vs, rfl, hr⟩ := h.agg_inv
    simpa [Value.cells, AV.cells] using hr
  · have h1 : a.one = true := by
      cases a <;> simp_all [AV.okc, AV.one]
    obtain ⟨_, h2, h3⟩ := h.one_inv h1
    rw [h2, h3]
    exact .cons h .nil

theorem Reps.one {as : List AV} {vs : List Value} (h : Reps M R w as vs) (ho : as.all AV.one = true) : ∀ v ∈ vs, v.oneCell' = true := by
  intro v hv
  obtain ⟨j, hj, rfl⟩ := List.getElem_of_mem hv
  have hj' : j < as.length := by rw [h.1]; exact hj
  exact ((h.2 j hj' hj).one_inv (List.all_eq_true.1 ho _ (List.getElem_mem hj'))).1

theorem AV.okc_all {a : AV} (h : a.okc = true) : a.cells.all AV.one = true := by
  cases a <;> simp_all [AV.okc, AV.cells]

/-- The model's operation answers, by the later state. -/
def Yields (P : Program) (s : Sem Value) (M : Nat → Prop) (σ : St) (ν : Nat → Value) (w : World) (r : AV) (σ' : St) : Prop :=
  ∃ v w' M' ν', s.run P w = .ok v w' ∧ Good M' σ' ν' w' ∧ Later M σ ν w M' σ' ν' w' ∧ Rep M' (RefOK σ' ν') w' r v

theorem Yields.same {s : Sem Value} {v : Value} {r : AV} (g : Good M σ ν w) (h : s.run P w = .ok v w) (hr : Rep M (RefOK σ ν) w r v) : Yields P s M σ ν w r σ :=
  ⟨v, w, M, ν, h, g, .refl, hr⟩

/-- The model's operation answers, and leaves the world alone. -/
def Same (P : Program) (s : Sem Value) (M : Nat → Prop) (R : Ref → Value → Prop) (w : World) (r : AV) : Prop :=
  ∃ v, s.run P w = .ok v w ∧ Rep M R w r v

theorem Same.yields {s : Sem Value} {r : AV} (h : Same P s M (RefOK σ ν) w r) (g : Good M σ ν w) : Yields P s M σ ν w r σ := by
  obtain ⟨v, h1, h2⟩ := h
  exact .same g h1 h2

theorem rep_of_ldc {n : Nat} {ag : Bool} {cs : List AV} {vs : List Value} {r : AV} (hr : Reps M R w cs vs) (h : ldc n ag cs = some r) :
    (ag = true ∧ n ≤ vs.length ∧ Rep M R w r (.agg (vs.take n).toArray)) ∨ (ag = false ∧ ∃ v, vs[0]? = some v ∧ Rep M R w r v) := by
  unfold ldc at h
  cases ag with
  | true =>
    simp only [if_true] at h
    split at h
    · simp at h; subst h
      rename_i hn
      exact .inl ⟨rfl, by rw [← hr.1]; exact hn, .of_agg (hr.take n)⟩
    · cases h
  | false =>
    simp only [Bool.false_eq_true, if_false] at h
    cases cs with
    | nil => simp at h
    | cons c cs => 
      simp at h; subst h
      obtain ⟨v, hv, hrv⟩ := hr.get (j := 0) (x := c) rfl
      exact .inr ⟨rfl, v, hv, hrv⟩

/-- Cells in a row of memory. -/
theorem run_loadVar_cells {t : TypeId} {n : Nat} {ag : Bool} {b o : Nat} {vs : List Value} (hn : szOf P t = some n) (ha : agOf P t = some ag)
    (hv : ∀ j (hj : j < vs.length), w.cell? ⟨b, o + j, none⟩ = some vs[j]) :
    (ag = true → n ≤ vs.length → (loadVar t ⟨b, o, none⟩).run P w = .ok (.agg (vs.take n).toArray) w) ∧
    (ag = false → ∀ v, vs[0]? = some v → (loadVar t ⟨b, o, none⟩).run P w = .ok v w) := by
  have hadd : ∀ j, Addr.add ⟨b, o, none⟩ j = ⟨b, o + j, none⟩ := fun j => by unfold Addr.add; split <;> simp_all
  constructor
  · rintro rfl hl
    have := run_loadCells_list (P := P) w ⟨b, o, none⟩ (vs.take n) (fun j v hj => by
      rw [hadd]
      obtain ⟨hj', rfl⟩ := List.getElem?_eq_some_iff.1 hj
      rw [hv j (by simp at hj'; omega)]
      simp)
    rw [List.length_take, Nat.min_eq_left hl] at this
    simp [loadVar, run_agg ha, run_size hn, this]
  · rintro rfl v h0
    obtain ⟨h0', rfl⟩ := List.getElem?_eq_some_iff.1 h0
    have := hv 0 h0'
    simp only [Nat.add_zero] at this
    simp [loadVar, run_agg ha, load, Sem.run, this]

theorem loadVar_same {t : TypeId} {n : Nat} {ag : Bool} {b o : Nat} {cs : List AV} {r : AV} (hn : szOf P t = some n) (ha : agOf P t = some ag)
    (f : Nat → Value) (hv : ∀ j, j < cs.length → w.cell? ⟨b, o + j, none⟩ = some (f j)) (hr : ∀ j (hj : j < cs.length), Rep M (RefOK σ ν) w (cs[j]) (f j))
    (h : ldc n ag cs = some r) : Same P (loadVar t ⟨b, o, none⟩) M (RefOK σ ν) w r := by
  have hR : Reps M (RefOK σ ν) w cs ((List.range cs.length).map f) := ⟨by simp, fun j hj hj' => by simpa using hr j hj⟩
  have hc := run_loadVar_cells (w := w) (b := b) (o := o) (vs := (List.range cs.length).map f) hn ha (fun j hj => by
    have hj' : j < cs.length := by simpa using hj
    simpa using hv j hj')
  rcases rep_of_ldc hR h with ⟨rfl, hl, hrep⟩ | ⟨rfl, v, h0, hrep⟩
  · exact ⟨_, hc.1 rfl hl, hrep⟩
  · exact ⟨_, hc.2 rfl v h0, hrep⟩

theorem binop_run {op : BinOp} {t : TypeId} {u v r : Value} (x y : Operand) (h : binF op u v = some r)
    (ht : ∀ a b, u = .bool a → v = .bool b → P.underlying t = some .bool) :
    (do eqGuard op t x y u v; binOp op t u v : Sem Value).run P w = .ok r w := by
  have hg : ∀ (a b : Value), (∀ l m, ¬ (a = .agg l ∧ b = .agg m)) → ¬ (a = .nilIface ∧ b = .nilIface) → (eqGuard op t x y a b).run P w = .ok () w := by
    intro a b h1 h2
    unfold eqGuard
    cases op <;> simp <;> first | rfl | (split <;> first | rfl | (exact absurd ⟨rfl, rfl⟩ h2) | (exact absurd ⟨rfl, rfl⟩ (h1 _ _)))
  unfold binF at h
  split at h
  · rename_i k a k' b
    split at h <;> simp at h
    subst h
    rename_i hb
    simp [hg, binOp, Op.shift, Int.not_lt.2 hb]
  · rename_i k a k' b
    split at h <;> simp at h
    subst h
    rename_i hb
    simp [hg, binOp, Op.shift, Int.not_lt.2 hb]
  · rename_i op' k a k' b h1 h2
    split at h
    · rename_i hk
      subst hk
      have hb : ∀ (o : BinOp), o ≠ .shl → o ≠ .shr → binOp o t (.int k a) (.int k b) = (match o with
          | .add | .sub | .mul => Op.intArith o k a b
          | .quo | .rem => Op.intDiv o k a b
          | .and | .or | .xor | .andNot => Op.intBits o k a b
          | _ => Op.intCmp o a b) := by
        intro o e1 e2
        cases o <;> first | exact absurd rfl e1 | exact absurd rfl e2 | simp [binOp]
      cases op <;> simp at h <;> first
        | (subst h; simp [hg, hb, Op.intArith, Op.intBits, Op.intCmp]; done)
        | (split at h <;> simp at h; subst h; rename_i h0; simp [hg, hb, Op.intDiv, h0]; done)
        | (obtain ⟨h0, rfl⟩ := h; simp [hg, hb, Op.intDiv, h0]; done)
    · cases h
  · rename_i op' k a k' b h1 h2
    split at h
    · rename_i hk
      subst hk
      cases op <;> simp at h <;> subst h <;> simp [hg, binOp, Op.floatCmp]
    · cases h
  · rename_i op' a b
    cases op <;> simp at h <;> subst h <;> simp [hg, binOp, Op.stringOp]
  · rename_i a b
    simp at h
    subst h
    have hu := ht a b rfl rfl
    have he : (Op.equal t (.bool a) (.bool b)).run P w = .ok (a == b) w := by
      unfold Op.equal Op.maxDepth Op.equalIn
      simp [run_under hu]
    rw [Sem.run_bind, hg _ _ (by simp) (by simp)]
    simp only [Result.andThen, binOp, Sem.run_bind, he, Sem.run_pure]
  · rename_i a b
    simp at h
    subst h
    have hu := ht a b rfl rfl
    have he : (Op.equal t (.bool a) (.bool b)).run P w = .ok (a == b) w := by
      unfold Op.equal Op.maxDepth Op.equalIn
      simp [run_under hu]
    rw [Sem.run_bind, hg _ _ (by simp) (by simp)]
    simp only [Result.andThen, binOp, Sem.run_bind, he, Sem.run_pure]
  · cases h

theorem unop_run {op : UnOp} {u r : Value} (h : unF op u = some r) : (Op.unary op u).run P w = .ok r w := by
  unfold unF at h
  split at h <;> simp at h <;> subst h <;> simp [Op.unary, Op.intArith, Op.intBits]

end
end Go.Ab
