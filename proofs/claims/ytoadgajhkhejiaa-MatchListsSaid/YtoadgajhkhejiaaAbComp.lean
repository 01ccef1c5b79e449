/- From the model's operations to the abstract ones, and that each answers what its abstract one does. No condition. -/
import Derived.Test.YtoadgajhkhejiaaAbEq
namespace Go.Ab
open Go
def allSome {α : Type} : List (Option α) → Option (List α)
  | [] => some []
  | none :: _ => none
  | some x :: xs => (allSome xs).map (x :: ·)
theorem allSome_map {α : Type} : ∀ {l : List (Option α)} {r : List α}, allSome l = some r → l = r.map some
  | [], r, h => by simp [allSome] at h; subst h; rfl
  | none :: _, r, h => by simp [allSome] at h
  | some x :: xs, r, h => by
    simp only [allSome] at h
    cases hx : allSome xs with
    | none => simp [hx] at h
    | some r' => simp [hx] at h; subst h; simp [allSome_map hx]
def elemOf? (P : Program) (t : TypeId) : Option (TypeId × Nat) :=
  match P.underlying t with
  | some (.slice e) => (szOf P e).bind fun n => if 0 < n then some (e, n) else none
  | _ => none
def appOK (P : Program) (e : TypeId) (n : Nat) : Bool :=
  match P.info? e with
  | some i => match i.zero with
    | some z => decide (i.bytes ≤ 32768) && z.cells.size == n
    | none => false
  | none => false
def noIntB (P : Program) (t : TypeId) : Bool :=
  match P.underlying t with
  | some (.slice _) | some .string => true
  | _ => false
def opAO (P : Program) (own : Bool) : Op → Option AO
  | .move x | .assign x => some (.mov x)
  | .pick c a b => some (.pick c a b)
  | .alloc t => (zcOf P t).map .allocm
  | .box _ x => some (if own then .boxm x else .boxr x)
  | .build t ps => match P.underlying t with
    | some (.struct fs) => if fs.toList.all (fun f => (szOf P f.type).isSome) then
        (zcOf P t).bind fun z => (allSome (ps.toList.map (partOf P fs))).map fun qs => .build z qs else none
    | some (.array _ e) => (szOf P e).bind fun sz => (zcOf P t).map fun z => .build z (ps.toList.map fun p => (p.1 * sz, sz, p.2))
    | _ => none
  | .buildSlice t len ps => (elemOf? P t).bind fun en => (agOf P en.1).bind fun ag => (zcOf P en.1).bind fun z =>
      if (ag || en.2 == 1) && z.all AV.one && z.length == en.2 && decide (len * en.2 ≤ 16777216) then
        some (.bsl own en.2 ag len z (ps.toList.map fun p => (p.1 * en.2, en.2, p.2))) else none
  | .load t x => (szOf P t).bind fun n => (agOf P t).map fun ag => .load n ag x
  | .store t a x => (szOf P t).map fun n => .store n a x
  | .nilCheck x => some (.nilc x)
  | .binOp op t x y _ => match P.underlying t with
    | some .bool => some (.bin true op x y)
    | some (.int _) | some .string | some (.float _) => some (.bin false op x y)
    | some (.struct _) | some (.array _ _) => (eqFlat P 20 t).bind fun ks => if P.eqGuardType P.depth t then none else
        match op with
        | .eql => some (.eqa false ks x y)
        | .neq => some (.eqa true ks x y)
        | _ => none
    | _ => none
  | .unOp op _ x => some (.un op x)
  | .convert s d x => match P.underlying s, P.underlying d with
    | some (.int _), some (.int k) => some (.convi k x)
    | _, _ => none
  | .makeFunc (.func f) fs cs => some (.mkfn f fs.toList cs.toList)
  | .slice t x lo hi none => match P.underlying t with
    | some .string => some (.slcs x lo hi)
    | some (.slice _) => (elemOf? P t).map fun en => .slcv en.2 x lo hi
    | _ => none
  | .fieldAddr s x f => match P.underlying s with
    | some (.struct fs) => (fs[f]?).bind fun fd => (szOf P fd.type).bind fun n => if n = 0 then none else some (.fadr fd.offset x)
    | _ => none
  | .field s x f => match P.underlying s with
    | some (.struct fs) => (fs[f]?).bind fun fd => (szOf P fd.type).bind fun n => (agOf P fd.type).map fun ag => .field fd.offset n ag x
    | _ => none
  | .indexAddr t x i => match P.underlying t with
    | some (.slice _) => (elemOf? P t).map fun en => .iadrs en.2 x i
    | some (.array len e) => (szOf P e).map fun n => .iadra n len x i
    | _ => none
  | .index t x i => match P.underlying t with
    | some .string => some (.idxs x i)
    | some (.array len e) => (szOf P e).bind fun n => (agOf P e).map fun ag => .idxa n len ag x i
    | _ => none
  | .extract x i => some (.extr i x)
  | .call { callee := .builtin .len, args := ⟨[x]⟩, argTypes := ⟨[t]⟩ } => match P.underlying t with
    | some .string => some (.lens x)
    | some (.slice _) => some (.lenv x)
    | some (.array n _) => some (.con (.int .i64 n))
    | _ => none
  | .call { callee := .builtin .append, args := ⟨[x, y]⟩, argTypes := ⟨[t, t2]⟩ } => (elemOf? P t).bind fun en => if appOK P en.1 en.2 && noIntB P t2 then some (.app en.2 x y) else none
  | _ => none
section
variable {P : Program} {M M' : Nat → Prop} {σ σ' : St} {ν ν' : Nat → Value} {w w' : World} {R : Ref → Value → Prop}
def Done (P : Program) (s : Sem Next) (M : Nat → Prop) (σ : St) (ν : Nat → Value) (w : World) (r : AV) (σ' : St) : Prop :=
  ∃ n v w' M' ν', s.run P w = .ok n w' ∧ (n = .value v ∨ n = .skip ∧ v = undef) ∧ Good M' σ' ν' w' ∧ Later M σ ν w M' σ' ν' w' ∧ Rep M' (RefOK σ' ν') w' r v
theorem Yields.done {s : Sem Value} {r : AV} (h : Yields P s M σ ν w r σ') : Done P (do pure (.value (← s))) M σ ν w r σ' := by
  obtain ⟨v, w', M', ν', h1, h2, h3, h4⟩ := h
  exact ⟨.value v, v, w', M', ν', by simp [h1], .inl rfl, h2, h3, h4⟩
theorem elemOf_inv {t e : TypeId} {n : Nat} (h : elemOf? P t = some (e, n)) : P.underlying t = some (.slice e) ∧ szOf P e = some n ∧ 0 < n := by
  unfold elemOf? at h
  split at h
  · rename_i e' hu
    cases hs : szOf P e' with
    | none => simp [hs] at h
    | some m =>
      simp [hs] at h
      obtain ⟨h0, rfl, rfl⟩ := h
      exact ⟨hu, hs, h0⟩
  · cases h
theorem appOK_elem {t e : TypeId} {n : Nat} (h : elemOf? P t = some (e, n)) (ha : appOK P e n = true) : ElemOK P t e n := by
  obtain ⟨h1, h2, h3⟩ := elemOf_inv h
  refine ⟨h1, h2, ?_, h3⟩
  unfold appOK at ha
  split at ha
  · rename_i i hi
    split at ha
    · rename_i z hz
      simp at ha
      exact ⟨i, z, hi, hz, ha.1, ha.2⟩
    · cases ha
  · cases ha
theorem noIntB_inv {t : TypeId} (h : noIntB P t = true) : NoInt P t := by
  unfold noIntB at h
  split at h
  · rename_i e he; exact .inl ⟨e, he⟩
  · rename_i he; exact .inr he
  · cases h
theorem opt_map_some {α β : Type} {o : Option α} {f : α → β} {b : β} (h : o.map f = some b) : ∃ a, o = some a ∧ f a = b := by
  cases o <;> simp at h; exact ⟨_, rfl, h⟩
theorem opt_bind_some {α β : Type} {o : Option α} {f : α → Option β} {b : β} (h : o.bind f = some b) : ∃ a, o = some a ∧ f a = some b := by
  cases o <;> simp at h; exact ⟨_, rfl, h⟩
theorem bsl_yields {t e : TypeId} {sz len : Nat} {ag own : Bool} {z : List AV} {ps : Array (Nat × Operand)} {ρ : Operand → AV} {ρ' : Operand → Value} {cs : List AV} (g : Good M σ ν w)
    (he : elemOf? P t = some (e, sz)) (hz : zcOf P e = some z) (hag : ag = false → sz = 1) (hone : z.all AV.one = true) (hzl : z.length = sz) (hlen : len * sz ≤ 16777216)
    (hρ : PartsRep M (RefOK σ ν) w ρ ρ') (h : fillA ρ (repeatA z len) (ps.toList.map fun p => (p.1 * sz, sz, p.2)) = some cs) :
    Yields P (Instr.buildSlice t len (ps.map fun (i, x) => (i, ρ' x))) M σ ν w (if own then .osl σ.length len else .sl sz (chunks sz ag len cs))
      (if own then σ ++ [.row sz (chunks sz ag len cs)] else σ) := by
  obtain ⟨hu, hsz, hpos⟩ := elemOf_inv he
  obtain ⟨v, hv, hr⟩ := zc_reps hz
  have hvs : v.cells.size = sz := ((hr M (RefOK σ ν) w).1.trans Array.length_toList).symm.trans hzl
  obtain ⟨c, hfill, hrep⟩ := fill_ok hρ (fun i => some (i * sz, sz)) ps.toList _ _ cs _ (by simp) (repeat_reps (hr M (RefOK σ ν) w) len) h
  have hmap : (ps.map fun (i, x) => (i, ρ' x)).toList = ps.toList.map fun p => (p.1, ρ' p.2) := by simp
  have hcl : cs.length = len * sz := by rw [fillA_length ρ _ _ _ h, repeatA_length, hzl]
  have hone2 : ∀ n, (repeatA z n).all AV.one = true := by
    intro n
    induction n with
    | zero => rfl
    | succ n ih => simp only [repeatA, List.all_append, hone, ih, Bool.and_self]
  have helems := chunks_elems hag len cs _ hrep hcl (fillA_one ρ _ _ _ (hone2 len) h)
  have hsz0 : sz ≠ 0 := by omega
  have hrun : (Instr.buildSlice t len (ps.map fun (i, x) => (i, ρ' x))).run P w = .ok (.slice (some ⟨w.heap.size, 0, none⟩) len len) (w.alloc (.cells c e)) := by
    unfold Instr.buildSlice
    simp only [Sem.run_bind, run_under hu, Result.andThen, run_size hsz, hmap]
    have h16 : ¬ len * sz > 2 ^ 24 := by omega
    rw [if_neg h16]
    by_cases h0 : len * sz = 0
    · rw [if_pos h0]
      have hl0 : len = 0 := by
        rcases Nat.mul_eq_zero.1 h0 with h | h
        · exact h
        · exact absurd h hsz0
      subst hl0
      have hfill' := hfill
      have hr0 : ∀ (f : Nat → Value), (Array.range 0).map f = #[] := fun f => by
        apply Array.ext'; simp
      simp only [Nat.zero_mul, hr0] at hfill' ⊢
      simp only [Sem.run_bind, Sem.run_pure, Result.andThen, hfill', newRow, run_newObj, World.alloc_eq]
    · rw [if_neg h0]
      simp only [Sem.run_bind, hv, Sem.run_pure, Result.andThen]
      rw [hvs] at hfill
      rw [show (fun (x : Nat) => v.cells[x % v.cells.size]!) = (fun x => v.cells[x % sz]!) by rw [hvs]]
      rw [hfill]
      simp only [newRow, Sem.run_bind, run_newObj, Result.andThen, Sem.run_pure, World.alloc_eq]
  have hchl := chunks_length sz ag len cs
  have hcsz : c.size = len * sz := by rw [← hcl, hrep.1, Array.length_toList]
  cases own with
  | true =>
    obtain ⟨M', ν', g', l', r'⟩ := g.newRow sz (chunks sz ag len cs) e c len (by omega) (by omega) helems
    rw [hchl] at r'
    exact ⟨_, _, M', ν', hrun, g', l', r'⟩
  | false =>
    obtain ⟨g', l', hm, hc⟩ := new_sealed g e c
    refine ⟨_, _, M, ν, hrun, g', l', ?_⟩
    have helems' := Elems.mono (l'.sealed g) l'.evo helems
    have := Rep.sl (M := M) (R := RefOK σ ν) (w := w.alloc (.cells c e)) sz (chunks sz ag len cs) w.heap.size 0 len (fun i j => c[i * sz + j]?.getD undef) (by omega)
      (fun i j hi hj => by
        obtain ⟨q1, _⟩ := helems' i j hi hj
        have hlt := idx_lt (i := i) (k := len) (by rw [← hchl]; exact hi) q1
        refine ⟨q1, hm, ?_⟩
        rw [Nat.zero_add, hc]; simp [show i * sz + j < c.size by omega])
      (fun i j hi hj => by
        obtain ⟨q1, q2⟩ := helems' i j hi hj
        have hlt := idx_lt (i := i) (k := len) (by rw [← hchl]; exact hi) q1
        exact q2 _ (by simp [show i * sz + j < c.size by omega]))
    rw [hchl] at this
    exact this
end
end Go.Ab
