/- Equality of structs and arrays of plain cells. No condition. -/
import Derived.Test.YtoadgajhkhejiaaAbRun7
import Derived.Laws.StructEq
import Derived.ChangeKeysEq
namespace Go.Ab
open Go
section
variable {P : Program} {M : Nat → Prop} {w : World} {R : Ref → Value → Prop}
def eqFields (f : TypeId → Option (List Leaf)) (P : Program) : List Field → Nat → Option (List Leaf)
  | [], _ => some []
  | fd :: fs, off =>
    if fd.name ≠ "_" ∧ fd.offset = off then
      match f fd.type with
      | some ks => if szOf P fd.type = some ks.length then (eqFields f P fs (off + ks.length)).map (ks ++ ·) else none
      | none => none
    else none
def repL (ks : List Leaf) : Nat → List Leaf
  | 0 => []
  | n + 1 => ks ++ repL ks n
def eqFlat (P : Program) : Nat → TypeId → Option (List Leaf)
  | 0, _ => none
  | d + 1, t =>
    match P.underlying t with
    | some .bool => some [.bool]
    | some (.int _) => some [.int]
    | some .string => some [.str]
    | some (.struct fs) => if P.stoodInHeld t then none else eqFields (eqFlat P d) P fs.toList 0
    | some (.array len e) => match eqFlat P d e with
      | some ks => if szOf P e = some ks.length then some (repL ks len) else none
      | none => none
    | _ => none
def shapeV : Bool → List Value → Value
  | true, us => .agg us.toArray
  | false, us => us.headD undef
theorem eqCells_append {ks ls : List Leaf} : ∀ {xs ys xs' ys' : List AV} {b : Bool}, xs.length = ks.length → ys.length = ks.length → eqCells (ks ++ ls) (xs ++ xs') (ys ++ ys') = some b →
    ∃ b1 b2, eqCells ks xs ys = some b1 ∧ eqCells ls xs' ys' = some b2 ∧ b = (b1 && b2) := by
  induction ks with
  | nil =>
    intro xs ys xs' ys' b h1 h2 h
    have e1 : xs = [] := List.eq_nil_of_length_eq_zero h1
    have e2 : ys = [] := List.eq_nil_of_length_eq_zero h2
    subst e1; subst e2
    exact ⟨true, b, rfl, h, by simp⟩
  | cons k ks ih =>
    intro xs ys xs' ys' b h1 h2 h
    cases xs with
    | nil => simp at h1
    | cons x xs =>
      cases ys with
      | nil => simp at h2
      | cons y ys =>
        simp only [List.cons_append, eqCells] at h ⊢
        cases hc : eqCell k x y with
        | none => simp [hc] at h
        | some a =>
          cases hr : eqCells (ks ++ ls) (xs ++ xs') (ys ++ ys') with
          | none => simp [hc, hr] at h
          | some r =>
            obtain ⟨b1, b2, q1, q2, rfl⟩ := ih (by simpa using h1) (by simpa using h2) hr
            simp [hc, hr] at h
            exact ⟨a && b1, b2, by simp [q1], q2, by rw [← h, Bool.and_assoc]⟩
theorem part_shape {t : TypeId} {n off : Nat} {ag : Bool} (hn : szOf P t = some n) (ha : agOf P t = some ag) (h1 : ag = false → n = 1) (us : List Value) (hl : off + n ≤ us.length) :
    (part t us.toArray off).run P w = .ok (shapeV ag ((us.drop off).take n)) w := by
  cases ag with
  | true =>
    simp [part, run_agg ha, run_size hn, List.extract_eq_take_drop, shapeV]
  | false =>
    have := h1 rfl
    subst this
    have e : us[off]? = some us[off] := by simp [show off < us.length by omega]
    simp only [part, run_agg ha, Sem.run_bind, Result.andThen, Bool.false_eq_true, if_false, List.getElem?_toArray, e, Sem.run_pure, shapeV]
    have e2 : us.drop off = us[off] :: us.drop (off + 1) := List.drop_eq_getElem_cons (by omega)
    rw [e2]; rfl
theorem flat_ag {d : Nat} {t : TypeId} {ks : List Leaf} (h : eqFlat P d t = some ks) : ∃ ag, agOf P t = some ag ∧ (ag = false → ks.length = 1) := by
  cases d with
  | zero => simp [eqFlat] at h
  | succ d =>
    unfold eqFlat at h
    cases hu : P.underlying t with
    | none => simp [hu] at h
    | some dsc =>
      refine ⟨aggDesc dsc, by simp [agOf, hu], ?_⟩
      cases dsc <;> simp [hu, aggDesc] at h ⊢ <;> (subst h; rfl)
theorem repL_length (ks : List Leaf) : ∀ n, (repL ks n).length = n * ks.length := by
  intro n; induction n with
  | zero => simp [repL]
  | succ n ih => simp [repL, ih, Nat.add_mul]; omega
theorem eqCell_int {x y : Value} {b : Bool} (h : eqCell .int (.pl x) (.pl y) = some b) : ∃ k a a', x = .int k a ∧ y = .int k a' ∧ b = (a == a') := by
  cases x <;> simp only [eqCell] at h <;> try cases h
  cases y <;> simp only at h <;> try cases h
  split at h
  · rename_i hk; subst hk; exact ⟨_, _, _, rfl, rfl, by simpa using h.symm⟩
  · cases h
theorem eqCell_str {x y : Value} {b : Bool} (h : eqCell .str (.pl x) (.pl y) = some b) : ∃ a a', x = .string a ∧ y = .string a' ∧ b = (a.toList == a'.toList) := by
  cases x <;> simp only [eqCell] at h <;> try cases h
  cases y <;> simp only at h <;> try cases h
  exact ⟨_, _, rfl, rfl, rfl⟩
theorem eqCell_bool {x y : Value} {b : Bool} (h : eqCell .bool (.pl x) (.pl y) = some b) : ∃ a a', x = .bool a ∧ y = .bool a' ∧ b = (a == a') := by
  cases x <;> simp only [eqCell] at h <;> try cases h
  cases y <;> simp only at h <;> try cases h
  exact ⟨_, _, rfl, rfl, rfl⟩
theorem eqFlat_run (m : Nat) : ∀ (d : Nat) (t : TypeId) (ks : List Leaf) (ag : Bool), eqFlat P d t = some ks → agOf P t = some ag → ∀ (us vs : List Value) (b : Bool), us.length = ks.length → vs.length = ks.length →
    eqCells ks (us.map .pl) (vs.map .pl) = some b → ∀ w, (Op.equalIn (d + m) t (shapeV ag us) (shapeV ag vs)).run P w = .ok b w := by
  intro d
  induction d with
  | zero => intro t ks ag h; simp [eqFlat] at h
  | succ d ih =>
    intro t ks ag h ha us vs b hl hl' he w
    rw [show d + 1 + m = (d + m) + 1 by omega]
    unfold eqFlat at h
    cases hu : P.underlying t with
    | none => simp [hu] at h
    | some dsc =>
      have hag : ag = aggDesc dsc := by simp [agOf, hu] at ha; exact ha.symm
      have leaf : ∀ k, ks = [k] → ag = false → ∃ x y, us = [x] ∧ vs = [y] ∧ eqCell k (.pl x) (.pl y) = some b := by
        rintro k rfl rfl
        match us, vs, hl, hl' with
        | [x], [y], _, _ =>
          refine ⟨x, y, rfl, rfl, ?_⟩
          simp only [List.map_cons, List.map_nil, eqCells] at he
          cases hc : eqCell k (.pl x) (.pl y) with
          | none => simp [hc] at he
          | some a => simp [hc] at he; rw [he]
      cases dsc with
      | bool =>
        simp [hu] at h; subst h
        obtain ⟨x, y, rfl, rfl, hc⟩ := leaf .bool rfl hag
        subst hag
        obtain ⟨a, a', rfl, rfl, rfl⟩ := eqCell_bool hc
        simp [shapeV, aggDesc, Op.equalIn, run_under hu]
      | int k =>
        simp [hu] at h; subst h
        obtain ⟨x, y, rfl, rfl, hc⟩ := leaf .int rfl hag
        subst hag
        obtain ⟨k', a, a', rfl, rfl, rfl⟩ := eqCell_int hc
        simp [shapeV, aggDesc, Op.equalIn, run_under hu]
      | string =>
        simp [hu] at h; subst h
        obtain ⟨x, y, rfl, rfl, hc⟩ := leaf .str rfl hag
        subst hag
        obtain ⟨a, a', rfl, rfl, rfl⟩ := eqCell_str hc
        exact run_equalIn_string (P := P) w (d + m) t a a' hu
      | struct fs =>
        simp only [hu] at h
        subst hag
        split at h
        · cases h
        · rename_i hs
          have hf : P.fieldsOf t = fs := by simp [Program.fieldsOf, hu]
          simp only [shapeV, aggDesc]
          rw [run_equalIn_struct (P := P) w (d + m) t _ _ (by rw [hf]; exact hu) (by simpa using hs), hf]
          have key : ∀ (l : List Field) (off : Nat) (ls : List Leaf) (b : Bool), eqFields (eqFlat P d) P l off = some ls → off + ls.length = us.length → us.length = vs.length →
              eqCells ls ((us.drop off).map .pl) ((vs.drop off).map .pl) = some b → (Op.eqFields (d + m) us.toArray vs.toArray l).run P w = .ok b w := by
            intro l
            induction l with
            | nil =>
              intro off ls b h1 h2 h3 h4
              simp [eqFields] at h1; subst h1
              simp at h2
              have e1 : us.drop off = [] := by simp; omega
              have e2 : vs.drop off = [] := by simp; omega
              rw [e1, e2] at h4
              simp [eqCells] at h4; subst h4
              simp [Op.eqFields]
            | cons f l ihl =>
              intro off ls b h1 h2 h3 h4
              simp only [eqFields] at h1
              split at h1
              · rename_i hn
                obtain ⟨hn1, hn2⟩ := hn
                cases hk : eqFlat P d f.type with
                | none => simp [hk] at h1
                | some ks' =>
                  simp only [hk] at h1
                  split at h1
                  · rename_i hsz
                    cases hrest : eqFields (eqFlat P d) P l (off + ks'.length) with
                    | none => simp [hrest] at h1
                    | some ls' =>
                      simp [hrest] at h1; subst h1
                      simp only [List.length_append] at h2
                      obtain ⟨ag', hag', hone⟩ := flat_ag hk
                      have du : us.drop off = (us.drop off).take ks'.length ++ us.drop (off + ks'.length) := by rw [← List.drop_drop, List.take_append_drop]
                      have dv : vs.drop off = (vs.drop off).take ks'.length ++ vs.drop (off + ks'.length) := by rw [← List.drop_drop, List.take_append_drop]
                      rw [du, dv, List.map_append, List.map_append] at h4
                      obtain ⟨b1, b2, q1, q2, rfl⟩ := eqCells_append (by simp; omega) (by simp; omega) h4
                      have r1 := ih f.type ks' ag' hk hag' ((us.drop off).take ks'.length) ((vs.drop off).take ks'.length) b1 (by simp; omega) (by simp; omega) q1 w
                      have r2 := ihl (off + ks'.length) ls' b2 hrest (by omega) h3 q2
                      have p1 := part_shape (w := w) (off := off) hsz hag' hone us (by omega)
                      have p2 := part_shape (w := w) (off := off) hsz hag' hone vs (by omega)
                      rw [Op.eqFields, if_pos hn1]
                      simp only [Sem.run_bind, hn2, p1, p2, r1, Result.andThen]
                      cases b1
                      · simp
                      · simpa using r2
                  · cases h1
              · cases h1
          exact key fs.toList 0 ks b h (by omega) (by omega) (by simpa using he)
      | array len e =>
        simp only [hu] at h
        subst hag
        cases hk : eqFlat P d e with
        | none => simp [hk] at h
        | some ks' =>
          simp only [hk] at h
          split at h
          · rename_i hsz
            simp at h; subst h
            obtain ⟨i, hi⟩ : ∃ i, P.info? e = some i := by
              unfold szOf at hsz
              cases hi : P.info? e with
              | none => simp [hi] at hsz
              | some i => exact ⟨i, rfl⟩
            have hco : P.cellsOf e = ks'.length := by
              unfold szOf at hsz; unfold Program.cellsOf; rw [hsz]; rfl
            simp only [shapeV, aggDesc]
            rw [run_equalIn_array (P := P) w (d + m) _ _ hu hi, hco]
            obtain ⟨ag', hag', hone⟩ := flat_ag hk
            rw [repL_length] at hl hl'
            have key : ∀ (n k : Nat) (b : Bool), k + n = len → eqCells (repL ks' n) ((us.drop (k * ks'.length)).map .pl) ((vs.drop (k * ks'.length)).map .pl) = some b →
                (Op.eqItems (d + m) e ks'.length us.toArray vs.toArray (List.range' k n)).run P w = .ok b w := by
              intro n
              induction n with
              | zero =>
                intro k b h2 h4
                have e1 : us.drop (k * ks'.length) = [] := by simp; rw [hl, ← h2]; simp
                have e2 : vs.drop (k * ks'.length) = [] := by simp; rw [hl', ← h2]; simp
                rw [e1, e2] at h4
                simp [repL, eqCells] at h4; subst h4
                simp [Op.eqItems]
              | succ n ihn =>
                intro k b h2 h4
                have hle : (k + 1) * ks'.length ≤ len * ks'.length := Nat.mul_le_mul_right _ (by omega)
                rw [Nat.add_mul, Nat.one_mul] at hle
                simp only [repL] at h4
                have du : us.drop (k * ks'.length) = (us.drop (k * ks'.length)).take ks'.length ++ us.drop ((k + 1) * ks'.length) := by
                  rw [Nat.add_mul, Nat.one_mul, ← List.drop_drop, List.take_append_drop]
                have dv : vs.drop (k * ks'.length) = (vs.drop (k * ks'.length)).take ks'.length ++ vs.drop ((k + 1) * ks'.length) := by
                  rw [Nat.add_mul, Nat.one_mul, ← List.drop_drop, List.take_append_drop]
                rw [du, dv, List.map_append, List.map_append] at h4
                obtain ⟨b1, b2, q1, q2, rfl⟩ := eqCells_append (by simp; omega) (by simp; omega) h4
                have r1 := ih e ks' ag' hk hag' ((us.drop (k * ks'.length)).take ks'.length) ((vs.drop (k * ks'.length)).take ks'.length) b1 (by simp; omega) (by simp; omega) q1 w
                have r2 := ihn (k + 1) b2 (by omega) q2
                have p1 := part_shape (w := w) (off := k * ks'.length) hsz hag' hone us (by omega)
                have p2 := part_shape (w := w) (off := k * ks'.length) hsz hag' hone vs (by omega)
                rw [List.range'_succ, Op.eqItems]
                simp only [Sem.run_bind, p1, p2, r1, Result.andThen]
                cases b1
                · simp
                · simpa using r2
            have := key len 0 b (by omega) (by simpa using he)
            rw [List.range_eq_range']; exact this
          · cases h
      | _ => simp [hu] at h
theorem eqCells_pl {ks : List Leaf} : ∀ {xs ys : List AV} {b : Bool}, eqCells ks xs ys = some b → ∃ us vs : List Value, xs = us.map .pl ∧ ys = vs.map .pl ∧ us.length = ks.length ∧ vs.length = ks.length := by
  induction ks with
  | nil =>
    intro xs ys b h
    cases xs <;> cases ys <;> simp [eqCells] at h
    exact ⟨[], [], rfl, rfl, rfl, rfl⟩
  | cons k ks ih =>
    intro xs ys b h
    cases xs with
    | nil => simp [eqCells] at h
    | cons x xs =>
      cases ys with
      | nil => simp [eqCells] at h
      | cons y ys =>
        simp only [eqCells] at h
        cases hc : eqCell k x y with
        | none => simp [hc] at h
        | some a =>
          cases hr : eqCells ks xs ys with
          | none => simp [hc, hr] at h
          | some r =>
            obtain ⟨us, vs, rfl, rfl, h1, h2⟩ := ih hr
            have : ∃ u v, x = .pl u ∧ y = .pl v := by
              unfold eqCell at hc
              split at hc <;> simp at hc <;> exact ⟨_, _, rfl, rfl⟩
            obtain ⟨u, v, rfl, rfl⟩ := this
            exact ⟨u :: us, v :: vs, rfl, rfl, by simp [h1], by simp [h2]⟩
theorem pl_reps {us vs : List Value} (h : Reps M R w (us.map .pl) vs) : vs = us := by
  induction us generalizing vs with
  | nil => cases vs with
    | nil => rfl
    | cons v vs => simp [Reps] at h
  | cons u us ih =>
    cases vs with
    | nil => simp [Reps] at h
    | cons v vs => rw [h.head.pl_inv, ih h.tail]
theorem eqa_run {t : TypeId} {ks : List Leaf} {xs ys : List AV} {u v : Value} {b neg : Bool} (x y : Operand) (hk : eqFlat P 20 t = some ks) (hag : agOf P t = some true) (hgd : P.eqGuardType P.depth t = false)
    (h : eqCells ks xs ys = some b) (hx : Rep M R w (.agg xs) u) (hy : Rep M R w (.agg ys) v) :
    (do eqGuard (if neg then .neq else .eql) t x y u v; binOp (if neg then .neq else .eql) t u v : Sem Value).run P w = .ok (.bool (neg ^^ b)) w := by
  obtain ⟨us, rfl, hus⟩ := hx.agg_inv
  obtain ⟨vs, rfl, hvs⟩ := hy.agg_inv
  obtain ⟨us', vs', rfl, rfl, h1, h2⟩ := eqCells_pl h
  have e1 := pl_reps hus
  have e2 := pl_reps hvs
  subst e1; subst e2
  have he := eqFlat_run (P := P) 9980 20 t ks true hk hag us vs b h1 h2 h w
  have hg : ∀ op, (eqGuard op t x y (.agg us.toArray) (.agg vs.toArray)).run P w = .ok () w := by
    intro op
    unfold eqGuard
    cases op <;> simp [hgd]
  rw [Sem.run_bind, hg]
  simp only [Result.andThen]
  have he2 : (Op.equal t (.agg us.toArray) (.agg vs.toArray)).run P w = .ok b w := he
  cases neg
  · simp only [Bool.false_eq_true, if_false, binOp, Sem.run_bind, he2, Result.andThen, Sem.run_pure, Bool.false_xor]
  · simp only [if_true, binOp, Sem.run_bind, he2, Result.andThen, Sem.run_pure, Bool.true_xor]
end
end Go.Ab
