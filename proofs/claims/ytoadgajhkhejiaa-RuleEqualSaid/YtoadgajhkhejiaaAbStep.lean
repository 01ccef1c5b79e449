/- The abstract run of a whole function, and that it tells what a call comes to. No condition. -/
import Derived.Test.YtoadgajhkhejiaaAbDraw2
set_option linter.unusedSimpArgs false
set_option linter.unusedVariables false
namespace Go.Ab
open Go
inductive Ghost where
  | clear (ts : List Tmp)
  | shut (t : Tmp)
  | own (t : Tmp) (sz : Nat)
  | keep (j : Nat)
  | weak (t : Tmp) (sz : Nat)
  | shutc (t : Tmp) (j sz : Nat)
inductive AExit where
  | normal
  | exit (id : Nat)
  | ret
inductive ACode where
  | skip
  | ops (l : List AOper)
  | draw (l : List DOper)
  | seq (a b : ACode)
  | cond (c : Operand) (a b : ACode)
  | block (id : Nat) (a : ACode)
  | loop (clr : List Tmp) (a : ACode)
  | exit (id : Nat)
  | ret
  | ghost (g : Ghost) (a : ACode)
  | after (a : ACode) (g : Ghost)
inductive Bel (n : Nat) : AV → Prop
  | any : Bel n .any
  | pl (v : Value) : Bel n (.pl v)
  | nils : Bel n .nils
  | sl (sz : Nat) (xs : List AV) (h : ∀ j (hj : j < xs.length), Bel n (xs[j])) : Bel n (.sl sz xs)
  | rp (cs : List AV) (h : ∀ i (hi : i < cs.length), Bel n (cs[i])) : Bel n (.rp cs)
  | ptr (l off : Nat) (h : l < n) : Bel n (.ptr l off)
  | osl (l m : Nat) (h : l < n) : Bel n (.osl l m)
  | ep (l m i off : Nat) (h : l < n) : Bel n (AV.ep l m i off)
  | psl (l off m : Nat) (h : l < n) : Bel n (.psl l off m)
  | zsl : Bel n .zsl
  | win (sz l m lo : Nat) (h : l < n) : Bel n (.win sz l m lo)
  | agg (cs : List AV) (h : ∀ i (hi : i < cs.length), Bel n (cs[i])) : Bel n (.agg cs)
  | tup (cs : List AV) (h : ∀ i (hi : i < cs.length), Bel n (cs[i])) : Bel n (.tup cs)
  | fn (f : FuncId) (fs cs : List AV) (h : ∀ j (hj : j < fs.length), Bel n (fs[j])) (h' : ∀ j (hj : j < cs.length), Bel n (cs[j])) : Bel n (.fn f fs cs)
def BelO (n : Nat) : Ob → Prop
  | .dead | .glo _ _ => True
  | .box cs => ∀ c ∈ cs, Bel n c
  | .row _ xs => ∀ x ∈ xs, Bel n x
theorem Bel.list {n : Nat} {xs : List AV} (h : ∀ i (hi : i < xs.length), Bel n (xs[i])) : ∀ x ∈ xs, Bel n x := by
  intro x hx
  obtain ⟨i, hi, rfl⟩ := List.getElem_of_mem hx
  exact h i hi
theorem Bel.of_mem {n : Nat} {xs : List AV} (h : ∀ x ∈ xs, Bel n x) : ∀ i (hi : i < xs.length), Bel n (xs[i]) := fun _ hi => h _ (List.getElem_mem hi)
def sealV (σ : St) : AV → Option (AV × St)
  | .osl l n => match σ[l]? with
    | some (.row sz xs) => if n = xs.length then some (.sl sz xs, σ.set l .dead) else none
    | _ => none
  | .ptr l 0 => match σ[l]? with
    | some (.box cs) => some (.rp cs, σ.set l .dead)
    | _ => none
  | v => some (v, σ)
def sealL : St → List AV → Option (List AV × St)
  | σ, [] => some ([], σ)
  | σ, v :: vs => match sealV σ v with
    | some (v', σ') => match sealL σ' vs with
      | some (vs', σ'') => some (v' :: vs', σ'')
      | none => none
    | none => none
def clearA (env : Env) : List Tmp → Env
  | [] => env
  | t :: ts => clearA (env.set t .any) ts
def weakA (sz : Nat) : AV → AV
  | .nils => .sl sz []
  | .zsl => .sl sz []
  | v => v
def shutcA (sz j : Nat) (σ : St) : AV → Option St
  | .ptr l off => match σ[l]? with
    | some (.box cs) => match cs[off + j]? with
      | some (.osl l2 n) => match σ[l2]? with
        | some (.row sz' xs) => if n = xs.length ∧ l2 ≠ l then some ((σ.set l2 .dead).set l (.box (cs.set (off + j) (.sl sz' xs)))) else none
        | _ => none
      | some .nils => some (σ.set l (.box (cs.set (off + j) (.sl sz []))))
      | _ => none
    | _ => none
  | _ => none
def gh (n0 : Nat) (g : Ghost) (env : Env) (σ : St) (K : Env → St → Prop) : Prop :=
  match g with
  | .clear ts => K (clearA env ts) σ
  | .shut t => match tmpA env t with
    | .agg cs => match sealL σ cs with
      | some (cs', σ') => K (env.set t (.agg cs')) σ'
      | none => False
    | v => match sealV σ v with
      | some (v', σ') => K (env.set t v') σ'
      | none => False
  | .own t sz => match tmpA env t with
    | .nils => K (env.set t (.osl σ.length 0)) (σ ++ [.row sz []])
    | _ => False
  | .keep j => (∀ v ∈ env, Bel (n0 + j) v) ∧ (∀ o ∈ σ.take (n0 + j), BelO (n0 + j) o) ∧ n0 + j ≤ σ.length ∧ K env (σ.take (n0 + j))
  | .weak t sz => K (env.set t (weakA sz (tmpA env t))) σ
  | .shutc t j sz => match shutcA sz j σ (tmpA env t) with
    | some σ' => K env σ'
    | none => False
def LoopP (F : (Env → St → Prop) → Env → St → Prop) (env : Env) (σ : St) : Prop :=
  ∀ I : Env → St → Prop, (∀ env σ, F I env σ → I env σ) → I env σ
def ax (P : Program) (n0 : Nat) : ACode → (AExit → Env → St → Prop) → Env → St → Prop
  | .skip, K, env, σ => K .normal env σ
  | .ops l, K, env, σ => axops P (K .normal) l env σ
  | .draw l, K, env, σ => axd P (K .normal) l env [σ] σ fun _ => True
  | .seq a b, K, env, σ => ax P n0 a (fun e env σ => match e with
      | .normal => ax P n0 b K env σ
      | e => K e env σ) env σ
  | .cond c a b, K, env, σ => match boolA (aev env c) with
    | some true => ax P n0 a K env σ
    | some false => ax P n0 b K env σ
    | none => False
  | .block id a, K, env, σ => ax P n0 a (fun e env σ => match e with
      | .exit j => if j = id then K .normal env σ else K (.exit j) env σ
      | e => K e env σ) env σ
  | .loop clr a, K, env, σ => LoopP (fun I env σ => ax P n0 a (fun e env σ => match e with
      | .normal => I (clearA env clr) σ
      | e => K e env σ) env σ) (clearA env clr) σ
  | .exit id, K, env, σ => K (.exit id) env σ
  | .ret, K, env, σ => K .ret env σ
  | .ghost g a, K, env, σ => gh n0 g env σ fun env σ => ax P n0 a K env σ
  | .after a g, K, env, σ => ax P n0 a (fun e env σ => match e with
      | .normal => gh n0 g env σ (K .normal)
      | e => K e env σ) env σ
def compDs (P : Program) (own : List Tmp) (arr : Array Oper) : List Oper → List DOper → Option (List DOper)
  | [], [] => some []
  | o :: os, d :: ds => (compD P own arr o d).bind fun x => (compDs P own arr os ds).map ({ d with o := x } :: ·)
  | _, _ => none
theorem compDs_at {P : Program} {own : List Tmp} {arr : Array Oper} : ∀ {l : List Oper} {ds ds' : List DOper}, compDs P own arr l ds = some ds' →
    l.length = ds'.length ∧ ∀ (j : Nat) (o : Oper) (d : DOper), l[j]? = some o → ds'[j]? = some d → CompAt P own arr o d := by
  intro l
  induction l with
  | nil =>
    intro ds ds' h
    cases ds <;> simp [compDs] at h
    subst h
    exact ⟨rfl, fun j o d hj => by simp at hj⟩
  | cons o l ih =>
    intro ds ds' h
    cases ds with
    | nil => simp [compDs] at h
    | cons d ds =>
      simp only [compDs] at h
      obtain ⟨x, hx, h⟩ := opt_bind_some h
      obtain ⟨r, hr, rfl⟩ := opt_map_some h
      obtain ⟨h1, h2⟩ := ih hr
      refine ⟨by simp [h1], fun j o' d' hj hd => ?_⟩
      cases j with
      | zero =>
        simp only [List.getElem?_cons_zero, Option.some.injEq] at hj hd
        subst hj; subst hd
        exact compD_at hx
      | succ j => exact h2 j o' d' (by simpa using hj) (by simpa using hd)
def cc (P : Program) (own : List Tmp) : Code → ACode → Option ACode
  | c, .ghost g a => (cc P own c a).map (.ghost g ·)
  | c, .after a g => (cc P own c a).map (.after · g)
  | .skip, .skip => some .skip
  | .region _ ⟨ops⟩ false, .ops _ => (compL P own ⟨ops⟩ ops).map .ops
  | .region _ ⟨ops⟩ true, .draw ds => (compDs P own ⟨ops⟩ ops ds).bind fun ds' => if okD ops ds' && okF ops ds' then some (.draw ds') else none
  | .seq a b, .seq x y => (cc P own a x).bind fun x' => (cc P own b y).map fun y' => .seq x' y'
  | .cond c a b, .cond _ x y => (cc P own a x).bind fun x' => (cc P own b y).map fun y' => .cond c x' y'
  | .block id a, .block _ x => (cc P own a x).map (.block id ·)
  | .loop a, .loop clr x => (cc P own a x).map (.loop clr ·)
  | .exit id, .exit _ => some (.exit id)
  | .ret, .ret => some .ret
  | _, _ => none
def toExit : AExit → Exit
  | .normal => .normal
  | .exit id => .exit id
  | .ret => .ret
structure Base where
  M : Nat → Prop
  σ : St
  ν : Nat → Value
  w : World
  d : List Deferred
def At (B : Base) (env : Env) (σ : St) (a : Act) (w : World) : Prop :=
  ∃ M ν, Good M σ ν w ∧ Later B.M B.σ B.ν B.w M σ ν w ∧ EnvR M (RefOK σ ν) w env a ∧ a.defers = B.d
section
variable {P : Program} {B : Base} {env : Env} {σ : St} {a : Act} {w : World}
theorem tmpA_set (env : Env) (s : Tmp) (r : AV) (t : Tmp) : tmpA (env.set s r) t = if s = t then (if t < env.length then r else .any) else tmpA env t := by
  have := tmpA_put env (some s) r t
  simpa [putA] using this
theorem At.set {r : AV} {t : Tmp} (h : At B env σ a w) (hr : ∀ M ν, Good M σ ν w → EnvR M (RefOK σ ν) w env a → Rep M (RefOK σ ν) w r (a.tmps.getD t undef)) : At B (env.set t r) σ a w := by
  obtain ⟨M, ν, g, l, e, d⟩ := h
  refine ⟨M, ν, g, l, ⟨by simpa using e.len, fun s => ?_⟩, d⟩
  rw [tmpA_set]
  split
  · rename_i hts; subst hts
    split
    · exact hr M ν g e
    · exact .any _
  · exact e.rep s
theorem At.clear (h : At B env σ a w) : ∀ ts, At B (clearA env ts) σ a w := by
  intro ts
  induction ts generalizing env with
  | nil => exact h
  | cons t ts ih => exact ih (h.set fun _ _ _ _ => .any _)
theorem Good.recell {M : Nat → Prop} {ν : Nat → Value} (g : Good M σ ν w) {l k : Nat} {cs : List AV} {x : AV} (hs : σ[l]? = some (.box cs))
    (hx : ∀ b o c e fr v, ν l = .pointer (some ⟨b, o, none⟩) → w.heap[b]? = some (.cells c e fr) → c[o + k]? = some v → (∀ c, cs[k]? = some c → Rep M (RefOK σ ν) w c v) → Rep M (RefOK σ ν) w x v) :
    Good M (σ.set l (.box (cs.set k x))) ν w ∧ Later M σ ν w M (σ.set l (.box (cs.set k x))) ν w := by
  obtain ⟨b', o', c, el, fr, e', hM, hh, hsz, hf, hr⟩ := (g.ob l _ hs).box_inv
  refine g.update hs (by simp) _ (fun _ _ => rfl) (Nat.le_refl _) (fun _ _ _ => rfl) (fun _ _ h => h) (fun _ h _ => h) (fun b h => g.lt b h) (fun _ b h => .inl h) (fun _ _ h => h.set_box hs) ?_
  rw [e']
  refine .box _ b' o' c el fr hM hh (by rw [List.length_set]; exact hsz) (fun j hj => hf j (by rw [List.length_set] at hj; exact hj)) (fun j hj v hv => ?_)
  rw [List.length_set] at hj
  have old := hr j hj v hv
  have key : Rep M (RefOK σ ν) w ((cs.set k x)[j]'(by rw [List.length_set]; exact hj)) v := by
    rw [List.getElem_set]
    split
    · rename_i e
      subst e
      exact hx b' o' c el fr v e' hh hv (fun c hc => by rw [List.getElem?_eq_getElem hj] at hc; cases hc; exact old)
    · exact old
  exact key.mono (fun b _ hm => ⟨hm, rfl⟩) fun _ _ h => h.set_box hs
theorem Good.die {M : Nat → Prop} {ν : Nat → Value} (g : Good M σ ν w) {l : Nat} {o : Ob} (hs : σ[l]? = some o) (hd : o ≠ .dead) :
    Good (fun k => M k ∧ blk (ν l) ≠ some k) (σ.set l .dead) ν w ∧ Later M σ ν w (fun k => M k ∧ blk (ν l) ≠ some k) (σ.set l .dead) ν w :=
  g.update hs hd .dead (fun _ _ => rfl) (Nat.le_refl _) (fun _ _ _ => rfl) (fun _ _ h => h.1) (fun _ h h' => ⟨h, h'⟩) (fun b h => g.lt b h.1) (fun h => absurd rfl h) (fun _ _ h => h.set_dead hs) (.dead _)
theorem sealV_ok {M : Nat → Prop} {ν : Nat → Value} {x x' : AV} {σ' : St} {v : Value} (g : Good M σ ν w) (h : sealV σ x = some (x', σ')) (hr : Rep M (RefOK σ ν) w x v) :
    ∃ M', Good M' σ' ν w ∧ Later M σ ν w M' σ' ν w ∧ Rep M' (RefOK σ' ν) w x' v := by
  have same : x' = x → σ' = σ → ∃ M', Good M' σ' ν w ∧ Later M σ ν w M' σ' ν w ∧ Rep M' (RefOK σ' ν) w x' v := by
    rintro rfl rfl; exact ⟨M, g, .refl, hr⟩
  unfold sealV at h
  split at h
  · rename_i l n
    split at h
    · rename_i sz xs hs
      split at h
      · rename_i hn
        simp at h; obtain ⟨rfl, rfl⟩ := h
        obtain ⟨g', l'⟩ := g.die hs (by simp)
        refine ⟨_, g', l', ?_⟩
        obtain ⟨a, len, cap, rfl, hR⟩ := hr.osl_inv
        have e := hR.s_row hs hn
        rcases (g.ob l _ hs).row_inv with ⟨e3, rfl⟩ | ⟨b, o, cap2, c, el, fr, e3, hM, hh, hlen, hsz, hf, hrow⟩
        · rw [e3] at e; simp at e; obtain ⟨rfl, rfl, rfl⟩ := e; exact .sl0 _ _ _
        · have e4 := e
          rw [e3] at e; simp at e; obtain ⟨rfl, rfl, rfl⟩ := e
          refine .sl sz xs b o cap (fun i j => c[o + (i * sz + j)]?.getD undef) hlen (fun i j hi hj => ?_) (fun i j hi hj => ?_)
          · obtain ⟨q1, _⟩ := hrow i j hi hj
            have hlt := idx_lt (i := i) (k := cap) (by omega) q1
            refine ⟨q1, fun x => x.2 (by rw [e3]; rfl), ?_⟩
            rw [cell_of_row _ _ _ _ _ _ hh]; simp [show o + (i * sz + j) < c.size by omega]
          · obtain ⟨q1, q2⟩ := hrow i j hi hj
            have hlt := idx_lt (i := i) (k := cap) (by omega) q1
            exact l'.rep g (q2 _ (by simp [show o + (i * sz + j) < c.size by omega]))
      · cases h
    · cases h
  · rename_i l
    split at h
    · rename_i cs hs
      simp at h; obtain ⟨rfl, rfl⟩ := h
      obtain ⟨g', l'⟩ := g.die hs (by simp)
      refine ⟨_, g', l', ?_⟩
      obtain ⟨b, o, rfl, hR⟩ := hr.ptr_inv
      have e := hR.p_box hs
      obtain ⟨b', o', c, el, fr, e', hM, hh, hsz, hf, hx⟩ := (g.ob l _ hs).box_inv
      rw [e'] at e; simp at e; obtain ⟨rfl, rfl⟩ := e
      refine .rp cs b o (fun j => c[o + j]?.getD undef) (fun j hj => ⟨fun x => x.2 (by rw [e']; rfl), ?_⟩) (fun j hj => ?_)
      · rw [cell_of_row _ _ _ _ _ _ hh]; simp [show o + j < c.size by omega]
      · exact l'.rep g (hx j hj _ (by simp [show o + j < c.size by omega]))
    · cases h
  · simp at h; exact same h.1.symm h.2.symm
theorem sealL_ok {ν : Nat → Value} : ∀ (xs : List AV) {M : Nat → Prop} {σ : St} {xs' : List AV} {σ' : St} {vs : List Value}, Good M σ ν w → sealL σ xs = some (xs', σ') → Reps M (RefOK σ ν) w xs vs →
    ∃ M', Good M' σ' ν w ∧ Later M σ ν w M' σ' ν w ∧ Reps M' (RefOK σ' ν) w xs' vs := by
  intro xs
  induction xs with
  | nil =>
    intro M σ xs' σ' vs g h hr
    simp [sealL] at h; obtain ⟨rfl, rfl⟩ := h
    exact ⟨M, g, .refl, hr⟩
  | cons x xs ih =>
    intro M σ xs' σ' vs g h hr
    cases vs with
    | nil => simp [Reps] at hr
    | cons v vs =>
      simp only [sealL] at h
      split at h
      · rename_i x1 σ1 hx
        split at h
        · rename_i xs2 σ2 hxs
          simp at h; obtain ⟨rfl, rfl⟩ := h
          obtain ⟨M1, g1, l1, r1⟩ := sealV_ok g hx hr.head
          obtain ⟨M2, g2, l2, r2⟩ := ih g1 hxs (l1.reps g hr.tail)
          exact ⟨M2, g2, l1.trans l2, .cons (l2.rep g1 r1) r2⟩
        · cases h
      · cases h
theorem RefOK.take {ν : Nat → Value} {m : Nat} {r : Ref} {v : Value} (h : RefOK (σ.take m) ν r v) : RefOK σ ν r v := by
  have key : ∀ (l : Nat) (o : Ob), (σ.take m)[l]? = some o → σ[l]? = some o := by
    intro l o h
    rw [List.getElem?_take] at h
    split at h
    · exact h
    · cases h
  cases r with
  | p l => simp only [RefOK] at h ⊢; cases ho : (σ.take m)[l]? with
    | none => simp [ho] at h
    | some o => rw [ho] at h; rw [key l o ho]; exact h
  | s l n => simp only [RefOK] at h ⊢; cases ho : (σ.take m)[l]? with
    | none => simp [ho] at h
    | some o => rw [ho] at h; rw [key l o ho]; exact h
  | e l n i => simp only [RefOK] at h ⊢; cases ho : (σ.take m)[l]? with
    | none => simp [ho] at h
    | some o => rw [ho] at h; rw [key l o ho]; exact h
theorem RefOK.of_take {ν : Nat → Value} {m : Nat} {r : Ref} {v : Value} (h : RefOK σ ν r v) (hr : ∀ l, (r = .p l ∨ (∃ n, r = .s l n) ∨ ∃ n i, r = .e l n i) → l < m) : RefOK (σ.take m) ν r v := by
  have key : ∀ l, l < m → (σ.take m)[l]? = σ[l]? := fun l hl => by rw [List.getElem?_take, if_pos hl]
  cases r with
  | p l => simp only [RefOK] at h ⊢; rw [key l (hr l (.inl rfl))]; exact h
  | s l n => simp only [RefOK] at h ⊢; rw [key l (hr l (.inr (.inl ⟨n, rfl⟩)))]; exact h
  | e l n i => simp only [RefOK] at h ⊢; rw [key l (hr l (.inr (.inr ⟨n, i, rfl⟩)))]; exact h
theorem Rep.take {M : Nat → Prop} {ν : Nat → Value} {m : Nat} {x : AV} {v : Value} (h : Rep M (RefOK σ ν) w x v) (hb : Bel m x) : Rep M (RefOK (σ.take m) ν) w x v := by
  induction h with
  | any v => exact .any v
  | pl v => exact .pl v
  | nils => exact .nils
  | sl0 sz a cap => exact .sl0 sz a cap
  | sl sz xs b o cap f hcap hc _ ih =>
    cases hb with
    | sl _ _ hb =>
      refine .sl sz xs b o cap f hcap hc fun i j hi hj => ih i j hi hj ?_
      have hx := hb i hi
      have : ∀ y ∈ (xs[i]).cells, Bel m y := by
        intro y hy
        generalize xs[i] = x at *
        cases x <;> simp only [AV.cells, List.mem_singleton] at hy <;> try (subst hy; exact hx)
        cases hx with
        | agg _ h => exact Bel.list h y hy
      exact this _ (List.getElem_mem hj)
  | rp cs b o f hc _ ih =>
    cases hb with
    | rp _ hb => exact .rp cs b o f hc fun j hj => ih j hj (hb j hj)
  | ptr l off b o h =>
    cases hb with
    | ptr _ _ hl => exact .ptr l off b o (h.of_take fun k hk => by rcases hk with e | ⟨n, e⟩ | ⟨n, i, e⟩ <;> cases e; exact hl)
  | osl l n a len cap h =>
    cases hb with
    | osl _ _ hl => exact .osl l n a len cap (h.of_take fun k hk => by rcases hk with e | ⟨n, e⟩ | ⟨n, i, e⟩ <;> cases e; exact hl)
  | ep l n i off b o h =>
    cases hb with
    | ep _ _ _ _ hl => exact .ep l n i off b o (h.of_take fun k hk => by rcases hk with e | ⟨n, e⟩ | ⟨n, i, e⟩ <;> cases e; exact hl)
  | psl l off n b o h =>
    cases hb with
    | psl _ _ _ hl => exact .psl l off n b o (h.of_take fun k hk => by rcases hk with e | ⟨n, e⟩ | ⟨n, i, e⟩ <;> cases e; exact hl)
  | zsl a => exact .zsl a
  | win sz l n lo b o cap hl0 h =>
    cases hb with
    | win _ _ _ _ hl => exact .win sz l n lo b o cap hl0 (h.of_take fun k hk => by rcases hk with e | ⟨n, e⟩ | ⟨n, i, e⟩ <;> cases e; exact hl)
  | agg cs vs hl _ ih =>
    cases hb with
    | agg _ hb => exact .agg cs vs hl fun j hj hj' => ih j hj hj' (hb j hj)
  | tup cs vs hl _ ih =>
    cases hb with
    | tup _ hb => exact .tup cs vs hl fun j hj hj' => ih j hj hj' (hb j hj)
  | fn g fs cs us vs hl hl' _ _ ih ih' =>
    cases hb with
    | fn _ _ _ hb hb' => exact .fn g fs cs us vs hl hl' (fun j hj hj' => ih j hj hj' (hb j hj)) (fun j hj hj' => ih' j hj hj' (hb' j hj))
theorem cells_bel {m : Nat} {x : AV} (h : Bel m x) : ∀ y ∈ x.cells, Bel m y := by
  intro y hy
  cases x <;> simp only [AV.cells, List.mem_singleton] at hy <;> try (subst hy; exact h)
  cases h with
  | agg _ h => exact Bel.list h y hy
theorem ObOK.take {M : Nat → Prop} {ν : Nat → Value} {m : Nat} {o : Ob} {v : Value} (h : ObOK M (RefOK σ ν) w o v) (hb : BelO m o) : ObOK M (RefOK (σ.take m) ν) w o v := by
  cases h with
  | dead => exact .dead _
  | box cs b o c e fr hM hh hs hf hr => exact .box cs b o c e fr hM hh hs hf fun j hj v hv => (hr j hj v hv).take (hb _ (List.getElem_mem hj))
  | glo g vs v hv2 hv3 hc => exact .glo g vs v hv2 hv3 hc
  | row0 => exact .row0 _
  | row sz xs b o cap c e fr hM hh hl hs hf hr =>
    exact .row sz xs b o cap c e fr hM hh hl hs hf fun i j hi hj => ⟨(hr i j hi hj).1, fun v hv => ((hr i j hi hj).2 v hv).take (cells_bel (hb _ (List.getElem_mem hi)) _ (List.getElem_mem hj))⟩
theorem live_take {m l : Nat} (h : live (σ.take m) l) : live σ l := by
  obtain ⟨o, ho, hd⟩ := h
  rw [List.getElem?_take] at ho
  split at ho
  · exact ⟨o, ho, hd⟩
  · cases ho
theorem Good.take {M : Nat → Prop} {ν : Nat → Value} {m : Nat} (g : Good M σ ν w) (hb : ∀ o ∈ σ.take m, BelO m o) : Good M (σ.take m) ν w where
  ob l o ho := by
    have ho' := ho
    rw [List.getElem?_take] at ho'
    split at ho'
    · exact (g.ob l o ho').take (hb o (List.mem_of_getElem? ho))
    · cases ho'
  lt := g.lt
  apart l l' b h1 h2 := g.apart l l' b (live_take h1) (live_take h2)
theorem Later.take {M M' : Nat → Prop} {σ0 σ : St} {ν0 ν : Nat → Value} {w0 w : World} {m : Nat} (h : Later M σ0 ν0 w0 M' σ ν w) (hm : σ0.length ≤ m) : Later M σ0 ν0 w0 M' (σ.take m) ν w where
  size := h.size
  keep := h.keep
  mute := h.mute
  outer := h.outer
  out := h.out
  own b hb x := by
    obtain ⟨l, h1, h2⟩ := x
    exact h.own b hb ⟨l, live_take h1, h2⟩
  evo r v x := by
    refine (h.evo r v x).of_take fun l hl => ?_
    have : l < σ0.length := by
      rcases hl with rfl | ⟨n, rfl⟩ | ⟨n, i, rfl⟩ <;>
        (simp only [RefOK] at x
         cases ho : σ0[l]? with
         | none => simp [ho] at x
         | some o => exact (List.getElem?_eq_some_iff.1 ho).1)
    omega
theorem Good.void {M : Nat → Prop} {ν : Nat → Value} (g : Good M σ ν w) (sz : Nat) :
    ∃ ν', Good M (σ ++ [.row sz []]) ν' w ∧ Later M σ ν w M (σ ++ [.row sz []]) ν' w ∧ Rep M (RefOK (σ ++ [.row sz []]) ν') w (.osl σ.length 0) (.slice none 0 0) := by
  let ν' : Nat → Value := fun k => if k = σ.length then .slice none 0 0 else ν k
  have hnew : ν' σ.length = .slice none 0 0 := by simp [ν']
  have hνo : ∀ k, k < σ.length → ν' k = ν k := fun k hk => by simp [ν', Nat.ne_of_lt hk]
  have hget : ∀ k o', σ[k]? = some o' → (σ ++ [.row sz []])[k]? = some o' ∧ k < σ.length := fun k o' h => by
    have hk := (List.getElem?_eq_some_iff.1 h).1
    exact ⟨by rw [List.getElem?_append_left hk]; exact h, hk⟩
  have evo : ∀ r v, RefOK σ ν r v → RefOK (σ ++ [.row sz []]) ν' r v := fun r v h => RefOK.ext (fun k o' hk => ⟨(hget k o' hk).1, hνo k (hget k o' hk).2⟩) h
  have hlt : ∀ k, live (σ ++ [.row sz []]) k → k < σ.length ∨ k = σ.length := fun k ⟨o', ho, _⟩ => by
    have := (List.getElem?_eq_some_iff.1 ho).1
    simp at this; omega
  have hlive : ∀ k, k < σ.length → live (σ ++ [.row sz []]) k → live σ k := fun k hk ⟨o', ho, hod⟩ => ⟨o', by rwa [List.getElem?_append_left hk] at ho, hod⟩
  have hb0 : blk (ν' σ.length) = none := by rw [hnew]; rfl
  refine ⟨ν', ⟨?_, g.lt, ?_⟩, ⟨Nat.le_refl _, fun _ _ _ => rfl, fun _ _ h => h, fun _ _ h _ => h, ?_, evo, rfl, rfl⟩, .osl _ _ _ _ _ ?_⟩
  · intro k o' ho
    by_cases hk : k < σ.length
    · rw [List.getElem?_append_left hk] at ho
      rw [hνo k hk]
      exact (g.ob k o' ho).mono (fun b _ hm => ⟨hm, rfl⟩) evo fun b _ _ hm => ⟨hm, rfl⟩
    · have hk2 : k = σ.length := by
        have := (List.getElem?_eq_some_iff.1 ho).1
        simp at this; omega
      subst hk2
      simp at ho; subst ho
      rw [hnew]; exact .row0 _
  · intro k k' b h1 h2 e1 e2
    rcases hlt k h1 with hk | hk <;> rcases hlt k' h2 with hk' | hk'
    · rw [hνo k hk] at e1; rw [hνo k' hk'] at e2
      exact g.apart k k' b (hlive k hk h1) (hlive k' hk' h2) e1 e2
    · subst hk'; rw [hb0] at e2; cases e2
    · subst hk; rw [hb0] at e1; cases e1
    · omega
  · rintro b hb ⟨k, hk, e⟩
    rcases hlt k hk with h | h
    · rw [hνo k h] at e; exact ⟨k, hlive k h hk, e⟩
    · subst h; rw [hb0] at e; cases e
  · simp [RefOK, hnew]
theorem gh_sound {g : Ghost} {K : Env → St → Prop} (h : gh B.σ.length g env σ K) (hA : At B env σ a w) : ∃ env' σ', K env' σ' ∧ At B env' σ' a w := by
  cases g with
  | clear ts => exact ⟨_, _, h, hA.clear ts⟩
  | shut t =>
    simp only [gh] at h
    obtain ⟨M, ν, g, l, e, d⟩ := hA
    have hr := e.rep t
    have fin : ∀ {v' : AV} {σ' : St} {M' : Nat → Prop}, Good M' σ' ν w → Later M σ ν w M' σ' ν w → Rep M' (RefOK σ' ν) w v' (a.tmps.getD t undef) → At B (env.set t v') σ' a w := by
      intro v' σ' M' g' l' r'
      have e' := l'.env g e
      refine ⟨M', ν, g', l.trans l', ⟨by simpa using e'.len, fun s => ?_⟩, d⟩
      rw [tmpA_set]
      split
      · rename_i hts; subst hts
        split
        · exact r'
        · exact .any _
      · exact e'.rep s
    split at h
    · rename_i cs hcs
      split at h
      · rename_i cs' σ' hs
        rw [hcs] at hr
        obtain ⟨vs, hv, hrs⟩ := hr.agg_inv
        obtain ⟨M', g', l', r'⟩ := sealL_ok cs g hs hrs
        exact ⟨_, _, h, fin g' l' (by rw [hv]; exact .of_agg r')⟩
      · exact h.elim
    · split at h
      · rename_i v' σ' hs
        obtain ⟨M', g', l', r'⟩ := sealV_ok g hs hr
        exact ⟨_, _, h, fin g' l' r'⟩
      · exact h.elim
  | own t sz =>
    simp only [gh] at h
    obtain ⟨M, ν, g, l, e, d⟩ := hA
    have hr := e.rep t
    split at h
    · rename_i hn
      rw [hn] at hr
      have hv := hr.nils_inv
      obtain ⟨ν', g', l', r'⟩ := g.void sz
      have e' := l'.env g e
      refine ⟨_, _, h, M, ν', g', l.trans l', ⟨by simpa using e'.len, fun s => ?_⟩, d⟩
      rw [tmpA_set]
      split
      · rename_i hts; subst hts
        split
        · rw [hv]; exact r'
        · exact .any _
      · exact e'.rep s
    · exact h.elim
  | keep j =>
    simp only [gh] at h
    obtain ⟨h1, h2, h3, h4⟩ := h
    obtain ⟨M, ν, g, l, e, d⟩ := hA
    refine ⟨_, _, h4, M, ν, g.take h2, l.take (by omega), ⟨e.len, fun t => (e.rep t).take ?_⟩, d⟩
    unfold tmpA
    rw [List.getD_eq_getElem?_getD]
    cases ht : env[t]? with
    | none => exact .any
    | some v => exact h1 v (List.mem_of_getElem? ht)
  | weak t sz =>
    refine ⟨_, _, h, hA.set fun M ν g e => ?_⟩
    have hr := e.rep t
    generalize a.tmps.getD t undef = v at hr ⊢
    generalize tmpA env t = x at hr ⊢
    unfold weakA
    split
    · rw [hr.nils_inv]; exact .sl0 _ _ _
    · cases hr; exact .sl0 _ _ _
    · exact hr
  | shutc t j sz =>
    simp only [gh] at h
    obtain ⟨M, ν, g, l, e, d⟩ := hA
    split at h
    · rename_i σ' hs
      refine ⟨_, _, h, ?_⟩
      clear h
      generalize tmpA env t = x at hs
      unfold shutcA at hs
      split at hs
      · rename_i k off
        split at hs
        · rename_i cs hbox
          split at hs
          · rename_i l2 n hcell
            split at hs
            · rename_i sz' xs hrow
              split at hs
              · rename_i hn
                obtain ⟨hn, hne⟩ := hn
                simp only [Option.some.injEq] at hs
                subst hs
                have hsv : sealV σ (.osl l2 n) = some (.sl sz' xs, σ.set l2 .dead) := by simp only [sealV, hrow, hn, if_true]
                have hbox2 : (σ.set l2 .dead)[k]? = some (.box cs) := by rw [List.getElem?_set_ne hne]; exact hbox
                obtain ⟨b', o', c, el, fr, e', hM, hh, hsz, hf, hr⟩ := (g.ob k _ hbox).box_inv
                obtain ⟨hlt, hget⟩ := List.getElem?_eq_some_iff.1 hcell
                have hcv : c[o' + (off + j)]? = some (c[o' + (off + j)]'(by omega)) := by simp [show o' + (off + j) < c.size by omega]
                have hrep := hr (off + j) hlt _ hcv
                rw [hget] at hrep
                obtain ⟨M2, g2, l2', r2⟩ := sealV_ok g hsv hrep
                have g3 := g2.recell (k := off + j) (x := .sl sz' xs) hbox2 (fun b2 o2 c2 el2 fr2 v e2 hh2 hv2 _ => by
                  rw [e'] at e2
                  simp only [Value.pointer.injEq, Option.some.injEq, Addr.mk.injEq, and_true] at e2
                  obtain ⟨rfl, rfl⟩ := e2
                  rw [hh] at hh2
                  cases hh2
                  rw [hcv] at hv2
                  cases hv2
                  exact r2)
                exact ⟨M2, ν, g3.1, (l.trans l2').trans g3.2, g3.2.env g2 (l2'.env g e), d⟩
              · cases hs
            · cases hs
          · rename_i hcell
            simp only [Option.some.injEq] at hs
            subst hs
            have g3 := g.recell (k := off + j) (x := .sl sz []) hbox (fun _ _ _ _ _ v _ _ _ hv => by
              have h1 := hv _ hcell
              rw [h1.nils_inv]; exact .sl0 _ _ _)
            exact ⟨M, ν, g3.1, l.trans g3.2, g3.2.env g e, d⟩
          · cases hs
        · cases hs
      · cases hs
    · exact h.elim
def InLoop (P : Program) (c : Code) (Q : Exit → Act → World → Prop) (a : Act) (w : World) : Prop :=
  ∀ (b : Frame) (k : List Item) (cs : List Frame), ∃ e a' w', Q e a' w' ∧ Arrives P (lone (b.at a (.code c :: .inLoop c :: k)) cs w) b k cs e a' w'
theorem wp_of_inLoop {c : Code} {Q : Exit → Act → World → Prop} (h : InLoop P c Q a w) : (Code.loop c).wp P Q a w := by
  intro b k cs
  obtain ⟨e, a', w', hq, harr⟩ := h b k cs
  exact ⟨e, a', w', hq, .of_steps (.one step_loop) harr⟩
theorem inLoop_of_wp {c : Code} {Q : Exit → Act → World → Prop} (h : c.wp P (Exit.then (InLoop P c Q) Q) a w) : InLoop P c Q a w := by
  intro b k cs
  obtain ⟨e, a₁, w₁, hq, harr⟩ := h b (.inLoop c :: k) cs
  cases e with
  | normal =>
    obtain ⟨e₂, a₂, w₂, hq₂, harr₂⟩ := hq b k cs
    exact ⟨e₂, a₂, w₂, hq₂, .of_steps (Steps.trans harr (.one step_inLoop)) harr₂⟩
  | exit id => exact ⟨_, a₁, w₁, hq, .pass (x := .inLoop c) rfl (fun _ _ => .inl (by simp)) harr⟩
  | goto l => exact ⟨_, a₁, w₁, hq, .pass (x := .inLoop c) rfl (fun _ _ => .inl (by simp)) harr⟩
  | ret => exact ⟨_, a₁, w₁, hq, .pass (x := .inLoop c) rfl (fun _ _ => .inl (by simp)) harr⟩
  | panic ch => exact ⟨_, a₁, w₁, hq, .pass (x := .inLoop c) rfl (fun _ _ => .inl (by simp)) harr⟩
  | outgrown => exact ⟨_, a₁, w₁, hq, .pass (x := .inLoop c) rfl (fun _ _ => .inl (by simp)) harr⟩
theorem At.of_later {M' : Nat → Prop} {ν' : Nat → Value} {M : Nat → Prop} {ν : Nat → Value} {σ' : St} {env' : Env} {a' : Act} {w' : World} (l : Later B.M B.σ B.ν B.w M σ ν w) (d : a.defers = B.d)
    (g' : Good M' σ' ν' w') (l' : Later M σ ν w M' σ' ν' w') (e' : EnvR M' (RefOK σ' ν') w' env' a') (d' : a'.defers = a.defers) : At B env' σ' a' w' :=
  ⟨M', ν', g', l.trans l', e', d'.trans d⟩
theorem ax_sound {own : List Tmp} (hm : P.follows .mixedOrders = true) : ∀ (x : ACode) (c : Code) (KA : AExit → Env → St → Prop) (Q : Exit → Act → World → Prop) (env : Env) (σ : St) (a : Act) (w : World),
    cc P own c x = some x → ax P B.σ.length x KA env σ → At B env σ a w → (∀ e env' σ' a' w', KA e env' σ' → At B env' σ' a' w' → Q (toExit e) a' w') → c.wp P Q a w := by
  intro x
  induction x with
  | skip =>
    intro c KA Q env σ a w hc hx hA hK
    cases c <;> simp [cc] at hc
    · exact wp_skip (hK .normal env σ a w hx hA)
  | ops l =>
    intro c KA Q env σ a w hc hx hA hK
    cases c with
    | region id ops dr => _
    | _ => simp [cc] at hc
    obtain ⟨ops⟩ := ops
    cases dr <;> simp only [cc] at hc <;> try cases hc
    obtain ⟨l', hl', hc⟩ := opt_map_some hc
    simp at hc; subst hc
    obtain ⟨M, ν, g, lt, e, d⟩ := hA
    exact wp_region_list (axops_sound _ _ l' env σ M ν w a (Nat.le_refl _) hl' hx g e fun env' σ' M' ν' w' a' hk g' lt' e' d' => hK .normal env' σ' a' w' hk (.of_later lt d g' lt' e' d'))
  | draw ds =>
    intro c KA Q env σ a w hc hx hA hK
    cases c with
    | region id ops dr => _
    | _ => simp [cc] at hc
    obtain ⟨ops⟩ := ops
    cases dr <;> simp only [cc] at hc <;> try cases hc
    obtain ⟨ds', hz, hc⟩ := opt_bind_some hc
    split at hc
    · rename_i hok
      simp only [Bool.and_eq_true] at hok
      simp at hc; subst hc
      obtain ⟨M, ν, g, lt, e, d⟩ := hA
      exact draw_sound hm (compDs_at hz) hok.1 hok.2 hx g e fun env' σ' M' ν' w' a' hk g' lt' e' d' => hK .normal env' σ' a' w' hk (.of_later lt d g' lt' e' d')
    · cases hc
  | seq x y ihx ihy =>
    intro c KA Q env σ a w hc hx hA hK
    cases c <;> simp only [cc] at hc <;> try cases hc
    obtain ⟨x', hx', hc⟩ := opt_bind_some hc
    obtain ⟨y', hy', hc⟩ := opt_map_some hc
    simp at hc; obtain ⟨rfl, rfl⟩ := hc
    refine wp_seq (ihx _ _ _ env σ a w hx' hx hA fun e env' σ' a' w' hk hA' => ?_)
    cases e with
    | normal => exact ihy _ KA Q env' σ' a' w' hy' hk hA' hK
    | exit id => exact hK (.exit id) env' σ' a' w' hk hA'
    | ret => exact hK .ret env' σ' a' w' hk hA'
  | cond _ x y ihx ihy =>
    intro c KA Q env σ a w hc hx hA hK
    cases c with
    | cond cnd p q => _
    | _ => simp [cc] at hc
    simp only [cc] at hc
    obtain ⟨x', hx', hc⟩ := opt_bind_some hc
    obtain ⟨y', hy', hc⟩ := opt_map_some hc
    simp at hc; obtain ⟨rfl, rfl, rfl⟩ := hc
    have hp : ∀ t, boolA (aev env cnd) = some t → a.eval cnd = .bool t := by
      intro t ht
      obtain ⟨M, ν, g, lt, e, d⟩ := hA
      exact boolA_inv ht (e.parts cnd)
    simp only [ax] at hx
    split at hx
    · rename_i hb; exact wp_cond_true (hp _ hb) (ihx _ KA Q env σ a w hx' hx hA hK)
    · rename_i hb; exact wp_cond_false (hp _ hb) (ihy _ KA Q env σ a w hy' hx hA hK)
    · exact hx.elim
  | block id x ihx =>
    intro c KA Q env σ a w hc hx hA hK
    cases c <;> simp only [cc] at hc <;> try cases hc
    obtain ⟨x', hx', hc⟩ := opt_map_some hc
    simp at hc; obtain ⟨rfl, rfl⟩ := hc
    refine wp_block (ihx _ _ _ env σ a w hx' hx hA fun e env' σ' a' w' hk hA' => ?_)
    cases e with
    | normal => exact hK .normal env' σ' a' w' hk hA'
    | exit j =>
      simp only at hk
      simp only [toExit, Exit.inBlock]
      split at hk
      · rename_i hj; rw [if_pos hj]; exact hK .normal env' σ' a' w' hk hA'
      · rename_i hj; rw [if_neg hj]; exact hK (.exit j) env' σ' a' w' hk hA'
    | ret => exact hK .ret env' σ' a' w' hk hA'
  | loop clr x ihx =>
    intro c KA Q env σ a w hc hx hA hK
    cases c with
    | loop body => _
    | _ => simp [cc] at hc
    simp only [cc] at hc
    obtain ⟨x', hx', hc⟩ := opt_map_some hc
    simp at hc; obtain ⟨rfl⟩ := hc
    refine wp_of_inLoop (hx (fun env σ => ∀ a w, At B env σ a w → InLoop P body Q a w) ?_ a w (hA.clear clr))
    intro env' σ' hF a' w' hA'
    refine inLoop_of_wp (ihx _ _ _ env' σ' a' w' hx' hF hA' fun e env2 σ2 a2 w2 hk hA2 => ?_)
    cases e with
    | normal => exact hk a2 w2 (hA2.clear clr)
    | exit id => exact hK (.exit id) env2 σ2 a2 w2 hk hA2
    | ret => exact hK .ret env2 σ2 a2 w2 hk hA2
  | exit id =>
    intro c KA Q env σ a w hc hx hA hK
    cases c <;> simp only [cc] at hc <;> try cases hc
    exact wp_exit (hK (.exit _) env σ a w hx hA)
  | ret =>
    intro c KA Q env σ a w hc hx hA hK
    cases c <;> simp only [cc] at hc <;> try cases hc
    exact wp_ret (hK .ret env σ a w hx hA)
  | ghost g x ihx =>
    intro c KA Q env σ a w hc hx hA hK
    unfold cc at hc
    obtain ⟨x', hx', hc⟩ := opt_map_some hc
    simp at hc; subst hc
    obtain ⟨env', σ', hk, hA'⟩ := gh_sound hx hA
    exact ihx c KA Q env' σ' a w hx' hk hA' hK
  | after x g ihx =>
    intro c KA Q env σ a w hc hx hA hK
    unfold cc at hc
    obtain ⟨x', hx', hc⟩ := opt_map_some hc
    simp at hc; subst hc
    refine ihx c _ Q env σ a w hx' hx hA fun e env' σ' a' w' hk hA' => ?_
    cases e with
    | normal =>
      obtain ⟨env2, σ2, hk2, hA2⟩ := gh_sound hk hA'
      exact hK .normal env2 σ2 a' w' hk2 hA2
    | exit id => exact hK (.exit id) env' σ' a' w' hk hA'
    | ret => exact hK .ret env' σ' a' w' hk hA'
end
end Go.Ab
namespace Go.Ab
open Go
inductive RV where
  | tmp (t : Tmp)
  | cell (a : Tmp) (n : Nat) (ag : Bool)
def rvOf (P : Program) : ResultVar → Option RV
  | .tmp t => some (.tmp t)
  | .cell a t => (szOf P t).bind fun n => (agOf P t).map fun ag => .cell a n ag
def rvA (env : Env) (σ : St) : RV → Option AV
  | .tmp t => some (tmpA env t)
  | .cell a n ag => match tmpA env a with
    | .any => none
    | x => loadA σ n ag x
def oneOf : List AV → AV
  | [x] => x
  | xs => .tup xs
def resA (env : Env) (σ : St) (rvs : List RV) : Option AV := (allSome (rvs.map (rvA env σ))).map oneOf
def Fini (n0 : Nat) (rvs : List RV) (r : AV) (σ' : St) : AExit → Env → St → Prop
  | .exit _, _, _ => False
  | _, env, σ => ∃ r1 σ1, resA env σ rvs = some r1 ∧ r1 = r ∧ σ1 = σ ∧ (σ' = σ1 ∨ (n0 ≤ σ'.length ∧ σ' = σ1.take σ'.length ∧ Bel σ'.length r ∧ ∀ o ∈ σ', BelO σ'.length o))
section
variable {P : Program} {M : Nat → Prop} {σ σ' : St} {ν : Nat → Value} {w : World} {R : Ref → Value → Prop}
theorem ptr_of_load {n : Nat} {ag : Bool} {a r : AV} {v : Value} (h : loadA σ n ag a = some r) (hr : Rep M R w a v) : ∃ x, v = .pointer (some x) := by
  cases a <;> simp [loadA] at h
  · obtain ⟨b, o, _, e, _⟩ := hr.rp_inv; exact ⟨_, e⟩
  · obtain ⟨b, o, e, _⟩ := hr.ptr_inv; exact ⟨_, e⟩
  · obtain ⟨b, o, e, _⟩ := hr.ep_inv; exact ⟨_, e⟩
theorem results_run {fn : Func} {rvs : List RV} {env : Env} {a : Act} {r : AV} (hrv : fn.results.toList.map (rvOf P) = rvs.map some) (h : resA env σ rvs = some r) (g : Good M σ ν w)
    (he : EnvR M (RefOK σ ν) w env a) : ∃ v, (results fn a.tmps).run P w = .ok v w ∧ Rep M (RefOK σ ν) w r v := by
  unfold resA at h
  obtain ⟨xs, hxs, rfl⟩ := opt_map_some h
  have hmap := allSome_map hxs
  have key : ∀ (l : List ResultVar) (rvs : List RV) (xs : List AV), l.map (rvOf P) = rvs.map some → rvs.map (rvA env σ) = xs.map some →
      ∃ vs : List Value, (∀ f : ResultVar → Sem Value, (∀ t, f (.tmp t) = pure (a.tmps.getD t undef)) → (∀ c t, f (.cell c t) = do loadVar t (← asAddr (a.tmps.getD c undef))) → (l.mapM f).run P w = .ok vs w) ∧ Reps M (RefOK σ ν) w xs vs := by
    intro l
    induction l with
    | nil =>
      intro rvs xs h1 h2
      cases rvs <;> simp at h1
      cases xs <;> simp at h2
      exact ⟨[], fun _ _ _ => rfl, .nil⟩
    | cons rv l ih =>
      intro rvs xs h1 h2
      cases rvs with
      | nil => simp at h1
      | cons q rvs =>
        cases xs with
        | nil => simp at h2
        | cons x xs =>
          simp only [List.map_cons, List.cons.injEq] at h1 h2
          obtain ⟨vs, hvs, hr⟩ := ih rvs xs h1.2 h2.2
          have hone : ∃ v, (∀ f : ResultVar → Sem Value, (∀ t, f (.tmp t) = pure (a.tmps.getD t undef)) → (∀ c t, f (.cell c t) = do loadVar t (← asAddr (a.tmps.getD c undef))) → (f rv).run P w = .ok v w) ∧ Rep M (RefOK σ ν) w x v := by
            cases rv with
            | tmp t =>
              simp [rvOf] at h1
              rw [← h1.1] at h2
              simp [rvA] at h2
              exact ⟨_, fun f q1 _ => by rw [q1]; rfl, by rw [← h2.1]; exact he.rep t⟩
            | cell c t =>
              simp only [rvOf] at h1
              obtain ⟨n, hn, h1a⟩ := opt_bind_some h1.1
              obtain ⟨ag, hag, rfl⟩ := opt_map_some h1a
              have h2a : loadA σ n ag (tmpA env c) = some x := by
                have := h2.1
                simp only [rvA] at this
                split at this
                · cases this
                · exact this
              obtain ⟨p, hp⟩ := ptr_of_load h2a (he.rep c)
              have hw : (Instr.loadAt t (a.tmps.getD c undef)).run P w = (do loadVar t (← asAddr (a.tmps.getD c undef)) : Sem Value).run P w := by
                rw [hp]; rfl
              obtain ⟨v, h3, h4⟩ := load_same (P := P) g hn hag (he.rep c) h2a
              exact ⟨v, fun f _ q2 => by rw [q2, ← hw]; exact h3, h4⟩
          obtain ⟨v, hv, hrv⟩ := hone
          refine ⟨v :: vs, fun f q1 q2 => ?_, .cons hrv hr⟩
          simp only [List.mapM_cons, Sem.run_bind, hv f q1 q2, Result.andThen, hvs f q1 q2, Sem.run_pure]
  obtain ⟨vs, hvs, hr⟩ := key _ rvs xs hrv hmap
  have hrun2 : ∀ (f : ResultVar → Sem Value), (∀ t, f (.tmp t) = pure (a.tmps.getD t undef)) → (∀ c t, f (.cell c t) = do loadVar t (← asAddr (a.tmps.getD c undef))) →
      ((do let us ← fn.results.mapM f; pure (if h : us.size = 1 then us[0] else .tuple us)) : Sem Value).run P w = .ok (if h : vs.toArray.size = 1 then vs.toArray[0] else .tuple vs.toArray) w := by
    intro f q1 q2
    rw [Array.mapM_eq_mapM_toList]
    simp only [Sem.run_bind, Sem.run_map, hvs f q1 q2, Result.andThen, Sem.run_pure]
  have hrun : (results fn a.tmps).run P w = .ok (if h : vs.toArray.size = 1 then vs.toArray[0] else .tuple vs.toArray) w := hrun2 _ (fun _ => rfl) (fun _ _ => rfl)
  refine ⟨_, hrun, ?_⟩
  match xs, vs, hr with
  | [], [], hr => exact .of_tup hr
  | [x], [v], hr => exact hr.head
  | x :: y :: xs, u :: v :: vs, hr => 
    simp only [List.size_toArray, List.length_cons]
    rw [dif_neg (by omega)]
    exact .of_tup hr
  | [], _ :: _, hr => simp [Reps] at hr
  | _ :: _, [], hr => simp [Reps] at hr
  | [_], _ :: _ :: _, hr => simp [Reps] at hr
  | _ :: _ :: _, [_], hr => simp [Reps] at hr
structure Text (P : Program) (f : FuncId) (own : List Tmp) (x : ACode) (rvs : List RV) (n : Nat) : Prop where
  fn : ∃ fn c, P.funcs[f]? = some fn ∧ (fn.name == "runtime.NumGoroutine") = false ∧ fn.body = some c ∧ cc P own c x = some x ∧ fn.results.toList.map (rvOf P) = rvs.map some ∧ fn.ntmps = n
  mixed : P.follows .mixedOrders = true
theorem Ans.of_ax {f : FuncId} {own : List Tmp} {x : ACode} {rvs : List RV} {n : Nat} {args : List AV} {r : AV} (ht : Text P f own x rvs n)
    (h : ax P σ.length x (Fini σ.length rvs r σ') (args ++ List.replicate (n - args.length) .any) σ) : Ans P f args σ r σ' := by
  obtain ⟨fn, c, hf, hname, hb, hcc, hrv, hn⟩ := ht.fn
  intro M ν w vs g hvs
  refine .inl ⟨⟨fn, hf, hname, by rw [hb]; rfl⟩, ?_⟩
  refine calls_of_wp hf hb ?_
  have hlen : args.length = vs.length := hvs.1
  have hA : At ⟨M, σ, ν, w, []⟩ (args ++ List.replicate (n - args.length) .any) σ { tmps := vs.toArray ++ Array.replicate (fn.ntmps - vs.toArray.size) undef, defers := [] } w := by
    refine ⟨M, ν, g, .refl, ⟨by simp [hlen, hn], fun t => ?_⟩, rfl⟩
    unfold tmpA
    rw [List.getD_eq_getElem?_getD]
    by_cases h1 : t < args.length
    · have h2 : t < vs.length := by omega
      rw [List.getElem?_append_left h1]
      simp only [Array.getD_eq_getD_getElem?]
      rw [Array.getElem?_append_left (by simpa using h2)]
      simpa [h1, h2] using hvs.2 t h1 h2
    · rw [List.getElem?_append_right (by omega)]
      by_cases h3 : t - args.length < n - args.length
      · simp [h3]; exact .any _
      · simp [h3]; exact .any _
  refine ax_sound ht.mixed x c _ _ _ σ _ w hcc h hA fun e env' σ1 a' w' hk hA' => ?_
  obtain ⟨M', ν', g', l', e', d'⟩ := hA'
  have fin : (∃ r1 s1, resA env' σ1 rvs = some r1 ∧ r1 = r ∧ s1 = σ1 ∧ (σ' = s1 ∨ (σ.length ≤ σ'.length ∧ σ' = s1.take σ'.length ∧ Bel σ'.length r ∧ ∀ o ∈ σ', BelO σ'.length o))) →
      a'.defers = [] ∧ ∃ v, (results fn a'.tmps).run P w' = .ok v w' ∧ ∃ v', Ending.returned v = .returned v' ∧ After M σ ν w r σ' v' w' := by
    rintro ⟨r1, s1, h1, rfl, rfl, h2⟩
    obtain ⟨v, hv, hr⟩ := results_run hrv h1 g' e'
    refine ⟨d', v, hv, v, rfl, ?_⟩
    rcases h2 with rfl | ⟨h3, h4, h5, h6⟩
    · exact ⟨M', ν', g', l', hr⟩
    · generalize σ'.length = m at *
      subst h4
      exact ⟨M', ν', g'.take h6, l'.take h3, hr.take h5⟩
  cases e with
  | normal => exact fin hk
  | exit id => exact hk.elim
  | ret => exact fin hk
end
end Go.Ab
namespace Go.Ab
open Go
inductive Fr where
  | seq (b : ACode)
  | block (id : Nat)
  | after (g : Ghost)
  | loop (I : Env → St → Prop) (clr : List Tmp)
abbrev Bs := AExit → Env → St → Prop
def kk (P : Program) (n0 : Nat) : List Fr → Bs → Bs
  | [], B => B
  | .seq b :: k, B => fun e env σ => match e with
      | .normal => ax P n0 b (kk P n0 k B) env σ
      | e => kk P n0 k B e env σ
  | .block id :: k, B => fun e env σ => match e with
      | .exit j => if j = id then kk P n0 k B .normal env σ else kk P n0 k B (.exit j) env σ
      | e => kk P n0 k B e env σ
  | .after g :: k, B => fun e env σ => match e with
      | .normal => gh n0 g env σ (kk P n0 k B .normal)
      | e => kk P n0 k B e env σ
  | .loop I clr :: k, B => fun e env σ => match e with
      | .normal => I (clearA env clr) σ
      | e => kk P n0 k B e env σ
section
variable (P : Program) (n0 : Nat)
def R (x : ACode) (k : List Fr) (B : Bs) (env : Env) (σ : St) : Prop := ax P n0 x (kk P n0 k B) env σ
def N (k : List Fr) (B : Bs) (env : Env) (σ : St) : Prop := kk P n0 k B .normal env σ
def X (id : Nat) (k : List Fr) (B : Bs) (env : Env) (σ : St) : Prop := kk P n0 k B (.exit id) env σ
def T (k : List Fr) (B : Bs) (env : Env) (σ : St) : Prop := kk P n0 k B .ret env σ
def O (l : List AOper) (k : List Fr) (B : Bs) (env : Env) (σ : St) : Prop := axops P (fun env σ => N P n0 k B env σ) l env σ
def D (l : List DOper) (k : List Fr) (B : Bs) (env : Env) (S : List St) (σ : St) (ob : List St → Prop) : Prop := axd P (fun env σ => N P n0 k B env σ) l env S σ ob
def C (t : Bool) (x y : ACode) (k : List Fr) (B : Bs) (env : Env) (σ : St) : Prop := if t then R P n0 x k B env σ else R P n0 y k B env σ
def L (clr : List Tmp) (x : ACode) (k : List Fr) (B : Bs) (env : Env) (σ : St) : Prop := LoopP (fun I env σ => R P n0 x (.loop I clr :: k) B env σ) env σ
def G (g : Ghost) (env : Env) (σ : St) (x : ACode) (k : List Fr) (B : Bs) : Prop := gh n0 g env σ fun env σ => R P n0 x k B env σ
def OG (w : Bool) (d : Option Tmp) (op : AOp) (l : List AOper) (k : List Fr) (B : Bs) (env : Env) (σ : St) : Prop :=
  if w then O P n0 (⟨d, none, op⟩ :: l) k B env σ else O P n0 l k B (putA env d (.tup [])) σ
def DG (w : Bool) (d : Option Tmp) (op : AOp) (bef : List Nat) (eff : Bool) (lo hi : Nat) (l : List DOper) (k : List Fr) (B : Bs) (env : Env) (S : List St) (σ : St) (ob : List St → Prop) : Prop :=
  if w then D P n0 (⟨⟨d, none, op⟩, bef, eff, lo, hi⟩ :: l) k B env S σ ob else D P n0 l k B (putA env d (.tup [])) (if eff then S ++ [σ] else S) σ ob
def CO (f : FuncId) (args : List AV) (d : Option Tmp) (l : List AOper) (k : List Fr) (B : Bs) (env : Env) (σ : St) : Prop :=
  ∃ r σ', Ans P f args σ r σ' ∧ O P n0 l k B (putA env d r) σ'
def CD (f : FuncId) (args : List AV) (d : Option Tmp) (l : List DOper) (k : List Fr) (B : Bs) (env : Env) (S : List St) (σ : St) (ob : List St → Prop) : Prop :=
  ∃ r σ', Ans P f args σ r σ' ∧ D P n0 l k B (putA env d r) (S ++ [σ']) σ' ob
section
variable {P n0} {k : List Fr} {B : Bs} {env : Env} {σ : St} {S : List St} {ob : List St → Prop}
theorem R_seq (a b : ACode) : R P n0 (.seq a b) k B env σ = R P n0 a (.seq b :: k) B env σ := by
  unfold R; simp only [ax]; rfl
theorem R_skip : R P n0 .skip k B env σ = N P n0 k B env σ := rfl
theorem R_ret : R P n0 .ret k B env σ = T P n0 k B env σ := rfl
theorem R_exit (id : Nat) : R P n0 (.exit id) k B env σ = X P n0 id k B env σ := rfl
theorem R_ops (l : List AOper) : R P n0 (.ops l) k B env σ = O P n0 l k B env σ := rfl
theorem R_draw (l : List DOper) : R P n0 (.draw l) k B env σ = D P n0 l k B env [σ] σ (fun _ => True) := rfl
theorem R_block (id : Nat) (a : ACode) : R P n0 (.block id a) k B env σ = R P n0 a (.block id :: k) B env σ := by
  unfold R; simp only [ax]; rfl
theorem R_after (a : ACode) (g : Ghost) : R P n0 (.after a g) k B env σ = R P n0 a (.after g :: k) B env σ := by
  unfold R; simp only [ax]; rfl
theorem R_ghost (a : ACode) (g : Ghost) : R P n0 (.ghost g a) k B env σ = G P n0 g env σ a k B := rfl
theorem R_cond (c : Operand) (a b : ACode) : R P n0 (.cond c a b) k B env σ = (match boolA (aev env c) with
    | some t => C P n0 t a b k B env σ
    | none => False) := by
  unfold R; simp only [ax]; cases boolA (aev env c) with
  | none => rfl
  | some t => cases t <;> rfl
theorem R_loop (clr : List Tmp) (a : ACode) : R P n0 (.loop clr a) k B env σ = L P n0 clr a k B (clearA env clr) σ := by
  unfold R L; simp only [ax]
  rfl
theorem N_seq (b : ACode) : N P n0 (.seq b :: k) B env σ = R P n0 b k B env σ := rfl
theorem N_block (id : Nat) : N P n0 (.block id :: k) B env σ = N P n0 k B env σ := rfl
theorem N_after (g : Ghost) : N P n0 (.after g :: k) B env σ = G P n0 g env σ .skip k B := rfl
theorem N_loop (I : Env → St → Prop) (clr : List Tmp) : N P n0 (.loop I clr :: k) B env σ = I (clearA env clr) σ := rfl
theorem N_nil : N P n0 [] B env σ = B .normal env σ := rfl
theorem X_seq (id : Nat) (b : ACode) : X P n0 id (.seq b :: k) B env σ = X P n0 id k B env σ := rfl
theorem X_after (id : Nat) (g : Ghost) : X P n0 id (.after g :: k) B env σ = X P n0 id k B env σ := rfl
theorem X_loop (id : Nat) (I : Env → St → Prop) (clr : List Tmp) : X P n0 id (.loop I clr :: k) B env σ = X P n0 id k B env σ := rfl
theorem X_block (id j : Nat) : X P n0 id (.block j :: k) B env σ = if id = j then N P n0 k B env σ else X P n0 id k B env σ := rfl
theorem T_seq (b : ACode) : T P n0 (.seq b :: k) B env σ = T P n0 k B env σ := rfl
theorem T_block (id : Nat) : T P n0 (.block id :: k) B env σ = T P n0 k B env σ := rfl
theorem T_after (g : Ghost) : T P n0 (.after g :: k) B env σ = T P n0 k B env σ := rfl
theorem T_loop (I : Env → St → Prop) (clr : List Tmp) : T P n0 (.loop I clr :: k) B env σ = T P n0 k B env σ := rfl
theorem T_nil : T P n0 [] B env σ = B .ret env σ := rfl
theorem C_true (x y : ACode) : C P n0 true x y k B env σ = R P n0 x k B env σ := rfl
theorem C_false (x y : ACode) : C P n0 false x y k B env σ = R P n0 y k B env σ := rfl
theorem O_nil : O P n0 [] k B env σ = N P n0 k B env σ := rfl
theorem O_prim (d : Option Tmp) (ao : AO) (l : List AOper) : O P n0 (⟨d, none, .prim ao⟩ :: l) k B env σ = (match aop (aev env) σ ao with
    | some (r, σ') => O P n0 l k B (putA env d r) σ'
    | none => False) := rfl
theorem O_fresh (t : Option Tmp) (n d : Nat) (x : Operand) (l : List AOper) : O P n0 (⟨t, none, .fresh n d x⟩ :: l) k B env σ =
    if d < env.length ∧ (aev env x).okc ∧ (aev env x).cells.length = n then O P n0 l k B (putA env t (.rp (aev env x).cells)) σ else False := rfl
theorem O_guard (d : Option Tmp) (t : Tmp) (w : Bool) (op : AOp) (l : List AOper) : O P n0 (⟨d, some (t, w), op⟩ :: l) k B env σ = (match wantA env (some (t, w)) with
    | some b => OG P n0 b d op l k B env σ
    | none => False) := by
  unfold O; simp only [axops]; cases wantA env (some (t, w)) with
  | none => rfl
  | some b => cases b <;> rfl
theorem OG_true (d : Option Tmp) (op : AOp) (l : List AOper) : OG P n0 true d op l k B env σ = O P n0 (⟨d, none, op⟩ :: l) k B env σ := rfl
theorem OG_false (d : Option Tmp) (op : AOp) (l : List AOper) : OG P n0 false d op l k B env σ = O P n0 l k B (putA env d (.tup [])) σ := rfl
theorem O_call (d : Option Tmp) (f : Operand) (args : List Operand) (l : List AOper) : O P n0 (⟨d, none, .call f args⟩ :: l) k B env σ = (match aev env f with
    | .fn g fs cs => CO P n0 g (fs ++ args.map (aev env) ++ cs) d l k B env σ
    | _ => False) := rfl
theorem CO.intro {f : FuncId} {args : List AV} {d : Option Tmp} {l : List AOper} {r : AV} {σ' : St} (h : Ans P f args σ r σ') (h' : O P n0 l k B (putA env d r) σ') : CO P n0 f args d l k B env σ := ⟨r, σ', h, h'⟩
theorem D_nil : D P n0 [] k B env S σ ob = (ob S ∧ N P n0 k B env σ) := rfl
theorem D_eff (d : Option Tmp) (ao : AO) (bef : List Nat) (lo hi : Nat) (l : List DOper) : D P n0 (⟨⟨d, none, .prim ao⟩, bef, true, lo, hi⟩ :: l) k B env S σ ob = (match aop (aev env) σ ao with
    | some (r, σ') => D P n0 l k B (putA env d r) (S ++ [σ']) σ' ob
    | none => False) := rfl
theorem D_stay (d : Option Tmp) (ao : AO) (bef : List Nat) (lo hi : Nat) (l : List DOper) : D P n0 (⟨⟨d, none, .prim ao⟩, bef, false, lo, hi⟩ :: l) k B env S σ ob = (match aop (aev env) σ ao with
    | some (r, σ') => σ' = σ ∧ D P n0 l k B (putA env d r) S σ (fun T => ob T ∧ ∀ s ∈ (T.take (hi + 1)).drop lo, aop (aev env) s ao = some (r, s))
    | none => False) := by
  unfold D
  simp only [axd, wantA, Bool.false_eq_true, if_false, stay]
  cases h : aop (aev env) σ ao with
  | none => simp
  | some x =>
    obtain ⟨r, σ'⟩ := x
    simp only [Option.some.injEq, Prod.mk.injEq]
    apply propext
    constructor
    · rintro ⟨r', ⟨rfl, rfl⟩, h2⟩; exact ⟨rfl, h2⟩
    · rintro ⟨rfl, h2⟩; exact ⟨r, ⟨rfl, rfl⟩, h2⟩
theorem D_flo (d : Option Tmp) (n : Nat) (bef : List Nat) (lo hi : Nat) (l : List DOper) : D P n0 (⟨⟨d, none, .flo n⟩, bef, false, lo, hi⟩ :: l) k B env S σ ob =
    D P n0 l k B (putA env d .any) S σ (fun T => ob T ∧ ∀ s ∈ (T.take (hi + 1)).drop lo, True) := by
  unfold D
  simp only [axd, wantA, Bool.false_eq_true, if_false, stay]
  apply propext
  constructor
  · rintro ⟨r, rfl, h⟩; simpa using h
  · intro h; exact ⟨.any, rfl, by simpa using h⟩
theorem D_adopt (t : Option Tmp) (own : Bool) (d n : Nat) (x : Operand) (bef : List Nat) (lo hi : Nat) (l : List DOper) : D P n0 (⟨⟨t, none, .adopt own d n x⟩, bef, true, lo, hi⟩ :: l) k B env S σ ob =
    if d < env.length ∧ (aev env x).okc ∧ (aev env x).cells.length = n then
      D P n0 l k B (putA env t (if own then .ptr σ.length 0 else .rp (aev env x).cells)) (S ++ [if own then σ ++ [.box (aev env x).cells] else σ]) (if own then σ ++ [.box (aev env x).cells] else σ) ob else False := by
  unfold D
  simp only [axd, wantA, if_true, axop]
  split
  · cases own <;> rfl
  · rfl
theorem D_guard (d : Option Tmp) (t : Tmp) (w : Bool) (op : AOp) (bef : List Nat) (eff : Bool) (lo hi : Nat) (l : List DOper) : D P n0 (⟨⟨d, some (t, w), op⟩, bef, eff, lo, hi⟩ :: l) k B env S σ ob =
    (match wantA env (some (t, w)) with
    | some b => DG P n0 b d op bef eff lo hi l k B env S σ ob
    | none => False) := by
  unfold D; simp only [axd]; cases wantA env (some (t, w)) with
  | none => rfl
  | some b => cases b <;> rfl
theorem DG_true (d : Option Tmp) (op : AOp) (bef : List Nat) (eff : Bool) (lo hi : Nat) (l : List DOper) : DG P n0 true d op bef eff lo hi l k B env S σ ob = D P n0 (⟨⟨d, none, op⟩, bef, eff, lo, hi⟩ :: l) k B env S σ ob := rfl
theorem DG_false (d : Option Tmp) (op : AOp) (bef : List Nat) (eff : Bool) (lo hi : Nat) (l : List DOper) : DG P n0 false d op bef eff lo hi l k B env S σ ob = D P n0 l k B (putA env d (.tup [])) (if eff then S ++ [σ] else S) σ ob := rfl
theorem D_call (d : Option Tmp) (f : Operand) (args : List Operand) (bef : List Nat) (lo hi : Nat) (l : List DOper) : D P n0 (⟨⟨d, none, .call f args⟩, bef, true, lo, hi⟩ :: l) k B env S σ ob = (match aev env f with
    | .fn g fs cs => CD P n0 g (fs ++ args.map (aev env) ++ cs) d l k B env S σ ob
    | _ => False) := by
  unfold D CD; simp only [axd, wantA, if_true, axop]
  cases aev env f <;> rfl
theorem CD.intro {f : FuncId} {args : List AV} {d : Option Tmp} {l : List DOper} {r : AV} {σ' : St} (h : Ans P f args σ r σ') (h' : D P n0 l k B (putA env d r) (S ++ [σ']) σ' ob) : CD P n0 f args d l k B env S σ ob := ⟨r, σ', h, h'⟩
theorem put_some (d : Tmp) (r : AV) : putA env (some d) r = env.set d r := rfl
theorem put_none (r : AV) : putA env none r = env := rfl
theorem L.intro {α : Type} (m : α → Nat) (E : α → Env) (Z : α → St) {clr : List Tmp} {x : ACode}
    (h : ∀ (a : α) (I : Env → St → Prop), (∀ a', m a' < m a → I (E a') (Z a')) → R P n0 x (.loop I clr :: k) B (E a) (Z a)) (a : α) (he : env = E a) (hs : σ = Z a) : L P n0 clr x k B env σ := by
  subst he; subst hs
  intro I hI
  have key : ∀ n a, m a = n → I (E a) (Z a) := by
    intro n
    induction n using Nat.strongRecOn with
    | ind n ih =>
      intro a ha
      exact hI _ _ (h a I fun a' ha' => ih (m a') (ha ▸ ha') a' rfl)
  exact key _ a rfl
theorem L.count (n : Nat) (E : Nat → Env) (Z : Nat → St) {clr : List Tmp} {x : ACode}
    (h : ∀ i, i < n → ∀ I : Env → St → Prop, I (E (i + 1)) (Z (i + 1)) → R P n0 x (.loop I clr :: k) B (E i) (Z i))
    (h' : ∀ I : Env → St → Prop, R P n0 x (.loop I clr :: k) B (E n) (Z n)) (he : env = E 0) (hs : σ = Z 0) : L P n0 clr x k B env σ := by
  refine L.intro (α := { i : Nat // i ≤ n }) (fun i => n - i.1) (fun i => E i.1) (fun i => Z i.1) (fun ⟨i, hi⟩ I hI => ?_) ⟨0, Nat.zero_le _⟩ he hs
  by_cases hlt : i < n
  · exact h i hlt I (hI ⟨i + 1, hlt⟩ (by simp only; omega))
  · have : i = n := by omega
    subst this
    exact h' I
theorem Rep.bel {M : Nat → Prop} {ν : Nat → Value} {w : World} {x : AV} {v : Value} (h : Rep M (RefOK σ ν) w x v) : Bel σ.length x := by
  have key : ∀ l, (σ[l]?).isSome → l < σ.length := fun l h => by
    obtain ⟨o, ho⟩ := Option.isSome_iff_exists.1 h
    exact (List.getElem?_eq_some_iff.1 ho).1
  have cells : ∀ x : AV, (∀ j (hj : j < x.cells.length), Bel σ.length (x.cells[j])) → Bel σ.length x := by
    intro x hx
    cases x with
    | agg cs => exact .agg cs hx
    | _ => exact hx 0 (by simp [AV.cells])
  induction h with
  | any v => exact .any
  | pl v => exact .pl v
  | nils => exact .nils
  | sl0 sz a cap => exact .sl sz [] (fun j hj => by simp at hj)
  | sl sz xs b o cap f hcap hc _ ih => exact .sl sz xs fun i hi => cells _ fun j hj => ih i j hi hj
  | rp cs b o f hc _ ih => exact .rp cs ih
  | ptr l off b o h =>
    refine .ptr l off (key l ?_)
    simp only [RefOK] at h
    cases hh : σ[l]? with
    | none => simp [hh] at h
    | some o => rfl
  | osl l n a len cap h =>
    refine .osl l n (key l ?_)
    simp only [RefOK] at h
    cases hh : σ[l]? with
    | none => simp [hh] at h
    | some o => rfl
  | ep l n i off b o h =>
    refine .ep l n i off (key l ?_)
    simp only [RefOK] at h
    cases hh : σ[l]? with
    | none => simp [hh] at h
    | some o => rfl
  | psl l off n b o h =>
    refine .psl l off n (key l ?_)
    simp only [RefOK] at h
    cases hh : σ[l]? with
    | none => simp [hh] at h
    | some o => rfl
  | zsl a => exact .zsl
  | win sz l n lo b o cap hl0 h =>
    refine .win sz l n lo (key l ?_)
    simp only [RefOK] at h
    cases hh : σ[l]? with
    | none => simp [hh] at h
    | some o => rfl
  | agg cs vs hl _ ih => exact .agg cs fun j hj => ih j hj (by omega)
  | tup cs vs hl _ ih => exact .tup cs fun j hj => ih j hj (by omega)
  | fn g fs cs us vs hl hl' _ _ ih ih' => exact .fn g fs cs (fun j hj => ih j hj (by omega)) (fun j hj => ih' j hj (by omega))
theorem ObOK.bel {M : Nat → Prop} {ν : Nat → Value} {w : World} {o : Ob} {v : Value} (h : ObOK M (RefOK σ ν) w o v) : BelO σ.length o := by
  cases h with
  | dead => trivial
  | box cs b o c e fr hM hh hs hf hr =>
    intro x hx
    obtain ⟨j, hj, rfl⟩ := List.getElem_of_mem hx
    exact (hr j hj c[o + j] (by simp [show o + j < c.size by omega])).bel
  | glo g vs v hv2 hv3 hc => trivial
  | row0 => intro x hx; cases hx
  | row sz xs b o cap c e fr hM hh hlen hs hf hr =>
    intro x hx
    obtain ⟨i, hi, rfl⟩ := List.getElem_of_mem hx
    have cells : ∀ x : AV, (∀ j (hj : j < x.cells.length), Bel σ.length (x.cells[j])) → Bel σ.length x := by
      intro x hx
      cases x with
      | agg cs => exact .agg cs hx
      | _ => exact hx 0 (by simp [AV.cells])
    refine cells _ fun j hj => ?_
    obtain ⟨q1, q2⟩ := hr i j hi hj
    have := idx_lt (i := i) (k := cap) (by omega) q1
    exact (q2 c[o + (i * sz + j)] (by simp [show o + (i * sz + j) < c.size by omega])).bel
theorem Good.bel {M : Nat → Prop} {ν : Nat → Value} {w : World} (g : Good M σ ν w) : ∀ o ∈ σ, BelO σ.length o := by
  intro o ho
  obtain ⟨l, hl⟩ := List.mem_iff_getElem?.1 ho
  exact (g.ob l o hl).bel
theorem Ans.of_run {f : FuncId} {own : List Tmp} {x : ACode} {rvs : List RV} {n : Nat} {args : List AV} {r : AV} {σ' : St} (ht : Text P f own x rvs n)
    (h : R P σ.length x [] (Fini σ.length rvs r σ') (args ++ List.replicate (n - args.length) .any) σ) : Ans P f args σ r σ' := Ans.of_ax ht h
theorem Ans.of_run' {f : FuncId} {own : List Tmp} {x : ACode} {rvs : List RV} {n : Nat} {args : List AV} {r : AV} {σ' : St} (ht : Text P f own x rvs n)
    (h : (∀ o ∈ σ, BelO σ.length o) → (∀ x ∈ args, Bel σ.length x) → R P σ.length x [] (Fini σ.length rvs r σ') (args ++ List.replicate (n - args.length) .any) σ) : Ans P f args σ r σ' := by
  intro M ν w vs g hvs
  refine Ans.of_ax ht (h g.bel (fun x hx => ?_)) M ν w vs g hvs
  obtain ⟨j, hj, rfl⟩ := List.getElem_of_mem hx
  exact (hvs.2 j hj (by have := hvs.1; omega)).bel
theorem Fini.ret {m : Nat} {rvs : List RV} {r : AV} (h : resA env σ rvs = some r) : Fini m rvs r σ .ret env σ := ⟨r, σ, h, rfl, rfl, .inl rfl⟩
theorem Fini.normal {m : Nat} {rvs : List RV} {r : AV} (h : resA env σ rvs = some r) : Fini m rvs r σ .normal env σ := ⟨r, σ, h, rfl, rfl, .inl rfl⟩
theorem bel_set {m l : Nat} {o : Ob} (h : ∀ o ∈ σ, BelO m o) (ho : BelO m o) : ∀ x ∈ σ.set l o, BelO m x := by
  intro x hx
  rcases List.mem_or_eq_of_mem_set hx with h' | h'
  · exact h x h'
  · rw [h']; exact ho
def mkE (n : Nat) (l : List (Nat × AV)) : Env := l.foldl (fun e p => e.set p.1 p.2) (List.replicate n .any)
end
end
attribute [irreducible] R N X T O D C L G OG DG CO CD
end Go.Ab
